/- Merged. -/
import Derived.Test.YtechdefolfboeaaGreatDoorPo8
import Derived.Test.YtechdefolfboeaaGreatDoorPo9
import Derived.Test.YtechdefolfboeaaGreatDoorPo10
import Derived.Test.YtechdefolfboeaaGreatDoorPo11
set_option linter.unusedVariables false
set_option linter.unusedSimpArgs false
set_option maxRecDepth 100000
set_option maxHeartbeats 2000000
namespace Go.Proofs.YtechdefolfboeaaGreatDoor
open Go.RowKit B
def Sp (w:World):Prop:= ∀ c:Nat,c<256→w.cell? ⟨0,c,none⟩=some (.int .u8 (if Lib.isSp (UInt8.ofNat c) then 1 else 0))
theorem Sp.below {w w':World} (h:Sp w) (k:Below w.heap.size w w'):Sp w':=fun c hc=>(k.cell (p:=⟨0,c,none⟩) (World.block_lt_of_cell? w ⟨0,c,none⟩ (h c hc))).trans (h c hc)
def clsI (c:Int):Int:=if letB c then 1 else if digB c then 2 else if c=45∨c=95 then 3 else 0
theorem clsI_odd (c:Int):(clsI c !=0)=moreB c:=by
 unfold clsI moreB
 cases letB c with
 |true=>rfl
 |false=>
  cases digB c with
  |true=>rfl
  |false=>
   by_cases h:c=45∨c=95
   ·rcases h with rfl|rfl<;>decide
   ·have h1:c≠45:=fun e=>h (.inl e);have h2:c≠95:=fun e=>h (.inr e);simp [h,h1,h2]
theorem clsI_let (c:Int):(clsI c !=1)= !letB c:=by
 unfold clsI
 cases letB c with
 |true=>rfl
 |false=>
  cases digB c with
  |true=>rfl
  |false=>by_cases h:c=45∨c=95<;>simp [h]
theorem lclass_any (c:Int) (w:World):Calls Tryz.prog 228 #[.int .u8 c] w fun e w'=>e= .returned (.int .i64 (clsI c))∧w=w':=by
 have key: ∀ (b1 b2 b3 b4 b5 b6:Bool),decide (97≤c)=b1→decide (c≤122)=b2→decide (48≤c)=b3→decide (c≤57)=b4→(c==45)=b5→(c==95)=b6→
  Calls Tryz.prog 228 #[.int .u8 c] w fun e w'=>e= .returned (.int .i64 (if(b1&&b2) then 1 else if(b3&&b4) then 2 else if(b5||b6) then 3 else 0))∧w=w':=by
  intro b1 b2 b3 b4 b5 b6 h1 h2 h3 h4 h5 h6
  cases b1<;>cases b2<;>cases b3<;>cases b4<;>cases b5<;>cases b6<;>
   (go_enter Tryz.func228,Tryz.ntmps228
    go_wp2
    go_returns;exact⟨rfl,rfl⟩)
 refine(key _ _ _ _ _ _ rfl rfl rfl rfl rfl rfl).mono ?_;rintro e w' ⟨rfl,rfl⟩;refine⟨?_,rfl⟩;unfold clsI letB digB;by_cases h:c=45∨c=95<;>simp_all
theorem lnamec_any (x:Int) (w:World):Calls Tryz.prog 231 #[.int .i64 x] w fun e w'=>e= .returned (.bool (x !=0))∧w=w':=by
 go_enter Tryz.func231,Tryz.ntmps231
 go_wp2
 go_returns;exact⟨rfl,rfl⟩
def runN:List UInt8→Nat
 |[]=>0
 |b::l=>if moreB (b.toNat:Int) then runN l+1 else 0
theorem runN_le: ∀ l:List UInt8,runN l≤l.length
 |[]=>Nat.le_refl _
 |b::l=>by have:=runN_le l;unfold runN;split<;>simp;omega
theorem runN_stop: ∀ (l:List UInt8) (i:Nat) (b:UInt8),l[i]?=some b→i≤runN l→moreB (b.toNat:Int)=false→runN l=i
 |[],i,b,h,_,_=>by simp at h
 |y::l,0,b,h,hi,hb=>by simp at h;subst h;unfold runN;rw [hb];rfl
 |y::l,i+1,b,h,hi,hb=>by
  unfold runN at hi ⊢;split
  ·rename_i h1;rw [if_pos h1] at hi;rw [runN_stop l i b (by simpa using h) (by omega) hb]
  ·rename_i h1;rw [if_neg h1] at hi;omega
theorem runN_go: ∀ (l:List UInt8) (i:Nat) (b:UInt8),l[i]?=some b→i≤runN l→moreB (b.toNat:Int)=true→i+1≤runN l
 |[],i,b,h,_,_=>by simp at h
 |y::l,0,b,h,hi,hb=>by simp at h;subst h;unfold runN;rw [if_pos hb];omega
 |y::l,i+1,b,h,hi,hb=>by
  unfold runN at hi ⊢;split
  ·rename_i h1;rw [if_pos h1] at hi;have:=runN_go l i b (by simpa using h) (by omega) hb;omega
  ·rename_i h1;rw [if_neg h1] at hi;omega
theorem runN_all: ∀ l:List UInt8,decide (runN l=l.length)=l.all fun b=>moreB (b.toNat:Int)
 |[]=>rfl
 |b::l=>by
  have:=runN_all l;unfold runN;rw [List.all_cons]
  cases h:moreB (b.toNat:Int) with
  |true=>rw [if_pos rfl,Bool.true_and,←this];simp
  |false=>simp
theorem lrun_any (s:Str) (w:World) (hs:s.size≤100):Calls Tryz.prog 230 #[.string s,.func (.func 231) #[] #[]] w fun e w'=>e= .returned (.int .i64 (runN s.data.toList:Nat))∧w=w':=by
 go_enter Tryz.func230,Tryz.ntmps230;go_wp2_with fail;go_loopw [5] (fun iv wr=> ∃ k:Nat,k≤s.size∧iv= .int .i64 k∧Hid (k≤runN s.data.toList)∧w=wr) (fun iv _=>s.size-(intOf iv).toNat)
 case atStart=>exact⟨0,Nat.zero_le _,rfl,Nat.zero_le _,rfl⟩
 case round=>
  obtain⟨k,hk,rfl,hp,rfl⟩:=hrel;by_cases hks:k<s.size
  ·have hkI:(k:Int)<(s.size:Int):=by omega
   have hat:=str_at s k hks;obtain⟨a,ha⟩: ∃ q,moreB ((s[k]'hks).toNat :Int)=q:=⟨_,rfl⟩
   have haH:=H_ ha
   cases a with
   |false=>
    have hfin:=H_ (runN_stop _ k _ hat hp.out ha);clear hat ha;go_wp2_with fail;refine(lclass_any _ _).mono ?_;rintro e w' ⟨rfl,rfl⟩;go_wp2_with fail;refine(lnamec_any _ _).mono ?_;rintro e w' ⟨rfl,rfl⟩;rw [clsI_odd,haH.out];go_wp2_with fail;go_returns;exact⟨by rw [hfin.out]<;>rfl,rfl⟩
   |true=>
    have hnx:=H_ (runN_go _ k _ hat hp.out ha);clear hat ha;go_wp2_with fail;refine(lclass_any _ _).mono ?_;rintro e w' ⟨rfl,rfl⟩;go_wp2_with fail;refine(lnamec_any _ _).mono ?_;rintro e w' ⟨rfl,rfl⟩;rw [clsI_odd,haH.out];go_wp2_with fail;go_roundw
    case rel=>exact⟨k+1,by omega,by go_num,hnx,trivial⟩
    case measure=>simp [intOf];omega
  ·have hfin:Hid (runN s.data.toList=k):=by
    have:=runN_le s.data.toList;have h2:s.data.toList.length=s.size:=by simp
    have:=hp.out;show _=_;omega
   go_wp2_with fail;go_returns;exact⟨by rw [hfin.out]<;>rfl,rfl⟩
theorem sq_comm (x s:Str):sq x s=sq s x:=by unfold sq;exact Bool.beq_comm
theorem ixStr_any (A:Option Addr) (n c:Nat) (l:List Str) (s:Str) (w:World) (hr:Rd w 1 strE A n l) (hn:n≤1099511627776):
 Calls Tryz.prog 235 #[.slice A n c,.string s] w fun e w'=>e= .returned (.int .i64 (placeI l s))∧w=w':=by
 have hrH:=H_ hr;have hl:=H_ hr.len;clear hr;go_enter Tryz.func235,Tryz.ntmps235;go_wp2_with fail;go_loopw [8] (fun iv wr=> ∃ i:Nat,i≤n∧iv= .int .i64 i∧Hid (i≤placeN s l)∧w=wr) (fun iv _=>n-(intOf iv).toNat)
 case atStart=>exact⟨0,Nat.zero_le _,rfl,Nat.zero_le _,rfl⟩
 case round=>
  obtain⟨i,hi,rfl,hp,rfl⟩:=hrel;by_cases hin:i<n
  ·have hinI:(i:Int)<(n:Int):=by omega
   obtain⟨b,o,x,rfl,hb0,hx,g0⟩:=hrH.out.str hin
   cases hq:sq x s with
   |true=>
    have he:=placeN_stop s l i x hx hp.out hq;have hres:Hid (placeI l s=(i:Int)):=by show _=_;unfold placeI;rw [he,if_pos (by rw [hl.out];exact hin)]
    rw [sq_comm] at hq;unfold sq at hq;clear he hx hp;go_wp2_with fail;go_returns;exact⟨by rw [hres.out];rfl,rfl⟩
   |false=>
    have hnx:Hid (i+1≤placeN s l):=placeN_go s l i x hx hp.out hq;rw [sq_comm] at hq;unfold sq at hq;clear hx hp;go_wp2_with fail;go_roundw
    case rel=>exact⟨i+1,by omega,by go_num,hnx,trivial⟩
    case measure=>simp [intOf];omega
  ·obtain rfl:i=n:=by omega
   have hres:Hid (placeI l s= -1):=by show _=_;unfold placeI;rw [if_neg (by have:=hp.out;have:=placeN_le s l;rw [hl.out] at*;omega)]
   clear hp;go_wp2_with fail;go_returns;exact⟨by rw [hres.out];rfl,rfl⟩
theorem placeI_ge (l:List Str) (s:Str):decide (placeI l s≥0)=l.any (sq · s):=by
 have:=placeI_nonneg (l:=l) (s:=s);by_cases h:0≤placeI l s
 ·rw [this.1 h];exact T_ h
 ·cases hq:l.any (sq · s) with
  |true=>exact absurd (this.2 hq) h
  |false=>exact F_ h
theorem ctStr_any (A:Option Addr) (n c:Nat) (l:List Str) (s:Str) (w:World) (hr:Rd w 1 strE A n l) (hn:n≤1099511627776):
 Calls Tryz.prog 246 #[.slice A n c,.string s] w fun e w'=>e= .returned (.bool (l.any (sq · s)))∧w=w':=by
 have h:=H_ (ixStr_any A n c l s w hr hn);have hg:=H_ (placeI_ge l s);clear hr;go_enter Tryz.func246,Tryz.ntmps246;go_wp2_with fail;refine h.out.mono ?_;rintro e w' ⟨rfl,rfl⟩;obtain⟨q,hq⟩: ∃ q,placeI l s=q:=⟨_,rfl⟩
 rw [hq] at hg ⊢;go_wp2_with fail;go_returns;exact⟨ret_bool hg.out,rfl⟩
theorem resv_fields:(Lib.fields [104,111,114,105,122,111,110,32,115,116,111,112,32,112,97,116,104,32,100,111,111,114,32,114,111,117,116,101,32,116,114,105,112,32,104,97,122,97,114,100,32,102,114,111,109,32,101,118,101,114,121,32,111,112,101,110,32,99,108,111,115,101,100,32,111,102,32,111,110,32,117,110,116,105,108,32,115,116,97,121]).map (fun l=>Value.string ⟨l.toArray⟩)=resv.flatMap strE:=by rfl
set_option maxRecDepth 100000 in
theorem lresv_any (s:Str) (w:World) (hsp:Sp w):Calls Tryz.prog 229 #[.string s] w fun e w'=>e= .returned (.bool (resB s))∧Below w.heap.size w w':=by
 have hF:=Any.strings_Fields_core fieldsL (by kernel_rfl) ⟨#[104,111,114,105,122,111,110,32,115,116,111,112,32,112,97,116,104,32,100,111,111,114,32,114,111,117,116,101,32,116,114,105,112,32,104,97,122,97,114,100,32,102,114,111,109,32,101,118,101,114,121,32,111,112,101,110,32,99,108,111,115,101,100,32,111,102,32,111,110,32,117,110,116,105,108,32,115,116,97,121]⟩ w (by decide) (fun j b h=>(by decide: ∀ b∈([104,111,114,105,122,111,110,32,115,116,111,112,32,112,97,116,104,32,100,111,111,114,32,114,111,117,116,101,32,116,114,105,112,32,104,97,122,97,114,100,32,102,114,111,109,32,101,118,101,114,121,32,111,112,101,110,32,99,108,111,115,101,100,32,111,102,32,111,110,32,117,110,116,105,108,32,115,116,97,121]:List UInt8),b.toNat<128) b (List.mem_of_getElem? h)) hsp
 have hF':Calls Tryz.prog 247 #[.string ⟨#[104,111,114,105,122,111,110,32,115,116,111,112,32,112,97,116,104,32,100,111,111,114,32,114,111,117,116,101,32,116,114,105,112,32,104,97,122,97,114,100,32,102,114,111,109,32,101,118,101,114,121,32,111,112,101,110,32,99,108,111,115,101,100,32,111,102,32,111,110,32,117,110,116,105,108,32,115,116,97,121]⟩] w fun e w'=>e= .returned (.slice (some ⟨w.heap.size,0,none⟩) 15 15)∧w'=w.alloc (.cells (resv.flatMap strE).toArray 9):=by
  rw [←resv_fields];exact hF
 have hFH:=H_ hF';have hb1:Hid (Below w.heap.size w (w.alloc (.cells (resv.flatMap strE).toArray 9))):=(Below.refl _ w).alloc (Nat.le_refl _) _;have hR0:=H_ (Rd.lit w 1 strE strE_len 9 resv);obtain⟨w1,hw1⟩: ∃ q,w.alloc (.cells (resv.flatMap strE).toArray 9)=q:=⟨_,rfl⟩
 rw [hw1] at hb1 hR0 hFH;clear hF hF' hw1 hsp;go_enter Tryz.func229,Tryz.ntmps229;go_wp2_with fail;refine hFH.out.mono ?_;rintro e w' ⟨rfl,rfl⟩;go_wp2_with fail;refine(ctStr_any _ 15 15 resv s _ hR0.out (by omega)).mono ?_;rintro e w' ⟨rfl,rfl⟩;go_wp2_with fail;go_returns;exact⟨rfl,hb1.out⟩
theorem lname_any (s:Str) (w:World) (hsp:Sp w):Calls Tryz.prog 166 #[.string s] w fun e w'=>e= .returned (.bool (nameB s))∧Below w.heap.size w w':=by
 have hrs:=H_ (fun w (h:Sp w)=>lresv_any s w h);have hspH:=H_ hsp;have hl:s.data.toList.length=s.size:=by simp
 by_cases h0:s.size=0
 ·have e0:s.toList.isEmpty=true:=by rw [Lib.toList_data,List.isEmpty_iff,←List.length_eq_zero_iff,hl,h0]
  have hw:Hid (nameB s=false):=by show _=_;unfold nameB wordB;simp [h0]
  rw [hw.out];clear h0 hl;go_enter Tryz.func166,Tryz.ntmps166;go_wp2_with fail;go_returns;exact⟨rfl,Below.refl _ _⟩
 have e0:s.toList.isEmpty=false:=by
  rw [Lib.toList_data,Bool.eq_false_iff];intro h;rw [List.isEmpty_iff,←List.length_eq_zero_iff,hl] at h;exact h0 h
 by_cases h24:24<s.size
 ·have e1:decide ((24:Int)<(s.size:Int))=true:=T_ (by omega);have e1':decide (24<s.size)=true:=T_ h24;have hw:Hid (nameB s=false):=by show _=_;unfold nameB wordB;rw [F_ (show ¬ s.size≤24 by omega)];simp
  rw [hw.out];go_enter Tryz.func166,Tryz.ntmps166;go_wp2_with fail;go_returns;exact⟨rfl,Below.refl _ _⟩
 have e1:decide ((24:Int)<(s.size:Int))=false:=F_ (by omega);have e1':decide (24<s.size)=false:=F_ h24;have hpos:0<s.size:=by omega
 have hgo:=H_ (wordB_go h0 (by omega));have hN:nameB s=(wordB s&& !resB s):=rfl;rw [hgo.out] at hN;obtain⟨a,ha⟩: ∃ q,letB ((s[0]'hpos).toNat :Int)=q:=⟨_,rfl⟩
 obtain⟨r,hr⟩: ∃ q,resB s=q:=⟨_,rfl⟩
 rw [ha,hr] at hN;rw [hr] at hrs;have hall:=H_ (runN_all s.data.toList);rw [←hall.out,hl] at hN;have hNH:=H_ hN;have haH:Hid (letB ((s[0]'hpos).toNat :Int)=a):=ha;clear h0 ha hgo hN hr hl hall hsp
 cases a with
 |false=>
  rw [hNH.out];go_enter Tryz.func166,Tryz.ntmps166;go_wp2_with fail;refine(lclass_any _ _).mono ?_;rintro e w' ⟨rfl,rfl⟩;have hq:=clsI_let ((s[0]'hpos).toNat :Int);rw [haH.out] at hq;obtain⟨q,hqe⟩: ∃ q,clsI ((s[0]'hpos).toNat :Int)=q:=⟨_,rfl⟩
  rw [hqe] at hq ⊢;go_wp2_with fail;go_returns;exact⟨by simp,Below.refl _ _⟩
 |true=>
  cases r with
  |true=>
   rw [hNH.out];go_enter Tryz.func166,Tryz.ntmps166;go_wp2_with fail;refine(lclass_any _ _).mono ?_;rintro e w' ⟨rfl,rfl⟩;have hq:=clsI_let ((s[0]'hpos).toNat :Int);rw [haH.out] at hq;obtain⟨q,hqe⟩: ∃ q,clsI ((s[0]'hpos).toNat :Int)=q:=⟨_,rfl⟩
   rw [hqe] at hq ⊢;go_wp2_with fail;refine(hrs.out _ hspH.out).mono ?_;rintro e w' ⟨rfl,hb⟩;have hbH:=H_ hb;clear hb;go_wp2_with fail;go_returns;exact⟨by simp,hbH.out⟩
  |false=>
   rw [hNH.out];go_enter Tryz.func166,Tryz.ntmps166;go_wp2_with fail;refine(lclass_any _ _).mono ?_;rintro e w' ⟨rfl,rfl⟩;have hq:=clsI_let ((s[0]'hpos).toNat :Int);rw [haH.out] at hq;obtain⟨q,hqe⟩: ∃ q,clsI ((s[0]'hpos).toNat :Int)=q:=⟨_,rfl⟩
   rw [hqe] at hq ⊢;go_wp2_with fail;refine(hrs.out _ hspH.out).mono ?_;rintro e w' ⟨rfl,hb⟩;have hbH:=H_ hb;clear hb;go_wp2_with fail;refine(lrun_any s _ (by omega)).mono ?_;rintro e w'' ⟨rfl,rfl⟩;go_wp2_with fail;go_returns;exact⟨ret_bool (by rw [Bool.eq_iff_iff];simp;omega),hbH.out⟩
open K
theorem clStr_any (A:Option Addr) (n c:Nat) (l:List (Str)) (w:World) (hr:Rd w 1 strE A n l) (hn:n≤1099511627776):
 Calls Tryz.prog 133 #[.slice A n c] w fun e w'=> ∃ v,e= .returned v∧w'.ownsRow w.heap.size 9 1 v n (l.flatMap strE)∧Below w.heap.size w w':=by
 have qT: ∀ (w:World) (a:Option Addr) (n c n' c':Nat),(binOp .eql 22 (.slice a n c) (.slice none n' c')).run Tryz.prog w= .ok (.bool a.isNone) w:=fun w a n c n' c'=>Lib.run_eql_slice_nil w _ _ a n c n' c' Tryz.underlying22
 cases A with
 |none=>
  have hn0:n=0:=by
   rcases Nat.eq_zero_or_pos n with h|h
   ·exact h
   ·obtain⟨_,_,e,_⟩:=hr.cells h;cases e
  subst hn0;obtain rfl:l=[]:=List.eq_nil_of_length_eq_zero hr.len;go_enter Tryz.func133,Tryz.ntmps133
  go_wp2
  go_returns;exact⟨_,rfl,World.ownsRow_nil _ _ _ _,Below.refl _ _⟩
 |some a=>
  obtain⟨v,w1,hrun,own,hg,_⟩:=own_append (enc:=strE) Tryz.underlying22 info_tStr rfl (by decide) strE_len strE_one c (l:=[]) (own_lit0 w w.heap.size 9 1 (Nat.le_refl _)) (hr.below ((Below.refl _ w).alloc (Nat.le_refl _) _)) (by simpa using hn) (by decide) (by simp);have hb:Hid (Below w.heap.size w w1):=((Below.refl _ w).alloc (Nat.le_refl _) _).grown hg (by simp) (fun k hk=>by simp [Value.ownBlock] at hk;omega);have hl:=H_ hr.len;simp only [List.length_nil,Nat.zero_add,List.nil_append] at hrun own;have own:=H_ own;rename_i own0;clear own0 hg;go_enter Tryz.func133,Tryz.ntmps133;go_wp2_with (at_builtin;refine wpList_append_run ?b1 (.tmp 5) (.tmp 6) 22 ?b2 ?b3 ?b4 hrun ?_)
  case b1=>rfl
  case b2=>rfl
  try(case b3=>rfl)
  try(case b4=>rfl)
  go_returns;exact⟨v,rfl,own.out,hb.out⟩
theorem clNum_any (A:Option Addr) (n c:Nat) (l:List (Int)) (w:World) (hr:Rd w 1 (numE .i64) A n l) (hn:n≤1099511627776):
 Calls Tryz.prog 136 #[.slice A n c] w fun e w'=> ∃ v,e= .returned v∧w'.ownsRow w.heap.size 2 1 v n (l.flatMap (numE .i64))∧Below w.heap.size w w':=by
 have qT: ∀ (w:World) (a:Option Addr) (n c n' c':Nat),(binOp .eql 45 (.slice a n c) (.slice none n' c')).run Tryz.prog w= .ok (.bool a.isNone) w:=fun w a n c n' c'=>Lib.run_eql_slice_nil w _ _ a n c n' c' Tryz.underlying45
 cases A with
 |none=>
  have hn0:n=0:=by
   rcases Nat.eq_zero_or_pos n with h|h
   ·exact h
   ·obtain⟨_,_,e,_⟩:=hr.cells h;cases e
  subst hn0;obtain rfl:l=[]:=List.eq_nil_of_length_eq_zero hr.len;go_enter Tryz.func136,Tryz.ntmps136
  go_wp2
  go_returns;exact⟨_,rfl,World.ownsRow_nil _ _ _ _,Below.refl _ _⟩
 |some a=>
  obtain⟨v,w1,hrun,own,hg,_⟩:=own_append (enc:=(numE .i64)) Tryz.underlying45 info_tI64 rfl (by decide) num_len num_one c (l:=[]) (own_lit0 w w.heap.size 2 1 (Nat.le_refl _)) (hr.below ((Below.refl _ w).alloc (Nat.le_refl _) _)) (by simpa using hn) (by decide) (by simp);have hb:Hid (Below w.heap.size w w1):=((Below.refl _ w).alloc (Nat.le_refl _) _).grown hg (by simp) (fun k hk=>by simp [Value.ownBlock] at hk;omega);have hl:=H_ hr.len;simp only [List.length_nil,Nat.zero_add,List.nil_append] at hrun own;have own:=H_ own;rename_i own0;clear own0 hg;go_enter Tryz.func136,Tryz.ntmps136;go_wp2_with (at_builtin;refine wpList_append_run ?b1 (.tmp 5) (.tmp 6) 45 ?b2 ?b3 ?b4 hrun ?_)
  case b1=>rfl
  case b2=>rfl
  try(case b3=>rfl)
  try(case b4=>rfl)
  go_returns;exact⟨v,rfl,own.out,hb.out⟩
theorem pplace_any (A:Option Addr) (n c:Nat) (l:List Str) (s:Str) (w:World) (hr:Rd w 1 strE A n l) (hn:n≤1099511627776):
 Calls Tryz.prog 183 #[.slice A n c,.string s] w fun e w'=>e= .returned (.int .i64 (placeI l s))∧Below w.heap.size w w':=by
 have h:=H_ (ixStr_any A n c l s w hr hn);clear hr;go_enter Tryz.func183,Tryz.ntmps183;go_wp2_with fail;refine h.out.mono ?_;rintro e w' ⟨rfl,rfl⟩;go_wp2_with fail;go_returns;exact⟨rfl,Below.refl _ _⟩
theorem pway_any (a b n:Int) (w:World):Calls Tryz.prog 236 #[.int .i64 a,.int .i64 b,.int .i64 n] w fun e w'=>e= .returned (.int .i64 (wayE a b n))∧Below w.heap.size w w':=by
 unfold wayE;by_cases h1:a<0∨b<0
 ·rw [if_pos h1];have hm:decide (min a b<0)=true:=T_ (by omega);go_enter Tryz.func236,Tryz.ntmps236;go_wp2_with fail;go_returns;exact⟨rfl,Below.refl _ _⟩
 ·rw [if_neg h1];have hm:decide (min a b<0)=false:=F_ (by omega);by_cases h3:a=b
  ·rw [if_pos (.inl h3)];subst h3;go_enter Tryz.func236,Tryz.ntmps236;go_wp2_with fail;go_returns;exact⟨rfl,Below.refl _ _⟩
  ·have h3':(a==b)=false:=by simp [h3]
   by_cases h4:n<1
   ·rw [if_pos (.inr h4)];go_enter Tryz.func236,Tryz.ntmps236;go_wp2_with fail;go_returns;exact⟨rfl,Below.refl _ _⟩
   ·rw [if_neg (by omega)];go_enter Tryz.func236,Tryz.ntmps236;go_wp2_with fail;go_returns;exact⟨rfl,Below.refl _ _⟩
theorem ixInt_any (A:Option Addr) (n c:Nat) (l:List Int) (x:Int) (w:World) (hr:Rd w 1 (numE .i64) A n l) (hn:n≤1099511627776):
 Calls Tryz.prog 88 #[.slice A n c,.int .i64 x] w fun e w'=>e= .returned (.int .i64 (idx (fun y=>x==y) l))∧w=w':=by
 have hrH:=H_ hr;have hl:=H_ hr.len;clear hr;go_enter Tryz.func88,Tryz.ntmps88;go_wp2_with fail;go_loopw [8] (fun iv wr=> ∃ i:Nat,i≤n∧iv= .int .i64 i∧Hid (∀ y∈l.take i,(x==y)=false)∧w=wr) (fun iv _=>n-(intOf iv).toNat)
 case atStart=>exact⟨0,Nat.zero_le _,rfl,fun y hy=>by simp at hy,rfl⟩
 case round=>
  obtain⟨i,hi,rfl,hp,rfl⟩:=hrel;by_cases hin:i<n
  ·have hinI:(i:Int)<(n:Int):=by omega
   obtain⟨b,o,y,rfl,hb0,hx,g0⟩:=hrH.out.num hin
   cases hq:(x==y) with
   |true=>
    have hres:=H_ (idx_at hx hp.out hq);clear hx hp;go_wp2_with fail;go_returns;exact⟨by rw [hres.out];rfl,rfl⟩
   |false=>
    have hnx:Hid (∀ z∈l.take (i+1),(x==z)=false):=fun z hz=>by
     rw [take_at hx,List.mem_append] at hz;rcases hz with hz|hz
     ·exact hp.out z hz
     ·simp only [List.mem_singleton] at hz;subst hz;exact hq
    clear hx hp;go_wp2_with fail;go_roundw
    case rel=>exact⟨i+1,by omega,by go_num,hnx,trivial⟩
    case measure=>simp [intOf];omega
  ·have hres:Hid (idx (fun y=>x==y) l= -1):=idx_no (fun y hy=>hp.out y (by rwa [List.take_of_length_le (by rw [hl.out];omega)]));clear hp;go_wp2_with fail;go_returns;exact⟨by rw [hres.out];rfl,rfl⟩
theorem ctInt_any (A:Option Addr) (n c:Nat) (l:List Int) (x:Int) (w:World) (hr:Rd w 1 (numE .i64) A n l) (hn:n≤1099511627776):
 Calls Tryz.prog 238 #[.slice A n c,.int .i64 x] w fun e w'=>e= .returned (.bool (l.any fun y=>x==y))∧w=w':=by
 have h:=H_ (ixInt_any A n c l x w hr hn);have hq:=H_ (idx_any (fun y=>x==y) l);clear hr;obtain⟨q,hqe⟩: ∃ q,idx (fun y=>x==y) l=q:=⟨_,rfl⟩
 rw [hqe] at hq h;clear hqe;go_enter Tryz.func238,Tryz.ntmps238;go_wp2_with fail;refine h.out.mono ?_;rintro e w' ⟨rfl,rfl⟩;go_wp2_with fail;go_returns;exact⟨ret_bool hq.out,rfl⟩
structure KC (w:World) (bc bw:Nat) (M:WorldP) (V:WV):Prop where
 cw:w.cell? ⟨bc,1,none⟩=some (.pointer (some ⟨bw,0,none⟩))
 bx:Bx w bw 31 [.int .i64 M.hz,.slice V.a0 V.n0 V.c0,.slice V.a1 V.n1 V.c1,.slice V.a2 V.n2 V.c2,.slice V.a3 V.n3 V.c3,.slice V.a4 V.n4 V.c4,.slice V.a5 V.n5 V.c5,.slice V.aP V.nP V.cP,.slice V.aD V.nD V.cD,.slice V.aR V.nR V.cR,.slice V.aT V.nT V.cT,.slice V.aH V.nH V.cH]
 rw:RW w M V
theorem KC.below {w w':World} {bc bw:Nat} {M:WorldP} {V:WV} (h:KC w bc bw M V) (k:Below w.heap.size w w'):KC w' bc bw M V:=
 ⟨(k.cell (p:=⟨bc,1,none⟩) (World.block_lt_of_cell? w ⟨bc,1,none⟩ h.cw)).trans h.cw,h.bx.below k,h.rw.below k⟩
theorem kfine_any (p:Value) (i:Int) (w:World):Calls Tryz.prog 198 #[p,.int .i64 i] w (RetE w true):=by
 go_enter Tryz.func198,Tryz.ntmps198
 go_wp2
 go_returns;exact RetE.yes rfl (Below.refl _ _)
theorem ktimes_any (bc bw:Nat) (M:WorldP) (V:WV) (f v n:Int) (we:World) (h:KC we bc bw M V):Calls Tryz.prog 237 #[.pointer (some ⟨bc,0,none⟩),.agg #[.int .i64 f,.int .i64 v,.int .i64 n]] we (RetE we (timesB f v n M.hz)):=by
 have hiff:=H_ (timesE_iff (f:=f) (v:=v) (n:=n) (h:=M.hz));unfold timesE at hiff;have hw:=H_ (wins_any f v n M.hz);obtain⟨r,hr⟩: ∃ r,winsM f v n M.hz=r:=⟨_,rfl⟩
 rw [hr] at hw hiff;obtain⟨hz,hhz⟩: ∃ q,M.hz=q:=⟨_,rfl⟩
 obtain⟨w1,b1,hw1,hbE1,hb1,hup,B1,hge1⟩:=enter1 we 102 [.int .i64 f,.int .i64 v,.int .i64 n];have hC:=h.below hup.out;have cw:=hC.cw;have hz0:=hC.bx.cell 0 rfl;rw [hhz] at hz0 hw hiff ⊢;have lw:=World.block_lt_of_cell? w1 ⟨bc,1,none⟩ cw;have lz:=hC.bx.lt;obtain⟨y0,y1,y2⟩:=c_3 B1;have ly:=B1.lt;clear hC h hhz hr B1 hb1;go_enter Tryz.func237,Tryz.ntmps237;go_wp2_with fail;go_upto_region 1 with fail;refine wp_region_lateM w1.heap.size [0,0,0,0,0,0,0,0,2,4,4,4,4,4] (by kernel_rfl) (by kernel_rfl) (Nat.le_refl _) ?_;intro C hC;simp only [pickK,pickT,Nat.reduceLeDiff,Nat.reduceEqDiff, ↓reduceIte]
 repeat(go_big_quiet_step (first
  |(intro _;with_reducible rfl)
  |(intro hc;have m0:=c_ hc ly y0;have m1:=c_ hc ly y1;have m2:=c_ hc ly y2;have m3:=c_ hc lw cw;have m4:=c_ hc lz hz0;simp only [m0,m1,m2,m3,m4,Result.andThen];exact⟨trivial,rfl⟩)))
 refine wpQuiet_nil ?_;clear hC;intro C' hC';refine wpQuiet_nil ?_;clear hC';intro wq hbq;replace hbq:Below w1.heap.size w1 wq:=by rw [hbq];exact⟨rfl,rfl,rfl,Nat.le_refl _,fun _ _=>rfl⟩
 have hqH:=H_ hbq;clear hbq y0 y1 y2 cw hz0;refine wpTail4_one (by decide) ?_;go_wp2_with fail;refine(hw.out _).mono ?_;rintro e w5 ⟨A2,c2,rfl,_,_,_,hb5⟩;have hbF:=h_ hup (b_ hqH hb5);clear hb5;go_wp2_with fail;refine⟨fun h=>absurd h (by decide),?_⟩;refine wpTail4_quiet ?_;intro C' hC'
 repeat(go_big_quiet_step (first|(intro _;with_reducible rfl)))
 refine wpQuiet_nil ?_;clear hC';refine wpTail4_quiet ?_;intro C' hC'
 repeat(go_big_quiet_step (first|(intro _;with_reducible rfl)))
 refine wpQuiet_nil ?_;clear hC';refine wpTail4_quiet ?_;intro C' hC'
 repeat(go_big_quiet_step (first|(intro _;with_reducible rfl)))
 refine wpQuiet_nil ?_;clear hC';refine wpTail4_quiet ?_;intro C' hC'
 repeat(go_big_quiet_step (first|(intro _;with_reducible rfl)))
 refine wpQuiet_nil ?_;clear hC';refine wpTail4_quiet ?_;intro C' hC'
 repeat(go_big_quiet_step (first|(intro _;with_reducible rfl)))
 refine wpQuiet_nil ?_;clear hC';refine wpTail4_list _ _ _ (by simp) ?_;simp only [List.map_nil];go_wp2_with fail;go_returns;exact⟨_,rfl,hiff.out,hbF.out⟩
theorem kpath_any (bc bw:Nat) (M:WorldP) (V:WV) (i:Nat) (p:Int×Int×Int) (we:World) (h:KC we bc bw M V) (hi:M.paths[i]?=some p):Calls Tryz.prog 199 #[.pointer (some ⟨bc,0,none⟩),.int .i64 i] we (RetE we (wayB p.1 p.2.1 p.2.2)):=by
 obtain⟨a0,a1,a2,a3,a4,a5,aP,aD,aR,aT,aH,n0,n1,n2,n3,n4,n5,nP,nD,nR,nT,nH,c0,c1,c2,c3,c4,c5,cP,cD,cR,cT,cH⟩:=V;have hL:M.paths.length=nP:=h.rw.rP.len;obtain⟨b,o,⟨x1,x2,x3⟩,rfl,hbs,hx,hc0⟩:=h.rw.rP.get (show i<nP by have:=(List.getElem?_eq_some_iff.1 hi).1;omega);obtain rfl:=Option.some.inj (hx.symm.trans hi);have g0:=hc0 0 _ rfl;have g1:=hc0 1 _ rfl;have g2:=hc0 2 _ rfl;simp only [Nat.add_zero] at g0;have hin:=H_ (List.getElem?_eq_some_iff.1 hi).1;have hil:(i:Int)<(nP:Int):=by have h1:=hin.out;omega
 clear hc0 hx hi hL;have cw:=h.cw;have pz:=h.bx.cell 7 rfl;obtain⟨wa,ba,hwa,hbaE,hbwa,Bwa⟩:=box1 we 99 [.int .i64 x1,.int .i64 x2,.int .i64 x3];obtain⟨q0,q1,q2⟩:=c_3 Bwa;have hC:=H_ (h.below hbwa);have hbaH:=H_ hbwa;clear h hbwa Bwa;go_enter Tryz.func199,Tryz.ntmps199;go_wp2_with fail;refine(pway_any x1 x2 x3 _).mono ?_;rintro e w2 ⟨rfl,hb2⟩;have hbF:=h_ hbaH hb2;clear hb2;go_wp2_with fail;go_returns;exact⟨_,rfl,wayE_iff,hbF.out⟩
theorem kdoor_any (bc bw:Nat) (M:WorldP) (V:WV) (i:Nat) (d:DoorP) (we:World) (h:KC we bc bw M V) (hi:M.doors[i]?=some d):Calls Tryz.prog 200 #[.pointer (some ⟨bc,0,none⟩),.int .i64 i] we (RetE we (wayB d.a d.b d.len&&timesB d.fr d.ev d.du M.hz)):=by
 obtain⟨a0,a1,a2,a3,a4,a5,aP,aD,aR,aT,aH,n0,n1,n2,n3,n4,n5,nP,nD,nR,nT,nH,c0,c1,c2,c3,c4,c5,cP,cD,cR,cT,cH⟩:=V;have ht:=H_ (fun(w:World) h=>ktimes_any bc bw M ⟨a0,a1,a2,a3,a4,a5,aP,aD,aR,aT,aH,n0,n1,n2,n3,n4,n5,nP,nD,nR,nT,nH,c0,c1,c2,c3,c4,c5,cP,cD,cR,cT,cH⟩ d.fr d.ev d.du w h);have hL:M.doors.length=nD:=h.rw.rD.len;obtain⟨b,o,⟨x1,x2,x3,x4,x5,x6⟩,rfl,hbs,hx,hc0⟩:=h.rw.rD.get (show i<nD by have:=(List.getElem?_eq_some_iff.1 hi).1;omega);obtain rfl:=Option.some.inj (hx.symm.trans hi);have g0:=hc0 0 _ rfl;have g1:=hc0 1 _ rfl;have g2:=hc0 2 _ rfl;have g3:=hc0 3 _ rfl;have g4:=hc0 4 _ rfl;have g5:=hc0 5 _ rfl;simp only [Nat.add_zero] at g0;have hin:=H_ (List.getElem?_eq_some_iff.1 hi).1;have hil:(i:Int)<(nD:Int):=by have h1:=hin.out;omega
 clear hc0 hx hi hL;have cw:=h.cw;have pz:=h.bx.cell 8 rfl;obtain⟨wa,ba,hwa,hbaE,hbwa,Bwa⟩:=box1 we 104 [.int .i64 x1,.int .i64 x2,.int .i64 x3,.int .i64 x4,.int .i64 x5,.int .i64 x6];obtain⟨q0,q1,q2,q3,q4,q5⟩:=c_6 Bwa;have hC:=H_ (h.below hbwa);have hbaH:=H_ hbwa;clear h hbwa Bwa;have hwi:=H_ (wayE_iff (a:=x1) (b:=x2) (n:=x3));obtain⟨q,hq⟩: ∃ q,wayE x1 x2 x3=q:=⟨_,rfl⟩
 have hpw:=H_ (fun w=>pway_any x1 x2 x3 w);rw [hq] at hwi hpw;clear hq;by_cases hq0:q=0
 ·subst hq0;have hy:Hid (wayB x1 x2 x3=true):=hwi.out.1 rfl;go_enter Tryz.func200,Tryz.ntmps200;go_wp2_with fail;refine(hpw.out _).mono ?_;rintro e w2 ⟨rfl,hb2⟩;have q3':=c_ hb2 (World.block_lt_of_cell? wa ⟨ba,_,none⟩ q3) q3;have q4':=c_ hb2 (World.block_lt_of_cell? wa ⟨ba,_,none⟩ q4) q4;have q5':=c_ hb2 (World.block_lt_of_cell? wa ⟨ba,_,none⟩ q5) q5;have hb2H:=H_ hb2;clear hb2;go_wp2_with fail;refine(ht.out w2 (hC.out.below hb2H.out)).mono ?_;rintro e w3 ⟨c,rfl,hc,hb3⟩;have hbF:=h_ hbaH (b_ hb2H hb3);have hcH:=H_ hc;clear hb3 hc;go_wp2_with fail;go_returns;exact⟨_,rfl,by rw [hy.out];simpa using hcH.out,hbF.out⟩
 ·have hne:(q !=0)=true:=by simp [hq0]
  have hy:Hid (wayB x1 x2 x3=false):=by
   show _=_
   cases h:wayB x1 x2 x3 with
   |true=>exact absurd (hwi.out.2 h) hq0
   |false=>rfl
  have hq0H:=H_ hq0;clear hq0;go_enter Tryz.func200,Tryz.ntmps200;go_wp2_with fail;refine(hpw.out _).mono ?_;rintro e w2 ⟨rfl,hb2⟩;have hbF:=h_ hbaH hb2;clear hb2;go_wp2_with fail;go_returns;exact RetE.no hq0H.out (by rw [hy.out];rfl) hbF.out
theorem ktrip_any (bc bw:Nat) (M:WorldP) (V:WV) (i:Nat) (d:TripP) (we:World) (h:KC we bc bw M V) (hi:M.trips[i]?=some d):Calls Tryz.prog 202 #[.pointer (some ⟨bc,0,none⟩),.int .i64 i] we (RetE we (decide (0≤d.route)&&decide (d.fr≤d.un))):=by
 obtain⟨a0,a1,a2,a3,a4,a5,aP,aD,aR,aT,aH,n0,n1,n2,n3,n4,n5,nP,nD,nR,nT,nH,c0,c1,c2,c3,c4,c5,cP,cD,cR,cT,cH⟩:=V;have hL:M.trips.length=nT:=h.rw.rT.len;obtain⟨b,o,⟨x1,x2,x3,x4⟩,rfl,hbs,hx,hc0⟩:=h.rw.rT.get (show i<nT by have:=(List.getElem?_eq_some_iff.1 hi).1;omega);obtain rfl:=Option.some.inj (hx.symm.trans hi);have g0:=hc0 0 _ rfl;have g1:=hc0 1 _ rfl;have g2:=hc0 2 _ rfl;have g3:=hc0 3 _ rfl;simp only [Nat.add_zero] at g0;have hin:=H_ (List.getElem?_eq_some_iff.1 hi).1;have hil:(i:Int)<(nT:Int):=by have h1:=hin.out;omega
 clear hc0 hx hi hL;have cw:=h.cw;have pz:=h.bx.cell 10 rfl;obtain⟨wa,ba,hwa,hbaE,hbwa,Bwa⟩:=box1 we 53 [.int .i64 x1,.int .i64 x2,.int .i64 x3,.int .i64 x4];obtain⟨q0,q1,q2,q3⟩:=c_4 Bwa;have hC:=H_ (h.below hbwa);have hbaH:=H_ hbwa;clear h hbwa Bwa;by_cases h1:x1<0
 ·go_enter Tryz.func202,Tryz.ntmps202;go_wp2_with fail;go_returns;exact RetE.no (by decide) (by simp;omega) hbaH.out
 ·by_cases h2:x4<x2
  ·go_enter Tryz.func202,Tryz.ntmps202;go_wp2_with fail;go_returns;exact RetE.no (by decide) (by simp;omega) hbaH.out
  ·go_enter Tryz.func202,Tryz.ntmps202;go_wp2_with fail;go_returns;exact RetE.yes rfl hbaH.out
theorem khazard_any (bc bw:Nat) (M:WorldP) (V:WV) (i:Nat) (d:HazP) (we:World) (h:KC we bc bw M V) (hi:M.hazs[i]?=some d):Calls Tryz.prog 203 #[.pointer (some ⟨bc,0,none⟩),.int .i64 i] we (RetE we (decide (0≤d.on)&&timesB d.fr d.ev d.du M.hz)):=by
 obtain⟨a0,a1,a2,a3,a4,a5,aP,aD,aR,aT,aH,n0,n1,n2,n3,n4,n5,nP,nD,nR,nT,nH,c0,c1,c2,c3,c4,c5,cP,cD,cR,cT,cH⟩:=V;have ht:=H_ (fun(w:World) h=>ktimes_any bc bw M ⟨a0,a1,a2,a3,a4,a5,aP,aD,aR,aT,aH,n0,n1,n2,n3,n4,n5,nP,nD,nR,nT,nH,c0,c1,c2,c3,c4,c5,cP,cD,cR,cT,cH⟩ d.fr d.ev d.du w h);have hL:M.hazs.length=nH:=h.rw.rH.len;obtain⟨b,o,⟨x1,x2,x3,x4,x5⟩,rfl,hbs,hx,hc0⟩:=h.rw.rH.get (show i<nH by have:=(List.getElem?_eq_some_iff.1 hi).1;omega);obtain rfl:=Option.some.inj (hx.symm.trans hi);have g0:=hc0 0 _ rfl;have g1:=hc0 1 _ rfl;have g2:=hc0 2 _ rfl;have g3:=hc0 3 _ rfl;have g4:=hc0 4 _ rfl;simp only [Nat.add_zero] at g0;have hin:=H_ (List.getElem?_eq_some_iff.1 hi).1;have hil:(i:Int)<(nH:Int):=by have h1:=hin.out;omega
 clear hc0 hx hi hL;have cw:=h.cw;have pz:=h.bx.cell 11 rfl;obtain⟨wa,ba,hwa,hbaE,hbwa,Bwa⟩:=box1 we 108 [.bool x1,.int .i64 x2,.int .i64 x3,.int .i64 x4,.int .i64 x5];obtain⟨q0,q1,q2,q3,q4⟩:=c_5 Bwa;have hC:=H_ (h.below hbwa);have hbaH:=H_ hbwa;clear h hbwa Bwa;by_cases h1:x2<0
 ·go_enter Tryz.func203,Tryz.ntmps203;go_wp2_with fail;go_returns;exact RetE.no (by decide) (by rw [F_ (show ¬ 0≤x2 by omega)];rfl) hbaH.out
 ·go_enter Tryz.func203,Tryz.ntmps203;go_wp2_with fail;refine(ht.out wa hC.out).mono ?_;rintro e w3 ⟨c,rfl,hc,hb3⟩;have hbF:=h_ hbaH hb3;have hcH:=H_ hc;clear hb3 hc;go_wp2_with fail;go_returns;exact⟨_,rfl,by rw [T_ (show 0≤x2 by omega)];simpa using hcH.out,hbF.out⟩
theorem kroute_any (bc bw:Nat) (M:WorldP) (V:WV) (i:Nat) (r:RouteP) (we:World) (h:KC we bc bw M V) (hi:M.routes[i]?=some r) (hl:r.rides.length+1=r.stops.length) (hs: ∀ s∈r.stops, -1≤s) (hm:r.stops.length≤100000):
 Calls Tryz.prog 201 #[.pointer (some ⟨bc,0,none⟩),.int .i64 i] we (RetE we (routeB r)):=by
 obtain⟨a0,a1,a2,a3,a4,a5,aP,aD,aR,aT,aH,n0,n1,n2,n3,n4,n5,nP,nD,nR,nT,nH,c0,c1,c2,c3,c4,c5,cP,cD,cR,cT,cH⟩:=V;have hL:M.routes.length=nR:=h.rw.rR.len;have hil:(i:Int)<(nR:Int):=by have:=(List.getElem?_eq_some_iff.1 hi).1;omega
 obtain⟨b,o,r',rfl,hbs,hx,⟨A1,n1,c1',s1,r1,_,_⟩,⟨A2,n2,c2',s2,r2,_,_⟩,⟨A3,n3',c3',s3,r3,_,_⟩⟩:=h.rw.rR.get (show i<nR by omega);obtain rfl:=Option.some.inj (hx.symm.trans hi);have l1:Hid (r'.stops.length=n1):=r1.len;have l2:Hid (r'.rides.length=n2):=r2.len;have hn:n2+1=n1:=by have:=l1.out;have:=l2.out;omega
 have hn1:n1≤100000:=by have:=l1.out;omega
 have hsH:=H_ hs;have hlH:=H_ hl;have cw:=h.cw;have pz:=h.bx.cell 9 rfl;obtain⟨wa,ba,hwa,hbaE,hbwa,Bwa⟩:=box1 we 51 [.slice A1 n1 c1',.slice A2 n2 c2',.slice A3 n3' c3'];have q0:=Bwa.cell 0 rfl;have q1:=Bwa.cell 1 rfl;have R1:=H_ (r1.below hbwa);have R2:=H_ (r2.below hbwa);have hbaH:=H_ hbwa;clear h hbwa Bwa hi hx hL r3 r1 r2 hs hl hm;have hct:=H_ (ctInt_any A1 n1 c1' r'.stops (-1) wa R1.out (by omega))
 cases hneg:(r'.stops.any fun y=>(-1:Int)==y) with
 |true=>
  have hno:Hid (routeB r'=false):=by
   obtain⟨s,hs1,hs2⟩:=List.any_eq_true.1 hneg
   have h1:(r'.stops.all fun s=>decide (0≤s))=false:=by
    rw [Bool.eq_false_iff];intro h;have:=of_decide_eq_true (List.all_eq_true.1 h s hs1);have:=eq_of_beq hs2;omega
   show _=_;unfold routeB;rw [h1];rfl
  rw [hneg] at hct;clear hneg;go_enter Tryz.func201,Tryz.ntmps201;go_wp2_with fail;refine hct.out.mono ?_;rintro e w' ⟨rfl,rfl⟩;go_wp2_with fail;go_returns;exact RetE.no (by decide) hno.out hbaH.out
 |false=>
  have hall:Hid ((r'.stops.all fun s=>decide (0≤s))=true):=by
   refine List.all_eq_true.2 fun s hs1=>T_ ?_;have h1:=hsH.out s hs1
   have h2:((-1:Int)==s)=false:=by
    cases h:((-1:Int)==s) with
    |false=>rfl
    |true=>rw [List.any_eq_true.2 ⟨s,hs1,h⟩] at hneg;cases hneg
   have:(-1:Int)≠s:=by simpa using h2
   omega
  rw [hneg] at hct;clear hneg;go_enter Tryz.func201,Tryz.ntmps201;go_wp2_with fail;refine hct.out.mono ?_;rintro e w' ⟨rfl,rfl⟩;go_wp2_with fail;clear hwa hbaE;go_loopw [24] (fun iv wr=> ∃ j:Nat,j≤n2∧iv= .int .i64 j∧Hid (∀ (k:Nat) a b q,k<j→r'.stops[k]?=some a→r'.stops[k+1]?=some b→r'.rides[k]?=some q→a≠b∧1≤q)∧Hid (Below wa.heap.size wa wr)) (fun iv _=>n2-(intOf iv).toNat)
  case atStart=>exact⟨0,Nat.zero_le _,rfl,fun k a b q hk=>(by omega),Below.refl _ _⟩
  case round=>
   obtain⟨j,hj,rfl,hall2,hbr⟩:=hrel;by_cases hin:j<n2
   ·have hin2:(j:Int)<(n2:Int):=by omega
    have hin1:(j:Int)+1<(n1:Int):=by omega
    have hin0:(j:Int)<(n1:Int):=by omega
    obtain⟨b1,o1,x,rfl,hb1,hx,g0⟩:=R1.out.num (k:=j) (by omega);obtain⟨b1',o1',y,hbe,_,hy,g1⟩:=R1.out.num (k:=j+1) (by omega);cases hbe;obtain⟨b2,o2,q,rfl,hb2,hq,g2⟩:=R2.out.num hin;have q2w:=c_ hbr.out hb2 g2;have hiff:=H_ ((legsB_iff r'.stops r'.rides hlH.out).1);have hfn:=hbaH.out;have lba:=World.block_lt_of_cell? wa ⟨ba,_,none⟩ q0;by_cases hq1:q<1
    ·have hno:Hid (legsB r'.stops r'.rides=false):=by
      show _=_;rw [Bool.eq_false_iff];intro h;have:=(hiff.out h j x y q hx hy hq).2;omega
     clear hx hy hq hall2 hiff;go_wp2_with fail;go_upto_region 7 with fail;refine wb_ wr.heap.size ?_;intro C hC
     repeat(go_big_quiet_step (first
      |((intro _;with_reducible rfl))
      |(intro hc0;have hc:=b_ hbr hc0;have m0:=c_ hc lba q0;have m1:=c_ hc hb1 g0;have m2:=c_ hc hb1 g1;simp only [m0,m1,m2,Result.andThen];exact⟨trivial,rfl⟩)))
     refine wpQuiet_nil ?_;intro w9 hb9;clear hC;have hbF:=h_ hbaH (b_ hbr hb9);go_wp2_with fail;go_returns;exact RetE.no (by decide) (by unfold routeB;rw [hno.out,Bool.and_false]) hbF.out
    ·have hq1':=F_ hq1;by_cases hxy:x=y
     ·have hno:Hid (legsB r'.stops r'.rides=false):=by
       show _=_;rw [Bool.eq_false_iff];intro h;exact(hiff.out h j x y q hx hy hq).1 hxy
      subst hxy;clear hx hy hq hall2 hiff;go_wp2_with fail;go_upto_region 7 with fail;refine wb_ wr.heap.size ?_;intro C hC
      repeat(go_big_quiet_step (first
       |((intro _;with_reducible rfl))
       |(intro hc0;have hc:=b_ hbr hc0;have m0:=c_ hc lba q0;have m1:=c_ hc hb1 g0;have m2:=c_ hc hb1 g1;simp only [m0,m1,m2,Result.andThen];exact⟨trivial,rfl⟩)))
      refine wpQuiet_nil ?_;intro w9 hb9;clear hC;have hbF:=h_ hbaH (b_ hbr hb9);go_wp2_with fail;go_returns;exact RetE.no (by decide) (by unfold routeB;rw [hno.out,Bool.and_false]) hbF.out
     ·have hxy':(x==y)=false:=by simpa using hxy
      have hnx:Hid (∀ (k:Nat) a b q,k<j+1→r'.stops[k]?=some a→r'.stops[k+1]?=some b→r'.rides[k]?=some q→a≠b∧1≤q):=fun k a b' q' hk ha hb hq'=>by
       rcases Nat.lt_or_ge k j with h|h
       ·exact hall2.out k a b' q' h ha hb hq'
       ·obtain rfl:k=j:=by omega
        rw [hx] at ha;rw [hy] at hb;rw [hq] at hq';cases ha;cases hb;cases hq';exact⟨hxy,by omega⟩
      clear hx hy hq hall2 hiff;go_wp2_with fail;go_upto_region 7 with fail;refine wb_ wr.heap.size ?_;intro C hC
      repeat(go_big_quiet_step (first
       |((intro _;with_reducible rfl))
       |(intro hc0;have hc:=b_ hbr hc0;have m0:=c_ hc lba q0;have m1:=c_ hc hb1 g0;have m2:=c_ hc hb1 g1;simp only [m0,m1,m2,Result.andThen];exact⟨trivial,rfl⟩)))
      refine wpQuiet_nil ?_;intro w9 hb9;clear hC;have hb2':=h_ hbr hb9;go_wp2_with fail;go_roundw
      case rel=>exact⟨j+1,by omega,by go_num,hnx,hb2'⟩
      case measure=>simp [intOf];omega
   ·obtain rfl:j=n2:=by omega
    have hB:Hid (legsB r'.stops r'.rides=true):=(legsB_iff _ _ hlH.out).2 fun k a b q ha hb hq=>hall2.out k a b q (by have:=(List.getElem?_eq_some_iff.1 hq).1;rw [l2.out] at this;omega) ha hb hq;clear hall2;go_wp2_with fail;go_returns;exact RetE.yes (by unfold routeB;rw [hall.out,hB.out];rfl) (b_ hbaH hbr.out)
