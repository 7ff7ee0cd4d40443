/- Texts of one chain, merged. -/
import Derived.Test.YtechdefolfboeaaGreatDoorCc2
import Derived.Test.YtechdefolfboeaaGreatDoorCc11
import Derived.Test.YtechdefolfboeaaGreatDoorCc12
set_option linter.unusedVariables false
set_option linter.unusedSimpArgs false
set_option maxRecDepth 100000
set_option maxHeartbeats 2000000
namespace Go.Proofs.YtechdefolfboeaaGreatDoor
open Go.RowKit B
def Sp (w:World):Prop:= ∀ c:Nat,c<256→w.cell? ⟨0,c,none⟩=some (.int .u8 (if Lib.isSp (UInt8.ofNat c) then 1 else 0))
theorem Sp.below {w w':World} (h:Sp w) (k:Below w.heap.size w w'):Sp w':=fun c hc=>(k.cell (p:=⟨0,c,none⟩) (World.block_lt_of_cell? w ⟨0,c,none⟩ (h c hc))).trans (h c hc)
def clsI (c:Int):Int:=if letB c then 1 else if digB c then 2 else if c=45∨c=95 then 3 else 0
theorem clsI_odd (c:Int):(clsI c !=0)=moreB c:=by
 unfold clsI moreB
 cases letB c with
 |true=>rfl
 |false=>
  cases digB c with
  |true=>rfl
  |false=>
   by_cases h:c=45∨c=95
   ·rcases h with rfl|rfl<;>decide
   ·have h1:c≠45:=fun e=>h (.inl e)
    have h2:c≠95:=fun e=>h (.inr e)
    simp [h,h1,h2]
theorem clsI_let (c:Int):(clsI c !=1)= !letB c:=by
 unfold clsI
 cases letB c with
 |true=>rfl
 |false=>
  cases digB c with
  |true=>rfl
  |false=>by_cases h:c=45∨c=95<;>simp [h]
theorem lclass_any (c:Int) (w:World):Calls Tryz.prog 228 #[.int .u8 c] w fun e w'=>e= .returned (.int .i64 (clsI c))∧w=w':=by
 have key: ∀ (b1 b2 b3 b4 b5 b6:Bool),decide (97≤c)=b1→decide (c≤122)=b2→decide (48≤c)=b3→decide (c≤57)=b4→(c==45)=b5→(c==95)=b6→
  Calls Tryz.prog 228 #[.int .u8 c] w fun e w'=>e= .returned (.int .i64 (if(b1&&b2) then 1 else if(b3&&b4) then 2 else if(b5||b6) then 3 else 0))∧w=w':=by
  intro b1 b2 b3 b4 b5 b6 h1 h2 h3 h4 h5 h6
  cases b1<;>cases b2<;>cases b3<;>cases b4<;>cases b5<;>cases b6<;>
   (go_enter Tryz.func228,Tryz.ntmps228
    go_wp2
    go_returns
    exact⟨rfl,rfl⟩)
 refine(key _ _ _ _ _ _ rfl rfl rfl rfl rfl rfl).mono ?_
 rintro e w' ⟨rfl,rfl⟩
 refine⟨?_,rfl⟩
 unfold clsI letB digB
 by_cases h:c=45∨c=95<;>simp_all
theorem lnamec_any (x:Int) (w:World):Calls Tryz.prog 231 #[.int .i64 x] w fun e w'=>e= .returned (.bool (x !=0))∧w=w':=by
 go_enter Tryz.func231,Tryz.ntmps231
 go_wp2
 go_returns
 exact⟨rfl,rfl⟩
def runN:List UInt8→Nat
 |[]=>0
 |b::l=>if moreB (b.toNat:Int) then runN l+1 else 0
theorem runN_le: ∀ l:List UInt8,runN l≤l.length
 |[]=>Nat.le_refl _
 |b::l=>by have:=runN_le l;unfold runN;split<;>simp;omega
theorem runN_stop: ∀ (l:List UInt8) (i:Nat) (b:UInt8),l[i]?=some b→i≤runN l→moreB (b.toNat:Int)=false→runN l=i
 |[],i,b,h,_,_=>by simp at h
 |y::l,0,b,h,hi,hb=>by simp at h;subst h;unfold runN;rw [hb];rfl
 |y::l,i+1,b,h,hi,hb=>by
  unfold runN at hi ⊢
  split
  ·rename_i h1;rw [if_pos h1] at hi;rw [runN_stop l i b (by simpa using h) (by omega) hb]
  ·rename_i h1;rw [if_neg h1] at hi;omega
theorem runN_go: ∀ (l:List UInt8) (i:Nat) (b:UInt8),l[i]?=some b→i≤runN l→moreB (b.toNat:Int)=true→i+1≤runN l
 |[],i,b,h,_,_=>by simp at h
 |y::l,0,b,h,hi,hb=>by simp at h;subst h;unfold runN;rw [if_pos hb];omega
 |y::l,i+1,b,h,hi,hb=>by
  unfold runN at hi ⊢
  split
  ·rename_i h1;rw [if_pos h1] at hi;have:=runN_go l i b (by simpa using h) (by omega) hb;omega
  ·rename_i h1;rw [if_neg h1] at hi;omega
theorem runN_all: ∀ l:List UInt8,decide (runN l=l.length)=l.all fun b=>moreB (b.toNat:Int)
 |[]=>rfl
 |b::l=>by
  have:=runN_all l
  unfold runN
  rw [List.all_cons]
  cases h:moreB (b.toNat:Int) with
  |true=>rw [if_pos rfl,Bool.true_and,←this];simp
  |false=>simp
theorem lrun_any (s:Str) (w:World) (hs:s.size≤100):Calls Tryz.prog 230 #[.string s,.func (.func 231) #[] #[]] w fun e w'=>e= .returned (.int .i64 (runN s.data.toList:Nat))∧w=w':=by
 go_enter Tryz.func230,Tryz.ntmps230
 go_wp2_with fail
 go_loopw [5] (fun iv wr=> ∃ k:Nat,k≤s.size∧iv= .int .i64 k∧Hid (k≤runN s.data.toList)∧w=wr) (fun iv _=>s.size-(intOf iv).toNat)
 case atStart=>exact⟨0,Nat.zero_le _,rfl,Nat.zero_le _,rfl⟩
 case round=>
  obtain⟨k,hk,rfl,hp,rfl⟩:=hrel
  by_cases hks:k<s.size
  ·have hkI:(k:Int)<(s.size:Int):=by omega
   have hat:=str_at s k hks
   obtain⟨a,ha⟩: ∃ q,moreB ((s[k]'hks).toNat :Int)=q:=⟨_,rfl⟩
   have haH:=Lib.hid ha
   cases a with
   |false=>
    have hfin:=Lib.hid (runN_stop _ k _ hat hp.out ha)
    clear hat ha
    go_wp2_with fail
    refine(lclass_any _ _).mono ?_;rintro e w' ⟨rfl,rfl⟩
    go_wp2_with fail
    refine(lnamec_any _ _).mono ?_;rintro e w' ⟨rfl,rfl⟩
    rw [clsI_odd,haH.out]
    go_wp2_with fail
    go_returns
    exact⟨by rw [hfin.out]<;>rfl,rfl⟩
   |true=>
    have hnx:=Lib.hid (runN_go _ k _ hat hp.out ha)
    clear hat ha
    go_wp2_with fail
    refine(lclass_any _ _).mono ?_;rintro e w' ⟨rfl,rfl⟩
    go_wp2_with fail
    refine(lnamec_any _ _).mono ?_;rintro e w' ⟨rfl,rfl⟩
    rw [clsI_odd,haH.out]
    go_wp2_with fail
    go_roundw
    case rel=>exact⟨k+1,by omega,by go_num,hnx,trivial⟩
    case measure=>simp [intOf];omega
  ·have hfin:Hid (runN s.data.toList=k):=by
    have:=runN_le s.data.toList
    have h2:s.data.toList.length=s.size:=by simp
    have:=hp.out
    show _=_
    omega
   go_wp2_with fail
   go_returns
   exact⟨by rw [hfin.out]<;>rfl,rfl⟩
theorem sq_comm (x s:Str):sq x s=sq s x:=by unfold sq;exact Bool.beq_comm
theorem ixStr_any (A:Option Addr) (n c:Nat) (l:List Str) (s:Str) (w:World) (hr:Rd w 1 strE A n l) (hn:n≤1099511627776):
 Calls Tryz.prog 235 #[.slice A n c,.string s] w fun e w'=>e= .returned (.int .i64 (placeI l s))∧w=w':=by
 have hrH:=Lib.hid hr
 have hl:=Lib.hid hr.len
 clear hr
 go_enter Tryz.func235,Tryz.ntmps235
 go_wp2_with fail
 go_loopw [8] (fun iv wr=> ∃ i:Nat,i≤n∧iv= .int .i64 i∧Hid (i≤placeN s l)∧w=wr) (fun iv _=>n-(intOf iv).toNat)
 case atStart=>exact⟨0,Nat.zero_le _,rfl,Nat.zero_le _,rfl⟩
 case round=>
  obtain⟨i,hi,rfl,hp,rfl⟩:=hrel
  by_cases hin:i<n
  ·have hinI:(i:Int)<(n:Int):=by omega
   obtain⟨b,o,x,rfl,hb0,hx,g0⟩:=hrH.out.str hin
   cases hq:sq x s with
   |true=>
    have he:=placeN_stop s l i x hx hp.out hq
    have hres:Hid (placeI l s=(i:Int)):=by show _=_;unfold placeI;rw [he,if_pos (by rw [hl.out];exact hin)]
    rw [sq_comm] at hq
    unfold sq at hq
    clear he hx hp
    go_wp2_with fail
    go_returns
    exact⟨by rw [hres.out];rfl,rfl⟩
   |false=>
    have hnx:Hid (i+1≤placeN s l):=placeN_go s l i x hx hp.out hq
    rw [sq_comm] at hq
    unfold sq at hq
    clear hx hp
    go_wp2_with fail
    go_roundw
    case rel=>exact⟨i+1,by omega,by go_num,hnx,trivial⟩
    case measure=>simp [intOf];omega
  ·obtain rfl:i=n:=by omega
   have hres:Hid (placeI l s= -1):=by show _=_;unfold placeI;rw [if_neg (by have:=hp.out;have:=placeN_le s l;rw [hl.out] at*;omega)]
   clear hp
   go_wp2_with fail
   go_returns
   exact⟨by rw [hres.out];rfl,rfl⟩
theorem placeI_ge (l:List Str) (s:Str):decide (placeI l s≥0)=l.any (sq · s):=by
 have:=placeI_nonneg (l:=l) (s:=s)
 by_cases h:0≤placeI l s
 ·rw [this.1 h];exact decide_eq_true h
 ·cases hq:l.any (sq · s) with
  |true=>exact absurd (this.2 hq) h
  |false=>exact decide_eq_false h
theorem ctStr_any (A:Option Addr) (n c:Nat) (l:List Str) (s:Str) (w:World) (hr:Rd w 1 strE A n l) (hn:n≤1099511627776):
 Calls Tryz.prog 246 #[.slice A n c,.string s] w fun e w'=>e= .returned (.bool (l.any (sq · s)))∧w=w':=by
 have h:=Lib.hid (ixStr_any A n c l s w hr hn)
 have hg:=Lib.hid (placeI_ge l s)
 clear hr
 go_enter Tryz.func246,Tryz.ntmps246
 go_wp2_with fail
 refine h.out.mono ?_;rintro e w' ⟨rfl,rfl⟩
 obtain⟨q,hq⟩: ∃ q,placeI l s=q:=⟨_,rfl⟩
 rw [hq] at hg ⊢
 go_wp2_with fail
 go_returns
 exact⟨ret_bool hg.out,rfl⟩
theorem resv_fields:(Lib.fields [104,111,114,105,122,111,110,32,115,116,111,112,32,112,97,116,104,32,100,111,111,114,32,114,111,117,116,101,32,116,114,105,112,32,104,97,122,97,114,100,32,102,114,111,109,32,101,118,101,114,121,32,111,112,101,110,32,99,108,111,115,101,100,32,111,102,32,111,110,32,117,110,116,105,108,32,115,116,97,121]).map (fun l=>Value.string ⟨l.toArray⟩)=resv.flatMap strE:=by rfl
set_option maxRecDepth 100000 in
theorem lresv_any (s:Str) (w:World) (hsp:Sp w):Calls Tryz.prog 229 #[.string s] w fun e w'=>e= .returned (.bool (resB s))∧Below w.heap.size w w':=by
 have hF:=Any.strings_Fields_core fieldsL (by kernel_rfl) ⟨#[104,111,114,105,122,111,110,32,115,116,111,112,32,112,97,116,104,32,100,111,111,114,32,114,111,117,116,101,32,116,114,105,112,32,104,97,122,97,114,100,32,102,114,111,109,32,101,118,101,114,121,32,111,112,101,110,32,99,108,111,115,101,100,32,111,102,32,111,110,32,117,110,116,105,108,32,115,116,97,121]⟩ w (by decide) (fun j b h=>(by decide: ∀ b∈([104,111,114,105,122,111,110,32,115,116,111,112,32,112,97,116,104,32,100,111,111,114,32,114,111,117,116,101,32,116,114,105,112,32,104,97,122,97,114,100,32,102,114,111,109,32,101,118,101,114,121,32,111,112,101,110,32,99,108,111,115,101,100,32,111,102,32,111,110,32,117,110,116,105,108,32,115,116,97,121]:List UInt8),b.toNat<128) b (List.mem_of_getElem? h)) hsp
 have hF':Calls Tryz.prog 247 #[.string ⟨#[104,111,114,105,122,111,110,32,115,116,111,112,32,112,97,116,104,32,100,111,111,114,32,114,111,117,116,101,32,116,114,105,112,32,104,97,122,97,114,100,32,102,114,111,109,32,101,118,101,114,121,32,111,112,101,110,32,99,108,111,115,101,100,32,111,102,32,111,110,32,117,110,116,105,108,32,115,116,97,121]⟩] w fun e w'=>e= .returned (.slice (some ⟨w.heap.size,0,none⟩) 15 15)∧w'=w.alloc (.cells (resv.flatMap strE).toArray 9):=by
  rw [←resv_fields];exact hF
 have hFH:=Lib.hid hF'
 have hb1:Hid (Below w.heap.size w (w.alloc (.cells (resv.flatMap strE).toArray 9))):=(Below.refl _ w).alloc (Nat.le_refl _) _
 have hR0:=Lib.hid (Rd.lit w 1 strE strE_len 9 resv)
 obtain⟨w1,hw1⟩: ∃ q,w.alloc (.cells (resv.flatMap strE).toArray 9)=q:=⟨_,rfl⟩
 rw [hw1] at hb1 hR0 hFH
 clear hF hF' hw1 hsp
 go_enter Tryz.func229,Tryz.ntmps229
 go_wp2_with fail
 refine hFH.out.mono ?_;rintro e w' ⟨rfl,rfl⟩
 go_wp2_with fail
 refine(ctStr_any _ 15 15 resv s _ hR0.out (by omega)).mono ?_;rintro e w' ⟨rfl,rfl⟩
 go_wp2_with fail
 go_returns
 exact⟨rfl,hb1.out⟩
theorem lname_any (s:Str) (w:World) (hsp:Sp w):Calls Tryz.prog 166 #[.string s] w fun e w'=>e= .returned (.bool (nameB s))∧Below w.heap.size w w':=by
 have hrs:=Lib.hid (fun w (h:Sp w)=>lresv_any s w h)
 have hspH:=Lib.hid hsp
 have hl:s.data.toList.length=s.size:=by simp
 by_cases h0:s.size=0
 ·have e0:s.toList.isEmpty=true:=by rw [Lib.toList_data,List.isEmpty_iff,←List.length_eq_zero_iff,hl,h0]
  have hw:Hid (nameB s=false):=by show _=_;unfold nameB wordB;simp [h0]
  rw [hw.out]
  clear h0 hl
  go_enter Tryz.func166,Tryz.ntmps166
  go_wp2_with fail
  go_returns
  exact⟨rfl,Below.refl _ _⟩
 have e0:s.toList.isEmpty=false:=by
  rw [Lib.toList_data,Bool.eq_false_iff]
  intro h
  rw [List.isEmpty_iff,←List.length_eq_zero_iff,hl] at h
  exact h0 h
 by_cases h24:24<s.size
 ·have e1:decide ((24:Int)<(s.size:Int))=true:=decide_eq_true (by omega)
  have e1':decide (24<s.size)=true:=decide_eq_true h24
  have hw:Hid (nameB s=false):=by show _=_;unfold nameB wordB;rw [decide_eq_false (show ¬ s.size≤24 by omega)];simp
  rw [hw.out]
  go_enter Tryz.func166,Tryz.ntmps166
  go_wp2_with fail
  go_returns
  exact⟨rfl,Below.refl _ _⟩
 have e1:decide ((24:Int)<(s.size:Int))=false:=decide_eq_false (by omega)
 have e1':decide (24<s.size)=false:=decide_eq_false h24
 have hpos:0<s.size:=by omega
 have hgo:=Lib.hid (wordB_go h0 (by omega))
 have hN:nameB s=(wordB s&& !resB s):=rfl
 rw [hgo.out] at hN
 obtain⟨a,ha⟩: ∃ q,letB ((s[0]'hpos).toNat :Int)=q:=⟨_,rfl⟩
 obtain⟨r,hr⟩: ∃ q,resB s=q:=⟨_,rfl⟩
 rw [ha,hr] at hN
 rw [hr] at hrs
 have hall:=Lib.hid (runN_all s.data.toList)
 rw [←hall.out,hl] at hN
 have hNH:=Lib.hid hN
 have haH:Hid (letB ((s[0]'hpos).toNat :Int)=a):=ha
 clear h0 ha hgo hN hr hl hall hsp
 cases a with
 |false=>
  rw [hNH.out]
  go_enter Tryz.func166,Tryz.ntmps166
  go_wp2_with fail
  refine(lclass_any _ _).mono ?_;rintro e w' ⟨rfl,rfl⟩
  have hq:=clsI_let ((s[0]'hpos).toNat :Int)
  rw [haH.out] at hq
  obtain⟨q,hqe⟩: ∃ q,clsI ((s[0]'hpos).toNat :Int)=q:=⟨_,rfl⟩
  rw [hqe] at hq ⊢
  go_wp2_with fail
  go_returns
  exact⟨by simp,Below.refl _ _⟩
 |true=>
  cases r with
  |true=>
   rw [hNH.out]
   go_enter Tryz.func166,Tryz.ntmps166
   go_wp2_with fail
   refine(lclass_any _ _).mono ?_;rintro e w' ⟨rfl,rfl⟩
   have hq:=clsI_let ((s[0]'hpos).toNat :Int)
   rw [haH.out] at hq
   obtain⟨q,hqe⟩: ∃ q,clsI ((s[0]'hpos).toNat :Int)=q:=⟨_,rfl⟩
   rw [hqe] at hq ⊢
   go_wp2_with fail
   refine(hrs.out _ hspH.out).mono ?_;rintro e w' ⟨rfl,hb⟩
   have hbH:=Lib.hid hb
   clear hb
   go_wp2_with fail
   go_returns
   exact⟨by simp,hbH.out⟩
  |false=>
   rw [hNH.out]
   go_enter Tryz.func166,Tryz.ntmps166
   go_wp2_with fail
   refine(lclass_any _ _).mono ?_;rintro e w' ⟨rfl,rfl⟩
   have hq:=clsI_let ((s[0]'hpos).toNat :Int)
   rw [haH.out] at hq
   obtain⟨q,hqe⟩: ∃ q,clsI ((s[0]'hpos).toNat :Int)=q:=⟨_,rfl⟩
   rw [hqe] at hq ⊢
   go_wp2_with fail
   refine(hrs.out _ hspH.out).mono ?_;rintro e w' ⟨rfl,hb⟩
   have hbH:=Lib.hid hb
   clear hb
   go_wp2_with fail
   refine(lrun_any s _ (by omega)).mono ?_;rintro e w'' ⟨rfl,rfl⟩
   go_wp2_with fail
   go_returns
   exact⟨ret_bool (by rw [Bool.eq_iff_iff];simp;omega),hbH.out⟩
end Go.Proofs.YtechdefolfboeaaGreatDoor
