/- Merged. -/
import Derived.Test.YtechdefolfboeaaGreatDoorPd8
import Derived.Test.YtechdefolfboeaaGreatDoorPd9
import Derived.Test.YtechdefolfboeaaGreatDoorPd10
import Derived.Test.YtechdefolfboeaaGreatDoorPd11
set_option linter.unusedVariables false
set_option linter.unusedSimpArgs false
set_option maxRecDepth 100000
set_option maxHeartbeats 2000000
namespace Go.Proofs.YtechdefolfboeaaGreatDoor
open Go.RowKit B
def Sp (w:World):Prop:= ∀ c:Nat,c<256 ->w.cell? ⟨0,c,none⟩=some (.int .u8 (if Lib.isSp (UInt8.ofNat c) then 1 else 0))
theorem Sp.below {w w':World} (h:Sp w) (k:Below w.heap.size w w'):Sp w':=fun c f=>(k.cell (p:=⟨0,c,none⟩) (World.block_lt_of_cell? w ⟨0,c,none⟩ (h c f))).trans (h c f)
def clsI (c:Int):Int:=if letB c then 1 else if digB c then 2 else if c=45∨c=95 then 3 else 0
theorem iG_ (c:Int):(clsI c !=0)=cy_ c:=by
 unfold clsI cy_
 cases letB c with
 |true=>rfl
 |false=>
  cases digB c with
  |true=>rfl
  |false=>
   by_cases h:c=45∨c=95
   ·rcases h with rfl|rfl<;>decide
   ·have f:c≠45:=fun e=>h (.inl e);have g:c≠95:=fun e=>h (.inr e);simp [h,f,g]
theorem gu_ (c:Int):(clsI c !=1)= !letB c:=by
 unfold clsI
 cases letB c with
 |true=>rfl
 |false=>
  cases digB c with
  |true=>rfl
  |false=>by_cases h:c=45∨c=95<;>simp [h]
theorem dI_ (c:Int) (w:World):Calls Tryz.prog 228 #[.int .u8 c] w fun e w'=>e= .returned (.int .i64 (clsI c))/\w=w':=by
 have y: ∀ (f g j n p q:Bool),decide (97<=c)=f ->decide (c<=122)=g ->decide (48<=c)=j ->decide (c<=57)=n ->(c==45)=p ->(c==95)=q ->
  Calls Tryz.prog 228 #[.int .u8 c] w fun e w'=>e= .returned (.int .i64 (if(f&&g) then 1 else if(j&&n) then 2 else if(p||q) then 3 else 0))/\w=w':=by
  intro f g j n p q h1 h2 h3 h4 h5 h6
  cases f<;>cases g<;>cases j<;>cases n<;>cases p<;>cases q<;>
   (go_enter Tryz.func228,Tryz.ntmps228
    go_wp2
    go_returns;exact⟨rfl,rfl⟩)
 refine(y _ _ _ _ _ _ rfl rfl rfl rfl rfl rfl).mono ?_;rintro e w' ⟨rfl,rfl⟩;refine⟨?_,rfl⟩;unfold clsI letB digB;by_cases h:c=45∨c=95<;>simp_all
theorem gV_ (x:Int) (w:World):Calls Tryz.prog 231 #[.int .i64 x] w fun e w'=>e= .returned (.bool (x !=0))/\w=w':=by
 go_enter Tryz.func231,Tryz.ntmps231
 go_wp2
 go_returns;exact⟨rfl,rfl⟩
def runN:List UInt8 ->Nat
 |[]=>0
 |b::l=>if cy_ (b.toNat:Int) then runN l+1 else 0
theorem ks_: ∀ l:List UInt8,runN l<=l.length
 |[]=>Nat.le_refl _
 |b::l=>by have:=ks_ l;unfold runN;split<;>simp;omega
theorem ii_: ∀ (l:List UInt8) (i:Nat) (b:UInt8),l[i]?=some b ->i<=runN l ->cy_ (b.toNat:Int)=false ->runN l=i
 |[],i,b,h,_,_=>by simp at h
 |y::l,0,b,h,hi,hb=>by simp at h;subst h;unfold runN;rw [hb];rfl
 |y::l,i+1,b,h,hi,hb=>by
  unfold runN at hi ⊢;split
  ·rename_i h1;rw [if_pos h1] at hi;rw [ii_ l i b (by simpa using h) (by omega) hb]
  ·rename_i h1;rw [if_neg h1] at hi;omega
theorem kr_: ∀ (l:List UInt8) (i:Nat) (b:UInt8),l[i]?=some b ->i<=runN l ->cy_ (b.toNat:Int)=true ->i+1<=runN l
 |[],i,b,h,_,_=>by simp at h
 |y::l,0,b,h,hi,hb=>by simp at h;subst h;unfold runN;rw [if_pos hb];omega
 |y::l,i+1,b,h,hi,hb=>by
  unfold runN at hi ⊢;split
  ·rename_i h1;rw [if_pos h1] at hi;have:=kr_ l i b (by simpa using h) (by omega) hb;omega
  ·rename_i h1;rw [if_neg h1] at hi;omega
theorem jm_: ∀ l:List UInt8,decide (runN l=l.length)=l.all fun b=>cy_ (b.toNat:Int)
 |[]=>rfl
 |b::l=>by
  have:=jm_ l;unfold runN;rw [List.all_cons]
  cases h:cy_ (b.toNat:Int) with
  |true=>rw [if_pos rfl,Bool.true_and, <-this];simp
  |false=>simp
theorem nS_ (s:Str) (w:World) (hs:s.size<=100):Calls Tryz.prog 230 #[.string s,.func (.func 231) #[] #[]] w fun e w'=>e= .returned (.int .i64 (runN s.data.toList:Nat))/\w=w':=by
 go_enter Tryz.func230,Tryz.ntmps230
 go_wp2
 go_loopw [5] (fun z wr=> ∃ k:Nat,k<=s.size/\z= .int .i64 k/\Hd (k<=runN s.data.toList)/\w=wr) (fun z _=>s.size-(intOf z).toNat)
 ·exact⟨0,Nat.zero_le _,rfl,Nat.zero_le _,rfl⟩
 ·obtain⟨k,hk,rfl,y,rfl⟩:=hrel;by_cases p:k<s.size
  ·have aA:(k:Int)<(s.size:Int):=by omega
   have g:=jq_ s k p;obtain⟨a,j⟩:=e_ (cy_ ((s[k]'p).toNat :Int));have n:=H_ j
   cases a with
   |false=>
    have f:=H_ (ii_ _ k _ g y.o j);clear g j;go_wp2_with fail;refine(dI_ _ _).mono ?_;rintro e w' ⟨rfl,rfl⟩;go_wp2_with fail;refine(gV_ _ _).mono ?_;rintro e w' ⟨rfl,rfl⟩;rw [iG_,n.o]
    go_wp2
    go_returns;exact⟨by rw [f.o]<;>rfl,rfl⟩
   |true=>
    have q:=H_ (kr_ _ k _ g y.o j);clear g j;go_wp2_with fail;refine(dI_ _ _).mono ?_;rintro e w' ⟨rfl,rfl⟩;go_wp2_with fail;refine(gV_ _ _).mono ?_;rintro e w' ⟨rfl,rfl⟩;rw [iG_,n.o]
    go_wp2
    go_roundw
    ·exact⟨k+1,by omega,by go_num,q,trivial⟩
    ·simp [intOf];omega
  ·have f:Hd (runN s.data.toList=k):=by
    have:=ks_ s.data.toList;have h2:s.data.toList.length=s.size:=by simp
    have:=y.o;show _=_;omega
   go_wp2
   go_returns;exact⟨by rw [f.o]<;>rfl,rfl⟩
theorem ku_ (x s:Str):sq x s=sq s x:=by unfold sq;exact Bool.beq_comm
theorem hZ_ (A:Option Addr) (n c:Nat) (l:List Str) (s:Str) (w:World) (hr:Rd w 1 strE A n l) (hn:n<=1099511627776):
 Calls Tryz.prog 235 #[.slice A n c,.string s] w fun e w'=>e= .returned (.int .i64 (ai_ l s))/\w=w':=by
 have z:=H_ hr;have G:=H_ hr.len;clear hr;go_enter Tryz.func235,Tryz.ntmps235
 go_wp2
 go_loopw [8] (fun D wr=> ∃ i:Nat,i<=n/\D= .int .i64 i/\Hd (i<=bz_ s l)/\w=wr) (fun D _=>n-(intOf D).toNat)
 ·exact⟨0,Nat.zero_le _,rfl,Nat.zero_le _,rfl⟩
 ·obtain⟨i,hi,rfl,g,rfl⟩:=hrel;by_cases p:i<n
  ·have aA:(i:Int)<(n:Int):=by omega
   obtain⟨b,o,x,rfl,aB,q,g0⟩:=z.o.str p
   cases j:sq x s with
   |true=>
    have F:=d1_ s l i x q g.o j;have f:Hd (ai_ l s=(i:Int)):=by show _=_;unfold ai_;rw [F,if_pos (by rw [G.o];exact p)]
    rw [ku_] at j;unfold sq at j;clear F q g
    go_wp2
    go_returns;exact⟨by rw [f.o];rfl,rfl⟩
   |false=>
    have y:Hd (i+1<=bz_ s l):=fO_ s l i x q g.o j;rw [ku_] at j;unfold sq at j;clear q g
    go_wp2
    go_roundw
    ·exact⟨i+1,by omega,by go_num,y,trivial⟩
    ·simp [intOf];omega
  ·obtain rfl:i=n:=by omega
   have f:Hd (ai_ l s= -1):=by show _=_;unfold ai_;rw [if_neg (by have:=g.o;have:=fP_ s l;rw [G.o] at*;omega)]
   clear g
   go_wp2
   go_returns;exact⟨by rw [f.o];rfl,rfl⟩
theorem mJ_ (l:List Str) (s:Str):decide (ai_ l s>=0)=l.any (sq · s):=by
 have:=ei_ (l:=l) (s:=s);by_cases h:0<=ai_ l s
 ·rw [this.1 h];exact T_ h
 ·cases f:l.any (sq · s) with
  |true=>exact absurd (this.2 f) h
  |false=>exact F_ h
theorem l3_ (A:Option Addr) (n c:Nat) (l:List Str) (s:Str) (w:World) (hr:Rd w 1 strE A n l) (hn:n<=1099511627776):
 Calls Tryz.prog 246 #[.slice A n c,.string s] w fun e w'=>e= .returned (.bool (l.any (sq · s)))/\w=w':=by
 have h:=H_ (hZ_ A n c l s w hr hn);have f:=H_ (mJ_ l s);clear hr;go_enter Tryz.func246,Tryz.ntmps246;go_wp2_with fail;refine h.o.mono ?_;rintro e w' ⟨rfl,rfl⟩;obtain⟨q,g⟩:=e_ (ai_ l s);rw [g] at f ⊢
 go_wp2
 go_returns;exact⟨am_ f.o,rfl⟩
theorem jY_:(Lib.fields [104,111,114,105,122,111,110,32,115,116,111,112,32,112,97,116,104,32,100,111,111,114,32,114,111,117,116,101,32,116,114,105,112,32,104,97,122,97,114,100,32,102,114,111,109,32,101,118,101,114,121,32,111,112,101,110,32,99,108,111,115,101,100,32,111,102,32,111,110,32,117,110,116,105,108,32,115,116,97,121]).map (fun l=>Value.string ⟨l.toArray⟩)=resv.flatMap strE:=by rfl
set_option maxRecDepth 100000 in
theorem mq_ (s:Str) (w:World) (hsp:Sp w):Calls Tryz.prog 229 #[.string s] w (rb_ (.bool (resB s)) w):=by
 have z:=Any.strings_Fields_core oN_ (by kernel_rfl) ⟨#[104,111,114,105,122,111,110,32,115,116,111,112,32,112,97,116,104,32,100,111,111,114,32,114,111,117,116,101,32,116,114,105,112,32,104,97,122,97,114,100,32,102,114,111,109,32,101,118,101,114,121,32,111,112,101,110,32,99,108,111,115,101,100,32,111,102,32,111,110,32,117,110,116,105,108,32,115,116,97,121]⟩ w (by decide) (fun j b h=>(by decide: ∀ b∈([104,111,114,105,122,111,110,32,115,116,111,112,32,112,97,116,104,32,100,111,111,114,32,114,111,117,116,101,32,116,114,105,112,32,104,97,122,97,114,100,32,102,114,111,109,32,101,118,101,114,121,32,111,112,101,110,32,99,108,111,115,101,100,32,111,102,32,111,110,32,117,110,116,105,108,32,115,116,97,121]:List UInt8),b.toNat<128) b (List.mem_of_getElem? h)) hsp
 have f:Calls Tryz.prog 247 #[.string ⟨#[104,111,114,105,122,111,110,32,115,116,111,112,32,112,97,116,104,32,100,111,111,114,32,114,111,117,116,101,32,116,114,105,112,32,104,97,122,97,114,100,32,102,114,111,109,32,101,118,101,114,121,32,111,112,101,110,32,99,108,111,115,101,100,32,111,102,32,111,110,32,117,110,116,105,108,32,115,116,97,121]⟩] w fun e y=>e= .returned (.slice (some ⟨w.heap.size,0,none⟩) 15 15)/\y=w.alloc (.cells (resv.flatMap strE).toArray 9):=by
  rw [<-jY_];exact z
 have g:=H_ f;have p:Hd (Below w.heap.size w (w.alloc (.cells (resv.flatMap strE).toArray 9))):=(Below.refl _ w).alloc (Nat.le_refl _) _;have n:=H_ (Rd.lit w 1 strE ad_ 9 resv);obtain⟨w1,q⟩:=e_ (w.alloc (.cells (resv.flatMap strE).toArray 9));rw [q] at p n g;clear z f q hsp;go_enter Tryz.func229,Tryz.ntmps229;go_wp2_with fail;refine g.o.mono ?_;rintro e y ⟨rfl,rfl⟩;go_wp2_with fail;refine(l3_ _ 15 15 resv s _ n.o (by omega)).mono ?_;rintro e y ⟨rfl,rfl⟩
 go_wp2
 go_returns;exact⟨rfl,p.o⟩
theorem h3_ (s:Str) (w:World) (hsp:Sp w):Calls Tryz.prog 166 #[.string s] w (rb_ (.bool (aN_ s)) w):=by
 have F:=H_ (fun w (h:Sp w)=>mq_ s w h);have p:=H_ hsp;have N:s.data.toList.length=s.size:=by simp
 by_cases G:s.size=0
 ·have U:s.toList.isEmpty=true:=by rw [Lib.toList_data,List.isEmpty_iff, <-List.length_eq_zero_iff,N,G]
  have T:Hd (aN_ s=false):=by show _=_;unfold aN_ dn_;simp [G]
  rw [T.o];clear G N;go_enter Tryz.func166,Tryz.ntmps166
  go_wp2
  go_returns;exact⟨rfl,Below.refl _ _⟩
 have U:s.toList.isEmpty=false:=by
  rw [Lib.toList_data,Bool.eq_false_iff];intro h;rw [List.isEmpty_iff, <-List.length_eq_zero_iff,N] at h;exact G h
 by_cases J:24<s.size
 ·have X:decide ((24:Int)<(s.size:Int))=true:=T_ (by omega);have Q:decide (24<s.size)=true:=T_ J;have T:Hd (aN_ s=false):=by show _=_;unfold aN_ dn_;rw [F_ (show ¬ s.size<=24 by omega)];simp
  rw [T.o];go_enter Tryz.func166,Tryz.ntmps166
  go_wp2
  go_returns;exact⟨rfl,Below.refl _ _⟩
 have X:decide ((24:Int)<(s.size:Int))=false:=F_ (by omega);have Q:decide (24<s.size)=false:=F_ J;have f:0<s.size:=by omega
 have M:=H_ (jt_ G (by omega));have hN:aN_ s=(dn_ s&& !resB s):=rfl;rw [M.o] at hN;obtain⟨a,R⟩:=e_ (letB ((s[0]'f).toNat :Int));obtain⟨r,S⟩:=e_ (resB s);rw [R,S] at hN;rw [S] at F;have j:=H_ (jm_ s.data.toList);rw [<-j.o,N] at hN;have y:=H_ hN;have z:Hd (letB ((s[0]'f).toNat :Int)=a):=R;clear G R M hN S N j hsp
 cases a with
 |false=>
  rw [y.o];go_enter Tryz.func166,Tryz.ntmps166;go_wp2_with fail;refine(dI_ _ _).mono ?_;rintro e P ⟨rfl,rfl⟩;have n:=gu_ ((s[0]'f).toNat :Int);rw [z.o] at n;obtain⟨q,g⟩:=e_ (clsI ((s[0]'f).toNat :Int));rw [g] at n ⊢
  go_wp2
  go_returns;exact⟨by simp,Below.refl _ _⟩
 |true=>
  cases r with
  |true=>
   rw [y.o];go_enter Tryz.func166,Tryz.ntmps166;go_wp2_with fail;refine(dI_ _ _).mono ?_;rintro e P ⟨rfl,rfl⟩;have n:=gu_ ((s[0]'f).toNat :Int);rw [z.o] at n;obtain⟨q,g⟩:=e_ (clsI ((s[0]'f).toNat :Int));rw [g] at n ⊢;go_wp2_with fail;refine(F.o _ p.o).mono ?_;rintro e P ⟨rfl,L⟩;have D:=H_ L;clear L
   go_wp2
   go_returns;exact⟨by simp,D.o⟩
  |false=>
   rw [y.o];go_enter Tryz.func166,Tryz.ntmps166;go_wp2_with fail;refine(dI_ _ _).mono ?_;rintro e P ⟨rfl,rfl⟩;have n:=gu_ ((s[0]'f).toNat :Int);rw [z.o] at n;obtain⟨q,g⟩:=e_ (clsI ((s[0]'f).toNat :Int));rw [g] at n ⊢;go_wp2_with fail;refine(F.o _ p.o).mono ?_;rintro e P ⟨rfl,L⟩;have D:=H_ L;clear L;go_wp2_with fail;refine(nS_ s _ (by omega)).mono ?_;rintro e aA ⟨rfl,rfl⟩
   go_wp2
   go_returns;exact⟨am_ (by rw [Bool.eq_iff_iff];simp;omega),D.o⟩
end Go.Proofs.YtechdefolfboeaaGreatDoor
namespace Go.Proofs.YtechdefolfboeaaGreatDoor
open Go.RowKit B K
theorem fz_ (A:Option Addr) (n c:Nat) (l:List (Str)) (w:World) (hr:Rd w 1 strE A n l) (hn:n<=1099511627776):
 Calls Tryz.prog 133 #[.slice A n c] w fun e w'=> ∃ v,e= .returned v/\w'.ownsRow w.heap.size 9 1 v n (l.flatMap strE)/\Below w.heap.size w w':=by
 have qT: ∀ (w:World) (a:Option Addr) (n c q j:Nat),(binOp .eql 22 (.slice a n c) (.slice none q j)).run Tryz.prog w= .ok (.bool a.isNone) w:=fun w a n c q j=>Lib.run_eql_slice_nil w _ _ a n c q j Tryz.underlying22
 cases A with
 |none=>
  have p:n=0:=by
   rcases Nat.eq_zero_or_pos n with h|h
   ·exact h
   ·obtain⟨_,_,e,_⟩:=hr.cells h;cases e
  subst p;obtain rfl:l=[]:=List.eq_nil_of_length_eq_zero hr.len;go_enter Tryz.func133,Tryz.ntmps133
  go_wp2
  go_returns;exact⟨_,rfl,World.ownsRow_nil _ _ _ _,Below.refl _ _⟩
 |some a=>
  obtain⟨v,w1,f,own,y,_⟩:=a9_ (enc:=strE) Tryz.underlying22 ax_ rfl (by decide) ad_ aH_ c (l:=[]) (bW_ w w.heap.size 9 1 (Nat.le_refl _)) (hr.below ((Below.refl _ w).alloc (Nat.le_refl _) _)) (by simpa using hn) (by decide) (by simp);have z:Hd (Below w.heap.size w w1):=((Below.refl _ w).alloc (Nat.le_refl _) _).grown y (by simp) (fun k D=>by simp [Value.ownBlock] at D;omega);have hl:=H_ hr.len;simp only [List.length_nil,Nat.zero_add,List.nil_append] at f own;have own:=H_ own;rename_i g;clear g y;go_enter Tryz.func133,Tryz.ntmps133;go_wp2_with (at_builtin;refine ap_ (.tmp 5) (.tmp 6) 22 f ?_);go_returns;exact⟨v,rfl,own.o,z.o⟩
theorem ez_ (A:Option Addr) (n c:Nat) (l:List (Int)) (w:World) (hr:Rd w 1 (numE .i64) A n l) (hn:n<=1099511627776):
 Calls Tryz.prog 136 #[.slice A n c] w fun e w'=> ∃ v,e= .returned v/\w'.ownsRow w.heap.size 2 1 v n (l.flatMap (numE .i64))/\Below w.heap.size w w':=by
 have qT: ∀ (w:World) (a:Option Addr) (n c q j:Nat),(binOp .eql 45 (.slice a n c) (.slice none q j)).run Tryz.prog w= .ok (.bool a.isNone) w:=fun w a n c q j=>Lib.run_eql_slice_nil w _ _ a n c q j Tryz.underlying45
 cases A with
 |none=>
  have p:n=0:=by
   rcases Nat.eq_zero_or_pos n with h|h
   ·exact h
   ·obtain⟨_,_,e,_⟩:=hr.cells h;cases e
  subst p;obtain rfl:l=[]:=List.eq_nil_of_length_eq_zero hr.len;go_enter Tryz.func136,Tryz.ntmps136
  go_wp2
  go_returns;exact⟨_,rfl,World.ownsRow_nil _ _ _ _,Below.refl _ _⟩
 |some a=>
  obtain⟨v,w1,f,own,y,_⟩:=a9_ (enc:=(numE .i64)) Tryz.underlying45 bc_ rfl (by decide) aj_ bw_ c (l:=[]) (bW_ w w.heap.size 2 1 (Nat.le_refl _)) (hr.below ((Below.refl _ w).alloc (Nat.le_refl _) _)) (by simpa using hn) (by decide) (by simp);have z:Hd (Below w.heap.size w w1):=((Below.refl _ w).alloc (Nat.le_refl _) _).grown y (by simp) (fun k D=>by simp [Value.ownBlock] at D;omega);have hl:=H_ hr.len;simp only [List.length_nil,Nat.zero_add,List.nil_append] at f own;have own:=H_ own;rename_i g;clear g y;go_enter Tryz.func136,Tryz.ntmps136;go_wp2_with (at_builtin;refine ap_ (.tmp 5) (.tmp 6) 45 f ?_);go_returns;exact⟨v,rfl,own.o,z.o⟩
theorem fk_ (A:Option Addr) (n c:Nat) (l:List Str) (s:Str) (w:World) (hr:Rd w 1 strE A n l) (hn:n<=1099511627776):
 Calls Tryz.prog 183 #[.slice A n c,.string s] w (rb_ (.int .i64 (ai_ l s)) w):=by
 have h:=H_ (hZ_ A n c l s w hr hn);clear hr;go_enter Tryz.func183,Tryz.ntmps183;go_wp2_with fail;refine h.o.mono ?_;rintro e w' ⟨rfl,rfl⟩
 go_wp2
 go_returns;exact⟨rfl,Below.refl _ _⟩
theorem jd_ (a b n:Int) (w:World):Calls Tryz.prog 236 #[.int .i64 a,.int .i64 b,.int .i64 n] w (rb_ (.int .i64 (wayE a b n)) w):=by
 unfold wayE;by_cases g:a<0∨b<0
 ·rw [if_pos g];have p:decide (min a b<0)=true:=T_ (by omega);go_enter Tryz.func236,Tryz.ntmps236
  go_wp2
  go_returns;exact⟨rfl,Below.refl _ _⟩
 ·rw [if_neg g];have p:decide (min a b<0)=false:=F_ (by omega);by_cases f:a=b
  ·rw [if_pos (.inl f)];subst f;go_enter Tryz.func236,Tryz.ntmps236
   go_wp2
   go_returns;exact⟨rfl,Below.refl _ _⟩
  ·have aA:(a==b)=false:=by simp [f]
   by_cases j:n<1
   ·rw [if_pos (.inr j)];go_enter Tryz.func236,Tryz.ntmps236
    go_wp2
    go_returns;exact⟨rfl,Below.refl _ _⟩
   ·rw [if_neg (by omega)];go_enter Tryz.func236,Tryz.ntmps236
    go_wp2
    go_returns;exact⟨rfl,Below.refl _ _⟩
theorem hY_ (A:Option Addr) (n c:Nat) (l:List Int) (x:Int) (w:World) (hr:Rd w 1 (numE .i64) A n l) (hn:n<=1099511627776):
 Calls Tryz.prog 88 #[.slice A n c,.int .i64 x] w fun e w'=>e= .returned (.int .i64 (idx (fun y=>x==y) l))/\w=w':=by
 have F:=H_ hr;have M:=H_ hr.len;clear hr;go_enter Tryz.func88,Tryz.ntmps88
 go_wp2
 go_loopw [8] (fun G wr=> ∃ i:Nat,i<=n/\G= .int .i64 i/\Hd (∀ y∈l.take i,(x==y)=false)/\w=wr) (fun G _=>n-(intOf G).toNat)
 ·exact⟨0,Nat.zero_le _,rfl,fun y L=>by simp at L,rfl⟩
 ·obtain⟨i,hi,rfl,j,rfl⟩:=hrel;by_cases q:i<n
  ·have aA:(i:Int)<(n:Int):=by omega
   obtain⟨b,o,y,rfl,aB,p,g0⟩:=F.o.num q
   cases J:(x==y) with
   |true=>
    have f:=H_ (cn_ p j.o J);clear p j
    go_wp2
    go_returns;exact⟨by rw [f.o];rfl,rfl⟩
   |false=>
    have D:Hd (∀ z∈l.take (i+1),(x==z)=false):=fun z g=>by
     rw [an_ p,List.mem_append] at g;rcases g with g|g
     ·exact j.o z g
     ·simp only [List.mem_singleton] at g;subst g;exact J
    clear p j
    go_wp2
    go_roundw
    ·exact⟨i+1,by omega,by go_num,D,trivial⟩
    ·simp [intOf];omega
  ·have f:Hd (idx (fun y=>x==y) l= -1):=cx_ (fun y L=>j.o y (by rwa [List.take_of_length_le (by rw [M.o];omega)]));clear j
   go_wp2
   go_returns;exact⟨by rw [f.o];rfl,rfl⟩
theorem l2_ (A:Option Addr) (n c:Nat) (l:List Int) (x:Int) (w:World) (hr:Rd w 1 (numE .i64) A n l) (hn:n<=1099511627776):
 Calls Tryz.prog 238 #[.slice A n c,.int .i64 x] w fun e w'=>e= .returned (.bool (l.any fun y=>x==y))/\w=w':=by
 have h:=H_ (hY_ A n c l x w hr hn);have g:=H_ (cK_ (fun y=>x==y) l);clear hr;obtain⟨q,f⟩:=e_ (idx (fun y=>x==y) l);rw [f] at g h;clear f;go_enter Tryz.func238,Tryz.ntmps238;go_wp2_with fail;refine h.o.mono ?_;rintro e w' ⟨rfl,rfl⟩
 go_wp2
 go_returns;exact⟨am_ g.o,rfl⟩
structure KC (w:World) (bc bw:Nat) (M:ab_) (V:WV):Prop where
 cw:w.cell? ⟨bc,1,none⟩=some (.pointer (some ⟨bw,0,none⟩))
 bx:Bx w bw 31 [.int .i64 M.hz,.slice V.a0 V.n0 V.c0,.slice V.a1 V.n1 V.c1,.slice V.a2 V.n2 V.c2,.slice V.a3 V.n3 V.c3,.slice V.a4 V.n4 V.c4,.slice V.a5 V.n5 V.c5,.slice V.aP V.nP V.cP,.slice V.aD V.nD V.cD,.slice V.aR V.nR V.cR,.slice V.aT V.nT V.cT,.slice V.aH V.nH V.cH]
 rw:RW w M V
theorem KC.below {w w':World} {bc bw:Nat} {M:ab_} {V:WV} (h:KC w bc bw M V) (k:Below w.heap.size w w'):KC w' bc bw M V:=
 ⟨(k.cell (p:=⟨bc,1,none⟩) (World.block_lt_of_cell? w ⟨bc,1,none⟩ h.cw)).trans h.cw,h.bx.below k,h.rw.below k⟩
theorem mk_ (p:Value) (i:Int) (w:World):Calls Tryz.prog 198 #[p,.int .i64 i] w (RetE w true):=by
 go_enter Tryz.func198,Tryz.ntmps198
 go_wp2
 go_returns;exact RetE.yes rfl (Below.refl _ _)
theorem gT_ (bc bw:Nat) (M:ab_) (V:WV) (f v n:Int) (we:World) (h:KC we bc bw M V):Calls Tryz.prog 237 #[.pointer (some ⟨bc,0,none⟩),.agg #[.int .i64 f,.int .i64 v,.int .i64 n]] we (RetE we (bq_ f v n M.hz)):=by
 have j:=H_ (dO_ (f:=f) (v:=v) (n:=n) (h:=M.hz));unfold cq_ at j;have S:=H_ (ot_ f v n M.hz);obtain⟨r,U⟩:=e_ (cv_ f v n M.hz);rw [U] at S j;obtain⟨hz,G⟩:=e_ M.hz;obtain⟨w1,b1,aC,aA,P,J,L,aB⟩:=cm_ we 102 [.int .i64 f,.int .i64 v,.int .i64 n];have y:=h.below J.o;have N:=y.cw;have q:=y.bx.cell 0 rfl;rw [G] at q S j ⊢;have a:=World.block_lt_of_cell? w1 ⟨bc,1,none⟩ N;have b:=y.bx.lt;obtain⟨X,Y,Z⟩:=c_3 L;have T:=L.lt;clear y h G U L P;go_enter Tryz.func237,Tryz.ntmps237
 go_wp2
 refine wM_ w1.heap.size [0,0,0,0,0,0,0,0,2,4,4,4,4,4] (Nat.le_refl _) ?_;intro C y;simp only [af_,aV_,Nat.reduceLeDiff,Nat.reduceEqDiff, ↓reduceIte]
 repeat(go_big_quiet_step (first
  |(intro _;with_reducible rfl)
  |(intro F;simp only [c_ F T X,c_ F T Y,c_ F T Z,c_ F a N,c_ F b q,Result.andThen];exact⟨trivial,rfl⟩)))
 clear y;intro z g;clear g;intro c p;replace p:Below w1.heap.size w1 c:=by rw [p];exact⟨rfl,rfl,rfl,Nat.le_refl _,fun _ _=>rfl⟩
 have R:=H_ p;clear p X Y Z N q;refine as_ (by decide) ?_;go_wp2_with fail;refine(S.o _).mono ?_;rintro e w5 ⟨A2,c2,rfl,_,_,_,D⟩;have Q:=h_ J (b_ R D);clear D;go_wp2_with fail;refine⟨fun h=>absurd h (by decide),?_⟩;refine au_ ?_;intro z g
 repeat(go_big_quiet_step (first|(intro _;with_reducible rfl)))
 refine wpQuiet_nil ?_;clear g;refine au_ ?_;intro z g
 repeat(go_big_quiet_step (first|(intro _;with_reducible rfl)))
 refine wpQuiet_nil ?_;clear g;refine au_ ?_;intro z g
 repeat(go_big_quiet_step (first|(intro _;with_reducible rfl)))
 refine wpQuiet_nil ?_;clear g;refine au_ ?_;intro z g
 repeat(go_big_quiet_step (first|(intro _;with_reducible rfl)))
 refine wpQuiet_nil ?_;clear g;refine au_ ?_;intro z g
 repeat(go_big_quiet_step (first|(intro _;with_reducible rfl)))
 refine wpQuiet_nil ?_;clear g;refine aM_ _ _ _ (by simp) ?_;simp only [List.map_nil]
 go_wp2
 go_returns;exact⟨_,rfl,j.o,Q.o⟩
theorem ml_ (bc bw:Nat) (M:ab_) (V:WV) (i:Nat) (p:Int×Int×Int) (we:World) (h:KC we bc bw M V) (hi:M.paths[i]?=some p):Calls Tryz.prog 199 #[.pointer (some ⟨bc,0,none⟩),.int .i64 i] we (RetE we (wayB p.1 p.2.1 p.2.2)):=by
 obtain⟨a0,a1,a2,a3,a4,a5,aP,aD,aR,aT,aH,n0,n1,n2,n3,n4,n5,D,nD,nR,nT,nH,c0,c1,c2,c3,c4,c5,cP,cD,cR,cT,cH⟩:=V;have P:M.paths.length=D:=h.rw.rP.len;obtain⟨b,o,⟨G,J,L⟩,rfl,aB,F,g⟩:=h.rw.rP.get (show i<D by have:=(List.getElem?_eq_some_iff.1 hi).1;omega);obtain rfl:=Option.some.inj (F.symm.trans hi);have N:=g 0 _ rfl;have g1:=g 1 _ rfl;have g2:=g 2 _ rfl;simp only [Nat.add_zero] at N;have z:=H_ (List.getElem?_eq_some_iff.1 hi).1;have aC:(i:Int)<(D:Int):=by have h1:=z.o;omega
 clear g F hi P;have cw:=h.cw;have pz:=h.bx.cell 7 rfl;obtain⟨wa,ba,aE,aA,f,j⟩:=box1 we 99 [.int .i64 G,.int .i64 J,.int .i64 L];obtain⟨q0,q1,q2⟩:=c_3 j;have hC:=H_ (h.below f);have q:=H_ f;clear h f j;go_enter Tryz.func199,Tryz.ntmps199;go_wp2_with fail;refine(jd_ G J L _).mono ?_;rintro e w2 ⟨rfl,n⟩;have y:=h_ q n;clear n
 go_wp2
 go_returns;exact⟨_,rfl,dZ_,y.o⟩
theorem mj_ (bc bw:Nat) (M:ab_) (V:WV) (i:Nat) (d:cc_) (we:World) (h:KC we bc bw M V) (hi:M.doors[i]?=some d):Calls Tryz.prog 200 #[.pointer (some ⟨bc,0,none⟩),.int .i64 i] we (RetE we (wayB d.a d.b d.len&&bq_ d.fr d.ev d.du M.hz)):=by
 obtain⟨a0,a1,a2,a3,a4,a5,aP,aD,aR,aT,aH,n0,n1,n2,n3,n4,n5,nP,S,nR,nT,nH,c0,c1,c2,c3,c4,c5,cP,cD,cR,cT,cH⟩:=V;have ht:=H_ (fun(w:World) h=>gT_ bc bw M ⟨a0,a1,a2,a3,a4,a5,aP,aD,aR,aT,aH,n0,n1,n2,n3,n4,n5,nP,S,nR,nT,nH,c0,c1,c2,c3,c4,c5,cP,cD,cR,cT,cH⟩ d.fr d.ev d.du w h);have hL:M.doors.length=S:=h.rw.rD.len;obtain⟨b,o,⟨J,L,N,x4,x5,x6⟩,rfl,aB,s,g⟩:=h.rw.rD.get (show i<S by have:=(List.getElem?_eq_some_iff.1 hi).1;omega);obtain rfl:=Option.some.inj (s.symm.trans hi);have g0:=g 0 _ rfl;have g1:=g 1 _ rfl;have g2:=g 2 _ rfl;have g3:=g 3 _ rfl;have g4:=g 4 _ rfl;have g5:=g 5 _ rfl;simp only [Nat.add_zero] at g0;have X:=H_ (List.getElem?_eq_some_iff.1 hi).1;have aC:(i:Int)<(S:Int):=by have h1:=X.o;omega
 clear g s hi hL;have cw:=h.cw;have pz:=h.bx.cell 8 rfl;obtain⟨Z,T,aF,aA,j,P⟩:=box1 we 104 [.int .i64 J,.int .i64 L,.int .i64 N,.int .i64 x4,.int .i64 x5,.int .i64 x6];obtain⟨q0,q1,q2,q3,q4,q5⟩:=c_6 P;have hC:=H_ (h.below j);have z:=H_ j;clear h j P;have G:=H_ (dZ_ (a:=J) (b:=L) (n:=N));obtain⟨q,r⟩:=e_ (wayE J L N);have F:=H_ (fun w=>jd_ J L N w);rw [r] at G F;clear r;by_cases p:q=0
 ·subst p;have Y:Hd (wayB J L N=true):=G.o.1 rfl;go_enter Tryz.func200,Tryz.ntmps200;go_wp2_with fail;refine(F.o _).mono ?_;rintro e w2 ⟨rfl,f⟩;have aG:=c_ f (World.block_lt_of_cell? Z ⟨T,_,none⟩ q3) q3;have aI:=c_ f (World.block_lt_of_cell? Z ⟨T,_,none⟩ q4) q4;have aJ:=c_ f (World.block_lt_of_cell? Z ⟨T,_,none⟩ q5) q5;have y:=H_ f;clear f;go_wp2_with fail;refine(ht.o w2 (hC.o.below y.o)).mono ?_;rintro e w3 ⟨c,rfl,k,Q⟩;have D:=h_ z (b_ y Q);have U:=H_ k;clear Q k
  go_wp2
  go_returns;exact⟨_,rfl,by rw [Y.o];simpa using U.o,D.o⟩
 ·have aE:(q !=0)=true:=by simp [p]
  have Y:Hd (wayB J L N=false):=by
   show _=_
   cases h:wayB J L N with
   |true=>exact absurd (G.o.2 h) p
   |false=>rfl
  have R:=H_ p;clear p;go_enter Tryz.func200,Tryz.ntmps200;go_wp2_with fail;refine(F.o _).mono ?_;rintro e w2 ⟨rfl,f⟩;have D:=h_ z f;clear f
  go_wp2
  go_returns;exact RetE.no R.o (by rw [Y.o];rfl) D.o
theorem mm_ (bc bw:Nat) (M:ab_) (V:WV) (i:Nat) (d:bM_) (we:World) (h:KC we bc bw M V) (hi:M.trips[i]?=some d):Calls Tryz.prog 202 #[.pointer (some ⟨bc,0,none⟩),.int .i64 i] we (RetE we (decide (0<=d.route)&&decide (d.fr<=d.un))):=by
 obtain⟨a0,a1,a2,a3,a4,a5,aP,aD,aR,aT,aH,n0,n1,n2,n3,n4,n5,nP,nD,nR,q,nH,c0,c1,c2,c3,c4,c5,cP,cD,cR,cT,cH⟩:=V;have L:M.trips.length=q:=h.rw.rT.len;obtain⟨b,o,⟨z,D,N,F⟩,rfl,aB,y,j⟩:=h.rw.rT.get (show i<q by have:=(List.getElem?_eq_some_iff.1 hi).1;omega);obtain rfl:=Option.some.inj (y.symm.trans hi);have G:=j 0 _ rfl;have g1:=j 1 _ rfl;have g2:=j 2 _ rfl;have g3:=j 3 _ rfl;simp only [Nat.add_zero] at G;have p:=H_ (List.getElem?_eq_some_iff.1 hi).1;have aC:(i:Int)<(q:Int):=by have J:=p.o;omega
 clear j y hi L;have cw:=h.cw;have pz:=h.bx.cell 10 rfl;obtain⟨wa,ba,aE,aA,g,n⟩:=box1 we 53 [.int .i64 z,.int .i64 D,.int .i64 N,.int .i64 F];obtain⟨q0,q1,q2,q3⟩:=c_4 n;have hC:=H_ (h.below g);have f:=H_ g;clear h g n;by_cases J:z<0
 ·go_enter Tryz.func202,Tryz.ntmps202
  go_wp2
  go_returns;exact RetE.no (by decide) (by simp;omega) f.o
 ·by_cases h2:F<D
  ·go_enter Tryz.func202,Tryz.ntmps202
   go_wp2
   go_returns;exact RetE.no (by decide) (by simp;omega) f.o
  ·go_enter Tryz.func202,Tryz.ntmps202
   go_wp2
   go_returns;exact RetE.yes rfl f.o
theorem jG_ (bc bw:Nat) (M:ab_) (V:WV) (i:Nat) (d:HazP) (we:World) (h:KC we bc bw M V) (hi:M.hazs[i]?=some d):Calls Tryz.prog 203 #[.pointer (some ⟨bc,0,none⟩),.int .i64 i] we (RetE we (decide (0<=d.on)&&bq_ d.fr d.ev d.du M.hz)):=by
 obtain⟨L,N,P,Q,R,S,X,T,Y,Z,U,n0,n1,n2,n3,n4,n5,nP,nD,nR,nT,q,a,k,r,s,c4,c5,cP,cD,cR,cT,cH⟩:=V;have ht:=H_ (fun(w:World) h=>gT_ bc bw M ⟨L,N,P,Q,R,S,X,T,Y,Z,U,n0,n1,n2,n3,n4,n5,nP,nD,nR,nT,q,a,k,r,s,c4,c5,cP,cD,cR,cT,cH⟩ d.fr d.ev d.du w h);have hL:M.hazs.length=q:=h.rw.rH.len;obtain⟨b,o,⟨x1,y,x3,x4,x5⟩,rfl,aB,J,f⟩:=h.rw.rH.get (show i<q by have:=(List.getElem?_eq_some_iff.1 hi).1;omega);obtain rfl:=Option.some.inj (J.symm.trans hi);have g0:=f 0 _ rfl;have g1:=f 1 _ rfl;have g2:=f 2 _ rfl;have g3:=f 3 _ rfl;have g4:=f 4 _ rfl;simp only [Nat.add_zero] at g0;have F:=H_ (List.getElem?_eq_some_iff.1 hi).1;have aC:(i:Int)<(q:Int):=by have h1:=F.o;omega
 clear f J hi hL;have cw:=h.cw;have pz:=h.bx.cell 11 rfl;obtain⟨wa,ba,aE,aA,g,n⟩:=box1 we 108 [.bool x1,.int .i64 y,.int .i64 x3,.int .i64 x4,.int .i64 x5];obtain⟨q0,q1,q2,q3,q4⟩:=c_5 n;have hC:=H_ (h.below g);have j:=H_ g;clear h g n;by_cases h1:y<0
 ·go_enter Tryz.func203,Tryz.ntmps203
  go_wp2
  go_returns;exact RetE.no (by decide) (by rw [F_ (show ¬ 0<=y by omega)];rfl) j.o
 ·go_enter Tryz.func203,Tryz.ntmps203;go_wp2_with fail;refine(ht.o wa hC.o).mono ?_;rintro e w3 ⟨c,rfl,G,p⟩;have z:=h_ j p;have D:=H_ G;clear p G
  go_wp2
  go_returns;exact⟨_,rfl,by rw [T_ (show 0<=y by omega)];simpa using D.o,z.o⟩
theorem kS_ (bc bw:Nat) (M:ab_) (V:WV) (i:Nat) (r:ba_) (we:World) (h:KC we bc bw M V) (hi:M.routes[i]?=some r) (hl:r.rides.length+1=r.stops.length) (hs: ∀ s∈r.stops, -1<=s) (hm:r.stops.length<=100000):
 Calls Tryz.prog 201 #[.pointer (some ⟨bc,0,none⟩),.int .i64 i] we (RetE we (bR_ r)):=by
 obtain⟨a0,a1,a2,a3,a4,a5,aP,aD,aR,aT,aH,n0,Y,X,n3,n4,n5,nP,nD,nR,nT,nH,c0,c1,c2,c3,c4,c5,cP,cD,cR,cT,cH⟩:=V;have hL:M.routes.length=nR:=h.rw.rR.len;have bE:(i:Int)<(nR:Int):=by have:=(List.getElem?_eq_some_iff.1 hi).1;omega
 obtain⟨b,o,n,rfl,bC,T,⟨A1,Y,aB,s1,r1,_,_⟩,⟨A2,X,aI,s2,r2,_,_⟩,⟨A3,aV,aJ,s3,r3,_,_⟩⟩:=h.rw.rR.get (show i<nR by omega);obtain rfl:=Option.some.inj (T.symm.trans hi);have l1:Hd (n.stops.length=Y):=r1.len;have l2:Hd (n.rides.length=X):=r2.len;have hn:X+1=Y:=by have:=l1.o;have:=l2.o;omega
 have bF:Y<=100000:=by have:=l1.o;omega
 have aS:=H_ hs;have aG:=H_ hl;have cw:=h.cw;have pz:=h.bx.cell 9 rfl;obtain⟨wa,ba,aU,aF,F,Z⟩:=box1 we 51 [.slice A1 Y aB,.slice A2 X aI,.slice A3 aV aJ];have q0:=Z.cell 0 rfl;have q1:=Z.cell 1 rfl;have R1:=H_ (r1.below F);have R2:=H_ (r2.below F);have p:=H_ F;clear h F Z hi T hL r3 r1 r2 hs hl hm;have Q:=H_ (l2_ A1 Y aB n.stops (-1) wa R1.o (by omega))
 cases g:(n.stops.any fun y=>(-1:Int)==y) with
 |true=>
  have P:Hd (bR_ n=false):=by
   obtain⟨s,S,aQ⟩:=List.any_eq_true.1 g
   have h1:(n.stops.all fun s=>decide (0<=s))=false:=by
    rw [Bool.eq_false_iff];intro h;have:=of_decide_eq_true (List.all_eq_true.1 h s S);have:=eq_of_beq aQ;omega
   show _=_;unfold bR_;rw [h1];rfl
  rw [g] at Q;clear g;go_enter Tryz.func201,Tryz.ntmps201;go_wp2_with fail;refine Q.o.mono ?_;rintro e w' ⟨rfl,rfl⟩
  go_wp2
  go_returns;exact RetE.no (by decide) P.o p.o
 |false=>
  have aC:Hd ((n.stops.all fun s=>decide (0<=s))=true):=by
   refine List.all_eq_true.2 fun s S=>T_ ?_;have h1:=aS.o s S
   have h2:((-1:Int)==s)=false:=by
    cases h:((-1:Int)==s) with
    |false=>rfl
    |true=>rw [List.any_eq_true.2 ⟨s,S,h⟩] at g;cases g
   have:(-1:Int)≠s:=by simpa using h2
   omega
  rw [g] at Q;clear g;go_enter Tryz.func201,Tryz.ntmps201;go_wp2_with fail;refine Q.o.mono ?_;rintro e w' ⟨rfl,rfl⟩
  go_wp2
  clear aU aF;go_loopw [24] (fun iv wr=> ∃ j:Nat,j<=X/\iv= .int .i64 j/\Hd (∀ (k:Nat) a b q,k<j ->n.stops[k]?=some a ->n.stops[k+1]?=some b ->n.rides[k]?=some q ->a≠b/\1<=q)/\Hd (Below wa.heap.size wa wr)) (fun iv _=>X-(intOf iv).toNat)
  ·exact⟨0,Nat.zero_le _,rfl,fun k a b q hk=>(by omega),Below.refl _ _⟩
  ·obtain⟨j,hj,rfl,f,z⟩:=hrel;by_cases aM:j<X
   ·have aY:(j:Int)<(X:Int):=by omega
    have aX:(j:Int)+1<(Y:Int):=by omega
    have aW:(j:Int)<(Y:Int):=by omega
    obtain⟨b1,o1,x,rfl,G,T,g0⟩:=R1.o.num (k:=j) (by omega);obtain⟨bB,bG,y,aL,_,hy,g1⟩:=R1.o.num (k:=j+1) (by omega);cases aL;obtain⟨b2,o2,q,rfl,aK,R,g2⟩:=R2.o.num aM;have bH:=c_ z.o aK g2;have D:=H_ ((dy_ n.stops n.rides aG.o).1);have bD:=p.o;have aA:=World.block_lt_of_cell? wa ⟨ba,_,none⟩ q0;by_cases aO:q<1
    ·have P:Hd (cF_ n.stops n.rides=false):=by
      show _=_;rw [Bool.eq_false_iff];intro h;have:=(D.o h j x y q T hy R).2;omega
     clear T hy R f D
     go_wp2
     refine wb_ wr.heap.size ?_;intro C hC
     repeat(go_big_quiet_step (first
      |((intro _;with_reducible rfl))
      |(intro N;have L:=b_ z N;simp only [c_ L aA q0,c_ L G g0,c_ L G g1,Result.andThen];exact⟨trivial,rfl⟩)))
     intro w9 J;clear hC;have c:=h_ p (b_ z J)
     go_wp2
     go_returns;exact RetE.no (by decide) (by unfold bR_;rw [P.o,Bool.and_false]) c.o
    ·have aZ:=F_ aO;by_cases U:x=y
     ·have P:Hd (cF_ n.stops n.rides=false):=by
       show _=_;rw [Bool.eq_false_iff];intro h;exact(D.o h j x y q T hy R).1 U
      subst U;clear T hy R f D
      go_wp2
      refine wb_ wr.heap.size ?_;intro C hC
      repeat(go_big_quiet_step (first
       |((intro _;with_reducible rfl))
       |(intro N;have L:=b_ z N;simp only [c_ L aA q0,c_ L G g0,c_ L G g1,Result.andThen];exact⟨trivial,rfl⟩)))
      intro w9 J;clear hC;have c:=h_ p (b_ z J)
      go_wp2
      go_returns;exact RetE.no (by decide) (by unfold bR_;rw [P.o,Bool.and_false]) c.o
     ·have bA:(x==y)=false:=by simpa using U
      have aN:Hd (∀ (k:Nat) a b q,k<j+1 ->n.stops[k]?=some a ->n.stops[k+1]?=some b ->n.rides[k]?=some q ->a≠b/\1<=q):=fun k a b' q' hk ha hb d=>by
       rcases Nat.lt_or_ge k j with h|h
       ·exact f.o k a b' q' h ha hb d
       ·obtain rfl:k=j:=by omega
        rw [T] at ha;rw [hy] at hb;rw [R] at d;cases ha;cases hb;cases d;exact⟨U,by omega⟩
      clear T hy R f D
      go_wp2
      refine wb_ wr.heap.size ?_;intro C hC
      repeat(go_big_quiet_step (first
       |((intro _;with_reducible rfl))
       |(intro N;have L:=b_ z N;simp only [c_ L aA q0,c_ L G g0,c_ L G g1,Result.andThen];exact⟨trivial,rfl⟩)))
      intro w9 J;clear hC;have aE:=h_ z J
      go_wp2
      go_roundw
      ·exact⟨j+1,by omega,by go_num,aN,aE⟩
      ·simp [intOf];omega
   ·obtain rfl:j=X:=by omega
    have hB:Hd (cF_ n.stops n.rides=true):=(dy_ _ _ aG.o).2 fun k a b q ha hb R=>f.o k a b q (by have:=(List.getElem?_eq_some_iff.1 R).1;rw [l2.o] at this;omega) ha hb R;clear f
    go_wp2
    go_returns;exact RetE.yes (by unfold bR_;rw [aC.o,hB.o];rfl) (b_ p z.o)
