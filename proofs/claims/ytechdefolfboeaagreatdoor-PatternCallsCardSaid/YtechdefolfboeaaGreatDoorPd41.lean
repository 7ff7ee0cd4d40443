/- Merged. -/
import Derived.Test.YtechdefolfboeaaGreatDoorPd37
import Derived.Test.YtechdefolfboeaaGreatDoorPd39
import Derived.Test.YtechdefolfboeaaGreatDoorPd40
set_option linter.unusedVariables false
set_option linter.unusedSimpArgs false
set_option maxHeartbeats 4000000
namespace Go.Proofs.YtechdefolfboeaaGreatDoor
open Go.RowKit B
theorem c4_ (A:Option Addr) (n c:Nat) (l:List Str) (s:Str) (w:World) (hr:Rd w 1 strE A n l) (hn:n<=1099511627776):
 Calls Tryz.prog 217 #[.slice A n c,.string s] w fun e w'=>e= .returned (.int .i64 (ai_ l s))/\w=w':=by
 have g:=hr.len;have D:=H_ hr;have J:=H_ g;clear g hr;go_enter Tryz.func217,Tryz.ntmps217
 go_wp2
 go_loopw [5] (fun F wr=> ∃ i:Nat,i<=n/\F= .int .i64 i/\Hd (i<=bz_ s l)/\w=wr) (fun F _=>n-(intOf F).toNat)
 ·exact⟨0,Nat.zero_le _,rfl,Nat.zero_le _,rfl⟩
 ·obtain⟨i,hi,rfl,j,rfl⟩:=hrel;by_cases p:i<n
  ·have aA:(i:Int)<(n:Int):=by omega
   obtain⟨b,o,x,rfl,aB,y,g0⟩:=D.o.str p
   cases q:sq x s with
   |true=>
    have G:=d1_ s l i x y j.o q;have f:Hd (ai_ l s=(i:Int)):=by show _=_;unfold ai_;rw [G,if_pos (by rw [J.o];exact p)]
    unfold sq at q;clear G y j
    go_wp2
    go_returns;exact⟨by rw [f.o];rfl,rfl⟩
   |false=>
    have z:Hd (i+1<=bz_ s l):=fO_ s l i x y j.o q;unfold sq at q;clear y j
    go_wp2
    go_roundw
    ·exact⟨i+1,by omega,by go_num,z,trivial⟩
    ·simp [intOf];omega
  ·obtain rfl:i=n:=by omega
   have f:Hd (ai_ l s= -1):=by show _=_;unfold ai_;rw [if_neg (by have:=j.o;have:=fP_ s l;rw [J.o] at*;omega)]
   clear j
   go_wp2
   go_returns;exact⟨by rw [f.o];rfl,rfl⟩
theorem kv_ (a b n:Int) (w:World):Calls Tryz.prog 219 #[.int .i64 a,.int .i64 b,.int .i64 n] w fun e w'=>e= .returned (.int .i64 (wayE a b n))/\w=w':=by
 unfold wayE;by_cases g:a<0
 ·rw [if_pos (.inl g)];go_enter Tryz.func219,Tryz.ntmps219
  go_wp2
  go_returns;exact⟨rfl,rfl⟩
 ·by_cases j:b<0
  ·rw [if_pos (.inr j)];go_enter Tryz.func219,Tryz.ntmps219
   go_wp2
   go_returns;exact⟨rfl,rfl⟩
  ·rw [if_neg (by omega)];by_cases f:a=b
   ·rw [if_pos (.inl f)];subst f;go_enter Tryz.func219,Tryz.ntmps219
    go_wp2
    go_returns;exact⟨rfl,rfl⟩
   ·have aA:(a==b)=false:=by simp [f]
    by_cases p:n<1
    ·rw [if_pos (.inr p)];go_enter Tryz.func219,Tryz.ntmps219
     go_wp2
     go_returns;exact⟨rfl,rfl⟩
    ·rw [if_neg (by omega)];go_enter Tryz.func219,Tryz.ntmps219
     go_wp2
     go_returns;exact⟨rfl,rfl⟩
theorem ik_ (f v n h:Int) (w:World):Calls Tryz.prog 220 #[.agg #[.int .i64 f,.int .i64 v,.int .i64 n],.int .i64 h] w (rb_ (.int .i64 (cq_ f v n h)) w):=by
 unfold cq_;obtain⟨r,p⟩:=e_ (cv_ f v n h);have q:=H_ (mY_ f v n h);rw [p] at q ⊢;clear p;go_enter Tryz.func220,Tryz.ntmps220;go_wp2_with fail;refine(q.o _).mono ?_;rintro e w1 ⟨A,c,rfl,_,_,_,j⟩;have g:Hd (Below w.heap.size w w1):=((Below.refl _ w).alloc (Nat.le_refl _) _).trans (j.mono (by simp));clear j
 go_wp2
 go_returns;exact⟨rfl,g.o⟩
theorem ca_ (e k a:Int) (w:World):Calls Tryz.prog 110 #[.int .i64 e,.int .i64 k,.int .i64 a] w fun r w'=>r= .returned (.agg #[.int .i64 e,.int .i64 k,.int .i64 a])/\Below w.heap.size w w':=by
 go_enter Tryz.func110,Tryz.ntmps110
 go_wp2
 go_returns;exact⟨rfl,ag_ _ _ _⟩
theorem mo_ (a0 a1 a2 a3 a4 a5:Option Addr) (n0 n1 n2 n3 n4 n5 c0 c1 c2 c3 c4 c5:Nat) (w:World):
 Calls Tryz.prog 218 #[.agg #[.slice a0 n0 c0,.slice a1 n1 c1,.slice a2 n2 c2,.slice a3 n3 c3,.slice a4 n4 c4,.slice a5 n5 c5]] w fun e w'=> ∃ g,e= .returned (.slice (some ⟨g,0,none⟩) 6 6)/\Bx w' g 22 [.slice a0 n0 c0,.slice a1 n1 c1,.slice a2 n2 c2,.slice a3 n3 c3,.slice a4 n4 c4,.slice a5 n5 c5]/\Below w.heap.size w w':=by
 go_enter Tryz.func218,Tryz.ntmps218
 go_wp2
 go_returns;have f:=Bx.new (w.alloc (.cells #[.slice a0 n0 c0,.slice a1 n1 c1,.slice a2 n2 c2,.slice a3 n3 c3,.slice a4 n4 c4,.slice a5 n5 c5] 24)) 22 [.slice a0 n0 c0,.slice a1 n1 c1,.slice a2 n2 c2,.slice a3 n3 c3,.slice a4 n4 c4,.slice a5 n5 c5];rw [show(w.alloc (.cells #[.slice a0 n0 c0,.slice a1 n1 c1,.slice a2 n2 c2,.slice a3 n3 c3,.slice a4 n4 c4,.slice a5 n5 c5] 24)).heap.size =w.heap.size+1 by simp] at f;refine⟨_,rfl,f,(ag_ w _ _).trans ((ag_ _ _ _).mono (by simp))⟩
theorem mW_ (r:ba_) (A1 A2 A3:Option Addr) (n1 n2 n3 c1 c2 c3:Nat) (w:World) (h1:Rd w 1 (numE .i64) A1 n1 r.stops) (h2:Rd w 1 (numE .i64) A2 n2 r.rides) (hn:n1<=1099511627776) (hl:n2+1=n1):
 Calls Tryz.prog 221 #[.agg #[.slice A1 n1 c1,.slice A2 n2 c2,.slice A3 n3 c3]] w (RetE w (bR_ r)):=by
 obtain⟨w1,aI,P,Z⟩:=box0 w 51 [.slice A1 n1 c1,.slice A2 n2 c2,.slice A3 n3 c3];obtain⟨bn,aF⟩:=e_ w.heap.size;rw [aF] at Z;have l1:=H_ h1.len;have l2:=H_ h2.len;have R1:=H_ (h1.below P);have R2:=H_ (h2.below P);have F:=H_ P;have p0:=Z.cell 0 rfl;have p1:=Z.cell 1 rfl;have D:=Z.lt;clear h1 h2 P Z;go_enter Tryz.func221,Tryz.ntmps221
 go_wp2
 go_loopw [3] (fun X wr=> ∃ i:Nat,i<=n1/\X= .int .i64 i/\Hd ((r.stops.take i).all (fun s=>decide (0<=s))=true)/\w1=wr) (fun X _=>n1-(intOf X).toNat)
 ·exact⟨0,Nat.zero_le _,rfl,rfl,rfl⟩
 ·obtain⟨i,hi,rfl,g,rfl⟩:=hrel;by_cases Q:i<n1
  ·have aB:(i:Int)<(n1:Int):=by omega
   obtain⟨b,o,x,rfl,z,N,g0⟩:=R1.o.num Q;by_cases aD:0<=x
   ·have T:=H_ (br_ (f:=fun s=>decide (0<=s)) g.o N (T_ aD));clear N g
    go_wp2
    go_roundw
    ·exact⟨i+1,by omega,by go_num,T,trivial⟩
    ·simp [intOf];omega
   ·have M:=H_ (bT_ (f:=fun s=>decide (0<=s)) N (F_ aD));clear N g
    go_wp2
    go_returns;exact RetE.no (by decide) (by unfold bR_;rw [M.o];rfl) F.o
  ·obtain rfl:i=n1:=by omega
   have hA:=H_ (cT_ g.o l1.o);clear g hi Q
   go_wp2
   go_loopw [4] (fun X wr=> ∃ j:Nat,j<=n2/\X= .int .i64 ((j:Int)+1)/\Hd (∀ (k:Nat) a b q,k<j ->r.stops[k]?=some a ->r.stops[k+1]?=some b ->r.rides[k]?=some q ->a≠b/\1<=q)/\Hd (Below w1.heap.size w1 wr)) (fun X _=>n2+1-(intOf X).toNat)
   ·exact⟨0,Nat.zero_le _,rfl,fun k a b q hk=>(by omega),Below.refl _ _⟩
   ·obtain⟨j,hj,rfl,g,n⟩:=hrel;have aJ:=c_ n.o D p0;by_cases Q:j<n2
    ·have aB:(j:Int)+1<(i:Int):=by omega
     have aG:(j:Int)<(n2:Int):=by omega
     obtain⟨b,o,x,rfl,z,N,g0⟩:=R1.o.num (k:=j) (by omega);obtain⟨b',o',y,aE,_,Y,g1⟩:=R1.o.num (k:=j+1) (by omega);cases aE;obtain⟨b2,o2,q,rfl,G,R,g2⟩:=R2.o.num Q;have aA:Hd (∀ W,Below w1.heap.size w1 W ->Below w.heap.size w W):=fun W hW=>b_ F hW;by_cases S:x=y
     ·have M:Hd (cF_ r.stops r.rides=false):=by
       show _=_;rw [Bool.eq_false_iff];intro h;exact((dy_ _ _ (by rw [l1.o,l2.o];omega)).1 h j x y q N Y R).1 S
      subst S;clear N Y R g
      go_wp2
      refine wb_ wr.heap.size ?_;intro C c
      repeat(go_big_quiet_step (first
       |((intro _;with_reducible rfl))
       |(intro L;have p:=b_ n L;simp only [c_ p D p0,c_ p D p1,c_ p z g0,c_ p z g1,c_ p G g2,Result.andThen];exact⟨trivial,rfl⟩)))
      intro w9 J;clear c
      go_wp2
      go_returns;exact RetE.no (by decide) (by unfold bR_;rw [M.o,Bool.and_false]) (aA.o _ (b_ n J))
     ·have aH:(y==x)=false:=by simp;exact fun h=>S h.symm
      by_cases aC:1<=q
      ·have T:Hd (∀ (k:Nat) a b q,k<j+1 ->r.stops[k]?=some a ->r.stops[k+1]?=some b ->r.rides[k]?=some q ->a≠b/\1<=q):=fun k a b' q' hk d e U=>by
        rcases Nat.lt_or_ge k j with h|h
        ·exact g.o k a b' q' h d e U
        ·obtain rfl:k=j:=by omega
         rw [N] at d;rw [Y] at e;rw [R] at U;cases d;cases e;cases U;exact⟨S,aC⟩
       clear N Y R g
       go_wp2
       refine wb_ wr.heap.size ?_;intro C c
       repeat(go_big_quiet_step (first
        |((intro _;with_reducible rfl))
        |(intro L;have p:=b_ n L;simp only [c_ p D p0,c_ p D p1,c_ p z g0,c_ p z g1,c_ p G g2,Result.andThen];exact⟨trivial,rfl⟩)))
       intro w9 J;clear c;go_wp2_with fail;have G:=h_ n J;go_roundw
       ·exact⟨j+1,by omega,by go_num,T,G⟩
       ·simp [intOf];omega
      ·have M:Hd (cF_ r.stops r.rides=false):=by
        show _=_;rw [Bool.eq_false_iff];intro h;exact aC ((dy_ _ _ (by rw [l1.o,l2.o];omega)).1 h j x y q N Y R).2
       clear N Y R g
       go_wp2
       refine wb_ wr.heap.size ?_;intro C c
       repeat(go_big_quiet_step (first
        |((intro _;with_reducible rfl))
        |(intro L;have p:=b_ n L;simp only [c_ p D p0,c_ p D p1,c_ p z g0,c_ p z g1,c_ p G g2,Result.andThen];exact⟨trivial,rfl⟩)))
       intro w9 J;clear c
       go_wp2
       go_returns;exact RetE.no (by decide) (by unfold bR_;rw [M.o,Bool.and_false]) (aA.o _ (b_ n J))
    ·obtain rfl:j=n2:=by omega
     have hB:Hd (cF_ r.stops r.rides=true):=(dy_ _ _ (by rw [l1.o,l2.o];omega)).2 fun k a b q d e R=>g.o k a b q (by have:=(List.getElem?_eq_some_iff.1 R).1;rw [l2.o] at this;omega) d e R;clear g
     go_wp2
     go_returns;exact RetE.yes (by unfold bR_;rw [hA.o,hB.o];rfl) (b_ F n.o)
theorem fe_ (c:Int) (w:World):Calls Tryz.prog 250 #[.int .u8 c] w fun e w'=>e= .returned (.bool (letB c))/\w=w':=by
 unfold letB;by_cases g:97<=c
 ·have f:decide (97<=c)=true:=T_ g;rw [f];go_enter Tryz.func250,Tryz.ntmps250
  go_wp2
  go_returns;exact⟨by simp,rfl⟩
 ·have f:decide (97<=c)=false:=F_ g;rw [f];go_enter Tryz.func250,Tryz.ntmps250
  go_wp2
  go_returns;exact⟨by simp,rfl⟩
theorem l8_ (c:Int) (w:World):Calls Tryz.prog 261 #[.int .u8 c] w fun e w'=>e= .returned (.bool (digB c))/\w=w':=by
 unfold digB;by_cases g:48<=c
 ·have f:decide (48<=c)=true:=T_ g;rw [f];go_enter Tryz.func261,Tryz.ntmps261
  go_wp2
  go_returns;exact⟨by simp,rfl⟩
 ·have f:decide (48<=c)=false:=F_ g;rw [f];go_enter Tryz.func261,Tryz.ntmps261
  go_wp2
  go_returns;exact⟨by simp,rfl⟩
theorem iY_ (c:Int) (w:World):Calls Tryz.prog 251 #[.int .u8 c] w fun e w'=>e= .returned (.bool (cy_ c))/\w=w':=by
 have j:=H_ (fe_ c);have n:=H_ (l8_ c);unfold cy_;obtain⟨l,y⟩:=e_ (letB c);obtain⟨d,q⟩:=e_ (digB c);rw [y] at j ⊢;rw [q] at n ⊢;clear y q
 cases l with
 |true=>
  go_enter Tryz.func251,Tryz.ntmps251;go_wp2_with fail;refine(j.o _).mono ?_;rintro e w' ⟨rfl,rfl⟩
  go_wp2
  go_returns;exact⟨rfl,rfl⟩
 |false=>
  cases d with
  |true=>
   go_enter Tryz.func251,Tryz.ntmps251;go_wp2_with fail;refine(j.o _).mono ?_;rintro e w' ⟨rfl,rfl⟩;go_wp2_with fail;refine(n.o _).mono ?_;rintro e w' ⟨rfl,rfl⟩
   go_wp2
   go_returns;exact⟨rfl,rfl⟩
  |false=>
   by_cases f:c=45
   ·have z:(c==45)=true:=by simp [f]
    have p:=T_ f;rw [p];clear f p;go_enter Tryz.func251,Tryz.ntmps251;go_wp2_with fail;refine(j.o _).mono ?_;rintro e w' ⟨rfl,rfl⟩;go_wp2_with fail;refine(n.o _).mono ?_;rintro e w' ⟨rfl,rfl⟩
    go_wp2
    go_returns;exact⟨rfl,rfl⟩
   ·have z:(c==45)=false:=by simp [f]
    rw [F_ f];by_cases g:c=95
    ·have D:(c==95)=true:=by simp [g]
     rw [T_ g];clear f g;go_enter Tryz.func251,Tryz.ntmps251;go_wp2_with fail;refine(j.o _).mono ?_;rintro e w' ⟨rfl,rfl⟩;go_wp2_with fail;refine(n.o _).mono ?_;rintro e w' ⟨rfl,rfl⟩
     go_wp2
     go_returns;exact⟨rfl,rfl⟩
    ·have D:(c==95)=false:=by simp [g]
     rw [F_ g];clear f g;go_enter Tryz.func251,Tryz.ntmps251;go_wp2_with fail;refine(j.o _).mono ?_;rintro e w' ⟨rfl,rfl⟩;go_wp2_with fail;refine(n.o _).mono ?_;rintro e w' ⟨rfl,rfl⟩
     go_wp2
     go_returns;exact⟨rfl,rfl⟩
theorem ou_ (s:Str) (w:World):Calls Tryz.prog 242 #[.string s] w fun e w'=>e= .returned (.bool (dn_ s))/\w=w':=by
 by_cases q:s.size=0
 ·have Q:((s.size:Int)==0)=true:=by simp [q]
  have P:Hd (dn_ s=false):=by show _=_;unfold dn_;simp [q]
  rw [P.o];clear q;go_enter Tryz.func242,Tryz.ntmps242
  go_wp2
  go_returns;exact⟨rfl,rfl⟩
 have Q:((s.size:Int)==0)=false:=by simp [q]
 by_cases y:24<s.size
 ·have R:decide ((24:Int)<(s.size:Int))=true:=T_ (by omega);have L:decide (24<s.size)=true:=T_ y;have P:Hd (dn_ s=false):=by show _=_;unfold dn_;rw [F_ (show ¬ s.size<=24 by omega)];simp
  rw [P.o];go_enter Tryz.func242,Tryz.ntmps242
  go_wp2
  go_returns;exact⟨rfl,rfl⟩
 have R:decide ((24:Int)<(s.size:Int))=false:=F_ (by omega);have L:decide (24<s.size)=false:=F_ y;have G:0<s.size:=by omega
 have D:=H_ (jt_ q (by omega));rw [D.o];obtain⟨a,g⟩:=e_ (letB ((s[0]'G).toNat :Int));rw [g];have z:=H_ g;clear q g D
 cases a with
 |false=>
  go_enter Tryz.func242,Tryz.ntmps242;go_wp2_with fail;refine(fe_ _ _).mono ?_;rintro e w' ⟨rfl,rfl⟩;rw [z.o]
  go_wp2
  go_returns;exact⟨by simp,rfl⟩
 |true=>
  rw [Bool.true_and];go_enter Tryz.func242,Tryz.ntmps242;go_wp2_with fail;refine(fe_ _ _).mono ?_;rintro e w' ⟨rfl,rfl⟩;rw [z.o]
  go_wp2
  go_loopw [3] (fun i wr=> ∃ (k:Nat),k<=s.size/\i= .int .i64 k/\Hd (∀ b∈s.data.toList.take k,cy_ (b.toNat:Int)=true)/\w=wr) (fun i _=>s.size-(intOf i).toNat)
  ·exact⟨0,Nat.zero_le _,rfl,fun b f=>by simp at f,rfl⟩
  ·obtain⟨k,hk,rfl,p,rfl⟩:=hrel;by_cases F:k<s.size
   ·have aA:(k:Int)<(s.size:Int):=by omega
    obtain⟨a,g⟩:=e_ (cy_ ((s[k]'F).toNat :Int));have j:=jq_ s k F;have n:=H_ g
    cases a with
    |false=>
     have M:Hd ((s.data.toList.all fun b=>cy_ (b.toNat:Int))=false):=by
      show _=_;rw [Bool.eq_false_iff];intro h;have:=List.all_eq_true.1 h _ (List.mem_of_getElem? j);rw [g] at this;cases this
     clear j g;go_wp2_with fail;refine(iY_ _ _).mono ?_;rintro e w' ⟨rfl,rfl⟩;rw [n.o]
     go_wp2
     go_returns;exact⟨am_ M.o.symm,rfl⟩
    |true=>
     have N:Hd (∀ b∈s.data.toList.take (k+1),cy_ (b.toNat:Int)=true):=fun b f=>by
      rw [an_ j,List.mem_append] at f;rcases f with f|f
      ·exact p.o b f
      ·simp only [List.mem_singleton] at f;subst f;exact g
     clear j g;go_wp2_with fail;refine(iY_ _ _).mono ?_;rintro e w' ⟨rfl,rfl⟩;rw [n.o]
     go_wp2
     go_roundw
     ·exact⟨k+1,by omega,by go_num,N,by first|rfl|trivial⟩
     ·simp [intOf];omega
   ·have J:Hd ((s.data.toList.all fun b=>cy_ (b.toNat:Int))=true):=by
     show _=_;refine List.all_eq_true.2 fun b f=>p.o b ?_
     rwa [List.take_of_length_le (by simp;omega)]
    go_wp2
    go_returns;exact⟨am_ J.o.symm,rfl⟩
set_option maxRecDepth 100000 in
theorem jg_ (s:Str) (w:World):Calls Tryz.prog 243 #[.string s] w (rb_ (.bool (resB s)) w):=by
 have n:Below w.heap.size w (w.alloc (.cells (resv.flatMap strE).toArray 9)):=(Below.refl _ w).alloc (Nat.le_refl _) _;have j:=Rd.lit w 1 strE ad_ 9 resv;obtain⟨w1,p⟩:=e_ (w.alloc (.cells (resv.flatMap strE).toArray 9));rw [p] at n j;have G:w.alloc (.cells #[.string ⟨#[104,111,114,105,122,111,110]⟩,.string ⟨#[115,116,111,112]⟩,.string ⟨#[112,97,116,104]⟩,.string ⟨#[100,111,111,114]⟩,.string ⟨#[114,111,117,116,101]⟩,.string ⟨#[116,114,105,112]⟩,.string ⟨#[104,97,122,97,114,100]⟩,.string ⟨#[102,114,111,109]⟩,.string ⟨#[101,118,101,114,121]⟩,.string ⟨#[111,112,101,110]⟩,.string ⟨#[99,108,111,115,101,100]⟩,.string ⟨#[111,102]⟩,.string ⟨#[111,110]⟩,.string ⟨#[117,110,116,105,108]⟩,.string ⟨#[115,116,97,121]⟩] 9)=w1:=p;have z:=H_ j;have D:=H_ n;have R:resv.length=15:=rfl;obtain⟨L,N⟩:=e_ resv;have P:Hd (resB s=L.any fun x=>sq x s):=by show _=_;rw [<-N];rfl
 rw [P.o];rw [N] at z R;have F:=H_ R;clear n j p N R;go_enter Tryz.func243,Tryz.ntmps243
 go_wp2
 clear G;go_loopw [4] (fun i wr=> ∃ (k:Nat),k<=15/\i= .int .i64 k/\Hd (∀ x∈L.take k,sq x s=false)/\w1=wr) (fun i _=>15-(intOf i).toNat)
 ·exact⟨0,Nat.zero_le _,rfl,fun b U=>by simp at U,rfl⟩
 ·obtain⟨k,hk,rfl,g,rfl⟩:=hrel;by_cases Q:k<15
  ·have aA:(k:Int)<15:=by omega
   obtain⟨b,o,x,Y,U,J,Z⟩:=z.o.str (k:=k) (by rw [F.o];exact Q);cases Y;rw [Nat.zero_add] at Z
   cases f:sq x s with
   |true=>
    have M:Hd ((L.any fun x=>sq x s)=true):=List.any_eq_true.2 ⟨x,List.mem_of_getElem? J,f⟩;have X:(x.toList==s.toList)=true:=f;clear J f
    go_wp2
    go_returns;exact⟨am_ M.o.symm,D.o⟩
   |false=>
    have T:Hd (∀ y∈L.take (k+1),sq y s=false):=fun y q=>by
     rw [an_ J,List.mem_append] at q;rcases q with q|q
     ·exact g.o y q
     ·simp only [List.mem_singleton] at q;subst q;exact f
    have X:(x.toList==s.toList)=false:=f;clear J f
    go_wp2
    go_roundw
    ·exact⟨k+1,by omega,by go_num,T,by first|rfl|trivial⟩
    ·simp [intOf];omega
  ·have S:Hd ((L.any fun x=>sq x s)=false):=by
    show _=_;rw [Bool.eq_false_iff];intro h;obtain⟨x,J,f⟩:=List.any_eq_true.1 h;have:=g.o x (by rwa [List.take_of_length_le (by rw [F.o];omega)]);rw [this] at f;cases f
   go_wp2
   go_returns;exact⟨am_ S.o.symm,D.o⟩
theorem nW_ (s:Str) (w:World):Calls Tryz.prog 213 #[.string s] w (rb_ (.bool (aN_ s)) w):=by
 have n:=H_ (jg_ s);have g:=H_ (ou_ s);unfold aN_;obtain⟨a,p⟩:=e_ (dn_ s);obtain⟨b,f⟩:=e_ (resB s);rw [p] at g ⊢;rw [f] at n ⊢;clear p f
 cases a with
 |false=>
  go_enter Tryz.func213,Tryz.ntmps213;go_wp2_with fail;refine(g.o _).mono ?_;rintro e q ⟨rfl,rfl⟩
  go_wp2
  go_returns;exact⟨rfl,Below.refl _ _⟩
 |true=>
  go_enter Tryz.func213,Tryz.ntmps213;go_wp2_with fail;refine(g.o _).mono ?_;rintro e q ⟨rfl,rfl⟩;go_wp2_with fail;refine(n.o _).mono ?_;rintro e q ⟨rfl,f⟩;have j:=H_ f;clear f
  go_wp2
  go_returns;exact⟨by cases b<;>rfl,j.o⟩
set_option maxRecDepth 100000 in
theorem kB_ (X:ay_) (V:SV) (we:World) (hr:RS we X V) (hf:FewS X):Calls Tryz.prog 143 #[sVal X V] we (RetE we (bb_ aN_ X)):=by
 obtain⟨a0,aP,aD,aR,aT,aH,n0,nP,nD,N,nT,nH,c0,cP,cD,cR,cT,cH⟩:=V;have lP:X.paths.length=nP:=hr.rP.len;have lD:X.doors.length=nD:=hr.rD.len;have lR:X.routes.length=N:=hr.rR.len;have lT:X.trips.length=nT:=hr.rT.len;have lH:X.hazs.length=nH:=hr.rH.len;have l0:X.stops.length=n0:=hr.r0.len;have j:Hd (cG_ X=(decide (n0<=256)&&(decide (nP<=1024)&&(decide (nD<=256)&&(decide (N<=256)&&(decide (nT<=1024)&&decide (nH<=256))))))):=by show _=_;unfold cG_;rw [l0,lP,lD,lR,lT,lH]
 have LR:=H_ lR;have aQ:=H_ hf.sr;have aK:=H_ hf;simp only [sVal];obtain⟨w1,aS,T,B1⟩:=box0 we 136 [.int .i64 X.hz,.slice a0 n0 c0,.slice aP nP cP,.slice aD nD cD,.slice aR N cR,.slice aT nT cT,.slice aH nH cH];obtain⟨bn,aO⟩:=e_ we.heap.size;rw [aO] at B1;have L:Hd (∀ U,Below w1.heap.size w1 U ->Below we.heap.size we U):=fun U hU=>u_ T hU;have hR:=H_ (hr.below T);obtain⟨p0,p1,p2,p3,p4,p5,p6⟩:=c_7 B1;have B1:=H_ B1;have y:=H_ T;rename_i aM;clear aM hr hf T l0 lP lD lR lT lH;go_enter Tryz.func143,Tryz.ntmps143;by_cases k0:n0<=256
 ·by_cases k1:nP<=1024
  ·by_cases k2:nD<=256
   ·by_cases k3:N<=256
    ·by_cases k4:nT<=1024
     ·by_cases k5:nH<=256
      ·have aA:Hd (cG_ X=true):=by show _=_;rw [j.o];simp [k0,k1,k2,k3,k4,k5]
       go_wp2_with fail;refine(mx_ X ⟨a0,aP,aD,aR,aT,aH,n0,nP,nD,N,nT,nH,c0,cP,cD,cR,cT,cH⟩ w1 hR.o aK.o).mono ?_;rintro e w2 ⟨A,n,c,rfl,p,bE,bF,Y⟩;clear p0 p1 p2 p3 p4 p5 p6 aS;have D:=p.len;have p:=H_ p;have Y:=H_ Y;have D:=H_ D;rename_i x1 x2 x3;clear x1 x2 x3 j
       go_wp2
       go_loopw [4] (fun S wr=> ∃ i:Nat,i<=n/\S= .int .i64 i/\Hd (((aT_ X).take i).all aN_=true)/\Hd (Below w2.heap.size w2 wr)) (fun S _=>n-(intOf S).toNat)
       ·exact⟨0,Nat.zero_le _,rfl,rfl,Below.refl _ _⟩
       ·obtain⟨i,hi,rfl,g,M⟩:=hrel;have z:Hd (Below w1.heap.size w1 wr):=b_ Y M.o;by_cases F:i<n
        ·have k:(i:Int)<(n:Int):=by omega
         obtain⟨b,o,s,rfl,aN,d,g0⟩:=(p.o.below M.o).str F;go_wp2_with fail;refine(nW_ s _).mono ?_;rintro e w3 ⟨rfl,Z⟩;have aI:Hd (Below w1.heap.size w1 w3):=b_ z Z;have Z:=h_ M Z;rename_i x1;clear x1
         cases a:aN_ s with
         |true=>
          have Q:=H_ (br_ g.o d a);clear d a
          go_wp2
          go_roundw
          ·exact⟨i+1,by omega,by go_num,Q,Z⟩
          ·simp [intOf];omega
         |false=>
          have aB:=H_ (bT_ d a);clear d a
          go_wp2
          go_returns;exact RetE.no (by decide) (hl_ aB.o) (L.o _ aI.o)
        ·obtain rfl:i=n:=by omega
         have hN:=H_ (cT_ g.o D.o);clear g M p D hi F Y;obtain⟨p0,p1,p2,p3,p4,p5,p6⟩:=c_7 (B1.o.below z.o);go_wp2_with fail;refine(nZ_ X ⟨a0,aP,aD,aR,aT,aH,n0,nP,nD,N,nT,nH,c0,cP,cD,cR,cT,cH⟩ wr (hR.o.below z.o) aK.o).mono ?_;rintro e w4 ⟨A',n',c',rfl,p,aV,aW,aG⟩;clear p0 p1 p2 p3 p4 p5 p6;have D:=p.len;have p:=H_ p;have aJ:Hd (Below w1.heap.size w1 w4):=b_ z aG;have D:=H_ D;rename_i x1 x2;clear x1 x2 aG
         go_wp2
         go_loopw [6] (fun S wr=> ∃ i:Nat,i<=n'/\S= .int .i64 i/\Hd (((aU_ X).take i).all (fun x=>decide (W.chk x=0))=true)/\Hd (Below w4.heap.size w4 wr)) (fun S _=>n'-(intOf S).toNat)
         ·exact⟨0,Nat.zero_le _,rfl,rfl,Below.refl _ _⟩
         ·clear z;obtain⟨i,hi,rfl,g,M⟩:=hrel;have z:Hd (Below w1.heap.size w1 wr):=b_ aJ M.o;by_cases F:i<n'
          ·have k:(i:Int)<(n':Int):=by omega
           obtain⟨b,o,x,rfl,aN,d,g0⟩:=(p.o.below M.o).num F;go_wp2_with fail;refine(c6_ x _).mono ?_;rintro e w5 ⟨rfl,rfl⟩;by_cases hx:W.chk x=0
           ·have Q:=H_ (br_ (f:=fun x=>decide (W.chk x=0)) g.o d (T_ hx));clear d
            go_wp2
            go_roundw
            ·exact⟨i+1,by omega,by go_num,Q,M⟩
            ·simp [intOf];omega
           ·have aB:=H_ (bT_ (f:=fun x=>decide (W.chk x=0)) d (F_ hx));have bJ:(W.chk x !=0)=true:=by simp [hx]
            clear d
            go_wp2
            go_returns;exact RetE.no (by decide) (hm_ aB.o) (L.o _ z.o)
          ·obtain rfl:i=n':=by omega
           have hM:=H_ (cT_ g.o D.o);clear g M p D hi F;obtain⟨w6,aU⟩: ∃ q,q=wr:=⟨_,rfl⟩
           subst aU
           go_wp2
           go_loopw [7] (fun S wr=> ∃ i:Nat,i<=N/\S= .int .i64 i/\Hd ((X.routes.take i).all cX_=true)/\Hd (Below w1.heap.size w1 wr)) (fun S _=>N-(intOf S).toNat)
           ·exact⟨0,Nat.zero_le _,rfl,rfl,z⟩
           ·clear z;obtain⟨i,hi,rfl,g,M⟩:=hrel;have y0:=(B1.o.below M.o).cell 4 rfl;by_cases F:i<N
            ·have k:(i:Int)<(N:Int):=by omega
             obtain⟨b,o,r,rfl,bD,hx,f0,⟨s1,J,d1,f1,aC,aX,aY⟩,⟨s2,m2,d2,f2,aE,aZ,bA⟩,⟨s3,m3,d3,f3,aF,bB,bC⟩⟩:=(hR.o.below M.o).rR.get F;obtain⟨q1,q2,q3⟩:=aQ.o r (List.mem_of_getElem? hx);have aL:cX_ r=(decide (2<=J)&&(decide (J<=32)&&(decide (m2+1=J)&&decide (m3+2=J)))):=by unfold cX_;rw [aC.len,aE.len,aF.len]
             have bG:J<=100000:=by have:=aC.len;omega
             have bH:m2<=100000:=by have:=aE.len;omega
             have bI:m3<=100000:=by have:=aF.len;omega
             have G:=H_ aL;have R:=H_ hx;have P:Hd (Below w1.heap.size w1 (wr.alloc (.cells #[.string r.name,.slice s1 J d1,.slice s2 m2 d2,.slice s3 m3 d3] 177))):=b_ M (ag_ wr _ _);clear aC aE aF aL hx q1 q2 q3;by_cases j0:2<=J
             ·by_cases j1:J<=32
              ·by_cases j2:m2+1=J
               ·have g2:(m2:Int)=(J:Int)-1:=by omega
                by_cases j3:m3+2=J
                ·have g3:(m3:Int)=(J:Int)-2:=by omega
                 have Q:=H_ (br_ g.o R.o (by rw [G.o];simp;omega))
                 go_wp2
                 go_roundw
                 ·exact⟨i+1,by omega,by go_num,Q,P⟩
                 ·simp [intOf];omega
                ·have g3:((m3:Int) !=(J:Int)-2)=true:=by simp;omega
                 go_wp2
                 go_returns;exact RetE.no (by decide) (dN_ (bT_ R.o (by rw [G.o];simp;omega))) (L.o _ P.o)
               ·have g2:((m2:Int) !=(J:Int)-1)=true:=by simp;omega
                go_wp2
                go_returns;exact RetE.no (by decide) (dN_ (bT_ R.o (by rw [G.o];simp;omega))) (L.o _ P.o)
              ·have g1:32<J:=by omega
               go_wp2
               go_returns;exact RetE.no (by decide) (dN_ (bT_ R.o (by rw [G.o];simp;omega))) (L.o _ P.o)
             ·have g0:J<2:=by omega
              go_wp2
              go_returns;exact RetE.no (by decide) (dN_ (bT_ R.o (by rw [G.o];simp;omega))) (L.o _ P.o)
            ·obtain rfl:i=N:=by omega
             have hZ:=H_ (cT_ g.o LR.o);clear g hi F
             go_wp2
             go_returns;exact RetE.yes (by unfold bb_;rw [aA.o,hN.o,hM.o,hZ.o];rfl) (L.o _ M.o)
      ·have bP:256<nH:=by omega
       go_wp2
       go_returns;exact RetE.no (by decide) (bB_ (by rw [j.o];simp;omega)) y.o
     ·have bO:1024<nT:=by omega
      go_wp2
      go_returns;exact RetE.no (by decide) (bB_ (by rw [j.o];simp;omega)) y.o
    ·have bN:256<N:=by omega
     go_wp2
     go_returns;exact RetE.no (by decide) (bB_ (by rw [j.o];simp;omega)) y.o
   ·have bM:256<nD:=by omega
    go_wp2
    go_returns;exact RetE.no (by decide) (bB_ (by rw [j.o];simp;omega)) y.o
  ·have bL:1024<nP:=by omega
   go_wp2
   go_returns;exact RetE.no (by decide) (bB_ (by rw [j.o];simp;omega)) y.o
 ·have bK:256<n0:=by omega
  go_wp2
  go_returns;exact RetE.no (by decide) (bB_ (by rw [j.o];simp;omega)) y.o
