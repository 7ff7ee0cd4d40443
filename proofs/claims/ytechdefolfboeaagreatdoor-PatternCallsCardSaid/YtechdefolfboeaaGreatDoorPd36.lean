/- Merged. -/
import Derived.Test.YtechdefolfboeaaGreatDoorPd35
set_option linter.unusedVariables false
set_option linter.unusedSimpArgs false
set_option maxRecDepth 100000
set_option maxHeartbeats 2000000
namespace Go.Proofs.YtechdefolfboeaaGreatDoor
open Go.RowKit B K
theorem h5_ {a b:List Int} {i:Nat} {x y:Int} (hx:a[i]?=some x) (hy:b[i]?=some y) (h:y<x):b3_ a b=false:=by
 rw [Bool.eq_false_iff,ne_eq,ed_];exact fun f=>by have:=f i x y hx hy;omega
theorem h4_ {a b:List Int} (h: ∀ j x y,j<a.length ->a[j]?=some x ->b[j]?=some y ->x<=y):b3_ a b=true:=
 ed_.2 fun i x y f g=>h i x y (List.getElem?_eq_some_iff.1 f).1 f g
theorem fl_ (ar br:RnE) (r s:RunP) (we:World) (hr:RunT we ar r) (hs:RunT we br s) (h1:r.arr.length<=1099511627776) (h2:r.dep.length<=1099511627776):
 Calls Tryz.prog 53 #[.agg (rnE ar).toArray,.agg (rnE br).toArray] we (rb_ (.bool (aE_ r s)) we):=by
 obtain⟨xt,xo,⟨xA,M,xc⟩,⟨xB,N,xd⟩⟩:=ar;obtain⟨yt,yo,⟨yA,ym,yc⟩,⟨yB,yn,yd⟩⟩:=br;simp only [rnE,SlV.v];have P:Hd (Rd we 1 (numE .i64) xA M r.arr):=hr.arr;have aC:Hd (Rd we 1 (numE .i64) yA ym s.arr):=hs.arr;have Q:Hd (Rd we 1 (numE .i64) xB N r.dep):=hr.dep;have aD:Hd (Rd we 1 (numE .i64) yB yn s.dep):=hs.dep;have aU:M<=1099511627776:=by rw [<-P.o.len];exact h1
 have aV:N<=1099511627776:=by rw [<-Q.o.len];exact h2
 clear hr hs h1 h2;obtain⟨w1,w2,b1,b2,aG,aH,X,Y,Z,aL,aM,aF,B1,B2,aS,aT⟩:=b5_ we 47 47 [.int .i64 xt,.int .i64 xo,.slice xA M xc,.slice xB N xd] [.int .i64 yt,.int .i64 yo,.slice yA ym yc,.slice yB yn yd];have aI:=H_ B1;have aJ:=H_ B2;have p2:=B1.cell 2 rfl;have p3:=B1.cell 3 rfl;have q2:=B2.cell 2 rfl;have q3:=B2.cell 3 rfl;clear B1 B2 aL aM;go_enter Tryz.func53,Tryz.ntmps53;by_cases hA:M=ym
 ·by_cases hD:N=yn
  ·subst hA hD;have aO:Hd (r.arr.length=s.arr.length):=P.o.len.trans aC.o.len.symm;have aP:Hd (r.dep.length=s.dep.length):=Q.o.len.trans aD.o.len.symm;have g1:((M:Int) !=(M:Int))=false:=by simp
   have g2:((N:Int) !=(N:Int))=false:=by simp
   have p:Hd (∀ j x y,j<0 ->r.arr[j]?=some x ->s.arr[j]?=some y ->x<=y):=fun j _ _ hj=>absurd hj (by omega);have S:Hd (Below w2.heap.size w2 w2):=Below.refl _ _
   go_wp2
   clear aG aH X Y Z p2 p3 q2 q3;go_loopw [5] (fun iv wr=> ∃ i:Nat,i<=M/\iv= .int .i64 i/\Hd (Below w2.heap.size w2 wr)/\Hd (∀ j x y,j<i ->r.arr[j]?=some x ->s.arr[j]?=some y ->x<=y)) (fun iv _=>M-(intOf iv).toNat)
   ·exact⟨0,Nat.zero_le _,rfl,S,p⟩
   ·clear S p;obtain⟨i,hi,rfl,R,g⟩:=hrel;have z:=h_ aF R.o;have C1:=H_ (aI.o.below (R.o));have C2:=H_ (aJ.o.below (R.o));have aA:=C1.o.lt;have aB:=C2.o.lt;have z1:=C1.o.cell 2 rfl;have z2:=C2.o.cell 2 rfl;by_cases b:i<M
    ·have aN:(i:Int)<(M:Int):=by omega
     obtain⟨bA,oA,a,rfl,T,e,ga⟩:=P.o.num b;obtain⟨bD,oD,d,rfl,U,k,gd⟩:=aC.o.num b;have D:=H_ e;have F:=H_ k;clear e k C1 C2;by_cases n:d<a
     ·have hg:decide (d<a)=true:=T_ n;have L:Hd (aE_ r s=false):=by show _=_;unfold aE_;rw [h5_ D.o F.o n];simp
      clear n
      go_wp2
      refine wb_ wr.heap.size ?_;intro C hC
      repeat(go_big_quiet_step (first
       |((intro _;with_reducible rfl))
       |(intro J;have q:=b_ z J;simp only [c_ J aA z1,c_ J aB z2,c_ q T ga,c_ q U gd,Result.andThen];exact⟨trivial,rfl⟩)
      ))
      intro w9 f;clear hC;have f:=h_ z f;rename_i gx;clear gx
      go_wp2
      go_returns;exact⟨am_ L.o.symm,f.o⟩
     ·have hg:decide (d<a)=false:=F_ n
      have G:Hd (∀ j x y,j<i+1 ->r.arr[j]?=some x ->s.arr[j]?=some y ->x<=y):=fun j x y hj h1 h2=>by
       rcases Nat.lt_or_ge j i with h|h
       ·exact g.o j x y h h1 h2
       ·obtain rfl:j=i:=by omega
        rw [D.o] at h1;rw [F.o] at h2;cases h1;cases h2;omega
      clear n g
      go_wp2
      refine wb_ wr.heap.size ?_;intro C hC
      repeat(go_big_quiet_step (first
       |((intro _;with_reducible rfl))
       |(intro J;have q:=b_ z J;simp only [c_ J aA z1,c_ J aB z2,c_ q T ga,c_ q U gd,Result.andThen];exact⟨trivial,rfl⟩)
      ))
      intro w9 f;clear hC;have aE:=h_ R f;clear f
      go_wp2
      go_roundw
      ·exact⟨i+1,by omega,by go_num,aE,G⟩
      ·simp [intOf];omega
    ·obtain rfl:i=M:=by omega
     rename World=>wo
     have aQ:Hd (b3_ r.arr s.arr=true):=h4_ (by rw [P.o.len];exact g.o);have c:=H_ R.o;have aR:=H_ z.o;have z3:=C1.o.cell 3 rfl;have z4:=C2.o.cell 3 rfl;clear C1 C2 g R z;have p:Hd (∀ j x y,j<0 ->r.dep[j]?=some x ->s.dep[j]?=some y ->x<=y):=fun j _ _ hj=>absurd hj (by omega);have S:Hd (Below wo.heap.size wo wo):=Below.refl _ _
     go_wp2
     go_loopw [6] (fun iv wr=> ∃ i:Nat,i<=N/\iv= .int .i64 i/\Hd (Below wo.heap.size wo wr)/\Hd (∀ j x y,j<i ->r.dep[j]?=some x ->s.dep[j]?=some y ->x<=y)) (fun iv _=>N-(intOf iv).toNat)
     ·exact⟨0,Nat.zero_le _,rfl,S,p⟩
     ·clear S p;obtain⟨i,hi,rfl,R,g⟩:=hrel;have z:=h_ aR R.o;have C1:=H_ (aI.o.below (b_ c R.o));have C2:=H_ (aJ.o.below (b_ c R.o));have aA:=C1.o.lt;have aB:=C2.o.lt;have z1:=C1.o.cell 3 rfl;have z2:=C2.o.cell 3 rfl;by_cases b:i<N
      ·have aN:(i:Int)<(N:Int):=by omega
       obtain⟨bA,oA,a,rfl,T,e,ga⟩:=Q.o.num b;obtain⟨bD,oD,d,rfl,U,k,gd⟩:=aD.o.num b;have D:=H_ e;have F:=H_ k;clear e k C1 C2;by_cases n:d<a
       ·have hg:decide (d<a)=true:=T_ n;have L:Hd (aE_ r s=false):=by show _=_;unfold aE_;rw [h5_ D.o F.o n];simp
        clear n
        go_wp2
        refine wb_ wr.heap.size ?_;intro C hC
        repeat(go_big_quiet_step (first
         |((intro _;with_reducible rfl))
         |(intro J;have q:=b_ z J;simp only [c_ J aA z1,c_ J aB z2,c_ q T ga,c_ q U gd,Result.andThen];exact⟨trivial,rfl⟩)
        ))
        intro w9 f;clear hC;have f:=h_ z f;rename_i gx;clear gx
        go_wp2
        go_returns;exact⟨am_ L.o.symm,f.o⟩
       ·have hg:decide (d<a)=false:=F_ n
        have G:Hd (∀ j x y,j<i+1 ->r.dep[j]?=some x ->s.dep[j]?=some y ->x<=y):=fun j x y hj h1 h2=>by
         rcases Nat.lt_or_ge j i with h|h
         ·exact g.o j x y h h1 h2
         ·obtain rfl:j=i:=by omega
          rw [D.o] at h1;rw [F.o] at h2;cases h1;cases h2;omega
        clear n g
        go_wp2
        refine wb_ wr.heap.size ?_;intro C hC
        repeat(go_big_quiet_step (first
         |((intro _;with_reducible rfl))
         |(intro J;have q:=b_ z J;simp only [c_ J aA z1,c_ J aB z2,c_ q T ga,c_ q U gd,Result.andThen];exact⟨trivial,rfl⟩)
        ))
        intro w9 f;clear hC;have aE:=h_ R f;clear f
        go_wp2
        go_roundw
        ·exact⟨i+1,by omega,by go_num,aE,G⟩
        ·simp [intOf];omega
      ·obtain rfl:i=N:=by omega
       have aK:Hd (aE_ r s=true):=by show _=_;rw [gL_];exact⟨aO.o,aP.o,aQ.o,h4_ (by rw [Q.o.len];exact g.o)⟩
       clear C1 C2
       go_wp2
       go_returns;exact⟨am_ aK.o.symm,z.o⟩
  ·have L:Hd (aE_ r s=false):=by show _=_;unfold aE_;rw [Q.o.len,aD.o.len,F_ hD];simp
   subst hA;have g1:((M:Int) !=(M:Int))=false:=by simp
   have g2:((N:Int) !=(yn:Int))=true:=by simp;omega
   go_wp2
   clear aG aH X Y Z;go_returns;exact⟨am_ L.o.symm,aF.o⟩
 ·have L:Hd (aE_ r s=false):=by show _=_;unfold aE_;rw [P.o.len,aC.o.len,F_ hA];simp
  have g1:((M:Int) !=(ym:Int))=true:=by simp;omega
  go_wp2
  clear aG aH X Y Z;go_returns;exact⟨am_ L.o.symm,aF.o⟩
theorem o2_ (A:Option Addr) (n c:Nat) (P:List PatP) (x:Int) (we:World) (hP:bm_ we A n P) (hn:n<=100000) (hps: ∀ p∈P,p.runs.length<=100000):
 Calls Tryz.prog 50 #[.slice A n c,.int .i64 x] we (rb_ (.tuple #[.int .i64 (ofP P x).1,.int .i64 (ofP P x).2]) we):=by
 have b:=H_ hP;have U:=H_ hps;have d:=H_ hP.len;obtain⟨r,hr⟩:=e_ (ofP P x);rw [hr];have g:Hd (dK_ x 0 (P.drop 0)=r):=hr;clear hP hps hr;go_enter Tryz.func50,Tryz.ntmps50
 go_wp2
 go_loopw [6] (fun iv wr=> ∃ i:Nat,i<=n/\iv= .int .i64 i/\Hd (dK_ x i (P.drop i)=r)/\Hd (Below we.heap.size we wr)) (fun iv _=>n-(intOf iv).toNat)
 ·exact⟨0,Nat.zero_le _,rfl,g,Below.refl _ _⟩
 ·rename World=>wo
  clear g;obtain⟨i,hi,rfl,g,hb⟩:=hrel;by_cases aB:i<n
  ·have aD:(i:Int)<(n:Int):=by omega
   obtain⟨bp,op,p,A1,Q,d1,rfl,s,hp,g0,g1,r1,_⟩:=b.o.get aB;have aG:Q<=100000:=by rw [<-r1.len];exact U.o p (List.mem_of_getElem? hp)
   have N:=H_ r1;have a:=H_ g1;have f:=g.o;rw [a1_ hp] at f;unfold dK_ at f;have j:=H_ f;obtain⟨Y,X⟩:=e_ p.runs;rw [X] at N j;have G:Hd (∀ y∈Y.take 0,(x==y)=false):=fun y Z=>by simp at Z
   have R:Hd (Below wo.heap.size wo wo):=Below.refl _ _;clear g0 g1 r1 f hp X g
   go_wp2
   go_loopw [7] (fun kv wr=> ∃ k:Nat,k<=Q/\kv= .int .i64 k/\Hd (∀ y∈Y.take k,(x==y)=false)/\Hd (Below wo.heap.size wo wr)) (fun kv _=>Q-(intOf kv).toNat)
   ·exact⟨0,Nat.zero_le _,rfl,G,R⟩
   ·clear G R;obtain⟨k,hk,rfl,q,S⟩:=hrel;have F:=h_ hb S.o;have z1:=c_ F.o s a.o;by_cases aC:k<Q
    ·have aF:(k:Int)<(Q:Int):=by omega
     obtain⟨bx,ox,y,rfl,aA,Z,gy⟩:=N.o.num aC;have aE:=c_ F.o aA gy;have M:=H_ Z;clear Z gy;by_cases L:y=x
     ·subst L;have hg:(y==y)=true:=by simp
      have D:idx (fun z=>y==z) Y=(k:Int):=cn_ M.o q.o (by simp);have f:=j.o;rw [D,if_pos (by omega)] at f;subst f;clear j D q M
      go_wp2
      go_returns;exact⟨rfl,F.o⟩
     ·have hg:(y==x)=false:=by simpa using L
      have T:Hd (∀ z∈Y.take (k+1),(x==z)=false):=fun z J=>by
       rw [an_ M.o] at J;rcases List.mem_append.1 J with J|J
       ·exact q.o z J
       ·simp only [List.mem_singleton] at J;subst J;simp;exact fun e=>L e.symm
      clear q
      go_wp2
      go_roundw
      ·exact⟨k+1,by omega,by go_num,T,S⟩
      ·simp [intOf];omega
    ·obtain rfl:k=Q:=by omega
     have D:idx (fun z=>x==z) Y= -1:=cx_ fun z J=>q.o z (by rwa [List.take_of_length_le (by rw [N.o.len];omega)]);have f:=j.o;rw [D,if_neg (by omega)] at f;have f:=H_ f;clear j D q
     go_wp2
     go_roundw
     ·exact⟨i+1,by omega,by go_num,f,F⟩
     ·simp [intOf];omega
  ·obtain rfl:i=n:=by omega
   have f:=g.o;rw [List.drop_of_length_le (by rw [d.o];omega)] at f;subst f
   go_wp2
   go_returns;exact⟨rfl,hb.o⟩
theorem hG_ {P Q:List PatP} {i:Nat} {p q:PatP} (hp:P[i]?=some p) (hq:Q[i]?=some q) (e:P=Q):p=q:=by
 subst e;rw [hp] at hq;exact Option.some.inj hq
theorem ie_ (A:Option Addr) (n c:Nat) (P:List PatP) (A':Option Addr) (n' c':Nat) (Q:List PatP) (we:World) (hP:bm_ we A n P) (hQ:bm_ we A' n' Q) (hn:n<=100000) (hn':n'<=100000) (hps: ∀ p∈P,p.runs.length<=100000) (hqs: ∀ p∈Q,p.runs.length<=100000):
 Calls Tryz.prog 51 #[.slice A n c,.slice A' n' c'] we (rb_ (.bool (decide (P=Q))) we):=by
 have bC:=H_ hP;have bD:=H_ hQ;have aW:=H_ hps;have bJ:=H_ hqs;have aF:=H_ hP.len;have aK:=H_ hQ.len;clear hP hQ hps hqs;go_enter Tryz.func51,Tryz.ntmps51;by_cases aT:n=n'
 ·subst aT;have hg:((n:Int) !=(n:Int))=false:=by simp
  have M:Hd (∀ j p q,j<0 ->P[j]?=some p ->Q[j]?=some q ->p=q):=fun j _ _ hj=>absurd hj (by omega)
  go_wp2
  go_loopw [5] (fun iv wr=> ∃ i:Nat,i<=n/\iv= .int .i64 i/\Hd (∀ j p q,j<i ->P[j]?=some p ->Q[j]?=some q ->p=q)/\Hd (Below we.heap.size we wr)) (fun iv _=>n-(intOf iv).toNat)
  ·exact⟨0,Nat.zero_le _,rfl,M,Below.refl _ _⟩
  ·rename World=>wo
   clear M;obtain⟨i,hi,rfl,L,hb⟩:=hrel;by_cases aQ:i<n
   ·have bI:(i:Int)<(n:Int):=by omega
    obtain⟨bp,op,p,A1,Y,d1,rfl,D,hp,g0,g1,r1,_⟩:=bC.o.get aQ;obtain⟨bq,oq,q,A2,n2,d2,rfl,J,hq,k0,k1,r2,_⟩:=bD.o.get aQ;have bM:Y<=100000:=by rw [<-r1.len];exact aW.o p (List.mem_of_getElem? hp)
    have s:=H_ hp;have aA:=H_ hq;have aC:=H_ r1;have aJ:=H_ r2;have aE:=H_ g1;have bA:=H_ k1;obtain⟨aB,S⟩:=e_ p.rt;obtain⟨bB,U⟩:=e_ q.rt;rw [S] at g0;rw [U] at k0;have T:=H_ S;have X:=H_ U;clear hp hq r1 r2 S U;by_cases aH:aB=bB
    ·subst aH;have bF:(aB !=aB)=false:=by simp
     by_cases aS:Y=n2
     ·subst aS;have bG:((Y:Int) !=(Y:Int))=false:=by simp
      have aD:Hd (∀ j x y,j<0 ->p.runs[j]?=some x ->q.runs[j]?=some y ->x=y):=fun j _ _ hj=>absurd hj (by omega)
      go_wp2
      refine wb_ wo.heap.size ?_;intro C Z
      repeat(go_big_quiet_step (first
       |((intro _;with_reducible rfl))
       |(intro d;have f:=b_ hb d;simp only [c_ f D g0,c_ f J k0,c_ f D g1,c_ f J k1,Result.andThen];exact⟨trivial,rfl⟩)
      ))
      intro w9 g;clear Z;have g:=h_ hb g;rename_i gx;clear gx;have aL:Hd (Below w9.heap.size w9 w9):=Below.refl _ _;clear g0 g1 k0 k1
      go_wp2
      go_loopw [6] (fun kv wr=> ∃ k:Nat,k<=Y/\kv= .int .i64 k/\Hd (∀ j x y,j<k ->p.runs[j]?=some x ->q.runs[j]?=some y ->x=y)/\Hd (Below w9.heap.size w9 wr)) (fun kv _=>Y-(intOf kv).toNat)
      ·exact⟨0,Nat.zero_le _,rfl,aD,aL⟩
      ·clear aD aL;obtain⟨k,hk,rfl,r,aM⟩:=hrel;have R:=h_ g aM.o;have z1:=c_ R.o D aE.o;by_cases aR:k<Y
       ·have bL:(k:Int)<(Y:Int):=by omega
        obtain⟨bx,ox,x,rfl,aO,hx,gx⟩:=aC.o.num aR;obtain⟨bK,oy,y,rfl,aP,hy,gy⟩:=aJ.o.num aR;have aX:=H_ hx;have aY:=H_ hy;clear hx hy;by_cases aI:x=y
        ·subst aI;have bH:(x !=x)=false:=by simp
         have aU:Hd (∀ j a b,j<k+1 ->p.runs[j]?=some a ->q.runs[j]?=some b ->a=b):=fun j a b hj F G=>by
          rcases Nat.lt_or_ge j k with h|h
          ·exact r.o j a b h F G
          ·obtain rfl:j=k:=by omega
           rw [aX.o] at F;rw [aY.o] at G;cases F;cases G;rfl
         clear r
         go_wp2
         refine wb_ wr.heap.size ?_;intro C Z
         repeat(go_big_quiet_step (first
          |((intro _;with_reducible rfl))
          |(intro d;have f:=b_ R d;simp only [c_ f D aE.o,c_ f J bA.o,c_ f aO gx,c_ f aP gy,Result.andThen];exact⟨trivial,rfl⟩)
         ))
         intro w8 N;clear Z;have aN:=h_ aM N;clear N
         go_wp2
         go_roundw
         ·exact⟨k+1,by omega,by go_num,aU,aN⟩
         ·simp [intOf];omega
        ·have bH:(x !=y)=true:=by simp [aI]
         have z:Hd (decide (P=Q)=false):=F_ fun e=>by
          have h:=hG_ s.o aA.o e;subst h;have G:=aY.o;rw [aX.o] at G;exact aI (Option.some.inj G)
         go_wp2
         refine wb_ wr.heap.size ?_;intro C Z
         repeat(go_big_quiet_step (first
          |((intro _;with_reducible rfl))
          |(intro d;have f:=b_ R d;simp only [c_ f D aE.o,c_ f J bA.o,c_ f aO gx,c_ f aP gy,Result.andThen];exact⟨trivial,rfl⟩)
         ))
         intro w8 N;clear Z;have bE:=h_ R N;clear N
         go_wp2
         go_returns;exact⟨am_ z.o.symm,bE.o⟩
       ·obtain rfl:k=Y:=by omega
        have aV:p=q:=by
         have F:p.runs=q.runs:=List.ext_getElem (aC.o.len.trans aJ.o.len.symm) fun j F G=>r.o j _ _ (by rw [aC.o.len] at F;exact F) (List.getElem?_eq_getElem F) (List.getElem?_eq_getElem G);have G:p.rt=q.rt:=T.o.trans X.o.symm;cases p;cases q;simp_all
        have aG:Hd (∀ j a b,j<i+1 ->P[j]?=some a ->Q[j]?=some b ->a=b):=fun j a b hj F G=>by
         rcases Nat.lt_or_ge j i with h|h
         ·exact L.o j a b h F G
         ·obtain rfl:j=i:=by omega
          rw [s.o] at F;rw [aA.o] at G;cases F;cases G;exact aV
        clear L aV r
        go_wp2
        go_roundw
        ·exact⟨i+1,by omega,by go_num,aG,R⟩
        ·simp [intOf];omega
     ·have bG:((Y:Int) !=(n2:Int))=true:=by simp;omega
      have z:Hd (decide (P=Q)=false):=F_ fun e=>by
       have h:=hG_ s.o aA.o e;subst h;exact aS (aC.o.len.symm.trans aJ.o.len)
      go_wp2
      refine wb_ wo.heap.size ?_;intro C Z
      repeat(go_big_quiet_step (first
       |((intro _;with_reducible rfl))
       |(intro d;have f:=b_ hb d;simp only [c_ f D g0,c_ f J k0,c_ f D g1,c_ f J k1,Result.andThen];exact⟨trivial,rfl⟩)
      ))
      intro w9 g;clear Z;have g:=h_ hb g;rename_i gx;clear gx
      go_wp2
      go_returns;exact⟨am_ z.o.symm,g.o⟩
    ·have bF:(aB !=bB)=true:=by simp [aH]
     have z:Hd (decide (P=Q)=false):=F_ fun e=>by
      have h:=hG_ s.o aA.o e;subst h;exact aH (T.o.symm.trans X.o)
     go_wp2
     refine wb_ wo.heap.size ?_;intro C Z
     repeat(go_big_quiet_step (first
      |((intro _;with_reducible rfl))
      |(intro d;have f:=b_ hb d;simp only [c_ f D g0,c_ f J k0,Result.andThen];exact⟨trivial,rfl⟩)
     ))
     intro w9 g;clear Z;have g:=h_ hb g;rename_i gx;clear gx
     go_wp2
     go_returns;exact⟨am_ z.o.symm,g.o⟩
   ·obtain rfl:i=n:=by omega
    have aZ:Hd (decide (P=Q)=true):=T_ (List.ext_getElem (aF.o.trans aK.o.symm) fun j F G=>L.o j _ _ (by rw [aF.o] at F;exact F) (List.getElem?_eq_getElem F) (List.getElem?_eq_getElem G))
    go_wp2
    go_returns;exact⟨am_ aZ.o.symm,hb.o⟩
 ·have hg:((n:Int) !=(n':Int))=true:=by simp;omega
  have z:Hd (decide (P=Q)=false):=F_ fun e=>by subst e;exact aT (aF.o.symm.trans aK.o)
  go_wp2
  go_returns;exact⟨am_ z.o.symm,Below.refl _ _⟩
theorem fm_ (A A1:Option Addr) (n c m c1:Nat) (rt pos t:Int) (L:List RunP) (l:List Int) (we:World) (hL:be_ we A n L) (hn:n<=100000) (hl:Rd we 1 (numE .i64) A1 m l) (hm:m<=100000) (hdl: ∀ r∈L,r.dep.length<=100000):
 Calls Tryz.prog 54 #[.slice A n c,.agg #[.int .i64 rt,.slice A1 m c1],.int .i64 pos,.int .i64 t] we (rb_ (.int .i64 (bf_ L l pos t:Nat)) we):=by
 have z:=H_ hl.len;have a:=H_ hL.len;have aI:=H_ hL;have aL:=H_ hl;have aK:=H_ hdl;clear hL hl hdl;obtain⟨w1,b1,aZ,aJ,aS,aY,B1,bD⟩:=cm_ we 68 [.int .i64 rt,.slice A1 m c1];have aQ:=H_ B1;have p1:=B1.cell 1 rfl;have J:Hd (∀ j x,j<0 ->l[j]?=some x ->inR L pos x=true):=fun j _ hj=>absurd hj (by omega);have M:Hd (Below w1.heap.size w1 w1):=Below.refl _ _;clear B1 aS;go_enter Tryz.func54,Tryz.ntmps54
 go_wp2
 clear aZ aJ p1;go_loopw [9] (fun iv wr=> ∃ i:Nat,i<=m/\iv= .int .i64 i/\Hd (∀ j x,j<i ->l[j]?=some x ->inR L pos x=true)/\Hd (Below w1.heap.size w1 wr)) (fun iv _=>m-(intOf iv).toNat)
 ·exact⟨0,Nat.zero_le _,rfl,J,M⟩
 ·clear J M;obtain⟨i,hi,rfl,F,hb⟩:=hrel;have q:=h_ aY hb.o;have C1:=H_ (aQ.o.below hb.o);have z1:=C1.o.cell 1 rfl;have bK:=C1.o.lt;by_cases aU:i<m
  ·have bF:(i:Int)<(m:Int):=by omega
   obtain⟨bx,ox,x,rfl,aA,X,gx⟩:=aL.o.num aU;have aR:=c_ q.o aA gx;have g:=H_ X;clear X gx C1;by_cases aP:x<0
   ·have g0:decide (x<0)=true:=T_ aP;have f:Hd ((m:Int)=((bf_ L l pos t:Nat):Int)):=by show _=_;unfold bf_;rw [if_neg ?_,z.o];rw [Bool.not_eq_true,List.all_eq_false];exact⟨x,List.mem_of_getElem? g.o,by unfold inR;simp;omega⟩
    go_wp2
    go_returns;exact⟨ah_ f.o,q.o⟩
   ·by_cases bA:(n:Int)<=x
    ·have g0:decide (x<0)=false:=F_ aP;have g1:decide ((n:Int)<=x)=true:=T_ bA;have bC:=a.o;have f:Hd ((m:Int)=((bf_ L l pos t:Nat):Int)):=by show _=_;unfold bf_;rw [if_neg ?_,z.o];rw [Bool.not_eq_true,List.all_eq_false];exact⟨x,List.mem_of_getElem? g.o,by unfold inR;simp;omega⟩
     go_wp2
     go_returns;exact⟨ah_ f.o,q.o⟩
    ·obtain⟨R,rfl⟩:=Int.eq_ofNat_of_zero_le (show 0<=x by omega);have aG:R<n:=by omega
     have bJ:(R:Int)<(n:Int):=by omega
     have g0:decide ((R:Int)<0)=false:=F_ (by omega);have g1:decide (n<=R)=false:=F_ (by omega);by_cases aN:pos<0
     ·have g2:decide (pos<0)=true:=T_ aN;have f:Hd ((m:Int)=((bf_ L l pos t:Nat):Int)):=by show _=_;unfold bf_;rw [if_neg ?_,z.o];rw [Bool.not_eq_true,List.all_eq_false];exact⟨(R:Int),List.mem_of_getElem? g.o,by unfold inR;simp;omega⟩
      go_wp2
      go_returns;exact⟨ah_ f.o,q.o⟩
     ·have g2:decide (pos<0)=false:=F_ aN;obtain⟨bL,oL,r,X1,n1,e1,X2,Y,e2,rfl,e,hr,t0,t1,t2,t3,aH,D,aB,aC⟩:=aI.o.get aG;have bB:=c_ q.o e t3;have G:Hd (ao_ L (R:Int)=r):=by show _=_;unfold ao_;rw [Int.toNat_natCast,hr];rfl
      have aO:Hd (r.dep.length=Y):=D.len;have bH:Y<=100000:=by rw [<-D.len];exact aK.o r (List.mem_of_getElem? hr)
      clear hr t0 t1 t2 t3 aH D aB aC;by_cases aX:(Y:Int)<=pos
      ·have g3:decide ((Y:Int)<=pos)=true:=T_ aX;have f:Hd ((m:Int)=((bf_ L l pos t:Nat):Int)):=by show _=_;unfold bf_;rw [if_neg ?_,z.o];rw [Bool.not_eq_true,List.all_eq_false];exact⟨R,List.mem_of_getElem? g.o,by unfold inR;rw [G.o,aO.o];simp;omega⟩
       go_wp2
       go_returns;exact⟨ah_ f.o,q.o⟩
      ·obtain⟨T,rfl⟩:=Int.eq_ofNat_of_zero_le (show 0<=pos by omega);have g3:decide (Y<=T)=false:=F_ (by omega)
       have b:Hd (∀ j x,j<i+1 ->l[j]?=some x ->inR L (T:Int) x=true):=fun j x hj Z=>by
        rcases Nat.lt_or_ge j i with h|h
        ·exact F.o j x h Z
        ·obtain rfl:j=i:=by omega
         rw [g.o] at Z;cases Z;unfold inR;rw [G.o,aO.o,a.o];simp;omega
       clear F
       go_wp2
       go_roundw
       ·exact⟨i+1,by omega,by go_num,b,hb⟩
       ·simp [intOf];omega
  ·obtain rfl:i=m:=by omega
   rename World=>wo
   have aE:Hd (l.all (inR L pos)=true):=by
    show _=_;rw [List.all_eq_true];intro x X;obtain⟨j,hj⟩:=List.getElem?_of_mem X;exact F.o j x (by have:=(List.getElem?_eq_some_iff.1 hj).1;rw [z.o] at this;exact this) hj
   have U:Hd (∀ y∈l.take 0,decide (t<=b0_ L pos y)=false):=fun y S=>by simp at S
   have M:Hd (Below wo.heap.size wo wo):=Below.refl _ _;have C1:=H_ C1.o;clear F
   go_wp2
   go_loopw [10] (fun kv wr=> ∃ k:Nat,k<=i/\kv= .int .i64 k/\Hd (∀ y∈l.take k,decide (t<=b0_ L pos y)=false)/\Hd (Below wo.heap.size wo wr)) (fun kv _=>i-(intOf kv).toNat)
   ·exact⟨0,Nat.zero_le _,rfl,U,M⟩
   ·clear U M z1;obtain⟨k,hk,rfl,f,s⟩:=hrel;have N:=h_ q s.o;have D1:=H_ (C1.o.below s.o);have z1:=D1.o.cell 1 rfl;by_cases aV:k<i
    ·have bG:(k:Int)<(i:Int):=by omega
     obtain⟨bx,ox,x,rfl,aA,X,gx⟩:=aL.o.num aV;have aR:=c_ N.o aA gx;have aF:=List.all_eq_true.1 aE.o x (List.mem_of_getElem? X);have g:=H_ X;unfold inR at aF;simp only [Bool.and_eq_true,decide_eq_true_eq] at aF;obtain⟨i1,i2,i3,i4⟩:=aF;obtain⟨R,rfl⟩:=Int.eq_ofNat_of_zero_le i1;obtain⟨T,rfl⟩:=Int.eq_ofNat_of_zero_le i3;rw [a.o] at i2;have aG:R<n:=by omega
     obtain⟨bL,oL,r,X1,n1,e1,X2,Y,e2,rfl,e,hr,t0,t1,t2,t3,aH,D,aB,aC⟩:=aI.o.get aG;have G:ao_ L (R:Int)=r:=by unfold ao_;rw [Int.toNat_natCast,hr];rfl
     rw [G,D.len] at i4;have aW:T<Y:=by omega
     have bI:(T:Int)<(Y:Int):=by omega
     have bB:=c_ N.o e t3;obtain⟨bd,od,d,rfl,aT,hd,gd⟩:=D.num aW;have bE:=c_ N.o aT gd;have aD:Hd (b0_ L (T:Int) (R:Int)=d):=by show _=_;unfold b0_;rw [G,Int.toNat_natCast,hd];rfl
     clear X gx i1 i2 i3 i4 hr G t0 t1 t2 t3 aH D aB aC hd gd D1;by_cases Q:t<=d
     ·have g0:decide (t<=d)=true:=T_ Q
      have P:Hd ((k:Int)=((bf_ L l (T:Int) t:Nat):Int)):=by
       show _=_;unfold bf_;rw [if_pos aE.o];have Z:=cn_ (p:=fun n=>decide (t<=b0_ L (T:Int) n)) g.o f.o (by rw [aD.o];exact T_ Q);unfold idx at Z;rw [if_pos (List.any_eq_true.2 ⟨_,List.mem_of_getElem? g.o,by rw [aD.o];exact T_ Q⟩)] at Z;exact Z.symm
      clear f
      go_wp2
      go_returns;exact⟨ah_ P.o,N.o⟩
     ·have g0:decide (t<=d)=false:=F_ Q
      have aM:Hd (∀ y∈l.take (k+1),decide (t<=b0_ L (T:Int) y)=false):=fun y S=>by
       rw [an_ g.o] at S;rcases List.mem_append.1 S with S|S
       ·exact f.o y S
       ·simp only [List.mem_singleton] at S;subst S;rw [aD.o];exact F_ Q
      clear f
      go_wp2
      go_roundw
      ·exact⟨k+1,by omega,by go_num,aM,s⟩
      ·simp [intOf];omega
    ·obtain rfl:k=i:=by omega
     have P:Hd ((k:Int)=((bf_ L l pos t:Nat):Int)):=by
      show _=_;unfold bf_;rw [if_pos aE.o,List.findIdx_eq_length_of_false (fun y S=>by have:=f.o y (by rwa [List.take_of_length_le (by rw [z.o];exact Nat.le_refl _)]);simpa using this),z.o]
     clear f
     go_wp2
     go_returns;exact⟨ah_ P.o,N.o⟩
