/- Merged. -/
import Derived.Test.YtechdefolfboeaaGreatDoorPd33
set_option linter.unusedVariables false
set_option linter.unusedSimpArgs false
set_option maxRecDepth 100000
set_option maxHeartbeats 2000000
namespace Go.Proofs.YtechdefolfboeaaGreatDoor
open Go.RowKit B K
structure SW (w0:World) (A:Option Addr) (n:Nat) (L:List RunP) (wS:World) (g m c:Nat) (d:Array Int) (w:World):Prop where
 own:w.ownsRow g 3 1 (.slice (some ⟨g,0,none⟩) m c) m (d.toList.flatMap (numE .i64))
 sz:d.size=m
 b0:Below w0.heap.size w0 w
 low:w0.heap.size<=g
 rk:e3_ w0 A n L
 dl:f1_ L
 inn: ∀ i,i<m ->d[i]! ∈natI L.length
 gr:wS.grownBy w (some g)
section
variable {w0 wS w w':World} {A:Option Addr} {n g m c:Nat} {L:List RunP} {d:Array Int}
theorem SW.below (h:SW w0 A n L wS g m c d w) (hb:Below w.heap.size w w'):SW w0 A n L wS g m c d w':=
 ⟨aa_ h.own hb,h.sz,u_ h.b0 hb,h.low,h.rk,h.dl,h.inn,⟨hb.os.trans h.gr.os,hb.tape.trans h.gr.tape,hb.output.trans h.gr.output,Nat.le_trans h.gr.size hb.size,fun k j f=>(hb.block k (Nat.lt_of_lt_of_le j h.gr.size)).trans (h.gr.block k j f)⟩⟩
theorem SW.lt (h:SW w0 A n L wS g m c d w):g<w.heap.size:=(h.own.lt g rfl).2
theorem SW.cell (h:SW w0 A n L wS g m c d w) {j:Nat} (hj:j<m):w.cell? ⟨g,j,none⟩=some (.int .i64 d[j]!):=by
 refine(h.own.cellAt j (by omega)).trans ?_
 have f:d.toList[j]?=some d[j]! :=by
  have hs:=h.sz;rw [getElem!_pos d j (by omega),Array.getElem?_toList,Array.getElem?_eq_getElem (by omega)]
 have:=a8_ (enc:=numE .i64) aj_ d.toList j _ f 0 _ rfl;rw [Nat.mul_one,Nat.add_zero] at this;exact this
theorem SW.frozen (h:SW w0 A n L wS g m c d w) (j:Nat):w.frozen? ⟨g,j,none⟩=false:=h.own.frozenAt j
theorem SW.cmp (cA:Nat) (h:SW w0 A n L wS g m c d w) {i j:Nat} (hi:i<m) (hj:j<m) (hw:Below w.heap.size w w'):Calls Tryz.prog 82 #[.slice A n cA,.int .i64 d[i]!,.int .i64 d[j]!] w' fun e w2=>e= .returned (.int .i64 (ordR L d[i]! d[j]!))/\Below w'.heap.size w' w2:=by
 have f:=h.rk.below (h.below hw).b0;exact oc_ A n cA L w' f.rr f.n5 h.dl _ _ (h.inn i hi) (h.inn j hj)
theorem kt_ (h:SW w0 A n L wS g m c d w) {j:Nat} (hj:j<m) (x:Int) (hx:x∈natI L.length):SW w0 A n L wS g m c (d.setIfInBounds j x) (w.setCell ⟨g,j,none⟩ (.int .i64 x)):=by
 have y:=h.sz;have f:=h.own.stored j (.int .i64 x);have D:Below g w (w.setCell ⟨g,j,none⟩ (.int .i64 x)):=((Below.refl w.heap.size w).mono (Nat.le_of_lt h.lt)).setCell (Nat.le_refl _) _;refine⟨?_,by simpa using y,h.b0.trans (D.mono h.low),h.low,h.rk,h.dl,fun i q=>?_,⟨f.2.os.trans h.gr.os,f.2.tape.trans h.gr.tape,f.2.output.trans h.gr.output,Nat.le_trans h.gr.size f.2.size,fun k z p=>(f.2.block k (Nat.lt_of_lt_of_le z h.gr.size) p).trans (h.gr.block k z p)⟩⟩
 ·have e:(d.setIfInBounds j x).toList.flatMap (numE .i64)=(d.toList.flatMap (numE .i64)).set j (.int .i64 x):=by
   rw [Array.toList_setIfInBounds,kp_,kp_,List.map_set]
  rw [e];exact f.1
 ·by_cases e:i=j
  ·subst e;rw [getElem!_pos _ i (by simpa [y] using q)];simpa using hx
  ·rw [getElem!_pos _ i (by simpa [y] using q),Array.getElem_setIfInBounds_ne (by omega) (Ne.symm e), <-getElem!_pos d i (by omega)];exact h.inn i q
theorem SW.swap (h:SW w0 A n L wS g m c d w) {i j:Nat} (hi:i<m) (hj:j<m): ∃ W1 W2,w.cell? ⟨g,i,none⟩=some (.int .i64 d[i]!)/\w.frozen? ⟨g,i,none⟩=false/\w.setCell ⟨g,i,none⟩ (.int .i64 d[j]!)=W1/\
 (∃ y,W1.cell? ⟨g,j,none⟩=some (.int .i64 y))/\W1.frozen? ⟨g,j,none⟩=false/\W1.setCell ⟨g,j,none⟩ (.int .i64 d[i]!)=W2/\SW w0 A n L wS g m c (Sort.swp d i j) W2:=by
 have f:=kt_ h hi _ (h.inn j hj);exact⟨_,_,h.cell hi,h.frozen i,rfl,⟨_,f.cell hj⟩,f.frozen j,rfl,kt_ f hj _ (h.inn i hi)⟩
end
theorem swoR (L:List RunP):Sort.SWO (ltR L) where
 irrefl x:=ko_ x
 trans x y z h1 h2:=ms_ h1 h2
 ntrans x y z h1 h2:=hC_ h1 h2
theorem im_ {lt:Int ->Int ->Bool} {a j:Nat} {d:Array Int} (h:j<=a):Sort.insInner lt a j d=d:=by
 cases j with
 |zero=>rfl
 |succ j=>rw [Sort.insInner,show decide (j+1>a)=false from F_ (by omega)];rfl
theorem jE_ {lt:Int ->Int ->Bool} {a j:Nat} {d:Array Int} (h:lt d[j+1]! d[j]! =false):Sort.insInner lt a (j+1) d=d:=by
 rw [Sort.insInner,h];simp
theorem iQ_ {lt:Int ->Int ->Bool} {a j:Nat} {d:Array Int} (h1:a<j+1) (h:lt d[j+1]! d[j]! =true):Sort.insInner lt a (j+1) d=Sort.insInner lt a j (Sort.swp d (j+1) j):=by
 rw [Sort.insInner,h,show decide (j+1>a)=true from T_ h1];simp
theorem in_ {lt:Int ->Int ->Bool} {a b i:Nat} {d:Array Int} (h: ¬ i<b):Sort.insOuter lt a b i d=d:=by rw [Sort.insOuter,if_neg h]
theorem jF_ {lt:Int ->Int ->Bool} {a b i:Nat} {d:Array Int} (h:i<b):Sort.insOuter lt a b i d=Sort.insOuter lt a b (i+1) (Sort.insInner lt a i d):=by rw [Sort.insOuter,if_pos h]
theorem oO_ {w0 wS w:World} {A:Option Addr} {n g m c:Nat} {L:List RunP} {d:Array Int} (cA:Nat) (hS:SW w0 A n L wS g m c d w) (hm:m<=100000) (a b:Nat) (hb:b<=m) (ha:a<=m):
 Calls Tryz.prog 147 #[.slice (some ⟨g,0,none⟩) m c,.int .i64 (a:Int),.int .i64 (b:Int),.func (.func 82) #[.slice A n cA] #[]] w fun e w'=>e= .returned (.tuple #[])/\SW w0 A n L wS g m c (Sort.insertionSort (ltR L) d a b) w':=by
 have s:=H_ hS;obtain⟨R,D⟩:=e_ (Sort.insertionSort (ltR L) d a b);rw [D];have Z:Hd (Sort.insOuter (ltR L) a b (a+1) d=R):=D;clear hS D;go_enter Tryz.func147,Tryz.ntmps147
 go_wp2
 go_loopw [8] (fun iv wr=> ∃ (i:Nat) (d:Array Int),a<i/\i<=m+1/\iv= .int .i64 i/\Hd (SW w0 A n L wS g m c d wr)/\Hd (Sort.insOuter (ltR L) a b i d=R)) (fun iv _=>m+1-(intOf iv).toNat)
 ·exact⟨a+1,d,by omega,by omega,by go_num,s,Z⟩
 ·clear s Z;obtain⟨i,d,aL,aN,rfl,hS,D⟩:=hrel;by_cases aB:i<b
  ·have aC:(i:Int)<(b:Int):=by omega
   obtain⟨wo,rfl⟩: ∃ wo:World,wo=wr:=⟨_,rfl⟩
   have T:Hd (Sort.insOuter (ltR L) a b (i+1) (Sort.insInner (ltR L) a i d)=R):=by show _=_;rw [<-D.o];exact(jF_ aB).symm
   obtain⟨Q,X⟩:=e_ (Sort.insInner (ltR L) a i d);rw [X] at T;have r:Hd (Sort.insInner (ltR L) a i d=Q):=X;clear D X
   go_wp2
   go_loopw [9] (fun jv wr=> ∃ (j:Nat) (d:Array Int),a<=j/\j<=i/\jv= .int .i64 j/\Hd (SW w0 A n L wS g m c d wr)/\Hd (Sort.insInner (ltR L) a j d=Q)) (fun jv _=>(intOf jv).toNat)
   ·exact⟨i,d,by omega,Nat.le_refl _,rfl,hS,r⟩
   ·clear hS r;obtain⟨j,d,aM,aO,rfl,hS,D⟩:=hrel;by_cases aF:a<j
    ·obtain⟨j,rfl⟩: ∃ k,j=k+1:=⟨j-1,by omega⟩
     have aK:(a:Int)<(j:Int)+1:=by omega
     have J:j+1<m:=by omega
     have G:j<m:=by omega
     have aI:(j:Int)+1<(m:Int):=by omega
     have aH:(j:Int)<(m:Int):=by omega
     have aP:IntKind.i64.wrap ((j:Int)+1-1)=j:=by rw [IntWalk.i64_in _ (by omega)];omega
     obtain⟨o,ho⟩:=e_ (ordR L d[j+1]! d[j]!);have P:Hd (∀ {U:World},Below wr.heap.size wr U ->Calls Tryz.prog 82 #[.slice A n cA,.int .i64 d[j+1]!,.int .i64 d[j]!] U (rb_ (.int .i64 o) U)):=fun hU=>by rw [<-ho];exact hS.o.cmp cA J G hU
     have N:ltR L d[j+1]! d[j]! =decide (o<0):=by rw [<-ho];rfl
     by_cases aD:o<0
     ·have M:decide (o<0)=true:=T_ aD;have y:Hd (Sort.insInner (ltR L) a j (Sort.swp d (j+1) j)=Q):=by show _=_;rw [<-D.o];exact(iQ_ aF (by rw [N];exact M)).symm
      clear D ho N;go_wp2_with fail;have z:Hd (Below wr.heap.size wr wr):=Below.refl _ _
      go_wp2
      refine wb_ wr.heap.size ?_;intro C S
      repeat(go_big_quiet_step (first
       |((intro _;with_reducible rfl))
       |(intro F;have p:=b_ z F;simp only [(hS.o.below p).cell J,(hS.o.below p).cell G,Result.andThen];exact⟨trivial,rfl⟩)
       |(intro F;have p:=b_ z F;(with_reducible refine(P.o p).mono ?_);rintro e aG ⟨rfl,hw⟩;exact⟨rfl,u_ F hw⟩)))
      intro w9 q;clear S;have f:=H_ (hS.o.below q);clear q hS z
      go_wp2
      refine wl_ [0,0,1,1,1,0,0,0,0,0,0,0,0,0,0,2,2,2] ?_;intro C S;simp only [af_,Nat.reduceEqDiff, ↓reduceIte]
      repeat(go_big_quiet_step (first
       |(intro _;with_reducible rfl)
       |(intro F;simp only [(f.o.below F).cell J,(f.o.below F).cell G,Result.andThen];exact⟨trivial,rfl⟩)))
      clear S;intro C' aE
      repeat(go_big_quiet_step (first|(intro _;with_reducible rfl)))
      clear aE;intro wq aA;obtain⟨W1,W2,c1,f1,k1,⟨y9,c2⟩,f2,k2,Y⟩:=(f.o.below aA).swap J G;replace Y:=H_ Y;clear aA
      go_wp2
      go_roundw
      ·exact⟨j,_,by omega,by omega,by go_num,Y,y⟩
      ·simp [intOf]<;>omega
     ·have M:decide (o<0)=false:=F_ aD;have y:Hd (d=Q):=by show _=_;rw [<-D.o];exact(jE_ (by rw [N];exact M)).symm
      clear D ho N;go_wp2_with fail;have z:Hd (Below wr.heap.size wr wr):=Below.refl _ _
      go_wp2
      refine wb_ wr.heap.size ?_;intro C S
      repeat(go_big_quiet_step (first
       |((intro _;with_reducible rfl))
       |(intro F;have p:=b_ z F;simp only [(hS.o.below p).cell J,(hS.o.below p).cell G,Result.andThen];exact⟨trivial,rfl⟩)
       |(intro F;have p:=b_ z F;(with_reducible refine(P.o p).mono ?_);rintro e aG ⟨rfl,hw⟩;exact⟨rfl,u_ F hw⟩)))
      intro w9 q;clear S;have f:=H_ (hS.o.below q);clear q hS z;rw [y.o] at f
      go_wp2
      go_roundw
      ·exact⟨i+1,Q,by omega,by omega,by go_num,f,T⟩
      ·simp [intOf]<;>omega
    ·obtain rfl:a=j:=by omega
     have y:Hd (d=Q):=by show _=_;rw [<-D.o];exact(im_ (Nat.le_refl _)).symm
     have aJ:decide ((a:Int)<(a:Int))=false:=F_ (by omega);clear D
     go_wp2
     refine wb_ wr.heap.size ?_;intro C S
     repeat(go_big_quiet_step (first
      |((intro _;with_reducible rfl))
     ))
     intro w9 q;clear S;have f:=H_ (hS.o.below q);clear q hS;rw [y.o] at f
     go_wp2
     go_roundw
     ·exact⟨i+1,Q,by omega,by omega,by go_num,f,T⟩
     ·simp [intOf]<;>omega
  ·have y:Hd (d=R):=by show _=_;rw [<-D.o];exact(in_ aB).symm
   have aC: ¬ (i:Int)<(b:Int):=by omega
   go_wp2
   go_returns;exact⟨rfl,by rw [<-y.o];exact hS.o⟩
theorem m2_ {lt:Int ->Int ->Bool} {hi first root:Nat} {d:Array Int} (h:hi<=2*root+1):Sort.siftDown lt hi first root d=d:=by rw [Sort.siftDown,dif_pos h]
theorem hI_ {lt:Int ->Int ->Bool} {hi first root ch c2:Nat} {d:Array Int} (hc:2*root+1=ch) (h:ch<hi) (h2:c2=if decide (ch+1<hi)&&lt d[first+ch]! d[first+ch+1]! then ch+1 else ch):
 Sort.siftDown lt hi first root d=if !lt d[first+root]! d[first+c2]! then d else Sort.siftDown lt hi first c2 (Sort.swp d (first+root) (first+c2)):=by
 subst hc;rw [Sort.siftDown,dif_neg (by omega)];split at h2
 ·rename_i f;subst h2;rw [if_pos f];have h4:2*root+1+1<hi:=by simp only [Bool.and_eq_true,decide_eq_true_eq] at f;exact f.1
  split
  ·rfl
  ·rfl
 ·rename_i f;subst h2;rw [if_neg f]
theorem mZ_ {w0 wS w:World} {A:Option Addr} {n g m c:Nat} {L:List RunP} {d:Array Int} (cA:Nat) (hS:SW w0 A n L wS g m c d w) (hm:m<=100000) (lo hi first:Nat) (hh:first+hi<=m) (hlo:lo<=m):
 Calls Tryz.prog 222 #[.slice (some ⟨g,0,none⟩) m c,.int .i64 (lo:Int),.int .i64 (hi:Int),.int .i64 (first:Int),.func (.func 82) #[.slice A n cA] #[]] w fun e w'=>e= .returned (.tuple #[])/\SW w0 A n L wS g m c (Sort.siftDown (ltR L) hi first lo d) w':=by
 have aN:=H_ hS;obtain⟨R,X⟩:=e_ (Sort.siftDown (ltR L) hi first lo d);rw [X];have aM:Hd (Sort.siftDown (ltR L) hi first lo d=R):=X;clear hS X;go_enter Tryz.func222,Tryz.ntmps222
 go_wp2
 go_loopw [10] (fun iv wr=> ∃ (f:Nat) (d:Array Int),f<=m/\iv= .int .i64 f/\Hd (SW w0 A n L wS g m c d wr)/\Hd (Sort.siftDown (ltR L) hi first f d=R)) (fun iv _=>m+1-(intOf iv).toNat)
 ·exact⟨lo,d,hlo,rfl,aN,aM⟩
 ·clear aN aM;obtain⟨f,d,bI,rfl,hS,X⟩:=hrel;obtain⟨F,aF⟩:=e_ (2*f+1);have bA:2*(f:Int)+1=(F:Int):=by omega
  have bB:F<=300000:=by omega
  by_cases bG:hi<=F
  ·have aQ:(hi:Int)<=(F:Int):=by omega
   have D:Hd (d=R):=by show _=_;rw [<-X.o];exact(m2_ (by omega)).symm
   clear aF
   go_wp2
   go_returns;exact⟨rfl,by rw [<-D.o];exact hS.o⟩
  ·have aQ: ¬ (hi:Int)<=(F:Int):=by omega
   have G:=H_ aF;obtain⟨p0,aR⟩:=e_ (first+f);obtain⟨S,aT⟩:=e_ (first+F);have N:p0<m:=by omega
   have k:S<m:=by omega
   have aU:IntKind.i64.wrap ((first:Int)+(F:Int))=(S:Int):=by rw [IntWalk.i64_in _ (by omega)];omega
   have bK:IntKind.i64.wrap ((first:Int)+(f:Int))=(p0:Int):=by rw [IntWalk.i64_in _ (by omega)];omega
   have bJ:IntKind.i64.wrap ((F:Int)+1)=(F:Int)+1:=IntWalk.i64_in _ (by omega);have aY:IntKind.i64.wrap ((S:Int)+1)=(S:Int)+1:=IntWalk.i64_in _ (by omega);have bD:(S:Int)<(m:Int):=by omega
   have bC:(p0:Int)<(m:Int):=by omega
   have aS:=H_ aR;have aD:=H_ aT;clear aF aR aT;refine(Decidable.em (F+1<hi)).elim (fun h1=>?xA) (fun h1=>?xB)
   case' xA=>
    have aL:(F:Int)+1<(hi:Int):=by omega
    have r:S+1<m:=by have:=aD.o;omega
    have bE:(S:Int)+1<(m:Int):=by omega
    obtain⟨oA,aG⟩:=e_ (ordR L d[S]! d[S+1]!);have a:Hd (∀ {U:World},Below wr.heap.size wr U ->Calls Tryz.prog 82 #[.slice A n cA,.int .i64 d[S]!,.int .i64 d[S+1]!] U (rb_ (.int .i64 oA) U)):=fun hU=>by rw [<-aG];exact hS.o.cmp cA k r hU
    have aA:ltR L d[S]! d[S+1]! =decide (oA<0):=by rw [<-aG];rfl
    clear aG;have e2:(decide (F+1<hi)&&ltR L d[first+F]! d[first+F+1]!)=decide (oA<0):=by rw [T_ h1,aD.o,aA];simp
    clear aA;refine(Decidable.em (oA<0)).elim (fun aI=>?yA) (fun aI=>?yB)
    case' yA=>
     have i:decide (oA<0)=true:=T_ aI;obtain⟨q,M⟩:=e_ (F+1);have D:Hd ((if !ltR L d[first+f]! d[first+q]! then d else Sort.siftDown (ltR L) hi first q (Sort.swp d (first+f) (first+q)))=R):=by show _=_;rw [<-X.o];exact(hI_ G.o (by omega) (by rw [e2,i,if_pos rfl,M])).symm
     have aP:Hd ((F:Int)+1=(q:Int)):=by show _=_;omega
     have Q:first+q<m/\f<q/\q<=m:=by have:=G.o;omega
     clear e2 X M;go_wp2_with fail;have p:Hd (Below wr.heap.size wr wr):=Below.refl _ _
     go_wp2
     refine wb_ wr.heap.size ?_;intro C T
     repeat(go_big_quiet_step (first
      |((intro _;with_reducible rfl))
      |(intro z;have j:=b_ p z;simp only [(hS.o.below j).cell k,(hS.o.below j).cell r,Result.andThen];exact⟨trivial,rfl⟩)
      |(intro z;have j:=b_ p z;(with_reducible refine(a.o j).mono ?_);rintro e aK ⟨rfl,hw⟩;exact⟨rfl,u_ z hw⟩)))
     intro w9 s;clear T;clear p;have aZ:=aP.o
    case' yB=>
     have i:decide (oA<0)=false:=F_ aI;obtain⟨q,M⟩: ∃ c,c=F:=⟨_,rfl⟩
     have D:Hd ((if !ltR L d[first+f]! d[first+q]! then d else Sort.siftDown (ltR L) hi first q (Sort.swp d (first+f) (first+q)))=R):=by show _=_;rw [<-X.o];exact(hI_ G.o (by omega) (by rw [e2,i,if_neg (by simp)];exact M)).symm
     have Q:first+q<m/\f<q/\q<=m:=by have:=G.o;omega
     subst M;clear e2 X;go_wp2_with fail;have p:Hd (Below wr.heap.size wr wr):=Below.refl _ _
     go_wp2
     refine wb_ wr.heap.size ?_;intro C T
     repeat(go_big_quiet_step (first
      |((intro _;with_reducible rfl))
      |(intro z;have j:=b_ p z;simp only [(hS.o.below j).cell k,(hS.o.below j).cell r,Result.andThen];exact⟨trivial,rfl⟩)
      |(intro z;have j:=b_ p z;(with_reducible refine(a.o j).mono ?_);rintro e aK ⟨rfl,hw⟩;exact⟨rfl,u_ z hw⟩)))
     intro w9 s;clear T;clear p
   case' xB=>
    have aL: ¬ (F:Int)+1<(hi:Int):=by omega
    have bF:decide ((F:Int)+1<(hi:Int))=false:=F_ aL;obtain⟨q,M⟩: ∃ c,c=F:=⟨_,rfl⟩
    have D:Hd ((if !ltR L d[first+f]! d[first+q]! then d else Sort.siftDown (ltR L) hi first q (Sort.swp d (first+f) (first+q)))=R):=by show _=_;rw [<-X.o];exact(hI_ G.o (by omega) (by rw [F_ h1];simpa using M)).symm
    have Q:first+q<m/\f<q/\q<=m:=by have:=G.o;omega
    subst M;clear X
    go_wp2
    refine wb_ wr.heap.size ?_;intro C T
    repeat(go_big_quiet_step (first
     |((intro _;with_reducible rfl))
    ))
    intro w9 s;clear T
   all_goals
    have J:=H_ (hS.o.below s);clear s hS;obtain⟨p2,aJ⟩:=e_ (first+q);rw [aJ,aS.o] at D;rw [aJ] at Q;obtain⟨y,bH,aW⟩:=Q;have bL:IntKind.i64.wrap ((first:Int)+(q:Int))=(p2:Int):=by rw [IntWalk.i64_in _ (by omega)];omega
    have aX:(p2:Int)<(m:Int):=by omega
    clear aJ aY;obtain⟨oB,aH⟩:=e_ (ordR L d[p0]! d[p2]!);have b:Hd (∀ {U:World},Below w9.heap.size w9 U ->Calls Tryz.prog 82 #[.slice A n cA,.int .i64 d[p0]!,.int .i64 d[p2]!] U (rb_ (.int .i64 oB) U)):=fun hU=>by rw [<-aH];exact J.o.cmp cA N y hU
    have aB:ltR L d[p0]! d[p2]! =decide (oB<0):=by rw [<-aH];rfl
    clear aH;rw [aB] at D;clear aB;by_cases aC:oB<0
    ·have P:decide (oB<0)=true:=T_ aC;rw [P,if_neg (by simp)] at D;clear aU;go_wp2_with fail;have p:Hd (Below w9.heap.size w9 w9):=Below.refl _ _
     go_wp2
     refine wb_ w9.heap.size ?_;intro C T
     repeat(go_big_quiet_step (first
      |((intro _;with_reducible rfl))
      |(intro z;have j:=b_ p z;simp only [(J.o.below j).cell N,(J.o.below j).cell y,Result.andThen];exact⟨trivial,rfl⟩)
      |(intro z;have j:=b_ p z;(with_reducible refine(b.o j).mono ?_);rintro e aK ⟨rfl,hw⟩;exact⟨rfl,u_ z hw⟩)))
     intro wa Z;clear T;have Y:=H_ (J.o.below Z);clear Z p J
     go_wp2
     refine wl_ [0,0,0,0,1,1,1,1,0,0,0,0,0,0,0,0,0,0,0,0,0,2,2,2] ?_;intro C T;simp only [af_,Nat.reduceEqDiff, ↓reduceIte]
     repeat(go_big_quiet_step (first
      |(intro _;with_reducible rfl)
      |(intro z;simp only [(Y.o.below z).cell N,(Y.o.below z).cell y,Result.andThen];exact⟨trivial,rfl⟩)))
     clear T;intro C' aV
     repeat(go_big_quiet_step (first|(intro _;with_reducible rfl)))
     clear aV;intro wq aO;obtain⟨W1,W2,bM,bO,bQ,⟨y9,bN⟩,bP,bR,aE⟩:=(Y.o.below aO).swap N y;replace aE:=H_ aE;clear aO
     go_wp2
     go_roundw
     ·exact⟨q,_,aW,rfl,aE,D⟩
     ·simp [intOf]<;>omega
    ·have P:decide (oB<0)=false:=F_ aC;rw [P,if_pos (by simp)] at D;clear aU;go_wp2_with fail;have p:Hd (Below w9.heap.size w9 w9):=Below.refl _ _
     go_wp2
     refine wb_ w9.heap.size ?_;intro C T
     repeat(go_big_quiet_step (first
      |((intro _;with_reducible rfl))
      |(intro z;have j:=b_ p z;simp only [(J.o.below j).cell N,(J.o.below j).cell y,Result.andThen];exact⟨trivial,rfl⟩)
      |(intro z;have j:=b_ p z;(with_reducible refine(b.o j).mono ?_);rintro e aK ⟨rfl,hw⟩;exact⟨rfl,u_ z hw⟩)))
     intro wa Z;clear T;have Y:=H_ (J.o.below Z);clear Z p J
     go_wp2
     go_returns;exact⟨rfl,by rw [<-D.o];exact Y.o⟩
theorem pq_ {w0 wS w:World} {A:Option Addr} {n g m c:Nat} {L:List RunP} {d:Array Int} (cA:Nat) (hS:SW w0 A n L wS g m c d w) (hm:m<=100000) (a b:Nat) (hab:a+12<b) (hb:b<=m):
 Calls Tryz.prog 148 #[.slice (some ⟨g,0,none⟩) m c,.int .i64 (a:Int),.int .i64 (b:Int),.func (.func 82) #[.slice A n cA] #[]] w fun e w'=>e= .returned (.tuple #[])/\SW w0 A n L wS g m c (Sort.heapSort (ltR L) d a b) w':=by
 have S:=H_ hS;obtain⟨R,M⟩:=e_ (Sort.heapSort (ltR L) d a b);rw [M];obtain⟨l,hl⟩:=e_ (b-a);obtain⟨h,hh⟩:=e_ ((l-1) / 2);unfold Sort.heapSort at M;rw [hl,hh] at M;obtain⟨B,q⟩:=e_ (Sort.heapBuild (ltR L) l a (h+1) d);rw [q] at M;have N:Hd (Sort.heapBuild (ltR L) l a (h+1) d=B):=q;have P:Hd (Sort.heapPop (ltR L) a l B=R):=M;have x1:(b:Int)-(a:Int)=(l:Int):=by omega
 have x2:((l:Int)-1) / 2=(h:Int):=by omega
 have bb:b<=100000:=by omega
 have ba:a<=100000:=by omega
 have bl:l<=100000:=by omega
 have aE:13<=l:=by omega
 have aA:a+l<=m:=by omega
 have aF:h<l:=by omega
 have F:Value.int .i64 (h:Int)= .int .i64 (((h+1:Nat):Int)-1):=by congr 1;omega
 have i:=H_ F;clear hS M q hh hl F;go_enter Tryz.func148,Tryz.ntmps148
 go_wp2
 go_loopw [11] (fun J wr=> ∃ (k:Nat) (d:Array Int),k<=h+1/\J= .int .i64 ((k:Int)-1)/\Hd (SW w0 A n L wS g m c d wr)/\Hd (Sort.heapBuild (ltR L) l a k d=B)) (fun J _=>(intOf J+1).toNat)
 ·exact⟨h+1,d,Nat.le_refl _,by rw [x2];exact i.o,S,N⟩
 ·clear S N;obtain⟨k,d,hk,G,hS,q⟩:=hrel
  cases k with
  |succ k=>
   obtain rfl:u11= .int .i64 (k:Int):=by rw [G];congr 1;omega
   clear G x2;have y:Hd (Sort.heapBuild (ltR L) l a k (Sort.siftDown (ltR L) l a k d)=B):=q.o;have j:=H_ (mZ_ cA hS.o hm k l a aA (by omega));obtain⟨r,z⟩:=e_ (Sort.siftDown (ltR L) l a k d);rw [z] at j y;clear z q hS;go_wp2_with fail;refine j.o.mono ?_;rintro e w2 ⟨rfl,f⟩;have f:=H_ f;rename_i z1;clear z1 j
   go_wp2
   go_roundw
   ·exact⟨k,r,by omega,rfl,f,y⟩
   ·simp [intOf]<;>omega
  |zero=>
   obtain rfl:u11= .int .i64 (-1):=G;have D:Hd (d=B):=q.o;have Q:Hd (Sort.heapPop (ltR L) a l d=R):=by show _=_;rw [D.o];exact P.o
   have F:Hd (Value.int .i64 ((l:Int)-1)= .int .i64 (((l:Nat):Int)-1)):=rfl;obtain⟨wo,rfl⟩: ∃ wo:World,wo=wr:=⟨_,rfl⟩
   clear q D P x2
   go_wp2
   go_loopw [12] (fun J wr=> ∃ (k:Nat) (d:Array Int),k<=l/\J= .int .i64 ((k:Int)-1)/\Hd (SW w0 A n L wS g m c d wr)/\Hd (Sort.heapPop (ltR L) a k d=R)) (fun J _=>(intOf J+1).toNat)
   ·exact⟨l,d,Nat.le_refl _,rfl,hS,Q⟩
   ·clear hS Q F;obtain⟨k,d,hk,G,hS,q⟩:=hrel
    cases k with
    |succ k=>
     obtain rfl:u12= .int .i64 (k:Int):=by rw [G];congr 1;omega
     clear G;obtain⟨p,hp⟩:=e_ (a+k);have X:a<m:=by omega
     have Z:p<m:=by omega
     have aC:(a:Int)<(m:Int):=by omega
     have aD:(p:Int)<(m:Int):=by omega
     have aG:IntKind.i64.wrap ((a:Int)+(k:Int))=(p:Int):=by rw [IntWalk.i64_in _ (by omega)];omega
     have y:Hd (Sort.heapPop (ltR L) a k (Sort.siftDown (ltR L) k a 0 (Sort.swp d a p))=R):=by show _=_;rw [<-hp];exact q.o
     have aB:a+k<=m:=by omega
     clear q hp
     go_wp2
     refine wl_ [0,0,1,1,1,1,0,0,0,0,0,0,0,0,0,0,0,2,2,2] ?_;intro C hC;simp only [af_,Nat.reduceEqDiff, ↓reduceIte]
     repeat(go_big_quiet_step (first
      |(intro _;with_reducible rfl)
      |(intro hc;simp only [(hS.o.below hc).cell X,(hS.o.below hc).cell Z,Result.andThen];exact⟨trivial,rfl⟩)))
     clear hC;intro C' s
     repeat(go_big_quiet_step (first|(intro _;with_reducible rfl)))
     clear s;intro wq Y;obtain⟨W1,W2,aH,aJ,aL,⟨y9,aI⟩,aK,aM,f⟩:=(hS.o.below Y).swap X Z;replace f:=H_ f;clear Y;have j:=H_ (mZ_ cA f.o hm 0 k a aB (by omega));obtain⟨r,z⟩:=e_ (Sort.siftDown (ltR L) k a 0 (Sort.swp d a p));rw [z] at j y;clear z hS f;go_wp2_with fail;refine j.o.mono ?_;rintro e w2 ⟨rfl,T⟩;have U:=H_ T;clear T j
     go_wp2
     go_roundw
     ·exact⟨k,r,by omega,rfl,U,y⟩
     ·simp [intOf]<;>omega
    |zero=>
     obtain rfl:u12= .int .i64 (-1):=G;have D:Hd (d=R):=q.o;clear q
     go_wp2
     go_returns;exact⟨rfl,by rw [<-D.o];exact hS.o⟩
theorem SW.but {w0 wS w w':World} {A:Option Addr} {n g m c b:Nat} {L:List RunP} {d:Array Int} (h:SW w0 A n L wS g m c d w) (hb:But w w' [b]) (h1:b≠g) (h2:wS.heap.size<=b) (h3:w0.heap.size<=b):SW w0 A n L wS g m c d w':=
 ⟨bd_ h.own fun k f=>hb.keep k (h.own.lt k f).2 (by cases f;simpa using Ne.symm h1),h.sz,h.b0.trans (hb.below h.b0.size (fun x p=>by simp only [List.mem_singleton] at p;omega)),h.low,h.rk,h.dl,h.inn,
   ⟨hb.os.trans h.gr.os,hb.tape.trans h.gr.tape,hb.output.trans h.gr.output,Nat.le_trans h.gr.size hb.size,fun k f j=>(hb.keep k (Nat.lt_of_lt_of_le f h.gr.size) (by simp only [List.mem_singleton];omega)).trans (h.gr.block k f j)⟩⟩
theorem lq_ {i j:Nat} {d:Array Int} (h:i<j):Sort.reverseLoop i j d=Sort.reverseLoop (i+1) (j-1) (Sort.swp d i j):=by rw [Sort.reverseLoop,if_pos h]
theorem jh_ {i j:Nat} {d:Array Int} (h: ¬ i<j):Sort.reverseLoop i j d=d:=by rw [Sort.reverseLoop,if_neg h]
theorem o5_ {w0 wS w:World} {A:Option Addr} {n g m c:Nat} {L:List RunP} {d:Array Int} (cA:Nat) (hS:SW w0 A n L wS g m c d w) (hm:m<=100000) (a b:Nat) (hb:b+1<=m):
 Calls Tryz.prog 151 #[.slice (some ⟨g,0,none⟩) m c,.int .i64 (a:Int),.int .i64 ((b:Int)+1),.func (.func 82) #[.slice A n cA] #[]] w fun e w'=>e= .returned (.tuple #[])/\SW w0 A n L wS g m c (Sort.reverseRange d a (b+1)) w':=by
 have z:=H_ hS;obtain⟨R,f⟩:=e_ (Sort.reverseRange d a (b+1));rw [f];have y:Hd (Sort.reverseLoop a b d=R):=by show _=_;rw [<-f];rfl
 clear hS f;go_enter Tryz.func151,Tryz.ntmps151
 go_wp2
 go_loopw [8,9] (fun P Q wr=> ∃ (i j:Nat) (d:Array Int),j<m/\P= .int .i64 i/\Q= .int .i64 j/\Hd (SW w0 A n L wS g m c d wr)/\Hd (Sort.reverseLoop i j d=R)) (fun P Q _=>(intOf Q).toNat -(intOf P).toNat)
 ·exact⟨a,b,d,by omega,rfl,by go_num,z,y⟩
 ·clear z y;obtain⟨i,j,d,M,rfl,rfl,hS,f⟩:=hrel;by_cases F:i<j
  ·have G:(i:Int)<(j:Int):=by omega
   obtain⟨k,rfl⟩: ∃ k,j=k+1:=⟨j-1,by omega⟩
   have J:i<m:=by omega
   have aA:(i:Int)<(m:Int):=by omega
   have aB:(k:Int)+1<(m:Int):=by omega
   have p:Hd (Sort.reverseLoop (i+1) k (Sort.swp d i (k+1))=R):=by show _=_;rw [<-f.o,lq_ F];rfl
   clear f
   go_wp2
   refine wl_ [0,0,1,1,0,0,0,0,0,0,0,0,0,2,2,2] ?_;intro C T;simp only [af_,Nat.reduceEqDiff, ↓reduceIte]
   repeat(go_big_quiet_step (first
    |(intro _;with_reducible rfl)
    |(intro S;simp only [(hS.o.below S).cell J,(hS.o.below S).cell M,Result.andThen];exact⟨trivial,rfl⟩)))
   clear T;intro C' N
   repeat(go_big_quiet_step (first|(intro _;with_reducible rfl)))
   clear N;intro wq D;obtain⟨W1,W2,c1,f1,k1,⟨y9,c2⟩,f2,k2,q⟩:=(hS.o.below D).swap J M;replace q:=H_ q;clear D
   go_wp2
   go_roundw
   ·exact⟨i+1,k,_,by omega,by go_num,by go_num,q,p⟩
   ·simp [intOf]<;>omega
  ·have G: ¬ (i:Int)<(j:Int):=by omega
   have p:Hd (d=R):=by show _=_;rw [<-f.o];exact(jh_ F).symm
   go_wp2
   go_returns;exact⟨rfl,by rw [<-p.o];exact hS.o⟩
def pH_ (P:World ->Prop) (bs:Nat) (r:Nat×Nat×Nat) (w:World) (e:Ending) (w':World):Prop:=e= .returned (.tuple #[.int .i64 (r.1:Int),.int .i64 (r.2.1:Int)])/\P w'/\Bx w' bs 3 [.int .i64 (r.2.2:Int)]/\w.heap.size<=w'.heap.size
def ow_ (P:World ->Prop) (bs:Nat) (r:Nat×Nat) (w:World) (e:Ending) (w':World):Prop:=e= .returned (.int .i64 (r.1:Int))/\P w'/\Bx w' bs 3 [.int .i64 (r.2:Int)]/\w.heap.size<=w'.heap.size
theorem ef_ {lt:Int ->Int ->Bool} {d:Array Int} {a b s m:Nat} (ha:a<m) (hb:b<m):(Sort.order2 lt d a b s).1<m/\(Sort.order2 lt d a b s).2.1<m/\(Sort.order2 lt d a b s).2.2<=s+1:=by
 unfold Sort.order2;split<;>simp<;>omega
theorem i1_ {w0 wS w:World} {A:Option Addr} {n g m c:Nat} {L:List RunP} {d:Array Int} (cA:Nat) (hS:SW w0 A n L wS g m c d w) (hm:m<=100000) (a b s bs:Nat) (ha:a<m) (hb:b<m) (hs:s<=100) (hB:Bx w bs 3 [.int .i64 (s:Int)]) (h1:bs≠g) (h2:wS.heap.size<=bs) (h3:w0.heap.size<=bs):
 Calls Tryz.prog 245 #[.slice (some ⟨g,0,none⟩) m c,.int .i64 (a:Int),.int .i64 (b:Int),.pointer (some ⟨bs,0,none⟩),.func (.func 82) #[.slice A n cA] #[]] w (pH_ (SW w0 A n L wS g m c d) bs (Sort.order2 (ltR L) d a b s) w):=by
 obtain⟨r,Q⟩:=e_ (Sort.order2 (ltR L) d a b s);rw [Q];have S:=H_ hS;clear hS;have hS:=S;clear S;have aC:(a:Int)<(m:Int):=by omega
 have aD:(b:Int)<(m:Int):=by omega
 have R:=H_ hB;obtain⟨o,ho⟩:=e_ (ordR L d[b]! d[a]!);have M:Hd (∀ {U:World},Below w.heap.size w U ->Calls Tryz.prog 82 #[.slice A n cA,.int .i64 d[b]!,.int .i64 d[a]!] U (rb_ (.int .i64 o) U)):=fun hU=>by rw [<-ho];exact hS.o.cmp cA hb ha hU
 have Y:ltR L d[b]! d[a]! =decide (o<0):=by rw [<-ho];rfl
 clear ho;unfold Sort.order2 at Q;rw [Y] at Q;clear hB Y;by_cases Z:o<0
 ·have D:decide (o<0)=true:=T_ Z;rw [if_pos D] at Q;subst Q;go_enter Tryz.func245,Tryz.ntmps245;go_wp2_with fail;have p:Hd (Below w.heap.size w w):=Below.refl _ _
  go_wp2
  refine wb_ w.heap.size ?_;intro C k
  repeat(go_big_quiet_step (first
   |((intro _;with_reducible rfl))
   |(intro G;have j:=b_ p G;simp only [(hS.o.below j).cell hb,(hS.o.below j).cell ha,Result.andThen];exact⟨trivial,rfl⟩)
   |(intro G;have j:=b_ p G;(with_reducible refine(M.o j).mono ?_);rintro e aB ⟨rfl,hw⟩;exact⟨rfl,u_ G hw⟩)))
  intro w9 f;clear k;have P:=H_ (hS.o.below f);have y:=R.o.below f;have J:=f.size;have k0:=y.cell 0 rfl;have kf:=y.frozen 0;have z:=y.set 0 (.int .i64 ((s:Int)+1));have q:=But.of_set w9 ⟨bs,0,none⟩ (.int .i64 ((s:Int)+1)) (X:=[bs]) (by simp);have F:=q.size;obtain⟨w10,i⟩:=e_ (w9.setCell ⟨bs,0,none⟩ (.int .i64 ((s:Int)+1)));rw [i] at z q F;have T:=H_ (P.o.but q h1 h2 h3);have N:=H_ z;have aA:Hd (w.heap.size<=w10.heap.size):=Nat.le_trans J F;clear f y z q p J F h1 h2 h3
  go_wp2
  go_returns;exact⟨rfl,T.o,N.o,aA.o⟩
 ·have D:decide (o<0)=false:=F_ Z;rw [if_neg (by rw [D];simp)] at Q;subst Q;go_enter Tryz.func245,Tryz.ntmps245;go_wp2_with fail;have p:Hd (Below w.heap.size w w):=Below.refl _ _
  go_wp2
  refine wb_ w.heap.size ?_;intro C k
  repeat(go_big_quiet_step (first
   |((intro _;with_reducible rfl))
   |(intro G;have j:=b_ p G;simp only [(hS.o.below j).cell hb,(hS.o.below j).cell ha,Result.andThen];exact⟨trivial,rfl⟩)
   |(intro G;have j:=b_ p G;(with_reducible refine(M.o j).mono ?_);rintro e aB ⟨rfl,hw⟩;exact⟨rfl,u_ G hw⟩)))
  intro w9 f;clear k;have P:=H_ (hS.o.below f);have y:=H_ (R.o.below f);have J:=H_ f.size;clear f p h1 h2 h3
  go_wp2
  go_returns;exact⟨rfl,P.o,y.o,J.o⟩
theorem iX_ {w0 wS w:World} {A:Option Addr} {n g m c:Nat} {L:List RunP} {d:Array Int} (cA:Nat) (hS:SW w0 A n L wS g m c d w) (hm:m<=100000) (a b k s bs:Nat) (ha:a<m) (hb:b<m) (hk:k<m) (hs:s<=90) (hB:Bx w bs 3 [.int .i64 (s:Int)]) (h1:bs≠g) (h2:wS.heap.size<=bs) (h3:w0.heap.size<=bs):
 Calls Tryz.prog 226 #[.slice (some ⟨g,0,none⟩) m c,.int .i64 (a:Int),.int .i64 (b:Int),.int .i64 (k:Int),.pointer (some ⟨bs,0,none⟩),.func (.func 82) #[.slice A n cA] #[]] w (ow_ (SW w0 A n L wS g m c d) bs (Sort.median (ltR L) d a b k s) w):=by
 have z:=ef_ (lt:=ltR L) (d:=d) (s:=s) ha hb;have S:=H_ (i1_ cA hS hm a b s bs ha hb (by omega) hB h1 h2 h3);have hr:Hd (Sort.median (ltR L) d a b k s=((Sort.order2 (ltR L) d (Sort.order2 (ltR L) d a b s).1 (Sort.order2 (ltR L) d (Sort.order2 (ltR L) d a b s).2.1 k (Sort.order2 (ltR L) d a b s).2.2).1 (Sort.order2 (ltR L) d (Sort.order2 (ltR L) d a b s).2.1 k (Sort.order2 (ltR L) d a b s).2.2).2.2).2.1,(Sort.order2 (ltR L) d (Sort.order2 (ltR L) d a b s).1 (Sort.order2 (ltR L) d (Sort.order2 (ltR L) d a b s).2.1 k (Sort.order2 (ltR L) d a b s).2.2).1 (Sort.order2 (ltR L) d (Sort.order2 (ltR L) d a b s).2.1 k (Sort.order2 (ltR L) d a b s).2.2).2.2).2.2)):=rfl;rw [hr.o];clear hr;obtain⟨⟨x1,y1,R⟩,M⟩: ∃ r,Sort.order2 (ltR L) d a b s=r:=⟨_,rfl⟩
 rw [M] at z S ⊢;simp only at z ⊢;have Q:=ef_ (lt:=ltR L) (d:=d) (s:=R) z.2.1 hk;have T:=H_ (fun W (hS:SW w0 A n L wS g m c d W) (hB:Bx W bs 3 [.int .i64 (R:Int)])=>i1_ cA hS hm y1 k R bs z.2.1 hk (by omega) hB h1 h2 h3);obtain⟨⟨x2,y2,X⟩,N⟩: ∃ r,Sort.order2 (ltR L) d y1 k R=r:=⟨_,rfl⟩
 rw [N] at Q T ⊢;simp only at Q ⊢;have U:=H_ (fun W (hS:SW w0 A n L wS g m c d W) (hB:Bx W bs 3 [.int .i64 (X:Int)])=>i1_ cA hS hm x1 x2 X bs z.1 Q.1 (by omega) hB h1 h2 h3);obtain⟨⟨x3,y3,s3⟩,P⟩: ∃ r,Sort.order2 (ltR L) d x1 x2 X=r:=⟨_,rfl⟩
 rw [P] at U ⊢;clear M N P hS hB h1 h2 h3 z Q;go_enter Tryz.func226,Tryz.ntmps226;go_wp2_with fail;refine S.o.mono ?_;rintro e w1 ⟨rfl,G,D,p⟩;have Z:=H_ (T.o w1 G D);have p:=H_ p;clear G D S T;go_wp2_with fail;refine Z.o.mono ?_;rintro e w2 ⟨rfl,J,F,q⟩;have i:=H_ (U.o w2 J F);have q:=H_ (Nat.le_trans p.o q);rename_i Y;clear Y J F U Z;go_wp2_with fail;refine i.o.mono ?_;rintro e w3 ⟨rfl,j,f,y⟩;have j:=H_ j;have f:=H_ f;have y:=H_ (Nat.le_trans q.o y);rename_i z7 z8 Y;clear z7 z8 Y i
 go_wp2
 go_returns;exact⟨rfl,j.o,f.o,y.o⟩
theorem iU_ {w0 wS w:World} {A:Option Addr} {n g m c:Nat} {L:List RunP} {d:Array Int} (cA:Nat) (hS:SW w0 A n L wS g m c d w) (hm:m<=100000) (a k k2 s bs:Nat) (hk:a=k+1) (hk2:k2=a+1) (ha:k2<m) (hs:s<=90) (hB:Bx w bs 3 [.int .i64 (s:Int)]) (h1:bs≠g) (h2:wS.heap.size<=bs) (h3:w0.heap.size<=bs):
 Calls Tryz.prog 225 #[.slice (some ⟨g,0,none⟩) m c,.int .i64 (a:Int),.pointer (some ⟨bs,0,none⟩),.func (.func 82) #[.slice A n cA] #[]] w (ow_ (SW w0 A n L wS g m c d) bs (Sort.medianAdjacent (ltR L) d a s) w):=by
 have y:=H_ (iX_ cA hS hm k a k2 s bs (by omega) (by omega) ha hs hB h1 h2 h3);have z:Hd (Sort.medianAdjacent (ltR L) d a s=Sort.median (ltR L) d k a k2 s):=by show _=_;unfold Sort.medianAdjacent;rw [hk2,show a-1=k by omega]
 rw [z.o];obtain⟨r,q⟩:=e_ (Sort.median (ltR L) d k a k2 s);rw [q] at y ⊢;have e1:(a:Int)-1=(k:Int):=by omega
 have e2:(a:Int)+1=(k2:Int):=by omega
 have hb:a<=100000:=by omega
 have aA:1<=a:=by omega
 clear z q hS hB h1 h2 h3 hk hk2;go_enter Tryz.func225,Tryz.ntmps225;go_wp2_with fail;refine y.o.mono ?_;rintro e w1 ⟨rfl,j,f,p⟩;have j:=H_ j;have f:=H_ f;have p:=H_ p;rename_i D F G;clear D F G y
 go_wp2
 go_returns;exact⟨rfl,j.o,f.o,p.o⟩
theorem fL_ {lt:Int ->Int ->Bool} {d:Array Int} {a b k s m:Nat} (ha:a<m) (hb:b<m) (hk:k<m):(Sort.median lt d a b k s).1<m/\(Sort.median lt d a b k s).2<=s+3:=by
 unfold Sort.median;have f:=ef_ (lt:=lt) (d:=d) (s:=s) ha hb;have g:=ef_ (lt:=lt) (d:=d) (s:=(Sort.order2 lt d a b s).2.2) f.2.1 hk;have j:=ef_ (lt:=lt) (d:=d) (s:=(Sort.order2 lt d (Sort.order2 lt d a b s).2.1 k (Sort.order2 lt d a b s).2.2).2.2) f.1 g.1;exact⟨j.2.1,by have:=j.2.2;have:=g.2.2;have:=f.2.2;show(Sort.order2 lt d _ _ _).2.2<=_;omega⟩
def gR_:Sort.Hint ->Int
 | .unknown =>0
 | .increasing =>1
 | .decreasing =>2
def pG_ (P:World ->Prop) (r:Nat×Sort.Hint) (e:Ending) (w':World):Prop:=e= .returned (.tuple #[.int .i64 (r.1:Int),.int .i64 (gR_ r.2)])/\P w'
theorem pl_ {w0 wS w:World} {A:Option Addr} {n g m c:Nat} {L:List RunP} {d:Array Int} (cA:Nat) (hS:SW w0 A n L wS g m c d w) (hm:m<=100000) (a b:Nat) (hab:a+12<b) (hb:b<=m):
 Calls Tryz.prog 150 #[.slice (some ⟨g,0,none⟩) m c,.int .i64 (a:Int),.int .i64 (b:Int),.func (.func 82) #[.slice A n cA] #[]] w (pG_ (SW w0 A n L wS g m c d) (Sort.choosePivot (ltR L) d a b)):=by
 obtain⟨l,hl⟩:=e_ (b-a);obtain⟨q,hq⟩:=e_ (l / 4);obtain⟨Q,aG⟩:=e_ (a+q*1);obtain⟨R,aI⟩:=e_ (a+q*2);obtain⟨S,aK⟩:=e_ (a+q*3);have x1:(b:Int)-(a:Int)=(l:Int):=by omega
 have x2:(l:Int) / 4=(q:Int):=by omega
 have x3:(a:Int)+(q:Int)=(Q:Int):=by omega
 have x4:(a:Int)+(q:Int)*2=(R:Int):=by omega
 have x5:(a:Int)+(q:Int)*3=(S:Int):=by omega
 have bb:b<=100000:=by omega
 have ba:a<=100000:=by omega
 have bl:l<=100000:=by omega
 have bq:q<=100000:=by omega
 have bi:1<=Q/\Q+1<m:=by omega
 have bj:1<=R/\R+1<m:=by omega
 have bk:1<=S/\S+1<m:=by omega
 have l8:(8:Int)<=(l:Int):=by omega
 have J:=H_ bi;have M:=H_ bj;have N:=H_ bk;obtain⟨r,y⟩:=e_ (Sort.choosePivot (ltR L) d a b);rw [y];unfold Sort.choosePivot at y;simp only [hl,hq,aG,aI,aK] at y;rw [if_pos (show l>=8 by omega)] at y;have g1:Hd (w.heap.size≠g):=by have:=hS.lt;show _≠_;omega
 have g2:Hd (wS.heap.size<=w.heap.size):=hS.gr.size;have g3:Hd (w0.heap.size<=w.heap.size):=hS.b0.size;obtain⟨w1,i,P,F,aF,B1⟩:=box1 w 3 [.int .i64 0];rw [F] at g1 g2 g3;have Z:=H_ (hS.below aF);have Y:=H_ B1;have aN:=H_ hm;clear bi bj bk hS aF B1 aG aI aK hq hl hab;by_cases X:50<=l
 ·have aM:(50:Int)<=(l:Int):=by omega
  rw [if_pos X] at y;have ri:=fL_ (lt:=ltR L) (d:=d) (s:=0) (m:=m) (show Q-1<m by have:=J.o;omega) (show Q<m by have:=J.o;omega) J.o.2;change(Sort.medianAdjacent (ltR L) d Q 0).1<m/\_ at ri;have ci:=H_ (iU_ cA Z.o hm Q (Q-1) (Q+1) 0 i (by have:=J.o;omega) rfl J.o.2 (by omega) Y.o g1.o g2.o g3.o);obtain⟨⟨i1,s1⟩,aH⟩: ∃ r,Sort.medianAdjacent (ltR L) d Q 0=r:=⟨_,rfl⟩
  change _/\(Sort.medianAdjacent (ltR L) d Q 0).2<=_ at ri;rw [aH] at ri ci y;simp only at y ri;have rj:=fL_ (lt:=ltR L) (d:=d) (s:=s1) (m:=m) (show R-1<m by have:=M.o;omega) (show R<m by have:=M.o;omega) M.o.2;have cj:=H_ (fun W (hS:SW w0 A n L wS g m c d W) (hB:Bx W i 3 [.int .i64 (s1:Int)])=>iU_ cA hS hm R (R-1) (R+1) s1 i (by have:=M.o;omega) rfl M.o.2 (by omega) hB g1.o g2.o g3.o);obtain⟨⟨j1,s2⟩,aJ⟩: ∃ r,Sort.medianAdjacent (ltR L) d R s1=r:=⟨_,rfl⟩
  change(Sort.medianAdjacent (ltR L) d R s1).1<m/\(Sort.medianAdjacent (ltR L) d R s1).2<=_ at rj;rw [aJ] at rj cj y;simp only at y rj;have rk:=fL_ (lt:=ltR L) (d:=d) (s:=s2) (m:=m) (show S-1<m by have:=N.o;omega) (show S<m by have:=N.o;omega) N.o.2;have ck:=H_ (fun W (hS:SW w0 A n L wS g m c d W) (hB:Bx W i 3 [.int .i64 (s2:Int)])=>iU_ cA hS hm S (S-1) (S+1) s2 i (by have:=N.o;omega) rfl N.o.2 (by omega) hB g1.o g2.o g3.o);obtain⟨⟨k1,s3⟩,aL⟩: ∃ r,Sort.medianAdjacent (ltR L) d S s2=r:=⟨_,rfl⟩
  change(Sort.medianAdjacent (ltR L) d S s2).1<m/\(Sort.medianAdjacent (ltR L) d S s2).2<=_ at rk;rw [aL] at rk ck y;simp only at y rk;have k:=H_ (fun W (hS:SW w0 A n L wS g m c d W) (hB:Bx W i 3 [.int .i64 (s3:Int)])=>iX_ cA hS hm i1 j1 k1 s3 i ri.1 rj.1 rk.1 (by omega) hB g1.o g2.o g3.o);obtain⟨⟨j9,T⟩,U⟩: ∃ r,Sort.median (ltR L) d i1 j1 k1 s3=r:=⟨_,rfl⟩
  rw [U] at k y;have f:=H_ y;clear aH aJ aL U y ri rj rk X;go_enter Tryz.func150,Tryz.ntmps150;go_wp2_with fail;refine ci.o.mono ?_;rintro e w2 ⟨rfl,D,z,_⟩;have aC:=H_ (cj.o w2 D z);clear D z;go_wp2_with fail;refine aC.o.mono ?_;rintro e w3 ⟨rfl,D,z,_⟩;have aD:=H_ (ck.o w3 D z);clear D z aC;go_wp2_with fail;refine aD.o.mono ?_;rintro e w4 ⟨rfl,D,z,_⟩;have aE:=H_ (k.o w4 D z);clear D z aD;go_wp2_with fail;refine aE.o.mono ?_;rintro e w5 ⟨rfl,D,z,_⟩;have G:=H_ D;have kb:=z.cell 0 rfl;have f:=f.o;clear D z aE ci cj ck k Z Y;have f:=H_ f;by_cases j:T=0
  ·have aA:((T:Int)==0)=true:=by simp [j]
   have y:Hd ((j9,Sort.Hint.increasing)=r):=by show _=_;rw [<-f.o,if_pos j]
   clear f j
   go_wp2
   clear P F;go_returns;exact⟨by rw [<-y.o];rfl,G.o⟩
  ·have aA:((T:Int)==0)=false:=by simp [j]
   by_cases p:T=12
   ·have aB:((T:Int)==12)=true:=by simp [p]
    have y:Hd ((j9,Sort.Hint.decreasing)=r):=by show _=_;rw [<-f.o,if_neg j,if_pos p]
    clear f j p
    go_wp2
    clear P F;go_returns;exact⟨by rw [<-y.o];rfl,G.o⟩
   ·have aB:((T:Int)==12)=false:=beq_eq_false_iff_ne.2 (by omega);have y:Hd ((j9,Sort.Hint.unknown)=r):=by show _=_;rw [<-f.o,if_neg j,if_neg p]
    clear f j p
    go_wp2
    clear P F;go_returns;exact⟨by rw [<-y.o];rfl,G.o⟩
 ·have aM: ¬ (50:Int)<=(l:Int):=by omega
  rw [if_neg X] at y;have k:=H_ (iX_ cA Z.o hm Q R S 0 i (by have:=J.o;omega) (by have:=M.o;omega) (by have:=N.o;omega) (by omega) Y.o g1.o g2.o g3.o);obtain⟨⟨j9,T⟩,U⟩: ∃ r,Sort.median (ltR L) d Q R S 0=r:=⟨_,rfl⟩
  rw [U] at k y;have f:=H_ y;clear U y X;go_enter Tryz.func150,Tryz.ntmps150;go_wp2_with fail;refine k.o.mono ?_;rintro e w5 ⟨rfl,D,z,_⟩;have G:=H_ D;have kb:=z.cell 0 rfl;have f:=f.o;clear D z k Z Y;have f:=H_ f;by_cases j:T=0
  ·have aA:((T:Int)==0)=true:=by simp [j]
   have y:Hd ((j9,Sort.Hint.increasing)=r):=by show _=_;rw [<-f.o,if_pos j]
   clear f j
   go_wp2
   clear P F;go_returns;exact⟨by rw [<-y.o];rfl,G.o⟩
  ·have aA:((T:Int)==0)=false:=by simp [j]
   by_cases p:T=12
   ·have aB:((T:Int)==12)=true:=by simp [p]
    have y:Hd ((j9,Sort.Hint.decreasing)=r):=by show _=_;rw [<-f.o,if_neg j,if_pos p]
    clear f j p
    go_wp2
    clear P F;go_returns;exact⟨by rw [<-y.o];rfl,G.o⟩
   ·have aB:((T:Int)==12)=false:=beq_eq_false_iff_ne.2 (by omega);have y:Hd ((j9,Sort.Hint.unknown)=r):=by show _=_;rw [<-f.o,if_neg j,if_neg p]
    clear f j p
    go_wp2
    clear P F;go_returns;exact⟨by rw [<-y.o];rfl,G.o⟩
