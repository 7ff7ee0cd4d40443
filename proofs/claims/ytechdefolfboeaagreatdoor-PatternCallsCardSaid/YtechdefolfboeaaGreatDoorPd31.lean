/- Merged. -/
import Derived.Test.YtechdefolfboeaaGreatDoorPd28
import Derived.Test.YtechdefolfboeaaGreatDoorPd30
set_option linter.unusedVariables false
set_option linter.unusedSimpArgs false
set_option maxRecDepth 100000
set_option maxHeartbeats 2000000
namespace Go.Proofs.YtechdefolfboeaaGreatDoor
open Go.RowKit B K
theorem c0_ (c k a:Int) (w:World):(Instr.field 81 (.agg #[.int .i64 c,.int .i64 k,.int .i64 a]) 0).run Tryz.prog w= .ok (.int .i64 c) w:=by kernel_rfl
theorem eq_ {M:ab_} (h:gJ_ M): ∀ q∈M.trips,0<=q.route/\q.route<(M.routes.length:Int):=fun q f=>(h.trips q f).1
def errC (M:ab_) (L:List RunP):Int:=if 16384<L.length then 3 else if cu_ aN_ M&&L.all (bH_ M) then 0 else 2
def resC (M:ab_) (L:List RunP):List aC_:=if errC M L=0 then eF_ M L else []
def pe_ (l:List aC_) (c:Int) (we:World) (e:Ending) (w':World):Prop:= ∃ A cap,e= .returned (.tuple #[.slice A l.length cap,.int .i64 c])/\Rd w' 6 bt_ A l.length l/\l.length<=cap/\cap<=9223372036854775807/\Below we.heap.size we w'
theorem kD_ (M:ab_) (V:WV) (b2:Nat) (we:World) (hr:RW we M V) (hB:Bx we b2 31 [.int .i64 M.hz,.slice V.a0 V.n0 V.c0,.slice V.a1 V.n1 V.c1,.slice V.a2 V.n2 V.c2,.slice V.a3 V.n3 V.c3,.slice V.a4 V.n4 V.c4,.slice V.a5 V.n5 V.c5,.slice V.aP V.nP V.cP,.slice V.aD V.nD V.cD,.slice V.aR V.nR V.cR,.slice V.aT V.nT V.cT,.slice V.aH V.nH V.cH]) (hG: ∀ q∈M.trips,0<=q.route/\q.route<(M.routes.length:Int)) (hf:Few M) (e:RnE) (r:RunP) (hT:RunT we e r):
 Calls Tryz.prog 57 #[.agg (rnE e).toArray,.pointer (some ⟨b2,0,none⟩)] we (rb_ (.bool (!bH_ M r)) we):=by
 obtain⟨t,no,⟨U,S,P⟩,⟨X,T,Q⟩⟩:=e;have n:=H_ (fun w (h:RW w M V) Y Z=>lW_ M V w h hG hf t no U X S T P Q r.arr r.dep Y Z);have R:bH_ M r=aK_ M t r.arr r.dep:=by unfold bH_;rw [<-hT.trip]
 obtain⟨q,G⟩:=e_ (aK_ M t r.arr r.dep);rw [R,G];rw [G] at n;have y:=H_ hT.arr;have F:=H_ hT.dep;have J:=H_ hr;have a:=hB.lt;have p:=H_ hB;obtain⟨a0,a1,a2,a3,a4,a5,aP,aD,aR,aT,aH,n0,n1,n2,n3,n4,n5,nP,nD,nR,nT,nH,c0,c1,c2,c3,c4,c5,cP,cD,cR,cT,cH⟩:=V;simp only [wVal,rnE,SlV.v] at*;clear G R hT hr hB hG hf;obtain⟨w1,b1,L,j,z,f,N,aA⟩:=cm_ we 47 [.int .i64 t,.int .i64 no,.slice U S P,.slice X T Q];obtain⟨q0,q1,q2,q3⟩:=c_4 N;obtain⟨y0,y1,y2,y3,y4,y5,y6,y7,y8,y9,aB,aC⟩:=d_12 f.o a p.o;clear N z;go_enter Tryz.func57,Tryz.ntmps57;go_wp2_with fail;refine(n.o w1 (J.o.below f.o) (y.o.below f.o) (F.o.below f.o)).mono ?_;rintro e w2 ⟨rfl,g⟩;have D:=h_ f g;clear g
 go_wp2
 clear L j;go_returns;exact⟨rfl,D.o⟩
theorem hU_ {M:ab_} {L:List RunP} (h:16384<L.length):errC M L=3:=by unfold errC;rw [if_pos h]
theorem hz_ {M:ab_} {L:List RunP} (h: ¬ 16384<L.length) (hg:cu_ aN_ M=true) (ha:L.all (bH_ M)=true):errC M L=0:=by unfold errC;rw [if_neg h,hg,ha];rfl
theorem e5_ {M:ab_} {L:List RunP} (h: ¬ 16384<L.length) (hg:(cu_ aN_ M&&L.all (bH_ M))=false):errC M L=2:=by unfold errC;rw [if_neg h,hg];rfl
theorem hE_ {M:ab_} {L:List RunP} (h:errC M L≠0):resC M L=[]:=by unfold resC;rw [if_neg h]
theorem o4_ {M:ab_} {L:List RunP} (h:errC M L=0):resC M L=eF_ M L:=by unfold resC;rw [if_pos h]
def oddR (M:ab_) (L:List RunP) (i:Nat):Bool:=match L[i]? with
 |some r=> !bH_ M r
 |none=>false
theorem n0_ (M:ab_) (L:List RunP):((List.range L.length).any (oddR M L))= !(L.all (bH_ M)):=by
 rw [Bool.eq_iff_iff,List.any_eq_true,Bool.not_eq_true',List.all_eq_false];constructor
 ·rintro⟨i,f,h⟩;have f:=List.mem_range.1 f;unfold oddR at h;rw [List.getElem?_eq_getElem f] at h;exact⟨L[i],List.getElem_mem f,by simpa using h⟩
 ·rintro⟨r,g,h⟩;obtain⟨i,f⟩:=List.getElem?_of_mem g;exact⟨i,List.mem_range.2 (List.getElem?_eq_some_iff.1 f).1,by unfold oddR;rw [f];simpa using h⟩
theorem jk_ {M:ab_} (hG:gJ_ M) (L:List RunP):(cp_ M L).length <=32*L.length:=by
 have f: ∀ k,((List.range k).flatMap (dz_ M L)).length <=32*k:=by
  intro k
  induction k with
  |zero=>simp
  |succ k ih=>
   rw [List.range_succ,List.flatMap_append,List.length_append]
   have:(([k]:List Nat).flatMap (dz_ M L)).length <=32:=by
    simp only [List.flatMap_cons,List.flatMap_nil,List.append_nil];unfold dz_;split
    ·rw [gn_];have:=iw_ hG;exact Nat.le_trans (Nat.sub_le _ _) (this _)
    ·simp
   omega
 exact f L.length
theorem kE_ (M:ab_) (V:WV) (A:Option Addr) (n c:Nat) (we:World):Calls Tryz.prog 60 #[wVal M V,.slice A n c] we fun e w'=> ∃ b3 b2,e= .returned (.func (.func 101) #[] #[.pointer (some ⟨b3,0,none⟩),.pointer (some ⟨b2,0,none⟩)])/\w'.cell? ⟨b3,0,none⟩=some (.slice A n c)/\
 Bx w' b2 31 [.int .i64 M.hz,.slice V.a0 V.n0 V.c0,.slice V.a1 V.n1 V.c1,.slice V.a2 V.n2 V.c2,.slice V.a3 V.n3 V.c3,.slice V.a4 V.n4 V.c4,.slice V.a5 V.n5 V.c5,.slice V.aP V.nP V.cP,.slice V.aD V.nD V.cD,.slice V.aR V.nR V.cR,.slice V.aT V.nT V.cT,.slice V.aH V.nH V.cH]/\Below we.heap.size we w':=by
 obtain⟨a0,a1,a2,a3,a4,a5,aP,aD,aR,aT,aH,n0,n1,n2,n3,n4,n5,nP,nD,nR,nT,nH,c0,c1,c2,c3,c4,c5,cP,cD,cR,cT,cH⟩:=V;simp only [wVal];obtain⟨w1,w2,L,b2,D,F,f,g,j,q,y,z,G,J,aA,aB⟩:=b5_ we 31 32 [.int .i64 M.hz,.slice a0 n0 c0,.slice a1 n1 c1,.slice a2 n2 c2,.slice a3 n3 c3,.slice a4 n4 c4,.slice a5 n5 c5,.slice aP nP cP,.slice aD nD cD,.slice aR nR cR,.slice aT nT cT,.slice aH nH cH] [.slice A n c];have c3:=J.cell 0 rfl;have p:=H_ G;have cH:=H_ c3;clear G J q y c3;go_enter Tryz.func60,Tryz.ntmps60
 go_wp2
 clear D F f g j;go_returns;exact⟨b2,L,rfl,cH.o,p.o,z.o⟩
theorem l0_ (M:ab_) (V:WV) (A:Option Addr) (n c:Nat) (L:List RunP) (we:World) (hr:RW we M V) (hf:Few M) (hsp:Sp we) (hL:be_ we A n L) (hn:n<=100000):
 Calls Tryz.prog 17 #[wVal M V,.slice A n c] we (pe_ (resC M L) (errC M L) we):=by
 have Y:L.length=n:=hL.len;by_cases bM:16384<n
 ·have T:Hd (errC M L=3):=hU_ (by omega);have G:Hd (resC M L=[]):=hE_ (by rw [T.o];decide);rw [T.o,G.o];have bL:((n:Int)>16384):=by omega
  obtain⟨a0,a1,a2,a3,a4,a5,aP,aD,aR,aT,aH,n0,n1,n2,n3,n4,n5,nP,nD,nR,nT,nH,c0,c1,c2,c3,c4,c5,cP,cD,cR,cT,cH⟩:=V;simp only [wVal];clear hr hf hsp hL Y;obtain⟨w1,b1,d,q,bH,g,B1,aY⟩:=cm_ we 31 [.int .i64 M.hz,.slice a0 n0 c0,.slice a1 n1 c1,.slice a2 n2 c2,.slice a3 n3 c3,.slice a4 n4 c4,.slice a5 n5 c5,.slice aP nP cP,.slice aD nD cD,.slice aR nR cR,.slice aT nT cT,.slice aH nH cH];clear B1;go_enter Tryz.func17,Tryz.ntmps17
  go_wp2
  clear d q;go_returns;exact⟨none,0,rfl,Rd.nil,Nat.le_refl _,by omega,g.o⟩
 ·have bL:decide ((n:Int)>16384)=false:=F_ (by omega);have aF:=H_ (fun w h hs=>k7_ M V w h hf hs);have Z:=H_ hr;have aG:=H_ hsp;have aN:=H_ hL;have f:=H_ Y;have cC:=H_ hf;have bJ:=H_ (fun(b:Nat) (w:World) (hR:RW w M V) hB hG e r hT=>kD_ M V b w hR hB hG hf e r hT);have aZ:=H_ (fun(b3 b2:Nat) (w:World) c3 hR hB hG bG X=>lr_ M V b3 b2 A n c L w c3 hR hB hG hf bG hn X);obtain⟨w1,b1,d,q,bH,g,B1,aY⟩:=eW we 31 M V;obtain⟨a0,a1,a2,a3,a4,a5,aP,aD,aR,aT,aH,n0,n1,n2,n3,n4,n5,nP,nD,nR,nT,nH,c0,c1,c2,c3,c4,c5,cP,cD,cR,cT,cH⟩:=V;simp only [wVal] at*;clear hr hsp hL Y hf;obtain⟨p0,p1,p2,p3,p4,p5,p6,p7,p8,p9,bR,bS⟩:=c_12 B1;have aJ:=H_ B1;have l1:=B1.lt;clear B1
  cases hg:cu_ aN_ M with
  |false=>
   have T:Hd (errC M L=2):=e5_ (by have:=f.o;omega) (by rw [hg];rfl);have G:Hd (resC M L=[]):=hE_ (by rw [T.o];decide);rw [T.o,G.o];have P:=H_ hg;clear hg;have qF:=c0_;go_enter Tryz.func17,Tryz.ntmps17;go_wp2_with fail;refine(aF.o w1 (Z.o.below g.o) (aG.o.below g.o)).mono ?_;rintro e w3 ⟨k,k9,a9,rfl,s,j⟩
   have y:(k !=0)=true:=by
    have:k≠0:=fun e=>by have:=s.1 e;rw [P.o] at this;cases this
    simp [this]
   have F:=h_ g j;clear s j
   go_wp2
   clear d q;go_returns;exact⟨none,0,rfl,Rd.nil,Nat.le_refl _,by omega,F.o⟩
  |true=>
   have P:=H_ hg;have aA:=H_ (gw_ hg);obtain⟨E,rE,gE⟩:=aN.o.ex;have bV:=H_ rE;have aL:=H_ gE
   have J:Hd (∀ w,Below we.heap.size we w ->w1.heap.size<=w.heap.size ->Below w1.heap.size w1 w ->Calls Tryz.prog 56 #[.slice A n c,.func (.func 57) #[] #[.pointer (some ⟨b1,0,none⟩)]] w (rb_ (.bool (!(L.all (bH_ M)))) w)):=by
    intro w aC _ aO
    have h:=kG_ 57 #[.pointer (some ⟨b1,0,none⟩)] (enters_of Tryz.func57 (by kernel_rfl) rfl) (oddR M L) A n c E w (bV.o.below aC) (by omega) (fun U i x hU hx=>by
     have hi:i<L.length:=by rw [<-aL.o.len];exact(List.getElem?_eq_some_iff.1 hx).1
     have bB:L[i]?=some L[i]:=List.getElem?_eq_getElem hi;have h9:=bJ.o b1 U ((Z.o.below aC).below hU) ((aJ.o.below aO).below hU) (eq_ aA.o) x L[i] (((aL.o.at_ i x _ hx bB).below aC).below hU);have e9:oddR M L i= !bH_ M L[i]:=by unfold oddR;rw [bB]
     rw [e9];exact h9)
    rw [<-f.o,n0_] at h;rw [<-f.o];exact h
   have bY:Hd (Below w1.heap.size w1 w1):=Below.refl _ _;clear hg rE gE
   cases ha:L.all (bH_ M) with
   |false=>
    have T:Hd (errC M L=2):=e5_ (by have:=f.o;omega) (by rw [P.o,ha];rfl);have G:Hd (resC M L=[]):=hE_ (by rw [T.o];decide);rw [T.o,G.o];rw [ha] at J;clear ha;have qF:=c0_;go_enter Tryz.func17,Tryz.ntmps17;go_wp2_with fail;refine(aF.o w1 (Z.o.below g.o) (aG.o.below g.o)).mono ?_;rintro e w3 ⟨k,k9,a9,rfl,s,j⟩;obtain rfl:k=0:=s.2 P.o;have F:=h_ g j;have p:=H_ j;clear s j;go_wp2_with fail;refine(J.o w3 F.o p.o.size p.o).mono ?_;rintro e w4 ⟨rfl,N⟩;have aE:=h_ F N;clear N
    go_wp2
    clear d q;go_returns;exact⟨none,0,rfl,Rd.nil,Nat.le_refl _,by omega,aE.o⟩
   |true=>
    have T:Hd (errC M L=0):=hz_ (by have:=f.o;omega) P.o ha;have G:Hd (resC M L=eF_ M L):=o4_ T.o;rw [T.o,G.o];have X:Hd (∀ r∈L,FitR M r):=fun r hr=>kj_ (List.all_eq_true.1 ha r hr);rw [ha] at J;have bC:Hd ((cp_ M L).length <=3200000):=by have:=jk_ aA.o L;have:=f.o;show _<=_;omega
    clear ha;have qF:=c0_;go_enter Tryz.func17,Tryz.ntmps17;go_wp2_with fail;refine(aF.o w1 (Z.o.below g.o) (aG.o.below g.o)).mono ?_;rintro e w3 ⟨k,k9,a9,rfl,s,j⟩;obtain rfl:k=0:=s.2 P.o;have F:=h_ g j;have p:=H_ j;clear s j;go_wp2_with fail;refine(J.o w3 F.o p.o.size p.o).mono ?_;rintro e w4 ⟨rfl,N⟩;have aE:=h_ F N;have bF:=h_ p N;obtain⟨z0,z1,z2,z3,z4,z5,z6,z7,z8,z9,bW,bX⟩:=d_12 bF.o l1 aJ.o;clear N p0 p1 p2 p3 p4 p5 p6 p7 p8 p9 bR bS;go_wp2_with fail;refine(kE_ M ⟨a0,a1,a2,a3,a4,a5,aP,aD,aR,aT,aH,n0,n1,n2,n3,n4,n5,nP,nD,nR,nT,nH,c0,c1,c2,c3,c4,c5,cP,cD,cR,cT,cH⟩ A n c w4).mono ?_;rintro e w5 ⟨b3,b2,rfl,aX,aM,aQ⟩;have Q:=h_ aE aQ;have bE:=H_ (j6_ 101 #[.pointer (some ⟨b3,0,none⟩),.pointer (some ⟨b2,0,none⟩)] (enters_of Tryz.func101 (by kernel_rfl) rfl) (cp_ M L) (Nat.le_trans bC.o (by decide)) w5 (aZ.o b3 b2 w5 aX (Z.o.below Q.o) aM (eq_ aA.o) (aN.o.below Q.o) X.o))
    clear aX aM aQ z0 z1 z2 z3 z4 z5 z6 z7 z8 z9 bW bX;go_wp2_with fail;refine bE.o.mono ?_;rintro e w6 ⟨S0,A6,c6,bA,bD,rfl,r6,aS⟩;obtain rfl:S0=eF_ M L:=iV_ bA bD;have aU:=h_ Q aS;obtain⟨S,hS⟩:=e_ (eF_ M L);obtain⟨m,hm⟩:=e_ S.length;have aB:Hd (eF_ M L=S):=hS;have bN:Hd (S.length=m):=hm;have cE:m<=3200000:=by have:=bC.o;have:=(kV_ M L).length_eq;rw [<-hm, <-hS];omega
    rw [hS,hm] at r6;simp only [hS,hm];have bT:=H_ r6;clear bA bD r6 aS bE hS hm aZ
    go_wp2
    go_loopw [26,6] (fun iv v wr=> ∃ i:Nat,i<=m/\iv= .int .i64 i/\Hd (wr.ownsRow w6.heap.size 42 6 v (S.take i).length ((S.take i).flatMap bt_))/\Hd (Below w6.heap.size w6 wr)) (fun iv _ _=>m-(intOf iv).toNat)
    ·exact⟨0,Nat.zero_le _,rfl,World.ownsRow_nil _ _ _ _,Below.refl _ _⟩
    ·obtain⟨i,hi,rfl,own,hb⟩:=hrel;by_cases bK:i<m
     ·have cA:(i:Int)<(m:Int):=by omega
      obtain⟨b,o,⟨x1,x2,x3,x4,x5,x6⟩,rfl,cB,hx,y⟩:=(bT.o.below hb.o).get bK;have f0:=y 0 _ rfl;have f1:=y 1 _ rfl;have f2:=y 2 _ rfl;have f3:=y 3 _ rfl;have f4:=y 4 _ rfl;have f5:=y 5 _ rfl;simp only [Nat.add_zero] at f0;have bO:Hd (S.take (i+1)=S.take i++[⟨x1,x2,x3,x4,x5,x6⟩]):=an_ hx;have bP:Hd ((S.take i).length +1<=1099511627776):=by rw [List.length_take];show _<=_;omega
      clear y hx;obtain⟨wa,ba,cF,bZ,R,aK⟩:=box1 wr 88 [.int .i64 x1,.int .i64 x2,.int .i64 x3,.int .i64 x4,.int .i64 x5,.int .i64 x6];obtain⟨q0,q1,q2,q3,q4,q5⟩:=c_6 aK;have D:=b_ hb R;obtain⟨v9,w9,a,z,aV⟩:=bI_ (enc:=bt_) Tryz.underlying37 kM_ rfl (by decide) cw_ fA_ [⟨x1,x2,x3,x4,x5,x6⟩] (aa_ own.o R) bP.o (by decide) D.size;have a:(Builtin.append_ #[37,37] 37 #[u6,.slice (some ⟨wa.heap.size,0,none⟩) 1 1]).run Tryz.prog (wa.alloc (.cells #[.int .i64 x1,.int .i64 x2,.int .i64 x3,.int .i64 x4,.int .i64 x5,.int .i64 x6] 42))= .ok v9 w9:=a;have bI:=H_ (D.trans aV);have aI:Hd (w9.ownsRow w6.heap.size 42 6 v9 (S.take (i+1)).length ((S.take (i+1)).flatMap bt_)):=by show World.ownsRow _ _ _ _ _ _ _;rw [bO.o];exact z
      clear own hb aK D aV R z;go_wp2_with (at_builtin;refine ap_ (.tmp 30) (.tmp 32) 37 a ?_);go_roundw
      ·exact⟨i+1,by omega,by go_num,aI,bI⟩
      ·simp [intOf];omega
     ·obtain rfl:i=m:=by omega
      have z:wr.ownsRow w6.heap.size 42 6 u6 S.length (S.flatMap bt_):=by
       have:=own.o
       rwa [List.take_of_length_le (by have:=bN.o;omega)] at this
      obtain⟨A9,k,rfl,r9,k1,k2⟩:=Rd.of_own cw_ rfl z;have aW:=h_ aU hb.o;have bU:=H_ r9;have bQ:=H_ k1;clear own z r9 k1
      go_wp2
      clear d q;go_returns;exact⟨A9,k,by rw [aB.o];rfl,by rw [aB.o];exact bU.o,by rw [aB.o];exact bQ.o,k2,aW.o⟩
theorem Rd.of_bx {α:Type} {enc:α ->List Value} {size:Nat} {w:World} {b:Nat} {T:TypeId} {l:List α} (hs: ∀ x,(enc x).length =size) (h:Bx w b T (l.flatMap enc)):Rd w size enc (some ⟨b,0,none⟩) l.length l:=
 ⟨rfl,fun _=>⟨b,0,rfl,h.lt,fun i x g j u f=>by
   rw [Nat.zero_add];exact h.cell _ (a8_ hs l i x g j u f)⟩⟩
def M0:ab_:=⟨99,[(⟨#[97]⟩:ByteArray),(⟨#[98]⟩:ByteArray),(⟨#[99]⟩:ByteArray)],[],[],[(⟨#[114]⟩:ByteArray)],[(⟨#[116]⟩:ByteArray),(⟨#[117]⟩:ByteArray)],[],[],[],[⟨[0,1,2],[3,3],[1]⟩],[⟨0,5,0,5⟩,⟨0,6,0,6⟩],[]⟩
def L0:List RunP:=[⟨0,0,[5,8,12],[5,9,12]⟩,⟨1,0,[6,7,9],[6,7,9]⟩]
def C0:List aC_:=[⟨5,8,0,1,0,0⟩,⟨6,7,0,1,1,0⟩,⟨7,9,1,2,1,1⟩,⟨9,12,1,2,0,1⟩]
theorem few0:Few M0:=⟨by decide,by decide,by decide,by decide,by decide,by decide,by decide,by decide,by decide,by decide,by decide,fun r f=>by
 have:r=⟨[0,1,2],[3,3],[1]⟩:=by simpa [M0] using f
 subst this;decide⟩
theorem pO_:cu_ aN_ M0=true:=by kernel_rfl
theorem fit0:L0.all (bH_ M0)=true:=by kernel_rfl
theorem err0:errC M0 L0=0:=hz_ (by decide) pO_ fit0
