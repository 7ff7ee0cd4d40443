/- Merged. -/
import Derived.Test.YtechdefolfboeaaGreatDoorPd18
set_option linter.unusedVariables false
set_option linter.unusedSimpArgs false
set_option maxRecDepth 100000
set_option maxHeartbeats 2000000
namespace Go.Proofs.YtechdefolfboeaaGreatDoor
open Go.RowKit B K
def cL_ (z bw:Nat):List Value:=[.pointer (some ⟨z,0,none⟩),.pointer (some ⟨bw,1,none⟩),.pointer (some ⟨bw,2,none⟩),.pointer (some ⟨bw,3,none⟩),.pointer (some ⟨bw,4,none⟩),.pointer (some ⟨bw,5,none⟩),.pointer (some ⟨bw,6,none⟩)]
theorem k9_ (bw:Nat) (we:World):Calls Tryz.prog 196 #[.pointer (some ⟨bw,1,none⟩)] we fun e w'=> ∃ z,e= .returned (.agg (cL_ z bw).toArray)/\Bx w' z 22 [.slice none 0 0]/\we.heap.size<=z/\Below we.heap.size we w':=by
 obtain⟨w1,Z,X,G,T,U,Y,L⟩:=cm_ we 246 [.pointer none,.pointer none,.pointer none,.pointer none,.pointer none,.pointer none,.pointer none];have D:=H_ Y;clear Y T;go_enter Tryz.func196,Tryz.ntmps196
 go_wp2
 refine wl_ [2,0,0,0,0,0,0,0,0,0,0,0,0,0,0,0,0,0,0,2,2] ?_;intro C a;simp only [af_,Nat.reduceEqDiff, ↓reduceIte]
 repeat(go_big_quiet_step (first
  |(intro _;with_reducible rfl)))
 clear a;intro C' S;clear S;intro d g;obtain⟨i,z,aA,aB,q,N⟩:=box1 d 22 [.slice none 0 0];have n:=(D.o.below g).below q;obtain⟨p,f⟩:=n.row (cL_ z bw);obtain⟨c,y⟩:=e_ (i.setRow Z (cL_ z bw).toArray);rw [y] at p f;have M:z≠Z:=by have:=(D.o.below g).lt;omega
 have P:=b_ U g;have b:Hd (we.heap.size<=z):=by have:=P.size;show _<=_;omega
 have Q:=u_ P q;have J:Hd (Below we.heap.size we c):=Q.trans (f.below Q.size (m_ L.o));have R:=H_ (N.keep (f.keep z N.lt (by simpa using M)));have j:=H_ p;have F:=H_ n;clear g X G f p n N q P Q M;unfold cL_ at y j;go_wp2_with (refine ac_ (.tmp 2) (.tmp 22) 246 (by with_reducible rfl) rfl rfl rfl F.o (by kernel_rfl) rfl rfl y ?_);refine ar_ (s:=2) (t:=246) rfl rfl j.o (by kernel_rfl) (by kernel_rfl) rfl ?_;exact⟨z,rfl,R.o,b.o,J.o⟩
theorem dP_: ∀ (l:List Str) (x:Str),bG_ (l++[x])=(bG_ l&& !(l.any fun y=>sq y x))
 |[],x=>rfl
 |y::l,x=>by
  simp only [List.cons_append,bG_,dP_ l x,List.any_append,List.any_cons,List.any_nil,Bool.or_false];cases bG_ l<;>cases(l.any fun z=>sq y z)<;>cases sq y x<;>simp
theorem fX_: ∀ (l r:List Str),bG_ l=false ->bG_ (l++r)=false
 |[],r,h=>by cases h
 |y::l,r,h=>by
  simp only [List.cons_append,bG_,List.any_append] at h ⊢
  cases h1:bG_ l with
  |false=>rw [fX_ l r h1];simp
  |true=>
   rw [h1] at h
   cases h2:(l.any fun z=>sq y z) with
   |true=>simp
   |false=>rw [h2] at h;simp at h
def RetW (we:World) (b:Bool) (e:Ending) (w':World):Prop:= ∃ c k a:Int,e= .returned (.agg #[.int .i64 c,.int .i64 k,.int .i64 a])/\(c=0↔b=true)/\Below we.heap.size we w'
theorem ma_ {α:Type} {l:List α} {i:Nat} {x:α} (h:l[i]?=some x):l.drop i=x::l.drop (i+1):=by
 obtain⟨f,g⟩:=List.getElem?_eq_some_iff.1 h;rw [List.drop_eq_getElem_cons f,g]
theorem mv_ {s:Str} (h:aN_ s=true):s.size<=24:=by
 unfold aN_ dn_ at h;simp only [Bool.and_eq_true,decide_eq_true_eq] at h;exact h.1.2.1
theorem fp_ {w w':World} {n:Nat} (h:Sp w) (hn:0<n) (k:Below n w w'):Sp w':=fun c f=>(k.cell (p:=⟨0,c,none⟩) hn).trans (h c f)
structure WSt (w0 wr:World) (mb bt z ba:Nat) (l:List Str) (v:Value) (bw:Nat):Prop where
 tst:TSt wr mb bt l v
 bel:Below mb w0 wr
 bz:Bx wr z 22 [.slice none 0 0]
 ba:Bx wr ba 246 (cL_ z bw)
def bV_ (N:ab_):List (List Str):=[[],N.stops,N.nPaths,N.nDoors,N.nRoutes,N.nTrips,N.nHazs]
theorem dJ_ (N:ab_):(bV_ N).flatten =allN N:=by simp [bV_,allN]
theorem kidx (z bw:Nat) (w:World): ∀ k:Nat,k<7 -> ∀ u,(cL_ z bw)[k]?=some u ->(Instr.index 246 (.agg (cL_ z bw).toArray) (.int .i64 (k:Int))).run Tryz.prog w= .ok u w:=by
 intro k g u f;unfold cL_ at*
 match k,g with
 |0,_=>cases f;rfl
 |1,_=>cases f;rfl
 |2,_=>cases f;rfl
 |3,_=>cases f;rfl
 |4,_=>cases f;rfl
 |5,_=>cases f;rfl
 |6,_=>cases f;rfl
 |k+7,g=>omega
theorem WSt.go {w0 w w':World} {mb bt z ba bw:Nat} {l:List Str} {v:Value} (h:WSt w0 w mb bt z ba l v bw) (k:Below w.heap.size w w'):WSt w0 w' mb bt z ba l v bw:=
 ⟨h.tst.below k,h.bel.trans (k.mono (Nat.le_of_lt h.tst.mp.lt)),h.bz.below k,h.ba.below k⟩
def fnsL (bc:Nat):List Value:=[.func (.func 198) #[.pointer (some ⟨bc,0,none⟩)] #[],.func (.func 198) #[.pointer (some ⟨bc,0,none⟩)] #[],.func (.func 199) #[.pointer (some ⟨bc,0,none⟩)] #[],.func (.func 200) #[.pointer (some ⟨bc,0,none⟩)] #[],
 .func (.func 201) #[.pointer (some ⟨bc,0,none⟩)] #[],.func (.func 202) #[.pointer (some ⟨bc,0,none⟩)] #[],.func (.func 203) #[.pointer (some ⟨bc,0,none⟩)] #[]]
theorem fidx (bc:Nat) (w:World): ∀ k:Nat,k<7 -> ∀ u,(fnsL bc)[k]?=some u ->(Instr.index 251 (.agg (fnsL bc).toArray) (.int .i64 (k:Int))).run Tryz.prog w= .ok u w:=by
 intro k g u f;unfold fnsL at*
 match k,g with
 |0,_=>cases f;rfl
 |1,_=>cases f;rfl
 |2,_=>cases f;rfl
 |3,_=>cases f;rfl
 |4,_=>cases f;rfl
 |5,_=>cases f;rfl
 |6,_=>cases f;rfl
 |k+7,g=>omega
def allQ {α:Type} (f:α ->Bool) (L:List α) (i:Nat):Bool:=match L[i]? with
 |some x=>f x
 |none=>true
theorem dC_ {α:Type} {f:α ->Bool} {L:List α} {n:Nat} (hn:L.length=n):(List.range n).all (allQ f L)=L.all f:=by
 rw [Bool.eq_iff_iff,List.all_eq_true,List.all_eq_true];constructor
 ·intro h x p;obtain⟨i,g⟩:=List.getElem?_of_mem p;have:=h i (List.mem_range.2 (by have:=(List.getElem?_eq_some_iff.1 g).1;omega));unfold allQ at this;rw [g] at this;exact this
 ·intro h i g;unfold allQ
  cases j:L[i]? with
  |none=>rfl
  |some x=>exact h x (List.mem_of_getElem? j)
theorem ln_ {q:Nat ->Bool} {i:Nat} (h:(List.range i).all q=true) (hq:q i=true):(List.range (i+1)).all q=true:=by
 rw [List.range_succ,List.all_append,h];simp [hq]
theorem oh_ {q:Nat ->Bool} {i n:Nat} (hi:i<n) (hq:q i=false):(List.range n).all q=false:=by
 cases h:(List.range n).all q with
 |false=>rfl
 |true=>have:=List.all_eq_true.1 h i (List.mem_range.2 hi);rw [hq] at this;cases this
def dg_ (N:ab_):List Bool:=[true,true,N.paths.all fun p=>wayB p.1 p.2.1 p.2.2,N.doors.all fun d=>wayB d.a d.b d.len&&bq_ d.fr d.ev d.du N.hz,N.routes.all bR_,N.trips.all fun t=>decide (0<=t.route)&&decide (t.fr<=t.un),N.hazs.all fun h=>decide (0<=h.on)&&bq_ h.fr h.ev h.du N.hz]
theorem gc_ (N:ab_):(dg_ N).all id=a3_ N:=by simp [dg_,a3_]
theorem lZ_ {N:ab_} {k:Nat} (h:(dg_ N)[k]?=some false):a3_ N=false:=by
 rw [<-gc_]
 cases f:(dg_ N).all id with
 |false=>rfl
 |true=>have:=List.all_eq_true.1 f false (List.mem_of_getElem? h);cases this
theorem ll_ (N:ab_) (V:WV) (bw:Nat) (we:World) (hx:Bx we bw 31 [.int .i64 N.hz,.slice V.a0 V.n0 V.c0,.slice V.a1 V.n1 V.c1,.slice V.a2 V.n2 V.c2,.slice V.a3 V.n3 V.c3,.slice V.a4 V.n4 V.c4,.slice V.a5 V.n5 V.c5,.slice V.aP V.nP V.cP,.slice V.aD V.nD V.cD,.slice V.aR V.nR V.cR,.slice V.aT V.nT V.cT,.slice V.aH V.nH V.cH]) (hr:RW we N V) (hsp:Sp we) (hnm: ∀ s∈allN N,aN_ s=true) (hcn:(allN N).length <=4000)
 (hl1:N.paths.length=N.nPaths.length) (hl2:N.doors.length=N.nDoors.length) (hl3:N.routes.length=N.nRoutes.length) (hl4:N.trips.length=N.nTrips.length) (hl5:N.hazs.length=N.nHazs.length)
 (hrt: ∀ r∈N.routes,r.rides.length+1=r.stops.length/\(∀ s∈r.stops, -1<=s)/\r.stops.length<=100000):Calls Tryz.prog 132 #[.pointer (some ⟨bw,0,none⟩)] we (RetW we (bG_ (allN N)&&a3_ N)):=by
 obtain⟨a0,a1,a2,a3,a4,a5,aP,aD,aR,aT,aH,n0,n1,n2,n3,n4,n5,nP,nD,nR,nT,nH,c0,c1,c2,c3,c4,c5,cP,cD,cR,cT,cH⟩:=V;have aM:=H_ hr;have cX:=H_ hsp;have aN:=H_ hx;have cW:=H_ hnm;have cN:Hd ((bV_ N).flatten.length <=4000):=by show _<=_;rw [dJ_];exact hcn
 have bE:=H_ hrt;have aX:Hd (N.paths.length=N.nPaths.length/\N.doors.length=N.nDoors.length/\N.routes.length=N.nRoutes.length/\N.trips.length=N.nTrips.length/\N.hazs.length=N.nHazs.length):=⟨hl1,hl2,hl3,hl4,hl5⟩
 have eH:n0<=4000/\n1<=4000/\n2<=4000/\n3<=4000/\n4<=4000/\n5<=4000:=by
  unfold allN at hcn;simp only [List.length_append] at hcn;have:=hr.r0.len;have:=hr.r1.len;have:=hr.r2.len;have:=hr.r3.len;have:=hr.r4.len;have:=hr.r5.len;simp only at*;omega
 have dX:Hd (0<we.heap.size/\bw<we.heap.size):=⟨by have:=hx.lt;omega,hx.lt⟩
 clear hr hsp hx hnm hcn hrt hl1 hl2 hl3 hl4 hl5;obtain⟨w1,b1,dU,cK,dH,D,B1,cO⟩:=cm_ we 81 [.int .i64 0,.int .i64 0,.int .i64 0];obtain⟨w2,Y,dV,cM,bW,Bc⟩:=box1 w1 242 [.pointer none,.pointer (some ⟨bw,0,none⟩)];have dF:=H_ (B1.below bW);have cZ:=h_ D bW;have bR:=H_ Bc;have aB:Hd (b1<Y/\we.heap.size<=b1):=⟨by have:=B1.lt;omega,cO.o⟩
 clear B1 dH Bc bW D;have cY:Hd (∀ (i:Nat) (w:World) (g:Value),Calls Tryz.prog 198 #[g,.int .i64 i] w (RetE w true)):=fun i w g=>mk_ g i w;go_enter Tryz.func132,Tryz.ntmps132;go_wp2_with fail;refine(oq_ w2).mono ?_;rintro e w3 ⟨X,Z,rfl,U,dK,bU⟩;have aC:=bR.o.below bU;have f1:=aC.cell 0 rfl;have f2:=aC.frozen 0;have aV:=aC.set 0 (.pointer (some ⟨Z,0,none⟩));have aS:But w3 (w3.setCell ⟨Y,0,none⟩ (.pointer (some ⟨Z,0,none⟩))) [Y]:=But.of_set _ _ _ (by simp);obtain⟨w4,dA⟩:=e_ (w3.setCell ⟨Y,0,none⟩ (.pointer (some ⟨Z,0,none⟩)));rw [dA] at aV aS;have cV:Y<X:=by have:=bR.o.lt;omega
 have T:Hd (Y<X/\X<Z/\we.heap.size<=X):=⟨cV,U.lt,by have:=aB.o;show _<=_;omega⟩
 have aZ:=(⟨U.bx.keep (aS.keep Z U.bx.lt (by have:=U.lt;simp;omega)),f6_ U.own aS (fun x hx=>by have:=U.lt;simp only [List.mem_singleton] at hx;omega),U.mp.keep (aS.keep X U.mp.lt (by simp;omega)),U.lt⟩:TSt w4 X Z [] (.slice none 0 0))
 have bP:Below Y w2 w4:=(bU.mono (Nat.le_of_lt bR.o.lt)).trans (aS.below (by have:=aC.lt;omega) (fun x hx=>by simp only [List.mem_singleton] at hx;omega));have cC:=H_ (dF.o.keep (bP.block b1 aB.o.1));have dE:=H_ (cZ.o.trans (bP.mono (by have:=aB.o;omega)));have aZ:=H_ aZ;have bS:=H_ aV;clear aV aC aS bP U dK bU cV;go_wp2_with fail;refine(k9_ bw w4).mono ?_;rintro e w5 ⟨z,rfl,bG,dL,bV⟩;clear dU dV cK cM f1 f2 dA;obtain⟨w6,ba,dW,cL,bI,Ba⟩:=box1 w5 246 [.pointer none,.pointer none,.pointer none,.pointer none,.pointer none,.pointer none,.pointer none];have bQ:=Ba;obtain⟨bF,bH⟩:=bQ.row (cL_ z bw);obtain⟨w0,cB⟩:=e_ (w6.setRow ba (cL_ z bw).toArray);rw [cB] at bF bH;have dY:z<ba:=by have:=bG.lt;omega
 have dB:w4.heap.size<=w5.heap.size:=bV.size;have h6:=u_ bV bI;have aQ:Below w4.heap.size w4 w0:=h6.trans (bH.below h6.size (fun x hx=>by simp only [List.mem_singleton] at hx;subst hx;omega));have dG:Hd (WSt w0 w0 X Z z ba [] (.slice none 0 0) bw):=⟨aZ.o.below aQ,Below.refl _ _,(bG.below bI).keep (bH.keep z (bG.below bI).lt (by simp;omega)),bF⟩
 have aO:=h_ dE aQ;have aU:=H_ (cC.o.below aQ);have bM:=H_ (bS.o.below aQ)
 have dD:Hd (z≠Z/\ba≠Z/\X<=w0.heap.size):=by
  have h1:=aZ.o.bx.lt;have h2:=(aZ.o.below aQ).mp.lt;exact⟨by omega,by omega,by omega⟩
 have cI:Hd (∀ k:Nat,k<7 -> ∃ b o A n c l,(cL_ z bw)[k]?=some (.pointer (some ⟨b,o,none⟩))/\(bV_ N)[k]?=some l/\(∀ wr l' v,WSt w0 wr X Z z ba l' v bw ->wr.cell? ⟨b,o,none⟩=some (.slice A n c)/\Rd wr 1 strE A n l)/\n<=4000):=by
  have D: ∀ wr l v,WSt w0 wr X Z z ba l v bw ->Below we.heap.size we wr:=fun wr l v h=>aO.o.trans (h.bel.mono T.o.2.2);intro k hk
  match k,hk with
  |0,_=>exact⟨z,0,none,0,0,[],rfl,rfl,fun wr l v h=>⟨h.bz.cell 0 rfl,⟨rfl,fun h=>absurd h (by omega)⟩⟩,by omega⟩
  |1,_=>exact⟨bw,1,a0,n0,c0,_,rfl,rfl,fun wr l v h=>⟨(aN.o.below (D wr l v h)).cell 1 rfl,aM.o.r0.below (D wr l v h)⟩,by omega⟩
  |2,_=>exact⟨bw,2,a1,n1,c1,_,rfl,rfl,fun wr l v h=>⟨(aN.o.below (D wr l v h)).cell 2 rfl,aM.o.r1.below (D wr l v h)⟩,by omega⟩
  |3,_=>exact⟨bw,3,a2,n2,c2,_,rfl,rfl,fun wr l v h=>⟨(aN.o.below (D wr l v h)).cell 3 rfl,aM.o.r2.below (D wr l v h)⟩,by omega⟩
  |4,_=>exact⟨bw,4,a3,n3,c3,_,rfl,rfl,fun wr l v h=>⟨(aN.o.below (D wr l v h)).cell 4 rfl,aM.o.r3.below (D wr l v h)⟩,by omega⟩
  |5,_=>exact⟨bw,5,a4,n4,c4,_,rfl,rfl,fun wr l v h=>⟨(aN.o.below (D wr l v h)).cell 5 rfl,aM.o.r4.below (D wr l v h)⟩,by omega⟩
  |6,_=>exact⟨bw,6,a5,n5,c5,_,rfl,rfl,fun wr l v h=>⟨(aN.o.below (D wr l v h)).cell 6 rfl,aM.o.r5.below (D wr l v h)⟩,by omega⟩
  |k+7,hk=>omega
 have bL:=H_ bQ;obtain⟨dZ,eA,eB,eC,eD,eE,eF⟩:=c_7 bF;clear bQ bG dL bV bI Ba bF bH dY dB h6 aQ;go_wp2_with (refine ac_ (.tmp 4) (.tmp 29) 246 (by with_reducible rfl) rfl rfl rfl bL.o (by kernel_rfl) rfl rfl cB ?_);clear dW cL cB bL;go_loopw [31] (fun kv wr=> ∃ (k:Nat) (l:List Str) (v:Value),k<=7/\kv= .int .i64 k/\Hd (WSt w0 wr X Z z ba l v bw)/\Hd (l++((bV_ N).drop k).flatten =(bV_ N).flatten)/\Hd (bG_ l=true)) (fun kv _=>7-(intOf kv).toNat)
 ·exact⟨0,[],.slice none 0 0,by omega,rfl,dG,by show _=_;simp,rfl⟩
 ·clear dZ eA eB eC eD eE eF;obtain⟨k,l,v,hk,rfl,F,hl,hu⟩:=hrel;by_cases aK:k<7
  ·have dO:(k:Int)<7:=by omega
   obtain⟨b,o,A,n,c,lk,M,a,f,hn⟩:=cI.o k aK;have bD:=kidx z bw wr k aK _ M;simp only [cL_] at bD;have z0:=(f wr l v F.o).1;have dP:Hd (lk.length=n):=(f wr l v F.o).2.len
   have cU:Hd (l++(lk.drop 0++((bV_ N).drop (k+1)).flatten)=(bV_ N).flatten):=by
    have:=hl.o;rw [ma_ a,List.flatten_cons] at this;exact this
   have bX:=H_ f;have cG:=H_ a;clear hl f a M
   go_wp2
   clear bD z0;go_loopw [39] (fun iv wx=> ∃ (i:Nat) (l:List Str) (v:Value),i<=n/\iv= .int .i64 i/\Hd (WSt w0 wx X Z z ba l v bw)/\Hd (l++(lk.drop i++((bV_ N).drop (k+1)).flatten)=(bV_ N).flatten)/\Hd (bG_ l=true)) (fun iv _=>n-(intOf iv).toNat)
   ·exact⟨0,l,v,Nat.zero_le _,rfl,F,cU,hu⟩
   ·clear F cU hu;obtain⟨i,l,v,hi,rfl,F,hl,hu⟩:=hrel;by_cases bJ:i<n
    ·have cS:(i:Int)<(n:Int):=by omega
     obtain⟨b',o',x,rfl,eG,hx,g0⟩:=((bX.o wr l v F.o).2).str bJ;have cA:=cW.o x (by rw [<-dJ_];exact List.mem_flatten.2 ⟨lk,List.mem_of_getElem? cG.o,List.mem_of_getElem? hx⟩);have hl2:Hd ((l++[x])++(lk.drop (i+1)++((bV_ N).drop (k+1)).flatten)=(bV_ N).flatten):=by have:=hl.o;rw [ma_ hx] at this;show _=_;rw [<-this];simp
     have P:l.length<4096:=by have h1:=congrArg List.length hl2.o;rw [List.length_append,List.length_append] at h1;simp only [List.length_singleton] at h1;have:=cN.o;omega
     have bO:=aO.o.trans (F.o.bel.mono T.o.2.2);have bA:=H_ (oo_ wr X Z l v x (fp_ cX.o dX.o.1 bO) F.o.tst cA (mv_ cA) P);have y0:=(F.o.bel.cell (p:=⟨Y,0,none⟩) T.o.1).trans (bM.o.cell 0 rfl);clear bO cA P hx hl;go_wp2_with fail;refine bA.o.mono ?_;rintro e w9 ⟨j,cc,rfl,aF,L,aL⟩;by_cases aA:cc=0
     ·subst aA;obtain⟨v',cJ,bY⟩:=aL rfl;have bN:=L.1 rfl;have aY:Hd (WSt w0 w9 X Z z ba (l++[x]) v' bw):=⟨cJ,F.o.bel.trans aF,bY z 22 _ (by decide) dD.o.1 F.o.bz,bY ba 246 _ (by decide) dD.o.2.1 F.o.ba⟩
      have dS:Hd (bG_ (l++[x])=true):=by
       show _=_;rw [dP_,hu.o,bN];rfl
      clear cJ bY bN aL L aF bA y0 g0
      go_wp2
      go_roundw
      ·exact⟨i+1,l++[x],v',by omega,by go_num,aY,hl2,dS⟩
      ·simp [intOf];omega
     ·have bZ:Hd (bG_ (allN N)=false):=by
       show _=_;rw [<-dJ_, <-hl2.o];refine fX_ _ _ ?_;rw [dP_]
       cases h1:(l.any fun y=>sq y x) with
       |false=>exact absurd (L.2 h1) aA
       |true=>simp
      have hd:(cc !=0)=true:=by simpa using aA
      have aJ:=F.o.bel.trans aF;have R:=aU.o.keep (aJ.block b1 (by have:=aB.o;have:=T.o;omega));obtain⟨G,S⟩:=R.row [.int .i64 cc,.int .i64 (k:Int),.int .i64 (i:Int)];obtain⟨wF,aI⟩:=e_ (w9.setRow b1 (List.toArray [.int .i64 cc,.int .i64 (k:Int),.int .i64 (i:Int)]));rw [aI] at G S;have Q:=aO.o.trans (aJ.mono T.o.2.2);have aG:Hd (Below we.heap.size we wF):=Q.trans (S.below Q.size (m_ aB.o.2));have G:=H_ G;have aE:=H_ R;rename_i q1;clear q1 S Q hl2 aF hu aL L aJ R bA y0 g0;go_wp2_with (with_reducible refine ac_ (.tmp 2) (.tmp 59) 81 (by with_reducible rfl) ?x1 ?x2 ?x3 aE.o ?x4 ?x5 ?x6 aI ?_)
      case x1=>rfl
      case x2=>rfl
      case x3=>rfl
      case x4=>kernel_rfl
      case x5=>rfl
      case x6=>rfl
      refine ar_ (s:=2) (t:=81) rfl rfl G.o (by kernel_rfl) (by kernel_rfl) rfl ?_;exact⟨_,_,_,rfl,⟨fun h=>absurd h aA,fun h=>by rw [bZ.o] at h;simp at h⟩,aG.o⟩
    ·obtain rfl:i=n:=by omega
     have hl2:Hd (l++((bV_ N).drop (k+1)).flatten =(bV_ N).flatten):=by have:=hl.o;rw [List.drop_eq_nil_of_le (by rw [dP.o];omega),List.nil_append] at this;exact this
     clear hl
     go_wp2
     go_roundw
     ·exact⟨k+1,l,v,by omega,by go_num,F,hl2,hu⟩
     ·simp [intOf];omega
  ·obtain rfl:k=7:=by omega
   have dT:Hd (bG_ (allN N)=true):=by
    have h1:=hl.o;have h2:((bV_ N).drop 7).flatten =[]:=rfl;rw [h2,List.append_nil] at h1;show _=_;rw [<-dJ_, <-h1];exact hu.o
   clear hl hu aK
   have aW:Hd (∀ w,Below X w0 w ->KC w Y bw N ⟨a0,a1,a2,a3,a4,a5,aP,aD,aR,aT,aH,n0,n1,n2,n3,n4,n5,nP,nD,nR,nT,nH,c0,c1,c2,c3,c4,c5,cP,cD,cR,cT,cH⟩):=fun w h=>by
    have h1:=aO.o.trans (h.mono T.o.2.2);exact⟨(h.cell (p:=⟨Y,1,none⟩) T.o.1).trans (bM.o.cell 1 rfl),aN.o.below h1,aM.o.below h1⟩
   have dJ:Hd (∀ k:Nat,k<7 -> ∃ (g:Nat) (q:Nat ->Bool) (b o:Nat) (A:Option Addr) (n c:Nat),(fnsL Y)[k]?=some (.func (.func g) #[.pointer (some ⟨Y,0,none⟩)] #[])/\(∀ bK w,(callFunc g bK).run Tryz.prog w= .ok (.enter g bK) w)/\(dg_ N)[k]?=some ((List.range n).all q)/\
    (cL_ z bw)[k]?=some (.pointer (some ⟨b,o,none⟩))/\(∀ wr,WSt w0 wr X Z z ba l v bw ->wr.cell? ⟨b,o,none⟩=some (.slice A n c))/\n<=4000/\ ∀ (i:Nat),i<n -> ∀ w,Below X w0 w ->Calls Tryz.prog g #[.pointer (some ⟨Y,0,none⟩),.int .i64 i] w (RetE w (q i))):=by
    intro k hk;obtain⟨b,o,A,n,c,lk,M,a,f,hn⟩:=cI.o k hk;have J: ∀ wr,WSt w0 wr X Z z ba l v bw ->wr.cell? ⟨b,o,none⟩=some (.slice A n c):=fun wr h=>(f wr l v h).1;have P:=(f _ l v F.o).2.len
    match k,hk with
    |0,_=>exact⟨198,fun _=>true,b,o,A,n,c,rfl,enters_of Tryz.func198 (by kernel_rfl) rfl,by simp [dg_],M,J,hn,fun i _ w _=>cY.o i w _⟩
    |1,_=>exact⟨198,fun _=>true,b,o,A,n,c,rfl,enters_of Tryz.func198 (by kernel_rfl) rfl,by simp [dg_],M,J,hn,fun i _ w _=>cY.o i w _⟩
    |2,_=>
     have e1:lk=N.nPaths:=by cases a;rfl
     have e2:N.paths.length=n:=by rw [aX.o.1, <-e1];exact P
     refine⟨199,allQ (fun p=>wayB p.1 p.2.1 p.2.2) N.paths,b,o,A,n,c,rfl,enters_of Tryz.func199 (by kernel_rfl) rfl,by rw [dC_ e2];rfl,M,J,hn,fun i hi w hw=>?_⟩;obtain⟨x,hx⟩: ∃ x,N.paths[i]?=some x:=⟨_,List.getElem?_eq_getElem (by omega)⟩
     unfold allQ;rw [hx];exact ml_ Y bw N _ i x w (aW.o w hw) hx
    |3,_=>
     have e1:lk=N.nDoors:=by cases a;rfl
     have e2:N.doors.length=n:=by rw [aX.o.2.1, <-e1];exact P
     refine⟨200,allQ (fun d=>wayB d.a d.b d.len&&bq_ d.fr d.ev d.du N.hz) N.doors,b,o,A,n,c,rfl,enters_of Tryz.func200 (by kernel_rfl) rfl,by rw [dC_ e2];rfl,M,J,hn,fun i hi w hw=>?_⟩;obtain⟨x,hx⟩: ∃ x,N.doors[i]?=some x:=⟨_,List.getElem?_eq_getElem (by omega)⟩
     unfold allQ;rw [hx];exact mj_ Y bw N _ i x w (aW.o w hw) hx
    |4,_=>
     have e1:lk=N.nRoutes:=by cases a;rfl
     have e2:N.routes.length=n:=by rw [aX.o.2.2.1, <-e1];exact P
     refine⟨201,allQ bR_ N.routes,b,o,A,n,c,rfl,enters_of Tryz.func201 (by kernel_rfl) rfl,by rw [dC_ e2];rfl,M,J,hn,fun i hi w hw=>?_⟩;obtain⟨x,hx⟩: ∃ x,N.routes[i]?=some x:=⟨_,List.getElem?_eq_getElem (by omega)⟩
     unfold allQ;rw [hx];exact kS_ Y bw N _ i x w (aW.o w hw) hx (bE.o x (List.mem_of_getElem? hx)).1 (bE.o x (List.mem_of_getElem? hx)).2.1 (bE.o x (List.mem_of_getElem? hx)).2.2
    |5,_=>
     have e1:lk=N.nTrips:=by cases a;rfl
     have e2:N.trips.length=n:=by rw [aX.o.2.2.2.1, <-e1];exact P
     refine⟨202,allQ (fun t=>decide (0<=t.route)&&decide (t.fr<=t.un)) N.trips,b,o,A,n,c,rfl,enters_of Tryz.func202 (by kernel_rfl) rfl,by rw [dC_ e2];rfl,M,J,hn,fun i hi w hw=>?_⟩;obtain⟨x,hx⟩: ∃ x,N.trips[i]?=some x:=⟨_,List.getElem?_eq_getElem (by omega)⟩
     unfold allQ;rw [hx];exact mm_ Y bw N _ i x w (aW.o w hw) hx
    |6,_=>
     have e1:lk=N.nHazs:=by cases a;rfl
     have e2:N.hazs.length=n:=by rw [aX.o.2.2.2.2, <-e1];exact P
     refine⟨203,allQ (fun h=>decide (0<=h.on)&&bq_ h.fr h.ev h.du N.hz) N.hazs,b,o,A,n,c,rfl,enters_of Tryz.func203 (by kernel_rfl) rfl,by rw [dC_ e2];rfl,M,J,hn,fun i hi w hw=>?_⟩;obtain⟨x,hx⟩: ∃ x,N.hazs[i]?=some x:=⟨_,List.getElem?_eq_getElem (by omega)⟩
     unfold allQ;rw [hx];exact jG_ Y bw N _ i x w (aW.o w hw) hx
    |k+7,hk=>omega
   go_wp2
   go_loopw [77] (fun kv wy=> ∃ k:Nat,k<=7/\kv= .int .i64 k/\Hd (WSt w0 wy X Z z ba l v bw)/\Hd (∀ j,j<k ->(dg_ N)[j]?=some true)) (fun kv _=>7-(intOf kv).toNat)
   ·exact⟨0,by omega,rfl,F,fun j hj=>absurd hj (by omega)⟩
   ·clear F;obtain⟨k,hk,rfl,F,bB⟩:=hrel;by_cases aK:k<7
    ·have dO:(k:Int)<7:=by omega
     obtain⟨g,q,b,o,A,n,c,cQ,eg,cF,M,J,hn,bC⟩:=dJ.o k aK;have bD:=fidx Y wr k aK _ cQ;simp only [fnsL] at bD;have y1:=F.o.ba.cell k M;have y2:=J wr F.o;have bX:=H_ bC;have cE:=H_ cF;clear bC cF cQ M J
     go_wp2
     clear bD y1 y2;go_loopw [87] (fun iv wy=> ∃ i:Nat,i<=n/\iv= .int .i64 i/\Hd (WSt w0 wy X Z z ba l v bw)/\Hd ((List.range i).all q=true)) (fun iv _=>n-(intOf iv).toNat)
     ·exact⟨0,Nat.zero_le _,rfl,F,rfl⟩
     ·clear F;obtain⟨i,hi,rfl,F,hq⟩:=hrel;by_cases bJ:i<n
      ·have cS:(i:Int)<(n:Int):=by omega
       have J:=H_ (bX.o i bJ wr F.o.bel);go_wp2_with fail;refine J.o.mono ?_;rintro e w9 ⟨cc,rfl,L,aF⟩;have aY:=H_ (F.o.go aF);by_cases aA:cc=0
       ·subst aA;have dQ:Hd ((List.range (i+1)).all q=true):=ln_ hq.o (L.1 rfl);clear L aF J F hq
        go_wp2
        go_roundw
        ·refine⟨_,_,_,_,_,_,_,_,_,_,_,_,_,_,_,?_,rfl⟩;exact⟨i+1,by omega,by go_num,aY,dQ⟩
        ·simp [intOf];omega
       ·have bZ:Hd (a3_ N=false):=by
         show _=_;refine lZ_ (k:=k) ?_;rw [cE.o];refine congrArg some (oh_ bJ ?_)
         cases dR:q i with
         |false=>rfl
         |true=>exact absurd (L.2 dR) aA
        have hd:(cc !=0)=true:=by simpa using aA
        have R:=aU.o.keep (aY.o.bel.block b1 (by have:=aB.o;have:=T.o;omega));obtain⟨G,S⟩:=R.row [.int .i64 cc,.int .i64 (k:Int),.int .i64 (i:Int)];obtain⟨wF,aI⟩:=e_ (w9.setRow b1 (List.toArray [.int .i64 cc,.int .i64 (k:Int),.int .i64 (i:Int)]));rw [aI] at G S;have Q:=aO.o.trans (aY.o.bel.mono T.o.2.2);have aG:Hd (Below we.heap.size we wF):=Q.trans (S.below Q.size (m_ aB.o.2));have G:=H_ G;have aE:=H_ R;rename_i q1;clear q1 S Q aF L R J F hq;go_wp2_with (with_reducible refine ac_ (.tmp 2) (.tmp 98) 81 (by with_reducible rfl) ?x1 ?x2 ?x3 aE.o ?x4 ?x5 ?x6 aI ?_)
        case x1=>rfl
        case x2=>rfl
        case x3=>rfl
        case x4=>kernel_rfl
        case x5=>rfl
        case x6=>rfl
        refine ar_ (s:=2) (t:=81) rfl rfl G.o (by kernel_rfl) (by kernel_rfl) rfl ?_;exact⟨_,_,_,rfl,⟨fun h=>absurd h aA,fun h=>by rw [bZ.o] at h;simp at h⟩,aG.o⟩
      ·obtain rfl:i=n:=by omega
       have bT:Hd (∀ j,j<k+1 ->(dg_ N)[j]?=some true):=fun j hj=>by
        rcases Nat.lt_or_ge j k with h|h
        ·exact bB.o j h
        ·obtain rfl:j=k:=by omega
         rw [cE.o,hq.o]
       go_wp2
       go_roundw
       ·exact⟨k+1,by omega,by go_num,F,bT⟩
       ·simp [intOf];omega
    ·obtain rfl:k=7:=by omega
     have dC:Hd (a3_ N=true):=by
      show _=_;rw [<-gc_,List.all_eq_true];intro x hx;obtain⟨j,hj⟩:=List.getElem?_of_mem hx;have dM:j<7:=(List.getElem?_eq_some_iff.1 hj).1;have:=bB.o j dM;rw [hj] at this;cases this;rfl
     have R:=aU.o.keep (F.o.bel.block b1 (by have:=aB.o;have:=T.o;omega));obtain⟨G,S⟩:=R.row [.int .i64 0,.int .i64 0,.int .i64 0];obtain⟨wF,aI⟩:=e_ (wr.setRow b1 (List.toArray [.int .i64 0,.int .i64 0,.int .i64 0]));rw [aI] at G S;have Q:=aO.o.trans (F.o.bel.mono T.o.2.2);have aG:Hd (Below we.heap.size we wF):=Q.trans (S.below Q.size (m_ aB.o.2));have G:=H_ G;have aE:=H_ R;clear S Q R bB aK;go_wp2_with (with_reducible refine ac_ (.tmp 2) (.tmp 101) 81 (by with_reducible rfl) ?x1 ?x2 ?x3 aE.o ?x4 ?x5 ?x6 aI ?_)
     case x1=>rfl
     case x2=>rfl
     case x3=>rfl
     case x4=>kernel_rfl
     case x5=>rfl
     case x6=>rfl
     refine ar_ (s:=2) (t:=81) rfl rfl G.o (by kernel_rfl) (by kernel_rfl) rfl ?_;exact⟨_,_,_,rfl,⟨fun _=>by rw [dT.o,dC.o];rfl,fun _=>rfl⟩,aG.o⟩
