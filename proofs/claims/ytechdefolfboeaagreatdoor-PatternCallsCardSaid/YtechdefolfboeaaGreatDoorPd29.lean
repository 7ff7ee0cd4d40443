/- Merged. -/
import Derived.Sort.AtCallIn
import Derived.Test.YtechdefolfboeaaGreatDoorPd24
set_option linter.unusedVariables false
set_option linter.unusedSimpArgs false
set_option maxRecDepth 100000
set_option maxHeartbeats 2000000
namespace Go.Proofs.YtechdefolfboeaaGreatDoor.B
section
variable {P:Program} {r:Option Nat} {Q:Exit ->Act ->World ->Prop} {md:Region.Mode} {ops:Array Oper} {w:World}
theorem hK_ (hnd:cM_ ops=true) {i:Nat} {a:Act} {K:Act ->Prop} {K':Act ->World ->Prop} (h: ∀ a,K a ->K' a w) (hh:stOp P ops w i K a):wpOpIn (dm_ r) 0 P ops Q i K' a w:=by
 unfold stOp at hh;unfold wpOpIn;split
 ·rename_i f;simp only [f] at hh;exact h _ hh
 ·rename_i o f;simp only [f] at hh;split
  ·rename_i g;simp only [g,if_true] at hh;exact hr_ (g3_ hnd f) (Oper.wp_of_still h hh)
  ·rename_i g;simp only [g] at hh;exact⟨fun _ _=>trivial,h _ hh⟩
theorem eJ_ (hnd:cM_ ops=true) {n g:Nat} {L:Array Bool ->Act ->Prop} (hL: ∀ listed a,L listed a ->wpAnyIn (dm_ r) 0 P md ops Q g listed a w):
 ∀ (f:Nat) (listed:Array Bool) (a:Act),wpAnyL P md ops w n L f listed a ->wpAnyIn (dm_ r) 0 P md ops Q (f+g) listed a w
 |0,listed,a,h=>by rw [Nat.zero_add];exact hL _ _ h
 |f+1,listed,a,h=>by
  rw [show f+1+g=(f+g)+1 by omega];exact⟨fun h0=>absurd h0 h.1,fun i hi=>hK_ hnd (fun a' h'=>eJ_ hnd hL f _ a' h') (h.2 i hi).2⟩
theorem e1_: ∀ (l:List Oper) (k:Nat) (listed:Array Bool) (a:Act) (w:World),(∀ j,l[j]?=ops[k+j]?) ->
 Region.seqB md ops l.length k listed=true ->wpListIn (dm_ r) 0 P ops Q l a w ->wpAnyIn (dm_ r) 0 P md ops Q l.length listed a w
 |[],_,_,_,_,_,hB,h=>⟨by simpa [Region.seqB] using hB,h⟩
 |o::l,k,listed,a,w,hl,hB,h=>by
  have h0:ops[k]?=some o:=by simpa using (hl 0).symm
  simp only [List.length_cons,Region.seqB,Bool.and_eq_true,decide_eq_true_eq] at hB;refine⟨fun g=>(by rw [hB.1] at g;cases g),fun i n=>?_⟩;rw [hB.1] at n;have f:i=k:=by simpa using n
  subst f;have y:wpOpIn (dm_ r) 0 P ops Q i (wpListIn (dm_ r) 0 P ops Q l) a w:=by unfold wpOpIn;simp only [h0];exact h
  exact wpOpIn_mono (fun p z q=>e1_ l (i+1) _ p z (fun j=>by have:=hl (j+1);simpa [Nat.add_assoc,Nat.add_comm 1 j] using this) hB.2 q) y
theorem lB_ {id:Nat} {a:Act} {w:World} {ol:List Oper} (n:Nat) (hm:P.follows .mixedOrders =true) (hB:Region.lexTailB .any ol.toArray n=true) (hnd:cM_ ol.toArray=true)
 (h:wpStill P ol.toArray w.drew (fun a'=>wpListIn (dm_ r) 0 P ol.toArray Q (ol.drop n) a' w.drew) (ol.take n) a):(Code.region id ol.toArray true).wpIn (dm_ r) 0 P Q a w:=by
 simp only [Region.lexTailB,Bool.and_eq_true,decide_eq_true_eq] at hB;obtain⟨⟨⟨⟨z,M⟩,R⟩,N⟩,y⟩:=hB;have aA:n<ol.length:=by simpa using M
 have f:(ol.take n).length =n:=by simp;omega
 have q:(ol.drop n).length =ol.toArray.size-n:=by simp
 have D:HeadInv .any ol.toArray n (Array.replicate ol.toArray.size false):=
  ⟨by simp,fun j oj _ L=>(by rw [getD_replicate_false] at L;cases L),fun t _ S=>getD_in (by simpa using S) (getD_replicate_false _ _)⟩
 have H:=wpAnyL_lex (md:= .any) (g:=ol.toArray.size-n) z R N M (ol.take n) 0 _ a (fun j J=>by
  have F:j<n:=by rw [f] at J;exact J
  simp [F]) (by simpa using f) D (by rw [f];exact y) h
 refine wpIn_region_any hm ?_
 have:=eJ_ (Q:=Q) (r:=r) hnd (g:=ol.toArray.size-n) (fun p a' G=>by
  have:=e1_ (md:= .any) (Q:=Q) (r:=r) (ol.drop n) n p a' w.drew (fun j=>by simp [List.getElem?_drop]) (by rw [q];exact G.1) G.2
  rwa [q] at this) _ _ _ H
 rw [f,show n+(ol.toArray.size-n)=ol.toArray.size by omega] at this;exact this
theorem ka_ {id:Nat} {a:Act} {w:World} {ol:List Oper} (n:Nat) (hm:P.follows .mixedOrders =true) (hB:Region.lexTailB .any ol.toArray n=true) (hnd:cM_ ol.toArray=true)
 (h:wpStill P ol.toArray w.drew (fun a'=>wpListIn Fence.wide 0 P ol.toArray Q (ol.drop n) a' w.drew) (ol.take n) a):(Code.region id ol.toArray true).wpIn Fence.wide 0 P Q a w:=
 lB_ (r:=none) n hm hB hnd h
end
end Go.Proofs.YtechdefolfboeaaGreatDoor.B
namespace Go.Proofs.YtechdefolfboeaaGreatDoor
open Go.RowKit B K Go.Shelf
attribute [local go_sem] Oper.semAt_some
def conV (c:aC_):Value:= .agg #[.int .i64 c.dep,.int .i64 c.arr,.int .i64 c.fr,.int .i64 c.to_,.int .i64 c.run,.int .i64 c.pos]
theorem kc_ {w wr W':World} {S:Nat ->Prop} (hb:Below w.heap.size w wr) (hT:Turn (fun k=> ¬ k<w.heap.size/\ ¬ S k) wr W'):Below w.heap.size w W':=
 hb.trans (hT.toBelow hb.size fun k f h=>h.1 f)
def preR (M:ab_) (L:List RunP) (k:Nat):List aC_:=(List.range k).flatMap (dz_ M L)
theorem fQ_ {M:ab_} {L:List RunP} {k:Nat} {r:RunP} (h:L[k]?=some r):preR M L (k+1)=preR M L k++ck_ (ak_ M r.trip) r.arr r.dep k:=by
 unfold preR;rw [List.range_succ,List.flatMap_append];simp only [List.flatMap_cons,List.flatMap_nil,List.append_nil]
 congr 1
 unfold dz_;rw [h]
theorem og_ (M:ab_) (L:List RunP):preR M L L.length=cp_ M L:=rfl
theorem jb_ {M:ab_} {L:List RunP}: ∀ (d k:Nat),k+d=L.length ->preR M L k<+:cp_ M L
 |0,k,h=>by rw [<-og_,show k=L.length by omega];exact List.prefix_refl _
 |d+1,k,h=>by
  have hk:L[k]?=some L[k]:=List.getElem?_eq_getElem (by omega);refine List.IsPrefix.trans ?_ (jb_ d (k+1) (by omega));rw [fQ_ hk];exact List.prefix_append _ _
theorem mQ_ {M:ab_} {L:List RunP} {k p:Nat} {r:RunP} (h:L[k]?=some r) (hp:p+1<(ak_ M r.trip).length):
 preR M L k++(ck_ (ak_ M r.trip) r.arr r.dep k).take p++[d2_ (ak_ M r.trip) r.arr r.dep k p]<+:cp_ M L:=by
 have hk:=(List.getElem?_eq_some_iff.1 h).1;refine List.IsPrefix.trans ?_ (jb_ (L.length-(k+1)) (k+1) (by omega));rw [fQ_ h,List.append_assoc, <-an_ (hb_ hp)];exact(List.prefix_append_right_inj _).2 (List.take_prefix _ _)
theorem iw_ {M:ab_} (hG:gJ_ M) (t:Int):(ak_ M t).length <=32:=by
 unfold ak_;split
 ·simp
 ·split
  ·simp
  ·split
   ·simp
   ·rename_i r h;exact(hG.routes r (List.mem_of_getElem? h)).1.2
theorem lr_ (M:ab_) (V:WV) (b3 b2:Nat) (A:Option Addr) (n c:Nat) (L:List RunP) (w:World) (cA:w.cell? ⟨b3,0,none⟩=some (.slice A n c)) (hr:RW w M V) (hB:Bx w b2 31 [.int .i64 M.hz,.slice V.a0 V.n0 V.c0,.slice V.a1 V.n1 V.c1,.slice V.a2 V.n2 V.c2,.slice V.a3 V.n3 V.c3,.slice V.a4 V.n4 V.c4,.slice V.a5 V.n5 V.c5,.slice V.aP V.nP V.cP,.slice V.aD V.nD V.cD,.slice V.aR V.nR V.cR,.slice V.aT V.nT V.cT,.slice V.aH V.nH V.cH])
 (hG: ∀ q∈M.trips,0<=q.route/\q.route<(M.routes.length:Int)) (hf:Few M) (hL:be_ w A n L) (hn:n<=100000) (hfit: ∀ r∈L,FitR M r):
 Iter Tryz.prog 101 #[.pointer (some ⟨b3,0,none⟩),.pointer (some ⟨b2,0,none⟩)] conV (cp_ M L) (fun k=>k<w.heap.size) (fun _=>False) w:=by
 intro Ly J Jx W hW h0 Z aE y;have y:=H_ y;have Z:=H_ Z;have aE:=H_ aE;rename_i bM bN bO;clear bM bN bO;have bK:=H_ hL.len;have l3:=World.block_lt_of_cell? w ⟨b3,0,none⟩ cA;have l2:=hB.lt;have bE:=(hW.cell (p:=⟨b3,0,none⟩) l3).trans cA;have bY:=H_ cA;have bF:=H_ hB;have bG:=H_ hL;have aY:=H_ (fun(W:World) (h:Below w.heap.size w W) (t no:Int) (x1 x2:Option Addr) (m1 m2 d1 d2:Nat)=>hP_ M V w W h hr hG hf t no x1 x2 m1 m2 d1 d2);have bJ:=H_ (db_ hf);have aI:=H_ hfit;have aN:=H_ h0;have aO:=H_ hW;obtain⟨a0,a1,a2,a3,a4,a5,aP,aD,aR,aT,aH,n0,n1,n2,n3,n4,n5,nP,nD,nR,nT,nH,c0,c1,c2,c3,c4,c5,cP,cD,cR,cT,cH⟩:=V;simp only [wVal] at*;clear cA hB hL hr hG hf hfit h0 hW;refine callsIn_of_wp Tryz.func101 rfl trivial ?_ rfl
 simp only [Tryz.ntmps101,List.size_toArray,List.length_cons,List.length_nil,Nat.reduceAdd,Nat.reduceSub,Array.replicate_succ,Array.replicate_zero,List.push_toArray,List.append_toArray,List.nil_append,List.cons_append]
 gi_wp2
 clear bE
 gi_loopw [10] (fun i wr=> ∃ (k:Nat) (S:Nat ->Prop),k<=n/\i= .int .i64 k/\Hd (J (preR M L k) S wr)/\Hd (∀ q,S q ->w.heap.size<=q)/\Hd (Below w.heap.size w wr)) (fun i _=>n-(intOf i).toNat)
 ·exact⟨0,fun _=>False,Nat.zero_le _,rfl,aN.o,fun _ h=>h.elim,aO.o⟩
 ·clear aN aO;obtain⟨k,S,hk,rfl,hj,hS,hb⟩:=hrel;by_cases bL:k<n
  ·have bV:(k:Int)<(n:Int):=by omega
   obtain⟨b,o,r,A1,n1,d1,A2,n2,d2,rfl,j,hx,g0,g1,g2,g3,r1,r2,_,_⟩:=bG.o.get bL;have aJ:=H_ (aI.o r (List.mem_of_getElem? hx));replace g0:=c_ hb.o j g0;replace g1:=c_ hb.o j g1;replace g2:=c_ hb.o j g2;replace g3:=c_ hb.o j g3;obtain⟨g,Y⟩: ∃ g,(ak_ M r.trip).length =g+1:=⟨(ak_ M r.trip).length -1,by have:=aJ.o.pos;omega⟩
   have T:=H_ Y;have bZ:g<=100000:=by have:=bJ.o r.trip;omega
   have e1:n1=g+1:=by rw [<-r1.len,aJ.o.la,Y]
   have e2:n2=g+1:=by rw [<-r2.len,aJ.o.ld,Y]
   subst e1 e2;have bQ:=H_ r1;have bR:=H_ r2;have bB:=H_ hx;obtain⟨wa,F,aZ,aA,Q,U⟩:=box1 wr 47 [.int .i64 r.trip,.int .i64 r.no,.slice A1 (g+1) d1,.slice A2 (g+1) d2];have aF:Hd (Below w.heap.size w wa):=b_ hb Q;obtain⟨p0,p1,p2,p3⟩:=c_4 U;obtain⟨y0,y1,y2,y3,y4,y5,y6,y7,y8,y9,bS,bT⟩:=d_12 aF.o l2 bF.o;have bI:=H_ (aY.o wa aF.o r.trip r.no A1 A2 (g+1) (g+1) d1 d2);have aM:=H_ U;have aG:=H_ Q;have aB:Hd (wr.heap.size=F):=aA;have la:=U.lt;clear Y r1 r2 hx j U Q
   gi_wp2
   refine⟨trivial,rfl,?_⟩;refine((callsIn_wide (n:=0)).2 bI.o).mono ?_;rintro e w3 ⟨As,ns,ds,rfl,r3,P⟩;have e3:ns=g+1:=by rw [<-r3.len,T.o]
   subst e3;have bC:=H_ r3;have bH:Hd (∀ q,(S q∨q=F) ->w.heap.size<=q):=fun q hq=>hq.elim (hS.o q) fun e=>by have:=hb.o.size;have:=aB.o;omega
   have aW:Hd (J (preR M L k) (fun q=>S q∨q=F) w3):=Z.o _ _ _ _ _ hj.o ⟨Below.toTurn (b_ aG P) (fun q h1 h2=>by omega),fun q h=> .inl h,fun q h=>h.elim .inl fun e=> .inr (by have:=aB.o;have:=P.size;omega)⟩;have aC:Hd (Bx w3 F 47 [.int .i64 r.trip,.int .i64 r.no,.slice A1 (g+1) d1,.slice A2 (g+1) d2]):=aM.o.below P;have s:Hd (Below w.heap.size w w3):=b_ aF P;have bW:=H_ aZ;clear r3 P hj aZ aA p0 p1 p2 p3 y0 y1 y2 y3 y4 y5 y6 y7 y8 y9 bS bT
   gi_wp2
   gi_loopw [21] (fun i wr=> ∃ p:Nat,p<=g/\i= .int .i64 p/\Hd (J (preR M L k++(ck_ (ak_ M r.trip) r.arr r.dep k).take p) (fun q=>S q∨q=F) wr)/\Hd (Below w.heap.size w wr)/\Hd (Bx wr F 47 [.int .i64 r.trip,.int .i64 r.no,.slice A1 (g+1) d1,.slice A2 (g+1) d2])) (fun i _=>g-(intOf i).toNat)
   ·exact⟨0,Nat.zero_le _,rfl,by show J _ _ _;rw [List.take_zero,List.append_nil];exact aW.o,s,aC⟩
   ·clear aW s aC;obtain⟨p,hp,rfl,aX,N,X⟩:=hrel;by_cases cF:p<g
    ·have cE:(p:Int)<(g:Int):=by omega
     have cB:(p:Int)<(g:Int)+1:=by omega
     have cC:(p:Int)+1<(g:Int)+1:=by omega
     obtain⟨bd,od,d,rfl,aS,hd,gd⟩:=bR.o.num (show p<g+1 by omega);obtain⟨bA,oA,a,rfl,aQ,ha,ga⟩:=bQ.o.num (show p+1<g+1 by omega);obtain⟨bs,os,f,rfl,j,hf,gf⟩:=bC.o.num (show p<g+1 by omega);obtain⟨_,_,tt,hq,_,ht,gt⟩:=bC.o.num (show p+1<g+1 by omega);cases hq;replace gd:=c_ N.o aS gd;replace ga:=c_ N.o aQ ga;replace gf:=c_ N.o j gf;replace gt:=c_ N.o j gt;have q2:=X.o.cell 2 rfl;have q3:=X.o.cell 3 rfl;have D:d2_ (ak_ M r.trip) r.arr r.dep k p=⟨d,a,f,tt,k,p⟩:=by unfold d2_;rw [hd,ha,hf,ht];rfl
     have aL:p+1<(ak_ M r.trip).length :=by have:=T.o;omega
     have G:=mQ_ bB.o aL
     have bP:Hd (preR M L k++(ck_ (ak_ M r.trip) r.arr r.dep k).take (p+1)=preR M L k++(ck_ (ak_ M r.trip) r.arr r.dep k).take p++[⟨d,a,f,tt,k,p⟩]):=by
      show _=_;rw [an_ (hb_ aL),D,List.append_assoc]
     rw [D] at G;have hJ:=Z.o _ _ _ _ _ aX.o (Step.same ((Turn.refl (fun q=>S q∨q=F) wr).drew));obtain⟨fn,bX,bD,bU,hy,hR⟩:=y.o _ _ _ wr.drew hJ G;have hR:=H_ hR;have aK:=H_ G
     dsimp only [conV] at hy
     clear hJ G D aL hd ha hf ht aS aQ j
     gi_wp2
     have cG:IntKind.i64.wrap ((p:Int)+1)=(p:Int)+1:=IntWalk.i64_in _ (by omega);have cI:(0:Int)<=(p:Int)+1:=by omega
     have cJ:((p:Int)+1).toNat =p+1:=by omega
     refine ka_ 24 (by kernel_rfl) (by kernel_rfl) (by kernel_rfl) ?_;simp only [List.take_succ_cons,List.take_zero,List.drop_succ_cons,List.drop_zero]
     iterate 24 still_step
     refine wpStill_nil ?_
     gi_wp2
     refine⟨rfl,?_⟩;refine RoundIn.mono hR.o ?_;rintro e W' (⟨rfl,R,hT⟩|⟨rfl,R,hT⟩)
     ·have aU:Hd (Below w.heap.size w W'):=kc_ (S:=fun q=>S q∨q=F) (N.o.drew) hT;have aV:Hd (Bx W' F 47 [.int .i64 r.trip,.int .i64 r.no,.slice (some ⟨bA,oA,none⟩) (g+1) d1,.slice (some ⟨bd,od,none⟩) (g+1) d2]):=(hT.block F X.o.lt fun h=>h.2 (.inr rfl)).trans X.o;have z:Hd (J (preR M L k++(ck_ (ak_ M r.trip) r.arr r.dep k).take (p+1)) (fun q=>S q∨q=F) W'):=by show J _ _ _;rw [bP.o];exact R
      clear R hT
      gi_wp2
      go_roundw
      ·exact⟨p+1,by omega,by go_num,z,aU,aV⟩
      ·simp [intOf];omega
     ·have z:=H_ R;clear R hT
      gi_wp2
      refine bodyPost_ret (results_none rfl _ _ _) rfl ?_;exact⟨⟨_,rfl⟩,fun q=>S q∨q=F,.inr ⟨_,aK.o,z.o⟩⟩
    ·obtain rfl:p=g:=by omega
     have z:Hd (J (preR M L (k+1)) (fun q=>S q∨q=F) wr):=by
      show J _ _ _;have h:=aX.o;rw [List.take_of_length_le (by rw [gn_,T.o];omega)] at h;rw [fQ_ bB.o];exact h
     gi_wp2
     go_roundw
     ·exact⟨k+1,fun q=>S q∨q=F,by omega,by go_num,z,bH,N⟩
     ·simp [intOf];omega
  ·have z:Hd (J (cp_ M L) S wr):=by
    show J _ _ _;have h:=hj.o;rw [show k=L.length by have:=bK.o;omega] at h;exact h
   gi_wp2
   refine bodyPost_end (results_none rfl _ _ _) rfl ?_;exact⟨⟨_,rfl⟩,S,.inl z.o⟩
