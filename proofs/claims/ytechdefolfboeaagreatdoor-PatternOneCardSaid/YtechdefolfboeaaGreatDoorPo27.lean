/- Merged. -/
import Derived.Sort.AtCallIn
import Derived.Test.YtechdefolfboeaaGreatDoorPo24
set_option linter.unusedVariables false
set_option linter.unusedSimpArgs false
set_option maxRecDepth 100000
set_option maxHeartbeats 2000000
namespace Go.Proofs.YtechdefolfboeaaGreatDoor.B
section
variable {P:Program} {r:Option Nat} {Q:Exit→Act→World→Prop} {md:Region.Mode} {ops:Array Oper} {w:World}
theorem wpOpIn_of_stOp (hnd:noDefer ops=true) {i:Nat} {a:Act} {K:Act→Prop} {K':Act→World→Prop} (h: ∀ a,K a→K' a w) (hh:stOp P ops w i K a):wpOpIn (wideR r) 0 P ops Q i K' a w:=by
 unfold stOp at hh;unfold wpOpIn;split
 ·rename_i ho;simp only [ho] at hh;exact h _ hh
 ·rename_i o ho;simp only [ho] at hh;split
  ·rename_i hw;simp only [hw,if_true] at hh;exact wpIn_of_wp (noDefer_at hnd ho) (Oper.wp_of_still h hh)
  ·rename_i hw;simp only [hw] at hh;exact⟨fun _ _=>trivial,h _ hh⟩
theorem wpAnyIn_of_head (hnd:noDefer ops=true) {n g:Nat} {L:Array Bool→Act→Prop} (hL: ∀ listed a,L listed a→wpAnyIn (wideR r) 0 P md ops Q g listed a w):
 ∀ (f:Nat) (listed:Array Bool) (a:Act),wpAnyL P md ops w n L f listed a→wpAnyIn (wideR r) 0 P md ops Q (f+g) listed a w
 |0,listed,a,h=>by rw [Nat.zero_add];exact hL _ _ h
 |f+1,listed,a,h=>by
  rw [show f+1+g=(f+g)+1 by omega];exact⟨fun h0=>absurd h0 h.1,fun i hi=>wpOpIn_of_stOp hnd (fun a' h'=>wpAnyIn_of_head hnd hL f _ a' h') (h.2 i hi).2⟩
theorem wpAnyIn_of_seq: ∀ (l:List Oper) (k:Nat) (listed:Array Bool) (a:Act) (w:World),(∀ j,l[j]?=ops[k+j]?)→
 Region.seqB md ops l.length k listed=true→wpListIn (wideR r) 0 P ops Q l a w→wpAnyIn (wideR r) 0 P md ops Q l.length listed a w
 |[],_,_,_,_,_,hB,h=>⟨by simpa [Region.seqB] using hB,h⟩
 |o::l,k,listed,a,w,hl,hB,h=>by
  have h0:ops[k]?=some o:=by simpa using (hl 0).symm
  simp only [List.length_cons,Region.seqB,Bool.and_eq_true,decide_eq_true_eq] at hB;refine⟨fun h1=>(by rw [hB.1] at h1;cases h1),fun i hi=>?_⟩;rw [hB.1] at hi;have hik:i=k:=by simpa using hi
  subst hik;have hw:wpOpIn (wideR r) 0 P ops Q i (wpListIn (wideR r) 0 P ops Q l) a w:=by unfold wpOpIn;simp only [h0];exact h
  exact wpOpIn_mono (fun a' w' h'=>wpAnyIn_of_seq l (i+1) _ a' w' (fun j=>by have:=hl (j+1);simpa [Nat.add_assoc,Nat.add_comm 1 j] using this) hB.2 h') hw
theorem tailIn_any {id:Nat} {a:Act} {w:World} {ol:List Oper} (n:Nat) (hm:P.follows .mixedOrders =true) (hB:Region.lexTailB .any ol.toArray n=true) (hnd:noDefer ol.toArray=true)
 (h:wpStill P ol.toArray w.drew (fun a'=>wpListIn (wideR r) 0 P ol.toArray Q (ol.drop n) a' w.drew) (ol.take n) a):(Code.region id ol.toArray true).wpIn (wideR r) 0 P Q a w:=by
 simp only [Region.lexTailB,Bool.and_eq_true,decide_eq_true_eq] at hB;obtain⟨⟨⟨⟨hsel,hn⟩,hs⟩,hc⟩,hlex⟩:=hB;have hn':n<ol.length:=by simpa using hn
 have htl:(ol.take n).length =n:=by simp;omega
 have hdl:(ol.drop n).length =ol.toArray.size-n:=by simp
 have inv0:HeadInv .any ol.toArray n (Array.replicate ol.toArray.size false):=
  ⟨by simp,fun j oj _ hl=>(by rw [getD_replicate_false] at hl;cases hl),fun t _ ht=>getD_in (by simpa using ht) (getD_replicate_false _ _)⟩
 have H:=wpAnyL_lex (md:= .any) (g:=ol.toArray.size-n) hsel hs hc hn (ol.take n) 0 _ a (fun j hj=>by
  have hj':j<n:=by rw [htl] at hj;exact hj
  simp [hj']) (by simpa using htl) inv0 (by rw [htl];exact hlex) h
 refine wpIn_region_any hm ?_
 have:=wpAnyIn_of_head (Q:=Q) (r:=r) hnd (g:=ol.toArray.size-n) (fun listed a' hL=>by
  have:=wpAnyIn_of_seq (md:= .any) (Q:=Q) (r:=r) (ol.drop n) n listed a' w.drew (fun j=>by simp [List.getElem?_drop]) (by rw [hdl];exact hL.1) hL.2
  rwa [hdl] at this) _ _ _ H
 rw [htl,show n+(ol.toArray.size-n)=ol.toArray.size by omega] at this;exact this
theorem tailIn_wide {id:Nat} {a:Act} {w:World} {ol:List Oper} (n:Nat) (hm:P.follows .mixedOrders =true) (hB:Region.lexTailB .any ol.toArray n=true) (hnd:noDefer ol.toArray=true)
 (h:wpStill P ol.toArray w.drew (fun a'=>wpListIn Fence.wide 0 P ol.toArray Q (ol.drop n) a' w.drew) (ol.take n) a):(Code.region id ol.toArray true).wpIn Fence.wide 0 P Q a w:=
 tailIn_any (r:=none) n hm hB hnd h
end
end Go.Proofs.YtechdefolfboeaaGreatDoor.B
namespace Go.Proofs.YtechdefolfboeaaGreatDoor
open Go.RowKit B K Go.Shelf
attribute [local go_sem] Oper.semAt_some
def conV (c:ConnP):Value:= .agg #[.int .i64 c.dep,.int .i64 c.arr,.int .i64 c.fr,.int .i64 c.to_,.int .i64 c.run,.int .i64 c.pos]
theorem turn_belowC {w wr W':World} {S:Nat→Prop} (hb:Below w.heap.size w wr) (hT:Turn (fun k=> ¬ k<w.heap.size∧ ¬ S k) wr W'):Below w.heap.size w W':=
 hb.trans (hT.toBelow hb.size fun k hk h=>h.1 hk)
def preR (M:WorldP) (L:List RunP) (k:Nat):List ConnP:=(List.range k).flatMap (ridesAt M L)
theorem preR_succ {M:WorldP} {L:List RunP} {k:Nat} {r:RunP} (h:L[k]?=some r):preR M L (k+1)=preR M L k++ridesOf (tripStops M r.trip) r.arr r.dep k:=by
 unfold preR;rw [List.range_succ,List.flatMap_append];simp only [List.flatMap_cons,List.flatMap_nil,List.append_nil]
 congr 1
 unfold ridesAt;rw [h]
theorem preR_all (M:WorldP) (L:List RunP):preR M L L.length=ridesL M L:=rfl
theorem preR_pre {M:WorldP} {L:List RunP}: ∀ (d k:Nat),k+d=L.length→preR M L k<+:ridesL M L
 |0,k,h=>by rw [←preR_all,show k=L.length by omega];exact List.prefix_refl _
 |d+1,k,h=>by
  have hk:L[k]?=some L[k]:=List.getElem?_eq_getElem (by omega);refine List.IsPrefix.trans ?_ (preR_pre d (k+1) (by omega));rw [preR_succ hk];exact List.prefix_append _ _
theorem preR_ride {M:WorldP} {L:List RunP} {k p:Nat} {r:RunP} (h:L[k]?=some r) (hp:p+1<(tripStops M r.trip).length):
 preR M L k++(ridesOf (tripStops M r.trip) r.arr r.dep k).take p++[rideC (tripStops M r.trip) r.arr r.dep k p]<+:ridesL M L:=by
 have hk:=(List.getElem?_eq_some_iff.1 h).1;refine List.IsPrefix.trans ?_ (preR_pre (L.length-(k+1)) (k+1) (by omega));rw [preR_succ h,List.append_assoc,←take_at (ridesOf_at hp)];exact(List.prefix_append_right_inj _).2 (List.take_prefix _ _)
theorem tripStops_len {M:WorldP} (hG:GoodW M) (t:Int):(tripStops M t).length ≤32:=by
 unfold tripStops;split
 ·simp
 ·split
  ·simp
  ·split
   ·simp
   ·rename_i r h;exact(hG.routes r (List.mem_of_getElem? h)).1.2
theorem rides_iter (M:WorldP) (V:WV) (b3 b2:Nat) (A:Option Addr) (n c:Nat) (L:List RunP) (w:World) (cA:w.cell? ⟨b3,0,none⟩=some (.slice A n c)) (hr:RW w M V) (hB:Bx w b2 31 [.int .i64 M.hz,.slice V.a0 V.n0 V.c0,.slice V.a1 V.n1 V.c1,.slice V.a2 V.n2 V.c2,.slice V.a3 V.n3 V.c3,.slice V.a4 V.n4 V.c4,.slice V.a5 V.n5 V.c5,.slice V.aP V.nP V.cP,.slice V.aD V.nD V.cD,.slice V.aR V.nR V.cR,.slice V.aT V.nT V.cT,.slice V.aH V.nH V.cH])
 (hG: ∀ q∈M.trips,0≤q.route∧q.route<(M.routes.length:Int)) (hf:Few M) (hL:RRuns w A n L) (hn:n≤100000) (hfit: ∀ r∈L,FitR M r):
 Iter Tryz.prog 101 #[.pointer (some ⟨b3,0,none⟩),.pointer (some ⟨b2,0,none⟩)] conV (ridesL M L) (fun k=>k<w.heap.size) (fun _=>False) w:=by
 intro Ly J Jx W hW h0 hst hstx hround;have hround:=H_ hround;have hst:=H_ hst;have hstx:=H_ hstx;rename_i hr1 hs1 hs2;clear hr1 hs1 hs2;have hll:=H_ hL.len;have l3:=World.block_lt_of_cell? w ⟨b3,0,none⟩ cA;have l2:=hB.lt;have cAW:=(hW.cell (p:=⟨b3,0,none⟩) l3).trans cA;have cAH:=H_ cA;have hBH:=H_ hB;have hLH:=H_ hL;have hst0:=H_ (fun(W:World) (h:Below w.heap.size w W) (t no:Int) (x1 x2:Option Addr) (m1 m2 d1 d2:Nat)=>cstops_at M V w W h hr hG hf t no x1 x2 m1 m2 d1 d2);have hle:=H_ (tripStops_le hf);have hfitH:=H_ hfit;have h0H:=H_ h0;have hWH:=H_ hW;obtain⟨a0,a1,a2,a3,a4,a5,aP,aD,aR,aT,aH,n0,n1,n2,n3,n4,n5,nP,nD,nR,nT,nH,c0,c1,c2,c3,c4,c5,cP,cD,cR,cT,cH⟩:=V;simp only [wVal] at*;clear cA hB hL hr hG hf hfit h0 hW;refine callsIn_of_wp Tryz.func101 rfl trivial ?_ rfl
 simp only [Tryz.ntmps101,List.size_toArray,List.length_cons,List.length_nil,Nat.reduceAdd,Nat.reduceSub,Array.replicate_succ,Array.replicate_zero,List.push_toArray,List.append_toArray,List.nil_append,List.cons_append]
 gi_wp2
 clear cAW
 gi_loopw [10] (fun i wr=> ∃ (k:Nat) (S:Nat→Prop),k≤n∧i= .int .i64 k∧Hid (J (preR M L k) S wr)∧Hid (∀ q,S q→w.heap.size≤q)∧Hid (Below w.heap.size w wr)) (fun i _=>n-(intOf i).toNat)
 case atStart=>exact⟨0,fun _=>False,Nat.zero_le _,rfl,h0H.out,fun _ h=>h.elim,hWH.out⟩
 case round=>
  clear h0H hWH;obtain⟨k,S,hk,rfl,hj,hS,hb⟩:=hrel;by_cases hlt:k<n
  ·have hltI:(k:Int)<(n:Int):=by omega
   obtain⟨b,o,r,A1,n1,d1,A2,n2,d2,rfl,hbs,hx,g0,g1,g2,g3,r1,r2,_,_⟩:=hLH.out.get hlt;have hft:=H_ (hfitH.out r (List.mem_of_getElem? hx));replace g0:=c_ hb.out hbs g0;replace g1:=c_ hb.out hbs g1;replace g2:=c_ hb.out hbs g2;replace g3:=c_ hb.out hbs g3;obtain⟨ms,hms⟩: ∃ ms,(tripStops M r.trip).length =ms+1:=⟨(tripStops M r.trip).length -1,by have:=hft.out.pos;omega⟩
   have hmsH:=H_ hms;have hmb:ms≤100000:=by have:=hle.out r.trip;omega
   have e1:n1=ms+1:=by rw [←r1.len,hft.out.la,hms]
   have e2:n2=ms+1:=by rw [←r2.len,hft.out.ld,hms]
   subst e1 e2;have r1H:=H_ r1;have r2H:=H_ r2;have hxH:=H_ hx;obtain⟨wa,ba,hwa,hbaE,hbwa,Bwa⟩:=box1 wr 47 [.int .i64 r.trip,.int .i64 r.no,.slice A1 (ms+1) d1,.slice A2 (ms+1) d2];have hbw:Hid (Below w.heap.size w wa):=b_ hb hbwa;obtain⟨p0,p1,p2,p3⟩:=c_4 Bwa;obtain⟨y0,y1,y2,y3,y4,y5,y6,y7,y8,y9,y10,y11⟩:=d_12 hbw.out l2 hBH.out;have hcs:=H_ (hst0.out wa hbw.out r.trip r.no A1 A2 (ms+1) (ms+1) d1 d2);have BwaH:=H_ Bwa;have hbwaH:=H_ hbwa;have hbae:Hid (wr.heap.size=ba):=hbaE;have la:=Bwa.lt;clear hms r1 r2 hx hbs Bwa hbwa
   gi_wp2
   refine⟨trivial,rfl,?_⟩;refine((callsIn_wide (n:=0)).2 hcs.out).mono ?_;rintro e w3 ⟨As,ns,ds,rfl,r3,hb3⟩;have e3:ns=ms+1:=by rw [←r3.len,hmsH.out]
   subst e3;have rsH:=H_ r3;have hS':Hid (∀ q,(S q∨q=ba)→w.heap.size≤q):=fun q hq=>hq.elim (hS.out q) fun e=>by have:=hb.out.size;have:=hbae.out;omega
   have hj3:Hid (J (preR M L k) (fun q=>S q∨q=ba) w3):=hst.out _ _ _ _ _ hj.out ⟨Below.toTurn (b_ hbwaH hb3) (fun q h1 h2=>by omega),fun q h=> .inl h,fun q h=>h.elim .inl fun e=> .inr (by have:=hbae.out;have:=hb3.size;omega)⟩;have hbx3:Hid (Bx w3 ba 47 [.int .i64 r.trip,.int .i64 r.no,.slice A1 (ms+1) d1,.slice A2 (ms+1) d2]):=BwaH.out.below hb3;have hb3w:Hid (Below w.heap.size w w3):=b_ hbw hb3;have hwaH:=H_ hwa;clear r3 hb3 hj hwa hbaE p0 p1 p2 p3 y0 y1 y2 y3 y4 y5 y6 y7 y8 y9 y10 y11
   gi_wp2
   gi_loopw [21] (fun i wr=> ∃ p:Nat,p≤ms∧i= .int .i64 p∧Hid (J (preR M L k++(ridesOf (tripStops M r.trip) r.arr r.dep k).take p) (fun q=>S q∨q=ba) wr)∧Hid (Below w.heap.size w wr)∧Hid (Bx wr ba 47 [.int .i64 r.trip,.int .i64 r.no,.slice A1 (ms+1) d1,.slice A2 (ms+1) d2])) (fun i _=>ms-(intOf i).toNat)
   case atStart=>exact⟨0,Nat.zero_le _,rfl,by show J _ _ _;rw [List.take_zero,List.append_nil];exact hj3.out,hb3w,hbx3⟩
   case round=>
    clear hj3 hb3w hbx3;obtain⟨p,hp,rfl,hjp,hbq,hbx⟩:=hrel;by_cases hpl:p<ms
    ·have hpI:(p:Int)<(ms:Int):=by omega
     have hp1:(p:Int)<(ms:Int)+1:=by omega
     have hp2:(p:Int)+1<(ms:Int)+1:=by omega
     obtain⟨bd,od,d,rfl,hbd,hd,gd⟩:=r2H.out.num (show p<ms+1 by omega);obtain⟨bA,oA,a,rfl,hbA,ha,ga⟩:=r1H.out.num (show p+1<ms+1 by omega);obtain⟨bs,os,f,rfl,hbs,hf,gf⟩:=rsH.out.num (show p<ms+1 by omega);obtain⟨_,_,tt,hq,_,ht,gt⟩:=rsH.out.num (show p+1<ms+1 by omega);cases hq;replace gd:=c_ hbq.out hbd gd;replace ga:=c_ hbq.out hbA ga;replace gf:=c_ hbq.out hbs gf;replace gt:=c_ hbq.out hbs gt;have q2:=hbx.out.cell 2 rfl;have q3:=hbx.out.cell 3 rfl;have hride:rideC (tripStops M r.trip) r.arr r.dep k p=⟨d,a,f,tt,k,p⟩:=by unfold rideC;rw [hd,ha,hf,ht];rfl
     have hpt:p+1<(tripStops M r.trip).length :=by have:=hmsH.out;omega
     have hpre:=preR_ride hxH.out hpt
     have htk:Hid (preR M L k++(ridesOf (tripStops M r.trip) r.arr r.dep k).take (p+1)=preR M L k++(ridesOf (tripStops M r.trip) r.arr r.dep k).take p++[⟨d,a,f,tt,k,p⟩]):=by
      show _=_;rw [take_at (ridesOf_at hpt),hride,List.append_assoc]
     rw [hride] at hpre;have hJ:=hst.out _ _ _ _ _ hjp.out (Step.same ((Turn.refl (fun q=>S q∨q=ba) wr).drew));obtain⟨fn,tmps,assign,body,hy,hR⟩:=hround.out _ _ _ wr.drew hJ hpre;have hR:=H_ hR;have hpreH:=H_ hpre
     dsimp only [conV] at hy
     clear hJ hpre hride hpt hd ha hf ht hbd hbA hbs
     gi_wp2
     have hv1:IntKind.i64.wrap ((p:Int)+1)=(p:Int)+1:=IntWalk.i64_in _ (by omega);have hv2:(0:Int)≤(p:Int)+1:=by omega
     have hv3:((p:Int)+1).toNat =p+1:=by omega
     refine tailIn_wide 24 (by kernel_rfl) (by kernel_rfl) (by kernel_rfl) ?_;simp only [List.take_succ_cons,List.take_zero,List.drop_succ_cons,List.drop_zero]
     iterate 24 still_step
     refine wpStill_nil ?_
     gi_wp2
     refine⟨rfl,?_⟩;refine RoundIn.mono hR.out ?_;rintro e W' (⟨rfl,hj',hT⟩|⟨rfl,hj',hT⟩)
     ·have hbq':Hid (Below w.heap.size w W'):=turn_belowC (S:=fun q=>S q∨q=ba) (hbq.out.drew) hT;have hbx':Hid (Bx W' ba 47 [.int .i64 r.trip,.int .i64 r.no,.slice (some ⟨bA,oA,none⟩) (ms+1) d1,.slice (some ⟨bd,od,none⟩) (ms+1) d2]):=(hT.block ba hbx.out.lt fun h=>h.2 (.inr rfl)).trans hbx.out;have hj9:Hid (J (preR M L k++(ridesOf (tripStops M r.trip) r.arr r.dep k).take (p+1)) (fun q=>S q∨q=ba) W'):=by show J _ _ _;rw [htk.out];exact hj'
      clear hj' hT
      gi_wp2
      go_roundw
      case rel=>exact⟨p+1,by omega,by go_num,hj9,hbq',hbx'⟩
      case measure=>simp [intOf];omega
     ·have hj9:=H_ hj';clear hj' hT
      gi_wp2
      refine bodyPost_ret (results_none rfl _ _ _) rfl ?_;exact⟨⟨_,rfl⟩,fun q=>S q∨q=ba,.inr ⟨_,hpreH.out,hj9.out⟩⟩
    ·obtain rfl:p=ms:=by omega
     have hj9:Hid (J (preR M L (k+1)) (fun q=>S q∨q=ba) wr):=by
      show J _ _ _;have h:=hjp.out;rw [List.take_of_length_le (by rw [ridesOf_len,hmsH.out];omega)] at h;rw [preR_succ hxH.out];exact h
     gi_wp2
     go_roundw
     case rel=>exact⟨k+1,fun q=>S q∨q=ba,by omega,by go_num,hj9,hS',hbq⟩
     case measure=>simp [intOf];omega
  ·have hj9:Hid (J (ridesL M L) S wr):=by
    show J _ _ _;have h:=hj.out;rw [show k=L.length by have:=hll.out;omega] at h;exact h
   gi_wp2
   refine bodyPost_end (results_none rfl _ _ _) rfl ?_;exact⟨⟨_,rfl⟩,S,.inl hj9.out⟩
