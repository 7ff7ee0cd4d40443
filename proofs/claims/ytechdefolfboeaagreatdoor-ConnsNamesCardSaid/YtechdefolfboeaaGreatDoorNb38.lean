/- Texts of one chain, merged. -/
import Derived.Test.YtechdefolfboeaaGreatDoorNb8
namespace Go.Proofs.YtechdefolfboeaaGreatDoor
namespace B
section
variable {P:Program} {r:Option Nat} {Q:Exit→Act→World→Prop} {md:Region.Mode} {ops:Array Oper} {w:World}
theorem wpOpIn_of_stOp (hnd:noDefer ops=true) {i:Nat} {a:Act} {K:Act→Prop} {K':Act→World→Prop} (h: ∀ a,K a→K' a w) (hh:stOp P ops w i K a):wpOpIn (wideR r) 0 P ops Q i K' a w:=by
 unfold stOp at hh
 unfold wpOpIn
 split
 ·rename_i ho;simp only [ho] at hh;exact h _ hh
 ·rename_i o ho
  simp only [ho] at hh
  split
  ·rename_i hw;simp only [hw,if_true] at hh;exact wpIn_of_wp (noDefer_at hnd ho) (Oper.wp_of_still h hh)
  ·rename_i hw;simp only [hw] at hh;exact⟨fun _ _=>trivial,h _ hh⟩
theorem wpAnyIn_of_head (hnd:noDefer ops=true) {n g:Nat} {L:Array Bool→Act→Prop} (hL: ∀ listed a,L listed a→wpAnyIn (wideR r) 0 P md ops Q g listed a w):
 ∀ (f:Nat) (listed:Array Bool) (a:Act),wpAnyL P md ops w n L f listed a→wpAnyIn (wideR r) 0 P md ops Q (f+g) listed a w
 |0,listed,a,h=>by rw [Nat.zero_add];exact hL _ _ h
 |f+1,listed,a,h=>by
  rw [show f+1+g=(f+g)+1 by omega]
  exact⟨fun h0=>absurd h0 h.1,fun i hi=>wpOpIn_of_stOp hnd (fun a' h'=>wpAnyIn_of_head hnd hL f _ a' h') (h.2 i hi).2⟩
theorem wpAnyIn_of_seq: ∀ (l:List Oper) (k:Nat) (listed:Array Bool) (a:Act) (w:World),(∀ j,l[j]?=ops[k+j]?)→
 Region.seqB md ops l.length k listed=true→wpListIn (wideR r) 0 P ops Q l a w→wpAnyIn (wideR r) 0 P md ops Q l.length listed a w
 |[],_,_,_,_,_,hB,h=>⟨by simpa [Region.seqB] using hB,h⟩
 |o::l,k,listed,a,w,hl,hB,h=>by
  have h0:ops[k]?=some o:=by simpa using (hl 0).symm
  simp only [List.length_cons,Region.seqB,Bool.and_eq_true,decide_eq_true_eq] at hB
  refine⟨fun h1=>(by rw [hB.1] at h1;cases h1),fun i hi=>?_⟩
  rw [hB.1] at hi
  have hik:i=k:=by simpa using hi
  subst hik
  have hw:wpOpIn (wideR r) 0 P ops Q i (wpListIn (wideR r) 0 P ops Q l) a w:=by unfold wpOpIn;simp only [h0];exact h
  exact wpOpIn_mono (fun a' w' h'=>wpAnyIn_of_seq l (i+1) _ a' w' (fun j=>by have:=hl (j+1);simpa [Nat.add_assoc,Nat.add_comm 1 j] using this) hB.2 h') hw
theorem tailIn_any {id:Nat} {a:Act} {w:World} {ol:List Oper} (n:Nat) (hm:P.follows .mixedOrders =true) (hB:Region.lexTailB .any ol.toArray n=true) (hnd:noDefer ol.toArray=true)
 (h:wpStill P ol.toArray w.drew (fun a'=>wpListIn (wideR r) 0 P ol.toArray Q (ol.drop n) a' w.drew) (ol.take n) a):(Code.region id ol.toArray true).wpIn (wideR r) 0 P Q a w:=by
 simp only [Region.lexTailB,Bool.and_eq_true,decide_eq_true_eq] at hB
 obtain⟨⟨⟨⟨hsel,hn⟩,hs⟩,hc⟩,hlex⟩:=hB
 have hn':n<ol.length:=by simpa using hn
 have htl:(ol.take n).length =n:=by simp;omega
 have hdl:(ol.drop n).length =ol.toArray.size-n:=by simp
 have inv0:HeadInv .any ol.toArray n (Array.replicate ol.toArray.size false):=
  ⟨by simp,fun j oj _ hl=>(by rw [getD_replicate_false] at hl;cases hl),fun t _ ht=>getD_in (by simpa using ht) (getD_replicate_false _ _)⟩
 have H:=wpAnyL_lex (md:= .any) (g:=ol.toArray.size-n) hsel hs hc hn (ol.take n) 0 _ a (fun j hj=>by
  have hj':j<n:=by rw [htl] at hj;exact hj
  simp [hj']) (by simpa using htl) inv0 (by rw [htl];exact hlex) h
 refine wpIn_region_any hm ?_
 have:=wpAnyIn_of_head (Q:=Q) (r:=r) hnd (g:=ol.toArray.size-n) (fun listed a' hL=>by
  have:=wpAnyIn_of_seq (md:= .any) (Q:=Q) (r:=r) (ol.drop n) n listed a' w.drew (fun j=>by simp [List.getElem?_drop]) (by rw [hdl];exact hL.1) hL.2
  rwa [hdl] at this) _ _ _ H
 rw [htl,show n+(ol.toArray.size-n)=ol.toArray.size by omega] at this
 exact this
theorem tailIn_wide {id:Nat} {a:Act} {w:World} {ol:List Oper} (n:Nat) (hm:P.follows .mixedOrders =true) (hB:Region.lexTailB .any ol.toArray n=true) (hnd:noDefer ol.toArray=true)
 (h:wpStill P ol.toArray w.drew (fun a'=>wpListIn Fence.wide 0 P ol.toArray Q (ol.drop n) a' w.drew) (ol.take n) a):(Code.region id ol.toArray true).wpIn Fence.wide 0 P Q a w:=
 tailIn_any (r:=none) n hm hB hnd h
end
end B
end Go.Proofs.YtechdefolfboeaaGreatDoor
