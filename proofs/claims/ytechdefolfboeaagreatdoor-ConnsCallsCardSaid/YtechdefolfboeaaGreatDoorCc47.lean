/- Texts of one chain, merged. -/
import Derived.Laws.EntriesVeiled
import Derived.Test.YtechdefolfboeaaGreatDoorCc1
import Derived.Test.YtechdefolfboeaaGreatDoorCc14
import Derived.Test.YtechdefolfboeaaGreatDoorCc44
import Derived.Test.YtechdefolfboeaaGreatDoorCc45
set_option linter.unusedVariables false
set_option linter.unusedSimpArgs false
set_option maxRecDepth 100000
set_option maxHeartbeats 2000000
namespace Go.Proofs.YtechdefolfboeaaGreatDoor
open Go.RowKit B K
theorem Rd.of_bx {α:Type} {enc:α→List Value} {size:Nat} {w:World} {b:Nat} {T:TypeId} {l:List α} (hs: ∀ x,(enc x).length =size) (h:Bx w b T (l.flatMap enc)):Rd w size enc (some ⟨b,0,none⟩) l.length l:=
 ⟨rfl,fun _=>⟨b,0,rfl,h.lt,fun i x hx j u hu=>by
   rw [Nat.zero_add]
   exact h.cell _ (flatMap_at hs l i x hx j u hu)⟩⟩
def M0:WorldP:=⟨99,[(⟨#[97]⟩:ByteArray),(⟨#[98]⟩:ByteArray),(⟨#[99]⟩:ByteArray)],[],[],[(⟨#[114]⟩:ByteArray)],[(⟨#[116]⟩:ByteArray),(⟨#[117]⟩:ByteArray)],[],[],[],[⟨[0,1,2],[3,3],[1]⟩],[⟨0,5,0,5⟩,⟨0,6,0,6⟩],[]⟩
def L0:List RunP:=[⟨0,0,[5,8,12],[5,9,12]⟩,⟨1,0,[6,7,9],[6,7,9]⟩]
def C0:List ConnP:=[⟨5,8,0,1,0,0⟩,⟨6,7,0,1,1,0⟩,⟨7,9,1,2,1,1⟩,⟨9,12,1,2,0,1⟩]
theorem few0:Few M0:=⟨by decide,by decide,by decide,by decide,by decide,by decide,by decide,by decide,by decide,by decide,by decide,fun r hr=>by
 have:r=⟨[0,1,2],[3,3],[1]⟩:=by simpa [M0] using hr
 subst this;decide⟩
theorem good0:goodB nameB M0=true:=by kernel_rfl
theorem fit0:L0.all (fitsR M0)=true:=by kernel_rfl
theorem err0:errC M0 L0=0:=errC_ok (by decide) good0 fit0
theorem make0:makeC M0 L0=C0:=by
 symm
 refine makeC_unique ?_ ?_
 ·have e:ridesL M0 L0=[⟨5,8,0,1,0,0⟩,⟨9,12,1,2,0,1⟩,⟨6,7,0,1,1,0⟩,⟨7,9,1,2,1,1⟩]:=by kernel_rfl
  rw [e]
  unfold C0
  refine List.Perm.cons _ ?_
  refine(List.Perm.cons _ (List.Perm.swap _ _ _)).trans (List.Perm.swap _ _ _)
 ·unfold C0
  simp only [List.pairwise_cons,List.mem_cons,forall_eq_or_imp,List.not_mem_nil,false_implies,implies_true,and_true,List.Pairwise.nil]
  exact⟨⟨rfl,rfl,rfl⟩,⟨rfl,rfl⟩,rfl⟩
theorem res0:resC M0 L0=C0:=by rw [resC_ok err0,make0]
theorem world19_any (we:World):Calls Tryz.prog 23 #[] we fun e w'=> ∃ V,e= .returned (wVal M0 V)∧RW w' M0 V∧Below we.heap.size we w':=by
 obtain⟨v0,b0,hv0,hb0E,hb0,B0⟩:=box1 we 31 [.int .i64 0,.slice none 0 0,.slice none 0 0,.slice none 0 0,.slice none 0 0,.slice none 0 0,.slice none 0 0,.slice none 0 0,.slice none 0 0,.slice none 0 0,.slice none 0 0,.slice none 0 0]
 obtain⟨v1,b1,hv1,hb1E,hb1,B1⟩:=box1 v0 9 [.string (⟨#[97]⟩:ByteArray),.string (⟨#[98]⟩:ByteArray),.string (⟨#[99]⟩:ByteArray)]
 obtain⟨v2,b2,hv2,hb2E,hb2,B2⟩:=box1 v1 9 [.string (⟨#[114]⟩:ByteArray)]
 obtain⟨v3,b3,hv3,hb3E,hb3,B3⟩:=box1 v2 9 [.string (⟨#[116]⟩:ByteArray),.string (⟨#[117]⟩:ByteArray)]
 obtain⟨v4,b4,hv4,hb4E,hb4,B4⟩:=box1 v3 3 [.int .i64 0,.int .i64 1,.int .i64 2]
 obtain⟨v5,b5,hv5,hb5E,hb5,B5⟩:=box1 v4 2 [.int .i64 3,.int .i64 3]
 obtain⟨v6,b6,hv6,hb6E,hb6,B6⟩:=box1 v5 2 [.int .i64 1]
 obtain⟨v7,b7,hv7,hb7E,hb7,B7⟩:=box1 v6 51 [.slice (some ⟨b4,0,none⟩) 3 3,.slice (some ⟨b5,0,none⟩) 2 2,.slice (some ⟨b6,0,none⟩) 1 1]
 obtain⟨v8,b8,hv8,hb8E,hb8,B8⟩:=box1 v7 53 [.int .i64 0,.int .i64 5,.int .i64 0,.int .i64 5,.int .i64 0,.int .i64 6,.int .i64 0,.int .i64 6]
 have hup0:Below we.heap.size we v0:=hb0
 have hup1:Below we.heap.size we v1:=u_ hup0 hb1
 have hup2:Below we.heap.size we v2:=u_ hup1 hb2
 have hup3:Below we.heap.size we v3:=u_ hup2 hb3
 have hup4:Below we.heap.size we v4:=u_ hup3 hb4
 have hup5:Below we.heap.size we v5:=u_ hup4 hb5
 have hup6:Below we.heap.size we v6:=u_ hup5 hb6
 have hup7:Below we.heap.size we v7:=u_ hup6 hb7
 have hup8:Below we.heap.size we v8:=u_ hup7 hb8
 have C0:=Lib.hid (((((((((B0).below hb1).below hb2).below hb3).below hb4).below hb5).below hb6).below hb7).below hb8)
 have C1:=Lib.hid ((((((((B1).below hb2).below hb3).below hb4).below hb5).below hb6).below hb7).below hb8)
 have C2:=Lib.hid (((((((B2).below hb3).below hb4).below hb5).below hb6).below hb7).below hb8)
 have C3:=Lib.hid ((((((B3).below hb4).below hb5).below hb6).below hb7).below hb8)
 have C4:=Lib.hid (((((B4).below hb5).below hb6).below hb7).below hb8)
 have C5:=Lib.hid ((((B5).below hb6).below hb7).below hb8)
 have C6:=Lib.hid (((B6).below hb7).below hb8)
 have C7:=Lib.hid ((B7).below hb8)
 have C8:=Lib.hid (B8)
 have hup:=Lib.hid hup8
 have hge:Hid (we.heap.size≤b0):=by show _≤_;omega
 clear B0 B1 B2 B3 B4 B5 B6 B7 B8 hup0 hup1 hup2 hup3 hup4 hup5 hup6 hup7 hup8
 have hC0:=C0.out
 obtain⟨hBF,hbF⟩:=hC0.row [.int .i64 99,.slice (some ⟨b1,0,none⟩) 3 3,.slice none 0 0,.slice none 0 0,.slice (some ⟨b2,0,none⟩) 1 1,.slice (some ⟨b3,0,none⟩) 2 2,.slice none 0 0,.slice none 0 0,.slice none 0 0,.slice (some ⟨b7,0,none⟩) 1 1,.slice (some ⟨b8,0,none⟩) 2 2,.slice none 0 0]
 obtain⟨wF,hwF⟩: ∃ q,v8.setRow b0 (List.toArray [.int .i64 99,.slice (some ⟨b1,0,none⟩) 3 3,.slice none 0 0,.slice none 0 0,.slice (some ⟨b2,0,none⟩) 1 1,.slice (some ⟨b3,0,none⟩) 2 2,.slice none 0 0,.slice none 0 0,.slice none 0 0,.slice (some ⟨b7,0,none⟩) 1 1,.slice (some ⟨b8,0,none⟩) 2 2,.slice none 0 0])=q:=⟨_,rfl⟩
 rw [hwF] at hBF hbF
 have hfin:Hid (Below we.heap.size we wF):=hup.out.trans (hbF.below hup.out.size (fun x hx=>by simp only [List.mem_singleton] at hx;subst hx;exact hge.out))
 have hne:Hid (∀ k,k<v8.heap.size→k≠b0→wF.heap[k]?=v8.heap[k]?):=fun k hk hk0=>hbF.keep k hk (by simpa using hk0)
 have hBF:=Lib.hid hBF
 clear hbF
 have hlt0:b0<b1∧b0<b2∧b0<b3∧b0<b4∧b0<b5∧b0<b6∧b0<b7∧b0<b8:=by
  have h1:=hb1.size
  have h2:=hb2.size
  have h3:=hb3.size
  have h4:=hb4.size
  have h5:=hb5.size
  have h6:=hb6.size
  have h7:=hb7.size
  have h8:=hb8.size
  have h0:=C0.out.lt
  have g0:b0<v0.heap.size:=by rw [←hv0,←hb0E];simp
  refine⟨?_,?_,?_,?_,?_,?_,?_,?_⟩<;>omega
 have hltH:=Lib.hid hlt0
 clear hlt0
 go_enter Tryz.func23,Tryz.ntmps23
 go_wp2_with (with_reducible refine wpList_store_bx (.tmp 0) (.tmp 13) 31 (by with_reducible rfl) ?x1 ?x2 ?x3 hC0 ?x4 ?x5 ?x6 hwF ?_)
 all_goals try rfl
 all_goals try kernel_rfl
 refine bodyPost_bx (s:=0) (t:=31) rfl rfl hBF.out (by kernel_rfl) (by kernel_rfl) rfl ?_
 have D:=fun(k:Nat) (T:TypeId) (u:List Value) (h:Bx v8 k T u) (hk:b0<k)=>(show Bx wF k T u from(hne.out k h.lt (by omega)).trans h)
 obtain⟨q1,q2,q3,q4,q5,q6,q7,q8⟩:=hltH.out
 have D1:=Rd.of_bx (enc:=strE) (l:=[(⟨#[97]⟩:ByteArray),(⟨#[98]⟩:ByteArray),(⟨#[99]⟩:ByteArray)]) strE_len (D _ _ _ C1.out q1)
 have D2:=Rd.of_bx (enc:=strE) (l:=[(⟨#[114]⟩:ByteArray)]) strE_len (D _ _ _ C2.out q2)
 have D3:=Rd.of_bx (enc:=strE) (l:=[(⟨#[116]⟩:ByteArray),(⟨#[117]⟩:ByteArray)]) strE_len (D _ _ _ C3.out q3)
 have D4:=Rd.of_bx (enc:=numE .i64) (l:=[0,1,2]) num_len (D _ _ _ C4.out q4)
 have D5:=Rd.of_bx (enc:=numE .i64) (l:=[3,3]) num_len (D _ _ _ C5.out q5)
 have D6:=Rd.of_bx (enc:=numE .i64) (l:=[1]) num_len (D _ _ _ C6.out q6)
 have D7:=D _ _ _ C7.out q7
 have D8:=Rd.of_bx (enc:=tripP) (l:=[⟨0,5,0,5⟩,⟨0,6,0,6⟩]) tripP_len (D _ _ _ C8.out q8)
 refine⟨⟨some ⟨b1,0,none⟩,none,none,some ⟨b2,0,none⟩,some ⟨b3,0,none⟩,none,none,none,some ⟨b7,0,none⟩,some ⟨b8,0,none⟩,none,3,0,0,1,2,0,0,0,1,2,0,3,0,0,1,2,0,0,0,1,2,0⟩,rfl,
  ⟨D1,Rd.nil,Rd.nil,D2,D3,Rd.nil,Rd.nil,Rd.nil,⟨rfl,fun k r hk=>?_⟩,D8,Rd.nil⟩,hfin.out⟩
 have hk0:k=0:=by have:=(List.getElem?_eq_some_iff.1 hk).1;simp [M0] at this;omega
 subst hk0
 obtain rfl:(⟨[0,1,2],[3,3],[1]⟩:RouteP)=r:=by simpa [M0] using hk
 exact⟨b7,0,rfl,D7.lt,⟨_,_,_,D7.cell 0 rfl,D4,by decide,by decide⟩,⟨_,_,_,D7.cell 1 rfl,D5,by decide,by decide⟩,⟨_,_,_,D7.cell 2 rfl,D6,by decide,by decide⟩⟩
theorem runs19_any (we:World):Calls Tryz.prog 24 #[] we fun e w'=> ∃ b,e= .returned (.slice (some ⟨b,0,none⟩) 2 2)∧RRuns w' (some ⟨b,0,none⟩) 2 L0∧Below we.heap.size we w':=by
 obtain⟨v0,b0,hv0,hb0E,hb0,B0⟩:=box1 we 2 [.int .i64 5,.int .i64 8,.int .i64 12]
 obtain⟨v1,b1,hv1,hb1E,hb1,B1⟩:=box1 v0 2 [.int .i64 5,.int .i64 9,.int .i64 12]
 obtain⟨v2,b2,hv2,hb2E,hb2,B2⟩:=box1 v1 2 [.int .i64 6,.int .i64 7,.int .i64 9]
 obtain⟨v3,b3,hv3,hb3E,hb3,B3⟩:=box1 v2 2 [.int .i64 6,.int .i64 7,.int .i64 9]
 obtain⟨v4,b4,hv4,hb4E,hb4,B4⟩:=box1 v3 47 [.int .i64 0,.int .i64 0,.slice (some ⟨b0,0,none⟩) 3 3,.slice (some ⟨b1,0,none⟩) 3 3,.int .i64 1,.int .i64 0,.slice (some ⟨b2,0,none⟩) 3 3,.slice (some ⟨b3,0,none⟩) 3 3]
 have hup0:Below we.heap.size we v0:=hb0
 have hup1:Below we.heap.size we v1:=u_ hup0 hb1
 have hup2:Below we.heap.size we v2:=u_ hup1 hb2
 have hup3:Below we.heap.size we v3:=u_ hup2 hb3
 have hup4:Below we.heap.size we v4:=u_ hup3 hb4
 have C0:=Lib.hid (((((B0).below hb1).below hb2).below hb3).below hb4)
 have C1:=Lib.hid ((((B1).below hb2).below hb3).below hb4)
 have C2:=Lib.hid (((B2).below hb3).below hb4)
 have C3:=Lib.hid ((B3).below hb4)
 have C4:=Lib.hid (B4)
 have hup:=Lib.hid hup4
 clear B0 B1 B2 B3 B4 hup0 hup1 hup2 hup3 hup4
 go_enter Tryz.func24,Tryz.ntmps24
 go_wp2_with fail
 clear hv0 hb0E hv1 hb1E hv2 hb2E hv3 hb3E hv4 hb4E
 go_returns
 have D0:=Rd.of_bx (enc:=numE .i64) (l:=[5,8,12]) num_len C0.out
 have D1:=Rd.of_bx (enc:=numE .i64) (l:=[5,9,12]) num_len C1.out
 have D2:=Rd.of_bx (enc:=numE .i64) (l:=[6,7,9]) num_len C2.out
 have D3:=Rd.of_bx (enc:=numE .i64) (l:=[6,7,9]) num_len C3.out
 have D4:=Rd.of_bx (enc:=rnE) (l:=[(0,0,(some ⟨b0,0,none⟩,3,3),(some ⟨b1,0,none⟩,3,3)),(1,0,(some ⟨b2,0,none⟩,3,3),(some ⟨b3,0,none⟩,3,3))]) rnE_len C4.out
 refine⟨b4,rfl,⟨_,D4,rfl,fun k e r he hr=>?_⟩,hup.out⟩
 match k,he,hr with
 |0,he,hr=>
  simp [L0] at he hr;subst he hr
  exact⟨rfl,rfl,D0,⟨Nat.le_refl _,Nat.le_of_ble_eq_true rfl⟩,D1,⟨Nat.le_refl _,Nat.le_of_ble_eq_true rfl⟩⟩
 |1,he,hr=>
  simp [L0] at he hr;subst he hr
  exact⟨rfl,rfl,D2,⟨Nat.le_refl _,Nat.le_of_ble_eq_true rfl⟩,D3,⟨Nat.le_refl _,Nat.le_of_ble_eq_true rfl⟩⟩
 |k+2,he,hr=>simp at he
theorem conns_cut (A:Option Addr) (n c k:Nat) (hk:k≤n) (W:World):(Instr.slice 37 (.slice A n c) (some (.int .i64 (k:Int))) none none).run Tryz.prog W= .ok (.slice (cutA A c k 6) (n-k) (c-k)) W:=
 run_cut (P:=Tryz.prog) (t:=37) (e:=42) (s:=6) Tryz.underlying37 (by kernel_rfl) (fun W=>by simp [go_sem]) A n c k hk .i64 W
theorem lives19_any (we:World) (hsp:Sp we):Calls Tryz.prog 13 #[] we fun e w'=>e= .returned (.bool true)∧Below we.heap.size we w':=by
 have hsH:=Lib.hid hsp
 clear hsp
 go_enter Tryz.func13,Tryz.ntmps13
 go_wp2_with fail
 refine(world19_any we).mono ?_;rintro e w1 ⟨V,rfl,hW,hb1⟩
 have hWH:=Lib.hid hW
 have hb1H:=Lib.hid hb1
 clear hW hb1
 go_wp2_with fail
 refine(runs19_any w1).mono ?_;rintro e w2 ⟨b,rfl,hR,hb2⟩
 have hb2H:=h_ hb1H hb2
 have hmk:=Lib.hid (cmake_any M0 V (some ⟨b,0,none⟩) 2 2 L0 w2 (hWH.out.below hb2) few0 (hsH.out.below hb2H.out) hR (by decide))
 rw [res0,err0] at hmk
 clear hR hb2
 go_wp2_with fail
 refine hmk.out.mono ?_;rintro e w3 ⟨A3,c3,rfl,r3,hc3,hm3,hb3⟩
 have hb3H:=h_ hb2H hb3
 have r3H:=Lib.hid r3
 simp only [C0,List.length_cons,List.length_nil,Nat.reduceAdd] at*
 clear hmk r3 hb3 hb1H hb2H
 obtain⟨wa,ba,hwa,hbaE,hbwa,Bwa⟩:=box1 w3 42 [.int .i64 5,.int .i64 8,.int .i64 0,.int .i64 1,.int .i64 0,.int .i64 0,.int .i64 6,.int .i64 7,.int .i64 0,.int .i64 1,.int .i64 1,.int .i64 0,.int .i64 7,.int .i64 9,.int .i64 1,.int .i64 2,.int .i64 1,.int .i64 1,.int .i64 9,.int .i64 12,.int .i64 1,.int .i64 2,.int .i64 0,.int .i64 1]
 have hbWa:=b_ hb3H hbwa
 have hbW:=Lib.hid (Below.refl wa.heap.size wa)
 have hbWe:=Lib.hid hbWa
 have rA:=Lib.hid (r3H.out.below hbwa)
 have rB:=Lib.hid (Rd.of_bx (enc:=connE) (l:=C0) connE_len Bwa)
 have hsame:Hid (∀ U,Below wa.heap.size wa U→Calls Tryz.prog 30 #[.slice A3 4 c3,.slice (some ⟨ba,0,none⟩) 4 4] U fun e w'=>e= .returned (.bool true)∧Below U.heap.size U w'):=fun U hU=>
  (kSameC_any A3 4 c3 C0 (some ⟨ba,0,none⟩) 4 4 C0 U (rA.out.below hU) (rB.out.below hU) (by decide) (by decide)).mono fun e w' h=>⟨by rw [h.1,decide_eq_true rfl],h.2⟩
 have hfirst:Hid (∀ U,Below wa.heap.size wa U→Calls Tryz.prog 18 #[.slice A3 4 c3,.int .i64 7] U fun e w'=>e= .returned (.int .i64 2)∧Below U.heap.size U w'):=fun U hU=>
  (cfirst_any A3 4 c3 C0 7 U (rA.out.below hU) (by decide)).mono fun e w' h=>⟨by rw [h.1];rfl,h.2⟩
 have hfrom:Hid (∀ U,Below wa.heap.size wa U→Calls Tryz.prog 21 #[.slice A3 4 c3,.int .i64 1] U fun e w'=> ∃ A c,e= .returned (.slice A 2 c)∧Rd w' 6 connE A 2 (C0.drop 2)∧Below U.heap.size U w'):=fun U hU=>
  (cfrom_any A3 4 c3 C0 1 U (rA.out.below hU) (by decide)).mono fun e w' ⟨A,c,h1,h2,_,_,h3⟩=>⟨A,c,h1,h2,h3⟩
 have hcr:Hid (Rd wa 6 connE (some ⟨ba,12,none⟩) 2 (C0.drop 2)):=by
  have h:=rB.out.drop (k:=2) (c:=4) (by decide) (by decide)
  have e:cutA (some ⟨ba,0,none⟩) 4 2 6=some ⟨ba,12,none⟩:=by unfold cutA;rw [if_neg (by decide)];simp [Addr.add]
  rw [e] at h
  exact h
 clear Bwa hbwa hbWa
 go_wp2_with fail
 go_upto_region 3 with fail
 refine wp_region_late [0,0,0,0,0,0,0,0,0,0,0,0,0,0,2,1,1,2,2,2] (by kernel_rfl) (by kernel_rfl) ?_
 intro C hC
 simp only [pickK,Nat.reduceEqDiff, ↓reduceIte]
 repeat(go_big_quiet_step (first
  |(intro _;with_reducible rfl)
  |(intro hc;with_reducible refine(hsame.out _ (b_ hbW hc)).mono ?_;rintro e w'' ⟨rfl,hw⟩;exact⟨rfl,u_ hc hw⟩)
  |(intro hc;with_reducible refine(hfirst.out _ (b_ hbW hc)).mono ?_;rintro e w'' ⟨rfl,hw⟩;exact⟨rfl,u_ hc hw⟩)))
 refine wpQuiet_nil ?_
 clear hC
 intro C' hC'
 repeat(go_big_quiet_step (first|(intro _;with_reducible rfl)))
 refine wpQuiet_nil ?_
 clear hC'
 intro wq hbq
 go_wp2_with fail
 refine(hfrom.out wq (b_ hbW hbq)).mono ?_;rintro e w6 ⟨A6,c6,rfl,r6,hb6⟩
 have hb6H:=Lib.hid (u_ hbq hb6)
 have hs2:=Lib.hid (kSameC_any A6 2 c6 (C0.drop 2) (some ⟨ba,12,none⟩) 2 2 (C0.drop 2) w6 r6 (hcr.out.below hb6H.out) (by decide) (by decide))
 rw [decide_eq_true rfl] at hs2
 clear r6 hb6 hbq
 go_wp2_with fail
 refine hs2.out.mono ?_;rintro e w7 ⟨rfl,hb7⟩
 have hfin:=h_ hbWe (b_ hb6H hb7)
 clear hb7
 go_wp2_with fail
 clear hwa hbaE
 go_returns
 exact⟨rfl,hfin.out⟩
end Go.Proofs.YtechdefolfboeaaGreatDoor
