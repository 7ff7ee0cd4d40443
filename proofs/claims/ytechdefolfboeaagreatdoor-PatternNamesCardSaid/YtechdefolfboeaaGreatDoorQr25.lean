/- Texts of one chain, merged. -/
import Derived.Test.YtechdefolfboeaaGreatDoorQr9
import Derived.Test.YtechdefolfboeaaGreatDoorQr19
namespace Go.Proofs.YtechdefolfboeaaGreatDoor
open Go.RowKit B K
set_option linter.unusedVariables false
set_option linter.unusedSimpArgs false
set_option maxRecDepth 100000
set_option maxHeartbeats 2000000
theorem B.Bx.low {w w':World} {b n:Nat} {t:TypeId} {vs:List Value} (h:Bx w b t vs) (k:Below n w w') (hb:b<n):Bx w' b t vs:=(k.block b hb).trans h
structure TS (M:WorldP) (wn:World) (bo:Nat) (w:World) (vS vP vD vR vT vH:Value) (kP kD kR kT kH:Nat) (LR:List REl):Prop where
 bx:Bx w bo 136 [.int .i64 M.hz,vS,vP,vD,vR,vT,vH]
 ge:wn.heap.size≤bo
 oS:w.ownsRow wn.heap.size 9 1 vS M.stops.length (M.stops.flatMap strE)
 oP:w.ownsRow wn.heap.size 171 4 vP kP ((upTo2 (toldP M) kP).flatMap spathE)
 oD:w.ownsRow wn.heap.size 173 7 vD kD ((upTo2 (toldD M) kD).flatMap sdoorE)
 oR:w.ownsRow wn.heap.size 177 4 vR kR (LR.flatMap relE)
 oT:w.ownsRow wn.heap.size 179 5 vT kT ((upTo2 (toldT M) kT).flatMap stripE)
 oH:w.ownsRow wn.heap.size 181 5 vH kH ((upTo2 (toldH M) kH).flatMap shazE)
 tR:RowsT w wn.heap.size M LR kR
 bel:Below wn.heap.size wn w
section
variable {M:WorldP} {wn w w':World} {bo:Nat} {vS vP vD vR vT vH:Value} {kP kD kR kT kH:Nat} {LR:List REl}
theorem RowsT.below {w w':World} {base:Nat} {W:WorldP} {L:List REl} {i:Nat} (h:RowsT w base W L i) (k:Below w.heap.size w w'):RowsT w' base W L i:=h.up fun _ _ _ _ _ _ _ _ h=>own_below h k
theorem TS.below (h:TS M wn bo w vS vP vD vR vT vH kP kD kR kT kH LR) (k:Below w.heap.size w w'):TS M wn bo w' vS vP vD vR vT vH kP kD kR kT kH LR:=
 ⟨h.bx.below k,h.ge,own_below h.oS k,own_below h.oP k,own_below h.oD k,own_below h.oR k,own_below h.oT k,own_below h.oH k,h.tR.below k,h.bel.trans (k.mono h.bel.size)⟩
theorem TS.stepP (h:TS M wn bo w vS vP vD vR vT vH kP kD kR kT kH LR) {x:SPathP} (hx:toldP M kP=some x) (hall: ∀ i,i<kP→(toldP M i).isSome) (hm:kP+1≤1099511627776):
 ∃ W1 W2 W3 g c,w.alloc (.cells (spathE x).toArray 171)=W1∧W2.setCell ⟨bo,2,none⟩ (.slice (some ⟨g,0,none⟩) (kP+1) c)=W3∧Bx W2 bo 136 [.int .i64 M.hz,vS,vP,vD,vR,vT,vH]∧(Builtin.append_ #[130,130] 130 #[vP,.slice (some ⟨w.heap.size,0,none⟩) 1 1]).run Tryz.prog W1= .ok (.slice (some ⟨g,0,none⟩) (kP+1) c) W2∧
   TS M wn bo W3 vS (.slice (some ⟨g,0,none⟩) (kP+1) c) vD vR vT vH (kP+1) kD kR kT kH LR:=by
 have hsn:=upTo2_snoc hx
 have hlen:=upTo2_len hall kP (Nat.le_refl _)
 obtain⟨W1,W2,W3,va,vb,k1,k2,k3,b2,b3,lA,_,keepA,runA,oA,g,c,hab⟩:=stepE (enc:=spathE) Tryz.underlying130 info_tSPath rfl (by decide) spathE_len spathE_one (by decide) (f:=2) (T:=136) x (by decide) h.bx h.oP hlen hm h.bel.size h.ge
 subst hab k2
 have kp: ∀ {e:TypeId} {z n:Nat} {v:Value} {xs:List Value},e≠171→136≠e→w.ownsRow wn.heap.size e z v n xs→W3.ownsRow wn.heap.size e z v n xs:=fun he ht h'=>(keepA _ _ _ _ _ _ ht (fun q hq=>own_ne h.oP h' he hq) h').1
 rw [←hsn] at oA
 exact⟨W1,W2,W3,g,c,k1,k3,b2,runA,⟨b3,h.ge,kp (by decide) (by decide) h.oS,oA,kp (by decide) (by decide) h.oD,kp (by decide) (by decide) h.oR,kp (by decide) (by decide) h.oT,kp (by decide) (by decide) h.oH,h.tR.up fun _ _ _ _ _ _ he hb' h'=>by subst hb';exact kp (by rcases he with rfl|rfl<;>decide) (by rcases he with rfl|rfl<;>decide) h',h.bel.trans lA⟩⟩
theorem TS.stepD (h:TS M wn bo w vS vP vD vR vT vH kP kD kR kT kH LR) {x:SDoorP} (hx:toldD M kD=some x) (hall: ∀ i,i<kD→(toldD M i).isSome) (hm:kD+1≤1099511627776):
 ∃ W1 W2 W3 g c,w.alloc (.cells (sdoorE x).toArray 173)=W1∧W2.setCell ⟨bo,3,none⟩ (.slice (some ⟨g,0,none⟩) (kD+1) c)=W3∧Bx W2 bo 136 [.int .i64 M.hz,vS,vP,vD,vR,vT,vH]∧(Builtin.append_ #[131,131] 131 #[vD,.slice (some ⟨w.heap.size,0,none⟩) 1 1]).run Tryz.prog W1= .ok (.slice (some ⟨g,0,none⟩) (kD+1) c) W2∧
   TS M wn bo W3 vS vP (.slice (some ⟨g,0,none⟩) (kD+1) c) vR vT vH kP (kD+1) kR kT kH LR:=by
 have hsn:=upTo2_snoc hx
 have hlen:=upTo2_len hall kD (Nat.le_refl _)
 obtain⟨W1,W2,W3,va,vb,k1,k2,k3,b2,b3,lA,_,keepA,runA,oA,g,c,hab⟩:=stepE (enc:=sdoorE) Tryz.underlying131 info_tSDoor rfl (by decide) sdoorE_len sdoorE_one (by decide) (f:=3) (T:=136) x (by decide) h.bx h.oD hlen hm h.bel.size h.ge
 subst hab k2
 have kp: ∀ {e:TypeId} {z n:Nat} {v:Value} {xs:List Value},e≠173→136≠e→w.ownsRow wn.heap.size e z v n xs→W3.ownsRow wn.heap.size e z v n xs:=fun he ht h'=>(keepA _ _ _ _ _ _ ht (fun q hq=>own_ne h.oD h' he hq) h').1
 rw [←hsn] at oA
 exact⟨W1,W2,W3,g,c,k1,k3,b2,runA,⟨b3,h.ge,kp (by decide) (by decide) h.oS,kp (by decide) (by decide) h.oP,oA,kp (by decide) (by decide) h.oR,kp (by decide) (by decide) h.oT,kp (by decide) (by decide) h.oH,h.tR.up fun _ _ _ _ _ _ he hb' h'=>by subst hb';exact kp (by rcases he with rfl|rfl<;>decide) (by rcases he with rfl|rfl<;>decide) h',h.bel.trans lA⟩⟩
theorem TS.stepR (h:TS M wn bo w vS vP vD vR vT vH kP kD kR kT kH LR) (x:REl) (r:SRouteP) (hx:toldR M kR=some r) (hxT:RowT w wn.heap.size x r) (hm:kR+1≤1099511627776):
 ∃ W1 W2 W3 g c,w.alloc (.cells (relE x).toArray 177)=W1∧W2.setCell ⟨bo,4,none⟩ (.slice (some ⟨g,0,none⟩) (kR+1) c)=W3∧Bx W2 bo 136 [.int .i64 M.hz,vS,vP,vD,vR,vT,vH]∧(Builtin.append_ #[132,132] 132 #[vR,.slice (some ⟨w.heap.size,0,none⟩) 1 1]).run Tryz.prog W1= .ok (.slice (some ⟨g,0,none⟩) (kR+1) c) W2∧
   TS M wn bo W3 vS vP vD (.slice (some ⟨g,0,none⟩) (kR+1) c) vT vH kP kD (kR+1) kT kH (LR++[x]):=by
 obtain⟨W1,W2,W3,va,vb,k1,k2,k3,b2,b3,lA,_,keepA,runA,oA,g,c,hab⟩:=stepE (enc:=relE) Tryz.underlying132 info_tSRoute rfl (by decide) relE_len relE_one (by decide) (f:=4) (T:=136) x (by decide) h.bx h.oR h.tR.len hm h.bel.size h.ge
 subst hab k2
 have kp: ∀ {e:TypeId} {z n:Nat} {v:Value} {xs:List Value},e≠177→136≠e→w.ownsRow wn.heap.size e z v n xs→W3.ownsRow wn.heap.size e z v n xs:=fun he ht h'=>(keepA _ _ _ _ _ _ ht (fun q hq=>own_ne h.oR h' he hq) h').1
 exact⟨W1,W2,W3,g,c,k1,k3,b2,runA,⟨b3,h.ge,kp (by decide) (by decide) h.oS,kp (by decide) (by decide) h.oP,kp (by decide) (by decide) h.oD,oA,kp (by decide) (by decide) h.oT,kp (by decide) (by decide) h.oH,(RowsT.snoc h.tR hx hxT).up fun _ _ _ _ _ _ he hb' h'=>by subst hb';exact kp (by rcases he with rfl|rfl<;>decide) (by rcases he with rfl|rfl<;>decide) h',h.bel.trans lA⟩⟩
theorem TS.stepT (h:TS M wn bo w vS vP vD vR vT vH kP kD kR kT kH LR) {x:STripP} (hx:toldT M kT=some x) (hall: ∀ i,i<kT→(toldT M i).isSome) (hm:kT+1≤1099511627776):
 ∃ W1 W2 W3 g c,w.alloc (.cells (stripE x).toArray 179)=W1∧W2.setCell ⟨bo,5,none⟩ (.slice (some ⟨g,0,none⟩) (kT+1) c)=W3∧Bx W2 bo 136 [.int .i64 M.hz,vS,vP,vD,vR,vT,vH]∧(Builtin.append_ #[133,133] 133 #[vT,.slice (some ⟨w.heap.size,0,none⟩) 1 1]).run Tryz.prog W1= .ok (.slice (some ⟨g,0,none⟩) (kT+1) c) W2∧
   TS M wn bo W3 vS vP vD vR (.slice (some ⟨g,0,none⟩) (kT+1) c) vH kP kD kR (kT+1) kH LR:=by
 have hsn:=upTo2_snoc hx
 have hlen:=upTo2_len hall kT (Nat.le_refl _)
 obtain⟨W1,W2,W3,va,vb,k1,k2,k3,b2,b3,lA,_,keepA,runA,oA,g,c,hab⟩:=stepE (enc:=stripE) Tryz.underlying133 info_tSTrip rfl (by decide) stripE_len stripE_one (by decide) (f:=5) (T:=136) x (by decide) h.bx h.oT hlen hm h.bel.size h.ge
 subst hab k2
 have kp: ∀ {e:TypeId} {z n:Nat} {v:Value} {xs:List Value},e≠179→136≠e→w.ownsRow wn.heap.size e z v n xs→W3.ownsRow wn.heap.size e z v n xs:=fun he ht h'=>(keepA _ _ _ _ _ _ ht (fun q hq=>own_ne h.oT h' he hq) h').1
 rw [←hsn] at oA
 exact⟨W1,W2,W3,g,c,k1,k3,b2,runA,⟨b3,h.ge,kp (by decide) (by decide) h.oS,kp (by decide) (by decide) h.oP,kp (by decide) (by decide) h.oD,kp (by decide) (by decide) h.oR,oA,kp (by decide) (by decide) h.oH,h.tR.up fun _ _ _ _ _ _ he hb' h'=>by subst hb';exact kp (by rcases he with rfl|rfl<;>decide) (by rcases he with rfl|rfl<;>decide) h',h.bel.trans lA⟩⟩
theorem TS.stepH (h:TS M wn bo w vS vP vD vR vT vH kP kD kR kT kH LR) {x:SHazP} (hx:toldH M kH=some x) (hall: ∀ i,i<kH→(toldH M i).isSome) (hm:kH+1≤1099511627776):
 ∃ W1 W2 W3 g c,w.alloc (.cells (shazE x).toArray 181)=W1∧W2.setCell ⟨bo,6,none⟩ (.slice (some ⟨g,0,none⟩) (kH+1) c)=W3∧Bx W2 bo 136 [.int .i64 M.hz,vS,vP,vD,vR,vT,vH]∧(Builtin.append_ #[134,134] 134 #[vH,.slice (some ⟨w.heap.size,0,none⟩) 1 1]).run Tryz.prog W1= .ok (.slice (some ⟨g,0,none⟩) (kH+1) c) W2∧
   TS M wn bo W3 vS vP vD vR vT (.slice (some ⟨g,0,none⟩) (kH+1) c) kP kD kR kT (kH+1) LR:=by
 have hsn:=upTo2_snoc hx
 have hlen:=upTo2_len hall kH (Nat.le_refl _)
 obtain⟨W1,W2,W3,va,vb,k1,k2,k3,b2,b3,lA,_,keepA,runA,oA,g,c,hab⟩:=stepE (enc:=shazE) Tryz.underlying134 info_tSHaz rfl (by decide) shazE_len shazE_one (by decide) (f:=6) (T:=136) x (by decide) h.bx h.oH hlen hm h.bel.size h.ge
 subst hab k2
 have kp: ∀ {e:TypeId} {z n:Nat} {v:Value} {xs:List Value},e≠181→136≠e→w.ownsRow wn.heap.size e z v n xs→W3.ownsRow wn.heap.size e z v n xs:=fun he ht h'=>(keepA _ _ _ _ _ _ ht (fun q hq=>own_ne h.oH h' he hq) h').1
 rw [←hsn] at oA
 exact⟨W1,W2,W3,g,c,k1,k3,b2,runA,⟨b3,h.ge,kp (by decide) (by decide) h.oS,kp (by decide) (by decide) h.oP,kp (by decide) (by decide) h.oD,kp (by decide) (by decide) h.oR,kp (by decide) (by decide) h.oT,oA,h.tR.up fun _ _ _ _ _ _ he hb' h'=>by subst hb';exact kp (by rcases he with rfl|rfl<;>decide) (by rcases he with rfl|rfl<;>decide) h',h.bel.trans lA⟩⟩
end
end Go.Proofs.YtechdefolfboeaaGreatDoor
