/- Texts of one chain, merged. -/
import Derived.Test.YtechdefolfboeaaGreatDoorTn3
namespace Go.Proofs.YtechdefolfboeaaGreatDoor
open Go.RowKit B
set_option linter.unusedVariables false
namespace B
structure GX1 (w0:World) (g:Nat) (T:TypeId) (zs vs:List Value) (f:Bool) (w:World):Prop where
 but:But w0 w [g]
 bx:Bx w g T (if f=true then vs else zs)
section
variable {w0 w w':World} {g:Nat} {T:TypeId} {zs vs:List Value} {f:Bool}
theorem GX1.start (hB:Bx w0 g T zs) (hf:f=false):GX1 w0 g T zs vs f {w0 with drawn:=w0.drawn+1}:=⟨But.drawn _ _,by rw [hf];exact hB⟩
theorem GX1.box0 (h:GX1 w0 g T zs vs f w) (hf:f=false):Bx w g T zs:=by have:=h.bx;rwa [hf] at this
theorem GX1.put (h:GX1 w0 g T zs vs f w) (hB:Bx w' g T vs) (hb:But w w' [g]):GX1 w0 g T zs vs true w':=⟨h.but.trans hb,hB⟩
theorem GX1.cell (h:GX1 w0 g T zs vs f w) {b o:Nat} {v:Value} (hl:b<w0.heap.size) (hne:b≠g) (hv:w0.cell? ⟨b,o,none⟩=some v):w.cell? ⟨b,o,none⟩=some v:=(h.but.cell (p:=⟨b,o,none⟩) hl (by simpa using hne)).trans hv
end
structure GX2 (w0:World) (g:Nat) (T:TypeId) (zs vs:List Value) (g':Nat) (T':TypeId) (zs' vs':List Value) (f f':Bool) (w:World):Prop where
 but:But w0 w [g,g']
 bx:Bx w g T (if f=true then vs else zs)
 bx':Bx w g' T' (if f'=true then vs' else zs')
section
variable {w0 w w':World} {g g':Nat} {T T':TypeId} {zs vs zs' vs':List Value} {f f':Bool}
theorem GX2.start (hB:Bx w0 g T zs) (hB':Bx w0 g' T' zs') (hf:f=false) (hf':f'=false):GX2 w0 g T zs vs g' T' zs' vs' f f' {w0 with drawn:=w0.drawn+1}:=⟨But.drawn _ _,by rw [hf];exact hB,by rw [hf'];exact hB'⟩
theorem GX2.box0 (h:GX2 w0 g T zs vs g' T' zs' vs' f f' w) (hf:f=false):Bx w g T zs:=by have:=h.bx;rwa [hf] at this
theorem GX2.box1 (h:GX2 w0 g T zs vs g' T' zs' vs' f f' w) (hf:f'=false):Bx w g' T' zs':=by have:=h.bx';rwa [hf] at this
theorem GX2.put0 (h:GX2 w0 g T zs vs g' T' zs' vs' f f' w) (hne:g≠g') (hB:Bx w' g T vs) (hb:But w w' [g]):GX2 w0 g T zs vs g' T' zs' vs' true f' w':=
 ⟨h.but.trans (hb.mono (by simp)),hB,h.bx'.keep (hb.keep g' h.bx'.lt (by simpa using hne.symm))⟩
theorem GX2.put1 (h:GX2 w0 g T zs vs g' T' zs' vs' f f' w) (hne:g≠g') (hB:Bx w' g' T' vs') (hb:But w w' [g']):GX2 w0 g T zs vs g' T' zs' vs' f true w':=
 ⟨h.but.trans (hb.mono (by simp)),h.bx.keep (hb.keep g h.bx.lt (by simpa using hne)),hB⟩
theorem GX2.cell (h:GX2 w0 g T zs vs g' T' zs' vs' f f' w) {b o:Nat} {v:Value} (hl:b<w0.heap.size) (hne:b≠g) (hne':b≠g') (hv:w0.cell? ⟨b,o,none⟩=some v):w.cell? ⟨b,o,none⟩=some v:=(h.but.cell (p:=⟨b,o,none⟩) hl (by simp [hne,hne'])).trans hv
end
end B
end Go.Proofs.YtechdefolfboeaaGreatDoor
