/- Texts of one chain, merged. -/
import Derived.Test.YtechdefolfboeaaGreatDoorNb3
import Derived.Test.YtechdefolfboeaaGreatDoorNb4
namespace Go.Proofs.YtechdefolfboeaaGreatDoor
namespace B
open Go.RowKit
set_option linter.unusedVariables false
set_option linter.unusedSimpArgs false
theorem rd_lits {α:Type} {enc:α→List Value} {size:Nat} (w:World) (hs: ∀ x,(enc x).length =size) (t:TypeId) (L:List α):Rd (w.alloc (.cells (L.flatMap enc).toArray t)) size enc (some ⟨w.heap.size,0,none⟩) L.length L:=Rd.lit w size enc hs t L
section
variable {α:Type} {P:Program} {enc:α→List Value} {t e:TypeId} {z:Value} {size bytes:Nat}
theorem own_row (ht:P.underlying t=some (.slice e)) (hi:(P.info? e).map (fun i=>(i.zero,i.size,i.bytes))=some (some z,size,bytes)) (hzs:z.cells.size=size) (hsz:0<size) (hes: ∀ x,(enc x).length =size) (h1: ∀ x, ∀ u∈enc x,u.oneCell'=true)
 {base:Nat} {w:World} {v:Value} {l r:List α} {A:Option Addr} {m:Nat} (c:Nat) (hown:w.ownsRow base e size v l.length (l.flatMap enc)) (hr:Rd w size enc A m r) (hlen:l.length+m≤1099511627776) (hby:bytes≤127) (hB:base≤w.heap.size):
 ∃ v' w1,(Builtin.append_ #[t,t] t #[v,.slice A m c]).run P w= .ok v' w1∧w1.ownsRow base e size v' (l++r).length ((l++r).flatMap enc)∧Below base w w1:=by
 obtain⟨v',w1,hrun,own,hgr,_⟩:=own_append ht hi hzs hsz hes h1 c hown hr hlen hby hB
 exact⟨v',w1,hrun,by rw [List.length_append,hr.len];exact own,(Below.refl _ w).grown hgr hB fun g hg=>(hown.lt g hg).1⟩
theorem own_lits (ht:P.underlying t=some (.slice e)) (hi:(P.info? e).map (fun i=>(i.zero,i.size,i.bytes))=some (some z,size,bytes)) (hzs:z.cells.size=size) (hsz:0<size) (hes: ∀ x,(enc x).length =size) (h1: ∀ x, ∀ u∈enc x,u.oneCell'=true)
 {base:Nat} {w:World} {v:Value} {l:List α} (L:List α) (hown:w.ownsRow base e size v l.length (l.flatMap enc)) (hlen:l.length+L.length≤1099511627776) (hby:bytes≤127) (hB:base≤w.heap.size):
 ∃ v' w1,(Builtin.append_ #[t,t] t #[v,.slice (some ⟨w.heap.size,0,none⟩) L.length L.length]).run P (w.alloc (.cells (L.flatMap enc).toArray e))= .ok v' w1∧w1.ownsRow base e size v' (l++L).length ((l++L).flatMap enc)∧Below base w w1:=by
 have hb:=(Below.refl w.heap.size w).alloc (Nat.le_refl _) (.cells (L.flatMap enc).toArray e)
 obtain⟨v',w1,hrun,own,hb1⟩:=own_row ht hi hzs hsz hes h1 L.length (hown.alloc (.cells (L.flatMap enc).toArray e)) (rd_lits w hes e L) hlen hby (Nat.le_trans hB hb.size)
 exact⟨v',w1,hrun,own,(hb.mono hB).trans hb1⟩
end
end B
theorem own_lit1 (w:World) (base:Nat) (e:TypeId) (v:Value) (hb:base≤w.heap.size):(w.alloc (.cells #[v] e)).ownsRow base e 1 (.slice (some ⟨w.heap.size,0,none⟩) 1 1) 1 [v]:=
 ⟨rfl,.inr ⟨w.heap.size,1,#[v],rfl,hb,heap_alloc_new w _,Nat.le_refl _,by decide,rfl,rfl⟩⟩
end Go.Proofs.YtechdefolfboeaaGreatDoor
