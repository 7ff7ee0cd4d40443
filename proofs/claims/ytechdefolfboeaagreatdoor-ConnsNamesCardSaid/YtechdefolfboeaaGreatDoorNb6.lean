/- Texts of one chain, merged. -/
import Derived.Lib.Hide
namespace Go.Proofs.YtechdefolfboeaaGreatDoor
namespace K
def idx {α:Type} (p:α→Bool) (l:List α):Int:=if l.any p then(l.findIdx p:Int) else-1
theorem idx_at {α:Type} {p:α→Bool} {l:List α} {k:Nat} {x:α} (h:l[k]?=some x) (hno: ∀ y∈l.take k,p y=false) (hp:p x=true):idx p l=k:=by
 obtain⟨hlt,hx⟩:=List.getElem?_eq_some_iff.1 h
 have hany:l.any p=true:=List.any_eq_true.2 ⟨x,hx ▸ List.getElem_mem hlt,hp⟩
 unfold idx
 rw [if_pos hany]
 congr 1
 rw [List.findIdx_eq hlt]
 refine⟨by rw [hx];exact hp,fun j hj=>?_⟩
 have:=hno l[j] (by rw [List.mem_take_iff_getElem];exact⟨j,by omega,rfl⟩)
 exact this
theorem idx_no {α:Type} {p:α→Bool} {l:List α} (h: ∀ y∈l,p y=false):idx p l= -1:=by
 unfold idx
 rw [if_neg]
 intro hh
 obtain⟨y,hy,hp⟩:=List.any_eq_true.1 hh
 rw [h y hy] at hp;cases hp
theorem idx_any {α:Type} (p:α→Bool) (l:List α):decide (0≤idx p l)=l.any p:=by
 unfold idx
 cases h:l.any p with
 |true=>simp
 |false=>simp
end K
end Go.Proofs.YtechdefolfboeaaGreatDoor
