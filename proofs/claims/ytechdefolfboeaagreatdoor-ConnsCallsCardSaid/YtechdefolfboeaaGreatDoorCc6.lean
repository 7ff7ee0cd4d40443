/- Texts of one chain, merged. -/
import Derived.Lib.Hide
import Derived.Test.YtechdefolfboeaaGreatDoorCc1
namespace Go.Proofs.YtechdefolfboeaaGreatDoor
namespace K
def idx {α:Type} (p:α→Bool) (l:List α):Int:=if l.any p then(l.findIdx p:Int) else-1
theorem idx_at {α:Type} {p:α→Bool} {l:List α} {k:Nat} {x:α} (h:l[k]?=some x) (hno: ∀ y∈l.take k,p y=false) (hp:p x=true):idx p l=k:=by
 obtain⟨hlt,hx⟩:=List.getElem?_eq_some_iff.1 h
 have hany:l.any p=true:=List.any_eq_true.2 ⟨x,hx ▸ List.getElem_mem hlt,hp⟩
 unfold idx
 rw [if_pos hany]
 congr 1
 rw [List.findIdx_eq hlt]
 refine⟨by rw [hx];exact hp,fun j hj=>?_⟩
 have:=hno l[j] (by rw [List.mem_take_iff_getElem];exact⟨j,by omega,rfl⟩)
 exact this
theorem idx_no {α:Type} {p:α→Bool} {l:List α} (h: ∀ y∈l,p y=false):idx p l= -1:=by
 unfold idx
 rw [if_neg]
 intro hh
 obtain⟨y,hy,hp⟩:=List.any_eq_true.1 hh
 rw [h y hy] at hp;cases hp
theorem idx_any {α:Type} (p:α→Bool) (l:List α):decide (0≤idx p l)=l.any p:=by
 unfold idx
 cases h:l.any p with
 |true=>simp
 |false=>simp
end K
end Go.Proofs.YtechdefolfboeaaGreatDoor
namespace Go.Proofs.YtechdefolfboeaaGreatDoor
open Go.RowKit B
def eachL (f v n:Int) (m:Nat):W.Row:=(List.range m).map fun(i:Nat)=>(f+i*v,f+i*v+n)
theorem eachL_len (f v n:Int) (m:Nat):(eachL f v n m).length =m:=by simp [eachL]
theorem eachL_at (f v n:Int) (m k:Nat) (h:k<m):(eachL f v n m)[k]?=some (f+k*v,f+k*v+n):=by simp [eachL,h]
theorem eachL_pre (f v n:Int) (m k:Nat) (h:k<m):(eachL f v n m).take k++[(f+k*v,f+k*v+n)]<+:eachL f v n m:=by
 rw [←take_at (eachL_at f v n m k h)];exact List.take_prefix _ _
theorem eachL_snoc (f v n:Int) (m:Nat):eachL f v n (m+1)=eachL f v n m++[(f+m*v,f+m*v+n)]:=by simp [eachL,List.range_succ]
def winsM (f v n h:Int):W.Row×Int:=
 if W.chkT f v n≠0 then([],W.chkT f v n) else if W.chk h≠0 then([],W.chk h) else if 256<W.count f v h then([],3) else(W.joinL (eachL f v n (W.count f v h).toNat),0)
theorem chkT_zero {f v n:Int} (h:W.chkT f v n=0):(0≤f∧f≤1099511627776)∧(0≤v∧v≤1099511627776)∧(0≤n∧n≤1099511627776):=by
 unfold W.chkT at h
 split at h
 ·cases h
 ·rename_i h0
  have h1:=W.chk_zero (x:=f) (by omega)
  exact⟨h1,by omega,by omega⟩
theorem count_nonneg (f v u:Int):0≤W.count f v u:=by
 unfold W.count
 split
 ·rename_i h
  split
  ·omega
  ·have:=W.chk_zero h.2.1
   have:=Int.ediv_nonneg (show 0≤u-f by omega) (show 0≤v by omega);omega
 ·omega
end Go.Proofs.YtechdefolfboeaaGreatDoor
