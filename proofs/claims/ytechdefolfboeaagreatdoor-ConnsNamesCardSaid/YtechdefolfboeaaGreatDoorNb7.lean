/- Texts of one chain, merged. -/
import Derived.Test.YtechdefolfboeaaGreatDoorNb1
namespace Go.Proofs.YtechdefolfboeaaGreatDoor
open Go.RowKit B
def eachL (f v n:Int) (m:Nat):W.Row:=(List.range m).map fun(i:Nat)=>(f+i*v,f+i*v+n)
theorem eachL_len (f v n:Int) (m:Nat):(eachL f v n m).length =m:=by simp [eachL]
theorem eachL_at (f v n:Int) (m k:Nat) (h:k<m):(eachL f v n m)[k]?=some (f+k*v,f+k*v+n):=by simp [eachL,h]
theorem eachL_pre (f v n:Int) (m k:Nat) (h:k<m):(eachL f v n m).take k++[(f+k*v,f+k*v+n)]<+:eachL f v n m:=by
 rw [←take_at (eachL_at f v n m k h)];exact List.take_prefix _ _
def winsM (f v n h:Int):W.Row×Int:=
 if W.chkT f v n≠0 then([],W.chkT f v n) else if W.chk h≠0 then([],W.chk h) else if 256<W.count f v h then([],3) else(W.joinL (eachL f v n (W.count f v h).toNat),0)
theorem chkT_zero {f v n:Int} (h:W.chkT f v n=0):(0≤f∧f≤1099511627776)∧(0≤v∧v≤1099511627776)∧(0≤n∧n≤1099511627776):=by
 unfold W.chkT at h
 split at h
 ·cases h
 ·rename_i h0
  have h1:=W.chk_zero (x:=f) (by omega)
  exact⟨h1,by omega,by omega⟩
theorem count_nonneg (f v u:Int):0≤W.count f v u:=by
 unfold W.count
 split
 ·rename_i h
  split
  ·omega
  ·have:=W.chk_zero h.2.1
   have:=Int.ediv_nonneg (show 0≤u-f by omega) (show 0≤v by omega);omega
 ·omega
end Go.Proofs.YtechdefolfboeaaGreatDoor
