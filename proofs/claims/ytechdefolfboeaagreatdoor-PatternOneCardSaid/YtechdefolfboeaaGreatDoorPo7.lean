/- Merged. -/
import Derived.Test.YtechdefolfboeaaGreatDoorPo5
set_option linter.unusedVariables false
set_option linter.unusedSimpArgs false
namespace Go.Proofs.YtechdefolfboeaaGreatDoor.B
open Go.RowKit
theorem own_ne_box {w:World} {base size n b:Nat} {e T:TypeId} {v:Value} {xs u:List Value} (h:w.ownsRow base e size v n xs) (hB:Bx w b T u) (hT:T≠e): ∀ q,v.ownBlock=some q→q≠b:=by
 rintro q hq rfl;rcases h.2 with⟨rfl,rfl⟩|⟨g,cap,cur,rfl,_,hh,_⟩
 ·cases hq
 ·have:g=q:=by simpa [Value.ownBlock] using hq
  subst this;rw [show w.heap[g]?=_ from hB] at hh;cases hh;exact hT rfl
theorem stepE {α:Type} {P:Program} {enc:α→List Value} {t e:TypeId} {z:Value} {size bytes:Nat} (ht:P.underlying t=some (.slice e)) (hi:(P.info? e).map (fun i=>(i.zero,i.size,i.bytes))=some (some z,size,bytes)) (hz:z.cells.size=size) (hsz:0<size)
 (hes: ∀ x,(enc x).length =size) (hone: ∀ x, ∀ u∈enc x,u.oneCell'=true) (hby:bytes≤127) {W0:World} {bo f k base:Nat} {T:TypeId} {cs:List Value} {v:Value} {lv:List α} (x:α) (hT:T≠e) (b0:Bx W0 bo T cs)
 (own:W0.ownsRow base e size v k (lv.flatMap enc)) (hk:lv.length=k) (hlen:k+1≤1099511627776) (hbase:base≤W0.heap.size) (hbo:base≤bo):
 ∃ W1 W2 W3 va vb,W0.alloc (.cells (enc x).toArray e)=W1∧Value.slice (some ⟨W0.heap.size,0,none⟩) 1 1=va∧W2.setCell ⟨bo,f,none⟩ vb=W3∧Bx W2 bo T cs∧Bx W3 bo T (cs.set f vb)∧Below base W0 W3∧But W2 W3 [bo]∧
   (∀ (base':Nat) (e':TypeId) (size':Nat) (v':Value) (n':Nat) (xs':List Value),T≠e'→(∀ q,v'.ownBlock=some q→some q≠v.ownBlock)→W0.ownsRow base' e' size' v' n' xs'→W3.ownsRow base' e' size' v' n' xs'∧ ∀ q,v'.ownBlock=some q→some q≠vb.ownBlock)∧
   (Builtin.append_ #[t,t] t #[v,va]).run P W1= .ok vb W2∧W3.ownsRow base e size vb (k+1) ((lv++[x]).flatMap enc)∧ ∃ g c,vb= .slice (some ⟨g,0,none⟩) (k+1) c:=by
 have own0:W0.ownsRow base e size v lv.length (lv.flatMap enc):=by rw [hk];exact own
 obtain⟨g,cc,W2,hrun,own2,hgr,hg⟩:=append_one (enc:=enc) ht hi hz hsz hes hone W0 base v lv x own0 (by omega) (by omega) hbase;obtain⟨W1,hW1⟩: ∃ W1,W0.alloc (.cells (enc x).toArray e)=W1:=⟨_,rfl⟩
 have a1:Below W0.heap.size W0 W1:=by rw [←hW1];exact(Below.refl _ W0).alloc (Nat.le_refl _) _
 have own01:=own0.alloc (.cells (enc x).toArray e);rw [hW1] at hrun hgr own01;rw [hk] at hrun own2;have b1:Bx W1 bo T cs:=b0.below a1;have hne:=own_ne_box own01 b1 hT;have b2:Bx W2 bo T cs:=b1.keep (hgr.block bo b1.lt fun h=>hne bo h.symm rfl);have hll:(lv++[x]).length =k+1:=by simp [hk]
 rw [hll] at own2;have b3:=b2.set f (.slice (some ⟨g,0,none⟩) (k+1) cc);have t23:But W2 (W2.setCell ⟨bo,f,none⟩ (.slice (some ⟨g,0,none⟩) (k+1) cc)) [bo]:=But.of_set _ _ _ (by simp);have own3:=own_box own2 b2 hT t23;have hb12:Below base W0 W2:=(a1.mono hbase).grown hgr (Nat.le_trans hbase a1.size) fun q hq=>(own01.lt q hq).1;refine⟨W1,W2,_,_,_,hW1,rfl,rfl,b2,b3,hb12.trans (t23.below (Nat.le_trans hbase hb12.size) (fun y hy=>by simp only [List.mem_singleton] at hy;subst hy;exact hbo)),t23,fun base' e' size' v' n' xs' he hd h'=>?_,hrun,own3,g,cc,rfl⟩;have h1:W1.ownsRow base' e' size' v' n' xs':=own_keep h' fun k hk=>a1.block k (h'.lt k hk).2;have h2:W2.ownsRow base' e' size' v' n' xs':=own_keep h1 fun k hk=>hgr.block k (h1.lt k hk).2 (hd k hk);refine⟨own_box h2 b2 he t23,fun q hq=>?_⟩;have hql:=(h'.lt q hq).2;rcases hg with hg|hg
 ·have:=hd q hq;rw [hg] at this;simpa [Value.ownBlock] using this
 ·simp [Value.ownBlock];omega
theorem stepS {α:Type} {P:Program} {enc:α→List Value} {t e:TypeId} {z:Value} {size bytes:Nat} (ht:P.underlying t=some (.slice e)) (hi:(P.info? e).map (fun i=>(i.zero,i.size,i.bytes))=some (some z,size,bytes)) (hz:z.cells.size=size) (hsz:0<size)
 (hes: ∀ x,(enc x).length =size) (hone: ∀ x, ∀ u∈enc x,u.oneCell'=true) (hby:bytes≤127) {W0:World} {k base:Nat} {v:Value} {lv:List α} (x:α)
 (own:W0.ownsRow base e size v k (lv.flatMap enc)) (hk:lv.length=k) (hlen:k+1≤1099511627776) (hbase:base≤W0.heap.size):
 ∃ W1 W2 va vb,W0.alloc (.cells (enc x).toArray e)=W1∧Value.slice (some ⟨W0.heap.size,0,none⟩) 1 1=va∧Below base W0 W2∧
   (∀ (base':Nat) (e':TypeId) (size':Nat) (v':Value) (n':Nat) (xs':List Value),e'≠e→W0.ownsRow base' e' size' v' n' xs'→W2.ownsRow base' e' size' v' n' xs')∧
   (Builtin.append_ #[t,t] t #[v,va]).run P W1= .ok vb W2∧W2.ownsRow base e size vb (k+1) ((lv++[x]).flatMap enc)∧ ∃ g c,vb= .slice (some ⟨g,0,none⟩) (k+1) c:=by
 have own0:W0.ownsRow base e size v lv.length (lv.flatMap enc):=by rw [hk];exact own
 obtain⟨g,cc,W2,hrun,own2,hgr,hg⟩:=append_one (enc:=enc) ht hi hz hsz hes hone W0 base v lv x own0 (by omega) (by omega) hbase;obtain⟨W1,hW1⟩: ∃ W1,W0.alloc (.cells (enc x).toArray e)=W1:=⟨_,rfl⟩
 have a1:Below W0.heap.size W0 W1:=by rw [←hW1];exact(Below.refl _ W0).alloc (Nat.le_refl _) _
 have own01:=own0.alloc (.cells (enc x).toArray e);rw [hW1] at hrun hgr own01;rw [hk] at hrun own2;have hll:(lv++[x]).length =k+1:=by simp [hk]
 rw [hll] at own2;refine⟨W1,W2,_,_,hW1,rfl,(a1.mono hbase).grown hgr (Nat.le_trans hbase a1.size) fun q hq=>(own01.lt q hq).1,fun base' e' size' v' n' xs' he h'=>?_,hrun,own2,g,cc,rfl⟩;have h1:W1.ownsRow base' e' size' v' n' xs':=own_keep h' fun k hk=>a1.block k (h'.lt k hk).2;exact own_keep h1 fun k hk=>hgr.block k (h1.lt k hk).2 (own_ne own01 h1 he hk)
end Go.Proofs.YtechdefolfboeaaGreatDoor.B
namespace Go.Proofs.YtechdefolfboeaaGreatDoor
open Go.RowKit B
theorem numFlat (l:List Int):l.flatMap (numE .i64)=l.map (Value.int .i64):=by
 induction l with
 |nil=>rfl
 |cons x l ih=>rw [List.flatMap_cons,ih];rfl
