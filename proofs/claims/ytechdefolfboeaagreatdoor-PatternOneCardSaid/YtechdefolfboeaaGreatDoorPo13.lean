/- Merged. -/
import Derived.Test.YtechdefolfboeaaGreatDoorPo7
set_option linter.unusedVariables false
set_option linter.unusedSimpArgs false
namespace Go.Proofs.YtechdefolfboeaaGreatDoor.B
open Go.RowKit B
theorem stepMB {α:Type} {P:Program} {enc:α→List Value} {t e:TypeId} {z:Value} {size bytes:Nat} (ht:P.underlying t=some (.slice e)) (hi:(P.info? e).map (fun i=>(i.zero,i.size,i.bytes))=some (some z,size,bytes)) (hz:z.cells.size=size) (hsz:0<size)
 (hes: ∀ x,(enc x).length =size) (hone: ∀ x, ∀ u∈enc x,u.oneCell'=true) (hby:bytes≤127) {W0:World} {bo f k base:Nat} {T:TypeId} {cs:List Value} {v:Value} {lv:List α} (xs:List α) (hT:T≠e) (b0:Bx W0 bo T cs)
 (own:W0.ownsRow base e size v k (lv.flatMap enc)) (hk:lv.length=k) (hlen:k+xs.length≤1099511627776) (hbase:base≤W0.heap.size) (hbo:base≤bo):
 ∃ W1 W2 W3 va vb,W0.alloc (.cells (xs.flatMap enc).toArray e)=W1∧Value.slice (some ⟨W0.heap.size,0,none⟩) xs.length xs.length=va∧W2.setCell ⟨bo,f,none⟩ vb=W3∧Bx W2 bo T cs∧Bx W3 bo T (cs.set f vb)∧Below base W0 W3∧
   (∀ (base':Nat) (e':TypeId) (size':Nat) (v':Value) (n':Nat) (xs':List Value),T≠e'→e'≠e→W0.ownsRow base' e' size' v' n' xs'→W3.ownsRow base' e' size' v' n' xs')∧
   (Builtin.append_ #[t,t] t #[v,va]).run P W1= .ok vb W2∧W3.ownsRow base e size vb (k+xs.length) ((lv++xs).flatMap enc)∧(∃ A c,vb= .slice A (k+xs.length) c)∧ ∀ (b:Nat) (T':TypeId) (u:List Value),T'≠e→b≠bo→Bx W0 b T' u→Bx W3 b T' u:=by
 subst hk;obtain⟨W1,hW1⟩: ∃ W1,W0.alloc (.cells (xs.flatMap enc).toArray e)=W1:=⟨_,rfl⟩
 have a1:Below W0.heap.size W0 W1:=by rw [←hW1];exact(Below.refl _ W0).alloc (Nat.le_refl _) _
 have own01:=own_below own a1;have hrd:Rd W1 size enc (some ⟨W0.heap.size,0,none⟩) xs.length xs:=by rw [←hW1];exact Rd.lit W0 size enc hes e xs
 obtain⟨vb,W2,hrun,own2,hgr,hg⟩:=own_append ht hi hz hsz hes hone xs.length own01 hrd hlen hby (Nat.le_trans hbase a1.size);have b1:Bx W1 bo T cs:=b0.below a1;have hne:=own_ne_box own01 b1 hT;have b2:Bx W2 bo T cs:=b1.keep (hgr.block bo b1.lt fun h=>hne bo h.symm rfl);have b3:=b2.set f vb;have t23:But W2 (W2.setCell ⟨bo,f,none⟩ vb) [bo]:=But.of_set _ _ _ (by simp);have own3:=own_box own2 b2 hT t23;have hb12:Below base W0 W2:=(a1.mono hbase).grown hgr (Nat.le_trans hbase a1.size) fun q hq=>(own01.lt q hq).1;have hll:(lv++xs).length =lv.length+xs.length:=by simp
 have hbk: ∀ (b:Nat) (T':TypeId) (u:List Value),T'≠e→b≠bo→Bx W0 b T' u→Bx (W2.setCell ⟨bo,f,none⟩ vb) b T' u:=fun b T' u hT' hb h'=>by
  have h1:=h'.below a1;have h2:Bx W2 b T' u:=h1.keep (hgr.block b h1.lt fun h=>own_ne_box own01 h1 hT' b h.symm rfl);exact(t23.keep b h2.lt (by simpa using hb)).trans h2
 refine⟨W1,W2,_,_,vb,hW1,rfl,rfl,b2,b3,hb12.trans (t23.below (Nat.le_trans hbase hb12.size) (fun y hy=>by simp only [List.mem_singleton] at hy;subst hy;exact hbo)),fun base' e' size' v' n' xs' hT' he h'=>?_,hrun,own3,?_,hbk⟩
 ·have h1:W1.ownsRow base' e' size' v' n' xs':=own_keep h' fun k hk=>a1.block k (h'.lt k hk).2;have h2:W2.ownsRow base' e' size' v' n' xs':=own_keep h1 fun k hk=>hgr.block k (h1.lt k hk).2 (own_ne own01 h1 he hk);exact own_box h2 b2 hT' t23
 ·obtain⟨A,c,e,_⟩:=Rd.of_own hes hll own2;exact⟨A,c,e⟩
end Go.Proofs.YtechdefolfboeaaGreatDoor.B
namespace Go.Proofs.YtechdefolfboeaaGreatDoor
namespace B
open Go.RowKit
theorem rd_lits {α:Type} {enc:α→List Value} {size:Nat} (w:World) (hs: ∀ x,(enc x).length =size) (t:TypeId) (L:List α):Rd (w.alloc (.cells (L.flatMap enc).toArray t)) size enc (some ⟨w.heap.size,0,none⟩) L.length L:=Rd.lit w size enc hs t L
section
variable {α:Type} {P:Program} {enc:α→List Value} {t e:TypeId} {z:Value} {size bytes:Nat}
theorem own_row (ht:P.underlying t=some (.slice e)) (hi:(P.info? e).map (fun i=>(i.zero,i.size,i.bytes))=some (some z,size,bytes)) (hzs:z.cells.size=size) (hsz:0<size) (hes: ∀ x,(enc x).length =size) (h1: ∀ x, ∀ u∈enc x,u.oneCell'=true)
 {base:Nat} {w:World} {v:Value} {l r:List α} {A:Option Addr} {m:Nat} (c:Nat) (hown:w.ownsRow base e size v l.length (l.flatMap enc)) (hr:Rd w size enc A m r) (hlen:l.length+m≤1099511627776) (hby:bytes≤127) (hB:base≤w.heap.size):
 ∃ v' w1,(Builtin.append_ #[t,t] t #[v,.slice A m c]).run P w= .ok v' w1∧w1.ownsRow base e size v' (l++r).length ((l++r).flatMap enc)∧Below base w w1:=by
 obtain⟨v',w1,hrun,own,hgr,_⟩:=own_append ht hi hzs hsz hes h1 c hown hr hlen hby hB;exact⟨v',w1,hrun,by rw [List.length_append,hr.len];exact own,(Below.refl _ w).grown hgr hB fun g hg=>(hown.lt g hg).1⟩
theorem own_lits (ht:P.underlying t=some (.slice e)) (hi:(P.info? e).map (fun i=>(i.zero,i.size,i.bytes))=some (some z,size,bytes)) (hzs:z.cells.size=size) (hsz:0<size) (hes: ∀ x,(enc x).length =size) (h1: ∀ x, ∀ u∈enc x,u.oneCell'=true)
 {base:Nat} {w:World} {v:Value} {l:List α} (L:List α) (hown:w.ownsRow base e size v l.length (l.flatMap enc)) (hlen:l.length+L.length≤1099511627776) (hby:bytes≤127) (hB:base≤w.heap.size):
 ∃ v' w1,(Builtin.append_ #[t,t] t #[v,.slice (some ⟨w.heap.size,0,none⟩) L.length L.length]).run P (w.alloc (.cells (L.flatMap enc).toArray e))= .ok v' w1∧w1.ownsRow base e size v' (l++L).length ((l++L).flatMap enc)∧Below base w w1:=by
 have hb:=(Below.refl w.heap.size w).alloc (Nat.le_refl _) (.cells (L.flatMap enc).toArray e);obtain⟨v',w1,hrun,own,hb1⟩:=own_row ht hi hzs hsz hes h1 L.length (hown.alloc (.cells (L.flatMap enc).toArray e)) (rd_lits w hes e L) hlen hby (Nat.le_trans hB hb.size);exact⟨v',w1,hrun,own,(hb.mono hB).trans hb1⟩
end
theorem wpTail_append {P:Program} {w:World} {ops:Array Oper} {C:World→Prop} {rest:List (Nat×Oper)} {o:Oper} {a:Act} {Q:Exit→Act→World→Prop} {k:Nat}
 (hg:o.guard=none) (s x:Operand) (t:TypeId) (hop:o.op=Op.call {callee:=Callee.builtin Builtin.append,args:=#[s,x],argTypes:=#[t,t]}) {v u v':Value} {w':World}
 (hs:a.eval s=v) (hx:a.eval x=u) (hrun:(Builtin.append_ #[t,t] o.type #[v,u]).run P w= .ok v' w') (hC:k=3→C w') (hK:wpTail P ops C Q rest (a.put o.dst v') w'):wpTail P ops C Q ((k,o)::rest) a w:=
 wpTail_one (wpList_append_run hg s x t hop hs hx hrun ⟨hC,hK⟩)
end B
theorem own_lit1 (w:World) (base:Nat) (e:TypeId) (v:Value) (hb:base≤w.heap.size):(w.alloc (.cells #[v] e)).ownsRow base e 1 (.slice (some ⟨w.heap.size,0,none⟩) 1 1) 1 [v]:=
 ⟨rfl,.inr ⟨w.heap.size,1,#[v],rfl,hb,heap_alloc_new w _,Nat.le_refl _,by decide,rfl,rfl⟩⟩
end Go.Proofs.YtechdefolfboeaaGreatDoor
