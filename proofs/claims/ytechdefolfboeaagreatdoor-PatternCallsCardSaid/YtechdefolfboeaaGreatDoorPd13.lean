/- Merged. -/
import Derived.Test.YtechdefolfboeaaGreatDoorPd7
set_option linter.unusedVariables false
set_option linter.unusedSimpArgs false
namespace Go.Proofs.YtechdefolfboeaaGreatDoor.B
open Go.RowKit B
theorem pE_ {α:Type} {P:Program} {enc:α ->List Value} {t e:TypeId} {z:Value} {size bytes:Nat} (ht:P.underlying t=some (.slice e)) (hi:(P.info? e).map (fun i=>(i.zero,i.size,i.bytes))=some (some z,size,bytes)) (hz:z.cells.size=size) (hsz:0<size)
 (hes: ∀ x,(enc x).length =size) (hone: ∀ x, ∀ u∈enc x,u.oneCell'=true) (hby:bytes<=127) {W0:World} {bo f k base:Nat} {T:TypeId} {cs:List Value} {v:Value} {lv:List α} (xs:List α) (hT:T≠e) (b0:Bx W0 bo T cs)
 (own:W0.ownsRow base e size v k (lv.flatMap enc)) (hk:lv.length=k) (hlen:k+xs.length<=1099511627776) (hbase:base<=W0.heap.size) (hbo:base<=bo):
 ∃ W1 W2 W3 va vb,W0.alloc (.cells (xs.flatMap enc).toArray e)=W1/\Value.slice (some ⟨W0.heap.size,0,none⟩) xs.length xs.length=va/\W2.setCell ⟨bo,f,none⟩ vb=W3/\Bx W2 bo T cs/\Bx W3 bo T (cs.set f vb)/\Below base W0 W3/\
   (∀ (base':Nat) (e':TypeId) (size':Nat) (v':Value) (n':Nat) (xs':List Value),T≠e' ->e'≠e ->W0.ownsRow base' e' size' v' n' xs' ->W3.ownsRow base' e' size' v' n' xs')/\
   (Builtin.append_ #[t,t] t #[v,va]).run P W1= .ok vb W2/\W3.ownsRow base e size vb (k+xs.length) ((lv++xs).flatMap enc)/\(∃ A c,vb= .slice A (k+xs.length) c)/\ ∀ (b:Nat) (T':TypeId) (u:List Value),T'≠e ->b≠bo ->Bx W0 b T' u ->Bx W3 b T' u:=by
 subst hk;obtain⟨W1,L⟩:=e_ (W0.alloc (.cells (xs.flatMap enc).toArray e));have F:Below W0.heap.size W0 W1:=by rw [<-L];exact(Below.refl _ W0).alloc (Nat.le_refl _) _
 have g:=aa_ own F;have a:Rd W1 size enc (some ⟨W0.heap.size,0,none⟩) xs.length xs:=by rw [<-L];exact Rd.lit W0 size enc hes e xs
 obtain⟨vb,W2,M,D,j,hg⟩:=a9_ ht hi hz hsz hes hone xs.length g a hlen hby (Nat.le_trans hbase F.size);have U:Bx W1 bo T cs:=b0.below F;have Z:=dh_ g U hT;have Q:Bx W2 bo T cs:=U.keep (j.block bo U.lt fun h=>Z bo h.symm rfl);have r:=Q.set f vb;have n:But W2 (W2.setCell ⟨bo,f,none⟩ vb) [bo]:=But.of_set _ _ _ (by simp);have N:=ae_ D Q hT n;have p:Below base W0 W2:=(F.mono hbase).grown j (Nat.le_trans hbase F.size) fun q hq=>(g.lt q hq).1;have Y:(lv++xs).length =lv.length+xs.length:=by simp
 have X: ∀ (b:Nat) (T':TypeId) (u:List Value),T'≠e ->b≠bo ->Bx W0 b T' u ->Bx (W2.setCell ⟨bo,f,none⟩ vb) b T' u:=fun b T' u J s R=>by
  have G:=R.below F;have S:Bx W2 b T' u:=G.keep (j.block b G.lt fun h=>dh_ g G J b h.symm rfl);exact(n.keep b S.lt (by simpa using s)).trans S
 refine⟨W1,W2,_,_,vb,L,rfl,rfl,Q,r,p.trans (n.below (Nat.le_trans hbase p.size) (fun y d=>by simp only [List.mem_singleton] at d;subst d;exact hbo)),fun base' e' size' v' n' xs' J he R=>?_,M,N,?_,X⟩
 ·have G:W1.ownsRow base' e' size' v' n' xs':=bd_ R fun k hk=>F.block k (R.lt k hk).2;have S:W2.ownsRow base' e' size' v' n' xs':=bd_ G fun k hk=>j.block k (G.lt k hk).2 (b7_ g G he hk);exact ae_ S Q J n
 ·obtain⟨A,c,e,_⟩:=Rd.of_own hes Y D;exact⟨A,c,e⟩
end Go.Proofs.YtechdefolfboeaaGreatDoor.B
namespace Go.Proofs.YtechdefolfboeaaGreatDoor
namespace B
open Go.RowKit
theorem o3_ {α:Type} {enc:α ->List Value} {size:Nat} (w:World) (hs: ∀ x,(enc x).length =size) (t:TypeId) (L:List α):Rd (w.alloc (.cells (L.flatMap enc).toArray t)) size enc (some ⟨w.heap.size,0,none⟩) L.length L:=Rd.lit w size enc hs t L
section
variable {α:Type} {P:Program} {enc:α ->List Value} {t e:TypeId} {z:Value} {size bytes:Nat}
theorem f7_ (ht:P.underlying t=some (.slice e)) (hi:(P.info? e).map (fun i=>(i.zero,i.size,i.bytes))=some (some z,size,bytes)) (hzs:z.cells.size=size) (hsz:0<size) (hes: ∀ x,(enc x).length =size) (h1: ∀ x, ∀ u∈enc x,u.oneCell'=true)
 {base:Nat} {w:World} {v:Value} {l r:List α} {A:Option Addr} {m:Nat} (c:Nat) (hown:w.ownsRow base e size v l.length (l.flatMap enc)) (hr:Rd w size enc A m r) (hlen:l.length+m<=1099511627776) (hby:bytes<=127) (hB:base<=w.heap.size):
 ∃ v' w1,(Builtin.append_ #[t,t] t #[v,.slice A m c]).run P w= .ok v' w1/\w1.ownsRow base e size v' (l++r).length ((l++r).flatMap enc)/\Below base w w1:=by
 obtain⟨v',w1,f,own,j,_⟩:=a9_ ht hi hzs hsz hes h1 c hown hr hlen hby hB;exact⟨v',w1,f,by rw [List.length_append,hr.len];exact own,(Below.refl _ w).grown j hB fun g n=>(hown.lt g n).1⟩
theorem bI_ (ht:P.underlying t=some (.slice e)) (hi:(P.info? e).map (fun i=>(i.zero,i.size,i.bytes))=some (some z,size,bytes)) (hzs:z.cells.size=size) (hsz:0<size) (hes: ∀ x,(enc x).length =size) (h1: ∀ x, ∀ u∈enc x,u.oneCell'=true)
 {base:Nat} {w:World} {v:Value} {l:List α} (L:List α) (hown:w.ownsRow base e size v l.length (l.flatMap enc)) (hlen:l.length+L.length<=1099511627776) (hby:bytes<=127) (hB:base<=w.heap.size):
 ∃ v' w1,(Builtin.append_ #[t,t] t #[v,.slice (some ⟨w.heap.size,0,none⟩) L.length L.length]).run P (w.alloc (.cells (L.flatMap enc).toArray e))= .ok v' w1/\w1.ownsRow base e size v' (l++L).length ((l++L).flatMap enc)/\Below base w w1:=by
 have j:=(Below.refl w.heap.size w).alloc (Nat.le_refl _) (.cells (L.flatMap enc).toArray e);obtain⟨v',w1,f,own,g⟩:=f7_ ht hi hzs hsz hes h1 L.length (hown.alloc (.cells (L.flatMap enc).toArray e)) (o3_ w hes e L) hlen hby (Nat.le_trans hB j.size);exact⟨v',w1,f,own,(j.mono hB).trans g⟩
end
theorem du_ {P:Program} {w:World} {ops:Array Oper} {C:World ->Prop} {rest:List (Nat×Oper)} {o:Oper} {a:Act} {Q:Exit ->Act ->World ->Prop} {k:Nat}
 (hg:o.guard=none) (s x:Operand) (t:TypeId) (hop:o.op=Op.call {callee:=Callee.builtin Builtin.append,args:=#[s,x],argTypes:=#[t,t]}) {v u v':Value} {w':World}
 (hs:a.eval s=v) (hx:a.eval x=u) (hrun:(Builtin.append_ #[t,t] o.type #[v,u]).run P w= .ok v' w') (hC:k=3 ->C w') (hK:cs_ P ops C Q rest (a.put o.dst v') w'):cs_ P ops C Q ((k,o)::rest) a w:=
 ht_ (cH_ hg s x t hop hs hx hrun ⟨hC,hK⟩)
end B
theorem n9_ (w:World) (base:Nat) (e:TypeId) (v:Value) (hb:base<=w.heap.size):(w.alloc (.cells #[v] e)).ownsRow base e 1 (.slice (some ⟨w.heap.size,0,none⟩) 1 1) 1 [v]:=
 ⟨rfl,.inr ⟨w.heap.size,1,#[v],rfl,hb,heap_alloc_new w _,Nat.le_refl _,by decide,rfl,rfl⟩⟩
