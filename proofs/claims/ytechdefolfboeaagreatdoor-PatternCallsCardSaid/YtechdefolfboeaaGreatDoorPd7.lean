/- Merged. -/
import Derived.Test.YtechdefolfboeaaGreatDoorPd5
set_option linter.unusedVariables false
set_option linter.unusedSimpArgs false
namespace Go.Proofs.YtechdefolfboeaaGreatDoor.B
open Go.RowKit
theorem dh_ {w:World} {base size n b:Nat} {e T:TypeId} {v:Value} {xs u:List Value} (h:w.ownsRow base e size v n xs) (hB:Bx w b T u) (hT:T≠e): ∀ q,v.ownBlock=some q ->q≠b:=by
 rintro q j rfl;rcases h.2 with⟨rfl,rfl⟩|⟨g,aA,aB,rfl,_,f,_⟩
 ·cases j
 ·have:g=q:=by simpa [Value.ownBlock] using j
  subst this;rw [show w.heap[g]?=_ from hB] at f;cases f;exact hT rfl
theorem hp_ {α:Type} {P:Program} {enc:α ->List Value} {t e:TypeId} {z:Value} {size bytes:Nat} (ht:P.underlying t=some (.slice e)) (hi:(P.info? e).map (fun i=>(i.zero,i.size,i.bytes))=some (some z,size,bytes)) (hz:z.cells.size=size) (hsz:0<size)
 (hes: ∀ x,(enc x).length =size) (hone: ∀ x, ∀ u∈enc x,u.oneCell'=true) (hby:bytes<=127) {W0:World} {bo f k base:Nat} {T:TypeId} {cs:List Value} {v:Value} {lv:List α} (x:α) (hT:T≠e) (b0:Bx W0 bo T cs)
 (own:W0.ownsRow base e size v k (lv.flatMap enc)) (hk:lv.length=k) (hlen:k+1<=1099511627776) (hbase:base<=W0.heap.size) (hbo:base<=bo):
 ∃ W1 W2 W3 va vb,W0.alloc (.cells (enc x).toArray e)=W1/\Value.slice (some ⟨W0.heap.size,0,none⟩) 1 1=va/\W2.setCell ⟨bo,f,none⟩ vb=W3/\Bx W2 bo T cs/\Bx W3 bo T (cs.set f vb)/\Below base W0 W3/\But W2 W3 [bo]/\
   (∀ (base':Nat) (e':TypeId) (size':Nat) (v':Value) (n':Nat) (xs':List Value),T≠e' ->(∀ q,v'.ownBlock=some q ->some q≠v.ownBlock) ->W0.ownsRow base' e' size' v' n' xs' ->W3.ownsRow base' e' size' v' n' xs'/\ ∀ q,v'.ownBlock=some q ->some q≠vb.ownBlock)/\
   (Builtin.append_ #[t,t] t #[v,va]).run P W1= .ok vb W2/\W3.ownsRow base e size vb (k+1) ((lv++[x]).flatMap enc)/\ ∃ g c,vb= .slice (some ⟨g,0,none⟩) (k+1) c:=by
 have J:W0.ownsRow base e size v lv.length (lv.flatMap enc):=by rw [hk];exact own
 obtain⟨g,X,W2,n,p,D,R⟩:=a7_ (enc:=enc) ht hi hz hsz hes hone W0 base v lv x J (by omega) (by omega) hbase;obtain⟨W1,L⟩:=e_ (W0.alloc (.cells (enc x).toArray e));have N:Below W0.heap.size W0 W1:=by rw [<-L];exact(Below.refl _ W0).alloc (Nat.le_refl _) _
 have j:=J.alloc (.cells (enc x).toArray e);rw [L] at n D j;rw [hk] at n p;have U:Bx W1 bo T cs:=b0.below N;have a:=dh_ j U hT;have Q:Bx W2 bo T cs:=U.keep (D.block bo U.lt fun h=>a bo h.symm rfl);have Z:(lv++[x]).length =k+1:=by simp [hk]
 rw [Z] at p;have s:=Q.set f (.slice (some ⟨g,0,none⟩) (k+1) X);have F:But W2 (W2.setCell ⟨bo,f,none⟩ (.slice (some ⟨g,0,none⟩) (k+1) X)) [bo]:=But.of_set _ _ _ (by simp);have M:=ae_ p Q hT F;have G:Below base W0 W2:=(N.mono hbase).grown D (Nat.le_trans hbase N.size) fun q S=>(j.lt q S).1;refine⟨W1,W2,_,_,_,L,rfl,rfl,Q,s,G.trans (F.below (Nat.le_trans hbase G.size) (fun y r=>by simp only [List.mem_singleton] at r;subst r;exact hbo)),F,fun base' e' size' v' n' xs' he d Y=>?_,n,M,g,X,rfl⟩;have b:W1.ownsRow base' e' size' v' n' xs':=bd_ Y fun k hk=>N.block k (Y.lt k hk).2;have h2:W2.ownsRow base' e' size' v' n' xs':=bd_ b fun k hk=>D.block k (b.lt k hk).2 (d k hk);refine⟨ae_ h2 Q he F,fun q S=>?_⟩;have aA:=(Y.lt q S).2;rcases R with R|R
 ·have:=d q S;rw [R] at this;simpa [Value.ownBlock] using this
 ·simp [Value.ownBlock];omega
theorem dt_ {α:Type} {P:Program} {enc:α ->List Value} {t e:TypeId} {z:Value} {size bytes:Nat} (ht:P.underlying t=some (.slice e)) (hi:(P.info? e).map (fun i=>(i.zero,i.size,i.bytes))=some (some z,size,bytes)) (hz:z.cells.size=size) (hsz:0<size)
 (hes: ∀ x,(enc x).length =size) (hone: ∀ x, ∀ u∈enc x,u.oneCell'=true) (hby:bytes<=127) {W0:World} {k base:Nat} {v:Value} {lv:List α} (x:α)
 (own:W0.ownsRow base e size v k (lv.flatMap enc)) (hk:lv.length=k) (hlen:k+1<=1099511627776) (hbase:base<=W0.heap.size):
 ∃ W1 W2 va vb,W0.alloc (.cells (enc x).toArray e)=W1/\Value.slice (some ⟨W0.heap.size,0,none⟩) 1 1=va/\Below base W0 W2/\
   (∀ (base':Nat) (e':TypeId) (size':Nat) (v':Value) (n':Nat) (xs':List Value),e'≠e ->W0.ownsRow base' e' size' v' n' xs' ->W2.ownsRow base' e' size' v' n' xs')/\
   (Builtin.append_ #[t,t] t #[v,va]).run P W1= .ok vb W2/\W2.ownsRow base e size vb (k+1) ((lv++[x]).flatMap enc)/\ ∃ g c,vb= .slice (some ⟨g,0,none⟩) (k+1) c:=by
 have p:W0.ownsRow base e size v lv.length (lv.flatMap enc):=by rw [hk];exact own
 obtain⟨g,M,W2,j,n,D,hg⟩:=a7_ (enc:=enc) ht hi hz hsz hes hone W0 base v lv x p (by omega) (by omega) hbase;obtain⟨W1,y⟩:=e_ (W0.alloc (.cells (enc x).toArray e));have F:Below W0.heap.size W0 W1:=by rw [<-y];exact(Below.refl _ W0).alloc (Nat.le_refl _) _
 have f:=p.alloc (.cells (enc x).toArray e);rw [y] at j D f;rw [hk] at j n;have J:(lv++[x]).length =k+1:=by simp [hk]
 rw [J] at n;refine⟨W1,W2,_,_,y,rfl,(F.mono hbase).grown D (Nat.le_trans hbase F.size) fun q Q=>(f.lt q Q).1,fun base' e' size' v' n' xs' N L=>?_,j,n,g,M,rfl⟩;have G:W1.ownsRow base' e' size' v' n' xs':=bd_ L fun k hk=>F.block k (L.lt k hk).2;exact bd_ G fun k hk=>D.block k (G.lt k hk).2 (b7_ f G N hk)
end Go.Proofs.YtechdefolfboeaaGreatDoor.B
namespace Go.Proofs.YtechdefolfboeaaGreatDoor
open Go.RowKit B
theorem kp_ (l:List Int):l.flatMap (numE .i64)=l.map (Value.int .i64):=by
 induction l with
 |nil=>rfl
 |cons x l ih=>rw [List.flatMap_cons,ih];rfl
