/- Texts of one chain, merged. -/
import Derived.Laws.OwnMore
import Derived.WalkLawsBesides
import Derived.Handy
import Derived.Deep.Cut
import Derived.Laws.MakeOwn
import Derived.OwnWalk
import Derived.Test.YtechdefolfboeaaGreatDoorCc1
import Derived.Test.YtechdefolfboeaaGreatDoorCc5
import Derived.Test.YtechdefolfboeaaGreatDoorCc8
import Derived.Test.YtechdefolfboeaaGreatDoorCc9
import Derived.Test.YtechdefolfboeaaGreatDoorCc16
import Derived.Test.YtechdefolfboeaaGreatDoorCc24
import Derived.Test.YtechdefolfboeaaGreatDoorCc45
import Derived.Test.YtechdefolfboeaaGreatDoorCc48
import Derived.Test.YtechdefolfboeaaGreatDoorCc51
set_option linter.unusedVariables false
set_option linter.unusedSimpArgs false
set_option maxRecDepth 100000
set_option maxHeartbeats 2000000
namespace Go.Proofs.YtechdefolfboeaaGreatDoor
open Go.RowKit B K
end Go.Proofs.YtechdefolfboeaaGreatDoor
namespace Go.Proofs.YtechdefolfboeaaGreatDoor
open Go.RowKit B
def RowO (base:Nat) (w:World) (v:SlV) (l:List Int):Prop:=w.ownsRow base 3 1 v.v l.length (l.flatMap (numE .i64))
theorem RowO.up {base:Nat} {w w':World} {v:SlV} {l:List Int} (h:RowO base w v l) (hb:Below w.heap.size w w'):RowO base w' v l:=own_below h hb
theorem RowO.base {b0 b1:Nat} {w:World} {v:SlV} {l:List Int} (h:RowO b1 w v l) (hb:b0≤b1):RowO b0 w v l:=own_base h hb
theorem RowO.nil (base:Nat) (w:World):RowO base w (none,0,0) []:=World.ownsRow_nil _ _ _ _
theorem RowO.rd {base:Nat} {w:World} {v:SlV} {l:List Int} (h:RowO base w v l): ∃ A c,v=(A,l.length,c)∧Rd w 1 (numE .i64) A l.length l∧l.length≤c∧c≤9223372036854775807:=by
 obtain⟨A,n,c⟩:=v
 obtain⟨A',c',e,r1,r2,r3⟩:=Rd.of_own num_len rfl h
 injection e with e1 e2 e3
 subst e1 e2 e3
 exact⟨_,_,rfl,r1,r2,r3⟩
section
variable {ε:Type} {T:TypeId} {s f:Nat} {enc:ε→List Value} {sl:ε→SlV}
def ApartO (sl:ε→SlV) (E:List ε):Prop:= ∀ (i j:Nat) a c,i≠j→E[i]?=some a→E[j]?=some c→ ∀ q,(sl a).v.ownBlock =some q→(sl c).v.ownBlock ≠some q
structure PRows (T:TypeId) (s:Nat) (enc:ε→List Value) (sl:ε→SlV) (base:Nat) (w:World) (v:Value) (E:List ε) (R:List (List Int)):Prop where
 row:w.ownsRow base T s v E.length (E.flatMap enc)
 inn:RowsG (fun w e l=>RowO base w (sl e) l) w E R
 apart:ApartO sl E
theorem PRows.below {base:Nat} {w w':World} {v:Value} {E:List ε} {R:List (List Int)} (h:PRows T s enc sl base w v E R) (hb:Below w.heap.size w w'):PRows T s enc sl base w' v E R:=
 ⟨own_below h.row hb,h.inn.up fun e r h=>h.up hb,h.apart⟩
theorem PRows.len {base:Nat} {w:World} {v:Value} {E:List ε} {R:List (List Int)} (h:PRows T s enc sl base w v E R):E.length=R.length:=h.inn.len
theorem set_flat (hs: ∀ e,(enc e).length =s) {e':ε} {u:Value}: ∀ {E:List ε} {j:Nat} {e:ε},E[j]?=some e→f<s→enc e'=(enc e).set f u→(E.set j e').flatMap enc=(E.flatMap enc).set (j*s+f) u:=by
 intro E
 induction E with
 |nil=>intro j e h;simp at h
 |cons x E ih=>
  intro j e h hf he
  cases j with
  |zero=>
   simp at h;subst h
   rw [List.set_cons_zero,List.flatMap_cons,List.flatMap_cons,he,Nat.zero_mul,Nat.zero_add,List.set_append,if_pos (by rw [hs];exact hf)]
  |succ j=>
   rw [List.set_cons_succ,List.flatMap_cons,List.flatMap_cons,ih (by simpa using h) hf he,List.set_append,if_neg (by rw [hs,Nat.succ_mul];omega),hs]
   congr 2
   rw [Nat.succ_mul];omega
theorem PRows.cellAt (hs: ∀ e,(enc e).length =s) {base g n c:Nat} {w:World} {E:List ε} {R:List (List Int)} (h:PRows T s enc sl base w (.slice (some ⟨g,0,none⟩) n c) E R) {j f:Nat} {e:ε} {u:Value} (he:E[j]?=some e) (hf:(enc e)[f]?=some u):w.cell? ⟨g,j*s+f,none⟩=some u:=by
 have hj:=(List.getElem?_eq_some_iff.1 he).1
 have hfs:f<s:=by rw [←hs e];exact(List.getElem?_eq_some_iff.1 hf).1
 have hn:n=E.length:=by
  rcases h.row.2 with⟨h0,_⟩|⟨g0,cap,cur,h0,_⟩
  ·cases h0
  ·cases h0;rfl
 subst hn
 refine(h.row.cellAt _ ?_).trans (flatMap_at hs E j e he f _ hf)
 have:=Nat.mul_le_mul_right s (show j+1≤E.length by omega)
 rw [Nat.succ_mul] at this;omega
theorem PRows.push (hT:3≠T) (hs: ∀ e,(enc e).length =s) (hf: ∀ e,(enc e)[f]?=some (sl e).v) {base g n c:Nat} {w:World} {E:List ε} {R:List (List Int)} (h:PRows T s enc sl base w (.slice (some ⟨g,0,none⟩) n c) E R) {j:Nat} {e:ε} {l:List Int} (he:E[j]?=some e) (hl:R[j]?=some l) (x:Int)
 (hlen:l.length+1≤1099511627776) (hB:base≤w.heap.size):
 ∃ g' c' w2,(Builtin.append_ #[49,49] 49 #[(sl e).v,.slice (some ⟨w.heap.size,0,none⟩) 1 1]).run Tryz.prog (w.alloc (.cells #[.int .i64 x] 3))= .ok (.slice (some ⟨g',0,none⟩) (l.length+1) c') w2∧
   w2.cell? ⟨g,j*s+f,none⟩=some (sl e).v ∧w2.frozen? ⟨g,j*s+f,none⟩=false∧Below base w (w2.setCell ⟨g,j*s+f,none⟩ (.slice (some ⟨g',0,none⟩) (l.length+1) c'))∧
   ∀ e':ε,sl e'=(some ⟨g',0,none⟩,l.length+1,c')→enc e'=(enc e).set f (.slice (some ⟨g',0,none⟩) (l.length+1) c')→
     PRows T s enc sl base (w2.setCell ⟨g,j*s+f,none⟩ (.slice (some ⟨g',0,none⟩) (l.length+1) c')) (.slice (some ⟨g,0,none⟩) n c) (E.set j e') (R.set j (l++[x])):=by
 have hj:=(List.getElem?_eq_some_iff.1 he).1
 have hfs:f<s:=by rw [←hs e];exact(List.getElem?_eq_some_iff.1 (hf e)).1
 have hrow:=h.inn.at_ j e l he hl
 have hn:n=E.length:=by
  rcases h.row.2 with⟨h0,_⟩|⟨g0,cap,cur,h0,_⟩
  ·cases h0
  ·cases h0;rfl
 subst hn
 obtain⟨g',c',w2,hrun,own2,hgr,hnew⟩:=append_one (enc:=numE .i64) Tryz.underlying49 info_tInt rfl (by decide) num_len num_one w base _ l x hrow hlen (by decide) hB
 have ha:=(Below.refl w.heap.size w).alloc (Nat.le_refl _) (.cells (numE .i64 x).toArray 3)
 have hga:g<w.heap.size:=(h.row.lt g rfl).2
 have row1:=own_below h.row ha
 have hneg:(Value.slice (some ⟨g,0,none⟩) E.length c).ownBlock =none∨(Value.slice (some ⟨g,0,none⟩) E.length c).ownBlock ≠(sl e).v.ownBlock := .inr fun h0=>own_ne (own_below hrow ha) row1 hT.symm (k:=g) rfl h0
 have row2:=row1.kept hgr hneg
 have hat:(E.flatMap enc)[j*s+f]?=some (sl e).v :=flatMap_at hs E j e he f _ (hf e)
 have hlt:j*s+f<E.length*s:=by
  have:=Nat.mul_le_mul_right s (show j+1≤E.length by omega)
  rw [Nat.succ_mul] at this;omega
 have hB2:Below base w w2:=(ha.mono hB).grown hgr (Nat.le_trans hB ha.size) (fun k hk=>(hrow.lt k hk).1)
 refine⟨g',c',w2,hrun,(row2.cellAt _ hlt).trans hat,row2.frozenAt _,hB2.setCell (h.row.lt g rfl).1 _,fun e' hsl henc=>⟨?_,?_,?_⟩⟩
 ·have:=(row2.stored (j*s+f) (.slice (some ⟨g',0,none⟩) (l.length+1) c')).1
  rw [List.length_set,set_flat hs he hfs henc]
  exact this
 ·have hset: ∀ (e1:TypeId) (v1:Value) (n1:Nat) (xs:List Value),3=e1→w2.ownsRow base e1 1 v1 n1 xs→(w2.setCell ⟨g,j*s+f,none⟩ (.slice (some ⟨g',0,none⟩) (l.length+1) c')).ownsRow base e1 1 v1 n1 xs:=by
   intro e1 v1 n1 xs he1 h1
   subst he1
   refine own_keep h1 fun k hk=>Below.heap_setCell _ _ _ _ fun hgk=>?_
   have:=own_ne (k:=g) h1 row2 hT.symm rfl
   exact this (by rw [hk];exact congrArg some (show g=k from hgk.symm))
  refine⟨by rw [List.length_set,List.length_set];exact h.inn.len,fun k e1 l1 h1 h2=>?_⟩
  rw [List.getElem?_set] at h1 h2
  by_cases hjk:j=k
  ·subst hjk
   rw [if_pos rfl,if_pos hj] at h1
   rw [if_pos rfl,if_pos (by rw [←h.inn.len];exact hj)] at h2
   cases h1;cases h2
   show World.ownsRow _ _ _ _ _ _ _
   rw [hsl]
   exact hset _ _ _ _ rfl own2
  ·rw [if_neg hjk] at h1 h2
   have h3:=h.inn.at_ k e1 l1 h1 h2
   refine hset _ _ _ _ rfl ((own_below h3 ha).kept hgr ?_)
   cases hq:(sl e1).v.ownBlock with
   |none=>exact .inl rfl
   |some q=>exact .inr fun h0=>h.apart k j e1 e (Ne.symm hjk) h1 he q hq h0.symm
 ·have hnb: ∀ (k:Nat) e1,k≠j→E[k]?=some e1→(sl e1).v.ownBlock ≠some g':=by
   intro k e1 hkj h1 h0
   have hk1:k<R.length:=by rw [←h.inn.len];exact(List.getElem?_eq_some_iff.1 h1).1
   have h3:=h.inn.at_ k e1 _ h1 (List.getElem?_eq_getElem hk1)
   rcases hnew with h4|h4
   ·exact h.apart k j e1 e hkj h1 he g' h0 h4
   ·have:=(h3.lt g' h0).2;omega
  intro i k a b hik hia hkb q hqa hqb
  rw [List.getElem?_set] at hia hkb
  by_cases hji:j=i
  ·subst hji
   rw [if_pos rfl,if_pos hj] at hia
   cases hia
   rw [if_neg hik] at hkb
   rw [hsl] at hqa
   cases hqa
   exact hnb k b (Ne.symm hik) hkb hqb
  ·rw [if_neg hji] at hia
   by_cases hjk:j=k
   ·subst hjk
    rw [if_pos rfl,if_pos hj] at hkb
    cases hkb
    rw [hsl] at hqb
    cases hqb
    exact hnb i a (Ne.symm hji) hia hqa
   ·rw [if_neg hjk] at hkb
    exact h.apart i k a b hik hia hkb q hqa hqb
end
end Go.Proofs.YtechdefolfboeaaGreatDoor
namespace Go.Proofs.YtechdefolfboeaaGreatDoor
open Go.RowKit B K
abbrev PatE:=Int×SlV
def patE (e:PatE):List Value:=[.int .i64 e.1,e.2.v]
theorem patE_len (e:PatE):(patE e).length =2:=rfl
theorem patE_one (e:PatE): ∀ u∈patE e,u.oneCell'=true:=fun u hu=>by simp [patE,SlV.v] at hu;rcases hu with rfl|rfl<;>rfl
theorem info_tPat:(Tryz.prog.info? 68).map (fun i=>(i.zero,i.size,i.bytes))=some (some (.agg #[.int .i64 0,.slice none 0 0]),2,32):=by kernel_rfl
structure PatT (w:World) (e:PatE) (p:PatP):Prop where
 rt:e.1=p.rt
 rd:Rd w 1 (numE .i64) e.2.1 e.2.2.1 p.runs
 cap:e.2.2.1≤e.2.2.2∧e.2.2.2≤9223372036854775807
theorem PatT.below {w w':World} {e:PatE} {p:PatP} (h:PatT w e p) (hb:Below w.heap.size w w'):PatT w' e p:=⟨h.rt,h.rd.below hb,h.cap⟩
structure RPats (w:World) (A:Option Addr) (n:Nat) (P:List PatP):Prop where
 ex: ∃ E:List PatE,Rd w 2 patE A n E∧RowsG PatT w E P
section
variable {w w':World} {A:Option Addr} {n:Nat} {P:List PatP}
theorem RPats.below (h:RPats w A n P) (hb:Below w.heap.size w w'):RPats w' A n P:=by
 obtain⟨E,h1,h2⟩:=h.ex
 exact⟨E,h1.below hb,h2.up fun e r h=>h.below hb⟩
theorem RPats.len (h:RPats w A n P):P.length=n:=by
 obtain⟨E,h1,h2⟩:=h.ex
 rw [←h2.len];exact h1.len
theorem RPats.nil:RPats w none 0 []:=⟨[],Rd.nil,RowsG.nil⟩
theorem RPats.get (h:RPats w A n P) {k:Nat} (hk:k<n): ∃ b o p A1 n1 c1,A=some ⟨b,o,none⟩∧b<w.heap.size∧P[k]?=some p∧w.cell? ⟨b,o+k*2,none⟩=some (.int .i64 p.rt)∧w.cell? ⟨b,o+k*2+1,none⟩=some (.slice A1 n1 c1)∧Rd w 1 (numE .i64) A1 n1 p.runs∧(n1≤c1∧c1≤9223372036854775807):=by
 have hlen:=h.len
 obtain⟨E,h1,h2⟩:=h.ex
 obtain⟨b,o,e,rfl,hb,he,hc⟩:=h1.get hk
 have hr:P[k]?=some P[k]:=List.getElem?_eq_getElem (by omega)
 have ht:=h2.at_ k e _ he hr
 obtain⟨e1,a1,a2,a3⟩:=e
 have c0:=hc 0 _ rfl
 have c1:=hc 1 _ rfl
 have t1:=ht.rt
 simp only at t1
 rw [Nat.add_zero] at c0
 exact⟨b,o,P[k],a1,a2,a3,rfl,hb,hr,by rw [←t1];exact c0,c1,ht.rd,ht.cap⟩
end
def PatsO (base:Nat) (w:World) (v:Value) (P:List PatP):Prop:= ∃ E:List PatE,PRows 68 2 patE Prod.snd base w v E (P.map PatP.runs)∧E.map Prod.fst=P.map PatP.rt
def PatsM (base:Nat) (w:World) (v:Value) (P:List PatP):Prop:= ∃ E:List PatE,w.ownsRow base 68 2 v E.length (E.flatMap patE)∧RowsG (fun w e l=>RowO base w e.2 l) w E (P.map PatP.runs)∧E.map Prod.fst=P.map PatP.rt
section
variable {w w':World} {base:Nat} {v:Value} {P Q:List PatP}
theorem PatsO.below (h:PatsO base w v P) (hb:Below w.heap.size w w'):PatsO base w' v P:=by
 obtain⟨E,h1,h2⟩:=h
 exact⟨E,h1.below hb,h2⟩
theorem PatsM.below (h:PatsM base w v P) (hb:Below w.heap.size w w'):PatsM base w' v P:=by
 obtain⟨E,h1,h2,h3⟩:=h
 exact⟨E,own_below h1 hb,h2.up fun e l h=>h.up hb,h3⟩
theorem PatsO.m (h:PatsO base w v P):PatsM base w v P:=by
 obtain⟨E,h1,h2⟩:=h
 exact⟨E,h1.row,h1.inn,h2⟩
theorem PatsO.nil:PatsO base w (.slice none 0 0) []:=⟨[],⟨World.ownsRow_nil _ _ _ _,RowsG.nil,fun i j a c _ h=>by simp at h⟩,rfl⟩
theorem PatsM.nil:PatsM base w (.slice none 0 0) []:=PatsO.nil.m
theorem PatsO.new (h:PatsO base w v P) (rt:Int) (hlen:P.length+1≤1099511627776) (hB:base≤w.heap.size):
 ∃ v' w1,(Builtin.append_ #[63,63] 63 #[v,.slice (some ⟨w.heap.size,0,none⟩) 1 1]).run Tryz.prog (w.alloc (.cells #[.int .i64 rt,.slice none 0 0] 68))= .ok v' w1∧PatsO base w1 v' (P++[⟨rt,[]⟩])∧Below base w w1∧ ∀ k u,Bx w k 3 u→Bx w1 k 3 u:=by
 obtain⟨E,h1,h2⟩:=h
 have hl:E.length=P.length:=by rw [h1.len,List.length_map]
 obtain⟨g,c,w1,hrun,own1,hgr,hnew⟩:=append_one (enc:=patE) Tryz.underlying63 info_tPat rfl (by decide) patE_len patE_one w base v E (rt,none,0,0) h1.row (by omega) (by decide) hB
 have ha:=(Below.refl w.heap.size w).alloc (Nat.le_refl _) (.cells (patE (rt,none,0,0)).toArray 68)
 have hb1:Below base w w1:=(ha.mono hB).grown hgr (Nat.le_trans hB ha.size) (fun k hk=>(h1.row.lt k hk).1)
 refine⟨_,w1,hrun,⟨E++[(rt,none,0,0)],⟨?_,?_,?_⟩,by simp [h2]⟩,hb1,fun k u hB=>(hB.below ha).keep (hgr.block k (Nat.lt_of_lt_of_le hB.lt ha.size) fun h0=>?_)⟩
 ·rw [List.length_append] at own1 ⊢
  exact own1
 ·rw [List.map_append]
  have hk:RowsG (fun w e l=>RowO base w (Prod.snd e) l) w1 E (P.map PatP.runs):=by
   refine⟨h1.inn.len,fun k e l he hl=>?_⟩
   have h3:=h1.inn.at_ k e l he hl
   refine(own_below h3 ha).kept hgr ?_
   cases hq:(Prod.snd e:SlV).v.ownBlock with
   |none=>exact .inl rfl
   |some q=>exact .inr fun h0=>own_ne (own_below h1.row ha) (own_below h3 ha) (k:=q) (by decide) hq h0
  exact hk.snoc (RowO.nil _ _)
 ·intro i j a b hij ha hb q hqa hqb
  have key: ∀ (i:Nat) (a:PatE),(E++[(rt,(none,0,0))])[i]?=some a→(Prod.snd a:SlV).v.ownBlock =some q→E[i]?=some a:=by
   intro i a ha hq
   rcases Nat.lt_or_ge i E.length with hi|hi
   ·rwa [List.getElem?_append_left hi] at ha
   ·rw [List.getElem?_append_right hi] at ha
    have hk0:i-E.length=0:=by have:=(List.getElem?_eq_some_iff.1 ha).1;simp at this;omega
    rw [hk0] at ha
    simp at ha;subst ha
    simp [SlV.v,Value.ownBlock] at hq
  exact h1.apart i j a b hij (key i a ha hqa) (key j b hb hqb) q hqa hqb
 ·rcases h1.row.2 with⟨rfl,_⟩|⟨g,cap,cur,rfl,_,hh,_⟩
  ·cases h0
  ·cases h0
   rw [show w.heap[g]?=_ from hB] at hh
   injection hh with hh
   injection hh with _ h5
   exact absurd h5 (by decide)
theorem PatsO.push (h:PatsO base w v P) {j:Nat} {p:PatP} (hp:P[j]?=some p) (x:Int) (hlen:p.runs.length+1≤1099511627776) (hB:base≤w.heap.size):
 ∃ g c A1 c1 g' c' w2,v= .slice (some ⟨g,0,none⟩) P.length c∧base≤g∧g<w.heap.size∧P.length≤c∧c≤9223372036854775807∧w.cell? ⟨g,j*2+1,none⟩=some (.slice A1 p.runs.length c1)∧
   (Builtin.append_ #[49,49] 49 #[.slice A1 p.runs.length c1,.slice (some ⟨w.heap.size,0,none⟩) 1 1]).run Tryz.prog (w.alloc (.cells #[.int .i64 x] 3))= .ok (.slice (some ⟨g',0,none⟩) (p.runs.length+1) c') w2∧
   w2.cell? ⟨g,j*2+1,none⟩=some (.slice A1 p.runs.length c1)∧w2.frozen? ⟨g,j*2+1,none⟩=false∧Below base w (w2.setCell ⟨g,j*2+1,none⟩ (.slice (some ⟨g',0,none⟩) (p.runs.length+1) c'))∧
   PatsO base (w2.setCell ⟨g,j*2+1,none⟩ (.slice (some ⟨g',0,none⟩) (p.runs.length+1) c')) v (P.modify j fun p=>⟨p.rt,p.runs++[x]⟩):=by
 obtain⟨E,h1,h2⟩:=h
 have hl:E.length=P.length:=by rw [h1.len,List.length_map]
 have hj:=(List.getElem?_eq_some_iff.1 hp).1
 obtain⟨e,he⟩: ∃ e,E[j]?=some e:=⟨_,List.getElem?_eq_getElem (by omega)⟩
 have hpl:(P.map PatP.runs)[j]?=some p.runs:=by rw [List.getElem?_map,hp];rfl
 obtain⟨g,c,hv,hcl,hcm⟩: ∃ g c,v= .slice (some ⟨g,0,none⟩) P.length c∧P.length≤c∧c≤9223372036854775807:=by
  rcases h1.row.2 with⟨h0,h3⟩|⟨g,cap,cur,rfl,_,_,h3,h4,_⟩
  ·omega
  ·exact⟨g,cap,by rw [hl],by omega,h4⟩
 subst hv
 have hg:=h1.row.lt g rfl
 obtain⟨A1,c1,e1,q1,q2,q3⟩:=(h1.inn.at_ j e _ he hpl).rd
 have hsl:(Prod.snd e:SlV).v = .slice A1 p.runs.length c1:=by rw [e1];rfl
 obtain⟨g',c',w2,hrun,k1,k2,k3,k4⟩:=h1.push (f:=1) (by decide) patE_len (fun e=>rfl) he hpl x hlen hB
 rw [hsl] at hrun k1
 have hat:w.cell? ⟨g,j*2+1,none⟩=some (.slice A1 p.runs.length c1):=by
  rw [←hsl]
  have hrow:=h1.row
  rw [hl] at hrow
  exact(hrow.cellAt _ (by omega)).trans (flatMap_at patE_len E j e he 1 _ rfl)
 refine⟨g,c,A1,c1,g',c',w2,rfl,hg.1,hg.2,hcl,hcm,hat,hrun,k1,k2,k3,⟨_,by
  have:=k4 (e.1,some ⟨g',0,none⟩,p.runs.length+1,c') rfl rfl
  have e2:(P.modify j fun p=>⟨p.rt,p.runs++[x]⟩).map PatP.runs=(P.map PatP.runs).set j (p.runs++[x]):=by
   refine List.ext_getElem? fun k=>?_
   rw [List.getElem?_map,List.getElem?_modify,List.getElem?_set,List.getElem?_map]
   by_cases hjk:j=k
   ·subst hjk;simp [hj,(List.getElem?_eq_some_iff.1 hp).2]
   ·simp [hjk]
  rw [e2]
  exact this,?_⟩⟩
 refine List.ext_getElem? fun k=>?_
 have hf:(E.map Prod.fst)[k]?=(P.map PatP.rt)[k]?:=by rw [h2]
 rw [List.getElem?_map,List.getElem?_map] at hf
 rw [List.getElem?_map,List.getElem?_set,List.getElem?_map,List.getElem?_modify]
 by_cases hjk:j=k
 ·subst hjk
  rw [he,hp] at hf
  simp only [if_true,if_pos (show j<E.length by omega),Option.map_some,hp]
  exact hf
 ·simp [hjk] at hf ⊢
  exact hf
theorem PatsM.append (h:PatsM base w v P) {A:Option Addr} {m c:Nat} (hQ:PatsM base w (.slice A m c) Q) (hlen:P.length+m≤1099511627776) (hB:base≤w.heap.size):
 ∃ v' w1,(Builtin.append_ #[63,63] 63 #[v,.slice A m c]).run Tryz.prog w= .ok v' w1∧PatsM base w1 v' (P++Q)∧Below base w w1∧w.grownBy w1 v.ownBlock:=by
 obtain⟨E,h1,h2,h3⟩:=h
 obtain⟨F,k1,k2,k3⟩:=hQ
 have hl:E.length=P.length:=by rw [h2.len,List.length_map]
 have hm:m=F.length:=by
  rcases k1.2 with⟨h0,h4⟩|⟨g,cap,cur,h0,_⟩
  ·cases h0;exact h4.symm
  ·cases h0;rfl
 subst hm
 obtain⟨A',c',e',r1,r2,r3⟩:=Rd.of_own patE_len rfl k1
 injection e' with e1 e2 e3
 subst e1 e3
 obtain⟨v',w1,hrun,own1,hgr,hnew⟩:=own_append (enc:=patE) Tryz.underlying63 info_tPat rfl (by decide) patE_len patE_one c h1 r1 (by omega) (by decide) hB
 have key: ∀ (E:List PatE) (R:List (List Int)),RowsG (fun w e l=>RowO base w (Prod.snd e) l) w E R→RowsG (fun w e l=>RowO base w (Prod.snd e) l) w1 E R:=by
  intro E' R hR
  refine⟨hR.len,fun k e l he hl=>?_⟩
  have h3:=hR.at_ k e l he hl
  refine World.ownsRow.kept h3 hgr ?_
  cases hq:(Prod.snd e:SlV).v.ownBlock with
  |none=>exact .inl rfl
  |some q=>exact .inr fun h0=>own_ne h1 h3 (k:=q) (by decide) hq h0
 refine⟨v',w1,hrun,⟨E++F,by rw [List.length_append];exact own1,?_,by rw [List.map_append,List.map_append,h3,k3]⟩,(Below.refl w.heap.size w).mono hB|>.grown hgr hB (fun k hk=>(h1.lt k hk).1),hgr⟩
 rw [List.map_append]
 have a1:=key _ _ h2
 have a2:=key _ _ k2
 refine⟨by rw [List.length_append,List.length_append,a1.len,a2.len],fun k e l he hl2=>?_⟩
 rcases Nat.lt_or_ge k E.length with hk|hk
 ·rw [List.getElem?_append_left hk] at he
  rw [List.getElem?_append_left (by rw [←a1.len];exact hk)] at hl2
  exact a1.at_ k e l he hl2
 ·rw [List.getElem?_append_right hk] at he
  rw [List.getElem?_append_right (by rw [←a1.len];exact hk),←a1.len] at hl2
  exact a2.at_ _ e l he hl2
theorem PatsM.low {b:Nat} (h:PatsM base w v P) (hb:b≤base):PatsM b w v P:=by
 obtain⟨E,h1,h2,h3⟩:=h
 exact⟨E,own_base h1 hb,⟨h2.len,fun k e r h h'=>(h2.at_ k e r h h').base hb⟩,h3⟩
end
end Go.Proofs.YtechdefolfboeaaGreatDoor
namespace Go.Proofs.YtechdefolfboeaaGreatDoor
open Go.RowKit B
namespace B
structure GC (w0:World) (T:TypeId) (Z A B:List Value) (f g fa gb:Bool) (x y:Value) (w:World):Prop where
 bel:Below w0.heap.size w0 w
 im:fa=true→f=true
 im':gb=true→g=true
 a:f=true→ ∃ b,x= .pointer (some ⟨b,0,none⟩)∧w0.heap.size≤b∧Bx w b T (if fa=true then A else Z)
 b:g=true→ ∃ b,y= .pointer (some ⟨b,0,none⟩)∧w0.heap.size≤b∧Bx w b T (if gb=true then B else Z)
 ne:f=true→g=true→x≠y
section
variable {w0 w w':World} {T:TypeId} {Z A B:List Value} {f g fa gb:Bool} {x y:Value}
theorem GC.start (h1:f=false) (h2:g=false) (h3:fa=false) (h4:gb=false):GC w0 T Z A B f g fa gb x y {w0 with drawn:=w0.drawn+1}:=
 ⟨⟨rfl,rfl,rfl,Nat.le_refl _,fun _ _=>rfl⟩,fun h=>(by rw [h3] at h;cases h),fun h=>(by rw [h4] at h;cases h),fun h=>(by rw [h1] at h;cases h),fun h=>(by rw [h2] at h;cases h),fun h=>(by rw [h1] at h;cases h)⟩
end
end B
end Go.Proofs.YtechdefolfboeaaGreatDoor
namespace Go.Proofs.YtechdefolfboeaaGreatDoor
open Go.RowKit B K
structure RunsK (w:World) (A:Option Addr) (n:Nat) (L:List RunP):Prop where
 rr:RRuns w A n L
 n5:n≤100000
 short: ∀ r∈L,r.arr.length≤1099511627776∧r.dep.length≤1099511627776
theorem RunsK.below {w w':World} {A:Option Addr} {n:Nat} {L:List RunP} (h:RunsK w A n L) (hb:Below w.heap.size w w'):RunsK w' A n L:=⟨h.rr.below hb,h.n5,h.short⟩
def slE1 (s:SlV):List Value:=[s.v]
theorem PRows.new (w:World) (n:Nat) (hn:n≤1099511627776):PRows 49 1 slE1 id w.heap.size (w.alloc (.cells (madeCells #[.slice none 0 0] n) 49)) (.slice (some ⟨w.heap.size,0,none⟩) n n) (List.replicate n (none,0,0)) (List.replicate n []):=by
 refine⟨?_,⟨by simp,fun k e r he hr=>?_⟩,fun i j a c hij ha hc q hqa=>?_⟩
 ·rw [List.length_replicate]
  have hf: ∀ n,(List.replicate n ((none,0,0):SlV)).flatMap slE1=List.replicate n (.slice none 0 0):=by
   intro n
   induction n with
   |zero=>rfl
   |succ n ih=>rw [List.replicate_succ,List.flatMap_cons,ih,List.replicate_succ];rfl
  have hm:(madeCells #[.slice none 0 0] n).toList =List.replicate n (.slice none 0 0):=by
   refine List.ext_getElem? fun i=>?_
   unfold madeCells
   rw [Array.getElem?_toList,Array.getElem?_map,List.getElem?_replicate]
   split
   ·rename_i h
    rw [Array.getElem?_eq_getElem (by simpa using h)]
    simp
    rw [Nat.mod_one];rfl
   ·rename_i h
    rw [Array.getElem?_eq_none (by simpa using h)];rfl
  rw [hf]
  refine⟨by simp,.inr ⟨w.heap.size,n,_,rfl,Nat.le_refl _,heap_alloc_new w _,Nat.le_refl _,by rw [maxLen_num];omega,?_,?_⟩⟩
  ·rw [←Array.length_toList,hm];simp
  ·rw [hm];simp
 ·rw [List.getElem?_replicate] at he hr
  split at he
  ·rename_i h1
   rw [if_pos h1] at hr
   cases he;cases hr
   exact RowO.nil _ _
  ·cases he
 ·rw [List.getElem?_replicate] at ha
  split at ha
  ·cases ha
   simp [SlV.v,Value.ownBlock] at hqa
  ·cases ha
end Go.Proofs.YtechdefolfboeaaGreatDoor
