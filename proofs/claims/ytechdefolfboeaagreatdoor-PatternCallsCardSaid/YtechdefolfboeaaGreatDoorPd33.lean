/- Merged. -/
import Derived.Test.YtechdefolfboeaaGreatDoorPd26
import Derived.Test.YtechdefolfboeaaGreatDoorPd32
set_option linter.unusedVariables false
set_option linter.unusedSimpArgs false
set_option maxRecDepth 100000
set_option maxHeartbeats 2000000
namespace Go.Proofs.YtechdefolfboeaaGreatDoor
open Go.RowKit B
def RowO (base:Nat) (w:World) (v:SlV) (l:List Int):Prop:=w.ownsRow base 3 1 v.v l.length (l.flatMap (numE .i64))
theorem RowO.up {base:Nat} {w w':World} {v:SlV} {l:List Int} (h:RowO base w v l) (hb:Below w.heap.size w w'):RowO base w' v l:=aa_ h hb
theorem RowO.base {b0 b1:Nat} {w:World} {v:SlV} {l:List Int} (h:RowO b1 w v l) (hb:b0<=b1):RowO b0 w v l:=aB_ h hb
theorem RowO.nil (base:Nat) (w:World):RowO base w (none,0,0) []:=World.ownsRow_nil _ _ _ _
theorem RowO.rd {base:Nat} {w:World} {v:SlV} {l:List Int} (h:RowO base w v l): ∃ A c,v=(A,l.length,c)/\Rd w 1 (numE .i64) A l.length l/\l.length<=c/\c<=9223372036854775807:=by
 obtain⟨A,n,c⟩:=v;obtain⟨A',c',e,f,g,j⟩:=Rd.of_own aj_ rfl h
 injection e with e1 e2 e3
 subst e1 e2 e3;exact⟨_,_,rfl,f,g,j⟩
section
variable {ε:Type} {T:TypeId} {s f:Nat} {enc:ε ->List Value} {sl:ε ->SlV}
def pc_ (sl:ε ->SlV) (E:List ε):Prop:= ∀ (i j:Nat) a c,i≠j ->E[i]?=some a ->E[j]?=some c -> ∀ q,(sl a).v.ownBlock =some q ->(sl c).v.ownBlock ≠some q
structure bY_ (T:TypeId) (s:Nat) (enc:ε ->List Value) (sl:ε ->SlV) (base:Nat) (w:World) (v:Value) (E:List ε) (R:List (List Int)):Prop where
 row:w.ownsRow base T s v E.length (E.flatMap enc)
 inn:aD_ (fun w e l=>RowO base w (sl e) l) w E R
 apart:pc_ sl E
theorem bY_.below {base:Nat} {w w':World} {v:Value} {E:List ε} {R:List (List Int)} (h:bY_ T s enc sl base w v E R) (hb:Below w.heap.size w w'):bY_ T s enc sl base w' v E R:=
 ⟨aa_ h.row hb,h.inn.up fun e r h=>h.up hb,h.apart⟩
theorem bY_.len {base:Nat} {w:World} {v:Value} {E:List ε} {R:List (List Int)} (h:bY_ T s enc sl base w v E R):E.length=R.length:=h.inn.len
theorem ol_ (hs: ∀ e,(enc e).length =s) {e':ε} {u:Value}: ∀ {E:List ε} {j:Nat} {e:ε},E[j]?=some e ->f<s ->enc e'=(enc e).set f u ->(E.set j e').flatMap enc=(E.flatMap enc).set (j*s+f) u:=by
 intro E
 induction E with
 |nil=>intro j e h;simp at h
 |cons x E ih=>
  intro j e h n g
  cases j with
  |zero=>
   simp at h;subst h;rw [List.set_cons_zero,List.flatMap_cons,List.flatMap_cons,g,Nat.zero_mul,Nat.zero_add,List.set_append,if_pos (by rw [hs];exact n)]
  |succ j=>
   rw [List.set_cons_succ,List.flatMap_cons,List.flatMap_cons,ih (by simpa using h) n g,List.set_append,if_neg (by rw [hs,Nat.succ_mul];omega),hs]
   congr 2
   rw [Nat.succ_mul];omega
theorem bY_.cellAt (hs: ∀ e,(enc e).length =s) {base g n c:Nat} {w:World} {E:List ε} {R:List (List Int)} (h:bY_ T s enc sl base w (.slice (some ⟨g,0,none⟩) n c) E R) {j f:Nat} {e:ε} {u:Value} (he:E[j]?=some e) (hf:(enc e)[f]?=some u):w.cell? ⟨g,j*s+f,none⟩=some u:=by
 have hj:=(List.getElem?_eq_some_iff.1 he).1;have aC:f<s:=by rw [<-hs e];exact(List.getElem?_eq_some_iff.1 hf).1
 have q:n=E.length:=by
  rcases h.row.2 with⟨p,_⟩|⟨g0,aA,aB,p,_⟩
  ·cases p
  ·cases p;rfl
 subst q;refine(h.row.cellAt _ ?_).trans (a8_ hs E j e he f _ hf);have:=Nat.mul_le_mul_right s (show j+1<=E.length by omega);rw [Nat.succ_mul] at this;omega
theorem bY_.pushK (hT:3≠T) (hs: ∀ e,(enc e).length =s) (hf: ∀ e,(enc e)[f]?=some (sl e).v) {base g n c:Nat} {w:World} {E:List ε} {R:List (List Int)} (h:bY_ T s enc sl base w (.slice (some ⟨g,0,none⟩) n c) E R) {j:Nat} {e:ε} {l:List Int} (he:E[j]?=some e) (hl:R[j]?=some l) (x:Int)
 (hlen:l.length+1<=1099511627776) (hB:base<=w.heap.size):
 ∃ g' c' w2,(Builtin.append_ #[49,49] 49 #[(sl e).v,.slice (some ⟨w.heap.size,0,none⟩) 1 1]).run Tryz.prog (w.alloc (.cells #[.int .i64 x] 3))= .ok (.slice (some ⟨g',0,none⟩) (l.length+1) c') w2/\
   w2.cell? ⟨g,j*s+f,none⟩=some (sl e).v /\w2.frozen? ⟨g,j*s+f,none⟩=false/\Below base w (w2.setCell ⟨g,j*s+f,none⟩ (.slice (some ⟨g',0,none⟩) (l.length+1) c'))/\
   ((sl e).v.ownBlock =some g'∨g'=w.heap.size+1)/\(∀ k u,Bx w k 3 u ->(sl e).v.ownBlock ≠some k ->Bx (w2.setCell ⟨g,j*s+f,none⟩ (.slice (some ⟨g',0,none⟩) (l.length+1) c')) k 3 u)/\
   ∀ e':ε,sl e'=(some ⟨g',0,none⟩,l.length+1,c') ->enc e'=(enc e).set f (.slice (some ⟨g',0,none⟩) (l.length+1) c') ->
     bY_ T s enc sl base (w2.setCell ⟨g,j*s+f,none⟩ (.slice (some ⟨g',0,none⟩) (l.length+1) c')) (.slice (some ⟨g,0,none⟩) n c) (E.set j e') (R.set j (l++[x])):=by
 have hj:=(List.getElem?_eq_some_iff.1 he).1;have aK:f<s:=by rw [<-hs e];exact(List.getElem?_eq_some_iff.1 (hf e)).1
 have M:=h.inn.at_ j e l he hl
 have hn:n=E.length:=by
  rcases h.row.2 with⟨y,_⟩|⟨g0,aF,aG,y,_⟩
  ·cases y
  ·cases y;rfl
 subst hn;obtain⟨g',c',w2,aD,aE,N,S⟩:=a7_ (enc:=numE .i64) Tryz.underlying49 eb_ rfl (by decide) aj_ bw_ w base _ l x M hlen (by decide) hB;have Y:=(Below.refl w.heap.size w).alloc (Nat.le_refl _) (.cells (numE .i64 x).toArray 3);have aP:g<w.heap.size:=(h.row.lt g rfl).2;have X:=aa_ h.row Y;have aC:(Value.slice (some ⟨g,0,none⟩) E.length c).ownBlock =none∨(Value.slice (some ⟨g,0,none⟩) E.length c).ownBlock ≠(sl e).v.ownBlock := .inr fun y=>b7_ (aa_ M Y) X hT.symm (k:=g) rfl y;have p:=X.kept N aC;have aI:(E.flatMap enc)[j*s+f]?=some (sl e).v :=a8_ hs E j e he f _ (hf e)
 have aN:j*s+f<E.length*s:=by
  have:=Nat.mul_le_mul_right s (show j+1<=E.length by omega);rw [Nat.succ_mul] at this;omega
 have aH:Below base w w2:=(Y.mono hB).grown N (Nat.le_trans hB Y.size) (fun k hk=>(M.lt k hk).1);refine⟨g',c',w2,aD,(p.cellAt _ aN).trans aI,p.frozenAt _,aH.setCell (h.row.lt g rfl).1 _,S,fun k u hk aO=>?_,fun e' r aA=>⟨?_,?_,?_⟩⟩
 ·have z:=(hk.below Y).keep (N.block k (Nat.lt_of_lt_of_le hk.lt Y.size) fun y=>aO y.symm);refine z.keep (Below.heap_setCell _ _ _ _ fun L=>?_);have L:g=k:=L.symm;subst L;rcases p.2 with⟨y,_⟩|⟨g0,aF,aG,y,_,hh,_⟩
  ·cases y
  ·cases y;rw [show w2.heap[g]?=_ from z] at hh
   injection hh with hh;injection hh with _ hh
   exact hT hh
 ·have:=(p.stored (j*s+f) (.slice (some ⟨g',0,none⟩) (l.length+1) c')).1;rw [List.length_set,ol_ hs he aK aA];exact this
 ·have U: ∀ (F:TypeId) (v1:Value) (n1:Nat) (xs:List Value),3=F ->w2.ownsRow base F 1 v1 n1 xs ->(w2.setCell ⟨g,j*s+f,none⟩ (.slice (some ⟨g',0,none⟩) (l.length+1) c')).ownsRow base F 1 v1 n1 xs:=by
   intro F v1 n1 xs aJ z;subst aJ;refine bd_ z fun k hk=>Below.heap_setCell _ _ _ _ fun L=>?_;have:=b7_ (k:=g) z p hT.symm rfl;exact this (by rw [hk];exact congrArg some (show g=k from L.symm))
  refine⟨by rw [List.length_set,List.length_set];exact h.inn.len,fun k F l1 z h2=>?_⟩;rw [List.getElem?_set] at z h2;by_cases J:j=k
  ·subst J;rw [if_pos rfl,if_pos hj] at z;rw [if_pos rfl,if_pos (by rw [<-h.inn.len];exact hj)] at h2;cases z;cases h2;show World.ownsRow _ _ _ _ _ _ _;rw [r];exact U _ _ _ _ rfl aE
  ·rw [if_neg J] at z h2;have h3:=h.inn.at_ k F l1 z h2;refine U _ _ _ _ rfl ((aa_ h3 Y).kept N ?_)
   cases hq:(sl F).v.ownBlock with
   |none=>exact .inl rfl
   |some q=>exact .inr fun y=>h.apart k j F e (Ne.symm J) z he q hq y.symm
 ·have aB: ∀ (k:Nat) F,k≠j ->E[k]?=some F ->(sl F).v.ownBlock ≠some g':=by
   intro k F aM z y;have aL:k<R.length:=by rw [<-h.inn.len];exact(List.getElem?_eq_some_iff.1 z).1
   have h3:=h.inn.at_ k F _ z (List.getElem?_eq_getElem aL);rcases S with h4|h4
   ·exact h.apart k j F e aM z he g' y h4
   ·have:=(h3.lt g' y).2;omega
  intro i k a b Z G D q P Q;rw [List.getElem?_set] at G D;by_cases d:j=i
  ·subst d;rw [if_pos rfl,if_pos hj] at G;cases G;rw [if_neg Z] at D;rw [r] at P;cases P;exact aB k b (Ne.symm Z) D Q
  ·rw [if_neg d] at G;by_cases J:j=k
   ·subst J;rw [if_pos rfl,if_pos hj] at D;cases D;rw [r] at Q;cases Q;exact aB i a (Ne.symm d) G P
   ·rw [if_neg J] at D;exact h.apart i k a b Z G D q P Q
theorem bY_.push (hT:3≠T) (hs: ∀ e,(enc e).length =s) (hf: ∀ e,(enc e)[f]?=some (sl e).v) {base g n c:Nat} {w:World} {E:List ε} {R:List (List Int)} (h:bY_ T s enc sl base w (.slice (some ⟨g,0,none⟩) n c) E R) {j:Nat} {e:ε} {l:List Int} (he:E[j]?=some e) (hl:R[j]?=some l) (x:Int)
 (hlen:l.length+1<=1099511627776) (hB:base<=w.heap.size):
 ∃ g' c' w2,(Builtin.append_ #[49,49] 49 #[(sl e).v,.slice (some ⟨w.heap.size,0,none⟩) 1 1]).run Tryz.prog (w.alloc (.cells #[.int .i64 x] 3))= .ok (.slice (some ⟨g',0,none⟩) (l.length+1) c') w2/\
   w2.cell? ⟨g,j*s+f,none⟩=some (sl e).v /\w2.frozen? ⟨g,j*s+f,none⟩=false/\Below base w (w2.setCell ⟨g,j*s+f,none⟩ (.slice (some ⟨g',0,none⟩) (l.length+1) c'))/\
   ∀ e':ε,sl e'=(some ⟨g',0,none⟩,l.length+1,c') ->enc e'=(enc e).set f (.slice (some ⟨g',0,none⟩) (l.length+1) c') ->
     bY_ T s enc sl base (w2.setCell ⟨g,j*s+f,none⟩ (.slice (some ⟨g',0,none⟩) (l.length+1) c')) (.slice (some ⟨g,0,none⟩) n c) (E.set j e') (R.set j (l++[x])):=by
 obtain⟨g',c',w2,p,q,y,z,_,_,D⟩:=h.pushK hT hs hf he hl x hlen hB;exact⟨g',c',w2,p,q,y,z,D⟩
end
open K
abbrev PatE:=Int×SlV
def patE (e:PatE):List Value:=[.int .i64 e.1,e.2.v]
theorem cW_ (e:PatE):(patE e).length =2:=rfl
theorem gC_ (e:PatE): ∀ u∈patE e,u.oneCell'=true:=fun u f=>by simp [patE,SlV.v] at f;rcases f with rfl|rfl<;>rfl
theorem fH_:(Tryz.prog.info? 68).map (fun i=>(i.zero,i.size,i.bytes))=some (some (.agg #[.int .i64 0,.slice none 0 0]),2,32):=by kernel_rfl
structure PatT (w:World) (e:PatE) (p:PatP):Prop where
 rt:e.1=p.rt
 rd:Rd w 1 (numE .i64) e.2.1 e.2.2.1 p.runs
 cap:e.2.2.1<=e.2.2.2/\e.2.2.2<=9223372036854775807
theorem PatT.below {w w':World} {e:PatE} {p:PatP} (h:PatT w e p) (hb:Below w.heap.size w w'):PatT w' e p:=⟨h.rt,h.rd.below hb,h.cap⟩
structure bm_ (w:World) (A:Option Addr) (n:Nat) (P:List PatP):Prop where
 ex: ∃ E:List PatE,Rd w 2 patE A n E/\aD_ PatT w E P
section
variable {w w':World} {A:Option Addr} {n:Nat} {P:List PatP}
theorem bm_.below (h:bm_ w A n P) (hb:Below w.heap.size w w'):bm_ w' A n P:=by
 obtain⟨E,f,g⟩:=h.ex;exact⟨E,f.below hb,g.up fun e r h=>h.below hb⟩
theorem bm_.len (h:bm_ w A n P):P.length=n:=by
 obtain⟨E,f,g⟩:=h.ex;rw [<-g.len];exact f.len
theorem bm_.nil:bm_ w none 0 []:=⟨[],Rd.nil,aD_.nil⟩
theorem bm_.get (h:bm_ w A n P) {k:Nat} (hk:k<n): ∃ b o p A1 n1 c1,A=some ⟨b,o,none⟩/\b<w.heap.size/\P[k]?=some p/\w.cell? ⟨b,o+k*2,none⟩=some (.int .i64 p.rt)/\w.cell? ⟨b,o+k*2+1,none⟩=some (.slice A1 n1 c1)/\Rd w 1 (numE .i64) A1 n1 p.runs/\(n1<=c1/\c1<=9223372036854775807):=by
 have aA:=h.len;obtain⟨E,G,J⟩:=h.ex;obtain⟨b,o,e,rfl,L,M,j⟩:=G.get hk;have q:P[k]?=some P[k]:=List.getElem?_eq_getElem (by omega);have f:=J.at_ k e _ M q;obtain⟨e1,z,D,F⟩:=e;have g:=j 0 _ rfl;have c1:=j 1 _ rfl;have y:=f.rt;simp only at y;rw [Nat.add_zero] at g;exact⟨b,o,P[k],z,D,F,rfl,L,q,by rw [<-y];exact g,c1,f.rd,f.cap⟩
end
def a6_ (base:Nat) (w:World) (v:Value) (P:List PatP):Prop:= ∃ E:List PatE,bY_ 68 2 patE Prod.snd base w v E (P.map PatP.runs)/\E.map Prod.fst=P.map PatP.rt
def bZ_ (base:Nat) (w:World) (v:Value) (P:List PatP):Prop:= ∃ E:List PatE,w.ownsRow base 68 2 v E.length (E.flatMap patE)/\aD_ (fun w e l=>RowO base w e.2 l) w E (P.map PatP.runs)/\E.map Prod.fst=P.map PatP.rt
section
variable {w w':World} {base:Nat} {v:Value} {P Q:List PatP}
theorem a6_.below (h:a6_ base w v P) (hb:Below w.heap.size w w'):a6_ base w' v P:=by
 obtain⟨E,f,g⟩:=h;exact⟨E,f.below hb,g⟩
theorem bZ_.below (h:bZ_ base w v P) (hb:Below w.heap.size w w'):bZ_ base w' v P:=by
 obtain⟨E,f,g,j⟩:=h;exact⟨E,aa_ f hb,g.up fun e l h=>h.up hb,j⟩
theorem a6_.m (h:a6_ base w v P):bZ_ base w v P:=by
 obtain⟨E,f,g⟩:=h;exact⟨E,f.row,f.inn,g⟩
theorem a6_.nil:a6_ base w (.slice none 0 0) []:=⟨[],⟨World.ownsRow_nil _ _ _ _,aD_.nil,fun i j a c _ h=>by simp at h⟩,rfl⟩
theorem bZ_.nil:bZ_ base w (.slice none 0 0) []:=a6_.nil.m
theorem bZ_.pats (h:bZ_ base w v P): ∃ A c,v= .slice A P.length c/\bm_ w A P.length P/\P.length<=c/\c<=9223372036854775807:=by
 obtain⟨E,F,g,G⟩:=h;have q:E.length=P.length:=by rw [g.len,List.length_map]
 obtain⟨A,c,rfl,z,D,Q⟩:=Rd.of_own cW_ rfl F;rw [q] at z D ⊢;refine⟨A,c,rfl,⟨E,z,q,fun k e p j y=>?_⟩,D,Q⟩;have J:(P.map PatP.runs)[k]?=some p.runs:=by rw [List.getElem?_map,y];rfl
 obtain⟨A1,c1,f,L,M,N⟩:=(g.at_ k e _ j J).rd;have n:(E.map Prod.fst)[k]?=(P.map PatP.rt)[k]?:=by rw [G]
 rw [List.getElem?_map,List.getElem?_map,j,y] at n;refine⟨Option.some.inj n,?_,?_⟩
 ·rw [f];exact L
 ·rw [f];exact⟨M,N⟩
theorem a6_.new (h:a6_ base w v P) (rt:Int) (hlen:P.length+1<=1099511627776) (hB:base<=w.heap.size):
 ∃ v' w1,(Builtin.append_ #[63,63] 63 #[v,.slice (some ⟨w.heap.size,0,none⟩) 1 1]).run Tryz.prog (w.alloc (.cells #[.int .i64 rt,.slice none 0 0] 68))= .ok v' w1/\a6_ base w1 v' (P++[⟨rt,[]⟩])/\Below base w w1/\ ∀ k u,Bx w k 3 u ->Bx w1 k 3 u:=by
 obtain⟨E,n,Y⟩:=h;have X:E.length=P.length:=by rw [n.len,List.length_map]
 obtain⟨g,c,w1,F,p,y,aA⟩:=a7_ (enc:=patE) Tryz.underlying63 fH_ rfl (by decide) cW_ gC_ w base v E (rt,none,0,0) n.row (by omega) (by decide) hB;have f:=(Below.refl w.heap.size w).alloc (Nat.le_refl _) (.cells (patE (rt,none,0,0)).toArray 68);have M:Below base w w1:=(f.mono hB).grown y (Nat.le_trans hB f.size) (fun k R=>(n.row.lt k R).1);refine⟨_,w1,F,⟨E++[(rt,none,0,0)],⟨?_,?_,?_⟩,by simp [Y]⟩,M,fun k u hB=>(hB.below f).keep (y.block k (Nat.lt_of_lt_of_le hB.lt f.size) fun J=>?_)⟩
 ·rw [List.length_append] at p ⊢;exact p
 ·rw [List.map_append]
  have R:aD_ (fun w e l=>RowO base w (Prod.snd e) l) w1 E (P.map PatP.runs):=by
   refine⟨n.inn.len,fun k e l d X=>?_⟩;have U:=n.inn.at_ k e l d X;refine(aa_ U f).kept y ?_
   cases T:(Prod.snd e:SlV).v.ownBlock with
   |none=>exact .inl rfl
   |some q=>exact .inr fun J=>b7_ (aa_ n.row f) (aa_ U f) (k:=q) (by decide) T J
  exact R.snoc (RowO.nil _ _)
 ·intro i j a b Q f Z q z D
  have G: ∀ (i:Nat) (a:PatE),(E++[(rt,(none,0,0))])[i]?=some a ->(Prod.snd a:SlV).v.ownBlock =some q ->E[i]?=some a:=by
   intro i a f T;rcases Nat.lt_or_ge i E.length with N|N
   ·rwa [List.getElem?_append_left N] at f
   ·rw [List.getElem?_append_right N] at f;have S:i-E.length=0:=by have:=(List.getElem?_eq_some_iff.1 f).1;simp at this;omega
    rw [S] at f;simp at f;subst f;simp [SlV.v,Value.ownBlock] at T
  exact n.apart i j a b Q (G i a f z) (G j b Z D) q z D
 ·rcases n.row.2 with⟨rfl,_⟩|⟨g,aB,aC,rfl,_,L,_⟩
  ·cases J
  ·cases J;rw [show w.heap[g]?=_ from hB] at L
   injection L with L
   injection L with _ h5
   exact absurd h5 (by decide)
theorem a6_.push (h:a6_ base w v P) {j:Nat} {p:PatP} (hp:P[j]?=some p) (x:Int) (hlen:p.runs.length+1<=1099511627776) (hB:base<=w.heap.size):
 ∃ g c A1 c1 g' c' w2,v= .slice (some ⟨g,0,none⟩) P.length c/\base<=g/\g<w.heap.size/\P.length<=c/\c<=9223372036854775807/\w.cell? ⟨g,j*2+1,none⟩=some (.slice A1 p.runs.length c1)/\
   (Builtin.append_ #[49,49] 49 #[.slice A1 p.runs.length c1,.slice (some ⟨w.heap.size,0,none⟩) 1 1]).run Tryz.prog (w.alloc (.cells #[.int .i64 x] 3))= .ok (.slice (some ⟨g',0,none⟩) (p.runs.length+1) c') w2/\
   w2.cell? ⟨g,j*2+1,none⟩=some (.slice A1 p.runs.length c1)/\w2.frozen? ⟨g,j*2+1,none⟩=false/\Below base w (w2.setCell ⟨g,j*2+1,none⟩ (.slice (some ⟨g',0,none⟩) (p.runs.length+1) c'))/\
   a6_ base (w2.setCell ⟨g,j*2+1,none⟩ (.slice (some ⟨g',0,none⟩) (p.runs.length+1) c')) v (P.modify j fun p=>⟨p.rt,p.runs++[x]⟩):=by
 obtain⟨E,z,Y⟩:=h;have S:E.length=P.length:=by rw [z.len,List.length_map]
 have b:=(List.getElem?_eq_some_iff.1 hp).1;obtain⟨e,J⟩: ∃ e,E[j]?=some e:=⟨_,List.getElem?_eq_getElem (by omega)⟩
 have F:(P.map PatP.runs)[j]?=some p.runs:=by rw [List.getElem?_map,hp];rfl
 obtain⟨g,c,d,N,Q⟩: ∃ g c,v= .slice (some ⟨g,0,none⟩) P.length c/\P.length<=c/\c<=9223372036854775807:=by
  rcases z.row.2 with⟨h0,Z⟩|⟨g,L,aA,rfl,_,_,Z,a,_⟩
  ·omega
  ·exact⟨g,L,by rw [S],by omega,a⟩
 subst d;have R:=z.row.lt g rfl;obtain⟨A1,c1,U,q1,q2,q3⟩:=(z.inn.at_ j e _ J F).rd;have G:(Prod.snd e:SlV).v = .slice A1 p.runs.length c1:=by rw [U];rfl
 obtain⟨g',c',w2,y,T,i,r,s⟩:=z.push (f:=1) (by decide) cW_ (fun e=>rfl) J F x hlen hB;rw [G] at y T
 have M:w.cell? ⟨g,j*2+1,none⟩=some (.slice A1 p.runs.length c1):=by
  rw [<-G];have q:=z.row;rw [S] at q;exact(q.cellAt _ (by omega)).trans (a8_ cW_ E j e J 1 _ rfl)
 refine⟨g,c,A1,c1,g',c',w2,rfl,R.1,R.2,N,Q,M,y,T,i,r,⟨_,by
  have:=s (e.1,some ⟨g',0,none⟩,p.runs.length+1,c') rfl rfl
  have X:(P.modify j fun p=>⟨p.rt,p.runs++[x]⟩).map PatP.runs=(P.map PatP.runs).set j (p.runs++[x]):=by
   refine List.ext_getElem? fun k=>?_;rw [List.getElem?_map,List.getElem?_modify,List.getElem?_set,List.getElem?_map];by_cases n:j=k
   ·subst n;simp [b,(List.getElem?_eq_some_iff.1 hp).2]
   ·simp [n]
  rw [X];exact this,?_⟩⟩
 refine List.ext_getElem? fun k=>?_;have D:(E.map Prod.fst)[k]?=(P.map PatP.rt)[k]?:=by rw [Y]
 rw [List.getElem?_map,List.getElem?_map] at D;rw [List.getElem?_map,List.getElem?_set,List.getElem?_map,List.getElem?_modify];by_cases n:j=k
 ·subst n;rw [J,hp] at D;simp only [if_true,if_pos (show j<E.length by omega),Option.map_some,hp];exact D
 ·simp [n] at D ⊢;exact D
theorem bZ_.append (h:bZ_ base w v P) {A:Option Addr} {m c:Nat} (hQ:bZ_ base w (.slice A m c) Q) (hlen:P.length+m<=1099511627776) (hB:base<=w.heap.size):
 ∃ v' w1,(Builtin.append_ #[63,63] 63 #[v,.slice A m c]).run Tryz.prog w= .ok v' w1/\bZ_ base w1 v' (P++Q)/\Below base w w1/\w.grownBy w1 v.ownBlock:=by
 obtain⟨E,M,S,L⟩:=h;obtain⟨F,X,d,i⟩:=hQ;have U:E.length=P.length:=by rw [S.len,List.length_map]
 have a:m=F.length:=by
  rcases X.2 with⟨z,Z⟩|⟨g,aB,aC,z,_⟩
  ·cases z;exact Z.symm
  ·cases z;rfl
 subst a;obtain⟨A',c',Y,r,r2,r3⟩:=Rd.of_own cW_ rfl X
 injection Y with e1 e2 e3
 subst e1 e3;obtain⟨v',w1,D,J,j,aA⟩:=a9_ (enc:=patE) Tryz.underlying63 fH_ rfl (by decide) cW_ gC_ c M r (by omega) (by decide) hB
 have G: ∀ (E:List PatE) (R:List (List Int)),aD_ (fun w e l=>RowO base w (Prod.snd e) l) w E R ->aD_ (fun w e l=>RowO base w (Prod.snd e) l) w1 E R:=by
  intro E' R T;refine⟨T.len,fun k e l p U=>?_⟩;have L:=T.at_ k e l p U;refine World.ownsRow.kept L j ?_
  cases b:(Prod.snd e:SlV).v.ownBlock with
  |none=>exact .inl rfl
  |some q=>exact .inr fun z=>b7_ M L (k:=q) (by decide) b z
 refine⟨v',w1,D,⟨E++F,by rw [List.length_append];exact J,?_,by rw [List.map_append,List.map_append,L,i]⟩,(Below.refl w.heap.size w).mono hB|>.grown j hB (fun k n=>(M.lt k n).1),j⟩;rw [List.map_append];have y:=G _ _ S;have N:=G _ _ d;refine⟨by rw [List.length_append,List.length_append,y.len,N.len],fun k e l p f=>?_⟩;rcases Nat.lt_or_ge k E.length with n|n
 ·rw [List.getElem?_append_left n] at p;rw [List.getElem?_append_left (by rw [<-y.len];exact n)] at f;exact y.at_ k e l p f
 ·rw [List.getElem?_append_right n] at p;rw [List.getElem?_append_right (by rw [<-y.len];exact n), <-y.len] at f;exact N.at_ _ e l p f
theorem bZ_.high (h:bZ_ base w v P) (hk: ∀ k,base<=k ->k<w.heap.size ->w'.heap[k]?=w.heap[k]?):bZ_ base w' v P:=by
 obtain⟨E,p,q,y⟩:=h;have f: ∀ {e:TypeId} {s n:Nat} {v:Value} {j:List Value},w.ownsRow base e s v n j ->w'.ownsRow base e s v n j:=fun h=>bd_ h fun k g=>hk k (h.lt k g).1 (h.lt k g).2;exact⟨E,f p,q.up fun e l h=>f h,y⟩
theorem bZ_.low {b:Nat} (h:bZ_ base w v P) (hb:b<=base):bZ_ b w v P:=by
 obtain⟨E,j,f,n⟩:=h;exact⟨E,aB_ j hb,⟨f.len,fun k e r h g=>(f.at_ k e r h g).base hb⟩,n⟩
end
theorem nY_ {a b:List Int} {i:Nat} {x y:Int} (hx:a[i]?=some x) (hy:b[i]?=some y) (h:y<x):b3_ a b=false:=by
 cases f:b3_ a b with
 |false=>rfl
 |true=>have:=ed_.1 f i x y hx hy;omega
theorem id_ (A B:Option Addr) (n c d:Nat) (a b:List Int) (w:World) (ha:Rd w 1 (numE .i64) A n a) (hb:Rd w 1 (numE .i64) B n b) (hn:n<=1099511627776):
 Calls Tryz.prog 84 #[.slice A n c,.slice B n d] w fun e w'=>e= .returned (.bool (b3_ a b))/\w'=w:=by
 go_enter Tryz.func84,Tryz.ntmps84
 go_wp2
 go_loop [9] (fun i=> ∃ k:Nat,k<=n/\i= .int .i64 k/\Hd (∀ j x y,j<k ->a[j]?=some x ->b[j]?=some y ->x<=y)) (fun i=>n-(intOf i).toNat)
 ·exact⟨0,Nat.zero_le _,rfl,fun j x y h=>by omega⟩
 ·obtain⟨k,hk,rfl,D⟩:=hrel;by_cases z:k<n
  ·have aA:(k:Int)<(n:Int):=by omega
   obtain⟨b1,o1,x,rfl,aB,f,g1⟩:=ha.num z;obtain⟨b2,o2,y,rfl,aC,q,g2⟩:=hb.num z;by_cases J:y<x
   ·have G:=H_ (nY_ f q J);clear f q
    go_wp2
    go_ret
    exact⟨am_ G.o.symm,rfl⟩
   ·have F:Hd (∀ j x y,j<k+1 ->a[j]?=some x ->b[j]?=some y ->x<=y):=by
     intro j L M hj g p;rcases Nat.lt_or_ge j k with h|h
     ·exact D.o j L M h g p
     ·obtain rfl:j=k:=by omega
      rw [f] at g;rw [q] at p;cases g;cases p;omega
    clear f q
    go_wp2
    go_round
    ·exact⟨k+1,by omega,by go_num,F⟩
    ·simp [intOf];omega
  ·obtain rfl:k=n:=by omega
   have G:Hd (b3_ a b=true):=ed_.2 fun i x y f q=>D.o i x y (by have:=(List.getElem?_eq_some_iff.1 f).1;have:=ha.len;omega) f q
   go_wp2
   go_ret
   exact⟨am_ G.o.symm,rfl⟩
theorem fi_ (ar br:RnE) (r s:RunP) (we:World) (hr:RunT we ar r) (hs:RunT we br s) (h1:r.arr.length<=1099511627776) (h2:r.dep.length<=1099511627776):
 Calls Tryz.prog 39 #[.agg (rnE ar).toArray,.agg (rnE br).toArray] we (rb_ (.bool (aE_ r s)) we):=by
 obtain⟨xt,xo,⟨xA,P,xc⟩,⟨xB,M,xd⟩⟩:=ar;obtain⟨yt,yo,⟨yA,ym,yc⟩,⟨yB,R,yd⟩⟩:=br;have Z:=hr.arr;have b:=hr.dep;have d:=hs.arr;have k:=hs.dep;simp only [rnE,SlV.v] at*;have la:=Z.len;have lb:=b.len;have ka:=d.len;have kb:=k.len;have hm:P<=1099511627776:=by omega
 have hn:M<=1099511627776:=by omega
 obtain⟨q,N⟩:=e_ (aE_ r s);rw [N];unfold aE_ at N;rw [la,lb,ka,kb] at N;have z:=H_ N;have a:=H_ Z;have c:=H_ b;have i:=H_ d;have aA:=H_ k;obtain⟨w1,w2,b1,b2,D,F,f,j,n,X,Y,g,S,T,aB,aC⟩:=b5_ we 47 47 [.int .i64 xt,.int .i64 xo,.slice xA P xc,.slice xB M xd] [.int .i64 yt,.int .i64 yo,.slice yA ym yc,.slice yB R yd];have p0:=S.cell 2 rfl;have p1:=S.cell 3 rfl;have p2:=T.cell 2 rfl;have p3:=T.cell 3 rfl;clear S T X Y hr hs Z b d k la lb ka kb h1 h2 N;by_cases e1:P=ym
 ·subst e1;by_cases U:M=R
  ·subst U;have y:=H_ (id_ xA yA P xc yc r.arr s.arr w2 (a.o.below g.o) (i.o.below g.o) hm);have G:=H_ (id_ xB yB M xd yd r.dep s.dep w2 (c.o.below g.o) (aA.o.below g.o) hn)
   cases J:b3_ r.arr s.arr with
   |false=>
    rw [J] at y;obtain rfl:false=q:=by rw [<-z.o,J];simp
    clear J;go_enter Tryz.func39,Tryz.ntmps39;go_wp2_with (first|((with_reducible refine y.o.mono ?_);rintro e Q ⟨rfl,rfl⟩));clear D F f j n;go_returns;exact⟨rfl,g.o⟩
   |true=>
    rw [J] at y
    cases L:b3_ r.dep s.dep with
    |false=>
     rw [L] at G;obtain rfl:false=q:=by rw [<-z.o,L];simp
     clear J L;go_enter Tryz.func39,Tryz.ntmps39;go_wp2_with (first|((with_reducible refine y.o.mono ?_);rintro e Q ⟨rfl,rfl⟩)|((with_reducible refine G.o.mono ?_);rintro e Q ⟨rfl,rfl⟩));clear D F f j n;go_returns;exact⟨rfl,g.o⟩
    |true=>
     rw [L] at G;obtain rfl:true=q:=by rw [<-z.o,J,L];simp
     clear J L;go_enter Tryz.func39,Tryz.ntmps39;go_wp2_with (first|((with_reducible refine y.o.mono ?_);rintro e Q ⟨rfl,rfl⟩)|((with_reducible refine G.o.mono ?_);rintro e Q ⟨rfl,rfl⟩));clear D F f j n;go_returns;exact⟨rfl,g.o⟩
  ·obtain rfl:false=q:=by rw [<-z.o,F_ U];simp
   have e3:decide (M=R)=false:=F_ U;have aD:((M:Int)==(R:Int))=false:=beq_eq_false_iff_ne.2 (by omega);go_enter Tryz.func39,Tryz.ntmps39;go_wp2_with fail;have p:=g.o;rw [f] at p;clear D F f j n;go_returns
   first
    |exact⟨rfl,g.o⟩
    |exact⟨rfl,p⟩
 ·obtain rfl:false=q:=by rw [<-z.o,F_ e1];simp
  have e3:((P:Int)==(ym:Int))=false:=beq_eq_false_iff_ne.2 (by omega);go_enter Tryz.func39,Tryz.ntmps39;go_wp2_with fail;have p:=g.o;rw [f] at p;clear D F f j n;go_returns
  first
   |exact⟨rfl,g.o⟩
   |exact⟨rfl,p⟩
theorem h9_ (M:ab_) (V:WV) (A:Option Addr) (n c:Nat) (L:List RunP) (we:World) (hr:RW we M V) (hf:Few M) (hsp:Sp we) (hL:be_ we A n L) (hn:n<=100000):
 Calls Tryz.prog 80 #[wVal M V,.slice A n c] we (rb_ (.int .i64 (errC M L)) we):=by
 have y:=H_ (fun w N P Q=>l0_ M V A n c L w N hf P Q hn);have z:=H_ hr;have D:=H_ hsp;have p:=H_ hL;obtain⟨w1,b1,F,j,aB,f,G,aA⟩:=eW we 31 M V;obtain⟨a0,a1,a2,a3,a4,a5,aP,aD,aR,aT,aH,n0,n1,n2,n3,n4,n5,nP,nD,nR,nT,nH,c0,c1,J,c3,c4,c5,cP,cD,cR,cT,cH⟩:=V;simp only [wVal] at*;obtain⟨p0,p1,p2,p3,p4,p5,p6,p7,p8,p9,aC,aE⟩:=c_12 G;clear G hr hsp hL hf;go_enter Tryz.func80,Tryz.ntmps80;go_wp2_with fail;refine(y.o w1 (z.o.below f.o) (D.o.below f.o) (p.o.below f.o)).mono ?_;rintro e w2 ⟨A2,J,rfl,_,_,_,g⟩;have q:=h_ f g;clear g
 go_wp2
 clear F j;go_returns;exact⟨rfl,q.o⟩
end Go.Proofs.YtechdefolfboeaaGreatDoor
namespace Go.Proofs.YtechdefolfboeaaGreatDoor.B
open Go.RowKit B
structure GC (w0:World) (T:TypeId) (Z A B:List Value) (f g fa gb:Bool) (x y:Value) (w:World):Prop where
 bel:Below w0.heap.size w0 w
 im:fa=true ->f=true
 im':gb=true ->g=true
 a:f=true -> ∃ b,x= .pointer (some ⟨b,0,none⟩)/\w0.heap.size<=b/\Bx w b T (if fa=true then A else Z)
 b:g=true -> ∃ b,y= .pointer (some ⟨b,0,none⟩)/\w0.heap.size<=b/\Bx w b T (if gb=true then B else Z)
 ne:f=true ->g=true ->x≠y
section
variable {w0 w w':World} {T:TypeId} {Z A B:List Value} {f g fa gb:Bool} {x y:Value}
theorem GC.start (h1:f=false) (h2:g=false) (h3:fa=false) (h4:gb=false):GC w0 T Z A B f g fa gb x y {w0 with drawn:=w0.drawn+1}:=
 ⟨⟨rfl,rfl,rfl,Nat.le_refl _,fun _ _=>rfl⟩,fun h=>(by rw [h3] at h;cases h),fun h=>(by rw [h4] at h;cases h),fun h=>(by rw [h1] at h;cases h),fun h=>(by rw [h2] at h;cases h),fun h=>(by rw [h1] at h;cases h)⟩
theorem GC.pa (h:GC w0 T Z A B f g fa gb x y w) (hl:fa=false) (hf:f=true): ∃ b,x= .pointer (some ⟨b,0,none⟩)/\w0.heap.size<=b/\Bx w b T Z:=by
 obtain⟨b,n,p,j⟩:=h.a hf;rw [hl] at j;exact⟨b,n,p,j⟩
theorem GC.pb (h:GC w0 T Z A B f g fa gb x y w) (hl:gb=false) (hg:g=true): ∃ b,y= .pointer (some ⟨b,0,none⟩)/\w0.heap.size<=b/\Bx w b T Z:=by
 obtain⟨b,n,p,j⟩:=h.b hg;rw [hl] at j;exact⟨b,n,p,j⟩
theorem GC.newA (h:GC w0 T Z A B f g fa gb x y w) (hl:f=false):GC w0 T Z A B true g fa gb (.pointer (some ⟨w.heap.size,0,none⟩)) y (w.alloc (.cells Z.toArray T)):=by
 have p:fa=false:=by cases D:fa with|false=>rfl|true=>rw [h.im D] at hl;cases hl
 refine⟨u_ h.bel (ag_ w _ _),fun _=>rfl,h.im',fun _=>⟨_,rfl,h.bel.size,by rw [p];exact Bx.new _ _ _⟩,fun q=>?_,fun _ q e=>?_⟩
 ·obtain⟨b,j,z,n⟩:=h.b q;exact⟨b,j,z,n.below (ag_ w _ _)⟩
 ·obtain⟨b,j,z,n⟩:=h.b q;have:=n.lt;rw [j] at e;cases e;omega
theorem GC.newB (h:GC w0 T Z A B f g fa gb x y w) (hl:g=false):GC w0 T Z A B f true fa gb x (.pointer (some ⟨w.heap.size,0,none⟩)) (w.alloc (.cells Z.toArray T)):=by
 have q:gb=false:=by cases D:gb with|false=>rfl|true=>rw [h.im' D] at hl;cases hl
 refine⟨u_ h.bel (ag_ w _ _),h.im,fun _=>rfl,fun p=>?_,fun _=>⟨_,rfl,h.bel.size,by rw [q];exact Bx.new _ _ _⟩,fun p _ e=>?_⟩
 ·obtain⟨b,j,z,n⟩:=h.a p;exact⟨b,j,z,n.below (ag_ w _ _)⟩
 ·obtain⟨b,j,z,n⟩:=h.a p;have:=n.lt;rw [j] at e;cases e;omega
theorem GC.putA {b:Nat} (h:GC w0 T Z A B f g fa gb x y w) (hf:f=true) (hx:x= .pointer (some ⟨b,0,none⟩)) (hb:w0.heap.size<=b) (hB:Bx w' b T A) (hBut:But w w' [b]):GC w0 T Z A B f g true gb x y w':=by
 refine⟨h.bel.trans (hBut.below h.bel.size (fun x hx=>by simp only [List.mem_singleton] at hx;omega)),fun _=>hf,h.im',fun _=>⟨b,hx,hb,hB⟩,fun q=>?_,h.ne⟩;obtain⟨j,n,D,p⟩:=h.b q;refine⟨j,n,D,p.keep (hBut.keep j p.lt fun z=>?_)⟩;simp only [List.mem_singleton] at z;exact h.ne hf q (by rw [hx,n,z])
theorem GC.putB {b:Nat} (h:GC w0 T Z A B f g fa gb x y w) (hg:g=true) (hy:y= .pointer (some ⟨b,0,none⟩)) (hb:w0.heap.size<=b) (hB:Bx w' b T B) (hBut:But w w' [b]):GC w0 T Z A B f g fa true x y w':=by
 refine⟨h.bel.trans (hBut.below h.bel.size (fun x F=>by simp only [List.mem_singleton] at F;omega)),h.im,fun _=>hg,fun q=>?_,fun _=>⟨b,hy,hb,hB⟩,h.ne⟩;obtain⟨j,n,D,p⟩:=h.a q;refine⟨j,n,D,p.keep (hBut.keep j p.lt fun z=>?_)⟩;simp only [List.mem_singleton] at z;exact h.ne q hg (by rw [hy,n,z])
end
end Go.Proofs.YtechdefolfboeaaGreatDoor.B
namespace Go.Proofs.YtechdefolfboeaaGreatDoor
open Go.RowKit B K
theorem k3_ (L:List RunP) (a b:Int):ordR L a b=bQ_ [cmpI (dep0 (ao_ L a)) (dep0 (ao_ L b)),cmpI (ao_ L a).trip (ao_ L b).trip,cmpI (ao_ L a).no (ao_ L b).no,cmpI a b]:=by
 simp only [bQ_,i4_];rfl
def f1_ (L:List RunP):Prop:= ∀ r∈L,0<r.dep.length
theorem oc_ (A:Option Addr) (n c:Nat) (L:List RunP) (we:World) (hL:be_ we A n L) (hn:n<=100000) (hD:f1_ L) (a b:Int) (ha:a∈natI L.length) (hb:b∈natI L.length):
 Calls Tryz.prog 82 #[.slice A n c,.int .i64 a,.int .i64 b] we (rb_ (.int .i64 (ordR L a b)) we):=by
 have ho:=H_ (k3_ L a b);have k:=hL.len;have T:=b8_ ha;have U:=b8_ hb;obtain⟨ka,rfl⟩:=Int.eq_ofNat_of_zero_le (aY_.1 ha).1;obtain⟨kb,rfl⟩:=Int.eq_ofNat_of_zero_le (aY_.1 hb).1;have aI:ka<n:=by have:=(aY_.1 ha).2;omega
 have aJ:kb<n:=by have:=(aY_.1 hb).2;omega
 rw [Int.toNat_natCast] at T U;obtain⟨bL,oL,r,x1,xm,xc,x2,xn,xd,rfl,D,hr,g0,g1,g2,g3,_,rd,_,_⟩:=hL.get aI;obtain⟨aP,aY,s,y1,ym,yc,y2,yn,yd,hA,_,hs,k0,k1,k2,k3,_,sd,_,_⟩:=hL.get aJ;cases hA;rw [Option.some.inj (T.symm.trans hr),Option.some.inj (U.symm.trans hs)] at ho;have Y:=hD r (List.mem_of_getElem? hr);have Z:=hD s (List.mem_of_getElem? hs);obtain⟨aZ,S⟩:=e_ (ordR L ka kb);rw [S] at ho ⊢;obtain⟨bd,od,dr,rfl,aE,Q,gd⟩:=rd.num (show 0<xn by rw [<-rd.len];exact Y);obtain⟨be,oe,ds,rfl,aF,R,ge⟩:=sd.num (show 0<yn by rw [<-sd.len];exact Z);have aW:0<xn:=by rw [<-rd.len];exact Y
 have aX:0<yn:=by rw [<-sd.len];exact Z
 have e1:dep0 r=dr:=by unfold dep0;rw [Q];rfl
 have e2:dep0 s=ds:=by unfold dep0;rw [R];rfl
 rw [e1,e2] at ho;have aN:(0:Int)<(xn:Int):=by omega
 have aO:(0:Int)<(yn:Int):=by omega
 have aL:(ka:Int)<(n:Int):=by omega
 have aM:(kb:Int)<(n:Int):=by omega
 rw [Nat.add_zero] at gd ge;clear S Q R Y Z hr hs T U rd sd e1 e2 ha hb k hL hD;go_enter Tryz.func82,Tryz.ntmps82
 go_wp2
 refine a0_ (fun fl x w=>GC we 47 [.int .i64 0,.int .i64 0,.slice none 0 0,.slice none 0 0] [.int .i64 r.trip,.int .i64 r.no,.slice x1 xm xc,.slice (some ⟨bd,od,none⟩) xn xd] [.int .i64 s.trip,.int .i64 s.no,.slice y1 ym yc,.slice (some ⟨be,oe,none⟩) yn yd] (fl 8) (fl 9) (fl 10) (fl 11) (x 8) (x 9) w) (by kernel_rfl) (by kernel_rfl) (by kernel_rfl) (by kernel_rfl) (by kernel_rfl) ?_ ?_
 ·intro x0;exact GC.start rfl rfl rfl rfl
 intro base O N hO;have f:Hd (∀ z,evX base O z (.tmp 0)= .slice (some ⟨bL,oL,none⟩) n c/\evX base O z (.tmp 1)= .int .i64 ka/\evX base O z (.tmp 2)= .int .i64 kb/\evX base O z (.tmp 7)=z 8/\evX base O z (.tmp 8)=z 9/\evX base O z (.tmp 9)=z 0/\evX base O z (.tmp 10)=z 1/\evX base O z (.tmp 11)=z 2/\evX base O z (.tmp 12)=z 3/\evX base O z (.tmp 13)=z 4/\evX base O z (.tmp 14)=z 5/\evX base O z (.tmp 15)=z 6/\evX base O z (.tmp 16)=z 7):=fun z=>by rw [N,hO];exact⟨rfl,rfl,rfl,rfl,rfl,rfl,rfl,rfl,rfl,rfl,rfl,rfl,rfl⟩
 clear N hO;apply gd_ (n:=0);rfl
 ·intro _ g w _ m n _ _ r _ K t;have e0:=(r _).trans (f.o g).1;clear r n;go_simp;exact t _ _ rfl m
 apply gd_ (n:=1);rfl
 ·intro _ g w _ m n _ _ r _ K t;have e1:=(r _).trans (f.o g).2.1;clear r n;go_simp;exact t _ _ rfl m
 apply gd_ (n:=2);rfl
 ·intro _ g w _ m n _ _ r _ K t;have d0:=n.at_ 0 rfl rfl;have e9:=(r _).trans ((q4_ (f.o g)).2.1.trans d0);have d1:=n.at_ 1 rfl rfl;have aR:=(r _).trans ((q4_ (f.o g)).2.2.1.trans d1);clear r n;go_simp;exact t _ _ rfl m
 apply gd_ (n:=3);rfl
 ·intro _ g w _ m n _ _ r _ K t;have d2:=n.at_ 2 rfl rfl;have aS:=(r _).trans ((q4_ (f.o g)).2.2.2.1.trans d2);clear r n;have m0:=c_ m.bel D g0;have m1:=c_ m.bel D g1;have m2:=c_ m.bel D g2;have m3:=c_ m.bel D g3;go_simp;exact t _ _ rfl m
 apply gd_ (n:=4);rfl
 ·intro _ g w _ m n _ _ r _ K t;have e0:=(r _).trans (f.o g).1;clear r n;go_simp;exact t _ _ rfl m
 apply gd_ (n:=5);rfl
 ·intro _ g w _ m n _ _ r _ K t;have e2:=(r _).trans (f.o g).2.2.1;clear r n;go_simp;exact t _ _ rfl m
 apply gd_ (n:=6);rfl
 ·intro _ g w _ m n _ _ r _ K t;have d4:=n.at_ 4 rfl rfl;have aT:=(r _).trans ((q4_ (q4_ (f.o g))).2.1.trans d4);have d5:=n.at_ 5 rfl rfl;have aU:=(r _).trans ((q4_ (q4_ (f.o g))).2.2.1.trans d5);clear r n;go_simp;exact t _ _ rfl m
 apply gd_ (n:=7);rfl
 ·intro _ g w _ m n _ _ r _ K t;have d6:=n.at_ 6 rfl rfl;have aV:=(r _).trans ((q4_ (q4_ (f.o g))).2.2.2.1.trans d6);clear r n;have m0:=c_ m.bel D k0;have m1:=c_ m.bel D k1;have m2:=c_ m.bel D k2;have m3:=c_ m.bel D k3;go_simp;exact t _ _ rfl m
 refine ga_ (n:=8) (fun _=>True) ?_ ?_
 ·intro _ _ w _ m n p _ r _ K t;clear r n;go_simp;exact t _ _ trivial (m.newA p)
 refine ga_ (n:=9) (fun _=>True) ?_ ?_
 ·intro _ _ w _ m n p _ r _ K t;clear r n;go_simp;exact t _ _ trivial (m.newB p)
 refine ga_ (n:=10) (fun _=>True) ?_ ?_
 ·intro _ g w _ m n p q r _ K t;have e7:=(r _).trans (f.o g).2.2.2.1;have d3:=n.at_ 3 rfl rfl;have aC:=(r _).trans ((q4_ (q4_ (f.o g))).1.trans d3);clear r n;obtain⟨gq,P,d,X⟩:=m.pa p (al_ q 8 rfl);exact aP_ (.tmp 7) (.tmp 12) 47 rfl (e7.trans P) aC X (by kernel_rfl) rfl (by simp [Value.oneCell']) (fun w' hB M=>t _ _ trivial (m.putA (al_ q 8 rfl) P d hB M))
 refine ga_ (n:=11) (fun _=>True) ?_ ?_
 ·intro _ g w _ m n p q r _ K t;have e8:=(r _).trans (f.o g).2.2.2.2.1;have d7:=n.at_ 7 rfl rfl;have aD:=(r _).trans ((q4_ (q4_ (q4_ (f.o g)))).trans d7);clear r n;obtain⟨gq,P,d,X⟩:=m.pb p (al_ q 9 rfl);exact aP_ (.tmp 8) (.tmp 16) 47 rfl (e8.trans P) aD X (by kernel_rfl) rfl (by simp [Value.oneCell']) (fun w' hB M=>t _ _ trivial (m.putB (al_ q 9 rfl) P d hB M))
 clear f;intro z w9 hG hI;clear hI;have F:=H_ hG.bel;obtain⟨bx,aA,aG,G⟩:=hG.a rfl;obtain⟨aQ,aB,aH,J⟩:=hG.b rfl;clear hG;simp only [if_true] at G J;simp only [List.append_eq,List.cons_append,List.nil_append,aA_,List.setIfInBounds_toArray,List.set_cons_zero,List.set_cons_succ,Nat.zero_add,Nat.reduceAdd];rw [aA,aB];clear aA aB;have p0:=G.cell 0 rfl;have p1:=G.cell 1 rfl;have p3:=G.cell 3 rfl;have q0:=J.cell 0 rfl;have q1:=J.cell 1 rfl;have q3:=J.cell 3 rfl;have z1:=c_ F.o aE gd;have z2:=c_ F.o aF ge;clear G J g0 g1 g2 g3 k0 k1 k2 k3 gd ge aG aH;go_upto_region 2 with fail;refine ju_ 22 (by kernel_rfl) (by kernel_rfl) ?_;simp only [List.take_succ_cons,List.take_zero,List.drop_succ_cons,List.drop_zero]
 iterate 8 still_step
 still_call (gv_ _ _ _)
 iterate 4 still_step
 still_call (ep_ _ _ _)
 iterate 4 still_step
 still_call (ep_ _ _ _)
 iterate 2 still_step
 still_call (ep_ _ _ _)
 refine wpStill_nil ?_;have y: ∀ (cs:List Value) (j:Nat) {u:Value},cs[j]?=some u ->((w9.drewN 1).alloc (.cells cs.toArray 3)).cell? ⟨w9.heap.size,j,none⟩=some u:=fun cs j u h=>(Bx.new (w9.drewN 1) 3 cs).cell j h;have y:=H_ y;have aK:=fun W h0 h1 h2 h3=>kq_ (K.cmpI dr ds) (K.cmpI r.trip s.trip) (K.cmpI r.no s.no) (K.cmpI ka kb) w9.heap.size W h0 h1 h2 h3;go_wp2_with fail;refine(aK _ ?h1 ?h2 ?h3 ?h4).mono ?_
 case h1=>exact y.o _ 0 rfl
 case h2=>exact y.o _ 1 rfl
 case h3=>exact y.o _ 2 rfl
 case h4=>exact y.o _ 3 rfl
 rintro e w' ⟨rfl,rfl⟩;have i:Hd (Below we.heap.size we (w9.drewN 1)):=⟨F.o.os,F.o.tape,F.o.output,F.o.size,F.o.block⟩
 go_wp2
 go_returns;exact⟨by rw [ho.o];rfl,i.o.alloc i.o.size _⟩
theorem jC_ {l:List Int} {k:Nat} {x:Int} (h:l.length=k+1) (hx:l[k]?=some x):l.getLastD 0=x:=by
 rw [List.getLastD_eq_getLast?,List.getLast?_eq_getElem?,h,Nat.add_sub_cancel,hx];rfl
theorem of_ (A:Option Addr) (n c:Nat) (L:List RunP) (we:World) (hL:be_ we A n L) (hn:n<=100000) (hlen: ∀ r∈L,r.arr.length<=1099511627776/\r.dep.length<=1099511627776) (e:PatE) (p:PatP) (hT:PatT we e p) (hne:p.runs≠[]) (hp:p.runs.length<=100000) (hin:p.runs.getLastD 0∈natI L.length)
 (x:Int) (hx:x∈natI L.length) (b3 b9:Nat) (h3:we.cell? ⟨b3,0,none⟩=some (.slice A n c)) (h9:we.cell? ⟨b9,0,none⟩=some (.int .i64 x)):
 Calls Tryz.prog 116 #[.agg (patE e).toArray,.pointer (some ⟨b3,0,none⟩),.pointer (some ⟨b9,0,none⟩)] we (rb_ (.bool (aE_ (ao_ L (p.runs.getLastD 0)) (ao_ L x))) we):=by
 obtain⟨rt,A1,m1,c1⟩:=e;have P:=hT.rd;simp only [patE,SlV.v] at*;have N:=P.len;obtain⟨k,hk⟩: ∃ k,p.runs.length=k+1:=⟨p.runs.length-1,by have:=List.length_pos_iff.2 hne;omega⟩
 obtain rfl:m1=k+1:=by omega
 obtain⟨bR,oR,y,rfl,Y,hy,gy⟩:=P.num (show k<k+1 by omega);rw [jC_ hk hy] at hin ⊢;have F:=b8_ hin;have J:=b8_ hx;have Q:=hL.len;obtain⟨b,rfl⟩:=Int.eq_ofNat_of_zero_le (aY_.1 hin).1;obtain⟨d,rfl⟩:=Int.eq_ofNat_of_zero_le (aY_.1 hx).1;have aC:b<n:=by have:=(aY_.1 hin).2;omega
 have aD:d<n:=by have:=(aY_.1 hx).2;omega
 rw [Int.toNat_natCast] at F J;obtain⟨E,rE,gE⟩:=hL.ex;obtain⟨bL,oL,i,rfl,g,Z,z⟩:=rE.get aC;obtain⟨aL,aQ,s,hA,_,a,D⟩:=rE.get aD;cases hA;have R:=H_ (gE.at_ b i _ Z F);have S:=H_ (gE.at_ d s _ a J);have M:=hlen _ (List.mem_of_getElem? F);obtain⟨q,hq⟩:=e_ (aE_ (ao_ L b) (ao_ L d))
 have T:Hd (∀ W,Below we.heap.size we W ->Calls Tryz.prog 39 #[.agg (rnE i).toArray,.agg (rnE s).toArray] W (rb_ (.bool q) W)):=fun W hW=>by
  have:=fi_ i s _ _ W (R.o.below hW) (S.o.below hW) M.1 M.2;rw [hq] at this;exact this
 rw [hq];obtain⟨x1,x2,⟨x3,x4,x5⟩,⟨x6,x7,x8⟩⟩:=i;obtain⟨y1,y2,⟨y3,y4,y5⟩,⟨y6,y7,y8⟩⟩:=s;simp only [rnE,SlV.v] at T;have g0:=z 0 _ rfl;have g1:=z 1 _ rfl;have g2:=z 2 _ rfl;have g3:=z 3 _ rfl;have f0:=D 0 _ rfl;have f1:=D 1 _ rfl;have f2:=D 2 _ rfl;have f3:=D 3 _ rfl;simp only [Nat.add_zero,SlV.v] at g0 g1 g2 g3 f0 f1 f2 f3;have l3:=World.block_lt_of_cell? we ⟨b3,0,none⟩ h3;have l9:=World.block_lt_of_cell? we ⟨b9,0,none⟩ h9;obtain⟨w1,b1,aE,X,aA,j,B1,aG⟩:=cm_ we 68 [.int .i64 rt,.slice (some ⟨bR,oR,none⟩) (k+1) c1];have p1:=B1.cell 1 rfl;have lb:=B1.lt;have d3:=c_ j.o l3 h3;have d9:=c_ j.o l9 h9;have aN:(k:Int)<(k:Int)+1:=by omega
 have aI:(b:Int)<(n:Int):=by omega
 have aK:(d:Int)<(n:Int):=by omega
 have aM:k<=100000:=by omega
 have aO:IntKind.i64.wrap ((k:Int)+1-1)=k:=by rw [IntWalk.i64_in _ (by omega)];omega
 have aF:=Nat.lt_of_lt_of_le Y j.o.size;have aP:=Nat.lt_of_lt_of_le g j.o.size;have r0:=c_ j.o Y gy;have U:Hd (Below we.heap.size we w1):=j;have aH:(0:Int)<=(b:Int):=by omega
 have aJ:(0:Int)<=(d:Int):=by omega
 clear B1 aA P hT hne hin hx M hL F J Z a z D R S gE rE hlen hy N hk Q hq h3 h9 gy hp;go_enter Tryz.func116,Tryz.ntmps116;go_wp2_with fail;clear aE X
 go_wp2
 refine wb_ w1.heap.size ?_;intro C hC
 repeat(go_big_quiet_step (first
  |((intro _;with_reducible rfl))
  |(intro G;have f:=b_ U G;simp only [c_ G (Nat.lt_of_lt_of_le l3 j.o.size) d3,c_ G (Nat.lt_of_lt_of_le l9 j.o.size) d9,c_ G lb p1,c_ G aF r0,c_ f g g0,c_ f g g1,c_ f g g2,c_ f g g3,c_ f g f0,c_ f g f1,c_ f g f2,c_ f g f3,Result.andThen];exact⟨trivial,rfl⟩)
  |(intro G;have f:=b_ U G;(with_reducible refine(T.o _ f).mono ?_);rintro e aR ⟨rfl,hw⟩;exact⟨rfl,u_ G hw⟩)))
 intro w9 aB;clear hC
 go_wp2
 go_returns;exact⟨rfl,b_ j aB⟩
theorem kO_ (g:Nat) (lb:Array Value) (eg: ∀ args w,(callFunc g args).run Tryz.prog w= .ok (.enter g args) w) (p:Nat ->Bool) (A:Option Addr) (n c:Nat) (l:List (PatE)) (w:World) (hr:Rd w 2 patE A n l) (hn:n<=1099511627776)
 (hp: ∀ (W:World) (i:Nat) (x:PatE),Below w.heap.size w W ->l[i]?=some x ->Calls Tryz.prog g (#[.agg (patE x).toArray]++lb) W (rb_ (.bool (p i)) W)):
 Calls Tryz.prog 115 #[.slice A n c,.func (.func g) #[] lb] w (rb_ (.int .i64 (idx p (List.range n))) w):=by
 go_enter Tryz.func115,Tryz.ntmps115
 go_wp2
 go_loopw [8] (fun i wr=> ∃ (k:Nat),k<=n/\i= .int .i64 k/\Below w.heap.size w wr/\Hd (∀ y∈(List.range n).take k,p y=false)) (fun i _=>n-(intOf i).toNat)
 ·exact⟨0,Nat.zero_le _,rfl,Below.refl _ _,fun y j=>by simp at j⟩
 ·obtain⟨k,hk,rfl,J,F⟩:=hrel;by_cases L:k<n
  ·have aA:(k:Int)<(n:Int):=by omega
   obtain⟨b,o,⟨x1,⟨x4,x5,x6⟩⟩,rfl,aB,N,D⟩:=(hr.below J).get L;have Q:=D 0 _ rfl;have R:=D 1 _ rfl;simp only [Nat.add_zero,SlV.v] at Q R;have N:=H_ N;rename_i P;clear P D;have q:(List.range n)[k]?=some k:=List.getElem?_range L;have f:=hp wr k _ J N.o;simp only [patE,SlV.v,Array.append_eq_append,List.append_toArray,List.cons_append,List.nil_append] at f;clear hp
   cases G:p k with
   |true=>
    rw [G] at f;have S:Hd (idx p (List.range n)=k):=cn_ q F.o G;clear q;clear G;go_wp2_with fail;refine f.mono ?_;rintro e w2 ⟨rfl,z⟩
    go_wp2
    go_returns;exact⟨ah_ S.o.symm,u_ J z⟩
   |false=>
    rw [G] at f
    have M:Hd (∀ y∈(List.range n).take (k+1),p y=false):=by
     intro y j;rw [an_ q,List.mem_append] at j;rcases j with j|j
     ·exact F.o y j
     ·simp at j;subst j;exact G
    clear G q;go_wp2_with fail;refine f.mono ?_;rintro e w2 ⟨rfl,z⟩
    go_wp2
    go_roundw
    ·exact⟨k+1,by omega,by go_num,u_ J z,M⟩
    ·simp [intOf];omega
  ·go_wp2
   go_returns;exact⟨ah_ (by rw [cx_];intro y j;exact F.o y (by rwa [List.take_of_length_le (by rw [List.length_range];omega)])),J⟩
structure e3_ (w:World) (A:Option Addr) (n:Nat) (L:List RunP):Prop where
 rr:be_ w A n L
 n5:n<=100000
 short: ∀ r∈L,r.arr.length<=1099511627776/\r.dep.length<=1099511627776
theorem e3_.below {w w':World} {A:Option Addr} {n:Nat} {L:List RunP} (h:e3_ w A n L) (hb:Below w.heap.size w w'):e3_ w' A n L:=⟨h.rr.below hb,h.n5,h.short⟩
def oy_ (base:Nat) (P:List PatP) (we:World) (e:Ending) (w':World):Prop:= ∃ v,e= .returned v/\a6_ base w' v P/\Below we.heap.size we w'
theorem o0_ (A:Option Addr) (n c:Nat) (L:List RunP) (we:World) (hK:e3_ we A n L) (rt:Int) (B:Option Addr) (m d:Nat) (l:List Int) (hl:Rd we 1 (numE .i64) B m l) (hm:m<=100000) (hin: ∀ x∈l,x∈natI L.length):
 Calls Tryz.prog 83 #[.slice A n c,.int .i64 rt,.slice B m d] we (oy_ we.heap.size (ofL L rt l) we):=by
 have aG:=H_ hK;have cL:=H_ hl;have aC:=H_ hin;have bR:=H_ hl.len;obtain⟨w1,b1,cR,bK,cG,aB,B1,bO⟩:=cm_ we 116 [.slice A n c];have cB:=H_ B1;have l1:=B1.lt;have dE:=H_ bO.o;clear B1 cG hK hl hin;go_enter Tryz.func83,Tryz.ntmps83;go_wp2_with fail;clear cR bK;have bH:Hd (Below w1.heap.size w1 w1):=Below.refl _ _;go_loopw [13,7] (fun iv v wr=> ∃ k:Nat,k<=m/\iv= .int .i64 k/\Hd (a6_ w1.heap.size wr v (ofL L rt (l.take k)))/\Hd (Below w1.heap.size w1 wr)) (fun iv _ _=>m-(intOf iv).toNat)
 ·exact⟨0,Nat.zero_le _,rfl,a6_.nil,bH⟩
 ·obtain⟨k,hk,rfl,hP,hb⟩:=hrel;clear bH;by_cases cM:k<m
  ·have cZ:(k:Int)<(m:Int):=by omega
   have aL:=h_ aB hb.o;obtain⟨bB,oB,x,rfl,dB,hx,gx⟩:=(cL.o.below aL.o).num cM;have bY:=H_ (aC.o x (List.mem_of_getElem? hx));have bV:Hd (ofL L rt (l.take (k+1))=cb_ L rt (ofL L rt (l.take k)) x):=by show _=_;rw [an_ hx,gA_]
   have a:=H_ (h6_ (L:=L) (rt:=rt) (l:=l.take k) (fun y hy=>aC.o y (List.mem_of_mem_take hy)));have bF:(ofL L rt (l.take k)).length <=k:=Nat.le_trans a.o.2 (by rw [List.length_take];omega);have aU:Hd (∀ p∈ofL L rt (l.take k),p.runs.length<=100000):=fun p hp=>by have:=(a.o.1 p hp).2.2;rw [List.length_take] at this;have:=bR.o;omega
   have aF:=bV;obtain⟨P,aJ⟩:=e_ (ofL L rt (l.take k));rw [aJ] at hP a bF aU;have bE:=H_ aJ;obtain⟨Av,cv,rfl,rP,cH,dC⟩:=hP.o.m.pats;obtain⟨mP,bS⟩:=e_ P.length;rw [bS] at rP cH bF hP;have f:=H_ bS;have cA:=H_ rP;have bW:=H_ aF.o;clear hx aJ rP bV aF;obtain⟨w2,b9,dG,cX,D,Y⟩:=box1 wr 3 [.int .i64 x];have l9:=Y.lt;have h9:=H_ (Y.cell 0 rfl);have aY:=H_ Y;have aM:=h_ hb D;have aZ:=H_ (hP.o.below D);have bZ:=H_ (cA.o.below D);have bL:=h_ aL D;have h3:=H_ (c_ aM.o l1 (cB.o.cell 0 rfl));have l3:=Nat.lt_of_lt_of_le l1 aM.o.size
   have bQ:Hd (Calls Tryz.prog 115 #[.slice Av mP cv,.func (.func 116) #[] #[.pointer (some ⟨b1,0,none⟩),.pointer (some ⟨b9,0,none⟩)]] w2 (rb_ (.int .i64 (idx (cf_ L P x) (List.range mP))) w2)):=by
    obtain⟨E,rE,gE⟩:=bZ.o.ex;refine kO_ 116 _ (enters_of Tryz.func116 (by kernel_rfl) rfl) (cf_ L P x) Av mP cv E w2 rE (by omega) fun U i e hU he=>?_;have hi:i<P.length:=by rw [<-gE.len];exact(List.getElem?_eq_some_iff.1 he).1
    have aS:P[i]?=some P[i]:=List.getElem?_eq_getElem hi;have aE:=List.mem_of_getElem? aS;have hf:=a.o.1 _ aE;rw [fg_ aS];exact of_ A n c L U (aG.o.rr.below (b_ bL hU)) aG.o.n5 aG.o.short e P[i] ((gE.at_ i e _ he aS).below hU) hf.1 (aU.o _ aE) hf.2.1 x bY.o b1 b9 (c_ hU l3 h3.o) (c_ hU l9 h9.o)
   clear Y hP cA hb aL bZ;go_wp2_with fail;refine bQ.o.mono ?_;rintro e w3 ⟨rfl,F⟩;have G:=h_ aM F;have aH:=H_ (aZ.o.below F);have J:=H_ (aY.o.below F);have aX:=H_ (c_ F l9 h9.o);have cT:=Nat.lt_of_lt_of_le l9 F.size;obtain⟨q,hq⟩:=e_ (idx (cf_ L P x) (List.range mP));have aA:Hd (idx (cf_ L P x) (List.range P.length)=q):=by show _=_;rw [f.o];exact hq
   rw [hq];clear hq F bQ aZ h9;go_upto_if 21 with fail;go_cut [7,10] (fun v7 cW wx=> ∃ (P':List PatP) (j:Nat) (p:PatP),cW= .int .i64 j/\Hd (a6_ w1.heap.size wx v7 P')/\Hd (P'[j]?=some p)/\p.runs.length<=100000/\j<P'.length/\P'.length<=100001/\Hd (P'.modify j (fun p=>⟨p.rt,p.runs++[x]⟩)=cb_ L rt P x)/\Hd (Below w1.heap.size w1 wx)/\Hd (wx.cell? ⟨b9,0,none⟩=some (.int .i64 x))/\b9<wx.heap.size)
   ·by_cases cP:q<0
    ·have aV:=H_ (h7_ (L:=L) (P:=P) (rt:=rt) (n:=x) (by rw [aA.o];exact cP));obtain⟨v',w5,z,bA,bI,aP⟩:=aH.o.new rt (by omega) G.o.size;have cC:Hd (w5.cell? ⟨b9,0,none⟩=some (.int .i64 x)):=(aP b9 _ J.o).cell 0 rfl;have cU:b9<w5.heap.size:=(aP b9 _ J.o).lt;have bC:=H_ bA;have bJ:=H_ (G.o.trans bI);have cK:Hd ((P++[(⟨rt,[]⟩:PatP)])[mP]?=some ⟨rt,[]⟩):=by show _=_;rw [<-f.o];simp
     have cN:Hd ((P++[(⟨rt,[]⟩:PatP)]).modify mP (fun p=>⟨p.rt,p.runs++[x]⟩)=cb_ L rt P x):=by show _=_;rw [aV.o, <-f.o];exact g1_
     have b:mP<(P++[(⟨rt,[]⟩:PatP)]).length /\(P++[(⟨rt,[]⟩:PatP)]).length <=100001:=by rw [List.length_append,f.o];exact⟨by simp,by simp;omega⟩
     have b:=H_ b;clear bA bI aP;go_wp2_with (at_builtin;refine ap_ (.tmp 24) (.tmp 27) 63 z ?_)
     go_meet
     exact⟨_,mP,⟨rt,[]⟩,rfl,bC,cK,by simp,b.o.1,b.o.2,cN,bJ,cC,cU⟩
    ·obtain⟨j,p,hj,hp,X⟩:=g4_ (L:=L) (P:=P) (rt:=rt) (n:=x) (by rw [aA.o];omega);obtain rfl:q=(j:Int):=by rw [<-aA.o,hj]
     have aT:=aU.o p (List.mem_of_getElem? hp);have aO:j<P.length:=(List.getElem?_eq_some_iff.1 hp).1;have cO:=H_ hp;have bU:=H_ X.symm;have bT:P.length<=100001:=by have:=f.o;omega
     clear hj hp X
     go_wp2
     go_meet
     exact⟨P,j,p,rfl,aH,cO,aT,aO,bT,bU,G,aX,cT⟩
   ·obtain⟨P',j,p,bX,aI,aR,aT,aO,bG,X,N,cD,cV⟩:=hcut;obtain⟨g,cc,A1,c1,_,_,_,aW,cJ,bP,cI,dD,aN,_⟩:=aI.o.push aR.o x (by omega) N.o.size;subst bX;subst aW;obtain⟨mQ,s⟩:=e_ P'.length;obtain⟨nr,aQ⟩:=e_ p.runs.length;rw [s] at cI aO bG;rw [aQ] at aN aT;have dF:(j:Int)<(mQ:Int):=by omega
    have S:=H_ aN;have aD:=H_ s;have T:=H_ aQ;simp only [s];clear cJ s aQ aH J G aX aA aN
    go_wp2
    refine wl_ [1,1,0,0,0,0,0,0,2,2,2,2,2] ?_;intro C hC;simp only [af_,Nat.reduceEqDiff, ↓reduceIte]
    repeat(go_big_quiet_step (first
     |(intro _;with_reducible rfl)
     |(intro hc;simp only [c_ hc bP S.o,c_ hc cV cD.o,Result.andThen];exact⟨trivial,rfl⟩)))
    clear hC;intro C' cE
    repeat(go_big_quiet_step (first|(intro _;with_reducible rfl)))
    clear cE;intro wq Q;obtain⟨g1,dA,A2,c2,g',c',w8,aW,_,_,_,_,R,z,bM,cY,Z,M⟩:=(aI.o.below Q).push aR.o x (by have:=T.o;omega) (Nat.le_trans N.o.size Q.size);cases aW;rw [T.o] at R z bM Z M;cases((Q.cell (p:=⟨g,j*2+1,none⟩) bP).trans S.o).symm.trans R;rw [X.o,aD.o] at M;have cQ:=z;obtain⟨w9,cS⟩:=e_ (w8.setCell ⟨g,j*2+1,none⟩ (.slice (some ⟨g',0,none⟩) (nr+1) c'));rw [cS] at Z M;have bN:=H_ (N.o.trans ((Q.mono N.o.size).trans Z));have bD:Hd (a6_ w1.heap.size w9 (.slice (some ⟨g,0,none⟩) mQ cc) (ofL L rt (l.take (k+1)))):=by show a6_ _ _ _ _;rw [bW.o,bE.o];exact M
    clear Z M X aI aR N S Q T aD R;go_wp2_with (at_builtin;refine ap_ (.tmp 35) (.tmp 37) 49 z ?_);go_roundw
    ·exact⟨k+1,by omega,by go_num,bD,bN⟩
    ·simp [intOf];omega
  ·obtain rfl:k=m:=by omega
   have aK:Hd (a6_ w1.heap.size wr u7 (ofL L rt l)):=by have:=hP.o;rwa [List.take_of_length_le (by rw [bR.o];exact Nat.le_refl _)] at this
   have G:=h_ aB hb.o;clear hP hb;obtain⟨Av,cv,hv,_⟩:=aK.o.m.pats;have cF:Hd (a6_ we.heap.size wr u7 (ofL L rt l)):=by obtain⟨E,h1,h2⟩:=aK.o;exact⟨E,⟨aB_ h1.row aB.o.size,⟨h1.inn.len,fun k e r h h'=>(h1.inn.at_ k e r h h').base aB.o.size⟩,h1.apart⟩,h2⟩
   subst hv;clear aK
   go_wp2
   go_returns;exact⟨_,rfl,cF.o,G.o⟩
def slE1 (s:SlV):List Value:=[s.v]
theorem gF_ (s:SlV):(slE1 s).length =1:=rfl
theorem hJ_ (s:SlV):(slE1 s)[0]?=some (id s:SlV).v :=rfl
theorem kN_:(Tryz.prog.info? 49).map (fun i=>(i.zero,i.size,i.bytes))=some (some (.slice none 0 0),1,24):=by kernel_rfl
def d3_ (M:ab_) (L:List RunP) (k:Nat):List (List Int):=(List.range M.routes.length).map fun rt=>(natI k).filter fun n=>decide (rtOf M L n=((rt:Nat):Int))
theorem eG_ (k:Nat):natI (k+1)=natI k++[((k:Nat):Int)]:=by unfold natI;rw [List.range_succ,List.map_append];rfl
theorem c8_ {M:ab_} {L:List RunP} {k:Nat}:(d3_ M L k).length =M.routes.length:=by unfold d3_;simp
theorem eH_ {M:ab_} {L:List RunP} {k rt:Nat} (h:rt<M.routes.length):(d3_ M L k)[rt]?=some ((natI k).filter fun n=>decide (rtOf M L n=((rt:Nat):Int))):=by unfold d3_;rw [List.getElem?_map,List.getElem?_range h];rfl
theorem ls_ {M:ab_} {L:List RunP} {k rt:Nat} (h:rtOf M L ((k:Nat):Int)=((rt:Nat):Int)):d3_ M L (k+1)=(d3_ M L k).set rt (((natI k).filter fun n=>decide (rtOf M L n=((rt:Nat):Int)))++[((k:Nat):Int)]):=by
 refine List.ext_getElem? fun j=>?_;rw [List.getElem?_set];rcases Nat.lt_or_ge j M.routes.length with f|f
 ·rw [eH_ f,eH_ f,c8_,eG_,List.filter_append];by_cases g:rt=j
  ·subst g;rw [if_pos rfl,if_pos f,List.filter_cons,if_pos (by simpa using h)];rfl
  ·rw [if_neg g,List.filter_cons,if_neg (by simp only [decide_eq_true_eq];omega)];simp
 ·rw [List.getElem?_eq_none (by rw [c8_];exact f),List.getElem?_eq_none (by rw [c8_];exact f),c8_];split
  ·rw [if_neg (by omega)]
  ·rfl
def oz_ (base:Nat) (L:List RunP) (v:SlV) (l:List Int) (w:World) (e:Ending) (w':World):Prop:=e= .returned (.tuple #[])/\RowO base w' v (srtR L l)/\w.grownBy w' v.v.ownBlock
def lH_ (m:Nat):Prop:= ∀ (A:Option Addr) (n c:Nat) (L:List RunP) (w0 w:World) (base:Nat) (v:SlV) (l:List Int),e3_ w0 A n L ->f1_ L ->Below w0.heap.size w0 w ->w0.heap.size<=base ->RowO base w v l ->(∀ x∈l,x∈natI L.length) ->l.length<=m ->
 Calls Tryz.prog 81 #[v.v,.func (.func 82) #[.slice A n c] #[]] w (oz_ base L v l w)
theorem bY_.new (w:World) (n:Nat) (hn:n<=1099511627776):bY_ 49 1 slE1 id w.heap.size (w.alloc (.cells (madeCells #[.slice none 0 0] n) 49)) (.slice (some ⟨w.heap.size,0,none⟩) n n) (List.replicate n (none,0,0)) (List.replicate n []):=by
 refine⟨?_,⟨by simp,fun k e r g y=>?_⟩,fun i j a c aA f hc q p=>?_⟩
 ·rw [List.length_replicate]
  have F: ∀ n,(List.replicate n ((none,0,0):SlV)).flatMap slE1=List.replicate n (.slice none 0 0):=by
   intro n
   induction n with
   |zero=>rfl
   |succ n ih=>rw [List.replicate_succ,List.flatMap_cons,ih,List.replicate_succ];rfl
  have z:(madeCells #[.slice none 0 0] n).toList =List.replicate n (.slice none 0 0):=by
   refine List.ext_getElem? fun i=>?_;unfold madeCells;rw [Array.getElem?_toList,Array.getElem?_map,List.getElem?_replicate];split
   ·rename_i h;rw [Array.getElem?_eq_getElem (by simpa using h)];simp;rw [Nat.mod_one];rfl
   ·rename_i h;rw [Array.getElem?_eq_none (by simpa using h)];rfl
  rw [F];refine⟨by simp,.inr ⟨w.heap.size,n,_,rfl,Nat.le_refl _,heap_alloc_new w _,Nat.le_refl _,by rw [ce_];omega,?_,?_⟩⟩
  ·rw [<-Array.length_toList,z];simp
  ·rw [z];simp
 ·rw [List.getElem?_replicate] at g y;split at g
  ·rename_i D;rw [if_pos D] at y;cases g;cases y;exact RowO.nil _ _
  ·cases g
 ·rw [List.getElem?_replicate] at f;split at f
  ·cases f;simp [SlV.v,Value.ownBlock] at p
  ·cases f
theorem kX_ (n:Nat) (hn:n<=100000) (W:World):(Instr.makeSlice 114 (.int .i64 (n:Int)) (.int .i64 (n:Int))).run Tryz.prog W= .ok (.slice (some ⟨W.heap.size,0,none⟩) n n) (W.alloc (.cells (madeCells #[.slice none 0 0] n) 49)):=by
 obtain⟨i,g,p,j,f⟩:=info_parts kN_;have:=run_make (P:=Tryz.prog) W 114 49 i _ Tryz.underlying114 g p .i64 .i64 (n:Int) (n:Int) (by omega) (Int.le_refl _) (by rw [f];omega) (by omega);rw [j] at this;simpa [Value.cells] using this
def resP (M:ab_) (L:List RunP):List PatP:=if errC M L=0 then cV_ M L else []
def lF_ (P:List PatP) (c:Int) (we:World) (e:Ending) (w':World):Prop:= ∃ A cap,e= .returned (.tuple #[.slice A P.length cap,.int .i64 c])/\bm_ w' A P.length P/\P.length<=cap/\cap<=9223372036854775807/\Below we.heap.size we w'
theorem g6_ (mx:Nat) (hso:lH_ mx) (M:ab_) (V:WV) (A:Option Addr) (n c:Nat) (L:List RunP) (we:World) (hr:RW we M V) (hf:Few M) (hsp:Sp we) (hL:be_ we A n L) (hn:n<=10000) (hmx:n<=mx):
 Calls Tryz.prog 38 #[wVal M V,.slice A n c] we (lF_ (resP M L) (errC M L) we):=by
 have bA:=H_ (fun w h1 h2 h3=>h9_ M V A n c L w h1 hf h2 h3 (by omega));have bD:=H_ hr;have dR:=H_ hsp;have bN:=H_ hL;have eX:=H_ hf;have dS:=H_ hso;have P:=H_ hL.len;by_cases X:errC M L=0
 ·have Y:=H_ (i2_ (M:=M) (L:=L) (by have:=hL.len;omega) X);have cJ:Hd (FitL M L):=⟨Y.o.fit,eq_ Y.o.good⟩
  have cS:Hd (e3_ we A n L):=⟨hL,by omega,fun r hr=>by
   have:=Y.o.fit r hr;have:=db_ hf r.trip;have h1:=(Y.o.fit r hr).la;have h2:=(Y.o.fit r hr).ld;omega⟩
  have eB:Hd (f1_ L):=fun r hr=>by rw [(Y.o.fit r hr).ld];exact(Y.o.fit r hr).pos
  have aM:Hd (resP M L=cV_ M L):=if_pos X;rw [aM.o,X];rw [X] at bA;have bO:M.routes.length=V.nR:=hr.rR.len;have bG:=hf.sR;obtain⟨w1,b1,cE,aF,bS,R,B1,dB⟩:=eW we 31 M V;obtain⟨a0,a1,a2,a3,a4,a5,aP,aD,aR,aT,aH,n0,n1,n2,n3,n4,n5,nP,nD,G,nT,nH,c0,c1,c2,c3,c4,c5,cP,cD,cR,cT,cH⟩:=V;simp only [wVal] at*;have S:=H_ bO;rw [bO] at bG;obtain⟨p0,p1,p2,p3,p4,p5,p6,p7,p8,p9,dY,dZ⟩:=c_12 B1;have cF:=H_ B1;have l1:=B1.lt;clear B1 bS hr hsp hL hf X hso bO;go_enter Tryz.func38,Tryz.ntmps38;go_wp2_with fail;refine(bA.o w1 (bD.o.below R.o) (dR.o.below R.o) (bN.o.below R.o)).mono ?_;rintro e w2 ⟨rfl,Q⟩;have J:=h_ R Q;have y9:=c_ Q l1 (cF.o.cell 9 rfl);have aV:=c_ Q l1 (cF.o.cell 10 rfl);have eA:=H_ aV;have dX:=Nat.lt_of_lt_of_le l1 Q.size;have eT:=H_ Q;have g:=bY_.new w2 G (by omega);have bY:=kX_ G bG w2;have bU:=(Below.refl w2.heap.size w2).alloc (Nat.le_refl _) (.cells (madeCells #[.slice none 0 0] G) 49)
  obtain⟨w3,dU⟩:=e_ (w2.alloc (.cells (madeCells #[.slice none 0 0] G) 49));rw [dU] at g bY bU;obtain⟨F,aI⟩:=e_ w2.heap.size;obtain⟨N0,eC⟩:=e_ w2.heap.size;have s:N0=F:=by omega
  rw [aI] at bY;clear Q p0 p1 p2 p3 p4 p5 p6 p7 p8 p9 dY dZ
  have bF:Hd (bY_ 49 1 slE1 id F w3 (.slice (some ⟨F,0,none⟩) G G) (List.replicate G (none,0,0)) (d3_ M L 0)):=by
   have e:d3_ M L 0=List.replicate G []:=by
    unfold d3_ natI;rw [S.o];simp [List.map_const']
   rw [aI] at g;show bY_ _ _ _ _ _ _ _ _ _;rw [e];exact g
  have bH:Hd (Below F w2 w3):=by rw [<-aI];exact bU
  have D:=H_ aI;clear g bU
  go_wp2
  clear cE aF bY dU aI y9 aV eC s;go_loopw [26] (fun iv wr=> ∃ (k:Nat) (E:List SlV),k<=n/\iv= .int .i64 k/\Hd (bY_ 49 1 slE1 id F wr (.slice (some ⟨F,0,none⟩) G G) E (d3_ M L k))/\Hd (Below F w2 wr)) (fun iv _=>n-(intOf iv).toNat)
  ·exact⟨0,_,Nat.zero_le _,rfl,bF,bH⟩
  ·clear bF bH;obtain⟨k,E,hk,rfl,g,hb⟩:=hrel;have p:Hd (Below w2.heap.size w2 wr):=by show Below _ _ _;rw [D.o];exact hb.o
   have T:=h_ J p.o;by_cases eH:k<n
   ·have eP:(k:Int)<(n:Int):=by omega
    have dD:((k:Nat):Int)∈natI L.length:=aY_.2 (by have:=P.o;omega);obtain⟨q,rr,dT,hq,dJ,dK,dL,eJ,_⟩:=cJ.o.route dD;obtain⟨kt,bW⟩:=Int.eq_ofNat_of_zero_le dT;obtain⟨jr,bB⟩:=Int.eq_ofNat_of_zero_le dK;rw [bW,Int.toNat_natCast] at hq;have bV:jr<M.routes.length:=by rw [bB] at dL;omega
    have eZ:jr<G:=by rw [<-S.o];exact bV
    have eI:kt<nT:=by have h1:M.trips.length=nT:=bD.o.rT.len;have:=(List.getElem?_eq_some_iff.1 hq).1;omega
    obtain⟨bT,oT,q',rfl,eF,dH,cY⟩:=(bD.o.rT.below T.o).get eI;obtain rfl:q=q':=Option.some.inj (hq.symm.trans dH);have z0:=cY 0 _ rfl;rw [Nat.add_zero,bB] at z0;obtain⟨b,o,r,A1,n1,d1,A2,n2,d2,rfl,eV,hx,g0,g1,g2,g3,_,_,_,_⟩:=(bN.o.below T.o).get eH;obtain rfl:ao_ L k=r:=Option.some.inj ((eg_ (by have:=P.o;omega)).symm.trans hx);obtain⟨no,dF⟩:=e_ ((ao_ L ((k:Nat):Int)).no);rw [bW] at g0;rw [dF] at g1;have dO:Hd (rtOf M L ((k:Nat):Int)=((jr:Nat):Int)):=by show _=_;rw [<-dJ,bB]
    have cC:=H_ (ls_ (M:=M) (L:=L) (k:=k) dO.o);have aN:=H_ (eH_ (M:=M) (L:=L) (k:=k) bV);have dM:((natI k).filter fun n=>decide (rtOf M L n=((jr:Nat):Int))).length <=k:=Nat.le_trans (List.length_filter_le _ _) (by simp [natI]);obtain⟨row,aQ⟩:=e_ (((natI k).filter fun n=>decide (rtOf M L n=((jr:Nat):Int))));rw [aQ] at cC aN dM;have eR:(kt:Int)<(nT:Int):=by omega
    have eQ:(jr:Int)<(G:Int):=by omega
    have aV:=c_ p.o dX eA.o;clear hq dH dJ dK dL eJ dT bW bB cY hx dF aQ dO dD;obtain⟨wa,ba,fC,eO,U,cG⟩:=box1 wr 47 [.int .i64 kt,.int .i64 no,.slice A1 n1 d1,.slice A2 n2 d2];have q0:=cG.cell 0 rfl;have hz:=c_ U eF z0;have hy:=c_ U (Nat.lt_of_lt_of_le dX p.o.size) aV;have aC:=H_ (g.o.below U);obtain⟨e,hE⟩: ∃ e,E[jr]?=some e:=⟨_,List.getElem?_eq_getElem (by rw [g.o.len,c8_];exact bV)⟩
    have aG:Hd (Below F w2 wa):=hb.o.trans (U.mono (by rw [<-D.o];exact hb.o.size));have eG:F<=wa.heap.size:=by rw [<-D.o];exact aG.o.size
    obtain⟨g',c',w8,z,bJ,dA,aZ,cN⟩:=aC.o.push (f:=0) (by decide) gF_ hJ_ hE aN.o (k:Int) (by omega) eG;have aJ:=aC.o.cellAt gF_ hE (hJ_ e);have aB:=cN (some ⟨g',0,none⟩,row.length+1,c') rfl rfl;simp only [Nat.mul_one,Nat.add_zero,id] at aJ bJ dA aZ aB z;obtain⟨w9,dV⟩:=e_ (w8.setCell ⟨F,jr,none⟩ (.slice (some ⟨g',0,none⟩) (row.length+1) c'));rw [dV] at aZ aB;have cV:=H_ (aG.o.trans aZ);rw [<-cC.o] at aB;have cO:=H_ aB;obtain⟨nr,dG⟩:=e_ row.length;rw [dG] at z dV dM;obtain⟨v,hv⟩:=e_ e.v;rw [hv] at aJ bJ z;have z:(Builtin.append_ #[49,49] 49 #[v,.slice (some ⟨wa.heap.size,0,none⟩) 1 1]).run Tryz.prog (wa.alloc (.cells #[.int .i64 (k:Int)] 3))= .ok (.slice (some ⟨g',0,none⟩) (nr+1) c') w8:=z;clear cN aB aZ dG hv hE g aC cG U aG hb p T z0 aV cC aN;go_wp2_with (at_builtin;refine ap_ (.tmp 43) (.tmp 45) 49 z ?_);go_roundw
    ·exact⟨k+1,_,by omega,by go_num,cO,cV⟩
    ·simp [intOf];omega
   ·obtain rfl:n=k:=by omega
    obtain⟨wo,rfl⟩: ∃ wo:World,wo=wr:=⟨_,rfl⟩
    have d:Hd (∀ (i:Nat) e,E[i]?=some e ->RowO F wo e (bE_ M L ((i:Nat):Int))):=fun i e X=>by
     have hi:i<M.routes.length:=by have:=(List.getElem?_eq_some_iff.1 X).1;have h2:=g.o.len;rw [c8_] at h2;omega
     have:=g.o.inn.at_ i e _ X (eH_ hi);rw [<-P.o] at this;exact this
    obtain⟨N,hN⟩:=e_ wo.heap.size;have bI:Hd (∀ (i:Nat) (e:SlV),E[i]?=some e -> ∀ q,e.v.ownBlock=some q ->q<N):=fun i e X q hq=>by rw [<-hN];exact((d.o i e X).lt q hq).2
    have eE:Hd (∀ (i j:Nat) (a c:SlV),i≠j ->E[i]?=some a ->E[j]?=some c -> ∀ q,a.v.ownBlock=some q ->c.v.ownBlock≠some q):=g.o.apart;have aW:E.length=G:=by rw [g.o.len,c8_,S.o]
    have y:Hd (wo.ownsRow F 49 1 (.slice (some ⟨F,0,none⟩) G G) G (E.flatMap slE1)):=by have:=g.o.row;rw [aW] at this;exact this
    have s:F<N:=by rw [<-hN];exact(y.o.lt F rfl).2
    have cX:Hd (we.heap.size<=F):=by show _<=_;rw [<-D.o];exact J.o.size
    have cK:Hd (N<=wo.heap.size):=Nat.le_of_eq hN.symm;have aO:Hd (∀ (i:Nat) e,0<=i ->E[i]?=some e ->RowO F wo e (bE_ M L ((i:Nat):Int))):=fun i e _ X=>d.o i e X;have cW:=hb;have aW:=H_ aW;clear g hN d hb p T
    go_wp2
    go_loopw [51,11] (fun iv v wr=> ∃ j:Nat,j<=G/\iv= .int .i64 j/\Hd (bZ_ N wr v ((List.range j).flatMap (co_ M L)))/\Hd (∀ (i:Nat) e,j<=i ->E[i]?=some e ->RowO F wr e (bE_ M L ((i:Nat):Int)))/\Hd (wr.ownsRow F 49 1 (.slice (some ⟨F,0,none⟩) G G) G (E.flatMap slE1))/\Hd (Below F w2 wr)/\Hd (N<=wr.heap.size)) (fun iv _ _=>G-(intOf iv).toNat)
    ·exact⟨0,Nat.zero_le _,rfl,bZ_.nil,aO,y,cW,cK⟩
    ·clear aO y cW cK;obtain⟨j,hj,rfl,aX,aS,y,hb,cL⟩:=hrel;have p:Hd (Below w2.heap.size w2 wr):=by show Below _ _ _;rw [D.o];exact hb.o
     have T:=h_ J p.o;by_cases dC:j<G
     ·have eY:(j:Int)<(G:Int):=by omega
      obtain⟨e,hE⟩: ∃ e,E[j]?=some e:=⟨_,List.getElem?_eq_getElem (by rw [aW.o];exact dC)⟩
      have cZ:(E.flatMap slE1)[j]?=some e.v:=by
       have h9:=a8_ gF_ E j e hE 0 _ (hJ_ e);rw [Nat.mul_one,Nat.add_zero] at h9;exact h9
      have aJ:=(y.o.cellAt j (by omega)).trans cZ;clear cZ
      have dE:Hd ((natI L.length).length <=mx):=by
       have h9:=P.o;have h8:(natI L.length).length =L.length:=by simp [natI]
       show _<=_;omega
      have aU:=H_ (dS.o A n c L we wr F e _ cS.o eB.o T.o cX.o (aS.o j e (Nat.le_refl _) hE) ic_ (Nat.le_trans (List.length_filter_le _ _) dE.o));have bM:=H_ hE;obtain⟨v,hv⟩:=e_ e.v;rw [hv] at aJ aU;have fB:=H_ hv;obtain⟨e1,e2,e3⟩:=e;have eK:v= .slice e1 e2 e3:=hv.symm;subst eK;clear hE hv;go_wp2_with fail;refine aU.o.mono ?_;rintro e w5 ⟨rfl,dQ,aA⟩;have cB:=H_ (aS.o j _ (Nat.le_refl _) bM.o);have bE:=H_ (aX.o.high (w':=w5) fun k eU hk=>aA.block k hk fun h0=>by have:=bI.o j _ bM.o k h0.symm;omega)
      have bL:Hd (∀ (i:Nat) e',j+1<=i ->E[i]?=some e' ->RowO F w5 e' (bE_ M L ((i:Nat):Int))):=fun i e' hi aK=>by
       refine World.ownsRow.kept (aS.o i e' (by omega) aK) aA ?_
       cases hq:(e':SlV).v.ownBlock with
       |none=>exact .inl rfl
       |some q=>exact .inr fun h0=>eE.o i j e' _ (by omega) aK bM.o q hq h0.symm
      have aL:=H_ (y.o.kept aA (.inr fun h0=>b7_ cB.o y.o (by decide) (k:=F) rfl h0));have aY:=H_ (hb.o.grown aA (by rw [<-D.o];exact hb.o.size) (fun k hk=>(cB.o.lt k hk).1));have bP:=Nat.le_trans cL.o aA.size;have dW:=H_ (J.o.trans (Below.mono (by rw [D.o];exact aY.o:Below w2.heap.size w2 w5) J.o.size));obtain⟨A',c',cI,r5,_,_⟩:=dQ.rd;obtain⟨rfl,rfl,rfl⟩:e1=A'/\e2=(srtR L (bE_ M L ((j:Nat):Int))).length /\e3=c':=by simpa using cI
      obtain⟨m5,bC⟩:=e_ ((srtR L (bE_ M L ((j:Nat):Int))).length)
      have eS:m5<=10000:=by
       rw [<-bC,jp_];refine Nat.le_trans (List.length_filter_le _ _) ?_;have:=P.o;simp [natI];omega
      rw [bC] at r5;simp only [bC];have bZ:=H_ (o0_ A n c L w5 (cS.o.below dW.o) (j:Int) e1 m5 e3 _ r5 (by omega) (fun x hx=>ic_ x ((fV_ _).mem_iff.1 hx)));have bK:=H_ (o1_ cJ.o (j:=j+1) (by rw [S.o];exact dC));rw [jc_,List.length_append] at bK;change Hd (Calls _ _ _ _ (oy_ w5.heap.size (co_ M L j) w5)) at bZ;clear dQ aA cB aU aX aS y hb cL p T r5 bC cI aJ;go_wp2_with fail;refine bZ.o.mono ?_;rintro e w6 ⟨v6,rfl,bQ,Z⟩;obtain⟨A6,c6,rfl,_⟩:=bQ.m.pats;obtain⟨v7,w7,z,bR,aE,_⟩:=(bE.o.below Z).append (bQ.m.low bP) (by have:=bK.o;have:=P.o;omega) (Nat.le_trans bP Z.size);rw [<-jc_] at bR;have cM:=H_ bR;have dP:Hd (∀ (i:Nat) e',j+1<=i ->E[i]?=some e' ->RowO F w7 e' (bE_ M L ((i:Nat):Int))):=fun i e' hi aK=>bd_ ((bL.o i e' hi aK).up Z) fun k hk=>aE.block k (bI.o i e' aK k hk);have cA:=H_ (bd_ (aa_ aL.o Z) (w':=w7) fun k hk=>aE.block k (by cases hk;exact s))
      have cU:=H_ (aY.o.trans ((Z.mono (by rw [<-D.o];exact aY.o.size)).trans (aE.mono (Nat.le_of_lt s))));have eD:Hd (N<=w7.heap.size):=Nat.le_trans bP (Nat.le_trans Z.size aE.size);obtain⟨m6,bX⟩:=e_ ((co_ M L j).length);rw [bX] at z;simp only [bX];clear bQ Z bR aE bZ bX bE bL aL aY;go_wp2_with (at_builtin;refine ap_ (.tmp 60) (.tmp 64) 63 z ?_);go_roundw
      ·exact⟨j+1,by omega,by go_num,cM,dP,cA,cU,eD⟩
      ·simp [intOf];omega
     ·obtain rfl:G=j:=by omega
      have cQ:bZ_ N wr u11 (cV_ M L):=by unfold cV_;rw [S.o];exact aX.o
      obtain⟨Av,cv,rfl,rP,q1,q2⟩:=cQ.pats;have eN:=H_ rP;have eL:=H_ q1;have eM:=H_ q2;clear cQ aX aS y hb p rP q1 q2
      go_wp2
      go_returns;exact⟨Av,cv,rfl,eN.o,eL.o,eM.o,T.o⟩
 ·have aM:Hd (resP M L=[]):=if_neg X;rw [aM.o];obtain⟨q,hq⟩:=e_ (errC M L);rw [hq] at bA X ⊢;have fA:(q !=0)=true:=by simpa using X
  obtain⟨w1,b1,cE,aF,bS,R,B1,dB⟩:=eW we 31 M V;obtain⟨a0,a1,a2,a3,a4,a5,aP,aD,aR,aT,aH,n0,n1,n2,n3,n4,n5,nP,nD,G,nT,nH,c0,c1,c2,c3,c4,c5,cP,cD,cR,cT,cH⟩:=V;simp only [wVal] at*;obtain⟨p0,p1,p2,p3,p4,p5,p6,p7,p8,p9,dY,dZ⟩:=c_12 B1;clear B1 bS hr hsp hL hf hso X hq;go_enter Tryz.func38,Tryz.ntmps38;go_wp2_with fail;refine(bA.o w1 (bD.o.below R.o) (dR.o.below R.o) (bN.o.below R.o)).mono ?_;rintro e w2 ⟨rfl,Q⟩;have J:=h_ R Q;clear Q
  go_wp2
  clear cE aF;go_returns;exact⟨none,0,rfl,bm_.nil,Nat.le_refl _,by omega,J.o⟩
