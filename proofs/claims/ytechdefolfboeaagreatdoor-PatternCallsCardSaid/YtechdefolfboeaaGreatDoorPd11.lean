/- Merged. -/
import Derived.Test.YtechdefolfboeaaGreatDoorPd3
import Derived.Test.YtechdefolfboeaaGreatDoorPd4
set_option linter.unusedVariables false
set_option linter.unusedSimpArgs false
namespace Go.Proofs.YtechdefolfboeaaGreatDoor
open Go.RowKit B
section
variable {P:Program} {fn:Func} {R:Ending ->World ->Prop} {a:Act} {w:World} {s g s' g':Nat} {t T t' T':TypeId} {vs vs':List Value}
theorem gW_ (hB:Bx w g T vs) (hu:(P.underlying t).map (fun d=>match d with| .struct _| .array _ _=>true|_=>false)=some true) (hi:(P.info? t).map (·.size)=some vs.length):(loadVar t ⟨g,0,none⟩).run P w= .ok (.agg vs.toArray) w:=by
 obtain⟨d,f,j⟩: ∃ d,P.underlying t=some d/\(match d with| .struct _| .array _ _=>true|_=>false)=true:=by
  cases f:P.underlying t with
  |none=>rw [f] at hu;cases hu
  |some d=>rw [f] at hu;exact⟨d,rfl,Option.some.inj hu⟩
 exact run_loadVar_row (P:=P) w g T t vs.toArray (0,0) d hB f (by cases d<;>first|rfl|(exact j)) (by rw [hi];simp)
theorem cl_ (hres:fn.results=#[.cell s t,.cell s' t']) (hs:a.tmps.getD s undef= .pointer (some ⟨g,0,none⟩)) (hs':a.tmps.getD s' undef= .pointer (some ⟨g',0,none⟩)) (hB:Bx w g T vs) (hB':Bx w g' T' vs')
 (hu:(P.underlying t).map (fun d=>match d with| .struct _| .array _ _=>true|_=>false)=some true) (hi:(P.info? t).map (·.size)=some vs.length)
 (hu':(P.underlying t').map (fun d=>match d with| .struct _| .array _ _=>true|_=>false)=some true) (hi':(P.info? t').map (·.size)=some vs'.length) (hd:a.defers=[]) (hR:R (.returned (.tuple #[.agg vs.toArray,.agg vs'.toArray])) w):bodyPost P fn R .ret a w:=by
 refine bodyPost_ret (v:= .tuple #[.agg vs.toArray,.agg vs'.toArray]) ?_ hd hR;have p:=gW_ hB hu hi;have j:=gW_ hB' hu' hi';have n:a.tmps[s]?.getD undef= .pointer (some ⟨g,0,none⟩):=by simpa using hs
 have f:a.tmps[s']?.getD undef= .pointer (some ⟨g',0,none⟩):=by simpa using hs'
 unfold results;simp [hres,n,f,asAddr,p,j]
end
end Go.Proofs.YtechdefolfboeaaGreatDoor
namespace Go.Proofs.YtechdefolfboeaaGreatDoor
namespace B
open Go.RowKit
def kd4 (m:List Nat) (j:Nat):Nat:=if aq_ m j=4 then 1 else aq_ m j
def bp_ (P:Program) (ops:Array Oper) (C:World ->Prop) (Q:Exit ->Act ->World ->Prop):List (Nat×Oper) ->Act ->World ->Prop
 |[],a,w=>Q .normal a w
 |(k,o)::rest,a,w=>if k=4 then wpQuiet P ops (fun _=>True) (fun a'=>bp_ P ops C Q rest a' w) [o] a
  else if Region.wanted o (yielded ops a.tmps) then o.wp P a w (fun a' w'=>(k=3 ->C w')/\bp_ P ops C Q rest a' w') Q∨(o.asks P a w/\LetsOut Q)
  else(k=3 ->C w)/\bp_ P ops C Q rest (a.put o.dst undef) w
def d5_ (ops:Array Oper) (m:List Nat):List Nat ->Array Bool ->Bool
 |[],listed=>(Region.ready .any ops listed).isEmpty
 |t::ts,listed=>(if aq_ m t=4 then eZ_ ops listed t&&(Region.free .any ops listed t&&((ops[t]?).map av_).getD false) else decide (Region.ready .any ops listed=[t]))&&d5_ ops m ts (listed.setIfInBounds t true)
def lJ_ (ops:List Oper) (m:List Nat):Bool:=(List.range ops.length).all fun j=>decide (kd4 m j<2)||(List.range ops.length).all fun i=>decide (2<=kd4 m i)||(((ops[i]?).map av_).getD false&&(decide (kd4 m i=1)||decide (kd4 m j=3)||((ops[j]?).map c3_).getD false))||fR_ ops j 40 i
def kK_ (m:List Nat) (ts:List Nat):Bool:=match ts with
 |t::_=>decide (aq_ m t≠4)
 |[]=>true
def kT_ (l:List Oper) (m:List Nat):Bool:=Region.noSelect l.toArray&&(decide (m.length=l.length)&&((af_ 1 m l).all av_&&((af_ 0 m l).all av_&&((m.all fun k=>decide (k<=4))&&(kK_ m (idxT m 0)&&(lexM l.toArray (lexM l.toArray (d5_ l.toArray m (idxT m 0)) (idxK 1 m 0)) (idxK 0 m 0) (Array.replicate l.length false)&&(lJ_ l m&&(af_ 4 m l).all av_)))))))
section
variable {P:Program} {C:World ->Prop} {Q:Exit ->Act ->World ->Prop}
theorem jv_ {l:List Oper} {m:List Nat} (hA:lJ_ l m=true) {listed:Array Bool} {i j:Nat} {oi oj:Oper} (hcl:bx_ l.toArray listed) (hj:j∈Region.ready .any l.toArray listed) (hkj:2<=kd4 m j) (hoj:l[j]?=some oj)
 (hki:kd4 m i<2) (hoi:l[i]?=some oi) (hun:listed.getD i true=false):av_ oi=true/\(kd4 m i=0 ->kd4 m j=2 ->c3_ oj=true):=by
 have q:j<l.length:=(List.getElem?_eq_some_iff.1 hoj).1;have p:i<l.length:=(List.getElem?_eq_some_iff.1 hoi).1
 have y: ¬ listed.getD i false=true:=fun h=>by
  rcases Nat.lt_or_ge i listed.size with n|n
  ·simp [n] at h hun;rw [h] at hun;cases hun
  ·simp [Array.getElem?_eq_none n] at h
 have z:=List.all_eq_true.1 hA j (List.mem_range.2 q);simp only [show ¬ kd4 m j<2 by omega,decide_false,Bool.false_or] at z;have f:=List.all_eq_true.1 z i (List.mem_range.2 p);simp only [show ¬ 2<=kd4 m i by omega,decide_false,Bool.false_or,Bool.or_eq_true,Bool.and_eq_true,decide_eq_true_eq,hoi,hoj,Option.map_some,Option.getD_some] at f;rcases f with⟨f,g⟩|f
 ·refine⟨f,fun h0 h4=>?_⟩;rcases g with(g|g)|g
  ·omega
  ·omega
  ·exact g
 ·exact absurd (eP_ hcl (eu_ hj) 40 i f) y
theorem pr_ {m:List Nat} (h:(m.all fun k=>decide (k<=4))=true) (i:Nat):kd4 m i<=3:=by
 unfold kd4;split
 ·omega
 ·rename_i f;unfold aq_ at*
  cases g:m[i]? with
  |none=>simp
  |some k=>
   have:=List.all_eq_true.1 h k (List.mem_of_getElem? g);rw [g] at f;simp at this f ⊢;omega
theorem dG_ {ops:Array Oper} {m:List Nat} (S:dd_ ops (kd4 m)) (hN: ∀ e a w,Q e a w ->e= .normal) (hC: ∀ w w',C w ->Below w.heap.size w w' ->C w') (hk3: ∀ i,kd4 m i<=3): ∀ (ts:List Nat) (listed:Array Bool) (a:Act) (w:World),(∀ t∈ts,2<=aq_ m t) ->bx_ ops listed ->d5_ ops m ts listed=true ->
 bp_ P ops C Q (ts.filterMap fun t=>(ops[t]?).map fun o=>(aq_ m t,o)) a w ->dQ_ P ops C Q (kd4 m) ts.length listed a w
 |[],listed,a,w,hl,hcl,hc,h=>⟨by simpa [d5_] using hc,h⟩
 |t::ts,listed,a,w,hl,hcl,hc,h=>by
  simp only [d5_,Bool.and_eq_true] at hc;obtain⟨hc1,hc2⟩:=hc;by_cases n:aq_ m t=4
  ·rw [if_pos n,Bool.and_eq_true,Bool.and_eq_true] at hc1;obtain⟨G,Y,N⟩:=hc1;have g:=dM_ G;obtain⟨_,o,f,_⟩:=mem_ready.1 g;simp only [List.filterMap_cons,f,Option.map_some] at h;unfold bp_ at h;rw [if_pos n] at h;have D:kd4 m t=1:=by unfold kd4;rw [if_pos n]
   have T:cls C 1=fun _=>True:=by funext w;simp [cls]
   rw [<-T] at h;have J:qOp P ops (cls C 1) t (wpQuiet P ops (cls C 1) (fun p=>bp_ P ops C Q (ts.filterMap fun t=>(ops[t]?).map fun o=>(aq_ m t,o)) p w) []) a:=by unfold qOp;simp only [f];exact h
   obtain⟨v,R,X⟩:=yieldsIn_of_qOp f J;have F:av_ o=true:=by rw [f] at N;simpa using N
   rw [<-D] at R;exact cR_ S hN hC f (by omega) F ts.length listed a w (fun h=>by omega) hcl (Region.free_spec f Y) g R (dG_ S hN hC hk3 ts _ _ w (fun t g=>hl t (by simp [g])) (bA_ hcl g) hc2 X)
  ·rw [if_neg n] at hc1;have hc1:=of_decide_eq_true hc1;refine⟨fun L=>(by rw [hc1] at L;cases L),fun i z=>?_⟩;have j:=z;rw [hc1,List.mem_singleton] at z;subst z;obtain⟨_,o,f,_⟩:=mem_ready.1 j;have aA:=hl i (by simp);have aB:kd4 m i=aq_ m i:=by unfold kd4;rw [if_neg n]
   simp only [List.filterMap_cons,f,Option.map_some] at h;unfold bp_ at h;rw [if_neg n] at h;by_cases M:kd4 m i=2
   ·rw [if_pos M];exact do_ f h fun p w' _ q=>dG_ S hN hC hk3 ts _ p w' (fun t g=>hl t (by simp [g])) (bA_ hcl j) hc2 q
   ·have q:kd4 m i=3:=by have:=hk3 i;omega
    rw [if_neg M,if_pos q];exact do_ f h fun p w' y U=>⟨y (by omega),dG_ S hN hC hk3 ts _ p w' (fun t g=>hl t (by simp [g])) (bA_ hcl j) hc2 U⟩
theorem kz_ {D:World ->Prop} {ops:Array Oper} {m:List Nat} (S:dd_ ops (kd4 m)) (hN: ∀ e a w,Q e a w ->e= .normal) (hC: ∀ w w',C w ->Below w.heap.size w w' ->C w') (hk3: ∀ i,kd4 m i<=3) (ts:List Nat) (listed:Array Bool) (a:Act) (hl: ∀ t∈ts,2<=aq_ m t) (hcl:bx_ ops listed) (hh:kK_ m ts=true) (hc:d5_ ops m ts listed=true)
 (h: ∀ w,D w ->bp_ P ops C Q (ts.filterMap fun t=>(ops[t]?).map fun o=>(aq_ m t,o)) a w):em_ P ops C D Q (kd4 m) ts.length listed a:=by
 cases ts with
 |nil=>exact⟨by simpa [d5_] using hc,h⟩
 |cons t ts=>
  have f:=hc;have z:aq_ m t≠4:=by simpa [kK_] using hh
  simp only [d5_,Bool.and_eq_true,if_neg z,decide_eq_true_eq] at hc;refine⟨fun q=>(by rw [hc.1] at q;cases q),fun i n=>?_⟩;have g:=n;rw [hc.1,List.mem_singleton] at g;subst g;have aA:=hl i (by simp);have aB:kd4 m i=aq_ m i:=by unfold kd4;rw [if_neg z]
  by_cases j:kd4 m i=2
  ·rw [if_pos j];intro w p;have:=(dG_ (C:=C) S hN hC hk3 (i::ts) listed a w hl hcl f (h w p)).2 i n
   rwa [if_pos j] at this
  ·have y:kd4 m i=3:=by have:=hk3 i;omega
   rw [if_neg j,if_pos y];intro w p;have:=(dG_ (C:=C) S hN hC hk3 (i::ts) listed a w hl hcl f (h w p)).2 i n
   rwa [if_neg j,if_pos y] at this
theorem dS_ (Cl:World ->Prop) (m:List Nat) {id:Nat} {a:Act} {w:World} {l:List Oper} {Q:Exit ->Act ->World ->Prop} (hm:P.follows .mixedOrders =true) (hB:kT_ l m=true) (hC0:Cl {w with drawn:=w.drawn+1}) (hC: ∀ w1 w2,Cl w1 ->Below w1.heap.size w1 w2 ->Cl w2)
 (h: ∀ C:World ->Prop,(C=Cl) ->wpQuiet P l.toArray C (fun a1=> ∀ C':World ->Prop,(C'=fun _=>True) ->wpQuiet P l.toArray C' (fun a'=> ∀ w',w'={w with drawn:=w.drawn+1} ->
   bp_ P l.toArray Cl (Exit.then (fun a w=>Q .normal a w) (fun _ _ _=>False)) (aV_ m l) a' w') (af_ 1 m l) a1) (af_ 0 m l) a):(Code.region id l.toArray true).wp P Q a w:=by
 unfold kT_ at hB;simp only [Bool.and_eq_true,decide_eq_true_eq] at hB;obtain⟨hs,g,Z,Y,d,hh,N,hA,b⟩:=hB;have c:=pr_ d;have y: ∀ w',w'=({w with drawn:=w.drawn+1}:World) ->Cl w':=fun w' h=>by subst h;exact hC0
 have U:({w with drawn:=w.drawn+1}:World)=({w with drawn:=w.drawn+1}:World):=rfl
 have J: ∀ (k:Nat) (i:Nat) (n:Oper),aq_ m i=k ->l.toArray[i]?=some n ->(af_ k m l).all av_=true ->av_ n=true:=fun k i n z T hp=>by
  have aD:i<l.length:=by have:=(Array.getElem?_eq_some_iff.1 T).1;simpa using this
  exact eU_ k m l g hp i n (by rw [List.getElem?_eq_getElem (by omega)];simpa [aq_,List.getElem?_eq_getElem (show i<m.length by omega)] using z) (by simpa using T)
 have q:(fun w'=>w'=({w with drawn:=w.drawn+1}:World))≠Cl -> ∀ i n,kd4 m i=0 ->l.toArray[i]?=some n ->av_ n=true:=fun h i n z T=>by
  refine J 0 i n ?_ T Y;unfold kd4 at z;split at z
  ·cases z
  ·exact z
 have S:dd_ l.toArray (kd4 m):=⟨hs,fun f i j n oj p hj s aB r aA aC=>jv_ hA p hj s (by simpa using aB) r (by simpa using aA) aC,fun i n L R=>by
  unfold kd4 at L;split at L
  ·rename_i h4;exact J 4 i n h4 R b
  ·exact J 1 i n L R Z⟩
 have hN: ∀ e a w,(Exit.then (fun a w=>Q .normal a w) (fun _ _ _=>False)) e a w ->e= .normal :=fun e a w h=>by cases e<;>first|rfl|exact h.elim
 have e0:(idxK 0 m 0).filterMap (fun t=>l.toArray[t]?)=af_ 0 m l:=c2_ 0 m 0 l _ g (by simp);have e1:(idxK 1 m 0).filterMap (fun t=>l.toArray[t]?)=af_ 1 m l:=c2_ 1 m 0 l _ g (by simp);have e2:(idxT m 0).filterMap (fun t=>(l.toArray[t]?).map fun o=>(aq_ m t,o))=aV_ m l:=fG_ m 0 l _ _ g (by simp) (fun j k h=>by simp [aq_,h]);have h0:=h _ rfl;rw [<-e0] at h0;have c0:cls Cl 0=Cl:=by funext w;simp [cls]
 have c1:cls Cl 1=fun _=>True:=by funext w;simp [cls]
 have M: ∀ k t,k<2 ->t∈idxK k m 0 ->kd4 m t=k:=fun k t z G=>by
  have:=eB_ G;unfold kd4;rw [if_neg (by omega)];exact this
 have L:=dX_ (C:=Cl) (D:=fun w'=>w'=({w with drawn:=w.drawn+1}:World)) (kd:=kd4 m) y q S hN hC 0 (by omega) _ ((idxK 1 m 0).length +(idxT m 0).length)
  (fun a1=> ∀ C':World ->Prop,(C'=fun _=>True) ->wpQuiet P l.toArray C' (fun a'=> ∀ w',w'=({w with drawn:=w.drawn+1}:World) ->bp_ P l.toArray Cl (Exit.then (fun a w=>Q .normal a w) (fun _ _ _=>False)) (aV_ m l) a' w') (af_ 1 m l) a1)
  (fun f a1 p X F=>by
    have F:=F _ rfl;rw [<-e1, <-c1] at F;refine dX_ (C:=Cl) (D:=fun w'=>w'=({w with drawn:=w.drawn+1}:World)) (kd:=kd4 m) y q S hN hC 1 (by omega) _ _ _ (fun f a' p X F=>?_) _ f a1 (fun t G=>M 1 t (by omega) G) p X F;rw [<-e2] at F;exact kz_ S hN hC c _ _ _ (fun t G=>hW_ G) p hh X F)
  (idxK 0 m 0) (Array.replicate l.length false) a (fun t G=>M 0 t (by omega) G) (cY_ _) N (by rw [c0];exact h0)
 rw [e9_ m 0,g] at L;have R:=dE_ (C:=Cl) y S hC l.toArray.size (Array.replicate l.length false) a {w with drawn:=w.drawn+1} (by simp) (cY_ _) U (by simpa using L);refine Code.wp_mono (fun e a w h=>?_) (wp_region_any hm (by simpa using R));cases e<;>first|exact h|exact h.elim
theorem wM_ (N:Nat) (m:List Nat) {id:Nat} {a:Act} {w:World} {l:List Oper} {Q:Exit ->Act ->World ->Prop} (hN':N<=w.heap.size)
 (h: ∀ C:World ->Prop,(C=fun w'=>Below N w w') ->wpQuiet P l.toArray C (fun a1=> ∀ C':World ->Prop,(C'=fun _=>True) ->wpQuiet P l.toArray C' (fun a'=> ∀ w',w'={w with drawn:=w.drawn+1} ->
   bp_ P l.toArray (fun w'=>Below N w w') (Exit.then (fun a w=>Q .normal a w) (fun _ _ _=>False)) (aV_ m l) a' w') (af_ 1 m l) a1) (af_ 0 m l) a) (hm:P.follows .mixedOrders =true:=by kernel_rfl) (hB:kT_ l m=true:=by kernel_rfl):(Code.region id l.toArray true).wp P Q a w:=
 dS_ (fun w'=>Below N w w') m hm hB ⟨rfl,rfl,rfl,Nat.le_refl _,fun _ _=>rfl⟩ (fun w1 w2 f g=>f.trans (g.mono (Nat.le_trans hN' f.size))) h
theorem as_ {ops:Array Oper} {k:Nat} {o:Oper} {rest:List (Nat×Oper)} {a:Act} {w:World} (hk:k≠4) (h:wpList P ops (Exit.then (fun a' w'=>(k=3 ->C w')/\bp_ P ops C Q rest a' w') Q) [o] a w):bp_ P ops C Q ((k,o)::rest) a w:=by
 unfold bp_;rw [if_neg hk];simp only [wpList] at h;split
 ·rename_i f;simp only [f,if_true] at h;refine h.imp (fun h=>?_) (fun h=>⟨h.1,?_⟩)
  ·unfold Oper.wp at*;generalize (execOp a.eval o).run P w=r at*
   cases r with
   |ok n w'=>
    cases n<;>simp only [Oper.upon] at h ⊢ <;>exact h
   |halt x w'=>cases x<;>simp only [Oper.upon] at h ⊢ <;>exact h
  ·obtain⟨a,w,h⟩:=h.2;exact⟨a,w,h⟩
 ·rename_i f;simp only [f] at h;exact h
theorem au_ {ops:Array Oper} {o:Oper} {rest:List (Nat×Oper)} {a:Act} {w:World} (h: ∀ C':World ->Prop,(C'=fun _=>True) ->wpQuiet P ops C' (fun a'=>bp_ P ops C Q rest a' w) [o] a):bp_ P ops C Q ((4,o)::rest) a w:=by
 unfold bp_;rw [if_pos rfl];exact h _ rfl
theorem aM_ {ops:Array Oper}: ∀ (l:List (Nat×Oper)) (a:Act) (w:World),(∀ p∈l,p.1=2) ->wpList P ops Q (l.map (·.2)) a w ->bp_ P ops C Q l a w
 |[],a,w,_,h=>h
 |(k,o)::rest,a,w,hk,h=>by
  have h3:k=2:=hk (k,o) (by simp);simp only [List.map_cons,wpList] at h;unfold bp_;rw [if_neg (by omega)];split
  ·rename_i g;simp only [g,if_true] at h;exact h.imp (Oper.wp_mono fun j q n=>⟨fun h=>by omega,aM_ rest j q (fun p f=>hk p (by simp [f])) n⟩) id
  ·rename_i g;simp only [g] at h;exact⟨fun h=>by omega,aM_ rest _ _ (fun p f=>hk p (by simp [f])) h⟩
end
end B
