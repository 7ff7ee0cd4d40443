/- Merged. -/
import Derived.Deep.Quiet
import Derived.Below
set_option linter.unusedVariables false
set_option linter.unusedSimpArgs false
namespace Go.Proofs.YtechdefolfboeaaGreatDoor.B
open Go.RowKit
def ct_ {α:Type} (P:Program) (s:Sem α):Prop:= ∀ w,match s.run P w with
 | .ok _ w'=>Below w.heap.size w w'
 | .halt (.panic _) _=>False
 | .halt _ _=>True
section
variable {P:Program} {α β:Type}
theorem cQ_ (x:α):ct_ P (pure x):=fun w=>by simp [Below.refl]
theorem b6_ {s:Sem α} {f:α ->Sem β} (hs:ct_ P s) (hf: ∀ x,ct_ P (f x)):ct_ P (s>>=f):=fun w=>by
 have g:=hs w;simp only [Sem.run_bind];generalize s.run P w=r at*
 cases r with
 |ok x w'=>
  have j:=hf x w';simp only [Result.andThen] at*;generalize (f x).run P w'=r2 at*
  cases r2 with
  |ok y w''=>exact g.trans (j.mono g.size)
  |halt e w''=>cases e<;>first|exact j|trivial
 |halt e w'=>simp only [Result.andThen] at*;cases e<;>first|exact g|trivial
theorem el_ {m:String}:ct_ P (stuck m:Sem α):=fun w=>by simp [stuck,Sem.run]
theorem es_ {m:Unsupported}:ct_ P (unsupported m:Sem α):=fun w=>by simp [unsupported,Sem.run]
theorem fM_:ct_ P program:=fun w=>by simp [program,Sem.run,Below.refl]
theorem jK_ (o:Obj):ct_ P (newObj o):=fun w=>by
 have:(newObj o).run P w= .ok w.heap.size (w.alloc o):=rfl;rw [this];exact(Below.refl _ w).alloc (Nat.le_refl _) _
theorem fx_ (t:TypeId):ct_ P (typeInfo t):=b6_ fM_ fun p=>by cases p.info? t with|none=>exact el_|some i=>exact cQ_ i
theorem g0_ (t:TypeId):ct_ P (underlying t):=b6_ fM_ fun p=>by cases p.underlying t with|none=>exact el_|some i=>exact cQ_ i
theorem eY_ (t:TypeId):ct_ P (zeroValue t):=b6_ (fx_ t) fun i=>by cases i.zero with|none=>exact es_|some i=>exact cQ_ i
theorem jL_ (t:TypeId):ct_ P (sizeOf t):=b6_ (fx_ t) fun i=>cQ_ _
theorem gj_ (t:TypeId) (cs:Array Value):ct_ P (newRow t cs):=b6_ (jK_ _) fun i=>cQ_ _
theorem gk_ (t:TypeId) (v:Value):ct_ P (newVar t v):=gj_ _ _
theorem nV_ (t:TypeId) (v:Value):ct_ P (Instr.box t v):=b6_ (gk_ _ _) fun i=>cQ_ _
theorem kY_ (t:TypeId) (v:Value):ct_ P (Instr.alloc t true v):=b6_ (eY_ _) fun z=>b6_ (gk_ _ _) fun i=>cQ_ _
theorem gZ_ (t:TypeId) (n:Nat) (ps:Array (Nat×Value)):ct_ P (Instr.buildSlice t n ps):=by
 refine b6_ (g0_ t) fun d=>?_;cases d<;>try exact el_
 refine b6_ (jL_ _) fun k=>?_
 dsimp only
 repeat(first|with_reducible exact el_|with_reducible exact es_|with_reducible exact eY_ _|with_reducible exact gj_ _ _|with_reducible exact cQ_ _|with_reducible refine b6_ ?_ fun _=>?_|split)
def c3_ (o:Oper):Bool:=match o.op with
 | .buildSlice .. | .box .. | .alloc .. =>true
 |_=>false
theorem jJ_ {o:Oper} (h:c3_ o=true) (ev:Operand ->Value): ∃ s:Sem Value,execOp ev o=(do pure (.value (<-s)))/\ct_ P s:=by
 unfold c3_ at h;unfold execOp;split at h<;>first|(rename_i e;rw [e];exact⟨_,rfl,by first|exact gZ_ _ _ _|exact nV_ _ _|exact kY_ _ _⟩)|(cases h)
def hB_ (c:Call):Bool:=match c.callee with
 | .builtin .len =>true
 |_=>false
def av_ (o:Oper):Bool:=match o.op with
 | .move _| .assign _| .pick .. | .alloc _| .box .. | .build .. | .buildSlice .. | .load .. | .binOp .. | .unOp .. | .convert .. | .slice .. | .fieldAddr .. | .field .. | .indexAddr .. | .index .. | .lookup .. | .extract .. | .makeInterface .. | .makeFunc .. | .nilCheck .. =>true
 | .call c=>hB_ c
 |_=>false
theorem nP_ {o:Oper} {c:Call} (h:hB_ c=true) (e:o.op=Op.call c) (ev:Operand ->Value) (w w':World) (f:FuncId) (args:Array Value):(execOp ev o).run P w≠ .ok (.enter f args) w':=by
 obtain⟨aA,as,ts⟩:=c;unfold hB_ at h;split at h
 ·rename_i g;subst g;unfold execOp;rw [e];simp only [resolve,invoke,builtin,Sem.run_bind,Sem.run_pure,Result.andThen];generalize (Builtin.len_ _ _ _).run P w=r;cases r<;>simp [Result.andThen]
 ·cases h
theorem ip_ {o:Oper} {x:Operand} (e:o.op=Op.nilCheck x) (ev:Operand ->Value) (w w':World) (f:FuncId) (args:Array Value):(execOp ev o).run P w≠ .ok (.enter f args) w':=by
 unfold execOp;rw [e]
 dsimp only
 intro h;split at h
 ·simp [runtimePanic,goPanic] at h
 ·simp [runtimePanic,goPanic] at h
 ·simp [runtimePanic,goPanic] at h
 ·split at h
  ·simp [runtimePanic,goPanic] at h
  ·simp only [Sem.run_bind] at h
   cases g:program.run P w with
   |halt a b=>rw [g] at h;cases h
   |ok p w1=>
    rw [g] at h;simp only [Result.andThen] at h;split at h
    ·split at h
     ·simp [unsupported,Result.andThen] at h
     ·simp at h
    ·cases h
  ·simp at h
 ·simp at h
theorem i8_ {o:Oper} (h:av_ o=true) (ev:Operand ->Value) (w w':World) (f:FuncId) (args:Array Value):(execOp ev o).run P w≠ .ok (.enter f args) w':=by
 have g: ∀ s:Sem Value,(do pure (.value (<-s)):Sem Next).run P w≠ .ok (.enter f args) w':=fun s=>by
  simp only [Sem.run_bind];generalize s.run P w=r;cases r<;>simp [Result.andThen]
 unfold av_ at h;unfold execOp;split at h<;>first|(cases h;done)|(rename_i e;exact nP_ h e ev w w' f args)|(rename_i e;exact ip_ e ev w w' f args)|(rename_i e;rw [e];first|exact g _|(simp;done)|(simp only [Sem.run_bind];generalize (Go.asBool _).run P w=r;cases r<;>simp [Result.andThen]))
end
section
variable {P:Program} {ops:Array Oper} {C:World ->Prop} {Q:Exit ->Act ->World ->Prop} {kd:Nat ->Nat}
def cls (C:World ->Prop) (k:Nat):World ->Prop:=fun w=>k=0 ->C w
def dQ_ (P:Program) (ops:Array Oper) (C:World ->Prop) (Q:Exit ->Act ->World ->Prop) (kd:Nat ->Nat):Nat ->Array Bool ->Act ->World ->Prop
 |0,listed,a,w=>Region.ready .any ops listed=[]/\Q .normal a w
 |f+1,listed,a,w=>(Region.ready .any ops listed=[] ->Q .normal a w)/\ ∀ i∈Region.ready .any ops listed,
   if kd i=2 then wpOp P ops Q i (dQ_ P ops C Q kd f (listed.setIfInBounds i true)) a w
   else if kd i=3 then wpOp P ops Q i (fun a' w'=>C w'/\dQ_ P ops C Q kd f (listed.setIfInBounds i true) a' w') a w
   else ∃ o v,ops[i]?=some o/\av_ o=true/\YieldsIn P ops (cls C (kd i)) o v a/\dQ_ P ops C Q kd f (listed.setIfInBounds i true) (a.put o.dst v) w
def em_ (P:Program) (ops:Array Oper) (C D:World ->Prop) (Q:Exit ->Act ->World ->Prop) (kd:Nat ->Nat):Nat ->Array Bool ->Act ->Prop
 |0,listed,a=>Region.ready .any ops listed=[]/\ ∀ w,D w ->Q .normal a w
 |f+1,listed,a=>(Region.ready .any ops listed=[] -> ∀ w,D w ->Q .normal a w)/\ ∀ i∈Region.ready .any ops listed,
   if kd i=2 then ∀ w,D w ->wpOp P ops Q i (dQ_ P ops C Q kd f (listed.setIfInBounds i true)) a w
   else if kd i=3 then ∀ w,D w ->wpOp P ops Q i (fun a' w'=>C w'/\dQ_ P ops C Q kd f (listed.setIfInBounds i true) a' w') a w
   else ∃ o v,ops[i]?=some o/\(kd i≠0∨D≠C ->av_ o=true)/\YieldsIn P ops (cls C (kd i)) o v a/\em_ P ops C D Q kd f (listed.setIfInBounds i true) (a.put o.dst v)
def bx_ (ops:Array Oper) (listed:Array Bool):Prop:= ∀ j oj,ops[j]?=some oj ->listed.getD j false=true -> ∀ e∈oj.after,Region.binds .any e=true ->listed.getD e.on false=true
theorem bA_ {i:Nat} {listed:Array Bool} (h:bx_ ops listed) (hi:i∈Region.ready .any ops listed):bx_ ops (listed.setIfInBounds i true):=by
 intro j D y z e q p;obtain⟨_,F,n,f⟩:=mem_ready.1 hi;by_cases g:i=j
 ·subst g;have:D=F:=Option.some.inj (y.symm.trans n);subst this;exact getD_set_true (f e q p)
 ·rw [getD_set_ne false g] at z;exact getD_set_true (h j D y z e q p)
theorem cY_ (n:Nat):bx_ ops (Array.replicate n false):=fun j oj hj f=>by
 rcases Nat.lt_or_ge j n with h|h
 ·simp [h] at f
 ·simp [h] at f
structure dd_ (ops:Array Oper) (kd:Nat ->Nat):Prop where
 sel:Region.noSelect ops=true
 ahead: ∀ listed i j oi oj,bx_ ops listed ->j∈Region.ready .any ops listed ->2<=kd j ->ops[j]?=some oj ->kd i<2 ->ops[i]?=some oi ->listed.getD i true=false ->av_ oi=true/\(kd i=0 ->kd j=2 ->c3_ oj=true)
 free: ∀ i oi,kd i=1 ->ops[i]?=some oi ->av_ oi=true
theorem f0_ {C:World ->Prop} {o:Oper} {v:Value} {a:Act} {w:World} {K:Act ->World ->Prop} (hp:av_ o=true) (hy:YieldsIn P ops C o v a) (hw:C w) (i:Nat) (hi:ops[i]?=some o) (h:K (a.put o.dst v) w):wpOp P ops Q i K a w:=by
 unfold wpOp;simp only [hi];rcases hy with⟨g,z⟩|⟨g,rfl⟩
 ·simp only [g,if_true];left;have p:=z w hw;have y:=fun q f j=>i8_ (P:=P) hp a.eval w q f j;unfold Oper.quietAt at p;unfold Oper.wp;generalize (execOp a.eval o).run P w=r at*
  cases r with
  |ok n q=>
   cases n<;>simp only [Oper.quietUpon] at p<;>simp only [Oper.upon]
   case value u=>rw [p.1,p.2];exact h
   case skip=>rw [p.1, <-p.2];exact h
   case enter f j=>exact absurd rfl (y q f j)
  |halt x q=>simp only [Oper.quietUpon] at p
 ·simp only [g,Bool.false_eq_true,if_false];exact h
theorem fY_ (hC: ∀ w w',C w ->Below w.heap.size w w' ->C w') {j:Nat} {oj:Oper} (hj:ops[j]?=some oj) (hm:c3_ oj=true) {K K':Act ->World ->Prop} {a a':Act} {w:World} (hw:C w)
 (he:execOp a'.eval oj=execOp a.eval oj) (hwt:Region.wanted oj (yielded ops a'.tmps)=Region.wanted oj (yielded ops a.tmps)) (hd:a'.defers=a.defers)
 (h:wpOp P ops Q j K a w) (hK: ∀ v w',C w' ->K (a.put oj.dst v) w' ->K' (a'.put oj.dst v) w'):wpOp P ops Q j K' a' w:=by
 unfold wpOp at*;simp only [hj] at*;rw [hwt];split
 ·rename_i f;simp only [f,if_true] at h;rcases h with h|h
  ·left;unfold Oper.wp at*;rw [he];obtain⟨s,p,g⟩:=jJ_ (P:=P) hm a.eval;rw [p] at h ⊢;have n:=g w;simp only [Sem.run_bind] at h ⊢;generalize s.run P w=r at*
   cases r with
   |ok v w'=>exact hK v w' (hC w w' hw n) h
   |halt e w'=>cases e<;>first|exact n.elim|exact h
  ·right;refine⟨?_,h.2⟩;unfold Oper.asks at*;rw [he];exact h.1
 ·rename_i f;simp only [f] at h;exact hK _ _ hw h
theorem fw_ (hN: ∀ e a w,Q e a w ->e= .normal) {j:Nat} {oj:Oper} (hj:ops[j]?=some oj) {K K':Act ->World ->Prop} {a a':Act} {w:World}
 (he:execOp a'.eval oj=execOp a.eval oj) (hwt:Region.wanted oj (yielded ops a'.tmps)=Region.wanted oj (yielded ops a.tmps))
 (h:wpOp P ops Q j K a w) (hK: ∀ (v:Value) w',K (a.put oj.dst v) w' ->K' (a'.put oj.dst v) w') (hKd: ∀ d w',K ({a with defers:=d::a.defers}.put oj.dst undef) w' ->K' ({a' with defers:=d::a'.defers}.put oj.dst undef) w'):wpOp P ops Q j K' a' w:=by
 have p: ∀ {a w c},¬ Q (.panic c) a w:=fun h=>by cases hN _ _ _ h
 have q: ¬ LetsOut Q:=fun⟨a,w,h⟩=>by cases hN _ _ _ h
 unfold wpOp at*;simp only [hj] at*;rw [hwt];split
 ·rename_i g;simp only [g,if_true] at h;rcases h with h|h
  ·left;unfold Oper.wp at*;rw [he];generalize (execOp a.eval oj).run P w=r at*
   cases r with
   |ok n w'=>
    cases n<;>simp only [Oper.upon] at h ⊢
    case value u=>exact hK _ _ h
    case skip=>exact hK _ _ h
    case defer d=>exact hKd _ _ h
    case enter f args=>
     refine h.mono fun e y he=>?_
     cases e with
     |returned v=>exact hK _ _ he
     |panicked c=>exact(p he).elim
     |outgrown=>exact he
    case row r args=>exact h.mono fun v y h=>hK _ _ h
   |halt x w'=>
    cases x<;>simp only [Oper.upon] at h ⊢
    case panic v=>exact(p h).elim
  ·exact(q h.2).elim
 ·rename_i g;simp only [g] at h;exact hK _ _ h
theorem gm_ {C C':World ->Prop} {j:Nat} {oi oj:Oper} {v vj:Value} (hap:oi.apart ops oj=true) (hsi: ∀ cs b,oi.op≠ .select cs b) (hsj: ∀ cs b,oj.op≠ .select cs b) {a:Act}
 (hy:YieldsIn P ops C oi v a) (h:YieldsIn P ops C' oj vj (a.put oi.dst v)):YieldsIn P ops C' oj vj a/\YieldsIn P ops C oi v (a.put oj.dst vj)/\(a.put oj.dst vj).put oi.dst v=(a.put oi.dst v).put oj.dst vj:=by
 obtain⟨f,n,g⟩:=Oper.apart_spec hap;exact⟨h.of_same (execOp_put oj hsj a oi.dst v f).symm (wanted_put oj a oi.dst v f).symm,hy.of_same (execOp_put oi hsi a oj.dst vj g) (wanted_put oi a oj.dst vj g),(Act.put_comm a v vj n).symm⟩
def gI_ (ops:Array Oper) (listed:Array Bool) (i:Nat) (oi:Oper):Prop:= ∀ j oj,ops[j]?=some oj ->j≠i ->listed.getD j true=false ->(∀ e∈oj.after,Region.binds .any e=true ->e.on≠i) ->oi.apart ops oj=true
theorem iM_ {listed:Array Bool} {i j:Nat} {oi:Oper} (h:gI_ ops listed i oi) (hun:listed.getD j true=false):gI_ ops (listed.setIfInBounds j true) i oi:=fun k y q n g p=>by
 refine h k y q n ?_ p;by_cases f:j=k
 ·subst f;exact hun
 ·rw [getD_set_ne true f] at g;exact g
theorem if_ {listed:Array Bool} {i j:Nat} {oj:Oper} (hi:i∈Region.ready .any ops listed) (hj:j∈Region.ready .any ops listed) (hoj:ops[j]?=some oj): ∀ e∈oj.after,Region.binds .any e=true ->e.on≠i:=fun e F D q=>by
 obtain⟨_,y,n,g⟩:=mem_ready.1 hj;have:oj=y:=Option.some.inj (hoj.symm.trans n);subst this;have f:=g e F D;have z:=(mem_ready.1 hi).1;rw [q] at f;rcases Nat.lt_or_ge i listed.size with p|p
 ·simp [p] at z f;rw [z] at f;cases f
 ·simp [Array.getElem?_eq_none p] at f
theorem g7_ (a:Act) (x:Option Tmp) (v:Value):(a.put x v).defers =a.defers:=by cases x<;>rfl
theorem ek_ (a:Act) (x:Option Tmp) (v:Value) (d:Deferred):({a with defers:=d::a.defers}:Act).put x v={(a.put x v) with defers:=d::(a.put x v).defers}:=by cases x<;>rfl
theorem cR_ (S:dd_ ops kd) (hN: ∀ e a w,Q e a w ->e= .normal) (hC: ∀ w w',C w ->Below w.heap.size w w' ->C w') {i:Nat} {oi:Oper} {v:Value} (hi:ops[i]?=some oi) (hl:kd i<2) (hp:av_ oi=true):
 ∀ (f:Nat) (listed:Array Bool) (a:Act) (w:World),(kd i=0 ->C w) ->bx_ ops listed ->gI_ ops listed i oi ->i∈Region.ready .any ops listed ->YieldsIn P ops (cls C (kd i)) oi v a ->
   dQ_ P ops C Q kd f (listed.setIfInBounds i true) (a.put oi.dst v) w ->dQ_ P ops C Q kd (f+1) listed a w:=by
 intro f
 induction f with
 |zero=>
  intro listed a w hw X z T N H;refine⟨fun h=>(by rw [h] at T;cases T),fun j Y=>?_⟩;by_cases g:j=i
  ·subst g;rw [if_neg (by omega),if_neg (by omega)];exact⟨oi,v,hi,hp,N,H⟩
  ·have:=ready_mono Y g;rw [H.1] at this;cases this
 |succ f ih=>
  intro listed a w hw X z T N H;refine⟨fun h=>(by rw [h] at T;cases T),fun j Y=>?_⟩;by_cases g:j=i
  ·subst g;rw [if_neg (by omega),if_neg (by omega)];exact⟨oi,v,hi,hp,N,H⟩
  ·have U:=H.2 j (ready_mono Y g);obtain⟨R,n,q,_⟩:=mem_ready.1 Y;have k:=z j n q g R (if_ T Y q);obtain⟨Z,c,J⟩:=Oper.apart_spec k;have M:=fun cs b=>Region.noSelect_spec S.sel j n cs b q;have G:=fun cs b=>Region.noSelect_spec S.sel i oi cs b hi;have F:=ready_mono (i:=j) T (Ne.symm g);have D:=iM_ z R;have p:=bA_ X Y;by_cases L:kd j=2
   ·rw [if_pos L] at U ⊢;by_cases s:kd i=0
    ·have hm:=(S.ahead listed i j oi n X Y (by omega) q hl hi (mem_ready.1 T).1).2 s L;refine fY_ hC q hm (hw s) (execOp_put n M a oi.dst v Z).symm (wanted_put n a oi.dst v Z).symm (g7_ _ _ _).symm U fun u w' aC y=>?_;refine ih _ _ _ (fun _=>aC) p D F (N.of_same (execOp_put oi G a n.dst u J) (wanted_put oi a n.dst u J)) ?_;rw [Array.setIfInBounds_comm _ _ g, <-Act.put_comm a v u c];exact y
    ·refine fw_ hN q (execOp_put n M a oi.dst v Z).symm (wanted_put n a oi.dst v Z).symm U (fun u w' y=>?_) (fun d w' y=>?_)
     ·refine ih _ _ _ (fun h=>absurd h s) p D F (N.of_same (execOp_put oi G a n.dst u J) (wanted_put oi a n.dst u J)) ?_;rw [Array.setIfInBounds_comm _ _ g, <-Act.put_comm a v u c];exact y
     ·refine ih _ _ _ (fun h=>absurd h s) p D F ?_ ?_
      ·exact(N.of_same (a':={a with defers:=d::a.defers}) rfl rfl).of_same (execOp_put oi G _ n.dst undef J) (wanted_put oi _ n.dst undef J)
      ·rw [Array.setIfInBounds_comm _ _ g, <-Act.put_comm _ v undef c,ek_ a oi.dst v d];exact y
   ·by_cases r:kd j=3
    ·rw [if_neg L,if_pos r] at U ⊢;refine fw_ hN q (execOp_put n M a oi.dst v Z).symm (wanted_put n a oi.dst v Z).symm U (fun u w' y=>⟨y.1,?_⟩) (fun d w' y=>⟨y.1,?_⟩)
     ·refine ih _ _ _ (fun _=>y.1) p D F (N.of_same (execOp_put oi G a n.dst u J) (wanted_put oi a n.dst u J)) ?_;rw [Array.setIfInBounds_comm _ _ g, <-Act.put_comm a v u c];exact y.2
     ·refine ih _ _ _ (fun _=>y.1) p D F ?_ ?_
      ·exact(N.of_same (a':={a with defers:=d::a.defers}) rfl rfl).of_same (execOp_put oi G _ n.dst undef J) (wanted_put oi _ n.dst undef J)
      ·rw [Array.setIfInBounds_comm _ _ g, <-Act.put_comm _ v undef c,ek_ a oi.dst v d];exact y.2
    ·rw [if_neg L,if_neg r] at U ⊢;obtain⟨o',u,aA,aB,aD,y⟩:=U;have:n=o':=Option.some.inj (q.symm.trans aA);subst this;obtain⟨q1,q2,q3⟩:=gm_ (j:=j) k G M N aD;refine⟨n,u,q,aB,q1,ih _ _ _ hw p D F q2 ?_⟩;rw [Array.setIfInBounds_comm _ _ g,q3];exact y
theorem mR_ {D:World ->Prop} (hDC: ∀ w,D w ->C w) (hDp:D≠C -> ∀ i oi,kd i=0 ->ops[i]?=some oi ->av_ oi=true) (S:dd_ ops kd) (hN: ∀ e a w,Q e a w ->e= .normal) (hC: ∀ w w',C w ->Below w.heap.size w w' ->C w') {i:Nat} {oi:Oper} {v:Value} (hi:ops[i]?=some oi) (hl:kd i<2):
 ∀ (f:Nat) (listed:Array Bool) (a:Act),bx_ ops listed ->gI_ ops listed i oi ->i∈Region.ready .any ops listed ->YieldsIn P ops (cls C (kd i)) oi v a ->
   em_ P ops C D Q kd f (listed.setIfInBounds i true) (a.put oi.dst v) ->em_ P ops C D Q kd (f+1) listed a:=by
 have aC:kd i≠0∨D≠C ->av_ oi=true:=fun h=>by
  by_cases s:kd i=0
  ·exact hDp (h.resolve_left (by omega)) i oi s hi
  ·exact S.free i oi (by omega) hi
 intro f
 induction f with
 |zero=>
  intro listed a M z R U H;refine⟨fun h=>(by rw [h] at R;cases R),fun j X=>?_⟩;by_cases g:j=i
  ·subst g;rw [if_neg (by omega),if_neg (by omega)];exact⟨oi,v,hi,aC,U,H⟩
  ·have:=ready_mono X g;rw [H.1] at this;cases this
 |succ f ih=>
  intro listed a M z R U H;refine⟨fun h=>(by rw [h] at R;cases R),fun j X=>?_⟩;by_cases g:j=i
  ·subst g;rw [if_neg (by omega),if_neg (by omega)];exact⟨oi,v,hi,aC,U,H⟩
  ·have Z:=H.2 j (ready_mono X g);obtain⟨Y,n,p,_⟩:=mem_ready.1 X;have aA:=z j n p g Y (if_ R X p);obtain⟨c,r,L⟩:=Oper.apart_spec aA;have T:=fun cs b=>Region.noSelect_spec S.sel j n cs b p;have J:=fun cs b=>Region.noSelect_spec S.sel i oi cs b hi;have G:=ready_mono (i:=j) R (Ne.symm g);have F:=iM_ z Y;have q:=bA_ M X;by_cases N:kd j=2
   ·rw [if_pos N] at Z ⊢;intro w hw;obtain⟨k,hm⟩:=S.ahead listed i j oi n M X (by omega) p hl hi (mem_ready.1 R).1;by_cases s:kd i=0
    ·refine fY_ hC p (hm s N) (hDC w hw) (execOp_put n T a oi.dst v c).symm (wanted_put n a oi.dst v c).symm (g7_ _ _ _).symm (Z w hw) fun u w' aF y=>?_;refine cR_ S hN hC hi hl k f _ _ _ (fun _=>aF) q F G (U.of_same (execOp_put oi J a n.dst u L) (wanted_put oi a n.dst u L)) ?_;rw [Array.setIfInBounds_comm _ _ g, <-Act.put_comm a v u r];exact y
    ·refine fw_ hN p (execOp_put n T a oi.dst v c).symm (wanted_put n a oi.dst v c).symm (Z w hw) (fun u w' y=>?_) (fun d w' y=>?_)
     ·refine cR_ S hN hC hi hl k f _ _ _ (fun h=>absurd h s) q F G (U.of_same (execOp_put oi J a n.dst u L) (wanted_put oi a n.dst u L)) ?_;rw [Array.setIfInBounds_comm _ _ g, <-Act.put_comm a v u r];exact y
     ·refine cR_ (v:=v) S hN hC hi hl k f _ _ _ (fun h=>absurd h s) q F G ?_ ?_
      ·exact(U.of_same (a':={a with defers:=d::a.defers}) rfl rfl).of_same (execOp_put oi J _ n.dst undef L) (wanted_put oi _ n.dst undef L)
      ·rw [Array.setIfInBounds_comm _ _ g, <-Act.put_comm _ v undef r,ek_ a oi.dst v d];exact y
   ·by_cases aB:kd j=3
    ·rw [if_neg N,if_pos aB] at Z ⊢;intro w hw;obtain⟨k,_⟩:=S.ahead listed i j oi n M X (by omega) p hl hi (mem_ready.1 R).1;refine fw_ hN p (execOp_put n T a oi.dst v c).symm (wanted_put n a oi.dst v c).symm (Z w hw) (fun u w' y=>⟨y.1,?_⟩) (fun d w' y=>⟨y.1,?_⟩)
     ·refine cR_ S hN hC hi hl k f _ _ _ (fun _=>y.1) q F G (U.of_same (execOp_put oi J a n.dst u L) (wanted_put oi a n.dst u L)) ?_;rw [Array.setIfInBounds_comm _ _ g, <-Act.put_comm a v u r];exact y.2
     ·refine cR_ (v:=v) S hN hC hi hl k f _ _ _ (fun _=>y.1) q F G ?_ ?_
      ·exact(U.of_same (a':={a with defers:=d::a.defers}) rfl rfl).of_same (execOp_put oi J _ n.dst undef L) (wanted_put oi _ n.dst undef L)
      ·rw [Array.setIfInBounds_comm _ _ g, <-Act.put_comm _ v undef r,ek_ a oi.dst v d];exact y.2
    ·rw [if_neg N,if_neg aB] at Z ⊢;obtain⟨o',u,aD,aE,aG,y⟩:=Z;have:n=o':=Option.some.inj (p.symm.trans aD);subst this;obtain⟨q1,q2,q3⟩:=gm_ (j:=j) aA J T U aG;refine⟨n,u,p,aE,q1,ih _ _ q F G q2 ?_⟩;rw [Array.setIfInBounds_comm _ _ g,q3];exact y
def Inv (ops:Array Oper) (C:World ->Prop) (kd:Nat ->Nat) (listed:Array Bool) (w:World):Prop:=C w∨ ∀ i oi,ops[i]?=some oi ->kd i=0 ->listed.getD i false=true
theorem oP_ {listed:Array Bool} {w:World} (j:Nat) (h:Inv ops C kd listed w):Inv ops C kd (listed.setIfInBounds j true) w:=h.imp id fun h i n f g=>getD_set_true (h i n f g)
theorem h1_ (S:dd_ ops kd) (hC: ∀ w w',C w ->Below w.heap.size w w' ->C w') {listed:Array Bool} {a:Act} {w:World} (hsz:listed.size=ops.size) (hcl:bx_ ops listed) (hinv:Inv ops C kd listed w) {j:Nat} {oj:Oper} (hj:j∈Region.ready .any ops listed) (hoj:ops[j]?=some oj) (hlj:kd j=2)
 {K K':Act ->World ->Prop} (h1:wpOp P ops Q j K a w) (hK: ∀ a' w',Inv ops C kd (listed.setIfInBounds j true) w' ->K a' w' ->K' a' w'):wpOp P ops Q j K' a w:=by
 rcases Classical.em (∀ i p,ops[i]?=some p ->kd i=0 ->listed.getD i false=true) with g|f
 ·exact wpOp_mono (fun a' w' y=>hK a' w' (.inr fun i p q D=>getD_set_true (g i p q D)) y) h1
 ·have L:C w:=hinv.resolve_right f;simp only [Classical.not_forall] at f;obtain⟨i,p,q,D,n⟩:=f;have z:i<listed.size:=by rw [hsz];exact(Array.getElem?_eq_some_iff.1 q).1
  have F:listed.getD i true=false:=by simp [z] at n ⊢;exact n
  have J:=(S.ahead listed i j p oj hcl hj (by omega) hoj (by omega) q F).2 D hlj;exact fY_ hC hoj J L rfl rfl rfl h1 fun v w' G y=>hK _ _ (.inl G) y
theorem dD_ (S:dd_ ops kd) (hC: ∀ w w',C w ->Below w.heap.size w w' ->C w'): ∀ (f:Nat) (listed:Array Bool) (a:Act) (w:World),listed.size=ops.size ->bx_ ops listed ->Inv ops C kd listed w ->
 dQ_ P ops C Q kd f listed a w ->wpAny P .any ops Q f listed a w
 |0,_,_,_,_,_,_,h=>h
 |f+1,listed,a,w,hsz,hcl,hinv,h=>by
  refine⟨h.1,fun j hj=>?_⟩;have h1:=h.2 j hj;obtain⟨n,L,p,_⟩:=mem_ready.1 hj;have g:=bA_ hcl hj;have q:(listed.setIfInBounds j true).size =ops.size:=by simp [hsz]
  by_cases y:kd j=2
  ·rw [if_pos y] at h1;exact h1_ S hC hsz hcl hinv hj p y h1 fun M w' R z=>dD_ S hC f _ _ _ q g R z
  ·by_cases F:kd j=3
   ·rw [if_neg y,if_pos F] at h1;exact wpOp_mono (fun M w' z=>dD_ S hC f _ _ _ q g (.inl z.1) z.2) h1
   rw [if_neg y,if_neg F] at h1;obtain⟨Y,u,J,T,X,z⟩:=h1;have:L=Y:=Option.some.inj (p.symm.trans J);subst this;have G:j<listed.size:=by rw [hsz];exact(Array.getElem?_eq_some_iff.1 p).1
   have U:cls C (kd j) w:=fun N=>hinv.resolve_right fun D=>by have:=D j L p N;simp [G] at this n;rw [this] at n;cases n
   exact f0_ T X U j p (dD_ S hC f _ _ _ q g (oP_ j hinv) z)
theorem dE_ {D:World ->Prop} (hDC: ∀ w,D w ->C w) (S:dd_ ops kd) (hC: ∀ w w',C w ->Below w.heap.size w w' ->C w'): ∀ (f:Nat) (listed:Array Bool) (a:Act) (w:World),listed.size=ops.size ->bx_ ops listed ->D w ->
 em_ P ops C D Q kd f listed a ->wpAny P .any ops Q f listed a w
 |0,_,_,_,_,_,hw,h=>⟨h.1,h.2 _ hw⟩
 |f+1,listed,a,w,hsz,hcl,hw,h=>by
  refine⟨fun h0=>h.1 h0 w hw,fun j hj=>?_⟩;have h1:=h.2 j hj;obtain⟨aA,oj,F,_⟩:=mem_ready.1 hj;have g:=bA_ hcl hj;have n:(listed.setIfInBounds j true).size =ops.size:=by simp [hsz]
  by_cases p:kd j=2
  ·rw [if_pos p] at h1;exact h1_ S hC hsz hcl (.inl (hDC w hw)) hj F p (h1 w hw) fun L w' T q=>dD_ S hC f _ _ _ n g T q
  ·by_cases y:kd j=3
   ·rw [if_neg p,if_pos y] at h1;exact wpOp_mono (fun L w' q=>dD_ S hC f _ _ _ n g (.inl q.1) q.2) (h1 w hw)
   rw [if_neg p,if_neg y] at h1;obtain⟨o',u,z,U,J,q⟩:=h1;by_cases h0:kd j≠0∨D≠C
   ·exact f0_ (U h0) J (fun _=>hDC w hw) j z (dE_ hDC S hC f _ _ _ n g hw q)
   ·obtain⟨h0,N⟩:kd j=0/\D=C:=⟨Classical.not_not.1 fun h=>h0 (.inl h),Classical.not_not.1 fun h=>h0 (.inr h)⟩
    have R:cls C (kd j)=D:=by rw [N];funext w;simp [cls,h0]
    rw [R] at J;exact wpOp_of_qOp hw (fun L w' G M=>dE_ hDC S hC f _ _ _ n g G M) (J.qOp z q)
end
def af_ (k:Nat):List Nat ->List Oper ->List Oper
 |m::ms,o::l=>if m=k then o::af_ k ms l else af_ k ms l
 |_,_=>[]
def idxK (k:Nat):List Nat ->Nat ->List Nat
 |m::ms,i=>if m=k then i::idxK k ms (i+1) else idxK k ms (i+1)
 |[],_=>[]
def aV_:List Nat ->List Oper ->List (Nat×Oper)
 |m::ms,o::l=>if 2<=m then(m,o)::aV_ ms l else aV_ ms l
 |_,_=>[]
def idxT:List Nat ->Nat ->List Nat
 |m::ms,i=>if 2<=m then i::idxT ms (i+1) else idxT ms (i+1)
 |[],_=>[]
def cs_ (P:Program) (ops:Array Oper) (C:World ->Prop) (Q:Exit ->Act ->World ->Prop):List (Nat×Oper) ->Act ->World ->Prop
 |[],a,w=>Q .normal a w
 |(k,o)::rest,a,w=>if Region.wanted o (yielded ops a.tmps) then o.wp P a w (fun a' w'=>(k=3 ->C w')/\cs_ P ops C Q rest a' w') Q∨(o.asks P a w/\LetsOut Q)
  else(k=3 ->C w)/\cs_ P ops C Q rest (a.put o.dst undef) w
def aq_ (m:List Nat) (j:Nat):Nat:=m[j]?.getD 0
def d7_ (ops:Array Oper):List Nat ->Array Bool ->Bool
 |[],listed=>(Region.ready .any ops listed).isEmpty
 |t::ts,listed=>decide (Region.ready .any ops listed=[t])&&d7_ ops ts (listed.setIfInBounds t true)
def eZ_ (ops:Array Oper) (listed:Array Bool) (k:Nat):Bool:= !listed.getD k true&&((ops[k]?).map fun o=>o.after.toList.all fun e=> !Region.binds .any e||listed.getD e.on false).getD false
def lexM (ops:Array Oper) (cont:Array Bool ->Bool):List Nat ->Array Bool ->Bool
 |[],listed=>cont listed
 |k::r,listed=>eZ_ ops listed k&&(Region.free .any ops listed k&&lexM ops cont r (listed.setIfInBounds k true))
def wt (ops:List Oper) (j i:Nat):Bool:=((ops[j]?).map fun o=>o.after.toList.any fun e=>e.on==i&&Region.binds .any e).getD false
def g8_ (ops:List Oper) (t:Nat):Nat ->Nat ->Bool
 |0,_=>false
 |f+1,i=>wt ops t i||(List.range (t-i-1)).any fun d=>wt ops (i+1+d) i&&g8_ ops t f (i+1+d)
def aE_ (ops:List Oper) (m:List Nat) (t0 e:Nat):Bool:=
 decide (t0<=e)&&(List.range ops.length).all (fun i=>decide (aq_ m i=1)||decide (i=e)&&decide (2<=aq_ m i)||(decide (i<e)&&(List.range (e-i)).any fun d=>decide (aq_ m (i+1+d)≠1)&&wt ops (i+1+d) i)||(decide (e<i)&&decide (2<=aq_ m i)))&&
 ((List.range ops.length).all (fun j=>decide (aq_ m j<2)||decide (j=t0)||(decide (t0<j)&&(List.range j).any fun k=>decide (2<=aq_ m k)&&(decide (j<=e)||decide (e<=k))&&wt ops j k))&&
 ((List.range e).all (fun j=>decide (aq_ m j≠2)||((ops[j]?).map c3_).getD false)&&
 (List.range ops.length).all (fun i=>decide (2<=aq_ m i)||((ops[i]?).map av_).getD false||g8_ ops t0 8 i)))
def oA_ (ops:List Oper) (m:List Nat):Bool:=(af_ 1 m ops).all av_&&m.all fun k=>decide (k<=3)
def oC_:List Nat ->Nat ->Nat
 |[],i=>i
 |m::ms,i=>if 2<=m then i else oC_ ms (i+1)
def oF_:List Oper ->List Nat ->Nat ->Nat
 |o::l,m::ms,i=>if m=2&& !c3_ o then i else oF_ l ms (i+1)
 |_,_,i=>i
def iz_ (l:List Oper) (m:List Nat):Bool:=Region.noSelect l.toArray&&(decide (m.length=l.length)&&(oA_ l m&&(lexM l.toArray (lexM l.toArray (d7_ l.toArray (idxT m 0)) (idxK 1 m 0)) (idxK 0 m 0) (Array.replicate l.length false)&&aE_ l m (oC_ m 0) (oF_ l m 0))))
section
variable {P:Program} {C:World ->Prop} {Q:Exit ->Act ->World ->Prop}
theorem dR_ {ops:Array Oper} {Q Q':Act ->Prop} (h: ∀ a,Q a ->Q' a): ∀ {l:List Oper} {a:Act},wpQuiet P ops C Q l a ->wpQuiet P ops C Q' l a
 |[],a,hh=>h a hh
 |o::l,a,hh=>by
  unfold wpQuiet at hh ⊢;split
  ·rename_i hw;simp only [hw,if_true] at hh;exact Oper.quiet_mono (fun a' h'=>dR_ h h') hh
  ·rename_i hw;simp only [hw] at hh;exact dR_ h hh
theorem dM_ {ops:Array Oper} {listed:Array Bool} {k:Nat} (h:eZ_ ops listed k=true):k∈Region.ready .any ops listed:=by
 unfold eZ_ at h;rw [Bool.and_eq_true] at h;obtain⟨j,f⟩:=h
 cases g:ops[k]? with
 |none=>rw [g] at f;cases f
 |some o=>
  rw [g] at f;refine mem_ready.2 ⟨by simpa using j,o,g,fun e p n=>?_⟩;have:=List.all_eq_true.1 f e (by simpa using p);simpa [n] using this
theorem c2_ (k:Nat): ∀ (r:List Nat) (i:Nat) (l:List Oper) (ops:Array Oper),r.length=l.length ->(∀ j,l[j]?=ops[i+j]?) ->(idxK k r i).filterMap (fun t=>ops[t]?)=af_ k r l
 |[],i,l,ops,hr,hl=>by cases l<;>simp [idxK,af_]
 |b::r,i,[],ops,hr,hl=>by simp at hr
 |b::r,i,o::l,ops,hr,hl=>by
  have ih:=c2_ k r (i+1) l ops (by simpa using hr) (fun j=>by have:=hl (j+1);simpa [Nat.add_assoc,Nat.add_comm 1 j] using this);have f:ops[i]?=some o:=by simpa using (hl 0).symm
  unfold idxK af_;split<;>simp [ih,f]
theorem fG_: ∀ (r:List Nat) (i:Nat) (l:List Oper) (ops:Array Oper) (km:Nat ->Nat),r.length=l.length ->(∀ j,l[j]?=ops[i+j]?) ->(∀ j k,r[j]?=some k ->km (i+j)=k) ->(idxT r i).filterMap (fun t=>(ops[t]?).map fun o=>(km t,o))=aV_ r l
 |[],i,l,ops,km,hr,hl,hk=>by cases l<;>simp [idxT,aV_]
 |b::r,i,[],ops,km,hr,hl,hk=>by simp at hr
 |b::r,i,o::l,ops,km,hr,hl,hk=>by
  have ih:=fG_ r (i+1) l ops km (by simpa using hr) (fun j=>by have:=hl (j+1);simpa [Nat.add_assoc,Nat.add_comm 1 j] using this) (fun j k h=>by have:=hk (j+1) k (by simpa using h);simpa [Nat.add_assoc,Nat.add_comm 1 j] using this);have f:ops[i]?=some o:=by simpa using (hl 0).symm
  have g:km i=b:=by simpa using hk 0 b rfl
  unfold idxT aV_;split<;>simp [ih,f,g]
theorem e9_: ∀ (r:List Nat) (i:Nat),(idxK 0 r i).length +((idxK 1 r i).length +(idxT r i).length)=r.length
 |[],_=>rfl
 |b::r,i=>by
  have:=e9_ r (i+1);unfold idxK idxT;split<;>split<;>split<;>simp<;>omega
theorem iP_: ∀ (r:List Nat) (i t:Nat),t∈idxT r i ->i<=t/\ ∃ k,r[t-i]?=some k/\2<=k
 |[],i,t,h=>by simp [idxT] at h
 |b::r,i,t,h=>by
  unfold idxT at h
  have hrec:t∈idxT r (i+1) ->i<=t/\ ∃ k,(b::r)[t-i]?=some k/\2<=k:=fun h=>by
   obtain⟨h1,k,f,g⟩:=iP_ r (i+1) t h;refine⟨by omega,k,?_,g⟩;rw [show t-i=(t-(i+1))+1 by omega];simpa using f
  split at h
  ·rename_i j;rcases List.mem_cons.1 h with rfl|h
   ·exact⟨Nat.le_refl _,b,by simp,j⟩
   ·exact hrec h
  ·exact hrec h
theorem hW_ {m:List Nat} {t:Nat} (h:t∈idxT m 0):2<=aq_ m t:=by
 obtain⟨_,k,f,g⟩:=iP_ m 0 t h;rw [Nat.sub_zero] at f;simp [aq_,f,g]
theorem iO_ (k:Nat): ∀ (r:List Nat) (i t:Nat),t∈idxK k r i ->i<=t/\r[t-i]?=some k
 |[],i,t,h=>by simp [idxK] at h
 |b::r,i,t,h=>by
  unfold idxK at h
  have hrec:t∈idxK k r (i+1) ->i<=t/\(b::r)[t-i]?=some k:=fun h=>by
   obtain⟨h1,f⟩:=iO_ k r (i+1) t h;refine⟨by omega,?_⟩;rw [show t-i=(t-(i+1))+1 by omega];simpa using f
  split at h
  ·rename_i g;rcases List.mem_cons.1 h with rfl|h
   ·simp [g]
   ·exact hrec h
  ·exact hrec h
theorem eB_ {k:Nat} {m:List Nat} {t:Nat} (h:t∈idxK k m 0):aq_ m t=k:=by
 obtain⟨_,f⟩:=iO_ k m 0 t h;rw [Nat.sub_zero] at f;simp [aq_,f]
theorem do_ {ops:Array Oper} {K K':Act ->World ->Prop} {i k:Nat} {o:Oper} (ho:ops[i]?=some o) {a:Act} {w:World}
 (h:if Region.wanted o (yielded ops a.tmps) then o.wp P a w (fun a' w'=>(k=3 ->C w')/\K a' w') Q∨(o.asks P a w/\LetsOut Q) else(k=3 ->C w)/\K (a.put o.dst undef) w) (hK: ∀ a' w',(k=3 ->C w') ->K a' w' ->K' a' w'):wpOp P ops Q i K' a w:=by
 unfold wpOp;simp only [ho];split
 ·rename_i f;simp only [f,if_true] at h;exact h.imp (Oper.wp_mono fun a' w' g=>hK _ _ g.1 g.2) id
 ·rename_i f;simp only [f] at h;exact hK _ _ h.1 h.2
theorem ey_ {ops:Array Oper} {kd:Nat ->Nat} (hk3: ∀ i,kd i<=3): ∀ (ts:List Nat) (listed:Array Bool) (a:Act) (w:World),(∀ t∈ts,2<=kd t) ->d7_ ops ts listed=true ->
 cs_ P ops C Q (ts.filterMap fun t=>(ops[t]?).map fun o=>(kd t,o)) a w ->dQ_ P ops C Q kd ts.length listed a w
 |[],listed,a,w,hl,hc,h=>⟨by simpa [d7_] using hc,h⟩
 |t::ts,listed,a,w,hl,hc,h=>by
  simp only [d7_,Bool.and_eq_true,decide_eq_true_eq] at hc;refine⟨fun h0=>(by rw [hc.1] at h0;cases h0),fun i hi=>?_⟩;rw [hc.1,List.mem_singleton] at hi;subst hi;have ht:i∈Region.ready .any ops listed:=by rw [hc.1];simp
  obtain⟨_,o,j,_⟩:=mem_ready.1 ht;have aA:=hl i (by simp);simp only [List.filterMap_cons,j,Option.map_some,cs_] at h;by_cases p:kd i=2
  ·rw [if_pos p];exact do_ j h fun g n _ f=>ey_ hk3 ts _ g n (fun t ht=>hl t (by simp [ht])) hc.2 f
  ·have f:kd i=3:=by have:=hk3 i;omega
   rw [if_neg p,if_pos f];exact do_ j h fun g n y q=>⟨y f,ey_ hk3 ts _ g n (fun t ht=>hl t (by simp [ht])) hc.2 q⟩
theorem lX_ {D:World ->Prop} {ops:Array Oper} {kd:Nat ->Nat} (hk3: ∀ i,kd i<=3) (ts:List Nat) (listed:Array Bool) (a:Act) (hl: ∀ t∈ts,2<=kd t) (hc:d7_ ops ts listed=true)
 (h: ∀ w,D w ->cs_ P ops C Q (ts.filterMap fun t=>(ops[t]?).map fun o=>(kd t,o)) a w):em_ P ops C D Q kd ts.length listed a:=by
 cases ts with
 |nil=>exact⟨by simpa [d7_] using hc,h⟩
 |cons t ts=>
  have f:=hc;simp only [d7_,Bool.and_eq_true,decide_eq_true_eq] at hc;refine⟨fun q=>(by rw [hc.1] at q;cases q),fun i n=>?_⟩;have g:=n;rw [hc.1,List.mem_singleton] at g;subst g;have aA:=hl i (by simp);by_cases j:kd i=2
  ·rw [if_pos j];intro w p;have:=(ey_ (C:=C) hk3 (i::ts) listed a w hl f (h w p)).2 i n
   rwa [if_pos j] at this
  ·have y:kd i=3:=by have:=hk3 i;omega
   rw [if_neg j,if_pos y];intro w p;have:=(ey_ (C:=C) hk3 (i::ts) listed a w hl f (h w p)).2 i n
   rwa [if_neg j,if_pos y] at this
theorem dX_ {D:World ->Prop} {ops:Array Oper} {kd:Nat ->Nat} (hDC: ∀ w,D w ->C w) (hDp:D≠C -> ∀ i oi,kd i=0 ->ops[i]?=some oi ->av_ oi=true) (S:dd_ ops kd) (hN: ∀ e a w,Q e a w ->e= .normal) (hC: ∀ w w',C w ->Below w.heap.size w w' ->C w') (k:Nat) (hk2:k<2) (cont:Array Bool ->Bool) (g:Nat) (Qf:Act ->Prop)
 (hg: ∀ listed a,bx_ ops listed ->cont listed=true ->Qf a ->em_ P ops C D Q kd g listed a):
 ∀ (r:List Nat) (listed:Array Bool) (a:Act),(∀ t∈r,kd t=k) ->bx_ ops listed ->lexM ops cont r listed=true ->
   wpQuiet P ops (cls C k) Qf (r.filterMap fun t=>ops[t]?) a ->em_ P ops C D Q kd (r.length+g) listed a
 |[],listed,a,hr,hcl,hB,h=>by
  rw [List.length_nil,Nat.zero_add];exact hg _ _ hcl hB h
 |i::r,listed,a,hr,hcl,hB,h=>by
  simp only [lexM,Bool.and_eq_true] at hB;obtain⟨hrd,hf,hB'⟩:=hB;have j:i∈Region.ready .any ops listed:=dM_ hrd;obtain⟨_,o,f,_⟩:=mem_ready.1 j;have n:=hr i (by simp);simp only [List.filterMap_cons,f] at h;have p:qOp P ops (cls C k) i (wpQuiet P ops (cls C k) Qf (r.filterMap fun t=>ops[t]?)) a:=by unfold qOp;simp only [f];exact h
  obtain⟨v,q,F⟩:=yieldsIn_of_qOp f p;have y:=dX_ hDC hDp S hN hC k hk2 cont g Qf hg r _ _ (fun t G=>hr t (by simp [G])) (bA_ hcl j) hB' F;rw [<-n] at q;have z:=mR_ hDC hDp S hN hC f (by omega) _ listed a hcl (Region.free_spec f hf) j q y;rw [show(i::r).length +g=(r.length+g)+1 by simp;omega];exact z
theorem kw_ {ops:List Oper} {j i:Nat} (h:wt ops j i=true): ∃ o,ops[j]?=some o/\ ∃ e∈o.after,Region.binds .any e=true/\e.on=i:=by
 unfold wt at h
 cases g:ops[j]? with
 |none=>rw [g] at h;cases h
 |some o=>
  rw [g] at h;obtain⟨e,n,f⟩:=List.any_eq_true.1 h;rw [Bool.and_eq_true] at f;exact⟨o,rfl,e,by simpa using n,f.2,by simpa using f.1⟩
def Up (ops:Array Oper) (listed:Array Bool) (j:Nat):Prop:= ∀ oj,ops[j]?=some oj -> ∀ e∈oj.after,Region.binds .any e=true ->listed.getD e.on false=true
theorem fv_ {l:List Oper} {listed:Array Bool} {j i:Nat} (h:Up l.toArray listed j) (hw:wt l j i=true):listed.getD i false=true:=by
 obtain⟨o,n,e,g,f,rfl⟩:=kw_ hw;exact h o (by simpa using n) e g f
theorem f9_ {l:List Oper} {listed:Array Bool} (hcl:bx_ l.toArray listed) {j:Nat} (h:listed.getD j false=true):Up l.toArray listed j:=fun g f=>hcl j g f h
theorem eu_ {ops:Array Oper} {listed:Array Bool} {j:Nat} (h:j∈Region.ready .any ops listed):Up ops listed j:=fun p n=>by
 obtain⟨_,o,f,g⟩:=mem_ready.1 h;have:p=o:=Option.some.inj (n.symm.trans f);subst this;exact g
theorem g9_ {l:List Oper} {listed:Array Bool} (hcl:bx_ l.toArray listed) {t:Nat} (ht:Up l.toArray listed t): ∀ (f i:Nat),g8_ l t f i=true ->listed.getD i false=true
 |0,i,h=>by cases h
 |f+1,i,h=>by
  unfold g8_ at h;rw [Bool.or_eq_true] at h;rcases h with h|h
  ·exact fv_ ht h
  ·obtain⟨d,_,h2⟩:=List.any_eq_true.1 h;rw [Bool.and_eq_true] at h2;exact fv_ (f9_ hcl (g9_ hcl ht f _ h2.2)) h2.1
theorem kx_ {l:List Oper} {m:List Nat} {t0 e:Nat} (hA:aE_ l m t0 e=true) {listed:Array Bool} {i j:Nat} {oi oj:Oper} (hcl:bx_ l.toArray listed) (hj:j∈Region.ready .any l.toArray listed) (hkj:2<=aq_ m j) (hoj:l[j]?=some oj)
 (hki:aq_ m i<2) (hoi:l[i]?=some oi) (hun:listed.getD i true=false):av_ oi=true/\(aq_ m i=0 ->aq_ m j=2 ->c3_ oj=true):=by
 unfold aE_ at hA;simp only [Bool.and_eq_true] at hA;obtain⟨⟨D,F⟩,T,U,X⟩:=hA;have D:=of_decide_eq_true D;have Z:j<l.length:=(List.getElem?_eq_some_iff.1 hoj).1;have g:i<l.length:=(List.getElem?_eq_some_iff.1 hoi).1
 have L: ¬ listed.getD i false=true:=fun h=>by
  rcases Nat.lt_or_ge i listed.size with R|R
  ·simp [R] at h hun;rw [h] at hun;cases hun
  ·simp [Array.getElem?_eq_none R] at h
 have p: ∀ n,n<l.length ->2<=aq_ m n ->Up l.toArray listed n ->(n=t0∨listed.getD t0 false=true)/\(e<n ->listed.getD e false=true):=by
  intro n
  induction n using Nat.strongRecOn with
  |_ n ih=>
   intro hn hk hu;have f:=List.all_eq_true.1 T n (List.mem_range.2 hn);simp only [show ¬ aq_ m n<2 by omega,decide_false,Bool.false_or,Bool.or_eq_true,Bool.and_eq_true,decide_eq_true_eq] at f;by_cases M:n=t0
   ·exact⟨.inl M,fun he=>by omega⟩
   ·rcases f with f|⟨f,h3⟩
    ·exact absurd f M
    ·obtain⟨k,a,h4⟩:=List.any_eq_true.1 h3;simp only [Bool.and_eq_true,Bool.or_eq_true,decide_eq_true_eq] at h4;obtain⟨⟨h5,S⟩,h7⟩:=h4;have r:=List.mem_range.1 a;have y:=fv_ hu h7;obtain⟨s,q2⟩:=ih k r (by omega) h5 (f9_ hcl y);refine⟨.inr ?_,fun he=>?_⟩
     ·rcases s with rfl|s
      ·exact y
      ·exact s
     ·rcases S with S|S
      ·omega
      ·rcases Nat.lt_or_ge e k with h8|h8
       ·exact q2 h8
       ·obtain rfl:k=e:=by omega
        exact y
 have G:=p j Z hkj (eu_ hj)
 have N:Up l.toArray listed t0:=by
  rcases G.1 with rfl|h
  ·exact eu_ hj
  ·exact f9_ hcl h
 refine⟨?_,fun h0 Y=>?_⟩
 ·have f:=List.all_eq_true.1 X i (List.mem_range.2 g);simp only [show ¬ 2<=aq_ m i by omega,decide_false,Bool.false_or,Bool.or_eq_true,hoi,Option.map_some,Option.getD_some] at f;rcases f with f|f
  ·exact f
  ·exact absurd (g9_ hcl N 8 i f) L
 ·rcases Nat.lt_or_ge j e with J|J
  ·have f:=List.all_eq_true.1 U j (List.mem_range.2 J);simpa [Y,hoj] using f
  ·exfalso
   have P:Up l.toArray listed e:=by
    rcases Nat.lt_or_ge e j with h|h
    ·exact f9_ hcl (G.2 h)
    ·obtain rfl:j=e:=by omega
     exact eu_ hj
   have Q: ∀ d i,e-i=d ->i<e ->i<l.length ->aq_ m i≠1 ->listed.getD i false=true:=by
    intro d
    induction d using Nat.strongRecOn with
    |_ d ih=>
     intro i hd aA g hk;have f:=List.all_eq_true.1 F i (List.mem_range.2 g);simp only [hk,decide_false,Bool.false_or,Bool.or_eq_true,Bool.and_eq_true,decide_eq_true_eq] at f;rcases f with(⟨f,_⟩|⟨_,f⟩)|⟨f,_⟩
     ·omega
     ·obtain⟨q,hq,z⟩:=List.any_eq_true.1 f;have hq:=List.mem_range.1 hq;rw [Bool.and_eq_true] at z;by_cases b:i+1+q=e
      ·exact fv_ P (by rw [<-b];exact z.2)
      ·have c:i+1+q<l.length:=by
        obtain⟨o,ho,_⟩:=kw_ z.2;exact(List.getElem?_eq_some_iff.1 ho).1
       exact fv_ (f9_ hcl (ih (e-(i+1+q)) (by omega) (i+1+q) rfl (by omega) c (by simpa using z.1))) z.2
     ·omega
   have f:=List.all_eq_true.1 F i (List.mem_range.2 g);simp only [h0,Bool.or_eq_true,Bool.and_eq_true,decide_eq_true_eq] at f;rcases f with((f|⟨_,f⟩)|⟨f,_⟩)|⟨_,f⟩
   ·omega
   ·omega
   ·exact L (Q _ i rfl f g (by omega))
   ·omega
theorem eU_ (q:Nat): ∀ (m:List Nat) (l:List Oper),m.length=l.length ->(af_ q m l).all av_=true -> ∀ (i:Nat) (oi:Oper),m[i]?=some q ->l[i]?=some oi ->av_ oi=true
 |[],l,hl,h,i,oi,hk,ho=>by simp at hk
 |b::m,[],hl,h,i,oi,hk,ho=>by simp at hl
 |b::m,o::l,hl,h,i,oi,hk,ho=>by
  cases i with
  |zero=>
   simp at hk ho;subst hk ho;unfold af_ at h;simp at h;exact h.1
  |succ i=>
   refine eU_ q m l (by simpa using hl) ?_ i oi (by simpa using hk) (by simpa using ho);unfold af_ at h;split at h
   ·simp at h ⊢;exact h.2
   ·exact h
theorem om_ {l:List Oper} {m:List Nat} (hs:Region.noSelect l.toArray=true) (hlen:m.length=l.length) (hf:(af_ 1 m l).all av_=true) {t0 e:Nat} (hA:aE_ l m t0 e=true):dd_ l.toArray (aq_ m):=
 ⟨hs,fun aA i j F oj g J p y n q z=>kx_ hA g J p (by simpa using y) n (by simpa using q) z,fun i F f G=>eU_ 1 m l hlen hf i F (by unfold aq_ at f;cases D:m[i]? with|none=>rw [D] at f;cases f|some k=>rw [D] at f;simp at f;rw [f]) (by simpa using G)⟩
theorem dr_ {ops:Array Oper}: ∀ (l:List (Nat×Oper)) (a:Act) (w:World),(∀ p∈l,p.1≠3) ->wpList P ops Q (l.map (·.2)) a w ->cs_ P ops C Q l a w
 |[],a,w,_,h=>h
 |(k,o)::rest,a,w,hk,h=>by
  have h3:k≠3:=hk (k,o) (by simp);simp only [List.map_cons,wpList] at h;unfold cs_;split
  ·rename_i g;simp only [g,if_true] at h;exact h.imp (Oper.wp_mono fun j q n=>⟨fun h=>absurd h h3,dr_ rest j q (fun p f=>hk p (by simp [f])) n⟩) id
  ·rename_i g;simp only [g] at h;exact⟨fun h=>absurd h h3,dr_ rest _ _ (fun p f=>hk p (by simp [f])) h⟩
theorem ht_ {ops:Array Oper} {k:Nat} {o:Oper} {rest:List (Nat×Oper)} {a:Act} {w:World} (h:wpList P ops (Exit.then (fun a' w'=>(k=3 ->C w')/\cs_ P ops C Q rest a' w') Q) [o] a w):cs_ P ops C Q ((k,o)::rest) a w:=by
 unfold cs_;simp only [wpList] at h;split
 ·rename_i f;simp only [f,if_true] at h;refine h.imp (fun h=>?_) (fun h=>⟨h.1,?_⟩)
  ·unfold Oper.wp at*;generalize (execOp a.eval o).run P w=r at*
   cases r with
   |ok n w'=>
    cases n<;>simp only [Oper.upon] at h ⊢ <;>exact h
   |halt x w'=>cases x<;>simp only [Oper.upon] at h ⊢ <;>exact h
  ·obtain⟨a,w,h⟩:=h.2;exact⟨a,w,h⟩
 ·rename_i f;simp only [f] at h;exact h
theorem eK_ (D:World ->Prop) (N:Nat) (m:List Nat) {id:Nat} {a:Act} {w:World} {l:List Oper} (hm:P.follows .mixedOrders =true) (hB:iz_ l m=true) (hN':N<=w.heap.size) (hDC: ∀ w',D w' ->Below N w w') (hD0:D {w with drawn:=w.drawn+1}) (hDp:D≠(fun w'=>Below N w w') ->(af_ 0 m l).all av_=true)
 (h: ∀ C:World ->Prop,(C=fun w'=>Below N w w') ->wpQuiet P l.toArray C (fun a1=> ∀ C':World ->Prop,(C'=fun _=>True) ->wpQuiet P l.toArray C' (fun a'=> ∀ w',D w' ->
   cs_ P l.toArray (fun w'=>Below N w w') (Exit.then (fun a w=>Q .normal a w) (fun _ _ _=>False)) (aV_ m l) a' w') (af_ 1 m l) a1) (af_ 0 m l) a):(Code.region id l.toArray true).wp P Q a w:=by
 unfold iz_ at hB;simp only [Bool.and_eq_true,decide_eq_true_eq] at hB;obtain⟨hs,f,G,z,r⟩:=hB;unfold oA_ at G;rw [Bool.and_eq_true] at G
 have T: ∀ i,aq_ m i<=3:=fun i=>by
  unfold aq_
  cases s:m[i]? with
  |none=>simp
  |some k=>have:=List.all_eq_true.1 G.2 k (List.mem_of_getElem? s);simpa using this
 have n:D≠(fun w'=>Below N w w') -> ∀ i J,aq_ m i=0 ->l.toArray[i]?=some J ->av_ J=true:=fun h i J hk X=>by
  have aA:i<l.length:=by have:=(Array.getElem?_eq_some_iff.1 X).1;simpa using this
  exact eU_ 0 m l f (hDp h) i J (by rw [List.getElem?_eq_getElem (by omega)];simpa [aq_,List.getElem?_eq_getElem (show i<m.length by omega)] using hk) (by simpa using X)
 have S:=om_ hs f G.1 r;have M: ∀ w1 w2,Below N w w1 ->Below w1.heap.size w1 w2 ->Below N w w2:=fun w1 w2 q L=>q.trans (L.mono (Nat.le_trans hN' q.size));have hN: ∀ e a w,(Exit.then (fun a w=>Q .normal a w) (fun _ _ _=>False)) e a w ->e= .normal :=fun e a w h=>by cases e<;>first|rfl|exact h.elim
 have b:(idxK 0 m 0).filterMap (fun t=>l.toArray[t]?)=af_ 0 m l:=c2_ 0 m 0 l _ f (by simp);have c:(idxK 1 m 0).filterMap (fun t=>l.toArray[t]?)=af_ 1 m l:=c2_ 1 m 0 l _ f (by simp);have d:(idxT m 0).filterMap (fun t=>(l.toArray[t]?).map fun o=>(aq_ m t,o))=aV_ m l:=fG_ m 0 l _ _ f (by simp) (fun j k h=>by simp [aq_,h]);have U:=h _ rfl;rw [<-b] at U;have Y:cls (fun w'=>Below N w w') 0=fun w'=>Below N w w':=by funext w;simp [cls]
 have Z:cls (fun w'=>Below N w w') 1=fun _=>True:=by funext w;simp [cls]
 have q:=dX_ (C:=fun w'=>Below N w w') (D:=D) (kd:=aq_ m) hDC n S hN M 0 (by omega) _ ((idxK 1 m 0).length +(idxT m 0).length)
  (fun a1=> ∀ C':World ->Prop,(C'=fun _=>True) ->wpQuiet P l.toArray C' (fun a'=> ∀ w',D w' ->cs_ P l.toArray (fun w'=>Below N w w') (Exit.then (fun a w=>Q .normal a w) (fun _ _ _=>False)) (aV_ m l) a' w') (af_ 1 m l) a1)
  (fun g a1 y R p=>by
    have p:=p _ rfl;rw [<-c, <-Z] at p;refine dX_ (C:=fun w'=>Below N w w') (D:=D) (kd:=aq_ m) hDC n S hN M 1 (by omega) _ _ _ (fun g a' y R p=>?_) _ g a1 (fun t F=>eB_ F) y R p;rw [<-d] at p;exact lX_ T _ _ _ (fun t F=>hW_ F) R p)
  (idxK 0 m 0) (Array.replicate l.length false) a (fun t F=>eB_ F) (cY_ _) z (by rw [Y];exact U)
 rw [e9_ m 0,f] at q;have L:=dE_ (C:=fun w'=>Below N w w') hDC S M l.toArray.size (Array.replicate l.length false) a {w with drawn:=w.drawn+1} (by simp) (cY_ _) hD0 (by simpa using q);refine Code.wp_mono (fun e a w h=>?_) (wp_region_any hm (by simpa using L));cases e<;>first|exact h|exact h.elim
theorem eL_ (N:Nat) (m:List Nat) {id:Nat} {a:Act} {w:World} {l:List Oper} (hm:P.follows .mixedOrders =true) (hB:(iz_ l m&&(af_ 0 m l).all av_)=true) (hN':N<=w.heap.size)
 (h: ∀ C:World ->Prop,(C=fun w'=>Below N w w') ->wpQuiet P l.toArray C (fun a1=> ∀ C':World ->Prop,(C'=fun _=>True) ->wpQuiet P l.toArray C' (fun a'=> ∀ w',w'={w with drawn:=w.drawn+1} ->
   cs_ P l.toArray (fun w'=>Below N w w') (Exit.then (fun a w=>Q .normal a w) (fun _ _ _=>False)) (aV_ m l) a' w') (af_ 1 m l) a1) (af_ 0 m l) a):(Code.region id l.toArray true).wp P Q a w:=by
 rw [Bool.and_eq_true] at hB;exact eK_ (fun w'=>w'={w with drawn:=w.drawn+1}) N m hm hB.1 hN' (fun w' h=>by subst h;exact⟨rfl,rfl,rfl,Nat.le_refl _,fun _ _=>rfl⟩) rfl (fun _=>hB.2) h
theorem ia_ {m:List Nat}: ∀ {m:List Nat} {l:List Oper},(m.all fun k=>decide (k<=2))=true ->(∀ p∈aV_ m l,p.1≠3)/\(aV_ m l).map (·.2)=af_ 2 m l
 |[],l,_=>by cases l<;>simp [aV_,af_]
 |k::m,[],_=>by simp [aV_,af_]
 |k::m,o::l,h=>by
  rw [List.all_cons,Bool.and_eq_true,decide_eq_true_eq] at h;obtain⟨i1,i2⟩:=ia_ (m:=m) (l:=l) h.2;unfold aV_ af_;by_cases g:2<=k
  ·obtain rfl:k=2:=by omega
   rw [if_pos rfl];refine⟨fun p f=>?_,by simp [i2]⟩;rcases List.mem_cons.1 f with rfl|f
   ·simp
   ·exact i1 p f
  ·rw [if_neg g,if_neg (by omega)];exact⟨i1,i2⟩
theorem wl_ (m:List Nat) {id:Nat} {a:Act} {w:World} {l:List Oper}
 (h: ∀ C:World ->Prop,(C=fun w'=>Below w.heap.size w w') ->wpQuiet P l.toArray C (fun a1=> ∀ C':World ->Prop,(C'=fun _=>True) ->wpQuiet P l.toArray C' (fun a'=> ∀ w',Below w.heap.size w w' ->
   wpList P l.toArray (Exit.then (fun a w=>Q .normal a w) (fun _ _ _=>False)) (af_ 2 m l) a' w') (af_ 1 m l) a1) (af_ 0 m l) a) (hm:P.follows .mixedOrders =true:=by kernel_rfl) (hB2:(iz_ l m&&m.all fun k=>decide (k<=2))=true:=by kernel_rfl):(Code.region id l.toArray true).wp P Q a w:=by
 rw [Bool.and_eq_true] at hB2;obtain⟨q,p⟩:=hB2;refine eK_ (fun w'=>Below w.heap.size w w') w.heap.size m hm q (Nat.le_refl _) (fun _ h=>h) ⟨rfl,rfl,rfl,Nat.le_refl _,fun _ _=>rfl⟩ (fun h=>absurd rfl h) fun C y=>?_;obtain⟨z,D⟩:=ia_ (m:=m) (l:=l) p;rw [<-D] at h;exact dR_ (fun a1 n C' f=>dR_ (fun a' j w' g=>dr_ _ _ _ z (j w' g)) (n C' f)) (h C y)
def fR_ (ops:List Oper) (t:Nat):Nat ->Nat ->Bool
 |0,_=>false
 |f+1,i=>wt ops t i||(List.range (t-i-1)).any fun d=>wt ops (i+1+d) i&&fR_ ops t f (i+1+d)
theorem eP_ {l:List Oper} {listed:Array Bool} (hcl:bx_ l.toArray listed) {t:Nat} (ht:Up l.toArray listed t): ∀ (f i:Nat),fR_ l t f i=true ->listed.getD i false=true
 |0,i,h=>by cases h
 |f+1,i,h=>by
  unfold fR_ at h;rw [Bool.or_eq_true] at h;rcases h with h|h
  ·exact fv_ ht h
  ·obtain⟨d,_,h2⟩:=List.any_eq_true.1 h;rw [Bool.and_eq_true] at h2;exact fv_ (f9_ hcl (eP_ hcl ht f _ h2.2)) h2.1
end
end Go.Proofs.YtechdefolfboeaaGreatDoor.B
namespace Go.Proofs.YtechdefolfboeaaGreatDoor
namespace B
open Go.RowKit
def kd5 (m:List Nat) (j:Nat):Nat:=if aq_ m j=4 then 1 else if aq_ m j=5 then 0 else aq_ m j
def aW_ (P:Program) (ops:Array Oper) (C:World ->Prop) (Q:Exit ->Act ->World ->Prop):List (Nat×Oper) ->Act ->World ->Prop
 |[],a,w=>Q .normal a w
 |(k,o)::rest,a,w=>if k=4 then wpQuiet P ops (fun _=>True) (fun a'=>aW_ P ops C Q rest a' w) [o] a
  else if k=5 then C w/\wpQuiet P ops C (fun a'=>aW_ P ops C Q rest a' w) [o] a
  else if Region.wanted o (yielded ops a.tmps) then o.wp P a w (fun a' w'=>(k=3 ->C w')/\aW_ P ops C Q rest a' w') Q∨(o.asks P a w/\LetsOut Q)
  else(k=3 ->C w)/\aW_ P ops C Q rest (a.put o.dst undef) w
def d6_ (ops:Array Oper) (m:List Nat):List Nat ->Array Bool ->Bool
 |[],listed=>(Region.ready .any ops listed).isEmpty
 |t::ts,listed=>(if aq_ m t=4∨aq_ m t=5 then eZ_ ops listed t&&(Region.free .any ops listed t&&((ops[t]?).map av_).getD false) else decide (Region.ready .any ops listed=[t]))&&d6_ ops m ts (listed.setIfInBounds t true)
def lK_ (ops:List Oper) (m:List Nat):Bool:=(List.range ops.length).all fun j=>decide (kd5 m j<2)||(List.range ops.length).all fun i=>decide (2<=kd5 m i)||(((ops[i]?).map av_).getD false&&(decide (kd5 m i=1)||decide (kd5 m j=3)||((ops[j]?).map c3_).getD false))||fR_ ops j 40 i
def kL_ (m:List Nat) (ts:List Nat):Bool:=match ts with
 |t::_=>decide (¬ (aq_ m t=4∨aq_ m t=5))
 |[]=>true
def iA_ (l:List Oper) (m:List Nat) (ts:List Nat):Bool:=ts.all (fun t=>decide (2<=aq_ m t))&&(decide (ts.length=(idxT m 0).length)&&(Region.noSelect l.toArray&&(decide (m.length=l.length)&&((af_ 1 m l).all av_&&((af_ 0 m l).all av_&&((m.all fun k=>decide (k<=5))&&(kL_ m ts&&(lexM l.toArray (lexM l.toArray (d6_ l.toArray m ts) (idxK 1 m 0)) (idxK 0 m 0) (Array.replicate l.length false)&&(lK_ l m&&((af_ 4 m l).all av_&&(af_ 5 m l).all av_))))))))))
def insT {α:Type}:Nat ->α ->List α ->List α
 |0,x,xs=>x::xs
 |k+1,x,y::ys=>y::insT k x ys
 |_+1,x,[]=>[x]
def rotT {α:Type}:Nat ->Nat ->List α ->List α
 |0,k,x::xs=>insT k x xs
 |p+1,k,x::xs=>x::rotT p k xs
 |_,_,[]=>[]
def k8_ (m:List Nat) (l:List Oper) (ts:List Nat):List (Nat×Oper):=ts.filterMap fun t=>(l.toArray[t]?).map fun o=>(aq_ m t,o)
section
variable {P:Program} {C:World ->Prop} {Q:Exit ->Act ->World ->Prop}
theorem jw_ {l:List Oper} {m:List Nat} (hA:lK_ l m=true) {listed:Array Bool} {i j:Nat} {oi oj:Oper} (hcl:bx_ l.toArray listed) (hj:j∈Region.ready .any l.toArray listed) (hkj:2<=kd5 m j) (hoj:l[j]?=some oj)
 (hki:kd5 m i<2) (hoi:l[i]?=some oi) (hun:listed.getD i true=false):av_ oi=true/\(kd5 m i=0 ->kd5 m j=2 ->c3_ oj=true):=by
 have q:j<l.length:=(List.getElem?_eq_some_iff.1 hoj).1;have p:i<l.length:=(List.getElem?_eq_some_iff.1 hoi).1
 have y: ¬ listed.getD i false=true:=fun h=>by
  rcases Nat.lt_or_ge i listed.size with n|n
  ·simp [n] at h hun;rw [h] at hun;cases hun
  ·simp [Array.getElem?_eq_none n] at h
 have z:=List.all_eq_true.1 hA j (List.mem_range.2 q);simp only [show ¬ kd5 m j<2 by omega,decide_false,Bool.false_or] at z;have f:=List.all_eq_true.1 z i (List.mem_range.2 p);simp only [show ¬ 2<=kd5 m i by omega,decide_false,Bool.false_or,Bool.or_eq_true,Bool.and_eq_true,decide_eq_true_eq,hoi,hoj,Option.map_some,Option.getD_some] at f;rcases f with⟨f,g⟩|f
 ·refine⟨f,fun h0 h4=>?_⟩;rcases g with(g|g)|g
  ·omega
  ·omega
  ·exact g
 ·exact absurd (eP_ hcl (eu_ hj) 40 i f) y
theorem ps_ {m:List Nat} (h:(m.all fun k=>decide (k<=5))=true) (i:Nat):kd5 m i<=3:=by
 unfold kd5;split
 ·omega
 ·rename_i f;split
  ·omega
  ·rename_i g;unfold aq_ at*
   cases j:m[i]? with
   |none=>simp
   |some k=>
    have:=List.all_eq_true.1 h k (List.mem_of_getElem? j);rw [j] at f g;simp at this f g ⊢;omega
theorem df_ {ops:Array Oper} {m:List Nat} (S:dd_ ops (kd5 m)) (hN: ∀ e a w,Q e a w ->e= .normal) (hC: ∀ w w',C w ->Below w.heap.size w w' ->C w') (hk3: ∀ i,kd5 m i<=3): ∀ (ts:List Nat) (listed:Array Bool) (a:Act) (w:World),(∀ t∈ts,2<=aq_ m t) ->bx_ ops listed ->d6_ ops m ts listed=true ->
 aW_ P ops C Q (ts.filterMap fun t=>(ops[t]?).map fun o=>(aq_ m t,o)) a w ->dQ_ P ops C Q (kd5 m) ts.length listed a w
 |[],listed,a,w,hl,hcl,hc,h=>⟨by simpa [d6_] using hc,h⟩
 |t::ts,listed,a,w,hl,hcl,hc,h=>by
  simp only [d6_,Bool.and_eq_true] at hc;obtain⟨hc1,hc2⟩:=hc;by_cases n:aq_ m t=5
  ·rw [if_pos (Or.inr n),Bool.and_eq_true,Bool.and_eq_true] at hc1;obtain⟨z,T,G⟩:=hc1;have g:=dM_ z;obtain⟨_,o,f,_⟩:=mem_ready.1 g;simp only [List.filterMap_cons,f,Option.map_some] at h;unfold aW_ at h;rw [if_neg (by omega),if_pos n] at h;obtain⟨N,h⟩:=h;have q:kd5 m t=0:=by unfold kd5;rw [if_neg (by omega),if_pos n]
   have Z:cls C 0=C:=by funext w;simp [cls]
   have D:qOp P ops (cls C 0) t (wpQuiet P ops (cls C 0) (fun j=>aW_ P ops C Q (ts.filterMap fun t=>(ops[t]?).map fun o=>(aq_ m t,o)) j w) []) a:=by rw [Z];unfold qOp;simp only [f];exact h
   obtain⟨v,J,R⟩:=yieldsIn_of_qOp f D;have y:av_ o=true:=by rw [f] at G;simpa using G
   rw [<-q] at J;exact cR_ S hN hC f (by omega) y ts.length listed a w (fun h=>N) hcl (Region.free_spec f T) g J (df_ S hN hC hk3 ts _ _ w (fun t g=>hl t (by simp [g])) (bA_ hcl g) hc2 R)
  by_cases F:aq_ m t=4
  ·rw [if_pos (Or.inl F),Bool.and_eq_true,Bool.and_eq_true] at hc1;obtain⟨z,T,G⟩:=hc1;have g:=dM_ z;obtain⟨_,o,f,_⟩:=mem_ready.1 g;simp only [List.filterMap_cons,f,Option.map_some] at h;unfold aW_ at h;rw [if_pos F] at h;have q:kd5 m t=1:=by unfold kd5;rw [if_pos F]
   have b:cls C 1=fun _=>True:=by funext w;simp [cls]
   rw [<-b] at h;have D:qOp P ops (cls C 1) t (wpQuiet P ops (cls C 1) (fun j=>aW_ P ops C Q (ts.filterMap fun t=>(ops[t]?).map fun o=>(aq_ m t,o)) j w) []) a:=by unfold qOp;simp only [f];exact h
   obtain⟨v,J,R⟩:=yieldsIn_of_qOp f D;have y:av_ o=true:=by rw [f] at G;simpa using G
   rw [<-q] at J;exact cR_ S hN hC f (by omega) y ts.length listed a w (fun h=>by omega) hcl (Region.free_spec f T) g J (df_ S hN hC hk3 ts _ _ w (fun t g=>hl t (by simp [g])) (bA_ hcl g) hc2 R)
  ·rw [if_neg (by omega)] at hc1;have hc1:=of_decide_eq_true hc1;refine⟨fun X=>(by rw [hc1] at X;cases X),fun i U=>?_⟩;have p:=U;rw [hc1,List.mem_singleton] at U;subst U;obtain⟨_,o,f,_⟩:=mem_ready.1 p;have aA:=hl i (by simp);have aB:kd5 m i=aq_ m i:=by unfold kd5;rw [if_neg F,if_neg n]
   simp only [List.filterMap_cons,f,Option.map_some] at h;unfold aW_ at h;rw [if_neg F,if_neg n] at h;by_cases Y:kd5 m i=2
   ·rw [if_pos Y];exact do_ f h fun j w' _ L=>df_ S hN hC hk3 ts _ j w' (fun t g=>hl t (by simp [g])) (bA_ hcl p) hc2 L
   ·have L:kd5 m i=3:=by have:=hk3 i;omega
    rw [if_neg Y,if_pos L];exact do_ f h fun j w' M n=>⟨M (by omega),df_ S hN hC hk3 ts _ j w' (fun t g=>hl t (by simp [g])) (bA_ hcl p) hc2 n⟩
theorem kA_ {D:World ->Prop} {ops:Array Oper} {m:List Nat} (S:dd_ ops (kd5 m)) (hN: ∀ e a w,Q e a w ->e= .normal) (hC: ∀ w w',C w ->Below w.heap.size w w' ->C w') (hk3: ∀ i,kd5 m i<=3) (ts:List Nat) (listed:Array Bool) (a:Act) (hl: ∀ t∈ts,2<=aq_ m t) (hcl:bx_ ops listed) (hh:kL_ m ts=true) (hc:d6_ ops m ts listed=true)
 (h: ∀ w,D w ->aW_ P ops C Q (ts.filterMap fun t=>(ops[t]?).map fun o=>(aq_ m t,o)) a w):em_ P ops C D Q (kd5 m) ts.length listed a:=by
 cases ts with
 |nil=>exact⟨by simpa [d6_] using hc,h⟩
 |cons t ts=>
  have g:=hc;have f: ¬ (aq_ m t=4∨aq_ m t=5):=by simp only [kL_,decide_eq_true_eq] at hh;exact hh
  have F:aq_ m t≠4:=fun h=>f (Or.inl h);have G:aq_ m t≠5:=fun h=>f (Or.inr h);simp only [d6_,Bool.and_eq_true,if_neg f,decide_eq_true_eq] at hc;refine⟨fun y=>(by rw [hc.1] at y;cases y),fun i p=>?_⟩;have j:=p;rw [hc.1,List.mem_singleton] at j;subst j;have aA:=hl i (by simp);have aB:kd5 m i=aq_ m i:=by unfold kd5;rw [if_neg F,if_neg G]
  by_cases n:kd5 m i=2
  ·rw [if_pos n];intro w q;have:=(df_ (C:=C) S hN hC hk3 (i::ts) listed a w hl hcl g (h w q)).2 i p
   rwa [if_pos n] at this
  ·have z:kd5 m i=3:=by have:=hk3 i;omega
   rw [if_neg n,if_pos z];intro w q;have:=(df_ (C:=C) S hN hC hk3 (i::ts) listed a w hl hcl g (h w q)).2 i p
   rwa [if_neg n,if_pos z] at this
theorem gG_ (Cl:World ->Prop) (m ts:List Nat) (tl:List (Nat×Oper)) {id:Nat} {a:Act} {w:World} {l:List Oper} {Q:Exit ->Act ->World ->Prop} (hm:P.follows .mixedOrders =true) (hB:iA_ l m ts=true) (htl:k8_ m l ts=tl) (hC0:Cl {w with drawn:=w.drawn+1}) (hC: ∀ w1 w2,Cl w1 ->Below w1.heap.size w1 w2 ->Cl w2)
 (h: ∀ C:World ->Prop,(C=Cl) ->wpQuiet P l.toArray C (fun a1=> ∀ C':World ->Prop,(C'=fun _=>True) ->wpQuiet P l.toArray C' (fun a'=> ∀ w',w'={w with drawn:=w.drawn+1} ->
   aW_ P l.toArray Cl (Exit.then (fun a w=>Q .normal a w) (fun _ _ _=>False)) tl a' w') (af_ 1 m l) a1) (af_ 0 m l) a):(Code.region id l.toArray true).wp P Q a w:=by
 unfold iA_ at hB;simp only [Bool.and_eq_true,decide_eq_true_eq] at hB;obtain⟨aF,aE,hs,g,Z,Y,r,hh,N,hA,b,c⟩:=hB;have d:=ps_ r;have G: ∀ w',w'=({w with drawn:=w.drawn+1}:World) ->Cl w':=fun w' h=>by subst h;exact hC0
 have U:({w with drawn:=w.drawn+1}:World)=({w with drawn:=w.drawn+1}:World):=rfl
 have q: ∀ (k:Nat) (i:Nat) (n:Oper),aq_ m i=k ->l.toArray[i]?=some n ->(af_ k m l).all av_=true ->av_ n=true:=fun k i n F R hp=>by
  have aH:i<l.length:=by have:=(Array.getElem?_eq_some_iff.1 R).1;simpa using this
  exact eU_ k m l g hp i n (by rw [List.getElem?_eq_getElem (by omega)];simpa [aq_,List.getElem?_eq_getElem (show i<m.length by omega)] using F) (by simpa using R)
 have z:(fun w'=>w'=({w with drawn:=w.drawn+1}:World))≠Cl -> ∀ i n,kd5 m i=0 ->l.toArray[i]?=some n ->av_ n=true:=fun h i n F R=>by
  unfold kd5 at F;split at F
  ·cases F
  ·split at F
   ·rename_i h5;exact q 5 i n h5 R c
   ·exact q 0 i n F R Y
 have S:dd_ l.toArray (kd5 m):=⟨hs,fun f i j n oj p hj aA aC s aB aG=>jw_ hA p hj aA (by simpa using aC) s (by simpa using aB) aG,fun i n y T=>by
  unfold kd5 at y;split at y
  ·rename_i h4;exact q 4 i n h4 T b
  ·split at y
   ·cases y
   ·exact q 1 i n y T Z⟩
 have hN: ∀ e a w,(Exit.then (fun a w=>Q .normal a w) (fun _ _ _=>False)) e a w ->e= .normal :=fun e a w h=>by cases e<;>first|rfl|exact h.elim
 have e0:(idxK 0 m 0).filterMap (fun t=>l.toArray[t]?)=af_ 0 m l:=c2_ 0 m 0 l _ g (by simp);have e1:(idxK 1 m 0).filterMap (fun t=>l.toArray[t]?)=af_ 1 m l:=c2_ 1 m 0 l _ g (by simp);have e2:ts.filterMap (fun t=>(l.toArray[t]?).map fun o=>(aq_ m t,o))=tl:=htl;have aD: ∀ t∈ts,2<=aq_ m t:=fun t L=>of_decide_eq_true (List.all_eq_true.1 aF t L);have h0:=h _ rfl;rw [<-e0] at h0;have c0:cls Cl 0=Cl:=by funext w;simp [cls]
 have c1:cls Cl 1=fun _=>True:=by funext w;simp [cls]
 have M: ∀ k t,k<2 ->t∈idxK k m 0 ->kd5 m t=k:=fun k t F L=>by
  have:=eB_ L;unfold kd5;rw [if_neg (by omega),if_neg (by omega)];exact this
 have y:=dX_ (C:=Cl) (D:=fun w'=>w'=({w with drawn:=w.drawn+1}:World)) (kd:=kd5 m) G z S hN hC 0 (by omega) _ ((idxK 1 m 0).length +ts.length)
  (fun a1=> ∀ C':World ->Prop,(C'=fun _=>True) ->wpQuiet P l.toArray C' (fun a'=> ∀ w',w'=({w with drawn:=w.drawn+1}:World) ->aW_ P l.toArray Cl (Exit.then (fun a w=>Q .normal a w) (fun _ _ _=>False)) tl a' w') (af_ 1 m l) a1)
  (fun f a1 p X J=>by
    have J:=J _ rfl;rw [<-e1, <-c1] at J;refine dX_ (C:=Cl) (D:=fun w'=>w'=({w with drawn:=w.drawn+1}:World)) (kd:=kd5 m) G z S hN hC 1 (by omega) _ _ _ (fun f a' p X J=>?_) _ f a1 (fun t L=>M 1 t (by omega) L) p X J;rw [<-e2] at J;exact kA_ S hN hC d _ _ _ aD p hh X J)
  (idxK 0 m 0) (Array.replicate l.length false) a (fun t L=>M 0 t (by omega) L) (cY_ _) N (by rw [c0];exact h0)
 rw [aE,e9_ m 0,g] at y;have T:=dE_ (C:=Cl) G S hC l.toArray.size (Array.replicate l.length false) a {w with drawn:=w.drawn+1} (by simp) (cY_ _) U (by simpa using y);refine Code.wp_mono (fun e a w h=>?_) (wp_region_any hm (by simpa using T));cases e<;>first|exact h|exact h.elim
theorem hv_ (N:Nat) (m ts:List Nat) (tl:List (Nat×Oper)) {id:Nat} {a:Act} {w:World} {l:List Oper} {Q:Exit ->Act ->World ->Prop} (hm:P.follows .mixedOrders =true) (hB:iA_ l m ts=true) (htl:k8_ m l ts=tl) (hN':N<=w.heap.size)
 (h: ∀ C:World ->Prop,(C=fun w'=>Below N w w') ->wpQuiet P l.toArray C (fun a1=> ∀ C':World ->Prop,(C'=fun _=>True) ->wpQuiet P l.toArray C' (fun a'=> ∀ w',w'={w with drawn:=w.drawn+1} ->
   aW_ P l.toArray (fun w'=>Below N w w') (Exit.then (fun a w=>Q .normal a w) (fun _ _ _=>False)) tl a' w') (af_ 1 m l) a1) (af_ 0 m l) a):(Code.region id l.toArray true).wp P Q a w:=
 gG_ (fun w'=>Below N w w') m ts tl hm hB htl ⟨rfl,rfl,rfl,Nat.le_refl _,fun _ _=>rfl⟩ (fun w1 w2 f g=>f.trans (g.mono (Nat.le_trans hN' f.size))) h
theorem cj_ {ops:Array Oper} {k:Nat} {o:Oper} {rest:List (Nat×Oper)} {a:Act} {w:World} (hk:k≠4) (hk5:k≠5) (h:wpList P ops (Exit.then (fun a' w'=>(k=3 ->C w')/\aW_ P ops C Q rest a' w') Q) [o] a w):aW_ P ops C Q ((k,o)::rest) a w:=by
 unfold aW_;rw [if_neg hk,if_neg hk5];simp only [wpList] at h;split
 ·rename_i f;simp only [f,if_true] at h;refine h.imp (fun h=>?_) (fun h=>⟨h.1,?_⟩)
  ·unfold Oper.wp at*;generalize (execOp a.eval o).run P w=r at*
   cases r with
   |ok n w'=>
    cases n<;>simp only [Oper.upon] at h ⊢ <;>exact h
   |halt x w'=>cases x<;>simp only [Oper.upon] at h ⊢ <;>exact h
  ·obtain⟨a,w,h⟩:=h.2;exact⟨a,w,h⟩
 ·rename_i f;simp only [f] at h;exact h
theorem aF_ {ops:Array Oper} {o:Oper} {rest:List (Nat×Oper)} {a:Act} {w:World} (h: ∀ C':World ->Prop,(C'=fun _=>True) ->wpQuiet P ops C' (fun a'=>aW_ P ops C Q rest a' w) [o] a):aW_ P ops C Q ((4,o)::rest) a w:=by
 unfold aW_;rw [if_pos rfl];exact h _ rfl
theorem ew_ {ops:Array Oper} {o:Oper} {rest:List (Nat×Oper)} {a:Act} {w:World} (hw:C w) (h: ∀ C':World ->Prop,(C'=C) ->wpQuiet P ops C' (fun a'=>aW_ P ops C Q rest a' w) [o] a):aW_ P ops C Q ((5,o)::rest) a w:=by
 unfold aW_;rw [if_neg (by decide),if_pos rfl];exact⟨hw,h _ rfl⟩
theorem ev_ {ops:Array Oper}: ∀ (l:List (Nat×Oper)) (a:Act) (w:World),(∀ p∈l,p.1=2) ->wpList P ops Q (l.map (·.2)) a w ->aW_ P ops C Q l a w
 |[],a,w,_,h=>h
 |(k,o)::rest,a,w,hk,h=>by
  have h3:k=2:=hk (k,o) (by simp);simp only [List.map_cons,wpList] at h;unfold aW_;rw [if_neg (by omega),if_neg (by omega)];split
  ·rename_i g;simp only [g,if_true] at h;exact h.imp (Oper.wp_mono fun j q n=>⟨fun h=>by omega,ev_ rest j q (fun p f=>hk p (by simp [f])) n⟩) id
  ·rename_i g;simp only [g] at h;exact⟨fun h=>by omega,ev_ rest _ _ (fun p f=>hk p (by simp [f])) h⟩
end
end B
