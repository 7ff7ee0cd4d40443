/- Merged. -/
import Derived.Deep.Quiet
import Derived.Below
set_option linter.unusedVariables false
set_option linter.unusedSimpArgs false
namespace Go.Proofs.YtechdefolfboeaaGreatDoor.B
open Go.RowKit
def MildS {α:Type} (P:Program) (s:Sem α):Prop:= ∀ w,match s.run P w with
 | .ok _ w'=>Below w.heap.size w w'
 | .halt (.panic _) _=>False
 | .halt _ _=>True
section
variable {P:Program} {α β:Type}
theorem mild_pure (x:α):MildS P (pure x):=fun w=>by simp [Below.refl]
theorem mild_bind {s:Sem α} {f:α→Sem β} (hs:MildS P s) (hf: ∀ x,MildS P (f x)):MildS P (s>>=f):=fun w=>by
 have h1:=hs w;simp only [Sem.run_bind];generalize s.run P w=r at*
 cases r with
 |ok x w'=>
  have h2:=hf x w';simp only [Result.andThen] at*;generalize (f x).run P w'=r2 at*
  cases r2 with
  |ok y w''=>exact h1.trans (h2.mono h1.size)
  |halt e w''=>cases e<;>first|exact h2|trivial
 |halt e w'=>simp only [Result.andThen] at*;cases e<;>first|exact h1|trivial
theorem mild_stuck {m:String}:MildS P (stuck m:Sem α):=fun w=>by simp [stuck,Sem.run]
theorem mild_unsupported {m:Unsupported}:MildS P (unsupported m:Sem α):=fun w=>by simp [unsupported,Sem.run]
theorem mild_program:MildS P program:=fun w=>by simp [program,Sem.run,Below.refl]
theorem mild_newObj (o:Obj):MildS P (newObj o):=fun w=>by
 have:(newObj o).run P w= .ok w.heap.size (w.alloc o):=rfl;rw [this];exact(Below.refl _ w).alloc (Nat.le_refl _) _
theorem mild_typeInfo (t:TypeId):MildS P (typeInfo t):=mild_bind mild_program fun p=>by cases p.info? t with|none=>exact mild_stuck|some i=>exact mild_pure i
theorem mild_underlying (t:TypeId):MildS P (underlying t):=mild_bind mild_program fun p=>by cases p.underlying t with|none=>exact mild_stuck|some i=>exact mild_pure i
theorem mild_zeroValue (t:TypeId):MildS P (zeroValue t):=mild_bind (mild_typeInfo t) fun i=>by cases i.zero with|none=>exact mild_unsupported|some i=>exact mild_pure i
theorem mild_sizeOf (t:TypeId):MildS P (sizeOf t):=mild_bind (mild_typeInfo t) fun i=>mild_pure _
theorem mild_newRow (t:TypeId) (cs:Array Value):MildS P (newRow t cs):=mild_bind (mild_newObj _) fun i=>mild_pure _
theorem mild_newVar (t:TypeId) (v:Value):MildS P (newVar t v):=mild_newRow _ _
theorem mild_box (t:TypeId) (v:Value):MildS P (Instr.box t v):=mild_bind (mild_newVar _ _) fun i=>mild_pure _
theorem mild_alloc (t:TypeId) (v:Value):MildS P (Instr.alloc t true v):=mild_bind (mild_zeroValue _) fun z=>mild_bind (mild_newVar _ _) fun i=>mild_pure _
theorem mild_buildSlice (t:TypeId) (n:Nat) (ps:Array (Nat×Value)):MildS P (Instr.buildSlice t n ps):=by
 refine mild_bind (mild_underlying t) fun d=>?_;cases d<;>try exact mild_stuck
 refine mild_bind (mild_sizeOf _) fun k=>?_
 dsimp only
 repeat(first|with_reducible exact mild_stuck|with_reducible exact mild_unsupported|with_reducible exact mild_zeroValue _|with_reducible exact mild_newRow _ _|with_reducible exact mild_pure _|with_reducible refine mild_bind ?_ fun _=>?_|split)
def mildOp (o:Oper):Bool:=match o.op with
 | .buildSlice .. | .box .. | .alloc .. =>true
 |_=>false
theorem mildOp_spec {o:Oper} (h:mildOp o=true) (ev:Operand→Value): ∃ s:Sem Value,execOp ev o=(do pure (.value (←s)))∧MildS P s:=by
 unfold mildOp at h;unfold execOp;split at h<;>first|(rename_i e;rw [e];exact⟨_,rfl,by first|exact mild_buildSlice _ _ _|exact mild_box _ _|exact mild_alloc _ _⟩)|(cases h)
def lenCall (c:Call):Bool:=match c.callee with
 | .builtin .len =>true
 |_=>false
def plainOp (o:Oper):Bool:=match o.op with
 | .move _| .assign _| .pick .. | .alloc _| .box .. | .build .. | .buildSlice .. | .load .. | .binOp .. | .unOp .. | .convert .. | .slice .. | .fieldAddr .. | .field .. | .indexAddr .. | .index .. | .lookup .. | .extract .. | .makeInterface .. | .makeFunc .. | .nilCheck .. =>true
 | .call c=>lenCall c
 |_=>false
theorem len_spec {o:Oper} {c:Call} (h:lenCall c=true) (e:o.op=Op.call c) (ev:Operand→Value) (w w':World) (f:FuncId) (args:Array Value):(execOp ev o).run P w≠ .ok (.enter f args) w':=by
 obtain⟨callee,as,ts⟩:=c;unfold lenCall at h;split at h
 ·rename_i hc;subst hc;unfold execOp;rw [e];simp only [resolve,invoke,builtin,Sem.run_bind,Sem.run_pure,Result.andThen];generalize (Builtin.len_ _ _ _).run P w=r;cases r<;>simp [Result.andThen]
 ·cases h
theorem nilCheck_spec {o:Oper} {x:Operand} (e:o.op=Op.nilCheck x) (ev:Operand→Value) (w w':World) (f:FuncId) (args:Array Value):(execOp ev o).run P w≠ .ok (.enter f args) w':=by
 unfold execOp;rw [e]
 dsimp only
 intro h;split at h
 ·simp [runtimePanic,goPanic] at h
 ·simp [runtimePanic,goPanic] at h
 ·simp [runtimePanic,goPanic] at h
 ·split at h
  ·simp [runtimePanic,goPanic] at h
  ·simp only [Sem.run_bind] at h
   cases hp:program.run P w with
   |halt a b=>rw [hp] at h;cases h
   |ok p w1=>
    rw [hp] at h;simp only [Result.andThen] at h;split at h
    ·split at h
     ·simp [unsupported,Result.andThen] at h
     ·simp at h
    ·cases h
  ·simp at h
 ·simp at h
theorem plainOp_spec {o:Oper} (h:plainOp o=true) (ev:Operand→Value) (w w':World) (f:FuncId) (args:Array Value):(execOp ev o).run P w≠ .ok (.enter f args) w':=by
 have key: ∀ s:Sem Value,(do pure (.value (←s)):Sem Next).run P w≠ .ok (.enter f args) w':=fun s=>by
  simp only [Sem.run_bind];generalize s.run P w=r;cases r<;>simp [Result.andThen]
 unfold plainOp at h;unfold execOp;split at h<;>first|(cases h;done)|(rename_i e;exact len_spec h e ev w w' f args)|(rename_i e;exact nilCheck_spec e ev w w' f args)|(rename_i e;rw [e];first|exact key _|(simp;done)|(simp only [Sem.run_bind];generalize (Go.asBool _).run P w=r;cases r<;>simp [Result.andThen]))
end
section
variable {P:Program} {ops:Array Oper} {C:World→Prop} {Q:Exit→Act→World→Prop} {kd:Nat→Nat}
def cls (C:World→Prop) (k:Nat):World→Prop:=fun w=>k=0→C w
def wpMix (P:Program) (ops:Array Oper) (C:World→Prop) (Q:Exit→Act→World→Prop) (kd:Nat→Nat):Nat→Array Bool→Act→World→Prop
 |0,listed,a,w=>Region.ready .any ops listed=[]∧Q .normal a w
 |f+1,listed,a,w=>(Region.ready .any ops listed=[]→Q .normal a w)∧ ∀ i∈Region.ready .any ops listed,
   if kd i=2 then wpOp P ops Q i (wpMix P ops C Q kd f (listed.setIfInBounds i true)) a w
   else if kd i=3 then wpOp P ops Q i (fun a' w'=>C w'∧wpMix P ops C Q kd f (listed.setIfInBounds i true) a' w') a w
   else ∃ o v,ops[i]?=some o∧plainOp o=true∧YieldsIn P ops (cls C (kd i)) o v a∧wpMix P ops C Q kd f (listed.setIfInBounds i true) (a.put o.dst v) w
def wpPre (P:Program) (ops:Array Oper) (C D:World→Prop) (Q:Exit→Act→World→Prop) (kd:Nat→Nat):Nat→Array Bool→Act→Prop
 |0,listed,a=>Region.ready .any ops listed=[]∧ ∀ w,D w→Q .normal a w
 |f+1,listed,a=>(Region.ready .any ops listed=[]→ ∀ w,D w→Q .normal a w)∧ ∀ i∈Region.ready .any ops listed,
   if kd i=2 then ∀ w,D w→wpOp P ops Q i (wpMix P ops C Q kd f (listed.setIfInBounds i true)) a w
   else if kd i=3 then ∀ w,D w→wpOp P ops Q i (fun a' w'=>C w'∧wpMix P ops C Q kd f (listed.setIfInBounds i true) a' w') a w
   else ∃ o v,ops[i]?=some o∧(kd i≠0∨D≠C→plainOp o=true)∧YieldsIn P ops (cls C (kd i)) o v a∧wpPre P ops C D Q kd f (listed.setIfInBounds i true) (a.put o.dst v)
def Closed (ops:Array Oper) (listed:Array Bool):Prop:= ∀ j oj,ops[j]?=some oj→listed.getD j false=true→ ∀ e∈oj.after,Region.binds .any e=true→listed.getD e.on false=true
theorem closed_set {i:Nat} {listed:Array Bool} (h:Closed ops listed) (hi:i∈Region.ready .any ops listed):Closed ops (listed.setIfInBounds i true):=by
 intro j oj hj hl e he hb;obtain⟨_,oi,hoi,hall⟩:=mem_ready.1 hi;by_cases hij:i=j
 ·subst hij;have:oj=oi:=Option.some.inj (hj.symm.trans hoi);subst this;exact getD_set_true (hall e he hb)
 ·rw [getD_set_ne false hij] at hl;exact getD_set_true (h j oj hj hl e he hb)
theorem closed_none (n:Nat):Closed ops (Array.replicate n false):=fun j oj hj hl=>by
 rcases Nat.lt_or_ge j n with h|h
 ·simp [h] at hl
 ·simp [h] at hl
structure Shape (ops:Array Oper) (kd:Nat→Nat):Prop where
 sel:Region.noSelect ops=true
 ahead: ∀ listed i j oi oj,Closed ops listed→j∈Region.ready .any ops listed→2≤kd j→ops[j]?=some oj→kd i<2→ops[i]?=some oi→listed.getD i true=false→plainOp oi=true∧(kd i=0→kd j=2→mildOp oj=true)
 free: ∀ i oi,kd i=1→ops[i]?=some oi→plainOp oi=true
theorem yields_plain {C:World→Prop} {o:Oper} {v:Value} {a:Act} {w:World} {K:Act→World→Prop} (hp:plainOp o=true) (hy:YieldsIn P ops C o v a) (hw:C w) (i:Nat) (hi:ops[i]?=some o) (h:K (a.put o.dst v) w):wpOp P ops Q i K a w:=by
 unfold wpOp;simp only [hi];rcases hy with⟨hwant,hv⟩|⟨hwant,rfl⟩
 ·simp only [hwant,if_true];left;have h1:=hv w hw;have h2:=fun w' f args=>plainOp_spec (P:=P) hp a.eval w w' f args;unfold Oper.quietAt at h1;unfold Oper.wp;generalize (execOp a.eval o).run P w=r at*
  cases r with
  |ok n w'=>
   cases n<;>simp only [Oper.quietUpon] at h1<;>simp only [Oper.upon]
   case value u=>rw [h1.1,h1.2];exact h
   case skip=>rw [h1.1,←h1.2];exact h
   case enter f args=>exact absurd rfl (h2 w' f args)
  |halt x w'=>simp only [Oper.quietUpon] at h1
 ·simp only [hwant,Bool.false_eq_true,if_false];exact h
theorem wpOp_mild (hC: ∀ w w',C w→Below w.heap.size w w'→C w') {j:Nat} {oj:Oper} (hj:ops[j]?=some oj) (hm:mildOp oj=true) {K K':Act→World→Prop} {a a':Act} {w:World} (hw:C w)
 (he:execOp a'.eval oj=execOp a.eval oj) (hwt:Region.wanted oj (yielded ops a'.tmps)=Region.wanted oj (yielded ops a.tmps)) (hd:a'.defers=a.defers)
 (h:wpOp P ops Q j K a w) (hK: ∀ v w',C w'→K (a.put oj.dst v) w'→K' (a'.put oj.dst v) w'):wpOp P ops Q j K' a' w:=by
 unfold wpOp at*;simp only [hj] at*;rw [hwt];split
 ·rename_i hwant;simp only [hwant,if_true] at h;rcases h with h|h
  ·left;unfold Oper.wp at*;rw [he];obtain⟨s,hs,hmild⟩:=mildOp_spec (P:=P) hm a.eval;rw [hs] at h ⊢;have h1:=hmild w;simp only [Sem.run_bind] at h ⊢;generalize s.run P w=r at*
   cases r with
   |ok v w'=>exact hK v w' (hC w w' hw h1) h
   |halt e w'=>cases e<;>first|exact h1.elim|exact h
  ·right;refine⟨?_,h.2⟩;unfold Oper.asks at*;rw [he];exact h.1
 ·rename_i hwant;simp only [hwant] at h;exact hK _ _ hw h
theorem wpOp_any (hN: ∀ e a w,Q e a w→e= .normal) {j:Nat} {oj:Oper} (hj:ops[j]?=some oj) {K K':Act→World→Prop} {a a':Act} {w:World}
 (he:execOp a'.eval oj=execOp a.eval oj) (hwt:Region.wanted oj (yielded ops a'.tmps)=Region.wanted oj (yielded ops a.tmps))
 (h:wpOp P ops Q j K a w) (hK: ∀ (v:Value) w',K (a.put oj.dst v) w'→K' (a'.put oj.dst v) w') (hKd: ∀ d w',K ({a with defers:=d::a.defers}.put oj.dst undef) w'→K' ({a' with defers:=d::a'.defers}.put oj.dst undef) w'):wpOp P ops Q j K' a' w:=by
 have hout: ∀ {a w c},¬ Q (.panic c) a w:=fun h=>by cases hN _ _ _ h
 have hlet: ¬ LetsOut Q:=fun⟨a,w,h⟩=>by cases hN _ _ _ h
 unfold wpOp at*;simp only [hj] at*;rw [hwt];split
 ·rename_i hwant;simp only [hwant,if_true] at h;rcases h with h|h
  ·left;unfold Oper.wp at*;rw [he];generalize (execOp a.eval oj).run P w=r at*
   cases r with
   |ok n w'=>
    cases n<;>simp only [Oper.upon] at h ⊢
    case value u=>exact hK _ _ h
    case skip=>exact hK _ _ h
    case defer d=>exact hKd _ _ h
    case enter f args=>
     refine h.mono fun e w'' he=>?_
     cases e with
     |returned v=>exact hK _ _ he
     |panicked c=>exact(hout he).elim
     |outgrown=>exact he
    case row r args=>exact h.mono fun v w'' h=>hK _ _ h
   |halt x w'=>
    cases x<;>simp only [Oper.upon] at h ⊢
    case panic v=>exact(hout h).elim
  ·exact(hlet h.2).elim
 ·rename_i hwant;simp only [hwant] at h;exact hK _ _ h
theorem quiet_apart {C C':World→Prop} {j:Nat} {oi oj:Oper} {v vj:Value} (hap:oi.apart ops oj=true) (hsi: ∀ cs b,oi.op≠ .select cs b) (hsj: ∀ cs b,oj.op≠ .select cs b) {a:Act}
 (hy:YieldsIn P ops C oi v a) (h:YieldsIn P ops C' oj vj (a.put oi.dst v)):YieldsIn P ops C' oj vj a∧YieldsIn P ops C oi v (a.put oj.dst vj)∧(a.put oj.dst vj).put oi.dst v=(a.put oi.dst v).put oj.dst vj:=by
 obtain⟨h1,h2,h3⟩:=Oper.apart_spec hap;exact⟨h.of_same (execOp_put oj hsj a oi.dst v h1).symm (wanted_put oj a oi.dst v h1).symm,hy.of_same (execOp_put oi hsi a oj.dst vj h3) (wanted_put oi a oj.dst vj h3),(Act.put_comm a v vj h2).symm⟩
def FreeAt (ops:Array Oper) (listed:Array Bool) (i:Nat) (oi:Oper):Prop:= ∀ j oj,ops[j]?=some oj→j≠i→listed.getD j true=false→(∀ e∈oj.after,Region.binds .any e=true→e.on≠i)→oi.apart ops oj=true
theorem free_set {listed:Array Bool} {i j:Nat} {oi:Oper} (h:FreeAt ops listed i oi) (hun:listed.getD j true=false):FreeAt ops (listed.setIfInBounds j true) i oi:=fun k ok hk hki hk2 hno=>by
 refine h k ok hk hki ?_ hno;by_cases hjk:j=k
 ·subst hjk;exact hun
 ·rw [getD_set_ne true hjk] at hk2;exact hk2
theorem ready_not {listed:Array Bool} {i j:Nat} {oj:Oper} (hi:i∈Region.ready .any ops listed) (hj:j∈Region.ready .any ops listed) (hoj:ops[j]?=some oj): ∀ e∈oj.after,Region.binds .any e=true→e.on≠i:=fun e he hb heq=>by
 obtain⟨_,oj',hoj',hall⟩:=mem_ready.1 hj;have:oj=oj':=Option.some.inj (hoj.symm.trans hoj');subst this;have h1:=hall e he hb;have h0:=(mem_ready.1 hi).1;rw [heq] at h1;rcases Nat.lt_or_ge i listed.size with h'|h'
 ·simp [h'] at h0 h1;rw [h0] at h1;cases h1
 ·simp [Array.getElem?_eq_none h'] at h1
theorem put_defers (a:Act) (x:Option Tmp) (v:Value):(a.put x v).defers =a.defers:=by cases x<;>rfl
theorem defers_put (a:Act) (x:Option Tmp) (v:Value) (d:Deferred):({a with defers:=d::a.defers}:Act).put x v={(a.put x v) with defers:=d::(a.put x v).defers}:=by cases x<;>rfl
theorem mix_first (S:Shape ops kd) (hN: ∀ e a w,Q e a w→e= .normal) (hC: ∀ w w',C w→Below w.heap.size w w'→C w') {i:Nat} {oi:Oper} {v:Value} (hi:ops[i]?=some oi) (hl:kd i<2) (hp:plainOp oi=true):
 ∀ (f:Nat) (listed:Array Bool) (a:Act) (w:World),(kd i=0→C w)→Closed ops listed→FreeAt ops listed i oi→i∈Region.ready .any ops listed→YieldsIn P ops (cls C (kd i)) oi v a→
   wpMix P ops C Q kd f (listed.setIfInBounds i true) (a.put oi.dst v) w→wpMix P ops C Q kd (f+1) listed a w:=by
 intro f
 induction f with
 |zero=>
  intro listed a w hw hcl hfree hr hy H;refine⟨fun h=>(by rw [h] at hr;cases hr),fun j hj=>?_⟩;by_cases hji:j=i
  ·subst hji;rw [if_neg (by omega),if_neg (by omega)];exact⟨oi,v,hi,hp,hy,H⟩
  ·have:=ready_mono hj hji;rw [H.1] at this;cases this
 |succ f ih=>
  intro listed a w hw hcl hfree hr hy H;refine⟨fun h=>(by rw [h] at hr;cases hr),fun j hj=>?_⟩;by_cases hji:j=i
  ·subst hji;rw [if_neg (by omega),if_neg (by omega)];exact⟨oi,v,hi,hp,hy,H⟩
  ·have h1:=H.2 j (ready_mono hj hji);obtain⟨hjun,oj,hoj,_⟩:=mem_ready.1 hj;have hap:=hfree j oj hoj hji hjun (ready_not hr hj hoj);obtain⟨a1,a2,a3⟩:=Oper.apart_spec hap;have hsj:=fun cs b=>Region.noSelect_spec S.sel j oj cs b hoj;have hsi:=fun cs b=>Region.noSelect_spec S.sel i oi cs b hi;have hr':=ready_mono (i:=j) hr (Ne.symm hji);have hf':=free_set hfree hjun;have hcl':=closed_set hcl hj;by_cases hlj:kd j=2
   ·rw [if_pos hlj] at h1 ⊢;by_cases h0:kd i=0
    ·have hm:=(S.ahead listed i j oi oj hcl hj (by omega) hoj hl hi (mem_ready.1 hr).1).2 h0 hlj;refine wpOp_mild hC hoj hm (hw h0) (execOp_put oj hsj a oi.dst v a1).symm (wanted_put oj a oi.dst v a1).symm (put_defers _ _ _).symm h1 fun u w' hw' h2=>?_;refine ih _ _ _ (fun _=>hw') hcl' hf' hr' (hy.of_same (execOp_put oi hsi a oj.dst u a3) (wanted_put oi a oj.dst u a3)) ?_;rw [Array.setIfInBounds_comm _ _ hji,←Act.put_comm a v u a2];exact h2
    ·refine wpOp_any hN hoj (execOp_put oj hsj a oi.dst v a1).symm (wanted_put oj a oi.dst v a1).symm h1 (fun u w' h2=>?_) (fun d w' h2=>?_)
     ·refine ih _ _ _ (fun h=>absurd h h0) hcl' hf' hr' (hy.of_same (execOp_put oi hsi a oj.dst u a3) (wanted_put oi a oj.dst u a3)) ?_;rw [Array.setIfInBounds_comm _ _ hji,←Act.put_comm a v u a2];exact h2
     ·refine ih _ _ _ (fun h=>absurd h h0) hcl' hf' hr' ?_ ?_
      ·exact(hy.of_same (a':={a with defers:=d::a.defers}) rfl rfl).of_same (execOp_put oi hsi _ oj.dst undef a3) (wanted_put oi _ oj.dst undef a3)
      ·rw [Array.setIfInBounds_comm _ _ hji,←Act.put_comm _ v undef a2,defers_put a oi.dst v d];exact h2
   ·by_cases hl3:kd j=3
    ·rw [if_neg hlj,if_pos hl3] at h1 ⊢;refine wpOp_any hN hoj (execOp_put oj hsj a oi.dst v a1).symm (wanted_put oj a oi.dst v a1).symm h1 (fun u w' h2=>⟨h2.1,?_⟩) (fun d w' h2=>⟨h2.1,?_⟩)
     ·refine ih _ _ _ (fun _=>h2.1) hcl' hf' hr' (hy.of_same (execOp_put oi hsi a oj.dst u a3) (wanted_put oi a oj.dst u a3)) ?_;rw [Array.setIfInBounds_comm _ _ hji,←Act.put_comm a v u a2];exact h2.2
     ·refine ih _ _ _ (fun _=>h2.1) hcl' hf' hr' ?_ ?_
      ·exact(hy.of_same (a':={a with defers:=d::a.defers}) rfl rfl).of_same (execOp_put oi hsi _ oj.dst undef a3) (wanted_put oi _ oj.dst undef a3)
      ·rw [Array.setIfInBounds_comm _ _ hji,←Act.put_comm _ v undef a2,defers_put a oi.dst v d];exact h2.2
    ·rw [if_neg hlj,if_neg hl3] at h1 ⊢;obtain⟨o',u,ho',hpj,hyj,h2⟩:=h1;have:oj=o':=Option.some.inj (hoj.symm.trans ho');subst this;obtain⟨q1,q2,q3⟩:=quiet_apart (j:=j) hap hsi hsj hy hyj;refine⟨oj,u,hoj,hpj,q1,ih _ _ _ hw hcl' hf' hr' q2 ?_⟩;rw [Array.setIfInBounds_comm _ _ hji,q3];exact h2
theorem pre_first {D:World→Prop} (hDC: ∀ w,D w→C w) (hDp:D≠C→ ∀ i oi,kd i=0→ops[i]?=some oi→plainOp oi=true) (S:Shape ops kd) (hN: ∀ e a w,Q e a w→e= .normal) (hC: ∀ w w',C w→Below w.heap.size w w'→C w') {i:Nat} {oi:Oper} {v:Value} (hi:ops[i]?=some oi) (hl:kd i<2):
 ∀ (f:Nat) (listed:Array Bool) (a:Act),Closed ops listed→FreeAt ops listed i oi→i∈Region.ready .any ops listed→YieldsIn P ops (cls C (kd i)) oi v a→
   wpPre P ops C D Q kd f (listed.setIfInBounds i true) (a.put oi.dst v)→wpPre P ops C D Q kd (f+1) listed a:=by
 have hpf:kd i≠0∨D≠C→plainOp oi=true:=fun h=>by
  by_cases h0:kd i=0
  ·exact hDp (h.resolve_left (by omega)) i oi h0 hi
  ·exact S.free i oi (by omega) hi
 intro f
 induction f with
 |zero=>
  intro listed a hcl hfree hr hy H;refine⟨fun h=>(by rw [h] at hr;cases hr),fun j hj=>?_⟩;by_cases hji:j=i
  ·subst hji;rw [if_neg (by omega),if_neg (by omega)];exact⟨oi,v,hi,hpf,hy,H⟩
  ·have:=ready_mono hj hji;rw [H.1] at this;cases this
 |succ f ih=>
  intro listed a hcl hfree hr hy H;refine⟨fun h=>(by rw [h] at hr;cases hr),fun j hj=>?_⟩;by_cases hji:j=i
  ·subst hji;rw [if_neg (by omega),if_neg (by omega)];exact⟨oi,v,hi,hpf,hy,H⟩
  ·have h1:=H.2 j (ready_mono hj hji);obtain⟨hjun,oj,hoj,_⟩:=mem_ready.1 hj;have hap:=hfree j oj hoj hji hjun (ready_not hr hj hoj);obtain⟨a1,a2,a3⟩:=Oper.apart_spec hap;have hsj:=fun cs b=>Region.noSelect_spec S.sel j oj cs b hoj;have hsi:=fun cs b=>Region.noSelect_spec S.sel i oi cs b hi;have hr':=ready_mono (i:=j) hr (Ne.symm hji);have hf':=free_set hfree hjun;have hcl':=closed_set hcl hj;by_cases hlj:kd j=2
   ·rw [if_pos hlj] at h1 ⊢;intro w hw;obtain⟨hp,hm⟩:=S.ahead listed i j oi oj hcl hj (by omega) hoj hl hi (mem_ready.1 hr).1;by_cases h0:kd i=0
    ·refine wpOp_mild hC hoj (hm h0 hlj) (hDC w hw) (execOp_put oj hsj a oi.dst v a1).symm (wanted_put oj a oi.dst v a1).symm (put_defers _ _ _).symm (h1 w hw) fun u w' hw' h2=>?_;refine mix_first S hN hC hi hl hp f _ _ _ (fun _=>hw') hcl' hf' hr' (hy.of_same (execOp_put oi hsi a oj.dst u a3) (wanted_put oi a oj.dst u a3)) ?_;rw [Array.setIfInBounds_comm _ _ hji,←Act.put_comm a v u a2];exact h2
    ·refine wpOp_any hN hoj (execOp_put oj hsj a oi.dst v a1).symm (wanted_put oj a oi.dst v a1).symm (h1 w hw) (fun u w' h2=>?_) (fun d w' h2=>?_)
     ·refine mix_first S hN hC hi hl hp f _ _ _ (fun h=>absurd h h0) hcl' hf' hr' (hy.of_same (execOp_put oi hsi a oj.dst u a3) (wanted_put oi a oj.dst u a3)) ?_;rw [Array.setIfInBounds_comm _ _ hji,←Act.put_comm a v u a2];exact h2
     ·refine mix_first (v:=v) S hN hC hi hl hp f _ _ _ (fun h=>absurd h h0) hcl' hf' hr' ?_ ?_
      ·exact(hy.of_same (a':={a with defers:=d::a.defers}) rfl rfl).of_same (execOp_put oi hsi _ oj.dst undef a3) (wanted_put oi _ oj.dst undef a3)
      ·rw [Array.setIfInBounds_comm _ _ hji,←Act.put_comm _ v undef a2,defers_put a oi.dst v d];exact h2
   ·by_cases hl3:kd j=3
    ·rw [if_neg hlj,if_pos hl3] at h1 ⊢;intro w hw;obtain⟨hp,_⟩:=S.ahead listed i j oi oj hcl hj (by omega) hoj hl hi (mem_ready.1 hr).1;refine wpOp_any hN hoj (execOp_put oj hsj a oi.dst v a1).symm (wanted_put oj a oi.dst v a1).symm (h1 w hw) (fun u w' h2=>⟨h2.1,?_⟩) (fun d w' h2=>⟨h2.1,?_⟩)
     ·refine mix_first S hN hC hi hl hp f _ _ _ (fun _=>h2.1) hcl' hf' hr' (hy.of_same (execOp_put oi hsi a oj.dst u a3) (wanted_put oi a oj.dst u a3)) ?_;rw [Array.setIfInBounds_comm _ _ hji,←Act.put_comm a v u a2];exact h2.2
     ·refine mix_first (v:=v) S hN hC hi hl hp f _ _ _ (fun _=>h2.1) hcl' hf' hr' ?_ ?_
      ·exact(hy.of_same (a':={a with defers:=d::a.defers}) rfl rfl).of_same (execOp_put oi hsi _ oj.dst undef a3) (wanted_put oi _ oj.dst undef a3)
      ·rw [Array.setIfInBounds_comm _ _ hji,←Act.put_comm _ v undef a2,defers_put a oi.dst v d];exact h2.2
    ·rw [if_neg hlj,if_neg hl3] at h1 ⊢;obtain⟨o',u,ho',hpj,hyj,h2⟩:=h1;have:oj=o':=Option.some.inj (hoj.symm.trans ho');subst this;obtain⟨q1,q2,q3⟩:=quiet_apart (j:=j) hap hsi hsj hy hyj;refine⟨oj,u,hoj,hpj,q1,ih _ _ hcl' hf' hr' q2 ?_⟩;rw [Array.setIfInBounds_comm _ _ hji,q3];exact h2
def Inv (ops:Array Oper) (C:World→Prop) (kd:Nat→Nat) (listed:Array Bool) (w:World):Prop:=C w∨ ∀ i oi,ops[i]?=some oi→kd i=0→listed.getD i false=true
theorem inv_set {listed:Array Bool} {w:World} (j:Nat) (h:Inv ops C kd listed w):Inv ops C kd (listed.setIfInBounds j true) w:=h.imp id fun h i oi hi hl=>getD_set_true (h i oi hi hl)
theorem late_step (S:Shape ops kd) (hC: ∀ w w',C w→Below w.heap.size w w'→C w') {listed:Array Bool} {a:Act} {w:World} (hsz:listed.size=ops.size) (hcl:Closed ops listed) (hinv:Inv ops C kd listed w) {j:Nat} {oj:Oper} (hj:j∈Region.ready .any ops listed) (hoj:ops[j]?=some oj) (hlj:kd j=2)
 {K K':Act→World→Prop} (h1:wpOp P ops Q j K a w) (hK: ∀ a' w',Inv ops C kd (listed.setIfInBounds j true) w'→K a' w'→K' a' w'):wpOp P ops Q j K' a w:=by
 rcases Classical.em (∀ i oi,ops[i]?=some oi→kd i=0→listed.getD i false=true) with hall|hnot
 ·exact wpOp_mono (fun a' w' h2=>hK a' w' (.inr fun i oi hi hl=>getD_set_true (hall i oi hi hl)) h2) h1
 ·have hw:C w:=hinv.resolve_right hnot;simp only [Classical.not_forall] at hnot;obtain⟨i,oi,hi,hl,hnl⟩:=hnot;have hil:i<listed.size:=by rw [hsz];exact(Array.getElem?_eq_some_iff.1 hi).1
  have hun:listed.getD i true=false:=by simp [hil] at hnl ⊢;exact hnl
  have hm:=(S.ahead listed i j oi oj hcl hj (by omega) hoj (by omega) hi hun).2 hl hlj;exact wpOp_mild hC hoj hm hw rfl rfl rfl h1 fun v w' hw' h2=>hK _ _ (.inl hw') h2
theorem any_of_mix (S:Shape ops kd) (hC: ∀ w w',C w→Below w.heap.size w w'→C w'): ∀ (f:Nat) (listed:Array Bool) (a:Act) (w:World),listed.size=ops.size→Closed ops listed→Inv ops C kd listed w→
 wpMix P ops C Q kd f listed a w→wpAny P .any ops Q f listed a w
 |0,_,_,_,_,_,_,h=>h
 |f+1,listed,a,w,hsz,hcl,hinv,h=>by
  refine⟨h.1,fun j hj=>?_⟩;have h1:=h.2 j hj;obtain⟨hjun,oj,hoj,_⟩:=mem_ready.1 hj;have hcl':=closed_set hcl hj;have hsz':(listed.setIfInBounds j true).size =ops.size:=by simp [hsz]
  by_cases hlj:kd j=2
  ·rw [if_pos hlj] at h1;exact late_step S hC hsz hcl hinv hj hoj hlj h1 fun a' w' hi h2=>any_of_mix S hC f _ _ _ hsz' hcl' hi h2
  ·by_cases hl3:kd j=3
   ·rw [if_neg hlj,if_pos hl3] at h1;exact wpOp_mono (fun a' w' h2=>any_of_mix S hC f _ _ _ hsz' hcl' (.inl h2.1) h2.2) h1
   rw [if_neg hlj,if_neg hl3] at h1;obtain⟨o',u,ho',hp,hy,h2⟩:=h1;have:oj=o':=Option.some.inj (hoj.symm.trans ho');subst this;have hil:j<listed.size:=by rw [hsz];exact(Array.getElem?_eq_some_iff.1 hoj).1
   have hw:cls C (kd j) w:=fun h0=>hinv.resolve_right fun hall=>by have:=hall j oj hoj h0;simp [hil] at this hjun;rw [this] at hjun;cases hjun
   exact yields_plain hp hy hw j hoj (any_of_mix S hC f _ _ _ hsz' hcl' (inv_set j hinv) h2)
theorem any_of_pre {D:World→Prop} (hDC: ∀ w,D w→C w) (S:Shape ops kd) (hC: ∀ w w',C w→Below w.heap.size w w'→C w'): ∀ (f:Nat) (listed:Array Bool) (a:Act) (w:World),listed.size=ops.size→Closed ops listed→D w→
 wpPre P ops C D Q kd f listed a→wpAny P .any ops Q f listed a w
 |0,_,_,_,_,_,hw,h=>⟨h.1,h.2 _ hw⟩
 |f+1,listed,a,w,hsz,hcl,hw,h=>by
  refine⟨fun h0=>h.1 h0 w hw,fun j hj=>?_⟩;have h1:=h.2 j hj;obtain⟨hjun,oj,hoj,_⟩:=mem_ready.1 hj;have hcl':=closed_set hcl hj;have hsz':(listed.setIfInBounds j true).size =ops.size:=by simp [hsz]
  by_cases hlj:kd j=2
  ·rw [if_pos hlj] at h1;exact late_step S hC hsz hcl (.inl (hDC w hw)) hj hoj hlj (h1 w hw) fun a' w' hi h2=>any_of_mix S hC f _ _ _ hsz' hcl' hi h2
  ·by_cases hl3:kd j=3
   ·rw [if_neg hlj,if_pos hl3] at h1;exact wpOp_mono (fun a' w' h2=>any_of_mix S hC f _ _ _ hsz' hcl' (.inl h2.1) h2.2) (h1 w hw)
   rw [if_neg hlj,if_neg hl3] at h1;obtain⟨o',u,ho',hp,hy,h2⟩:=h1;by_cases h0:kd j≠0∨D≠C
   ·exact yields_plain (hp h0) hy (fun _=>hDC w hw) j ho' (any_of_pre hDC S hC f _ _ _ hsz' hcl' hw h2)
   ·obtain⟨h0,hD⟩:kd j=0∧D=C:=⟨Classical.not_not.1 fun h=>h0 (.inl h),Classical.not_not.1 fun h=>h0 (.inr h)⟩
    have hc:cls C (kd j)=D:=by rw [hD];funext w;simp [cls,h0]
    rw [hc] at hy;exact wpOp_of_qOp hw (fun a' w' hw' h3=>any_of_pre hDC S hC f _ _ _ hsz' hcl' hw' h3) (hy.qOp ho' h2)
end
def pickK (k:Nat):List Nat→List Oper→List Oper
 |m::ms,o::l=>if m=k then o::pickK k ms l else pickK k ms l
 |_,_=>[]
def idxK (k:Nat):List Nat→Nat→List Nat
 |m::ms,i=>if m=k then i::idxK k ms (i+1) else idxK k ms (i+1)
 |[],_=>[]
def pickT:List Nat→List Oper→List (Nat×Oper)
 |m::ms,o::l=>if 2≤m then(m,o)::pickT ms l else pickT ms l
 |_,_=>[]
def idxT:List Nat→Nat→List Nat
 |m::ms,i=>if 2≤m then i::idxT ms (i+1) else idxT ms (i+1)
 |[],_=>[]
def wpTail (P:Program) (ops:Array Oper) (C:World→Prop) (Q:Exit→Act→World→Prop):List (Nat×Oper)→Act→World→Prop
 |[],a,w=>Q .normal a w
 |(k,o)::rest,a,w=>if Region.wanted o (yielded ops a.tmps) then o.wp P a w (fun a' w'=>(k=3→C w')∧wpTail P ops C Q rest a' w') Q∨(o.asks P a w∧LetsOut Q)
  else(k=3→C w)∧wpTail P ops C Q rest (a.put o.dst undef) w
def kindM (m:List Nat) (j:Nat):Nat:=m[j]?.getD 0
def chainM (ops:Array Oper):List Nat→Array Bool→Bool
 |[],listed=>(Region.ready .any ops listed).isEmpty
 |t::ts,listed=>decide (Region.ready .any ops listed=[t])&&chainM ops ts (listed.setIfInBounds t true)
def readyAt (ops:Array Oper) (listed:Array Bool) (k:Nat):Bool:= !listed.getD k true&&((ops[k]?).map fun o=>o.after.toList.all fun e=> !Region.binds .any e||listed.getD e.on false).getD false
def lexM (ops:Array Oper) (cont:Array Bool→Bool):List Nat→Array Bool→Bool
 |[],listed=>cont listed
 |k::r,listed=>readyAt ops listed k&&(Region.free .any ops listed k&&lexM ops cont r (listed.setIfInBounds k true))
def wt (ops:List Oper) (j i:Nat):Bool:=((ops[j]?).map fun o=>o.after.toList.any fun e=>e.on==i&&Region.binds .any e).getD false
def reachB (ops:List Oper) (t:Nat):Nat→Nat→Bool
 |0,_=>false
 |f+1,i=>wt ops t i||(List.range (t-i-1)).any fun d=>wt ops (i+1+d) i&&reachB ops t f (i+1+d)
def aheadB (ops:List Oper) (m:List Nat) (t0 e:Nat):Bool:=
 decide (t0≤e)&&(List.range ops.length).all (fun i=>decide (kindM m i=1)||decide (i=e)&&decide (2≤kindM m i)||(decide (i<e)&&(List.range (e-i)).any fun d=>decide (kindM m (i+1+d)≠1)&&wt ops (i+1+d) i)||(decide (e<i)&&decide (2≤kindM m i)))&&
 ((List.range ops.length).all (fun j=>decide (kindM m j<2)||decide (j=t0)||(decide (t0<j)&&(List.range j).any fun k=>decide (2≤kindM m k)&&(decide (j≤e)||decide (e≤k))&&wt ops j k))&&
 ((List.range e).all (fun j=>decide (kindM m j≠2)||((ops[j]?).map mildOp).getD false)&&
 (List.range ops.length).all (fun i=>decide (2≤kindM m i)||((ops[i]?).map plainOp).getD false||reachB ops t0 8 i)))
def freeB (ops:List Oper) (m:List Nat):Bool:=(pickK 1 m ops).all plainOp&&m.all fun k=>decide (k≤3)
def lateT:List Nat→Nat→Nat
 |[],i=>i
 |m::ms,i=>if 2≤m then i else lateT ms (i+1)
def wildT:List Oper→List Nat→Nat→Nat
 |o::l,m::ms,i=>if m=2&& !mildOp o then i else wildT l ms (i+1)
 |_,_,i=>i
def lateB (l:List Oper) (m:List Nat):Bool:=Region.noSelect l.toArray&&(decide (m.length=l.length)&&(freeB l m&&(lexM l.toArray (lexM l.toArray (chainM l.toArray (idxT m 0)) (idxK 1 m 0)) (idxK 0 m 0) (Array.replicate l.length false)&&aheadB l m (lateT m 0) (wildT l m 0))))
section
variable {P:Program} {C:World→Prop} {Q:Exit→Act→World→Prop}
theorem wpQuiet_mono {ops:Array Oper} {Q Q':Act→Prop} (h: ∀ a,Q a→Q' a): ∀ {l:List Oper} {a:Act},wpQuiet P ops C Q l a→wpQuiet P ops C Q' l a
 |[],a,hh=>h a hh
 |o::l,a,hh=>by
  unfold wpQuiet at hh ⊢;split
  ·rename_i hw;simp only [hw,if_true] at hh;exact Oper.quiet_mono (fun a' h'=>wpQuiet_mono h h') hh
  ·rename_i hw;simp only [hw] at hh;exact wpQuiet_mono h hh
theorem readyAt_spec {ops:Array Oper} {listed:Array Bool} {k:Nat} (h:readyAt ops listed k=true):k∈Region.ready .any ops listed:=by
 unfold readyAt at h;rw [Bool.and_eq_true] at h;obtain⟨h1,h2⟩:=h
 cases ho:ops[k]? with
 |none=>rw [ho] at h2;cases h2
 |some o=>
  rw [ho] at h2;refine mem_ready.2 ⟨by simpa using h1,o,ho,fun e he hb=>?_⟩;have:=List.all_eq_true.1 h2 e (by simpa using he);simpa [hb] using this
theorem idxK_pick (k:Nat): ∀ (r:List Nat) (i:Nat) (l:List Oper) (ops:Array Oper),r.length=l.length→(∀ j,l[j]?=ops[i+j]?)→(idxK k r i).filterMap (fun t=>ops[t]?)=pickK k r l
 |[],i,l,ops,hr,hl=>by cases l<;>simp [idxK,pickK]
 |b::r,i,[],ops,hr,hl=>by simp at hr
 |b::r,i,o::l,ops,hr,hl=>by
  have ih:=idxK_pick k r (i+1) l ops (by simpa using hr) (fun j=>by have:=hl (j+1);simpa [Nat.add_assoc,Nat.add_comm 1 j] using this);have h0:ops[i]?=some o:=by simpa using (hl 0).symm
  unfold idxK pickK;split<;>simp [ih,h0]
theorem idxT_pick: ∀ (r:List Nat) (i:Nat) (l:List Oper) (ops:Array Oper) (km:Nat→Nat),r.length=l.length→(∀ j,l[j]?=ops[i+j]?)→(∀ j k,r[j]?=some k→km (i+j)=k)→(idxT r i).filterMap (fun t=>(ops[t]?).map fun o=>(km t,o))=pickT r l
 |[],i,l,ops,km,hr,hl,hk=>by cases l<;>simp [idxT,pickT]
 |b::r,i,[],ops,km,hr,hl,hk=>by simp at hr
 |b::r,i,o::l,ops,km,hr,hl,hk=>by
  have ih:=idxT_pick r (i+1) l ops km (by simpa using hr) (fun j=>by have:=hl (j+1);simpa [Nat.add_assoc,Nat.add_comm 1 j] using this) (fun j k h=>by have:=hk (j+1) k (by simpa using h);simpa [Nat.add_assoc,Nat.add_comm 1 j] using this);have h0:ops[i]?=some o:=by simpa using (hl 0).symm
  have hb:km i=b:=by simpa using hk 0 b rfl
  unfold idxT pickT;split<;>simp [ih,h0,hb]
theorem idxT_len: ∀ (r:List Nat) (i:Nat),(idxK 0 r i).length +((idxK 1 r i).length +(idxT r i).length)=r.length
 |[],_=>rfl
 |b::r,i=>by
  have:=idxT_len r (i+1);unfold idxK idxT;split<;>split<;>split<;>simp<;>omega
theorem idxT_mem: ∀ (r:List Nat) (i t:Nat),t∈idxT r i→i≤t∧ ∃ k,r[t-i]?=some k∧2≤k
 |[],i,t,h=>by simp [idxT] at h
 |b::r,i,t,h=>by
  unfold idxT at h
  have hrec:t∈idxT r (i+1)→i≤t∧ ∃ k,(b::r)[t-i]?=some k∧2≤k:=fun h=>by
   obtain⟨h1,k,h2,h3⟩:=idxT_mem r (i+1) t h;refine⟨by omega,k,?_,h3⟩;rw [show t-i=(t-(i+1))+1 by omega];simpa using h2
  split at h
  ·rename_i hb;rcases List.mem_cons.1 h with rfl|h
   ·exact⟨Nat.le_refl _,b,by simp,hb⟩
   ·exact hrec h
  ·exact hrec h
theorem idxT_kind {m:List Nat} {t:Nat} (h:t∈idxT m 0):2≤kindM m t:=by
 obtain⟨_,k,h2,h3⟩:=idxT_mem m 0 t h;rw [Nat.sub_zero] at h2;simp [kindM,h2,h3]
theorem idxK_mem (k:Nat): ∀ (r:List Nat) (i t:Nat),t∈idxK k r i→i≤t∧r[t-i]?=some k
 |[],i,t,h=>by simp [idxK] at h
 |b::r,i,t,h=>by
  unfold idxK at h
  have hrec:t∈idxK k r (i+1)→i≤t∧(b::r)[t-i]?=some k:=fun h=>by
   obtain⟨h1,h2⟩:=idxK_mem k r (i+1) t h;refine⟨by omega,?_⟩;rw [show t-i=(t-(i+1))+1 by omega];simpa using h2
  split at h
  ·rename_i hb;rcases List.mem_cons.1 h with rfl|h
   ·simp [hb]
   ·exact hrec h
  ·exact hrec h
theorem idxK_kind {k:Nat} {m:List Nat} {t:Nat} (h:t∈idxK k m 0):kindM m t=k:=by
 obtain⟨_,h2⟩:=idxK_mem k m 0 t h;rw [Nat.sub_zero] at h2;simp [kindM,h2]
theorem wpOp_split {ops:Array Oper} {K K':Act→World→Prop} {i k:Nat} {o:Oper} (ho:ops[i]?=some o) {a:Act} {w:World}
 (h:if Region.wanted o (yielded ops a.tmps) then o.wp P a w (fun a' w'=>(k=3→C w')∧K a' w') Q∨(o.asks P a w∧LetsOut Q) else(k=3→C w)∧K (a.put o.dst undef) w) (hK: ∀ a' w',(k=3→C w')→K a' w'→K' a' w'):wpOp P ops Q i K' a w:=by
 unfold wpOp;simp only [ho];split
 ·rename_i hw;simp only [hw,if_true] at h;exact h.imp (Oper.wp_mono fun a' w' h2=>hK _ _ h2.1 h2.2) id
 ·rename_i hw;simp only [hw] at h;exact hK _ _ h.1 h.2
theorem chain_mix {ops:Array Oper} {kd:Nat→Nat} (hk3: ∀ i,kd i≤3): ∀ (ts:List Nat) (listed:Array Bool) (a:Act) (w:World),(∀ t∈ts,2≤kd t)→chainM ops ts listed=true→
 wpTail P ops C Q (ts.filterMap fun t=>(ops[t]?).map fun o=>(kd t,o)) a w→wpMix P ops C Q kd ts.length listed a w
 |[],listed,a,w,hl,hc,h=>⟨by simpa [chainM] using hc,h⟩
 |t::ts,listed,a,w,hl,hc,h=>by
  simp only [chainM,Bool.and_eq_true,decide_eq_true_eq] at hc;refine⟨fun h0=>(by rw [hc.1] at h0;cases h0),fun i hi=>?_⟩;rw [hc.1,List.mem_singleton] at hi;subst hi;have ht:i∈Region.ready .any ops listed:=by rw [hc.1];simp
  obtain⟨_,o,ho,_⟩:=mem_ready.1 ht;have hki:=hl i (by simp);simp only [List.filterMap_cons,ho,Option.map_some,wpTail] at h;by_cases h2:kd i=2
  ·rw [if_pos h2];exact wpOp_split ho h fun a' w' _ h3=>chain_mix hk3 ts _ a' w' (fun t ht=>hl t (by simp [ht])) hc.2 h3
  ·have h3:kd i=3:=by have:=hk3 i;omega
   rw [if_neg h2,if_pos h3];exact wpOp_split ho h fun a' w' hC h4=>⟨hC h3,chain_mix hk3 ts _ a' w' (fun t ht=>hl t (by simp [ht])) hc.2 h4⟩
theorem chain_pre {D:World→Prop} {ops:Array Oper} {kd:Nat→Nat} (hk3: ∀ i,kd i≤3) (ts:List Nat) (listed:Array Bool) (a:Act) (hl: ∀ t∈ts,2≤kd t) (hc:chainM ops ts listed=true)
 (h: ∀ w,D w→wpTail P ops C Q (ts.filterMap fun t=>(ops[t]?).map fun o=>(kd t,o)) a w):wpPre P ops C D Q kd ts.length listed a:=by
 cases ts with
 |nil=>exact⟨by simpa [chainM] using hc,h⟩
 |cons t ts=>
  have hc':=hc;simp only [chainM,Bool.and_eq_true,decide_eq_true_eq] at hc;refine⟨fun h0=>(by rw [hc.1] at h0;cases h0),fun i hi=>?_⟩;have hit:=hi;rw [hc.1,List.mem_singleton] at hit;subst hit;have hki:=hl i (by simp);by_cases h2:kd i=2
  ·rw [if_pos h2];intro w hw;have:=(chain_mix (C:=C) hk3 (i::ts) listed a w hl hc' (h w hw)).2 i hi
   rwa [if_pos h2] at this
  ·have h3:kd i=3:=by have:=hk3 i;omega
   rw [if_neg h2,if_pos h3];intro w hw;have:=(chain_mix (C:=C) hk3 (i::ts) listed a w hl hc' (h w hw)).2 i hi
   rwa [if_neg h2,if_pos h3] at this
theorem pre_lex {D:World→Prop} {ops:Array Oper} {kd:Nat→Nat} (hDC: ∀ w,D w→C w) (hDp:D≠C→ ∀ i oi,kd i=0→ops[i]?=some oi→plainOp oi=true) (S:Shape ops kd) (hN: ∀ e a w,Q e a w→e= .normal) (hC: ∀ w w',C w→Below w.heap.size w w'→C w') (k:Nat) (hk2:k<2) (cont:Array Bool→Bool) (g:Nat) (Qf:Act→Prop)
 (hg: ∀ listed a,Closed ops listed→cont listed=true→Qf a→wpPre P ops C D Q kd g listed a):
 ∀ (r:List Nat) (listed:Array Bool) (a:Act),(∀ t∈r,kd t=k)→Closed ops listed→lexM ops cont r listed=true→
   wpQuiet P ops (cls C k) Qf (r.filterMap fun t=>ops[t]?) a→wpPre P ops C D Q kd (r.length+g) listed a
 |[],listed,a,hr,hcl,hB,h=>by
  rw [List.length_nil,Nat.zero_add];exact hg _ _ hcl hB h
 |i::r,listed,a,hr,hcl,hB,h=>by
  simp only [lexM,Bool.and_eq_true] at hB;obtain⟨hrd,hf,hB'⟩:=hB;have hi:i∈Region.ready .any ops listed:=readyAt_spec hrd;obtain⟨_,o,h0,_⟩:=mem_ready.1 hi;have hki:=hr i (by simp);simp only [List.filterMap_cons,h0] at h;have hst:qOp P ops (cls C k) i (wpQuiet P ops (cls C k) Qf (r.filterMap fun t=>ops[t]?)) a:=by unfold qOp;simp only [h0];exact h
  obtain⟨v,hy,hK⟩:=yieldsIn_of_qOp h0 hst;have h2:=pre_lex hDC hDp S hN hC k hk2 cont g Qf hg r _ _ (fun t ht=>hr t (by simp [ht])) (closed_set hcl hi) hB' hK;rw [←hki] at hy;have h3:=pre_first hDC hDp S hN hC h0 (by omega) _ listed a hcl (Region.free_spec h0 hf) hi hy h2;rw [show(i::r).length +g=(r.length+g)+1 by simp;omega];exact h3
theorem wt_spec {ops:List Oper} {j i:Nat} (h:wt ops j i=true): ∃ o,ops[j]?=some o∧ ∃ e∈o.after,Region.binds .any e=true∧e.on=i:=by
 unfold wt at h
 cases ho:ops[j]? with
 |none=>rw [ho] at h;cases h
 |some o=>
  rw [ho] at h;obtain⟨e,he,h2⟩:=List.any_eq_true.1 h;rw [Bool.and_eq_true] at h2;exact⟨o,rfl,e,by simpa using he,h2.2,by simpa using h2.1⟩
def Up (ops:Array Oper) (listed:Array Bool) (j:Nat):Prop:= ∀ oj,ops[j]?=some oj→ ∀ e∈oj.after,Region.binds .any e=true→listed.getD e.on false=true
theorem up_wt {l:List Oper} {listed:Array Bool} {j i:Nat} (h:Up l.toArray listed j) (hw:wt l j i=true):listed.getD i false=true:=by
 obtain⟨o,ho,e,he,hb,rfl⟩:=wt_spec hw;exact h o (by simpa using ho) e he hb
theorem up_of {l:List Oper} {listed:Array Bool} (hcl:Closed l.toArray listed) {j:Nat} (h:listed.getD j false=true):Up l.toArray listed j:=fun oj ho=>hcl j oj ho h
theorem up_ready {ops:Array Oper} {listed:Array Bool} {j:Nat} (h:j∈Region.ready .any ops listed):Up ops listed j:=fun oj ho=>by
 obtain⟨_,o,ho',hd⟩:=mem_ready.1 h;have:oj=o:=Option.some.inj (ho.symm.trans ho');subst this;exact hd
theorem reach_spec {l:List Oper} {listed:Array Bool} (hcl:Closed l.toArray listed) {t:Nat} (ht:Up l.toArray listed t): ∀ (f i:Nat),reachB l t f i=true→listed.getD i false=true
 |0,i,h=>by cases h
 |f+1,i,h=>by
  unfold reachB at h;rw [Bool.or_eq_true] at h;rcases h with h|h
  ·exact up_wt ht h
  ·obtain⟨d,_,h2⟩:=List.any_eq_true.1 h;rw [Bool.and_eq_true] at h2;exact up_wt (up_of hcl (reach_spec hcl ht f _ h2.2)) h2.1
theorem ahead_spec {l:List Oper} {m:List Nat} {t0 e:Nat} (hA:aheadB l m t0 e=true) {listed:Array Bool} {i j:Nat} {oi oj:Oper} (hcl:Closed l.toArray listed) (hj:j∈Region.ready .any l.toArray listed) (hkj:2≤kindM m j) (hoj:l[j]?=some oj)
 (hki:kindM m i<2) (hoi:l[i]?=some oi) (hun:listed.getD i true=false):plainOp oi=true∧(kindM m i=0→kindM m j=2→mildOp oj=true):=by
 unfold aheadB at hA;simp only [Bool.and_eq_true] at hA;obtain⟨⟨hA0,hA1⟩,hA2,hA3,hA4⟩:=hA;have hA0:=of_decide_eq_true hA0;have hjl:j<l.length:=(List.getElem?_eq_some_iff.1 hoj).1;have hil:i<l.length:=(List.getElem?_eq_some_iff.1 hoi).1
 have hno: ¬ listed.getD i false=true:=fun h=>by
  rcases Nat.lt_or_ge i listed.size with h'|h'
  ·simp [h'] at h hun;rw [h] at hun;cases hun
  ·simp [Array.getElem?_eq_none h'] at h
 have chain: ∀ n,n<l.length→2≤kindM m n→Up l.toArray listed n→(n=t0∨listed.getD t0 false=true)∧(e<n→listed.getD e false=true):=by
  intro n
  induction n using Nat.strongRecOn with
  |_ n ih=>
   intro hn hk hu;have h1:=List.all_eq_true.1 hA2 n (List.mem_range.2 hn);simp only [show ¬ kindM m n<2 by omega,decide_false,Bool.false_or,Bool.or_eq_true,Bool.and_eq_true,decide_eq_true_eq] at h1;by_cases hnt:n=t0
   ·exact⟨.inl hnt,fun he=>by omega⟩
   ·rcases h1 with h1|⟨h1,h3⟩
    ·exact absurd h1 hnt
    ·obtain⟨k,hk1,h4⟩:=List.any_eq_true.1 h3;simp only [Bool.and_eq_true,Bool.or_eq_true,decide_eq_true_eq] at h4;obtain⟨⟨h5,h6⟩,h7⟩:=h4;have hkn:=List.mem_range.1 hk1;have hlk:=up_wt hu h7;obtain⟨q1,q2⟩:=ih k hkn (by omega) h5 (up_of hcl hlk);refine⟨.inr ?_,fun he=>?_⟩
     ·rcases q1 with rfl|q1
      ·exact hlk
      ·exact q1
     ·rcases h6 with h6|h6
      ·omega
      ·rcases Nat.lt_or_ge e k with h8|h8
       ·exact q2 h8
       ·obtain rfl:k=e:=by omega
        exact hlk
 have hcj:=chain j hjl hkj (up_ready hj)
 have hup0:Up l.toArray listed t0:=by
  rcases hcj.1 with rfl|h
  ·exact up_ready hj
  ·exact up_of hcl h
 refine⟨?_,fun h0 hj2=>?_⟩
 ·have h1:=List.all_eq_true.1 hA4 i (List.mem_range.2 hil);simp only [show ¬ 2≤kindM m i by omega,decide_false,Bool.false_or,Bool.or_eq_true,hoi,Option.map_some,Option.getD_some] at h1;rcases h1 with h1|h1
  ·exact h1
  ·exact absurd (reach_spec hcl hup0 8 i h1) hno
 ·rcases Nat.lt_or_ge j e with hje|hje
  ·have h1:=List.all_eq_true.1 hA3 j (List.mem_range.2 hje);simpa [hj2,hoj] using h1
  ·exfalso
   have hupe:Up l.toArray listed e:=by
    rcases Nat.lt_or_ge e j with h|h
    ·exact up_of hcl (hcj.2 h)
    ·obtain rfl:j=e:=by omega
     exact up_ready hj
   have sink: ∀ d i,e-i=d→i<e→i<l.length→kindM m i≠1→listed.getD i false=true:=by
    intro d
    induction d using Nat.strongRecOn with
    |_ d ih=>
     intro i hd hie hil hk;have h1:=List.all_eq_true.1 hA1 i (List.mem_range.2 hil);simp only [hk,decide_false,Bool.false_or,Bool.or_eq_true,Bool.and_eq_true,decide_eq_true_eq] at h1;rcases h1 with(⟨h1,_⟩|⟨_,h1⟩)|⟨h1,_⟩
     ·omega
     ·obtain⟨q,hq,h2⟩:=List.any_eq_true.1 h1;have hq:=List.mem_range.1 hq;rw [Bool.and_eq_true] at h2;by_cases hke:i+1+q=e
      ·exact up_wt hupe (by rw [←hke];exact h2.2)
      ·have hkl:i+1+q<l.length:=by
        obtain⟨o,ho,_⟩:=wt_spec h2.2;exact(List.getElem?_eq_some_iff.1 ho).1
       exact up_wt (up_of hcl (ih (e-(i+1+q)) (by omega) (i+1+q) rfl (by omega) hkl (by simpa using h2.1))) h2.2
     ·omega
   have h1:=List.all_eq_true.1 hA1 i (List.mem_range.2 hil);simp only [h0,Bool.or_eq_true,Bool.and_eq_true,decide_eq_true_eq] at h1;rcases h1 with((h1|⟨_,h1⟩)|⟨h1,_⟩)|⟨_,h1⟩
   ·omega
   ·omega
   ·exact hno (sink _ i rfl h1 hil (by omega))
   ·omega
theorem free_of (q:Nat): ∀ (m:List Nat) (l:List Oper),m.length=l.length→(pickK q m l).all plainOp=true→ ∀ (i:Nat) (oi:Oper),m[i]?=some q→l[i]?=some oi→plainOp oi=true
 |[],l,hl,h,i,oi,hk,ho=>by simp at hk
 |b::m,[],hl,h,i,oi,hk,ho=>by simp at hl
 |b::m,o::l,hl,h,i,oi,hk,ho=>by
  cases i with
  |zero=>
   simp at hk ho;subst hk ho;unfold pickK at h;simp at h;exact h.1
  |succ i=>
   refine free_of q m l (by simpa using hl) ?_ i oi (by simpa using hk) (by simpa using ho);unfold pickK at h;split at h
   ·simp at h ⊢;exact h.2
   ·exact h
theorem shape_of {l:List Oper} {m:List Nat} (hs:Region.noSelect l.toArray=true) (hlen:m.length=l.length) (hf:(pickK 1 m l).all plainOp=true) {t0 e:Nat} (hA:aheadB l m t0 e=true):Shape l.toArray (kindM m):=
 ⟨hs,fun listed i j oi oj hcl hj hlj hoj hli hoi hun=>ahead_spec hA hcl hj hlj (by simpa using hoj) hli (by simpa using hoi) hun,fun i oi h1 h2=>free_of 1 m l hlen hf i oi (by unfold kindM at h1;cases he:m[i]? with|none=>rw [he] at h1;cases h1|some k=>rw [he] at h1;simp at h1;rw [h1]) (by simpa using h2)⟩
theorem wpTail_list {ops:Array Oper}: ∀ (l:List (Nat×Oper)) (a:Act) (w:World),(∀ p∈l,p.1≠3)→wpList P ops Q (l.map (·.2)) a w→wpTail P ops C Q l a w
 |[],a,w,_,h=>h
 |(k,o)::rest,a,w,hk,h=>by
  have h3:k≠3:=hk (k,o) (by simp);simp only [List.map_cons,wpList] at h;unfold wpTail;split
  ·rename_i hw;simp only [hw,if_true] at h;exact h.imp (Oper.wp_mono fun a' w' h2=>⟨fun h=>absurd h h3,wpTail_list rest a' w' (fun p hp=>hk p (by simp [hp])) h2⟩) id
  ·rename_i hw;simp only [hw] at h;exact⟨fun h=>absurd h h3,wpTail_list rest _ _ (fun p hp=>hk p (by simp [hp])) h⟩
theorem wpTail_one {ops:Array Oper} {k:Nat} {o:Oper} {rest:List (Nat×Oper)} {a:Act} {w:World} (h:wpList P ops (Exit.then (fun a' w'=>(k=3→C w')∧wpTail P ops C Q rest a' w') Q) [o] a w):wpTail P ops C Q ((k,o)::rest) a w:=by
 unfold wpTail;simp only [wpList] at h;split
 ·rename_i hw;simp only [hw,if_true] at h;refine h.imp (fun h=>?_) (fun h=>⟨h.1,?_⟩)
  ·unfold Oper.wp at*;generalize (execOp a.eval o).run P w=r at*
   cases r with
   |ok n w'=>
    cases n<;>simp only [Oper.upon] at h ⊢ <;>exact h
   |halt x w'=>cases x<;>simp only [Oper.upon] at h ⊢ <;>exact h
  ·obtain⟨a,w,h⟩:=h.2;exact⟨a,w,h⟩
 ·rename_i hw;simp only [hw] at h;exact h
theorem wp_region_lateD (D:World→Prop) (N:Nat) (m:List Nat) {id:Nat} {a:Act} {w:World} {l:List Oper} (hm:P.follows .mixedOrders =true) (hB:lateB l m=true) (hN':N≤w.heap.size) (hDC: ∀ w',D w'→Below N w w') (hD0:D {w with drawn:=w.drawn+1}) (hDp:D≠(fun w'=>Below N w w')→(pickK 0 m l).all plainOp=true)
 (h: ∀ C:World→Prop,(C=fun w'=>Below N w w')→wpQuiet P l.toArray C (fun a1=> ∀ C':World→Prop,(C'=fun _=>True)→wpQuiet P l.toArray C' (fun a'=> ∀ w',D w'→
   wpTail P l.toArray (fun w'=>Below N w w') (Exit.then (fun a w=>Q .normal a w) (fun _ _ _=>False)) (pickT m l) a' w') (pickK 1 m l) a1) (pickK 0 m l) a):(Code.region id l.toArray true).wp P Q a w:=by
 unfold lateB at hB;simp only [Bool.and_eq_true,decide_eq_true_eq] at hB;obtain⟨hs,hlen,hf,hlex,hA⟩:=hB;unfold freeB at hf;rw [Bool.and_eq_true] at hf
 have hk3: ∀ i,kindM m i≤3:=fun i=>by
  unfold kindM
  cases he:m[i]? with
  |none=>simp
  |some k=>have:=List.all_eq_true.1 hf.2 k (List.mem_of_getElem? he);simpa using this
 have hDp':D≠(fun w'=>Below N w w')→ ∀ i oi,kindM m i=0→l.toArray[i]?=some oi→plainOp oi=true:=fun h i oi hk ho=>by
  have hil:i<l.length:=by have:=(Array.getElem?_eq_some_iff.1 ho).1;simpa using this
  exact free_of 0 m l hlen (hDp h) i oi (by rw [List.getElem?_eq_getElem (by omega)];simpa [kindM,List.getElem?_eq_getElem (show i<m.length by omega)] using hk) (by simpa using ho)
 have S:=shape_of hs hlen hf.1 hA;have hC: ∀ w1 w2,Below N w w1→Below w1.heap.size w1 w2→Below N w w2:=fun w1 w2 h1 h2=>h1.trans (h2.mono (Nat.le_trans hN' h1.size));have hN: ∀ e a w,(Exit.then (fun a w=>Q .normal a w) (fun _ _ _=>False)) e a w→e= .normal :=fun e a w h=>by cases e<;>first|rfl|exact h.elim
 have e0:(idxK 0 m 0).filterMap (fun t=>l.toArray[t]?)=pickK 0 m l:=idxK_pick 0 m 0 l _ hlen (by simp);have e1:(idxK 1 m 0).filterMap (fun t=>l.toArray[t]?)=pickK 1 m l:=idxK_pick 1 m 0 l _ hlen (by simp);have e2:(idxT m 0).filterMap (fun t=>(l.toArray[t]?).map fun o=>(kindM m t,o))=pickT m l:=idxT_pick m 0 l _ _ hlen (by simp) (fun j k h=>by simp [kindM,h]);have h0:=h _ rfl;rw [←e0] at h0;have c0:cls (fun w'=>Below N w w') 0=fun w'=>Below N w w':=by funext w;simp [cls]
 have c1:cls (fun w'=>Below N w w') 1=fun _=>True:=by funext w;simp [cls]
 have h1:=pre_lex (C:=fun w'=>Below N w w') (D:=D) (kd:=kindM m) hDC hDp' S hN hC 0 (by omega) _ ((idxK 1 m 0).length +(idxT m 0).length)
  (fun a1=> ∀ C':World→Prop,(C'=fun _=>True)→wpQuiet P l.toArray C' (fun a'=> ∀ w',D w'→wpTail P l.toArray (fun w'=>Below N w w') (Exit.then (fun a w=>Q .normal a w) (fun _ _ _=>False)) (pickT m l) a' w') (pickK 1 m l) a1)
  (fun listed a1 hcl hc hq=>by
    have hq:=hq _ rfl;rw [←e1,←c1] at hq;refine pre_lex (C:=fun w'=>Below N w w') (D:=D) (kd:=kindM m) hDC hDp' S hN hC 1 (by omega) _ _ _ (fun listed a' hcl hc hq=>?_) _ listed a1 (fun t ht=>idxK_kind ht) hcl hc hq;rw [←e2] at hq;exact chain_pre hk3 _ _ _ (fun t ht=>idxT_kind ht) hc hq)
  (idxK 0 m 0) (Array.replicate l.length false) a (fun t ht=>idxK_kind ht) (closed_none _) hlex (by rw [c0];exact h0)
 rw [idxT_len m 0,hlen] at h1;have h2:=any_of_pre (C:=fun w'=>Below N w w') hDC S hC l.toArray.size (Array.replicate l.length false) a {w with drawn:=w.drawn+1} (by simp) (closed_none _) hD0 (by simpa using h1);refine Code.wp_mono (fun e a w h=>?_) (wp_region_any hm (by simpa using h2));cases e<;>first|exact h|exact h.elim
theorem wp_region_lateN (N:Nat) (m:List Nat) {id:Nat} {a:Act} {w:World} {l:List Oper} (hm:P.follows .mixedOrders =true) (hB:(lateB l m&&(pickK 0 m l).all plainOp)=true) (hN':N≤w.heap.size)
 (h: ∀ C:World→Prop,(C=fun w'=>Below N w w')→wpQuiet P l.toArray C (fun a1=> ∀ C':World→Prop,(C'=fun _=>True)→wpQuiet P l.toArray C' (fun a'=> ∀ w',w'={w with drawn:=w.drawn+1}→
   wpTail P l.toArray (fun w'=>Below N w w') (Exit.then (fun a w=>Q .normal a w) (fun _ _ _=>False)) (pickT m l) a' w') (pickK 1 m l) a1) (pickK 0 m l) a):(Code.region id l.toArray true).wp P Q a w:=by
 rw [Bool.and_eq_true] at hB;exact wp_region_lateD (fun w'=>w'={w with drawn:=w.drawn+1}) N m hm hB.1 hN' (fun w' h=>by subst h;exact⟨rfl,rfl,rfl,Nat.le_refl _,fun _ _=>rfl⟩) rfl (fun _=>hB.2) h
theorem pickT_two {m:List Nat}: ∀ {m:List Nat} {l:List Oper},(m.all fun k=>decide (k≤2))=true→(∀ p∈pickT m l,p.1≠3)∧(pickT m l).map (·.2)=pickK 2 m l
 |[],l,_=>by cases l<;>simp [pickT,pickK]
 |k::m,[],_=>by simp [pickT,pickK]
 |k::m,o::l,h=>by
  rw [List.all_cons,Bool.and_eq_true,decide_eq_true_eq] at h;obtain⟨i1,i2⟩:=pickT_two (m:=m) (l:=l) h.2;unfold pickT pickK;by_cases h2:2≤k
  ·obtain rfl:k=2:=by omega
   rw [if_pos rfl];refine⟨fun p hp=>?_,by simp [i2]⟩;rcases List.mem_cons.1 hp with rfl|hp
   ·simp
   ·exact i1 p hp
  ·rw [if_neg h2,if_neg (by omega)];exact⟨i1,i2⟩
theorem wp_region_late (m:List Nat) {id:Nat} {a:Act} {w:World} {l:List Oper} (hm:P.follows .mixedOrders =true) (hB2:(lateB l m&&m.all fun k=>decide (k≤2))=true)
 (h: ∀ C:World→Prop,(C=fun w'=>Below w.heap.size w w')→wpQuiet P l.toArray C (fun a1=> ∀ C':World→Prop,(C'=fun _=>True)→wpQuiet P l.toArray C' (fun a'=> ∀ w',Below w.heap.size w w'→
   wpList P l.toArray (Exit.then (fun a w=>Q .normal a w) (fun _ _ _=>False)) (pickK 2 m l) a' w') (pickK 1 m l) a1) (pickK 0 m l) a):(Code.region id l.toArray true).wp P Q a w:=by
 rw [Bool.and_eq_true] at hB2;obtain⟨hB,h2⟩:=hB2;refine wp_region_lateD (fun w'=>Below w.heap.size w w') w.heap.size m hm hB (Nat.le_refl _) (fun _ h=>h) ⟨rfl,rfl,rfl,Nat.le_refl _,fun _ _=>rfl⟩ (fun h=>absurd rfl h) fun C hC=>?_;obtain⟨i1,i2⟩:=pickT_two (m:=m) (l:=l) h2;rw [←i2] at h;exact wpQuiet_mono (fun a1 h1 C' hC'=>wpQuiet_mono (fun a' h' w' hw'=>wpTail_list _ _ _ i1 (h' w' hw')) (h1 C' hC')) (h C hC)
def reachA (ops:List Oper) (t:Nat):Nat→Nat→Bool
 |0,_=>false
 |f+1,i=>wt ops t i||(List.range (t-i-1)).any fun d=>wt ops (i+1+d) i&&reachA ops t f (i+1+d)
theorem reachA_spec {l:List Oper} {listed:Array Bool} (hcl:Closed l.toArray listed) {t:Nat} (ht:Up l.toArray listed t): ∀ (f i:Nat),reachA l t f i=true→listed.getD i false=true
 |0,i,h=>by cases h
 |f+1,i,h=>by
  unfold reachA at h;rw [Bool.or_eq_true] at h;rcases h with h|h
  ·exact up_wt ht h
  ·obtain⟨d,_,h2⟩:=List.any_eq_true.1 h;rw [Bool.and_eq_true] at h2;exact up_wt (up_of hcl (reachA_spec hcl ht f _ h2.2)) h2.1
end
def kd5 (m:List Nat) (j:Nat):Nat:=if kindM m j=4 then 1 else if kindM m j=5 then 0 else kindM m j
def wpTail5 (P:Program) (ops:Array Oper) (C:World→Prop) (Q:Exit→Act→World→Prop):List (Nat×Oper)→Act→World→Prop
 |[],a,w=>Q .normal a w
 |(k,o)::rest,a,w=>if k=4 then wpQuiet P ops (fun _=>True) (fun a'=>wpTail5 P ops C Q rest a' w) [o] a
  else if k=5 then C w∧wpQuiet P ops C (fun a'=>wpTail5 P ops C Q rest a' w) [o] a
  else if Region.wanted o (yielded ops a.tmps) then o.wp P a w (fun a' w'=>(k=3→C w')∧wpTail5 P ops C Q rest a' w') Q∨(o.asks P a w∧LetsOut Q)
  else(k=3→C w)∧wpTail5 P ops C Q rest (a.put o.dst undef) w
def chain5 (ops:Array Oper) (m:List Nat):List Nat→Array Bool→Bool
 |[],listed=>(Region.ready .any ops listed).isEmpty
 |t::ts,listed=>(if kindM m t=4∨kindM m t=5 then readyAt ops listed t&&(Region.free .any ops listed t&&((ops[t]?).map plainOp).getD false) else decide (Region.ready .any ops listed=[t]))&&chain5 ops m ts (listed.setIfInBounds t true)
def aheadR (ops:List Oper) (m:List Nat):Bool:=(List.range ops.length).all fun j=>decide (kd5 m j<2)||(List.range ops.length).all fun i=>decide (2≤kd5 m i)||(((ops[i]?).map plainOp).getD false&&(decide (kd5 m i=1)||decide (kd5 m j=3)||((ops[j]?).map mildOp).getD false))||reachA ops j 40 i
def headR (m:List Nat) (ts:List Nat):Bool:=match ts with
 |t::_=>decide (¬ (kindM m t=4∨kindM m t=5))
 |[]=>true
def lateR (l:List Oper) (m:List Nat) (ts:List Nat):Bool:=ts.all (fun t=>decide (2≤kindM m t))&&(decide (ts.length=(idxT m 0).length)&&(Region.noSelect l.toArray&&(decide (m.length=l.length)&&((pickK 1 m l).all plainOp&&((pickK 0 m l).all plainOp&&((m.all fun k=>decide (k≤5))&&(headR m ts&&(lexM l.toArray (lexM l.toArray (chain5 l.toArray m ts) (idxK 1 m 0)) (idxK 0 m 0) (Array.replicate l.length false)&&(aheadR l m&&((pickK 4 m l).all plainOp&&(pickK 5 m l).all plainOp))))))))))
def insT {α:Type}:Nat→α→List α→List α
 |0,x,xs=>x::xs
 |k+1,x,y::ys=>y::insT k x ys
 |_+1,x,[]=>[x]
def rotT {α:Type}:Nat→Nat→List α→List α
 |0,k,x::xs=>insT k x xs
 |p+1,k,x::xs=>x::rotT p k xs
 |_,_,[]=>[]
def pickO (m:List Nat) (l:List Oper) (ts:List Nat):List (Nat×Oper):=ts.filterMap fun t=>(l.toArray[t]?).map fun o=>(kindM m t,o)
section
variable {P:Program} {C:World→Prop} {Q:Exit→Act→World→Prop}
theorem aheadR_spec {l:List Oper} {m:List Nat} (hA:aheadR l m=true) {listed:Array Bool} {i j:Nat} {oi oj:Oper} (hcl:Closed l.toArray listed) (hj:j∈Region.ready .any l.toArray listed) (hkj:2≤kd5 m j) (hoj:l[j]?=some oj)
 (hki:kd5 m i<2) (hoi:l[i]?=some oi) (hun:listed.getD i true=false):plainOp oi=true∧(kd5 m i=0→kd5 m j=2→mildOp oj=true):=by
 have hjl:j<l.length:=(List.getElem?_eq_some_iff.1 hoj).1;have hil:i<l.length:=(List.getElem?_eq_some_iff.1 hoi).1
 have hno: ¬ listed.getD i false=true:=fun h=>by
  rcases Nat.lt_or_ge i listed.size with h'|h'
  ·simp [h'] at h hun;rw [h] at hun;cases hun
  ·simp [Array.getElem?_eq_none h'] at h
 have h1:=List.all_eq_true.1 hA j (List.mem_range.2 hjl);simp only [show ¬ kd5 m j<2 by omega,decide_false,Bool.false_or] at h1;have h2:=List.all_eq_true.1 h1 i (List.mem_range.2 hil);simp only [show ¬ 2≤kd5 m i by omega,decide_false,Bool.false_or,Bool.or_eq_true,Bool.and_eq_true,decide_eq_true_eq,hoi,hoj,Option.map_some,Option.getD_some] at h2;rcases h2 with⟨h2,h3⟩|h2
 ·refine⟨h2,fun h0 h4=>?_⟩;rcases h3 with(h3|h3)|h3
  ·omega
  ·omega
  ·exact h3
 ·exact absurd (reachA_spec hcl (up_ready hj) 40 i h2) hno
theorem kd5_le {m:List Nat} (h:(m.all fun k=>decide (k≤5))=true) (i:Nat):kd5 m i≤3:=by
 unfold kd5;split
 ·omega
 ·rename_i h4;split
  ·omega
  ·rename_i h5;unfold kindM at*
   cases he:m[i]? with
   |none=>simp
   |some k=>
    have:=List.all_eq_true.1 h k (List.mem_of_getElem? he);rw [he] at h4 h5;simp at this h4 h5 ⊢;omega
theorem chain5_mix {ops:Array Oper} {m:List Nat} (S:Shape ops (kd5 m)) (hN: ∀ e a w,Q e a w→e= .normal) (hC: ∀ w w',C w→Below w.heap.size w w'→C w') (hk3: ∀ i,kd5 m i≤3): ∀ (ts:List Nat) (listed:Array Bool) (a:Act) (w:World),(∀ t∈ts,2≤kindM m t)→Closed ops listed→chain5 ops m ts listed=true→
 wpTail5 P ops C Q (ts.filterMap fun t=>(ops[t]?).map fun o=>(kindM m t,o)) a w→wpMix P ops C Q (kd5 m) ts.length listed a w
 |[],listed,a,w,hl,hcl,hc,h=>⟨by simpa [chain5] using hc,h⟩
 |t::ts,listed,a,w,hl,hcl,hc,h=>by
  simp only [chain5,Bool.and_eq_true] at hc;obtain⟨hc1,hc2⟩:=hc;by_cases h5:kindM m t=5
  ·rw [if_pos (Or.inr h5),Bool.and_eq_true,Bool.and_eq_true] at hc1;obtain⟨hrd,hf,hp⟩:=hc1;have ht:=readyAt_spec hrd;obtain⟨_,o,ho,_⟩:=mem_ready.1 ht;simp only [List.filterMap_cons,ho,Option.map_some] at h;unfold wpTail5 at h;rw [if_neg (by omega),if_pos h5] at h;obtain⟨hCw,h⟩:=h;have hk1:kd5 m t=0:=by unfold kd5;rw [if_neg (by omega),if_pos h5]
   have c0:cls C 0=C:=by funext w;simp [cls]
   have hst:qOp P ops (cls C 0) t (wpQuiet P ops (cls C 0) (fun a'=>wpTail5 P ops C Q (ts.filterMap fun t=>(ops[t]?).map fun o=>(kindM m t,o)) a' w) []) a:=by rw [c0];unfold qOp;simp only [ho];exact h
   obtain⟨v,hy,hK⟩:=yieldsIn_of_qOp ho hst;have hpl:plainOp o=true:=by rw [ho] at hp;simpa using hp
   rw [←hk1] at hy;exact mix_first S hN hC ho (by omega) hpl ts.length listed a w (fun h=>hCw) hcl (Region.free_spec ho hf) ht hy (chain5_mix S hN hC hk3 ts _ _ w (fun t ht=>hl t (by simp [ht])) (closed_set hcl ht) hc2 hK)
  by_cases h4:kindM m t=4
  ·rw [if_pos (Or.inl h4),Bool.and_eq_true,Bool.and_eq_true] at hc1;obtain⟨hrd,hf,hp⟩:=hc1;have ht:=readyAt_spec hrd;obtain⟨_,o,ho,_⟩:=mem_ready.1 ht;simp only [List.filterMap_cons,ho,Option.map_some] at h;unfold wpTail5 at h;rw [if_pos h4] at h;have hk1:kd5 m t=1:=by unfold kd5;rw [if_pos h4]
   have c1:cls C 1=fun _=>True:=by funext w;simp [cls]
   rw [←c1] at h;have hst:qOp P ops (cls C 1) t (wpQuiet P ops (cls C 1) (fun a'=>wpTail5 P ops C Q (ts.filterMap fun t=>(ops[t]?).map fun o=>(kindM m t,o)) a' w) []) a:=by unfold qOp;simp only [ho];exact h
   obtain⟨v,hy,hK⟩:=yieldsIn_of_qOp ho hst;have hpl:plainOp o=true:=by rw [ho] at hp;simpa using hp
   rw [←hk1] at hy;exact mix_first S hN hC ho (by omega) hpl ts.length listed a w (fun h=>by omega) hcl (Region.free_spec ho hf) ht hy (chain5_mix S hN hC hk3 ts _ _ w (fun t ht=>hl t (by simp [ht])) (closed_set hcl ht) hc2 hK)
  ·rw [if_neg (by omega)] at hc1;have hc1:=of_decide_eq_true hc1;refine⟨fun h0=>(by rw [hc1] at h0;cases h0),fun i hi=>?_⟩;have hit:=hi;rw [hc1,List.mem_singleton] at hi;subst hi;obtain⟨_,o,ho,_⟩:=mem_ready.1 hit;have hki:=hl i (by simp);have hkk:kd5 m i=kindM m i:=by unfold kd5;rw [if_neg h4,if_neg h5]
   simp only [List.filterMap_cons,ho,Option.map_some] at h;unfold wpTail5 at h;rw [if_neg h4,if_neg h5] at h;by_cases h2:kd5 m i=2
   ·rw [if_pos h2];exact wpOp_split ho h fun a' w' _ h3=>chain5_mix S hN hC hk3 ts _ a' w' (fun t ht=>hl t (by simp [ht])) (closed_set hcl hit) hc2 h3
   ·have h3:kd5 m i=3:=by have:=hk3 i;omega
    rw [if_neg h2,if_pos h3];exact wpOp_split ho h fun a' w' hC' h5=>⟨hC' (by omega),chain5_mix S hN hC hk3 ts _ a' w' (fun t ht=>hl t (by simp [ht])) (closed_set hcl hit) hc2 h5⟩
theorem chain5_pre {D:World→Prop} {ops:Array Oper} {m:List Nat} (S:Shape ops (kd5 m)) (hN: ∀ e a w,Q e a w→e= .normal) (hC: ∀ w w',C w→Below w.heap.size w w'→C w') (hk3: ∀ i,kd5 m i≤3) (ts:List Nat) (listed:Array Bool) (a:Act) (hl: ∀ t∈ts,2≤kindM m t) (hcl:Closed ops listed) (hh:headR m ts=true) (hc:chain5 ops m ts listed=true)
 (h: ∀ w,D w→wpTail5 P ops C Q (ts.filterMap fun t=>(ops[t]?).map fun o=>(kindM m t,o)) a w):wpPre P ops C D Q (kd5 m) ts.length listed a:=by
 cases ts with
 |nil=>exact⟨by simpa [chain5] using hc,h⟩
 |cons t ts=>
  have hc':=hc;have h45: ¬ (kindM m t=4∨kindM m t=5):=by simp only [headR,decide_eq_true_eq] at hh;exact hh
  have h4:kindM m t≠4:=fun h=>h45 (Or.inl h);have h5:kindM m t≠5:=fun h=>h45 (Or.inr h);simp only [chain5,Bool.and_eq_true,if_neg h45,decide_eq_true_eq] at hc;refine⟨fun h0=>(by rw [hc.1] at h0;cases h0),fun i hi=>?_⟩;have hit:=hi;rw [hc.1,List.mem_singleton] at hit;subst hit;have hki:=hl i (by simp);have hkk:kd5 m i=kindM m i:=by unfold kd5;rw [if_neg h4,if_neg h5]
  by_cases h2:kd5 m i=2
  ·rw [if_pos h2];intro w hw;have:=(chain5_mix (C:=C) S hN hC hk3 (i::ts) listed a w hl hcl hc' (h w hw)).2 i hi
   rwa [if_pos h2] at this
  ·have h3:kd5 m i=3:=by have:=hk3 i;omega
   rw [if_neg h2,if_pos h3];intro w hw;have:=(chain5_mix (C:=C) S hN hC hk3 (i::ts) listed a w hl hcl hc' (h w hw)).2 i hi
   rwa [if_neg h2,if_pos h3] at this
theorem wp_region_lateRC (Cl:World→Prop) (m ts:List Nat) (tl:List (Nat×Oper)) {id:Nat} {a:Act} {w:World} {l:List Oper} {Q:Exit→Act→World→Prop} (hm:P.follows .mixedOrders =true) (hB:lateR l m ts=true) (htl:pickO m l ts=tl) (hC0:Cl {w with drawn:=w.drawn+1}) (hC: ∀ w1 w2,Cl w1→Below w1.heap.size w1 w2→Cl w2)
 (h: ∀ C:World→Prop,(C=Cl)→wpQuiet P l.toArray C (fun a1=> ∀ C':World→Prop,(C'=fun _=>True)→wpQuiet P l.toArray C' (fun a'=> ∀ w',w'={w with drawn:=w.drawn+1}→
   wpTail5 P l.toArray Cl (Exit.then (fun a w=>Q .normal a w) (fun _ _ _=>False)) tl a' w') (pickK 1 m l) a1) (pickK 0 m l) a):(Code.region id l.toArray true).wp P Q a w:=by
 unfold lateR at hB;simp only [Bool.and_eq_true,decide_eq_true_eq] at hB;obtain⟨hts,htn,hs,hlen,hf1,hf0,hk4,hh,hlex,hA,hf4,hf5⟩:=hB;have hk3:=kd5_le hk4;have hDC: ∀ w',w'=({w with drawn:=w.drawn+1}:World)→Cl w':=fun w' h=>by subst h;exact hC0
 have hD0:({w with drawn:=w.drawn+1}:World)=({w with drawn:=w.drawn+1}:World):=rfl
 have key: ∀ (k:Nat) (i:Nat) (oi:Oper),kindM m i=k→l.toArray[i]?=some oi→(pickK k m l).all plainOp=true→plainOp oi=true:=fun k i oi hk ho hp=>by
  have hil:i<l.length:=by have:=(Array.getElem?_eq_some_iff.1 ho).1;simpa using this
  exact free_of k m l hlen hp i oi (by rw [List.getElem?_eq_getElem (by omega)];simpa [kindM,List.getElem?_eq_getElem (show i<m.length by omega)] using hk) (by simpa using ho)
 have hDp':(fun w'=>w'=({w with drawn:=w.drawn+1}:World))≠Cl→ ∀ i oi,kd5 m i=0→l.toArray[i]?=some oi→plainOp oi=true:=fun h i oi hk ho=>by
  unfold kd5 at hk;split at hk
  ·cases hk
  ·split at hk
   ·rename_i h5;exact key 5 i oi h5 ho hf5
   ·exact key 0 i oi hk ho hf0
 have S:Shape l.toArray (kd5 m):=⟨hs,fun listed i j oi oj hcl hj hlj hoj hli hoi hun=>aheadR_spec hA hcl hj hlj (by simpa using hoj) hli (by simpa using hoi) hun,fun i oi h1 h2=>by
  unfold kd5 at h1;split at h1
  ·rename_i h4;exact key 4 i oi h4 h2 hf4
  ·split at h1
   ·cases h1
   ·exact key 1 i oi h1 h2 hf1⟩
 have hN: ∀ e a w,(Exit.then (fun a w=>Q .normal a w) (fun _ _ _=>False)) e a w→e= .normal :=fun e a w h=>by cases e<;>first|rfl|exact h.elim
 have e0:(idxK 0 m 0).filterMap (fun t=>l.toArray[t]?)=pickK 0 m l:=idxK_pick 0 m 0 l _ hlen (by simp);have e1:(idxK 1 m 0).filterMap (fun t=>l.toArray[t]?)=pickK 1 m l:=idxK_pick 1 m 0 l _ hlen (by simp);have e2:ts.filterMap (fun t=>(l.toArray[t]?).map fun o=>(kindM m t,o))=tl:=htl;have htk: ∀ t∈ts,2≤kindM m t:=fun t ht=>of_decide_eq_true (List.all_eq_true.1 hts t ht);have h0:=h _ rfl;rw [←e0] at h0;have c0:cls Cl 0=Cl:=by funext w;simp [cls]
 have c1:cls Cl 1=fun _=>True:=by funext w;simp [cls]
 have hkd: ∀ k t,k<2→t∈idxK k m 0→kd5 m t=k:=fun k t hk ht=>by
  have:=idxK_kind ht;unfold kd5;rw [if_neg (by omega),if_neg (by omega)];exact this
 have h1:=pre_lex (C:=Cl) (D:=fun w'=>w'=({w with drawn:=w.drawn+1}:World)) (kd:=kd5 m) hDC hDp' S hN hC 0 (by omega) _ ((idxK 1 m 0).length +ts.length)
  (fun a1=> ∀ C':World→Prop,(C'=fun _=>True)→wpQuiet P l.toArray C' (fun a'=> ∀ w',w'=({w with drawn:=w.drawn+1}:World)→wpTail5 P l.toArray Cl (Exit.then (fun a w=>Q .normal a w) (fun _ _ _=>False)) tl a' w') (pickK 1 m l) a1)
  (fun listed a1 hcl hc hq=>by
    have hq:=hq _ rfl;rw [←e1,←c1] at hq;refine pre_lex (C:=Cl) (D:=fun w'=>w'=({w with drawn:=w.drawn+1}:World)) (kd:=kd5 m) hDC hDp' S hN hC 1 (by omega) _ _ _ (fun listed a' hcl hc hq=>?_) _ listed a1 (fun t ht=>hkd 1 t (by omega) ht) hcl hc hq;rw [←e2] at hq;exact chain5_pre S hN hC hk3 _ _ _ htk hcl hh hc hq)
  (idxK 0 m 0) (Array.replicate l.length false) a (fun t ht=>hkd 0 t (by omega) ht) (closed_none _) hlex (by rw [c0];exact h0)
 rw [htn,idxT_len m 0,hlen] at h1;have h2:=any_of_pre (C:=Cl) hDC S hC l.toArray.size (Array.replicate l.length false) a {w with drawn:=w.drawn+1} (by simp) (closed_none _) hD0 (by simpa using h1);refine Code.wp_mono (fun e a w h=>?_) (wp_region_any hm (by simpa using h2));cases e<;>first|exact h|exact h.elim
theorem wp_region_lateR (N:Nat) (m ts:List Nat) (tl:List (Nat×Oper)) {id:Nat} {a:Act} {w:World} {l:List Oper} {Q:Exit→Act→World→Prop} (hm:P.follows .mixedOrders =true) (hB:lateR l m ts=true) (htl:pickO m l ts=tl) (hN':N≤w.heap.size)
 (h: ∀ C:World→Prop,(C=fun w'=>Below N w w')→wpQuiet P l.toArray C (fun a1=> ∀ C':World→Prop,(C'=fun _=>True)→wpQuiet P l.toArray C' (fun a'=> ∀ w',w'={w with drawn:=w.drawn+1}→
   wpTail5 P l.toArray (fun w'=>Below N w w') (Exit.then (fun a w=>Q .normal a w) (fun _ _ _=>False)) tl a' w') (pickK 1 m l) a1) (pickK 0 m l) a):(Code.region id l.toArray true).wp P Q a w:=
 wp_region_lateRC (fun w'=>Below N w w') m ts tl hm hB htl ⟨rfl,rfl,rfl,Nat.le_refl _,fun _ _=>rfl⟩ (fun w1 w2 h1 h2=>h1.trans (h2.mono (Nat.le_trans hN' h1.size))) h
theorem wpTail5_one {ops:Array Oper} {k:Nat} {o:Oper} {rest:List (Nat×Oper)} {a:Act} {w:World} (hk:k≠4) (hk5:k≠5) (h:wpList P ops (Exit.then (fun a' w'=>(k=3→C w')∧wpTail5 P ops C Q rest a' w') Q) [o] a w):wpTail5 P ops C Q ((k,o)::rest) a w:=by
 unfold wpTail5;rw [if_neg hk,if_neg hk5];simp only [wpList] at h;split
 ·rename_i hw;simp only [hw,if_true] at h;refine h.imp (fun h=>?_) (fun h=>⟨h.1,?_⟩)
  ·unfold Oper.wp at*;generalize (execOp a.eval o).run P w=r at*
   cases r with
   |ok n w'=>
    cases n<;>simp only [Oper.upon] at h ⊢ <;>exact h
   |halt x w'=>cases x<;>simp only [Oper.upon] at h ⊢ <;>exact h
  ·obtain⟨a,w,h⟩:=h.2;exact⟨a,w,h⟩
 ·rename_i hw;simp only [hw] at h;exact h
theorem wpTail5_quiet {ops:Array Oper} {o:Oper} {rest:List (Nat×Oper)} {a:Act} {w:World} (h: ∀ C':World→Prop,(C'=fun _=>True)→wpQuiet P ops C' (fun a'=>wpTail5 P ops C Q rest a' w) [o] a):wpTail5 P ops C Q ((4,o)::rest) a w:=by
 unfold wpTail5;rw [if_pos rfl];exact h _ rfl
theorem wpTail5_read {ops:Array Oper} {o:Oper} {rest:List (Nat×Oper)} {a:Act} {w:World} (hw:C w) (h: ∀ C':World→Prop,(C'=C)→wpQuiet P ops C' (fun a'=>wpTail5 P ops C Q rest a' w) [o] a):wpTail5 P ops C Q ((5,o)::rest) a w:=by
 unfold wpTail5;rw [if_neg (by decide),if_pos rfl];exact⟨hw,h _ rfl⟩
theorem wpTail5_list {ops:Array Oper}: ∀ (l:List (Nat×Oper)) (a:Act) (w:World),(∀ p∈l,p.1=2)→wpList P ops Q (l.map (·.2)) a w→wpTail5 P ops C Q l a w
 |[],a,w,_,h=>h
 |(k,o)::rest,a,w,hk,h=>by
  have h3:k=2:=hk (k,o) (by simp);simp only [List.map_cons,wpList] at h;unfold wpTail5;rw [if_neg (by omega),if_neg (by omega)];split
  ·rename_i hw;simp only [hw,if_true] at h;exact h.imp (Oper.wp_mono fun a' w' h2=>⟨fun h=>by omega,wpTail5_list rest a' w' (fun p hp=>hk p (by simp [hp])) h2⟩) id
  ·rename_i hw;simp only [hw] at h;exact⟨fun h=>by omega,wpTail5_list rest _ _ (fun p hp=>hk p (by simp [hp])) h⟩
end
