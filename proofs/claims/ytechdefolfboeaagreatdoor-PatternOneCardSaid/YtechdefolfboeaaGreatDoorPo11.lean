/- Merged. -/
import Derived.Test.YtechdefolfboeaaGreatDoorPo3
import Derived.Test.YtechdefolfboeaaGreatDoorPo4
set_option linter.unusedVariables false
set_option linter.unusedSimpArgs false
namespace Go.Proofs.YtechdefolfboeaaGreatDoor
open Go.RowKit B
section
variable {P:Program} {fn:Func} {R:Ending→World→Prop} {a:Act} {w:World} {s g s' g':Nat} {t T t' T':TypeId} {vs vs':List Value}
theorem loadVar_bx (hB:Bx w g T vs) (hu:(P.underlying t).map (fun d=>match d with| .struct _| .array _ _=>true|_=>false)=some true) (hi:(P.info? t).map (·.size)=some vs.length):(loadVar t ⟨g,0,none⟩).run P w= .ok (.agg vs.toArray) w:=by
 obtain⟨d,hq,hd2⟩: ∃ d,P.underlying t=some d∧(match d with| .struct _| .array _ _=>true|_=>false)=true:=by
  cases hq:P.underlying t with
  |none=>rw [hq] at hu;cases hu
  |some d=>rw [hq] at hu;exact⟨d,rfl,Option.some.inj hu⟩
 exact run_loadVar_row (P:=P) w g T t vs.toArray (0,0) d hB hq (by cases d<;>first|rfl|(exact hd2)) (by rw [hi];simp)
theorem bodyPost_bx2 (hres:fn.results=#[.cell s t,.cell s' t']) (hs:a.tmps.getD s undef= .pointer (some ⟨g,0,none⟩)) (hs':a.tmps.getD s' undef= .pointer (some ⟨g',0,none⟩)) (hB:Bx w g T vs) (hB':Bx w g' T' vs')
 (hu:(P.underlying t).map (fun d=>match d with| .struct _| .array _ _=>true|_=>false)=some true) (hi:(P.info? t).map (·.size)=some vs.length)
 (hu':(P.underlying t').map (fun d=>match d with| .struct _| .array _ _=>true|_=>false)=some true) (hi':(P.info? t').map (·.size)=some vs'.length) (hd:a.defers=[]) (hR:R (.returned (.tuple #[.agg vs.toArray,.agg vs'.toArray])) w):bodyPost P fn R .ret a w:=by
 refine bodyPost_ret (v:= .tuple #[.agg vs.toArray,.agg vs'.toArray]) ?_ hd hR;have hl:=loadVar_bx hB hu hi;have hl':=loadVar_bx hB' hu' hi';have hs2:a.tmps[s]?.getD undef= .pointer (some ⟨g,0,none⟩):=by simpa using hs
 have hs2':a.tmps[s']?.getD undef= .pointer (some ⟨g',0,none⟩):=by simpa using hs'
 unfold results;simp [hres,hs2,hs2',asAddr,hl,hl']
end
end Go.Proofs.YtechdefolfboeaaGreatDoor
namespace Go.Proofs.YtechdefolfboeaaGreatDoor.B
open Go.RowKit
def kd4 (m:List Nat) (j:Nat):Nat:=if kindM m j=4 then 1 else kindM m j
def wpTail4 (P:Program) (ops:Array Oper) (C:World→Prop) (Q:Exit→Act→World→Prop):List (Nat×Oper)→Act→World→Prop
 |[],a,w=>Q .normal a w
 |(k,o)::rest,a,w=>if k=4 then wpQuiet P ops (fun _=>True) (fun a'=>wpTail4 P ops C Q rest a' w) [o] a
  else if Region.wanted o (yielded ops a.tmps) then o.wp P a w (fun a' w'=>(k=3→C w')∧wpTail4 P ops C Q rest a' w') Q∨(o.asks P a w∧LetsOut Q)
  else(k=3→C w)∧wpTail4 P ops C Q rest (a.put o.dst undef) w
def chain4 (ops:Array Oper) (m:List Nat):List Nat→Array Bool→Bool
 |[],listed=>(Region.ready .any ops listed).isEmpty
 |t::ts,listed=>(if kindM m t=4 then readyAt ops listed t&&(Region.free .any ops listed t&&((ops[t]?).map plainOp).getD false) else decide (Region.ready .any ops listed=[t]))&&chain4 ops m ts (listed.setIfInBounds t true)
def aheadM (ops:List Oper) (m:List Nat):Bool:=(List.range ops.length).all fun j=>decide (kd4 m j<2)||(List.range ops.length).all fun i=>decide (2≤kd4 m i)||(((ops[i]?).map plainOp).getD false&&(decide (kd4 m i=1)||decide (kd4 m j=3)||((ops[j]?).map mildOp).getD false))||reachA ops j 40 i
def headM (m:List Nat) (ts:List Nat):Bool:=match ts with
 |t::_=>decide (kindM m t≠4)
 |[]=>true
def lateM (l:List Oper) (m:List Nat):Bool:=Region.noSelect l.toArray&&(decide (m.length=l.length)&&((pickK 1 m l).all plainOp&&((pickK 0 m l).all plainOp&&((m.all fun k=>decide (k≤4))&&(headM m (idxT m 0)&&(lexM l.toArray (lexM l.toArray (chain4 l.toArray m (idxT m 0)) (idxK 1 m 0)) (idxK 0 m 0) (Array.replicate l.length false)&&(aheadM l m&&(pickK 4 m l).all plainOp)))))))
section
variable {P:Program} {C:World→Prop} {Q:Exit→Act→World→Prop}
theorem aheadM_spec {l:List Oper} {m:List Nat} (hA:aheadM l m=true) {listed:Array Bool} {i j:Nat} {oi oj:Oper} (hcl:Closed l.toArray listed) (hj:j∈Region.ready .any l.toArray listed) (hkj:2≤kd4 m j) (hoj:l[j]?=some oj)
 (hki:kd4 m i<2) (hoi:l[i]?=some oi) (hun:listed.getD i true=false):plainOp oi=true∧(kd4 m i=0→kd4 m j=2→mildOp oj=true):=by
 have hjl:j<l.length:=(List.getElem?_eq_some_iff.1 hoj).1;have hil:i<l.length:=(List.getElem?_eq_some_iff.1 hoi).1
 have hno: ¬ listed.getD i false=true:=fun h=>by
  rcases Nat.lt_or_ge i listed.size with h'|h'
  ·simp [h'] at h hun;rw [h] at hun;cases hun
  ·simp [Array.getElem?_eq_none h'] at h
 have h1:=List.all_eq_true.1 hA j (List.mem_range.2 hjl);simp only [show ¬ kd4 m j<2 by omega,decide_false,Bool.false_or] at h1;have h2:=List.all_eq_true.1 h1 i (List.mem_range.2 hil);simp only [show ¬ 2≤kd4 m i by omega,decide_false,Bool.false_or,Bool.or_eq_true,Bool.and_eq_true,decide_eq_true_eq,hoi,hoj,Option.map_some,Option.getD_some] at h2;rcases h2 with⟨h2,h3⟩|h2
 ·refine⟨h2,fun h0 h4=>?_⟩;rcases h3 with(h3|h3)|h3
  ·omega
  ·omega
  ·exact h3
 ·exact absurd (reachA_spec hcl (up_ready hj) 40 i h2) hno
theorem kd4_le {m:List Nat} (h:(m.all fun k=>decide (k≤4))=true) (i:Nat):kd4 m i≤3:=by
 unfold kd4;split
 ·omega
 ·rename_i h4;unfold kindM at*
  cases he:m[i]? with
  |none=>simp
  |some k=>
   have:=List.all_eq_true.1 h k (List.mem_of_getElem? he);rw [he] at h4;simp at this h4 ⊢;omega
theorem chain4_mix {ops:Array Oper} {m:List Nat} (S:Shape ops (kd4 m)) (hN: ∀ e a w,Q e a w→e= .normal) (hC: ∀ w w',C w→Below w.heap.size w w'→C w') (hk3: ∀ i,kd4 m i≤3): ∀ (ts:List Nat) (listed:Array Bool) (a:Act) (w:World),(∀ t∈ts,2≤kindM m t)→Closed ops listed→chain4 ops m ts listed=true→
 wpTail4 P ops C Q (ts.filterMap fun t=>(ops[t]?).map fun o=>(kindM m t,o)) a w→wpMix P ops C Q (kd4 m) ts.length listed a w
 |[],listed,a,w,hl,hcl,hc,h=>⟨by simpa [chain4] using hc,h⟩
 |t::ts,listed,a,w,hl,hcl,hc,h=>by
  simp only [chain4,Bool.and_eq_true] at hc;obtain⟨hc1,hc2⟩:=hc;by_cases h4:kindM m t=4
  ·rw [if_pos h4,Bool.and_eq_true,Bool.and_eq_true] at hc1;obtain⟨hrd,hf,hp⟩:=hc1;have ht:=readyAt_spec hrd;obtain⟨_,o,ho,_⟩:=mem_ready.1 ht;simp only [List.filterMap_cons,ho,Option.map_some] at h;unfold wpTail4 at h;rw [if_pos h4] at h;have hk1:kd4 m t=1:=by unfold kd4;rw [if_pos h4]
   have c1:cls C 1=fun _=>True:=by funext w;simp [cls]
   rw [←c1] at h;have hst:qOp P ops (cls C 1) t (wpQuiet P ops (cls C 1) (fun a'=>wpTail4 P ops C Q (ts.filterMap fun t=>(ops[t]?).map fun o=>(kindM m t,o)) a' w) []) a:=by unfold qOp;simp only [ho];exact h
   obtain⟨v,hy,hK⟩:=yieldsIn_of_qOp ho hst;have hpl:plainOp o=true:=by rw [ho] at hp;simpa using hp
   rw [←hk1] at hy;exact mix_first S hN hC ho (by omega) hpl ts.length listed a w (fun h=>by omega) hcl (Region.free_spec ho hf) ht hy (chain4_mix S hN hC hk3 ts _ _ w (fun t ht=>hl t (by simp [ht])) (closed_set hcl ht) hc2 hK)
  ·rw [if_neg h4] at hc1;have hc1:=of_decide_eq_true hc1;refine⟨fun h0=>(by rw [hc1] at h0;cases h0),fun i hi=>?_⟩;have hit:=hi;rw [hc1,List.mem_singleton] at hi;subst hi;obtain⟨_,o,ho,_⟩:=mem_ready.1 hit;have hki:=hl i (by simp);have hkk:kd4 m i=kindM m i:=by unfold kd4;rw [if_neg h4]
   simp only [List.filterMap_cons,ho,Option.map_some] at h;unfold wpTail4 at h;rw [if_neg h4] at h;by_cases h2:kd4 m i=2
   ·rw [if_pos h2];exact wpOp_split ho h fun a' w' _ h3=>chain4_mix S hN hC hk3 ts _ a' w' (fun t ht=>hl t (by simp [ht])) (closed_set hcl hit) hc2 h3
   ·have h3:kd4 m i=3:=by have:=hk3 i;omega
    rw [if_neg h2,if_pos h3];exact wpOp_split ho h fun a' w' hC' h5=>⟨hC' (by omega),chain4_mix S hN hC hk3 ts _ a' w' (fun t ht=>hl t (by simp [ht])) (closed_set hcl hit) hc2 h5⟩
theorem chain4_pre {D:World→Prop} {ops:Array Oper} {m:List Nat} (S:Shape ops (kd4 m)) (hN: ∀ e a w,Q e a w→e= .normal) (hC: ∀ w w',C w→Below w.heap.size w w'→C w') (hk3: ∀ i,kd4 m i≤3) (ts:List Nat) (listed:Array Bool) (a:Act) (hl: ∀ t∈ts,2≤kindM m t) (hcl:Closed ops listed) (hh:headM m ts=true) (hc:chain4 ops m ts listed=true)
 (h: ∀ w,D w→wpTail4 P ops C Q (ts.filterMap fun t=>(ops[t]?).map fun o=>(kindM m t,o)) a w):wpPre P ops C D Q (kd4 m) ts.length listed a:=by
 cases ts with
 |nil=>exact⟨by simpa [chain4] using hc,h⟩
 |cons t ts=>
  have hc':=hc;have h4:kindM m t≠4:=by simpa [headM] using hh
  simp only [chain4,Bool.and_eq_true,if_neg h4,decide_eq_true_eq] at hc;refine⟨fun h0=>(by rw [hc.1] at h0;cases h0),fun i hi=>?_⟩;have hit:=hi;rw [hc.1,List.mem_singleton] at hit;subst hit;have hki:=hl i (by simp);have hkk:kd4 m i=kindM m i:=by unfold kd4;rw [if_neg h4]
  by_cases h2:kd4 m i=2
  ·rw [if_pos h2];intro w hw;have:=(chain4_mix (C:=C) S hN hC hk3 (i::ts) listed a w hl hcl hc' (h w hw)).2 i hi
   rwa [if_pos h2] at this
  ·have h3:kd4 m i=3:=by have:=hk3 i;omega
   rw [if_neg h2,if_pos h3];intro w hw;have:=(chain4_mix (C:=C) S hN hC hk3 (i::ts) listed a w hl hcl hc' (h w hw)).2 i hi
   rwa [if_neg h2,if_pos h3] at this
theorem wp_region_lateC (Cl:World→Prop) (m:List Nat) {id:Nat} {a:Act} {w:World} {l:List Oper} {Q:Exit→Act→World→Prop} (hm:P.follows .mixedOrders =true) (hB:lateM l m=true) (hC0:Cl {w with drawn:=w.drawn+1}) (hC: ∀ w1 w2,Cl w1→Below w1.heap.size w1 w2→Cl w2)
 (h: ∀ C:World→Prop,(C=Cl)→wpQuiet P l.toArray C (fun a1=> ∀ C':World→Prop,(C'=fun _=>True)→wpQuiet P l.toArray C' (fun a'=> ∀ w',w'={w with drawn:=w.drawn+1}→
   wpTail4 P l.toArray Cl (Exit.then (fun a w=>Q .normal a w) (fun _ _ _=>False)) (pickT m l) a' w') (pickK 1 m l) a1) (pickK 0 m l) a):(Code.region id l.toArray true).wp P Q a w:=by
 unfold lateM at hB;simp only [Bool.and_eq_true,decide_eq_true_eq] at hB;obtain⟨hs,hlen,hf1,hf0,hk4,hh,hlex,hA,hf4⟩:=hB;have hk3:=kd4_le hk4;have hDC: ∀ w',w'=({w with drawn:=w.drawn+1}:World)→Cl w':=fun w' h=>by subst h;exact hC0
 have hD0:({w with drawn:=w.drawn+1}:World)=({w with drawn:=w.drawn+1}:World):=rfl
 have key: ∀ (k:Nat) (i:Nat) (oi:Oper),kindM m i=k→l.toArray[i]?=some oi→(pickK k m l).all plainOp=true→plainOp oi=true:=fun k i oi hk ho hp=>by
  have hil:i<l.length:=by have:=(Array.getElem?_eq_some_iff.1 ho).1;simpa using this
  exact free_of k m l hlen hp i oi (by rw [List.getElem?_eq_getElem (by omega)];simpa [kindM,List.getElem?_eq_getElem (show i<m.length by omega)] using hk) (by simpa using ho)
 have hDp':(fun w'=>w'=({w with drawn:=w.drawn+1}:World))≠Cl→ ∀ i oi,kd4 m i=0→l.toArray[i]?=some oi→plainOp oi=true:=fun h i oi hk ho=>by
  refine key 0 i oi ?_ ho hf0;unfold kd4 at hk;split at hk
  ·cases hk
  ·exact hk
 have S:Shape l.toArray (kd4 m):=⟨hs,fun listed i j oi oj hcl hj hlj hoj hli hoi hun=>aheadM_spec hA hcl hj hlj (by simpa using hoj) hli (by simpa using hoi) hun,fun i oi h1 h2=>by
  unfold kd4 at h1;split at h1
  ·rename_i h4;exact key 4 i oi h4 h2 hf4
  ·exact key 1 i oi h1 h2 hf1⟩
 have hN: ∀ e a w,(Exit.then (fun a w=>Q .normal a w) (fun _ _ _=>False)) e a w→e= .normal :=fun e a w h=>by cases e<;>first|rfl|exact h.elim
 have e0:(idxK 0 m 0).filterMap (fun t=>l.toArray[t]?)=pickK 0 m l:=idxK_pick 0 m 0 l _ hlen (by simp);have e1:(idxK 1 m 0).filterMap (fun t=>l.toArray[t]?)=pickK 1 m l:=idxK_pick 1 m 0 l _ hlen (by simp);have e2:(idxT m 0).filterMap (fun t=>(l.toArray[t]?).map fun o=>(kindM m t,o))=pickT m l:=idxT_pick m 0 l _ _ hlen (by simp) (fun j k h=>by simp [kindM,h]);have h0:=h _ rfl;rw [←e0] at h0;have c0:cls Cl 0=Cl:=by funext w;simp [cls]
 have c1:cls Cl 1=fun _=>True:=by funext w;simp [cls]
 have hkd: ∀ k t,k<2→t∈idxK k m 0→kd4 m t=k:=fun k t hk ht=>by
  have:=idxK_kind ht;unfold kd4;rw [if_neg (by omega)];exact this
 have h1:=pre_lex (C:=Cl) (D:=fun w'=>w'=({w with drawn:=w.drawn+1}:World)) (kd:=kd4 m) hDC hDp' S hN hC 0 (by omega) _ ((idxK 1 m 0).length +(idxT m 0).length)
  (fun a1=> ∀ C':World→Prop,(C'=fun _=>True)→wpQuiet P l.toArray C' (fun a'=> ∀ w',w'=({w with drawn:=w.drawn+1}:World)→wpTail4 P l.toArray Cl (Exit.then (fun a w=>Q .normal a w) (fun _ _ _=>False)) (pickT m l) a' w') (pickK 1 m l) a1)
  (fun listed a1 hcl hc hq=>by
    have hq:=hq _ rfl;rw [←e1,←c1] at hq;refine pre_lex (C:=Cl) (D:=fun w'=>w'=({w with drawn:=w.drawn+1}:World)) (kd:=kd4 m) hDC hDp' S hN hC 1 (by omega) _ _ _ (fun listed a' hcl hc hq=>?_) _ listed a1 (fun t ht=>hkd 1 t (by omega) ht) hcl hc hq;rw [←e2] at hq;exact chain4_pre S hN hC hk3 _ _ _ (fun t ht=>idxT_kind ht) hcl hh hc hq)
  (idxK 0 m 0) (Array.replicate l.length false) a (fun t ht=>hkd 0 t (by omega) ht) (closed_none _) hlex (by rw [c0];exact h0)
 rw [idxT_len m 0,hlen] at h1;have h2:=any_of_pre (C:=Cl) hDC S hC l.toArray.size (Array.replicate l.length false) a {w with drawn:=w.drawn+1} (by simp) (closed_none _) hD0 (by simpa using h1);refine Code.wp_mono (fun e a w h=>?_) (wp_region_any hm (by simpa using h2));cases e<;>first|exact h|exact h.elim
theorem wp_region_lateM (N:Nat) (m:List Nat) {id:Nat} {a:Act} {w:World} {l:List Oper} {Q:Exit→Act→World→Prop} (hm:P.follows .mixedOrders =true) (hB:lateM l m=true) (hN':N≤w.heap.size)
 (h: ∀ C:World→Prop,(C=fun w'=>Below N w w')→wpQuiet P l.toArray C (fun a1=> ∀ C':World→Prop,(C'=fun _=>True)→wpQuiet P l.toArray C' (fun a'=> ∀ w',w'={w with drawn:=w.drawn+1}→
   wpTail4 P l.toArray (fun w'=>Below N w w') (Exit.then (fun a w=>Q .normal a w) (fun _ _ _=>False)) (pickT m l) a' w') (pickK 1 m l) a1) (pickK 0 m l) a):(Code.region id l.toArray true).wp P Q a w:=
 wp_region_lateC (fun w'=>Below N w w') m hm hB ⟨rfl,rfl,rfl,Nat.le_refl _,fun _ _=>rfl⟩ (fun w1 w2 h1 h2=>h1.trans (h2.mono (Nat.le_trans hN' h1.size))) h
theorem wpTail4_one {ops:Array Oper} {k:Nat} {o:Oper} {rest:List (Nat×Oper)} {a:Act} {w:World} (hk:k≠4) (h:wpList P ops (Exit.then (fun a' w'=>(k=3→C w')∧wpTail4 P ops C Q rest a' w') Q) [o] a w):wpTail4 P ops C Q ((k,o)::rest) a w:=by
 unfold wpTail4;rw [if_neg hk];simp only [wpList] at h;split
 ·rename_i hw;simp only [hw,if_true] at h;refine h.imp (fun h=>?_) (fun h=>⟨h.1,?_⟩)
  ·unfold Oper.wp at*;generalize (execOp a.eval o).run P w=r at*
   cases r with
   |ok n w'=>
    cases n<;>simp only [Oper.upon] at h ⊢ <;>exact h
   |halt x w'=>cases x<;>simp only [Oper.upon] at h ⊢ <;>exact h
  ·obtain⟨a,w,h⟩:=h.2;exact⟨a,w,h⟩
 ·rename_i hw;simp only [hw] at h;exact h
theorem wpTail4_quiet {ops:Array Oper} {o:Oper} {rest:List (Nat×Oper)} {a:Act} {w:World} (h: ∀ C':World→Prop,(C'=fun _=>True)→wpQuiet P ops C' (fun a'=>wpTail4 P ops C Q rest a' w) [o] a):wpTail4 P ops C Q ((4,o)::rest) a w:=by
 unfold wpTail4;rw [if_pos rfl];exact h _ rfl
theorem wpTail4_list {ops:Array Oper}: ∀ (l:List (Nat×Oper)) (a:Act) (w:World),(∀ p∈l,p.1=2)→wpList P ops Q (l.map (·.2)) a w→wpTail4 P ops C Q l a w
 |[],a,w,_,h=>h
 |(k,o)::rest,a,w,hk,h=>by
  have h3:k=2:=hk (k,o) (by simp);simp only [List.map_cons,wpList] at h;unfold wpTail4;rw [if_neg (by omega)];split
  ·rename_i hw;simp only [hw,if_true] at h;exact h.imp (Oper.wp_mono fun a' w' h2=>⟨fun h=>by omega,wpTail4_list rest a' w' (fun p hp=>hk p (by simp [hp])) h2⟩) id
  ·rename_i hw;simp only [hw] at h;exact⟨fun h=>by omega,wpTail4_list rest _ _ (fun p hp=>hk p (by simp [hp])) h⟩
end
