/- Merged. -/
import Derived.Test.YtechdefolfboeaaGreatDoorPo30
set_option linter.unusedVariables false
set_option linter.unusedSimpArgs false
set_option maxRecDepth 100000
set_option maxHeartbeats 8000000
namespace Go.Proofs.YtechdefolfboeaaGreatDoor
open Go.RowKit B K
theorem info_tRn:(Tryz.prog.info? 47).map (fun i=>(i.zero,i.size,i.bytes))=some (some (.agg #[.int .i64 0,.int .i64 0,.slice none 0 0,.slice none 0 0]),4,64):=by kernel_rfl
def Row64 (base:Nat) (w:World) (v:SlV) (l:List Int):Prop:=w.ownsRow base 2 1 v.v l.length (l.flatMap (numE .i64))
structure RunO (base:Nat) (w:World) (e:RnE) (r:RunP):Prop where
 trip:e.1=r.trip
 no:e.2.1=r.no
 arr:Row64 base w e.2.2.1 r.arr
 dep:Row64 base w e.2.2.2 r.dep
def RunsO (base:Nat) (w:World) (v:Value) (L:List RunP):Prop:= ∃ E:List RnE,w.ownsRow base 47 4 v E.length (E.flatMap rnE)∧RowsG (RunO base) w E L
section
variable {base:Nat} {w w':World} {v:Value} {L:List RunP}
theorem Row64.rd {v:SlV} {l:List Int} (h:Row64 base w v l): ∃ A c,v=(A,l.length,c)∧Rd w 1 (numE .i64) A l.length l∧l.length≤c∧c≤9223372036854775807:=by
 obtain⟨A,n,c⟩:=v;obtain⟨A',c',e,r1,r2,r3⟩:=Rd.of_own num_len rfl h
 injection e with e1 e2 e3
 subst e1 e2 e3;exact⟨_,_,rfl,r1,r2,r3⟩
theorem RunO.t {e:RnE} {r:RunP} (h:RunO base w e r):RunT w e r:=by
 obtain⟨A1,c1,e1,r1,r2,r3⟩:=h.arr.rd;obtain⟨A2,c2,e2,s1,s2,s3⟩:=h.dep.rd;refine⟨h.trip,h.no,?_,?_,?_,?_⟩<;>first|rw [e1]|rw [e2]
 ·exact r1
 ·exact⟨r2,r3⟩
 ·exact s1
 ·exact⟨s2,s3⟩
theorem RunsO.below (h:RunsO base w v L) (hb:Below w.heap.size w w'):RunsO base w' v L:=by
 obtain⟨E,h1,h2⟩:=h;exact⟨E,own_below h1 hb,h2.up fun e r h=>⟨h.trip,h.no,own_below h.arr hb,own_below h.dep hb⟩⟩
theorem RunsO.nil:RunsO base w (.slice none 0 0) []:=⟨[],World.ownsRow_nil _ _ _ _,RowsG.nil⟩
theorem RunsO.rd (h:RunsO base w v L): ∃ A c,v= .slice A L.length c∧RRuns w A L.length L∧L.length≤c∧c≤9223372036854775807:=by
 obtain⟨E,h1,h2⟩:=h;obtain⟨A,c,e,r1,r2,r3⟩:=Rd.of_own rnE_len rfl h1;rw [h2.len] at e r1 r2;exact⟨A,c,e,⟨⟨E,r1,⟨h2.len,fun k e r he hr=>(h2.at_ k e r he hr).t⟩⟩⟩,r2,r3⟩
theorem RunO.kept {e:RnE} {r:RunP} {n:Nat} {xs:List Value} (hv:w.ownsRow base 47 4 v n xs) (hg:w.grownBy w' v.ownBlock) (h:RunO base w e r):RunO base w' e r:=by
 have key: ∀ {s:SlV} {l:List Int},Row64 base w s l→Row64 base w' s l:=fun {s l} h3=>by
  refine World.ownsRow.kept h3 hg ?_
  cases hq:s.v.ownBlock with
  |none=>exact .inl rfl
  |some q=>exact .inr fun h0=>own_ne hv h3 (k:=q) (by decide) hq h0
 exact⟨h.trip,h.no,key h.arr,key h.dep⟩
theorem RunsO.add (h:RunsO base w v L) {e:RnE} {r:RunP} (he:RunO base w e r) (hlen:L.length+1≤1099511627776) (hB:base≤w.heap.size):
 ∃ v' w1,(Builtin.append_ #[32,32] 32 #[v,.slice (some ⟨w.heap.size,0,none⟩) 1 1]).run Tryz.prog (w.alloc (.cells (rnE e).toArray 47))= .ok v' w1∧RunsO base w1 v' (L++[r])∧Below base w w1:=by
 obtain⟨E,h1,h2⟩:=h;obtain⟨g,c,w1,hrun,own1,hgr,hnew⟩:=append_one (enc:=rnE) Tryz.underlying32 info_tRn rfl (by decide) rnE_len rnE_one w base v E e h1 (by rw [h2.len];omega) (by decide) hB;have ha:=(Below.refl w.heap.size w).alloc (Nat.le_refl _) (.cells (rnE e).toArray 47);have hb1:Below base w w1:=(ha.mono hB).grown hgr (Nat.le_trans hB ha.size) (fun k hk=>(h1.lt k hk).1);refine⟨_,w1,hrun,⟨E++[e],by rw [List.length_append] at own1 ⊢;exact own1,RowsG.snoc (h2.up fun e r h=>?_) ?_⟩,hb1⟩
 ·exact RunO.kept (own_below h1 ha) hgr ⟨h.trip,h.no,own_below h.arr ha,own_below h.dep ha⟩
 ·exact RunO.kept (own_below h1 ha) hgr ⟨he.trip,he.no,own_below he.arr ha,own_below he.dep ha⟩
theorem RunsO.app {w0:World} {A:Option Addr} {m:Nat} (c:Nat) {Q:List RunP} (h:RunsO base w v L) (hQ:RRuns w0 A m Q) (hb:Below w0.heap.size w0 w) (h0:w0.heap.size≤base) (hlen:L.length+m≤1099511627776) (hB:base≤w.heap.size):
 ∃ v' w1,(Builtin.append_ #[32,32] 32 #[v,.slice A m c]).run Tryz.prog w= .ok v' w1∧(∃ A' c',v'= .slice A' (L++Q).length c'∧RRuns w1 A' (L++Q).length (L++Q))∧Below base w w1:=by
 obtain⟨E,h1,h2⟩:=h;obtain⟨F,k1,k2⟩:=hQ.ex;obtain⟨v',w1,hrun,own1,hgr,hnew⟩:=own_append (enc:=rnE) Tryz.underlying32 info_tRn rfl (by decide) rnE_len rnE_one c h1 (k1.below hb) (by rw [h2.len];omega) (by decide) hB;have hb1:Below base w w1:=(Below.refl base w).grown hgr hB (fun k hk=>(h1.lt k hk).1);have hm:F.length=m:=k1.len;have hQl:=hQ.len;refine⟨v',w1,hrun,?_,hb1⟩;rw [←hm,←List.length_append] at own1;obtain⟨A',c',e,r1,r2,r3⟩:=Rd.of_own rnE_len rfl own1;have hle:(E++F).length =(L++Q).length :=by rw [List.length_append,List.length_append,h2.len,hm,hQl]
 rw [hle] at e r1;refine⟨A',c',e,⟨⟨E++F,r1,⟨hle,fun k e r he hr=>?_⟩⟩⟩⟩;rcases Nat.lt_or_ge k E.length with hk|hk
 ·rw [List.getElem?_append_left hk] at he;rw [List.getElem?_append_left (by rw [←h2.len];exact hk)] at hr;exact(RunO.kept h1 hgr (h2.at_ k e r he hr)).t
 ·rw [List.getElem?_append_right hk] at he;rw [List.getElem?_append_right (by rw [←h2.len];exact hk),←h2.len] at hr;exact(k2.at_ _ e r he hr).below (hb.trans (hb1.mono h0))
end
theorem kSameI_any (A:Option Addr) (n c:Nat) (l:List Int) (A':Option Addr) (n' c':Nat) (l':List Int) (w:World) (hr:Rd w 1 (numE .i64) A n l) (hr':Rd w 1 (numE .i64) A' n' l') (hn:n≤1099511627776) (hn':n'≤1099511627776):
 Calls Tryz.prog 46 #[.slice A n c,.slice A' n' c'] w fun e w'=>e= .returned (.bool (decide (l=l')))∧Below w.heap.size w w':=by
 go_enter Tryz.func46,Tryz.ntmps46;by_cases hnn:n=n'
 ·subst hnn
  go_wp2
  go_loopw [5] (fun i wr=> ∃ (k:Nat),k≤n∧i= .int .i64 k∧Below w.heap.size w wr∧Hid (l.take k=l'.take k)) (fun i _=>n-(intOf i).toNat)
  case atStart=>exact⟨0,Nat.zero_le _,rfl,Below.refl _ _,rfl⟩
  case round=>
   obtain⟨k,hk,rfl,hb,heq⟩:=hrel;by_cases hlt:k<n
   ·obtain⟨b,o,x1,rfl,hbs,hl,hc⟩:=(hr.below hb).get hlt;obtain⟨b',o',y1,rfl,hbs',hl',hc'⟩:=(hr'.below hb).get hlt;have g0:=hc 0 _ rfl;have f0:=hc' 0 _ rfl;simp only [Nat.add_zero,Nat.mul_one] at g0 f0;have hl:=H_ hl;have hl':=H_ hl';rename_i hx1 hx2;clear hx1 hx2 hc hc';have hlt2:(k:Int)<(n:Int):=by omega
    by_cases e1:x1=y1
    ·subst e1
     go_wp2
     go_quiet (fail)
     go_wp2
     go_roundw
     case rel=>exact⟨k+1,by omega,by go_num,below_drewN' hb _,by show _=_;rw [take_at hl.out,take_at hl'.out,heq.out]⟩
     case measure=>simp [intOf];omega
    ·have hn:(x1==y1)=false:=by simp [e1]
     have hll:Hid (l≠l'):=by
      intro e;have:=hl.out;rw [e,hl'.out] at this;exact e1 (Option.some.inj this).symm
     clear e1
     go_wp2
     go_quiet (fail)
     go_wp2
     go_returns;exact⟨ret_bool (by symm;rw [decide_eq_false_iff_not];exact hll.out),below_drewN' hb _⟩
   ·go_wp2
    go_returns;exact⟨ret_bool (by symm;rw [decide_eq_true_eq];have:=heq.out;rwa [List.take_of_length_le (by rw [hr.len];omega),List.take_of_length_le (by rw [hr'.len];omega)] at this),hb⟩
 ·have hne:((n:Int) !=(n':Int))=true:=by simp;omega
  go_wp2
  go_returns;exact⟨ret_bool (by symm;rw [decide_eq_false_iff_not];intro e;exact hnn (by rw [←hr.len,←hr'.len,e])),Below.refl _ _⟩
