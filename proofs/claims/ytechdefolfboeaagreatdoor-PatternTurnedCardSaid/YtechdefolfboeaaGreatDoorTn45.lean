/- Texts of one chain, merged. -/
import Derived.Test.YtechdefolfboeaaGreatDoorTn5
import Derived.Test.YtechdefolfboeaaGreatDoorTn14
import Derived.Test.YtechdefolfboeaaGreatDoorTn15
import Derived.Test.YtechdefolfboeaaGreatDoorTn39
import Derived.Test.YtechdefolfboeaaGreatDoorTn42
namespace Go.Proofs.YtechdefolfboeaaGreatDoor
open Go.RowKit B K
set_option linter.unusedVariables false
set_option linter.unusedSimpArgs false
set_option maxRecDepth 100000
set_option maxHeartbeats 2000000
theorem kSameI_any (A:Option Addr) (n c:Nat) (l:List Int) (A':Option Addr) (n' c':Nat) (l':List Int) (w:World) (hr:Rd w 1 (numE .i64) A n l) (hr':Rd w 1 (numE .i64) A' n' l') (hn:n≤1099511627776) (hn':n'≤1099511627776):
 Calls Tryz.prog 46 #[.slice A n c,.slice A' n' c'] w fun e w'=>e= .returned (.bool (decide (l=l')))∧Below w.heap.size w w':=by
 go_enter Tryz.func46,Tryz.ntmps46
 by_cases hnn:n=n'
 ·subst hnn
  go_wp2
  go_loopw [5] (fun i wr=> ∃ (k:Nat),k≤n∧i= .int .i64 k∧Below w.heap.size w wr∧Hid (l.take k=l'.take k)) (fun i _=>n-(intOf i).toNat)
  case atStart=>exact⟨0,Nat.zero_le _,rfl,Below.refl _ _,rfl⟩
  case round=>
   obtain⟨k,hk,rfl,hb,heq⟩:=hrel
   by_cases hlt:k<n
   ·obtain⟨b,o,x1,rfl,hbs,hl,hc⟩:=(hr.below hb).get hlt
    obtain⟨b',o',y1,rfl,hbs',hl',hc'⟩:=(hr'.below hb).get hlt
    have g0:=hc 0 _ rfl
    have f0:=hc' 0 _ rfl
    simp only [Nat.add_zero,Nat.mul_one] at g0 f0
    have hl:=Lib.hid hl
    have hl':=Lib.hid hl'
    rename_i hx1 hx2;clear hx1 hx2 hc hc'
    have hlt2:(k:Int)<(n:Int):=by omega
    by_cases e1:x1=y1
    ·subst e1
     go_wp2
     go_quiet (fail)
     go_wp2
     go_roundw
     case rel=>exact⟨k+1,by omega,by go_num,below_drewN' hb _,by show _=_;rw [take_at hl.out,take_at hl'.out,heq.out]⟩
     case measure=>simp [intOf];omega
    ·have hn:(x1==y1)=false:=by simp [e1]
     have hll:Hid (l≠l'):=by
      intro e
      have:=hl.out;rw [e,hl'.out] at this
      exact e1 (Option.some.inj this).symm
     clear e1
     go_wp2
     go_quiet (fail)
     go_wp2
     go_returns
     exact⟨ret_bool (by symm;rw [decide_eq_false_iff_not];exact hll.out),below_drewN' hb _⟩
   ·go_wp2
    go_returns
    exact⟨ret_bool (by symm;rw [decide_eq_true_eq];have:=heq.out;rwa [List.take_of_length_le (by rw [hr.len];omega),List.take_of_length_le (by rw [hr'.len];omega)] at this),hb⟩
 ·have hne:((n:Int) !=(n':Int))=true:=by simp;omega
  go_wp2
  go_returns
  exact⟨ret_bool (by symm;rw [decide_eq_false_iff_not];intro e;exact hnn (by rw [←hr.len,←hr'.len,e])),Below.refl _ _⟩
theorem kSame64_any (A:Option Addr) (n c:Nat) (l:List Int) (A':Option Addr) (n' c':Nat) (l':List Int) (w:World) (hr:Rd w 1 (numE .i64) A n l) (hr':Rd w 1 (numE .i64) A' n' l') (hn:n≤1099511627776) (hn':n'≤1099511627776):
 Calls Tryz.prog 85 #[.slice A n c,.slice A' n' c'] w fun e w'=>e= .returned (.bool (decide (l=l')))∧Below w.heap.size w w':=by
 go_enter Tryz.func85,Tryz.ntmps85
 by_cases hnn:n=n'
 ·subst hnn
  go_wp2
  go_loopw [5] (fun i wr=> ∃ (k:Nat),k≤n∧i= .int .i64 k∧Below w.heap.size w wr∧Hid (l.take k=l'.take k)) (fun i _=>n-(intOf i).toNat)
  case atStart=>exact⟨0,Nat.zero_le _,rfl,Below.refl _ _,rfl⟩
  case round=>
   obtain⟨k,hk,rfl,hb,heq⟩:=hrel
   by_cases hlt:k<n
   ·obtain⟨b,o,x1,rfl,hbs,hl,hc⟩:=(hr.below hb).get hlt
    obtain⟨b',o',y1,rfl,hbs',hl',hc'⟩:=(hr'.below hb).get hlt
    have g0:=hc 0 _ rfl
    have f0:=hc' 0 _ rfl
    simp only [Nat.add_zero,Nat.mul_one] at g0 f0
    have hl:=Lib.hid hl
    have hl':=Lib.hid hl'
    rename_i hx1 hx2;clear hx1 hx2 hc hc'
    have hlt2:(k:Int)<(n:Int):=by omega
    by_cases e1:x1=y1
    ·subst e1
     go_wp2
     go_quiet (fail)
     go_wp2
     go_roundw
     case rel=>exact⟨k+1,by omega,by go_num,below_drewN' hb _,by show _=_;rw [take_at hl.out,take_at hl'.out,heq.out]⟩
     case measure=>simp [intOf];omega
    ·have hn:(x1==y1)=false:=by simp [e1]
     have hll:Hid (l≠l'):=by
      intro e
      have:=hl.out;rw [e,hl'.out] at this
      exact e1 (Option.some.inj this).symm
     clear e1
     go_wp2
     go_quiet (fail)
     go_wp2
     go_returns
     exact⟨ret_bool (by symm;rw [decide_eq_false_iff_not];exact hll.out),below_drewN' hb _⟩
   ·go_wp2
    go_returns
    exact⟨ret_bool (by symm;rw [decide_eq_true_eq];have:=heq.out;rwa [List.take_of_length_le (by rw [hr.len];omega),List.take_of_length_le (by rw [hr'.len];omega)] at this),hb⟩
 ·have hne:((n:Int) !=(n':Int))=true:=by simp;omega
  go_wp2
  go_returns
  exact⟨ret_bool (by symm;rw [decide_eq_false_iff_not];intro e;exact hnn (by rw [←hr.len,←hr'.len,e])),Below.refl _ _⟩
end Go.Proofs.YtechdefolfboeaaGreatDoor
namespace Go.Proofs.YtechdefolfboeaaGreatDoor
open Go.RowKit B K
set_option linter.unusedVariables false
set_option linter.unusedSimpArgs false
set_option maxRecDepth 100000
set_option maxHeartbeats 2000000
theorem info_tRn:(Tryz.prog.info? 47).map (fun i=>(i.zero,i.size,i.bytes))=some (some (.agg #[.int .i64 0,.int .i64 0,.slice none 0 0,.slice none 0 0]),4,64):=by kernel_rfl
def Row64 (base:Nat) (w:World) (v:SlV) (l:List Int):Prop:=w.ownsRow base 2 1 v.v l.length (l.flatMap (numE .i64))
structure RunO (base:Nat) (w:World) (e:RnE) (r:RunP):Prop where
 trip:e.1=r.trip
 no:e.2.1=r.no
 arr:Row64 base w e.2.2.1 r.arr
 dep:Row64 base w e.2.2.2 r.dep
def RunsO (base:Nat) (w:World) (v:Value) (L:List RunP):Prop:= ∃ E:List RnE,w.ownsRow base 47 4 v E.length (E.flatMap rnE)∧RowsG (RunO base) w E L
section
variable {base:Nat} {w w':World} {v:Value} {L:List RunP}
theorem Row64.rd {v:SlV} {l:List Int} (h:Row64 base w v l): ∃ A c,v=(A,l.length,c)∧Rd w 1 (numE .i64) A l.length l∧l.length≤c∧c≤9223372036854775807:=by
 obtain⟨A,n,c⟩:=v
 obtain⟨A',c',e,r1,r2,r3⟩:=Rd.of_own num_len rfl h
 injection e with e1 e2 e3
 subst e1 e2 e3
 exact⟨_,_,rfl,r1,r2,r3⟩
theorem RunO.t {e:RnE} {r:RunP} (h:RunO base w e r):RunT w e r:=by
 obtain⟨A1,c1,e1,r1,r2,r3⟩:=h.arr.rd
 obtain⟨A2,c2,e2,s1,s2,s3⟩:=h.dep.rd
 refine⟨h.trip,h.no,?_,?_,?_,?_⟩<;>first|rw [e1]|rw [e2]
 ·exact r1
 ·exact⟨r2,r3⟩
 ·exact s1
 ·exact⟨s2,s3⟩
theorem RunsO.below (h:RunsO base w v L) (hb:Below w.heap.size w w'):RunsO base w' v L:=by
 obtain⟨E,h1,h2⟩:=h
 exact⟨E,own_below h1 hb,h2.up fun e r h=>⟨h.trip,h.no,own_below h.arr hb,own_below h.dep hb⟩⟩
theorem RunsO.nil:RunsO base w (.slice none 0 0) []:=⟨[],World.ownsRow_nil _ _ _ _,RowsG.nil⟩
theorem RunsO.rd (h:RunsO base w v L): ∃ A c,v= .slice A L.length c∧RRuns w A L.length L∧L.length≤c∧c≤9223372036854775807:=by
 obtain⟨E,h1,h2⟩:=h
 obtain⟨A,c,e,r1,r2,r3⟩:=Rd.of_own rnE_len rfl h1
 rw [h2.len] at e r1 r2
 exact⟨A,c,e,⟨⟨E,r1,⟨h2.len,fun k e r he hr=>(h2.at_ k e r he hr).t⟩⟩⟩,r2,r3⟩
theorem RunO.kept {e:RnE} {r:RunP} {n:Nat} {xs:List Value} (hv:w.ownsRow base 47 4 v n xs) (hg:w.grownBy w' v.ownBlock) (h:RunO base w e r):RunO base w' e r:=by
 have key: ∀ {s:SlV} {l:List Int},Row64 base w s l→Row64 base w' s l:=fun {s l} h3=>by
  refine World.ownsRow.kept h3 hg ?_
  cases hq:s.v.ownBlock with
  |none=>exact .inl rfl
  |some q=>exact .inr fun h0=>own_ne hv h3 (k:=q) (by decide) hq h0
 exact⟨h.trip,h.no,key h.arr,key h.dep⟩
theorem RunsO.add (h:RunsO base w v L) {e:RnE} {r:RunP} (he:RunO base w e r) (hlen:L.length+1≤1099511627776) (hB:base≤w.heap.size):
 ∃ v' w1,(Builtin.append_ #[32,32] 32 #[v,.slice (some ⟨w.heap.size,0,none⟩) 1 1]).run Tryz.prog (w.alloc (.cells (rnE e).toArray 47))= .ok v' w1∧RunsO base w1 v' (L++[r])∧Below base w w1:=by
 obtain⟨E,h1,h2⟩:=h
 obtain⟨g,c,w1,hrun,own1,hgr,hnew⟩:=append_one (enc:=rnE) Tryz.underlying32 info_tRn rfl (by decide) rnE_len rnE_one w base v E e h1 (by rw [h2.len];omega) (by decide) hB
 have ha:=(Below.refl w.heap.size w).alloc (Nat.le_refl _) (.cells (rnE e).toArray 47)
 have hb1:Below base w w1:=(ha.mono hB).grown hgr (Nat.le_trans hB ha.size) (fun k hk=>(h1.lt k hk).1)
 refine⟨_,w1,hrun,⟨E++[e],by rw [List.length_append] at own1 ⊢;exact own1,RowsG.snoc (h2.up fun e r h=>?_) ?_⟩,hb1⟩
 ·exact RunO.kept (own_below h1 ha) hgr ⟨h.trip,h.no,own_below h.arr ha,own_below h.dep ha⟩
 ·exact RunO.kept (own_below h1 ha) hgr ⟨he.trip,he.no,own_below he.arr ha,own_below he.dep ha⟩
theorem RunsO.app {w0:World} {A:Option Addr} {m:Nat} (c:Nat) {Q:List RunP} (h:RunsO base w v L) (hQ:RRuns w0 A m Q) (hb:Below w0.heap.size w0 w) (h0:w0.heap.size≤base) (hlen:L.length+m≤1099511627776) (hB:base≤w.heap.size):
 ∃ v' w1,(Builtin.append_ #[32,32] 32 #[v,.slice A m c]).run Tryz.prog w= .ok v' w1∧(∃ A' c',v'= .slice A' (L++Q).length c'∧RRuns w1 A' (L++Q).length (L++Q))∧Below base w w1:=by
 obtain⟨E,h1,h2⟩:=h
 obtain⟨F,k1,k2⟩:=hQ.ex
 obtain⟨v',w1,hrun,own1,hgr,hnew⟩:=own_append (enc:=rnE) Tryz.underlying32 info_tRn rfl (by decide) rnE_len rnE_one c h1 (k1.below hb) (by rw [h2.len];omega) (by decide) hB
 have hb1:Below base w w1:=(Below.refl base w).grown hgr hB (fun k hk=>(h1.lt k hk).1)
 have hm:F.length=m:=k1.len
 have hQl:=hQ.len
 refine⟨v',w1,hrun,?_,hb1⟩
 rw [←hm,←List.length_append] at own1
 obtain⟨A',c',e,r1,r2,r3⟩:=Rd.of_own rnE_len rfl own1
 have hle:(E++F).length =(L++Q).length :=by rw [List.length_append,List.length_append,h2.len,hm,hQl]
 rw [hle] at e r1
 refine⟨A',c',e,⟨⟨E++F,r1,⟨hle,fun k e r he hr=>?_⟩⟩⟩⟩
 rcases Nat.lt_or_ge k E.length with hk|hk
 ·rw [List.getElem?_append_left hk] at he
  rw [List.getElem?_append_left (by rw [←h2.len];exact hk)] at hr
  exact(RunO.kept h1 hgr (h2.at_ k e r he hr)).t
 ·rw [List.getElem?_append_right hk] at he
  rw [List.getElem?_append_right (by rw [←h2.len];exact hk),←h2.len] at hr
  exact(k2.at_ _ e r he hr).below (hb.trans (hb1.mono h0))
end
theorem own64_any (A:Option Addr) (n c:Nat) (l:List Int) (w:World) (hr:Rd w 1 (numE .i64) A n l) (hn:n≤1099511627776):
 Calls Tryz.prog 75 #[.slice A n c] w fun e w'=> ∃ A m d,e= .returned (.slice A m d)∧Row64 w.heap.size w' (A,m,d) l∧Below w.heap.size w w':=by
 have hln:=hr.len
 obtain⟨v,w1,hrun,own,hg,_⟩:=own_append (enc:=(numE .i64)) Tryz.underlying45 info_tI64 rfl (by decide) num_len num_one c (l:=[]) (own_lit0 w w.heap.size 2 1 (Nat.le_refl _)) (hr.below ((Below.refl _ w).alloc (Nat.le_refl _) _)) (by simpa using hn) (by decide) (by simp)
 have hb:Hid (Below w.heap.size w w1):=((Below.refl _ w).alloc (Nat.le_refl _) _).grown hg (by simp) (fun k hk=>by simp [Value.ownBlock] at hk;omega)
 simp only [List.length_nil,Nat.zero_add,List.nil_append] at hrun own
 have hv: ∃ s:SlV,v=s.v:=by
  obtain⟨A',c',e,_⟩:=Rd.of_own (l:=l) num_len rfl (by rw [hln];exact own)
  exact⟨(A',l.length,c'),e⟩
 obtain⟨s,rfl⟩:=hv
 have own:Hid (Row64 w.heap.size w1 s l):=by show Row64 _ _ _ _;unfold Row64;rw [hln];exact own
 rename_i own0;clear own0 hg hr hln
 go_enter Tryz.func75,Tryz.ntmps75
 go_wp2_with (at_builtin;refine wpList_append_run ?b1 (.tmp 3) (.tmp 4) 45 ?b2 ?b3 ?b4 hrun ?_)
 case b1=>rfl
 case b2=>rfl
 try(case b3=>rfl)
 try(case b4=>rfl)
 go_returns
 exact⟨s.1,s.2.1,s.2.2,rfl,own.out,hb.out⟩
set_option maxHeartbeats 8000000
theorem ownRuns_any (A:Option Addr) (n c:Nat) (L:List RunP) (w:World) (hL:RRuns w A n L) (hn:n≤100000) (hA: ∀ r∈L,r.arr.length≤100000∧r.dep.length≤100000):
 Calls Tryz.prog 28 #[.slice A n c] w fun e w'=> ∃ v,e= .returned v∧RunsO w.heap.size w' v L∧Below w.heap.size w w':=by
 have hAH:=Lib.hid hA
 have hLl:=Lib.hid hL.len
 clear hA
 go_enter Tryz.func28,Tryz.ntmps28
 go_wp2_with fail
 go_loopw [3,4] (fun vo vi wr=> ∃ (i:Nat) (A0:Option Addr) (c0:Nat),i≤n∧vo= .slice A0 i c0∧vi= .int .i64 i∧Hid (RunsO w.heap.size wr (.slice A0 i c0) (L.take i))∧Hid (Below w.heap.size w wr)) (fun _ vi _=>n-(intOf vi).toNat)
 case atStart=>exact⟨0,none,0,Nat.zero_le _,rfl,rfl,by rw [List.take_zero];exact RunsO.nil,Below.refl _ _⟩
 case round=>
  obtain⟨i,A0,c0,hi,rfl,rfl,ho,hbr⟩:=hrel
  by_cases hlt:i<n
  ·have hltI:(i:Int)<(n:Int):=by omega
   obtain⟨b,o,r,A1,n1,c1,A2,n2,c2,rfl,hbs,hr,g0,g1,g2,g3,r1,r2,_,_⟩:=hL.get hlt
   have hrl:=hAH.out r (List.mem_of_getElem? hr)
   have r1H:=Lib.hid r1
   have r2H:=Lib.hid r2
   have hn1:n1≤100000:=by rw [←r1.len];exact hrl.1
   have hn2:n2≤100000:=by rw [←r2.len];exact hrl.2
   have htk:Hid (L.take (i+1)=L.take i++[r]):=take_at hr
   have hle:Hid ((L.take i).length =i):=by show _=_;rw [List.length_take,hLl.out];omega
   clear r1 r2 hr hrl
   go_wp2_with fail
   go_upto_region 5 with fail
   refine wp_region_lateM w.heap.size [0,0,0,0,0,0,0,0,0,0,0,0,0,0,0,0,3,0,0,0,0,0,3,4,2,2,2] (by kernel_rfl) (by kernel_rfl) hbr.out.size ?_
   intro C hC
   simp only [pickK,pickT,Nat.reduceLeDiff,Nat.reduceEqDiff, ↓reduceIte]
   repeat(go_big_quiet_step (first
    |(intro _;with_reducible rfl)
    |(intro hc
      have hcw:=hbr.out.trans hc
      have m0:=(hcw.cell (p:=⟨b,_,none⟩) hbs).trans g0
      have m1:=(hcw.cell (p:=⟨b,_,none⟩) hbs).trans g1
      have m2:=(hcw.cell (p:=⟨b,_,none⟩) hbs).trans g2
      have m3:=(hcw.cell (p:=⟨b,_,none⟩) hbs).trans g3
      simp only [m0,m1,m2,m3,Result.andThen]
      exact⟨trivial,rfl⟩)))
   refine wpQuiet_nil ?_
   clear hC
   intro C' hC'
   refine wpQuiet_nil ?_
   clear hC'
   intro wq hbq
   replace hbq:Below wr.heap.size wr wq:=by rw [hbq];exact⟨rfl,rfl,rfl,Nat.le_refl _,fun _ _=>rfl⟩
   have hq:=Lib.hid (hbr.out.trans (hbq.mono hbr.out.size))
   have hrq:Hid (Below w.heap.size wr wq):=hbq.mono hbr.out.size
   have hoq:=Lib.hid (ho.out.below hbq)
   clear hbq ho g0 g1 g2 g3
   refine wpTail4_one (by decide) ?_
   go_wp2_with fail
   refine(own64_any A1 n1 c1 r.arr wq (r1H.out.below hq.out) (by omega)).mono ?_;rintro e w5 ⟨A5,m5,d5,rfl,p1,hb5⟩
   have hr5:Hid (Below w.heap.size wr w5):=hrq.out.trans (hb5.mono hq.out.size)
   have ho5:=Lib.hid (hoq.out.below hb5)
   have h5:=Lib.hid (hq.out.trans (hb5.mono hq.out.size))
   have p1H:=Lib.hid (own_base p1 hq.out.size)
   clear hb5 p1 hoq hq hrq
   go_wp2_with fail
   refine⟨fun _=>hr5.out,?_⟩
   refine wpTail4_one (by decide) ?_
   go_wp2_with fail
   refine(own64_any A2 n2 c2 r.dep w5 (r2H.out.below h5.out) (by omega)).mono ?_;rintro e w6 ⟨A6,m6,d6,rfl,p2,hb6⟩
   have hr6:Hid (Below w.heap.size wr w6):=hr5.out.trans (hb6.mono h5.out.size)
   have ho6:=Lib.hid (ho5.out.below hb6)
   have h6:=Lib.hid (h5.out.trans (hb6.mono h5.out.size))
   have p1H:=Lib.hid (own_below p1H.out hb6)
   have p2H:=Lib.hid (own_base p2 h5.out.size)
   clear hb6 p2 ho5 h5 hr5
   go_wp2_with fail
   refine⟨fun _=>hr6.out,?_⟩
   refine wpTail4_quiet ?_
   intro C' hC'
   repeat(go_big_quiet_step (first|(intro _;with_reducible rfl)))
   refine wpQuiet_nil ?_
   clear hC'
   obtain⟨v7,w7,hrun,ho7,hb7⟩:=ho6.out.add (e:=(r.trip,r.no,(A5,m5,d5),(A6,m6,d6))) (r:=r) ⟨rfl,rfl,p1H.out,p2H.out⟩ (by rw [hle.out];omega) h6.out.size
   have hrun:(Builtin.append_ #[32,32] 32 #[.slice A0 i c0,.slice (some ⟨w6.heap.size,0,none⟩) 1 1]).run Tryz.prog (w6.alloc (.cells #[.int .i64 r.trip,.int .i64 r.no,(.slice A5 m5 d5),(.slice A6 m6 d6)] 47))= .ok v7 w7:=hrun
   have h7:=Lib.hid (h6.out.trans hb7)
   have ho7:Hid (RunsO w.heap.size w7 v7 (L.take (i+1))):=by show RunsO _ _ _ _;rw [htk.out];exact ho7
   obtain⟨A7,c7,e7,_⟩:=ho7.out.rd
   rw [show(L.take (i+1)).length =i+1 by rw [List.length_take,hLl.out];omega] at e7
   subst e7
   clear hb7 p1H p2H ho6 h6 hr6
   refine wpTail4_list _ _ _ (by simp) ?_
   simp only [List.map_cons,List.map_nil]
   go_wp2_with (at_builtin;refine wpList_append_run ?b1 (.tmp 11) (.tmp 35) 32 ?b2 ?b3 ?b4 hrun ?_)
   case b1=>rfl
   case b2=>rfl
   try(case b3=>rfl)
   try(case b4=>rfl)
   go_wp2_with fail
   go_roundw
   case rel=>exact⟨i+1,A7,c7,by omega,rfl,by go_num,ho7,h7⟩
   case measure=>simp [intOf];omega
  ·have hin:i=n:=by omega
   subst hin
   have ho':Hid (RunsO w.heap.size wr (.slice A0 i c0) L):=by have:=ho.out;rw [List.take_of_length_le (by rw [hLl.out];omega)] at this;exact this
   clear ho
   go_wp2_with fail
   go_returns
   exact⟨_,rfl,ho'.out,hbr.out⟩
end Go.Proofs.YtechdefolfboeaaGreatDoor
namespace Go.Proofs.YtechdefolfboeaaGreatDoor
open Go.RowKit B K
set_option linter.unusedVariables false
set_option linter.unusedSimpArgs false
set_option maxRecDepth 100000
set_option maxHeartbeats 2000000
theorem kRun_any (ar br:RnE) (r:RunP) (we:World) (hr:RunT we ar r) (hs:RunT we br r) (h1:r.arr.length≤1099511627776) (h2:r.dep.length≤1099511627776):
 Calls Tryz.prog 40 #[.agg (rnE ar).toArray,.agg (rnE br).toArray] we fun e w'=>e= .returned (.bool true)∧Below we.heap.size we w':=by
 obtain⟨xt,xo,⟨xA,xm,xc⟩,⟨xB,xn,xd⟩⟩:=ar
 obtain⟨yt,yo,⟨yA,ym,yc⟩,⟨yB,yn,yd⟩⟩:=br
 have raH:=Lib.hid hr.arr
 have rbH:=Lib.hid hr.dep
 have saH:=Lib.hid hs.arr
 have sbH:=Lib.hid hs.dep
 obtain⟨t,o,a,d⟩:=r
 obtain rfl:xt=t:=hr.trip
 obtain rfl:yt=xt:=hs.trip
 obtain rfl:xo=o:=hr.no
 obtain rfl:yo=xo:=hs.no
 simp only [rnE,SlV.v] at*
 have hm:xm≤1099511627776:=by rw [←raH.out.len];exact h1
 have hn:xn≤1099511627776:=by rw [←rbH.out.len];exact h2
 have hm2:ym≤1099511627776:=by rw [←saH.out.len];exact h1
 have hn2:yn≤1099511627776:=by rw [←sbH.out.len];exact h2
 obtain⟨w1,w2,b1,b2,hw1,hw2,hbE1,hbE2,hbF2,hb1,hb2,hup,B1,B2,hge1,hge2⟩:=enter2 we 47 47 [.int .i64 yt,.int .i64 yo,.slice xA xm xc,.slice xB xn xd] [.int .i64 yt,.int .i64 yo,.slice yA ym yc,.slice yB yn yd]
 have hc1:=Lib.hid (kSame64_any xA xm xc a yA ym yc a w2 (raH.out.below hup.out) (saH.out.below hup.out) hm hm2)
 rw [decide_eq_true rfl] at hc1
 have p0:=B1.cell 0 rfl
 have p1:=B1.cell 1 rfl
 have p2:=B1.cell 2 rfl
 have q0:=B2.cell 0 rfl
 have q1:=B2.cell 1 rfl
 have q2:=B2.cell 2 rfl
 have B1H:=Lib.hid B1
 have B2H:=Lib.hid B2
 clear B1 B2 hr hs h1 h2 hb1 hb2
 go_enter Tryz.func40,Tryz.ntmps40
 go_wp2_with fail
 refine hc1.out.mono ?_;rintro e w3 ⟨rfl,hb3⟩
 have h3:=Lib.hid (hup.out.trans (hb3.mono hup.out.size))
 have hc2:=Lib.hid (kSame64_any xB xn xd d yB yn yd d w3 (rbH.out.below h3.out) (sbH.out.below h3.out) hn hn2)
 rw [decide_eq_true rfl] at hc2
 have p3:=(B1H.out.below hb3).cell 3 rfl
 have q3:=(B2H.out.below hb3).cell 3 rfl
 clear hb3 p0 p1 p2 q0 q1 q2 hc1
 go_wp2_with fail
 refine hc2.out.mono ?_;rintro e w4 ⟨rfl,hb4⟩
 have h4:=Lib.hid (h3.out.trans (hb4.mono h3.out.size))
 clear hb4 p3 q3
 go_wp2_with fail
 clear hw1 hw2 hbE1 hbE2 hbF2
 go_returns
 exact⟨rfl,h4.out⟩
end Go.Proofs.YtechdefolfboeaaGreatDoor
namespace Go.Proofs.YtechdefolfboeaaGreatDoor
open Go.RowKit B K
set_option linter.unusedVariables false
set_option linter.unusedSimpArgs false
set_option maxRecDepth 100000
set_option maxHeartbeats 2000000
theorem runs_head (A:Option Addr) (n c k:Nat) (hk:k≤c) (W:World):(Instr.slice 32 (.slice A n c) none (some (.int .i64 (k:Int))) none).run Tryz.prog W= .ok (.slice A k c) W:=
 (run_head (P:=Tryz.prog) (t:=32) (e:=47) (s:=4) Tryz.underlying32 (by kernel_rfl) (fun W=>by simp [go_sem]) A n c k hk .i64 W).trans (by
   have e:cutA A c 0 4=A:=by
    unfold cutA
    split
    ·rfl
    ·cases A with
     |none=>rfl
     |some a=>simp [Addr.add]
   rw [e])
theorem runs_cut (A:Option Addr) (n c k:Nat) (hk:k≤n) (W:World):(Instr.slice 32 (.slice A n c) (some (.int .i64 (k:Int))) none none).run Tryz.prog W= .ok (.slice (cutA A c k 4) (n-k) (c-k)) W:=
 run_cut (P:=Tryz.prog) (t:=32) (e:=47) (s:=4) Tryz.underlying32 (by kernel_rfl) (fun W=>by simp [go_sem]) A n c k hk .i64 W
set_option maxHeartbeats 8000000
end Go.Proofs.YtechdefolfboeaaGreatDoor
