/- Texts of one chain, merged. -/
import Derived.Test.YtechdefolfboeaaGreatDoorCc1
import Derived.Test.YtechdefolfboeaaGreatDoorCc4
import Derived.Test.YtechdefolfboeaaGreatDoorCc5
import Derived.Test.YtechdefolfboeaaGreatDoorCc14
import Derived.Test.YtechdefolfboeaaGreatDoorCc15
import Derived.Test.YtechdefolfboeaaGreatDoorCc21
set_option linter.unusedVariables false
set_option linter.unusedSimpArgs false
set_option maxRecDepth 100000
set_option maxHeartbeats 8000000
namespace Go.Proofs.YtechdefolfboeaaGreatDoor
open Go.RowKit B K
theorem info_tRn:(Tryz.prog.info? 47).map (fun i=>(i.zero,i.size,i.bytes))=some (some (.agg #[.int .i64 0,.int .i64 0,.slice none 0 0,.slice none 0 0]),4,64):=by kernel_rfl
def Row64 (base:Nat) (w:World) (v:SlV) (l:List Int):Prop:=w.ownsRow base 2 1 v.v l.length (l.flatMap (numE .i64))
structure RunO (base:Nat) (w:World) (e:RnE) (r:RunP):Prop where
 trip:e.1=r.trip
 no:e.2.1=r.no
 arr:Row64 base w e.2.2.1 r.arr
 dep:Row64 base w e.2.2.2 r.dep
def RunsO (base:Nat) (w:World) (v:Value) (L:List RunP):Prop:= ∃ E:List RnE,w.ownsRow base 47 4 v E.length (E.flatMap rnE)∧RowsG (RunO base) w E L
section
variable {base:Nat} {w w':World} {v:Value} {L:List RunP}
theorem Row64.rd {v:SlV} {l:List Int} (h:Row64 base w v l): ∃ A c,v=(A,l.length,c)∧Rd w 1 (numE .i64) A l.length l∧l.length≤c∧c≤9223372036854775807:=by
 obtain⟨A,n,c⟩:=v
 obtain⟨A',c',e,r1,r2,r3⟩:=Rd.of_own num_len rfl h
 injection e with e1 e2 e3
 subst e1 e2 e3
 exact⟨_,_,rfl,r1,r2,r3⟩
theorem RunO.t {e:RnE} {r:RunP} (h:RunO base w e r):RunT w e r:=by
 obtain⟨A1,c1,e1,r1,r2,r3⟩:=h.arr.rd
 obtain⟨A2,c2,e2,s1,s2,s3⟩:=h.dep.rd
 refine⟨h.trip,h.no,?_,?_,?_,?_⟩<;>first|rw [e1]|rw [e2]
 ·exact r1
 ·exact⟨r2,r3⟩
 ·exact s1
 ·exact⟨s2,s3⟩
theorem RunsO.below (h:RunsO base w v L) (hb:Below w.heap.size w w'):RunsO base w' v L:=by
 obtain⟨E,h1,h2⟩:=h
 exact⟨E,own_below h1 hb,h2.up fun e r h=>⟨h.trip,h.no,own_below h.arr hb,own_below h.dep hb⟩⟩
theorem RunsO.nil:RunsO base w (.slice none 0 0) []:=⟨[],World.ownsRow_nil _ _ _ _,RowsG.nil⟩
theorem RunsO.rd (h:RunsO base w v L): ∃ A c,v= .slice A L.length c∧RRuns w A L.length L∧L.length≤c∧c≤9223372036854775807:=by
 obtain⟨E,h1,h2⟩:=h
 obtain⟨A,c,e,r1,r2,r3⟩:=Rd.of_own rnE_len rfl h1
 rw [h2.len] at e r1 r2
 exact⟨A,c,e,⟨⟨E,r1,⟨h2.len,fun k e r he hr=>(h2.at_ k e r he hr).t⟩⟩⟩,r2,r3⟩
theorem RunO.kept {e:RnE} {r:RunP} {n:Nat} {xs:List Value} (hv:w.ownsRow base 47 4 v n xs) (hg:w.grownBy w' v.ownBlock) (h:RunO base w e r):RunO base w' e r:=by
 have key: ∀ {s:SlV} {l:List Int},Row64 base w s l→Row64 base w' s l:=fun {s l} h3=>by
  refine World.ownsRow.kept h3 hg ?_
  cases hq:s.v.ownBlock with
  |none=>exact .inl rfl
  |some q=>exact .inr fun h0=>own_ne hv h3 (k:=q) (by decide) hq h0
 exact⟨h.trip,h.no,key h.arr,key h.dep⟩
theorem RunsO.add (h:RunsO base w v L) {e:RnE} {r:RunP} (he:RunO base w e r) (hlen:L.length+1≤1099511627776) (hB:base≤w.heap.size):
 ∃ v' w1,(Builtin.append_ #[32,32] 32 #[v,.slice (some ⟨w.heap.size,0,none⟩) 1 1]).run Tryz.prog (w.alloc (.cells (rnE e).toArray 47))= .ok v' w1∧RunsO base w1 v' (L++[r])∧Below base w w1:=by
 obtain⟨E,h1,h2⟩:=h
 obtain⟨g,c,w1,hrun,own1,hgr,hnew⟩:=append_one (enc:=rnE) Tryz.underlying32 info_tRn rfl (by decide) rnE_len rnE_one w base v E e h1 (by rw [h2.len];omega) (by decide) hB
 have ha:=(Below.refl w.heap.size w).alloc (Nat.le_refl _) (.cells (rnE e).toArray 47)
 have hb1:Below base w w1:=(ha.mono hB).grown hgr (Nat.le_trans hB ha.size) (fun k hk=>(h1.lt k hk).1)
 refine⟨_,w1,hrun,⟨E++[e],by rw [List.length_append] at own1 ⊢;exact own1,RowsG.snoc (h2.up fun e r h=>?_) ?_⟩,hb1⟩
 ·exact RunO.kept (own_below h1 ha) hgr ⟨h.trip,h.no,own_below h.arr ha,own_below h.dep ha⟩
 ·exact RunO.kept (own_below h1 ha) hgr ⟨he.trip,he.no,own_below he.arr ha,own_below he.dep ha⟩
theorem RunsO.app {w0:World} {A:Option Addr} {m:Nat} (c:Nat) {Q:List RunP} (h:RunsO base w v L) (hQ:RRuns w0 A m Q) (hb:Below w0.heap.size w0 w) (h0:w0.heap.size≤base) (hlen:L.length+m≤1099511627776) (hB:base≤w.heap.size):
 ∃ v' w1,(Builtin.append_ #[32,32] 32 #[v,.slice A m c]).run Tryz.prog w= .ok v' w1∧(∃ A' c',v'= .slice A' (L++Q).length c'∧RRuns w1 A' (L++Q).length (L++Q))∧Below base w w1:=by
 obtain⟨E,h1,h2⟩:=h
 obtain⟨F,k1,k2⟩:=hQ.ex
 obtain⟨v',w1,hrun,own1,hgr,hnew⟩:=own_append (enc:=rnE) Tryz.underlying32 info_tRn rfl (by decide) rnE_len rnE_one c h1 (k1.below hb) (by rw [h2.len];omega) (by decide) hB
 have hb1:Below base w w1:=(Below.refl base w).grown hgr hB (fun k hk=>(h1.lt k hk).1)
 have hm:F.length=m:=k1.len
 have hQl:=hQ.len
 refine⟨v',w1,hrun,?_,hb1⟩
 rw [←hm,←List.length_append] at own1
 obtain⟨A',c',e,r1,r2,r3⟩:=Rd.of_own rnE_len rfl own1
 have hle:(E++F).length =(L++Q).length :=by rw [List.length_append,List.length_append,h2.len,hm,hQl]
 rw [hle] at e r1
 refine⟨A',c',e,⟨⟨E++F,r1,⟨hle,fun k e r he hr=>?_⟩⟩⟩⟩
 rcases Nat.lt_or_ge k E.length with hk|hk
 ·rw [List.getElem?_append_left hk] at he
  rw [List.getElem?_append_left (by rw [←h2.len];exact hk)] at hr
  exact(RunO.kept h1 hgr (h2.at_ k e r he hr)).t
 ·rw [List.getElem?_append_right hk] at he
  rw [List.getElem?_append_right (by rw [←h2.len];exact hk),←h2.len] at hr
  exact(k2.at_ _ e r he hr).below (hb.trans (hb1.mono h0))
end
theorem own64_any (A:Option Addr) (n c:Nat) (l:List Int) (w:World) (hr:Rd w 1 (numE .i64) A n l) (hn:n≤1099511627776):
 Calls Tryz.prog 75 #[.slice A n c] w fun e w'=> ∃ A m d,e= .returned (.slice A m d)∧Row64 w.heap.size w' (A,m,d) l∧Below w.heap.size w w':=by
 have hln:=hr.len
 obtain⟨v,w1,hrun,own,hg,_⟩:=own_append (enc:=(numE .i64)) Tryz.underlying45 info_tI64 rfl (by decide) num_len num_one c (l:=[]) (own_lit0 w w.heap.size 2 1 (Nat.le_refl _)) (hr.below ((Below.refl _ w).alloc (Nat.le_refl _) _)) (by simpa using hn) (by decide) (by simp)
 have hb:Hid (Below w.heap.size w w1):=((Below.refl _ w).alloc (Nat.le_refl _) _).grown hg (by simp) (fun k hk=>by simp [Value.ownBlock] at hk;omega)
 simp only [List.length_nil,Nat.zero_add,List.nil_append] at hrun own
 have hv: ∃ s:SlV,v=s.v:=by
  obtain⟨A',c',e,_⟩:=Rd.of_own (l:=l) num_len rfl (by rw [hln];exact own)
  exact⟨(A',l.length,c'),e⟩
 obtain⟨s,rfl⟩:=hv
 have own:Hid (Row64 w.heap.size w1 s l):=by show Row64 _ _ _ _;unfold Row64;rw [hln];exact own
 rename_i own0;clear own0 hg hr hln
 go_enter Tryz.func75,Tryz.ntmps75
 go_wp2_with (at_builtin;refine wpList_append_run ?b1 (.tmp 3) (.tmp 4) 45 ?b2 ?b3 ?b4 hrun ?_)
 case b1=>rfl
 case b2=>rfl
 try(case b3=>rfl)
 try(case b4=>rfl)
 go_returns
 exact⟨s.1,s.2.1,s.2.2,rfl,own.out,hb.out⟩
theorem ownRuns_any (A:Option Addr) (n c:Nat) (L:List RunP) (w:World) (hL:RRuns w A n L) (hn:n≤100000) (hA: ∀ r∈L,r.arr.length≤100000∧r.dep.length≤100000):
 Calls Tryz.prog 28 #[.slice A n c] w fun e w'=> ∃ v,e= .returned v∧RunsO w.heap.size w' v L∧Below w.heap.size w w':=by
 have hAH:=Lib.hid hA
 have hLl:=Lib.hid hL.len
 clear hA
 go_enter Tryz.func28,Tryz.ntmps28
 go_wp2_with fail
 go_loopw [3,4] (fun vo vi wr=> ∃ (i:Nat) (A0:Option Addr) (c0:Nat),i≤n∧vo= .slice A0 i c0∧vi= .int .i64 i∧Hid (RunsO w.heap.size wr (.slice A0 i c0) (L.take i))∧Hid (Below w.heap.size w wr)) (fun _ vi _=>n-(intOf vi).toNat)
 case atStart=>exact⟨0,none,0,Nat.zero_le _,rfl,rfl,by rw [List.take_zero];exact RunsO.nil,Below.refl _ _⟩
 case round=>
  obtain⟨i,A0,c0,hi,rfl,rfl,ho,hbr⟩:=hrel
  by_cases hlt:i<n
  ·have hltI:(i:Int)<(n:Int):=by omega
   obtain⟨b,o,r,A1,n1,c1,A2,n2,c2,rfl,hbs,hr,g0,g1,g2,g3,r1,r2,_,_⟩:=hL.get hlt
   have hrl:=hAH.out r (List.mem_of_getElem? hr)
   have r1H:=Lib.hid r1
   have r2H:=Lib.hid r2
   have hn1:n1≤100000:=by rw [←r1.len];exact hrl.1
   have hn2:n2≤100000:=by rw [←r2.len];exact hrl.2
   have htk:Hid (L.take (i+1)=L.take i++[r]):=take_at hr
   have hle:Hid ((L.take i).length =i):=by show _=_;rw [List.length_take,hLl.out];omega
   clear r1 r2 hr hrl
   go_wp2_with fail
   go_upto_region 5 with fail
   refine wp_region_lateM w.heap.size [0,0,0,0,0,0,0,0,0,0,0,0,0,0,0,0,3,0,0,0,0,0,3,4,2,2,2] (by kernel_rfl) (by kernel_rfl) hbr.out.size ?_
   intro C hC
   simp only [pickK,pickT,Nat.reduceLeDiff,Nat.reduceEqDiff, ↓reduceIte]
   repeat(go_big_quiet_step (first
    |(intro _;with_reducible rfl)
    |(intro hc
      have hcw:=hbr.out.trans hc
      have m0:=c_ hcw hbs g0
      have m1:=c_ hcw hbs g1
      have m2:=c_ hcw hbs g2
      have m3:=c_ hcw hbs g3
      simp only [m0,m1,m2,m3,Result.andThen]
      exact⟨trivial,rfl⟩)))
   refine wpQuiet_nil ?_
   clear hC
   intro C' hC'
   refine wpQuiet_nil ?_
   clear hC'
   intro wq hbq
   replace hbq:Below wr.heap.size wr wq:=by rw [hbq];exact⟨rfl,rfl,rfl,Nat.le_refl _,fun _ _=>rfl⟩
   have hq:=h_ hbr hbq
   have hrq:Hid (Below w.heap.size wr wq):=hbq.mono hbr.out.size
   have hoq:=Lib.hid (ho.out.below hbq)
   clear hbq ho g0 g1 g2 g3
   refine wpTail4_one (by decide) ?_
   go_wp2_with fail
   refine(own64_any A1 n1 c1 r.arr wq (r1H.out.below hq.out) (by omega)).mono ?_;rintro e w5 ⟨A5,m5,d5,rfl,p1,hb5⟩
   have hr5:Hid (Below w.heap.size wr w5):=hrq.out.trans (hb5.mono hq.out.size)
   have ho5:=Lib.hid (hoq.out.below hb5)
   have h5:=h_ hq hb5
   have p1H:=Lib.hid (own_base p1 hq.out.size)
   clear hb5 p1 hoq hq hrq
   go_wp2_with fail
   refine⟨fun _=>hr5.out,?_⟩
   refine wpTail4_one (by decide) ?_
   go_wp2_with fail
   refine(own64_any A2 n2 c2 r.dep w5 (r2H.out.below h5.out) (by omega)).mono ?_;rintro e w6 ⟨A6,m6,d6,rfl,p2,hb6⟩
   have hr6:Hid (Below w.heap.size wr w6):=hr5.out.trans (hb6.mono h5.out.size)
   have ho6:=Lib.hid (ho5.out.below hb6)
   have h6:=h_ h5 hb6
   have p1H:=Lib.hid (own_below p1H.out hb6)
   have p2H:=Lib.hid (own_base p2 h5.out.size)
   clear hb6 p2 ho5 h5 hr5
   go_wp2_with fail
   refine⟨fun _=>hr6.out,?_⟩
   refine wpTail4_quiet ?_
   intro C' hC'
   repeat(go_big_quiet_step (first|(intro _;with_reducible rfl)))
   refine wpQuiet_nil ?_
   clear hC'
   obtain⟨v7,w7,hrun,ho7,hb7⟩:=ho6.out.add (e:=(r.trip,r.no,(A5,m5,d5),(A6,m6,d6))) (r:=r) ⟨rfl,rfl,p1H.out,p2H.out⟩ (by rw [hle.out];omega) h6.out.size
   have hrun:(Builtin.append_ #[32,32] 32 #[.slice A0 i c0,.slice (some ⟨w6.heap.size,0,none⟩) 1 1]).run Tryz.prog (w6.alloc (.cells #[.int .i64 r.trip,.int .i64 r.no,(.slice A5 m5 d5),(.slice A6 m6 d6)] 47))= .ok v7 w7:=hrun
   have h7:=Lib.hid (h6.out.trans hb7)
   have ho7:Hid (RunsO w.heap.size w7 v7 (L.take (i+1))):=by show RunsO _ _ _ _;rw [htk.out];exact ho7
   obtain⟨A7,c7,e7,_⟩:=ho7.out.rd
   rw [show(L.take (i+1)).length =i+1 by rw [List.length_take,hLl.out];omega] at e7
   subst e7
   clear hb7 p1H p2H ho6 h6 hr6
   refine wpTail4_list _ _ _ (by simp) ?_
   simp only [List.map_cons,List.map_nil]
   go_wp2_with (at_builtin;refine wpList_append_run ?b1 (.tmp 11) (.tmp 35) 32 ?b2 ?b3 ?b4 hrun ?_)
   case b1=>rfl
   case b2=>rfl
   try(case b3=>rfl)
   try(case b4=>rfl)
   go_wp2_with fail
   go_roundw
   case rel=>exact⟨i+1,A7,c7,by omega,rfl,by go_num,ho7,h7⟩
   case measure=>simp [intOf];omega
  ·have hin:i=n:=by omega
   subst hin
   have ho':Hid (RunsO w.heap.size wr (.slice A0 i c0) L):=by have:=ho.out;rw [List.take_of_length_le (by rw [hLl.out];omega)] at this;exact this
   clear ho
   go_wp2_with fail
   go_returns
   exact⟨_,rfl,ho'.out,hbr.out⟩
theorem tripE_len (x:Int×Int×Int):(tripE x).length =3:=rfl
theorem tripE_one (x:Int×Int×Int): ∀ u∈tripE x,u.oneCell'=true:=fun u hu=>by simp [tripE] at hu;rcases hu with rfl|rfl|rfl<;>rfl
theorem ownS_any (A:Option Addr) (n c:Nat) (l:List Str) (w:World) (hr:Rd w 1 strE A n l) (hn:n≤1099511627776):
 Calls Tryz.prog 73 #[.slice A n c] w fun e w'=> ∃ A c',e= .returned (.slice A n c')∧w'.ownsRow w.heap.size 9 1 (.slice A n c') n (l.flatMap strE)∧Below w.heap.size w w':=by
 have hln:=hr.len
 obtain⟨v,w1,hrun,own,hg,_⟩:=own_append (enc:=strE) Tryz.underlying22 info_tStr rfl (by decide) strE_len strE_one c (l:=[]) (own_lit0 w w.heap.size 9 1 (Nat.le_refl _)) (hr.below ((Below.refl _ w).alloc (Nat.le_refl _) _)) (by simpa using hn) (by decide) (by simp)
 have hb:Hid (Below w.heap.size w w1):=((Below.refl _ w).alloc (Nat.le_refl _) _).grown hg (by simp) (fun k hk=>by simp [Value.ownBlock] at hk;omega)
 simp only [List.length_nil,Nat.zero_add,List.nil_append] at hrun own
 obtain⟨A',c',rfl,_⟩:=Rd.of_own strE_len hln own
 have own:=Lib.hid own
 rename_i own0;clear own0 hg hr hln
 go_enter Tryz.func73,Tryz.ntmps73
 go_wp2_with (at_builtin;refine wpList_append_run ?b1 (.tmp 3) (.tmp 4) 22 ?b2 ?b3 ?b4 hrun ?_)
 case b1=>rfl
 case b2=>rfl
 try(case b3=>rfl)
 try(case b4=>rfl)
 go_returns
 exact⟨_,_,rfl,own.out,hb.out⟩
theorem ownI_any (A:Option Addr) (n c:Nat) (l:List Int) (w:World) (hr:Rd w 1 (numE .i64) A n l) (hn:n≤1099511627776):
 Calls Tryz.prog 74 #[.slice A n c] w fun e w'=> ∃ A c',e= .returned (.slice A n c')∧w'.ownsRow w.heap.size 3 1 (.slice A n c') n (l.flatMap (numE .i64))∧Below w.heap.size w w':=by
 have hln:=hr.len
 obtain⟨v,w1,hrun,own,hg,_⟩:=own_append (enc:=(numE .i64)) Tryz.underlying49 info_tInt rfl (by decide) num_len num_one c (l:=[]) (own_lit0 w w.heap.size 3 1 (Nat.le_refl _)) (hr.below ((Below.refl _ w).alloc (Nat.le_refl _) _)) (by simpa using hn) (by decide) (by simp)
 have hb:Hid (Below w.heap.size w w1):=((Below.refl _ w).alloc (Nat.le_refl _) _).grown hg (by simp) (fun k hk=>by simp [Value.ownBlock] at hk;omega)
 simp only [List.length_nil,Nat.zero_add,List.nil_append] at hrun own
 obtain⟨A',c',rfl,_⟩:=Rd.of_own num_len hln own
 have own:=Lib.hid own
 rename_i own0;clear own0 hg hr hln
 go_enter Tryz.func74,Tryz.ntmps74
 go_wp2_with (at_builtin;refine wpList_append_run ?b1 (.tmp 3) (.tmp 4) 49 ?b2 ?b3 ?b4 hrun ?_)
 case b1=>rfl
 case b2=>rfl
 try(case b3=>rfl)
 try(case b4=>rfl)
 go_returns
 exact⟨_,_,rfl,own.out,hb.out⟩
theorem ownN_any (A:Option Addr) (n c:Nat) (l:List Int) (w:World) (hr:Rd w 1 (numE .i64) A n l) (hn:n≤1099511627776):
 Calls Tryz.prog 75 #[.slice A n c] w fun e w'=> ∃ A c',e= .returned (.slice A n c')∧w'.ownsRow w.heap.size 2 1 (.slice A n c') n (l.flatMap (numE .i64))∧Below w.heap.size w w':=by
 have hln:=hr.len
 obtain⟨v,w1,hrun,own,hg,_⟩:=own_append (enc:=(numE .i64)) Tryz.underlying45 info_tI64 rfl (by decide) num_len num_one c (l:=[]) (own_lit0 w w.heap.size 2 1 (Nat.le_refl _)) (hr.below ((Below.refl _ w).alloc (Nat.le_refl _) _)) (by simpa using hn) (by decide) (by simp)
 have hb:Hid (Below w.heap.size w w1):=((Below.refl _ w).alloc (Nat.le_refl _) _).grown hg (by simp) (fun k hk=>by simp [Value.ownBlock] at hk;omega)
 simp only [List.length_nil,Nat.zero_add,List.nil_append] at hrun own
 obtain⟨A',c',rfl,_⟩:=Rd.of_own num_len hln own
 have own:=Lib.hid own
 rename_i own0;clear own0 hg hr hln
 go_enter Tryz.func75,Tryz.ntmps75
 go_wp2_with (at_builtin;refine wpList_append_run ?b1 (.tmp 3) (.tmp 4) 45 ?b2 ?b3 ?b4 hrun ?_)
 case b1=>rfl
 case b2=>rfl
 try(case b3=>rfl)
 try(case b4=>rfl)
 go_returns
 exact⟨_,_,rfl,own.out,hb.out⟩
theorem ownP_any (A:Option Addr) (n c:Nat) (l:List (Int×Int×Int)) (w:World) (hr:Rd w 3 tripE A n l) (hn:n≤1099511627776):
 Calls Tryz.prog 69 #[.slice A n c] w fun e w'=> ∃ A c',e= .returned (.slice A n c')∧w'.ownsRow w.heap.size 99 3 (.slice A n c') n (l.flatMap tripE)∧Below w.heap.size w w':=by
 have hln:=hr.len
 obtain⟨v,w1,hrun,own,hg,_⟩:=own_append (enc:=tripE) Tryz.underlying25 info_tPath rfl (by decide) tripE_len tripE_one c (l:=[]) (own_lit0 w w.heap.size 99 3 (Nat.le_refl _)) (hr.below ((Below.refl _ w).alloc (Nat.le_refl _) _)) (by simpa using hn) (by decide) (by simp)
 have hb:Hid (Below w.heap.size w w1):=((Below.refl _ w).alloc (Nat.le_refl _) _).grown hg (by simp) (fun k hk=>by simp [Value.ownBlock] at hk;omega)
 simp only [List.length_nil,Nat.zero_add,List.nil_append] at hrun own
 obtain⟨A',c',rfl,_⟩:=Rd.of_own tripE_len hln own
 have own:=Lib.hid own
 rename_i own0;clear own0 hg hr hln
 go_enter Tryz.func69,Tryz.ntmps69
 go_wp2_with (at_builtin;refine wpList_append_run ?b1 (.tmp 3) (.tmp 4) 25 ?b2 ?b3 ?b4 hrun ?_)
 case b1=>rfl
 case b2=>rfl
 try(case b3=>rfl)
 try(case b4=>rfl)
 go_returns
 exact⟨_,_,rfl,own.out,hb.out⟩
theorem ownD_any (A:Option Addr) (n c:Nat) (l:List DoorP) (w:World) (hr:Rd w 6 doorE A n l) (hn:n≤1099511627776):
 Calls Tryz.prog 70 #[.slice A n c] w fun e w'=> ∃ A c',e= .returned (.slice A n c')∧w'.ownsRow w.heap.size 104 6 (.slice A n c') n (l.flatMap doorE)∧Below w.heap.size w w':=by
 have hln:=hr.len
 obtain⟨v,w1,hrun,own,hg,_⟩:=own_append (enc:=doorE) Tryz.underlying26 info_tDoor rfl (by decide) doorE_len doorE_one c (l:=[]) (own_lit0 w w.heap.size 104 6 (Nat.le_refl _)) (hr.below ((Below.refl _ w).alloc (Nat.le_refl _) _)) (by simpa using hn) (by decide) (by simp)
 have hb:Hid (Below w.heap.size w w1):=((Below.refl _ w).alloc (Nat.le_refl _) _).grown hg (by simp) (fun k hk=>by simp [Value.ownBlock] at hk;omega)
 simp only [List.length_nil,Nat.zero_add,List.nil_append] at hrun own
 obtain⟨A',c',rfl,_⟩:=Rd.of_own doorE_len hln own
 have own:=Lib.hid own
 rename_i own0;clear own0 hg hr hln
 go_enter Tryz.func70,Tryz.ntmps70
 go_wp2_with (at_builtin;refine wpList_append_run ?b1 (.tmp 3) (.tmp 4) 26 ?b2 ?b3 ?b4 hrun ?_)
 case b1=>rfl
 case b2=>rfl
 try(case b3=>rfl)
 try(case b4=>rfl)
 go_returns
 exact⟨_,_,rfl,own.out,hb.out⟩
theorem ownT_any (A:Option Addr) (n c:Nat) (l:List TripP) (w:World) (hr:Rd w 4 tripP A n l) (hn:n≤1099511627776):
 Calls Tryz.prog 71 #[.slice A n c] w fun e w'=> ∃ A c',e= .returned (.slice A n c')∧w'.ownsRow w.heap.size 53 4 (.slice A n c') n (l.flatMap tripP)∧Below w.heap.size w w':=by
 have hln:=hr.len
 obtain⟨v,w1,hrun,own,hg,_⟩:=own_append (enc:=tripP) Tryz.underlying28 info_tTrip rfl (by decide) tripP_len tripP_one c (l:=[]) (own_lit0 w w.heap.size 53 4 (Nat.le_refl _)) (hr.below ((Below.refl _ w).alloc (Nat.le_refl _) _)) (by simpa using hn) (by decide) (by simp)
 have hb:Hid (Below w.heap.size w w1):=((Below.refl _ w).alloc (Nat.le_refl _) _).grown hg (by simp) (fun k hk=>by simp [Value.ownBlock] at hk;omega)
 simp only [List.length_nil,Nat.zero_add,List.nil_append] at hrun own
 obtain⟨A',c',rfl,_⟩:=Rd.of_own tripP_len hln own
 have own:=Lib.hid own
 rename_i own0;clear own0 hg hr hln
 go_enter Tryz.func71,Tryz.ntmps71
 go_wp2_with (at_builtin;refine wpList_append_run ?b1 (.tmp 3) (.tmp 4) 28 ?b2 ?b3 ?b4 hrun ?_)
 case b1=>rfl
 case b2=>rfl
 try(case b3=>rfl)
 try(case b4=>rfl)
 go_returns
 exact⟨_,_,rfl,own.out,hb.out⟩
theorem ownH_any (A:Option Addr) (n c:Nat) (l:List HazP) (w:World) (hr:Rd w 5 hazE A n l) (hn:n≤1099511627776):
 Calls Tryz.prog 72 #[.slice A n c] w fun e w'=> ∃ A c',e= .returned (.slice A n c')∧w'.ownsRow w.heap.size 108 5 (.slice A n c') n (l.flatMap hazE)∧Below w.heap.size w w':=by
 have hln:=hr.len
 obtain⟨v,w1,hrun,own,hg,_⟩:=own_append (enc:=hazE) Tryz.underlying29 info_tHaz rfl (by decide) hazE_len hazE_one c (l:=[]) (own_lit0 w w.heap.size 108 5 (Nat.le_refl _)) (hr.below ((Below.refl _ w).alloc (Nat.le_refl _) _)) (by simpa using hn) (by decide) (by simp)
 have hb:Hid (Below w.heap.size w w1):=((Below.refl _ w).alloc (Nat.le_refl _) _).grown hg (by simp) (fun k hk=>by simp [Value.ownBlock] at hk;omega)
 simp only [List.length_nil,Nat.zero_add,List.nil_append] at hrun own
 obtain⟨A',c',rfl,_⟩:=Rd.of_own hazE_len hln own
 have own:=Lib.hid own
 rename_i own0;clear own0 hg hr hln
 go_enter Tryz.func72,Tryz.ntmps72
 go_wp2_with (at_builtin;refine wpList_append_run ?b1 (.tmp 3) (.tmp 4) 29 ?b2 ?b3 ?b4 hrun ?_)
 case b1=>rfl
 case b2=>rfl
 try(case b3=>rfl)
 try(case b4=>rfl)
 go_returns
 exact⟨_,_,rfl,own.out,hb.out⟩
theorem NSt.grown {we W0 w w1:World} {bw n:Nat} {vs:List Value} {rows:List Row5} {L:List RE3} {D:List RouteP} {u:Value} {xs:List Value} (h:NSt we W0 w bw vs rows L D) (ho:w.ownsRow W0.heap.size 51 3 u n xs) (h0:we.heap.size≤W0.heap.size) (hW:W0.heap.size≤w.heap.size) (hg:w.grownBy w1 u.ownBlock) (hr: ∀ r∈rows,r.1≠51):NSt we W0 w1 bw vs rows L D:=by
 have key: ∀ {base size n:Nat} {e:TypeId} {v:Value} {xs:List Value},w.ownsRow base e size v n xs→e≠51→w1.ownsRow base e size v n xs:=fun {base size n e v xs} h3 he=>by
  refine World.ownsRow.kept h3 hg ?_
  cases hq:v.ownBlock with
  |none=>exact .inl rfl
  |some q=>exact .inr fun h0=>own_ne ho h3 (k:=q) he hq h0
 refine⟨?_,⟨hg.os.trans h.but.os,hg.tape.trans h.but.tape,hg.output.trans h.but.output,Nat.le_trans h.but.size hg.size,fun i hi hx=>?_⟩,h.bx.keep (hg.block bw h.bx.lt fun hq=>own_ne_box ho h.bx (by decide) bw hq.symm rfl),fun r hr'=>⟨(h.own r hr').1,key (h.own r hr').2 (hr r hr')⟩,h.rt.up fun e r he=>he.up fun _ e' _ _ _ _ ht _ ho=>key ho (by rcases ht with rfl|rfl<;>decide)⟩
 ·exact h.bel.grown hg (Nat.le_trans h0 hW) fun k hk=>Nat.le_trans h0 (ho.lt k hk).1
 ·exact(hg.block i (Nat.lt_of_lt_of_le hi h.but.size) fun hq=>by have:=(ho.lt i hq.symm).1;omega).trans (h.but.keep i hi hx)
def RetWld (M:WorldP) (we:World) (e:Ending) (w':World):Prop:= ∃ V:WV,e= .returned (wVal M V)∧RW w' M V∧Below we.heap.size we w'
theorem ownWorld_any (M:WorldP) (V:WV) (we:World) (hr:RW we M V) (hf:Few M):Calls Tryz.prog 27 #[wVal M V] we (RetWld M we):=by
 obtain⟨a0,a1,a2,a3,a4,a5,aP,aD,aR,aT,aH,n0,n1,n2,n3,n4,n5,nP,nD,nR,nT,nH,c0,c1,c2,c3,c4,c5,cP,cD,cR,cT,cH⟩:=V
 have hrH:=Lib.hid hr
 have L0:Hid (M.stops.length=n0):=hr.r0.len
 have L1:Hid (M.nPaths.length=n1):=hr.r1.len
 have L2':Hid (M.nDoors.length=n2):=hr.r2.len
 have L3:Hid (M.nRoutes.length=n3):=hr.r3.len
 have L4:Hid (M.nTrips.length=n4):=hr.r4.len
 have L5:Hid (M.nHazs.length=n5):=hr.r5.len
 have LP:Hid (M.paths.length=nP):=hr.rP.len
 have LD:Hid (M.doors.length=nD):=hr.rD.len
 have LR':Hid (M.routes.length=nR):=hr.rR.len
 have LT:Hid (M.trips.length=nT):=hr.rT.len
 have LH:Hid (M.hazs.length=nH):=hr.rH.len
 have m0:n0≤100000:=by rw [←L0.out];exact hf.s0
 have m1:n1≤100000:=by rw [←L1.out];exact hf.s1
 have m2:n2≤100000:=by rw [←L2'.out];exact hf.s2
 have m3:n3≤100000:=by rw [←L3.out];exact hf.s3
 have m4:n4≤100000:=by rw [←L4.out];exact hf.s4
 have m5:n5≤100000:=by rw [←L5.out];exact hf.s5
 have mP:nP≤100000:=by rw [←LP.out];exact hf.sP
 have mD:nD≤100000:=by rw [←LD.out];exact hf.sD
 have mR:nR≤100000:=by rw [←LR'.out];exact hf.sR
 have mT:nT≤100000:=by rw [←LT.out];exact hf.sT
 have mH:nH≤100000:=by rw [←LH.out];exact hf.sH
 have hsr:=Lib.hid hf.sr
 simp only [wVal]
 clear hr hf
 obtain⟨w1,w2,b1,b2,hw1,hw2,hbE1,hbE2,hbF2,hb1,hb2,hup,B1,B2,hge1,hge2⟩:=enter2 we 31 31 [.int .i64 M.hz,.slice a0 n0 c0,.slice a1 n1 c1,.slice a2 n2 c2,.slice a3 n3 c3,.slice a4 n4 c4,.slice a5 n5 c5,.slice aP nP cP,.slice aD nD cD,.slice aR nR cR,.slice aT nT cT,.slice aH nH cH] [.int .i64 0,.slice none 0 0,.slice none 0 0,.slice none 0 0,.slice none 0 0,.slice none 0 0,.slice none 0 0,.slice none 0 0,.slice none 0 0,.slice none 0 0,.slice none 0 0,.slice none 0 0]
 obtain⟨wn,bn,hwn,hbnE,hbwn,Bwn⟩:=box1 w2 24 [.slice a0 n0 c0,.slice a1 n1 c1,.slice a2 n2 c2,.slice a3 n3 c3,.slice a4 n4 c4,.slice a5 n5 c5]
 have hbN:=h_ hup hbwn
 have hB1:=Lib.hid (B1.below hbwn)
 have hB2:=Lib.hid (B2.below hbwn)
 have hBn:=Lib.hid Bwn
 have l1:=hB1.out.lt
 have l2:=hB2.out.lt
 have ln:=hBn.out.lt
 have hlow:Hid (∀ wr,Below wn.heap.size wn wr→RW wr M ⟨a0,a1,a2,a3,a4,a5,aP,aD,aR,aT,aH,n0,n1,n2,n3,n4,n5,nP,nD,nR,nT,nH,c0,c1,c2,c3,c4,c5,cP,cD,cR,cT,cH⟩):=fun wr h=>(hrH.out.below hbN.out).below h
 obtain⟨p0,p1,p2,p3,p4,p5,p6⟩:=c_7 B1
 obtain⟨r0,r1,r2,r3,r4,r5,r6,r7,r8,r9,r10,r11⟩:=c_12 hB1.out
 obtain⟨y0,y1,y2,y3,y4,y5⟩:=c_6 hBn.out
 clear B1 B2 Bwn hb1 hb2 hbwn
 have qP:Hid (∀ w,Below wn.heap.size wn w→Calls Tryz.prog 69 #[.slice aP nP cP] w fun e w'=> ∃ A c',e= .returned (.slice A nP c')∧w'.ownsRow w.heap.size 99 3 (.slice A nP c') nP (M.paths.flatMap tripE)∧Below w.heap.size w w'):=fun w h=>ownP_any aP nP cP M.paths w (hlow.out w h).rP (by omega)
 have qD:Hid (∀ w,Below wn.heap.size wn w→Calls Tryz.prog 70 #[.slice aD nD cD] w fun e w'=> ∃ A c',e= .returned (.slice A nD c')∧w'.ownsRow w.heap.size 104 6 (.slice A nD c') nD (M.doors.flatMap doorE)∧Below w.heap.size w w'):=fun w h=>ownD_any aD nD cD M.doors w (hlow.out w h).rD (by omega)
 have qT:Hid (∀ w,Below wn.heap.size wn w→Calls Tryz.prog 71 #[.slice aT nT cT] w fun e w'=> ∃ A c',e= .returned (.slice A nT c')∧w'.ownsRow w.heap.size 53 4 (.slice A nT c') nT (M.trips.flatMap tripP)∧Below w.heap.size w w'):=fun w h=>ownT_any aT nT cT M.trips w (hlow.out w h).rT (by omega)
 have qH:Hid (∀ w,Below wn.heap.size wn w→Calls Tryz.prog 72 #[.slice aH nH cH] w fun e w'=> ∃ A c',e= .returned (.slice A nH c')∧w'.ownsRow w.heap.size 108 5 (.slice A nH c') nH (M.hazs.flatMap hazE)∧Below w.heap.size w w'):=fun w h=>ownH_any aH nH cH M.hazs w (hlow.out w h).rH (by omega)
 have q0:Hid (∀ w,Below wn.heap.size wn w→Calls Tryz.prog 73 #[.slice a0 n0 c0] w fun e w'=> ∃ A c',e= .returned (.slice A n0 c')∧w'.ownsRow w.heap.size 9 1 (.slice A n0 c') n0 (M.stops.flatMap strE)∧Below w.heap.size w w'):=fun w h=>ownS_any a0 n0 c0 M.stops w (hlow.out w h).r0 (by omega)
 have q1:Hid (∀ w,Below wn.heap.size wn w→Calls Tryz.prog 73 #[.slice a1 n1 c1] w fun e w'=> ∃ A c',e= .returned (.slice A n1 c')∧w'.ownsRow w.heap.size 9 1 (.slice A n1 c') n1 (M.nPaths.flatMap strE)∧Below w.heap.size w w'):=fun w h=>ownS_any a1 n1 c1 M.nPaths w (hlow.out w h).r1 (by omega)
 have q2:Hid (∀ w,Below wn.heap.size wn w→Calls Tryz.prog 73 #[.slice a2 n2 c2] w fun e w'=> ∃ A c',e= .returned (.slice A n2 c')∧w'.ownsRow w.heap.size 9 1 (.slice A n2 c') n2 (M.nDoors.flatMap strE)∧Below w.heap.size w w'):=fun w h=>ownS_any a2 n2 c2 M.nDoors w (hlow.out w h).r2 (by omega)
 have q3:Hid (∀ w,Below wn.heap.size wn w→Calls Tryz.prog 73 #[.slice a3 n3 c3] w fun e w'=> ∃ A c',e= .returned (.slice A n3 c')∧w'.ownsRow w.heap.size 9 1 (.slice A n3 c') n3 (M.nRoutes.flatMap strE)∧Below w.heap.size w w'):=fun w h=>ownS_any a3 n3 c3 M.nRoutes w (hlow.out w h).r3 (by omega)
 have q4:Hid (∀ w,Below wn.heap.size wn w→Calls Tryz.prog 73 #[.slice a4 n4 c4] w fun e w'=> ∃ A c',e= .returned (.slice A n4 c')∧w'.ownsRow w.heap.size 9 1 (.slice A n4 c') n4 (M.nTrips.flatMap strE)∧Below w.heap.size w w'):=fun w h=>ownS_any a4 n4 c4 M.nTrips w (hlow.out w h).r4 (by omega)
 have q5:Hid (∀ w,Below wn.heap.size wn w→Calls Tryz.prog 73 #[.slice a5 n5 c5] w fun e w'=> ∃ A c',e= .returned (.slice A n5 c')∧w'.ownsRow w.heap.size 9 1 (.slice A n5 c') n5 (M.nHazs.flatMap strE)∧Below w.heap.size w w'):=fun w h=>ownS_any a5 n5 c5 M.nHazs w (hlow.out w h).r5 (by omega)
 go_enter Tryz.func27,Tryz.ntmps27
 go_wp2_with fail
 go_upto_region 2 with fail
 clear hw1 hw2 hbE1 hbE2 hbF2 hwn hbnE p0 p1 p2 p3 p4 p5 p6
 refine wp_region_ghost (fun fl x w=>GS wn [(fl 4,x 4,KOwn wn.heap.size 99 3 nP (M.paths.flatMap tripE)),(fl 7,x 7,KOwn wn.heap.size 104 6 nD (M.doors.flatMap doorE)),(fl 10,x 10,KOwn wn.heap.size 53 4 nT (M.trips.flatMap tripP)),(fl 13,x 13,KOwn wn.heap.size 108 5 nH (M.hazs.flatMap hazE)),(fl 15,x 15,KBox wn.heap.size 31 [.int .i64 0,.slice none 0 0,.slice none 0 0,.slice none 0 0,.slice none 0 0,.slice none 0 0,.slice none 0 0,.slice none 0 0,.slice none 0 0,.slice none 0 0,.slice none 0 0,.slice none 0 0])] [] [fl 4,fl 7,fl 10,fl 13] (fl 14) (x 14) (x 15) 31 [.int .i64 M.hz,.slice none 0 0,.slice none 0 0,.slice none 0 0,.slice none 0 0,.slice none 0 0,.slice none 0 0,(x 4),(x 7),.slice none 0 0,(x 10),(x 13)] (fl 16) w) (by kernel_rfl) (by kernel_rfl) (by kernel_rfl) (by kernel_rfl) (by kernel_rfl) ?_ ?_
 ·intro x0
  refine GS.start ?_ ?_ ?_ rfl rfl
  ·intro e he;simp only [List.mem_cons,List.not_mem_nil,or_false] at he;rcases he with rfl|rfl|rfl|rfl|rfl<;>first|exact KNil.mono _ _ _|exact KOwn.mono _ _ _ _ _|exact KBox.mono _ _ _
  ·intro e he;simp only [List.mem_cons,List.not_mem_nil,or_false] at he;rcases he with rfl|rfl|rfl|rfl|rfl<;>rfl
  ·intro e he;cases he
 intro base O hbase hO
 have kx1:Hid (∀ xs,evX base O xs (.tmp 1)= .pointer (some ⟨b1,0,none⟩)∧evX base O xs (.tmp 4)=xs 15∧evX base O xs (.tmp 9)=xs 0∧evX base O xs (.tmp 10)=xs 1∧evX base O xs (.tmp 11)=xs 2∧evX base O xs (.tmp 12)=xs 3∧evX base O xs (.tmp 13)=xs 4∧evX base O xs (.tmp 14)=xs 5∧evX base O xs (.tmp 15)=xs 6∧evX base O xs (.tmp 16)=xs 7∧evX base O xs (.tmp 17)=xs 8∧evX base O xs (.tmp 18)=xs 9∧evX base O xs (.tmp 19)=xs 10∧evX base O xs (.tmp 20)=xs 11∧evX base O xs (.tmp 21)=xs 12∧evX base O xs (.tmp 22)=xs 13∧evX base O xs (.tmp 23)=xs 14):=fun xs=>by rw [hbase,hO];exact⟨rfl,rfl,rfl,rfl,rfl,rfl,rfl,rfl,rfl,rfl,rfl,rfl,rfl,rfl,rfl,rfl,rfl⟩
 clear hbase hO
 apply gh_det (n:=0)
 ·intro fl xs w ev hG hD hl hdone hev K hK
  have e1:=(hev (.tmp 1)).trans ((kx1.out xs).1)
  rw [if_pos (wantedX_none rfl)]
  have ef: ∀ f,ev (.func f)= .func (.func f) #[] #[]:=fun f=>(hev _).trans rfl
  clear hev hD
  go_simp
  exact hK _ _ rfl hG
 apply gh_det (n:=1)
 ·intro fl xs w ev hG hD hl hdone hev K hK
  have e9:=(hev (.tmp 9)).trans ((kx1.out xs).2.2.1)
  have d0:=hD.at_ 0 rfl rfl
  replace e9:=e9.trans d0
  rw [if_pos (wantedX_none rfl)]
  have ef: ∀ f,ev (.func f)= .func (.func f) #[] #[]:=fun f=>(hev _).trans rfl
  clear hev hD
  have m0:=c_ hG.bel l1 r0
  go_simp
  exact hK _ _ rfl hG
 apply gh_det (n:=2)
 ·intro fl xs w ev hG hD hl hdone hev K hK
  have e1:=(hev (.tmp 1)).trans ((kx1.out xs).1)
  rw [if_pos (wantedX_none rfl)]
  have ef: ∀ f,ev (.func f)= .func (.func f) #[] #[]:=fun f=>(hev _).trans rfl
  clear hev hD
  go_simp
  exact hK _ _ rfl hG
 apply gh_det (n:=3)
 ·intro fl xs w ev hG hD hl hdone hev K hK
  have e11:=(hev (.tmp 11)).trans ((kx1.out xs).2.2.2.2.1)
  have d2:=hD.at_ 2 rfl rfl
  replace e11:=e11.trans d2
  rw [if_pos (wantedX_none rfl)]
  have ef: ∀ f,ev (.func f)= .func (.func f) #[] #[]:=fun f=>(hev _).trans rfl
  clear hev hD
  have m0:=c_ hG.bel l1 r7
  go_simp
  exact hK _ _ rfl hG
 refine gh_any (n:=4) (fun _=>True) ?_ ?_
 ·intro fl xs w ev hG hD hl hdone hev K hK
  have e12:=(hev (.tmp 12)).trans ((kx1.out xs).2.2.2.2.2.1)
  have d3:=hD.at_ 3 rfl rfl
  replace e12:=e12.trans d3
  rw [if_pos (wantedX_none rfl)]
  have ef: ∀ f,ev (.func f)= .func (.func f) #[] #[]:=fun f=>(hev _).trans rfl
  clear hev hD
  go_simp
  refine(qP.out w hG.bel).mono ?_
  rintro e w'' ⟨A,c',rfl,ho,hb⟩
  exact⟨_,rfl,hK _ _ trivial (hG.step 0 rfl hl (by simp) hb (own_base ho hG.bel.size) im_nil)⟩
 apply gh_det (n:=5)
 ·intro fl xs w ev hG hD hl hdone hev K hK
  have e1:=(hev (.tmp 1)).trans ((kx1.out xs).1)
  rw [if_pos (wantedX_none rfl)]
  have ef: ∀ f,ev (.func f)= .func (.func f) #[] #[]:=fun f=>(hev _).trans rfl
  clear hev hD
  go_simp
  exact hK _ _ rfl hG
 apply gh_det (n:=6)
 ·intro fl xs w ev hG hD hl hdone hev K hK
  have e14:=(hev (.tmp 14)).trans ((kx1.out xs).2.2.2.2.2.2.2.1)
  have d5:=hD.at_ 5 rfl rfl
  replace e14:=e14.trans d5
  rw [if_pos (wantedX_none rfl)]
  have ef: ∀ f,ev (.func f)= .func (.func f) #[] #[]:=fun f=>(hev _).trans rfl
  clear hev hD
  have m0:=c_ hG.bel l1 r8
  go_simp
  exact hK _ _ rfl hG
 refine gh_any (n:=7) (fun _=>True) ?_ ?_
 ·intro fl xs w ev hG hD hl hdone hev K hK
  have e15:=(hev (.tmp 15)).trans ((kx1.out xs).2.2.2.2.2.2.2.2.1)
  have d6:=hD.at_ 6 rfl rfl
  replace e15:=e15.trans d6
  rw [if_pos (wantedX_none rfl)]
  have ef: ∀ f,ev (.func f)= .func (.func f) #[] #[]:=fun f=>(hev _).trans rfl
  clear hev hD
  go_simp
  refine(qD.out w hG.bel).mono ?_
  rintro e w'' ⟨A,c',rfl,ho,hb⟩
  exact⟨_,rfl,hK _ _ trivial (hG.step 1 rfl hl (by simp) hb (own_base ho hG.bel.size) im_nil)⟩
 apply gh_det (n:=8)
 ·intro fl xs w ev hG hD hl hdone hev K hK
  have e1:=(hev (.tmp 1)).trans ((kx1.out xs).1)
  rw [if_pos (wantedX_none rfl)]
  have ef: ∀ f,ev (.func f)= .func (.func f) #[] #[]:=fun f=>(hev _).trans rfl
  clear hev hD
  go_simp
  exact hK _ _ rfl hG
 apply gh_det (n:=9)
 ·intro fl xs w ev hG hD hl hdone hev K hK
  have e17:=(hev (.tmp 17)).trans ((kx1.out xs).2.2.2.2.2.2.2.2.2.2.1)
  have d8:=hD.at_ 8 rfl rfl
  replace e17:=e17.trans d8
  rw [if_pos (wantedX_none rfl)]
  have ef: ∀ f,ev (.func f)= .func (.func f) #[] #[]:=fun f=>(hev _).trans rfl
  clear hev hD
  have m0:=c_ hG.bel l1 r10
  go_simp
  exact hK _ _ rfl hG
 refine gh_any (n:=10) (fun _=>True) ?_ ?_
 ·intro fl xs w ev hG hD hl hdone hev K hK
  have e18:=(hev (.tmp 18)).trans ((kx1.out xs).2.2.2.2.2.2.2.2.2.2.2.1)
  have d9:=hD.at_ 9 rfl rfl
  replace e18:=e18.trans d9
  rw [if_pos (wantedX_none rfl)]
  have ef: ∀ f,ev (.func f)= .func (.func f) #[] #[]:=fun f=>(hev _).trans rfl
  clear hev hD
  go_simp
  refine(qT.out w hG.bel).mono ?_
  rintro e w'' ⟨A,c',rfl,ho,hb⟩
  exact⟨_,rfl,hK _ _ trivial (hG.step 2 rfl hl (by simp) hb (own_base ho hG.bel.size) im_nil)⟩
 apply gh_det (n:=11)
 ·intro fl xs w ev hG hD hl hdone hev K hK
  have e1:=(hev (.tmp 1)).trans ((kx1.out xs).1)
  rw [if_pos (wantedX_none rfl)]
  have ef: ∀ f,ev (.func f)= .func (.func f) #[] #[]:=fun f=>(hev _).trans rfl
  clear hev hD
  go_simp
  exact hK _ _ rfl hG
 apply gh_det (n:=12)
 ·intro fl xs w ev hG hD hl hdone hev K hK
  have e20:=(hev (.tmp 20)).trans ((kx1.out xs).2.2.2.2.2.2.2.2.2.2.2.2.2.1)
  have d11:=hD.at_ 11 rfl rfl
  replace e20:=e20.trans d11
  rw [if_pos (wantedX_none rfl)]
  have ef: ∀ f,ev (.func f)= .func (.func f) #[] #[]:=fun f=>(hev _).trans rfl
  clear hev hD
  have m0:=c_ hG.bel l1 r11
  go_simp
  exact hK _ _ rfl hG
 refine gh_any (n:=13) (fun _=>True) ?_ ?_
 ·intro fl xs w ev hG hD hl hdone hev K hK
  have e21:=(hev (.tmp 21)).trans ((kx1.out xs).2.2.2.2.2.2.2.2.2.2.2.2.2.2.1)
  have d12:=hD.at_ 12 rfl rfl
  replace e21:=e21.trans d12
  rw [if_pos (wantedX_none rfl)]
  have ef: ∀ f,ev (.func f)= .func (.func f) #[] #[]:=fun f=>(hev _).trans rfl
  clear hev hD
  go_simp
  refine(qH.out w hG.bel).mono ?_
  rintro e w'' ⟨A,c',rfl,ho,hb⟩
  exact⟨_,rfl,hK _ _ trivial (hG.step 3 rfl hl (by simp) hb (own_base ho hG.bel.size) im_nil)⟩
 refine gh_any (n:=14) (fun _=>True) ?_ ?_
 ·intro fl xs w ev hG hD hl hdone hev K hK
  have e10:=(hev (.tmp 10)).trans ((kx1.out xs).2.2.2.1)
  have d1:=hD.at_ 1 rfl rfl
  replace e10:=e10.trans d1
  have e13:=(hev (.tmp 13)).trans ((kx1.out xs).2.2.2.2.2.2.1)
  have e16:=(hev (.tmp 16)).trans ((kx1.out xs).2.2.2.2.2.2.2.2.2.1)
  have e19:=(hev (.tmp 19)).trans ((kx1.out xs).2.2.2.2.2.2.2.2.2.2.2.2.1)
  have e22:=(hev (.tmp 22)).trans ((kx1.out xs).2.2.2.2.2.2.2.2.2.2.2.2.2.2.2.1)
  rw [if_pos (wantedX_none rfl)]
  have ef: ∀ f,ev (.func f)= .func (.func f) #[] #[]:=fun f=>(hev _).trans rfl
  clear hev hD
  obtain⟨wz13,hkz13⟩:=hG.wit 0 rfl (done_of hdone 4 rfl)
  obtain⟨aq13,cq13,hxq13,_⟩:=Rd.of_own tripE_len LP.out hkz13
  rw [hxq13] at e13
  clear hkz13
  obtain⟨wz16,hkz16⟩:=hG.wit 1 rfl (done_of hdone 7 rfl)
  obtain⟨aq16,cq16,hxq16,_⟩:=Rd.of_own doorE_len LD.out hkz16
  rw [hxq16] at e16
  clear hkz16
  obtain⟨wz19,hkz19⟩:=hG.wit 2 rfl (done_of hdone 10 rfl)
  obtain⟨aq19,cq19,hxq19,_⟩:=Rd.of_own tripP_len LT.out hkz19
  rw [hxq19] at e19
  clear hkz19
  obtain⟨wz22,hkz22⟩:=hG.wit 3 rfl (done_of hdone 13 rfl)
  obtain⟨aq22,cq22,hxq22,_⟩:=Rd.of_own hazE_len LH.out hkz22
  rw [hxq22] at e22
  clear hkz22
  have hfin:=hG.built (xb':= .agg (List.toArray [.int .i64 M.hz,.slice none 0 0,.slice none 0 0,.slice none 0 0,.slice none 0 0,.slice none 0 0,.slice none 0 0,(xs 4),(xs 7),.slice none 0 0,(xs 10),(xs 13)])) hl (by simp [done_of hdone 4 rfl,done_of hdone 7 rfl,done_of hdone 10 rfl,done_of hdone 13 rfl]) rfl
  go_simp
  rw [←hxq13]
  rw [←hxq16]
  rw [←hxq19]
  rw [←hxq22]
  exact hK _ _ trivial hfin
 refine gh_any (n:=15) (fun _=>True) ?_ ?_
 ·intro fl xs w ev hG hD hl hdone hev K hK
  rw [if_pos (wantedX_none rfl)]
  have ef: ∀ f,ev (.func f)= .func (.func f) #[] #[]:=fun f=>(hev _).trans rfl
  clear hev hD
  have hfin:=hG.bel.size
  go_simp
  exact hK _ _ trivial (hG.stepO 4 rfl hl (below_alloc _ _ _) ⟨_,rfl,hfin,Bx.new w _ _⟩ im_nil)
 refine gh_any (n:=16) (fun _=>True) ?_ ?_
 ·intro fl xs w ev hG hD hl hdone hev K hK
  have e4:=(hev (.tmp 4)).trans ((kx1.out xs).2.1)
  have e23:=(hev (.tmp 23)).trans ((kx1.out xs).2.2.2.2.2.2.2.2.2.2.2.2.2.2.2.2)
  rw [if_pos (wantedX_none rfl)]
  have ef: ∀ f,ev (.func f)= .func (.func f) #[] #[]:=fun f=>(hev _).trans rfl
  clear hev hD
  have hGL:=hG.ini hl
  obtain⟨gq,hgq,hq0,hbq⟩:=hGL.get 4 rfl (done_of hdone 15 rfl)
  obtain⟨hdeps,hbd⟩:=hG.bd (done_of hdone 14 rfl)
  obtain⟨aq13,cq13,hxq13,_⟩:=Rd.of_own tripE_len LP.out (hGL.get 0 rfl (hdeps _ (by simp)))
  obtain⟨aq16,cq16,hxq16,_⟩:=Rd.of_own doorE_len LD.out (hGL.get 1 rfl (hdeps _ (by simp)))
  obtain⟨aq19,cq19,hxq19,_⟩:=Rd.of_own tripP_len LT.out (hGL.get 2 rfl (hdeps _ (by simp)))
  obtain⟨aq22,cq22,hxq22,_⟩:=Rd.of_own hazE_len LH.out (hGL.get 3 rfl (hdeps _ (by simp)))
  have hall: ∀ e∈[fl 4,fl 7,fl 10,fl 13,fl 15],e=true:=by simp [done_of hdone 15 rfl,hdeps (fl 4) (by simp),hdeps (fl 7) (by simp),hdeps (fl 10) (by simp),hdeps (fl 13) (by simp)]
  exact outcome_store (.tmp 4) (.tmp 23) 31 rfl (e4.trans hgq) (e23.trans hbd) hbq (by kernel_rfl) rfl (by simp [hxq13,hxq16,hxq19,hxq22,Value.oneCell']) (fun w' hB hBut=>hK _ _ trivial (hG.put hl (done_of hdone 14 rfl) (by simpa using hall) hgq hq0 hbq.lt hB hBut))
 clear kx1
 intro xs wo hG hI
 clear hI
 have hbelo:=hG.bel
 obtain⟨wao,bo,hGLo,hgoo,hbno,hblo,hbxo,hbuto⟩:=hG.fin rfl
 clear hG
 have q0o:=hGLo.get 0 rfl rfl
 have q1o:=hGLo.get 1 rfl rfl
 have q2o:=hGLo.get 2 rfl rfl
 have q3o:=hGLo.get 3 rfl rfl
 have q4o:=hGLo.get 4 rfl rfl
 simp only [List.append_eq,List.cons_append,List.nil_append,setAll,List.setIfInBounds_toArray,List.set_cons_zero,List.set_cons_succ,Nat.zero_add,Nat.reduceAdd]
 obtain⟨gz,hgz,_,hBz⟩:=q4o
 rw [hgoo] at hgz
 cases hgz
 have o0:=own_box q0o hBz (by decide) hbuto
 have o1:=own_box q1o hBz (by decide) hbuto
 have o2:=own_box q2o hBz (by decide) hbuto
 have o3:=own_box q3o hBz (by decide) hbuto
 obtain⟨EP,kP,eP,_⟩:=Rd.of_own tripE_len LP.out o0
 obtain⟨ED,kD,eD,_⟩:=Rd.of_own doorE_len LD.out o1
 obtain⟨ET,kT,eT,_⟩:=Rd.of_own tripP_len LT.out o2
 obtain⟨EH,kH,eH,_⟩:=Rd.of_own hazE_len LH.out o3
 rw [eP] at o0 hbxo
 rw [eD] at o1 hbxo
 rw [eT] at o2 hbxo
 rw [eH] at o3 hbxo
 have hb0:=hbN.out.size
 have NS0:NSt we wn wo bo [.int .i64 M.hz,.slice none 0 0,.slice none 0 0,.slice none 0 0,.slice none 0 0,.slice none 0 0,.slice none 0 0,.slice EP nP kP,.slice ED nD kD,.slice none 0 0,.slice ET nT kT,.slice EH nH kH] [] [] []:=⟨b_ hbN hbelo,But.of_below hbelo _,hbxo,fun r hr=>(by cases hr),RowsG.nil⟩
 have NSx:=Lib.hid ((((NS0.add o0 hb0 (by decide)).add o1 hb0 (by decide)).add o2 hb0 (by decide)).add o3 hb0 (by decide))
 have hbw:=Lib.hid hbelo
 have hbnH:=Lib.hid hbno
 have hwoS:Hid (wn.heap.size≤wo.heap.size):=hbelo.size
 have z0:=c_ hbelo ln y0
 have z1:=c_ hbelo ln y1
 have z2:=c_ hbelo ln y2
 have z3:=c_ hbelo ln y3
 have z4:=c_ hbelo ln y4
 have z5:=c_ hbelo ln y5
 have lno:=Nat.lt_of_lt_of_le ln hbelo.size
 simp only [eP,eD,eT,eH,hgoo]
 obtain⟨wi0,hwi0⟩: ∃ q,q=wo:=⟨_,rfl⟩
 subst hwi0
 clear o0 o1 o2 o3 eP eD eT eH hBz hgoo hbxo hbuto hblo hbelo hbno hGLo q0o q1o q2o q3o NS0 r0 r1 r2 r3 r4 r5 r6 r7 r8 r10 r11 qP qD qT qH
 clear y0 y1 y2 y3 y4 y5
 go_wp2_with fail
 go_upto_region 3 with fail
 refine wp_region_lateM wi0.heap.size [0,0,3,0,0,3,0,0,3,0,0,3,0,0,3,0,0,3,4,2,2] (by kernel_rfl) (by kernel_rfl) (Nat.le_refl _) ?_
 intro C hC
 simp only [pickK,pickT,Nat.reduceLeDiff,Nat.reduceEqDiff, ↓reduceIte]
 repeat(go_big_quiet_step (first
  |(intro _;with_reducible rfl)
  |(intro hc
    have m0:=c_ hc lno z0
    have m1:=c_ hc lno z1
    have m2:=c_ hc lno z2
    have m3:=c_ hc lno z3
    have m4:=c_ hc lno z4
    have m5:=c_ hc lno z5
    simp only [m0,m1,m2,m3,m4,m5,Result.andThen]
    exact⟨trivial,rfl⟩)))
 refine wpQuiet_nil ?_
 clear hC
 intro C' hC'
 refine wpQuiet_nil ?_
 clear hC'
 intro wq hbq
 replace hbq:Below wi0.heap.size wi0 wq:=by rw [hbq];exact⟨rfl,rfl,rfl,Nat.le_refl _,fun _ _=>rfl⟩
 have cq:=Lib.hid hbq
 have NSq:=Lib.hid (NSx.out.go hbq)
 clear hbq NSx z0 z1 z2 z3 z4 z5 lno
 refine wpTail4_one (by decide) ?_
 go_wp2_with fail
 refine(q0.out wq (hbw.out.trans (cq.out.mono hwoS.out))).mono ?_;rintro e ws0 ⟨B0,x0,rfl,ho,hb⟩
 have cs0:Hid (Below wi0.heap.size wi0 ws0):=b_ cq hb
 have NSs0:=Lib.hid ((NSq.out.go hb).add ho NSq.out.bel.size (by decide))
 clear ho hb q0 NSq cq
 go_wp2_with fail
 refine⟨fun _=>cs0.out,?_⟩
 refine wpTail4_one (by decide) ?_
 go_wp2_with fail
 refine(q1.out ws0 (hbw.out.trans (cs0.out.mono hwoS.out))).mono ?_;rintro e ws1 ⟨B1,x1,rfl,ho,hb⟩
 have cs1:Hid (Below wi0.heap.size wi0 ws1):=b_ cs0 hb
 have NSs1:=Lib.hid ((NSs0.out.go hb).add ho NSs0.out.bel.size (by decide))
 clear ho hb q1 NSs0 cs0
 go_wp2_with fail
 refine⟨fun _=>cs1.out,?_⟩
 refine wpTail4_one (by decide) ?_
 go_wp2_with fail
 refine(q2.out ws1 (hbw.out.trans (cs1.out.mono hwoS.out))).mono ?_;rintro e ws2 ⟨B2,x2,rfl,ho,hb⟩
 have cs2:Hid (Below wi0.heap.size wi0 ws2):=b_ cs1 hb
 have NSs2:=Lib.hid ((NSs1.out.go hb).add ho NSs1.out.bel.size (by decide))
 clear ho hb q2 NSs1 cs1
 go_wp2_with fail
 refine⟨fun _=>cs2.out,?_⟩
 refine wpTail4_one (by decide) ?_
 go_wp2_with fail
 refine(q3.out ws2 (hbw.out.trans (cs2.out.mono hwoS.out))).mono ?_;rintro e ws3 ⟨B3,x3,rfl,ho,hb⟩
 have cs3:Hid (Below wi0.heap.size wi0 ws3):=b_ cs2 hb
 have NSs3:=Lib.hid ((NSs2.out.go hb).add ho NSs2.out.bel.size (by decide))
 clear ho hb q3 NSs2 cs2
 go_wp2_with fail
 refine⟨fun _=>cs3.out,?_⟩
 refine wpTail4_one (by decide) ?_
 go_wp2_with fail
 refine(q4.out ws3 (hbw.out.trans (cs3.out.mono hwoS.out))).mono ?_;rintro e ws4 ⟨B4,x4,rfl,ho,hb⟩
 have cs4:Hid (Below wi0.heap.size wi0 ws4):=b_ cs3 hb
 have NSs4:=Lib.hid ((NSs3.out.go hb).add ho NSs3.out.bel.size (by decide))
 clear ho hb q4 NSs3 cs3
 go_wp2_with fail
 refine⟨fun _=>cs4.out,?_⟩
 refine wpTail4_one (by decide) ?_
 go_wp2_with fail
 refine(q5.out ws4 (hbw.out.trans (cs4.out.mono hwoS.out))).mono ?_;rintro e ws5 ⟨B5,x5,rfl,ho,hb⟩
 have cs5:Hid (Below wi0.heap.size wi0 ws5):=b_ cs4 hb
 have NSs5:=Lib.hid ((NSs4.out.go hb).add ho NSs4.out.bel.size (by decide))
 clear ho hb q5 NSs4 cs4
 go_wp2_with fail
 refine⟨fun _=>cs5.out,?_⟩
 refine wpTail4_quiet ?_
 intro C' hC'
 repeat(go_big_quiet_step (first|(intro _;with_reducible rfl)))
 refine wpQuiet_nil ?_
 clear hC'
 have hbx:=NSs5.out.bx
 have k1:=hbx.cell 1 rfl
 have f1:=hbx.frozen 1
 have k2:=hbx.cell 2 rfl
 have f2:=hbx.frozen 2
 have k3:=hbx.cell 3 rfl
 have f3:=hbx.frozen 3
 have k4:=hbx.cell 4 rfl
 have f4:=hbx.frozen 4
 have k5:=hbx.cell 5 rfl
 have f5:=hbx.frozen 5
 have k6:=hbx.cell 6 rfl
 have f6:=hbx.frozen 6
 have lbo:=hbx.lt
 have hgbo:we.heap.size≤bo:=Nat.le_trans hbN.out.size hbnH.out
 have N7:=((((((NSs5.out.set hgbo 1 (.slice B0 n0 x0)).set hgbo 2 (.slice B1 n1 x1)).set hgbo 3 (.slice B2 n2 x2)).set hgbo 4 (.slice B3 n3 x3)).set hgbo 5 (.slice B4 n4 x4)).set hgbo 6 (.slice B5 n5 x5))
 obtain⟨wS,hwS⟩: ∃ q,(((((ws5.setCell ⟨bo,1,none⟩ (.slice B0 n0 x0)).setCell ⟨bo,2,none⟩ (.slice B1 n1 x1)).setCell ⟨bo,3,none⟩ (.slice B2 n2 x2)).setCell ⟨bo,4,none⟩ (.slice B3 n3 x3)).setCell ⟨bo,5,none⟩ (.slice B4 n4 x4)).setCell ⟨bo,6,none⟩ (.slice B5 n5 x5)=q:=⟨_,rfl⟩
 rw [hwS] at N7
 have N8:NSt we wn wS bo [.int .i64 M.hz,.slice B0 n0 x0,.slice B1 n1 x1,.slice B2 n2 x2,.slice B3 n3 x3,.slice B4 n4 x4,.slice B5 n5 x5,.slice EP nP kP,.slice ED nD kD,.slice none 0 0,.slice ET nT kT,.slice EH nH kH] [(9,1,.slice B5 n5 x5,n5,M.nHazs.flatMap strE),(9,1,.slice B4 n4 x4,n4,M.nTrips.flatMap strE),(9,1,.slice B3 n3 x3,n3,M.nRoutes.flatMap strE),(9,1,.slice B2 n2 x2,n2,M.nDoors.flatMap strE),(9,1,.slice B1 n1 x1,n1,M.nPaths.flatMap strE),(9,1,.slice B0 n0 x0,n0,M.stops.flatMap strE),(108,5,.slice EH nH kH,nH,M.hazs.flatMap hazE),(53,4,.slice ET nT kT,nT,M.trips.flatMap tripP),(104,6,.slice ED nD kD,nD,M.doors.flatMap doorE),(99,3,.slice EP nP kP,nP,M.paths.flatMap tripE)] [] []:=N7
 have N9:Hid (NSt we wn wS bo [.int .i64 M.hz,.slice B0 n0 x0,.slice B1 n1 x1,.slice B2 n2 x2,.slice B3 n3 x3,.slice B4 n4 x4,.slice B5 n5 x5,.slice EP nP kP,.slice ED nD kD,.slice none 0 0,.slice ET nT kT,.slice EH nH kH] [(9,1,.slice B5 n5 x5,n5,M.nHazs.flatMap strE),(9,1,.slice B4 n4 x4,n4,M.nTrips.flatMap strE),(9,1,.slice B3 n3 x3,n3,M.nRoutes.flatMap strE),(9,1,.slice B2 n2 x2,n2,M.nDoors.flatMap strE),(9,1,.slice B1 n1 x1,n1,M.nPaths.flatMap strE),(9,1,.slice B0 n0 x0,n0,M.stops.flatMap strE),(108,5,.slice EH nH kH,nH,M.hazs.flatMap hazE),(53,4,.slice ET nT kT,nT,M.trips.flatMap tripP),(104,6,.slice ED nD kD,nD,M.doors.flatMap doorE),(99,3,.slice EP nP kP,nP,M.paths.flatMap tripE)] [] (M.routes.take 0)):=N8
 have own0:Hid (wS.ownsRow wn.heap.size 51 3 (.slice none 0 0) 0 (([]:List RE3).flatMap re3E)):=World.ownsRow_nil _ _ _ _
 clear N7 N8 NSs5 cs5 hbx
 refine wpTail4_list _ _ _ (by simp) ?_
 simp only [List.map_cons,List.map_nil]
 go_wp2_with fail
 clear hwS k1 k2 k3 k4 k5 k6 f1 f2 f3 f4 f5 f6 lbo hbw hwoS hgbo
 go_loopw [5] (fun iv wr=> ∃ (i:Nat) (Au:Option Addr) (cu:Nat) (L:List RE3),i≤nR∧iv= .int .i64 i∧Hid (NSt we wn wr bo [.int .i64 M.hz,.slice B0 n0 x0,.slice B1 n1 x1,.slice B2 n2 x2,.slice B3 n3 x3,.slice B4 n4 x4,.slice B5 n5 x5,.slice EP nP kP,.slice ED nD kD,.slice Au i cu,.slice ET nT kT,.slice EH nH kH] [(9,1,.slice B5 n5 x5,n5,M.nHazs.flatMap strE),(9,1,.slice B4 n4 x4,n4,M.nTrips.flatMap strE),(9,1,.slice B3 n3 x3,n3,M.nRoutes.flatMap strE),(9,1,.slice B2 n2 x2,n2,M.nDoors.flatMap strE),(9,1,.slice B1 n1 x1,n1,M.nPaths.flatMap strE),(9,1,.slice B0 n0 x0,n0,M.stops.flatMap strE),(108,5,.slice EH nH kH,nH,M.hazs.flatMap hazE),(53,4,.slice ET nT kT,nT,M.trips.flatMap tripP),(104,6,.slice ED nD kD,nD,M.doors.flatMap doorE),(99,3,.slice EP nP kP,nP,M.paths.flatMap tripE)] L (M.routes.take i))∧Hid (wr.ownsRow wn.heap.size 51 3 (.slice Au i cu) i (L.flatMap re3E))) (fun iv _=>nR-(intOf iv).toNat)
 case atStart=>exact⟨0,none,0,[],Nat.zero_le _,rfl,N9,own0⟩
 case round=>
  clear N9 own0
  obtain⟨i,Au,cu,L,hi,rfl,hN,own⟩:=hrel
  have hNw:=Lib.hid (hN.out.but.below (Nat.le_refl _) (fun x hx=>by simp only [List.mem_singleton] at hx;subst hx;exact hbnH.out))
  have x9:=c_ hNw.out l1 r9
  have hLl:L.length=i:=by rw [hN.out.rt.len,List.length_take,LR'.out];omega
  by_cases hin:i<nR
  ·have hinI:(i:Int)<(nR:Int):=by omega
   obtain⟨b,o,r,rfl,hbs,hx,⟨s0,e0,d0,g0,rd0,_⟩,⟨s1,e1,d1,g1,rd1,_⟩,⟨s2,e2,d2,g2,rd2,_⟩⟩:=(hlow.out wn (Below.refl _ _)).rR.get hin
   have hsl:=hsr.out r (List.mem_of_getElem? hx)
   obtain rfl:r.stops.length=e0:=rd0.len
   obtain rfl:r.rides.length=e1:=rd1.len
   obtain rfl:r.stays.length=e2:=rd2.len
   have htk:Hid (M.routes.take (i+1)=M.routes.take i++[r]):=take_at hx
   have f0:=c_ hNw.out hbs g0
   have f1:=c_ hNw.out hbs g1
   have f2:=c_ hNw.out hbs g2
   obtain⟨wx,bx,hwxX,hbxE,hbwx,Bwx⟩:=box1 wr 51 [.slice s0 r.stops.length d0,.slice s1 r.rides.length d1,.slice s2 r.stays.length d2]
   obtain⟨h0,h1,h2⟩:=c_3 Bwx
   have lbx:=Bwx.lt
   have Nx:=Lib.hid (hN.out.go hbwx)
   have ownx:=Lib.hid (own_below own.out hbwx)
   have hwx:=h_ hNw hbwx
   have u9:=Nx.out.bx.cell 9 rfl
   have lbo:=Nx.out.bx.lt
   have RD0:=Lib.hid rd0
   have RD1:=Lib.hid rd1
   have RD2:=Lib.hid rd2
   have hsz0:r.stops.length≤100000:=hsl.1
   have hsz1:r.rides.length≤100000:=hsl.2.1
   have hsz2:r.stays.length≤100000:=hsl.2.2
   clear hN own Bwx hbwx hNw g0 g1 g2 rd0 rd1 rd2 hx hsl
   go_wp2_with fail
   clear hwxX hbxE f0 f1 f2 x9
   go_wp2_with fail
   go_upto_region 8 with fail
   refine wp_region_lateM wx.heap.size [0,0,0,0,3,0,0,3,0,0,3,4,2,2,2,2] (by kernel_rfl) (by kernel_rfl) (Nat.le_refl _) ?_
   intro C hC
   simp only [pickK,pickT,Nat.reduceLeDiff,Nat.reduceEqDiff, ↓reduceIte]
   repeat(go_big_quiet_step (first
    |(intro _;with_reducible rfl)
    |(intro hc
      have m0:=c_ hc lbo u9
      have m1:=c_ hc lbx h0
      have m2:=c_ hc lbx h1
      have m3:=c_ hc lbx h2
      simp only [m0,m1,m2,m3,Result.andThen]
      exact⟨trivial,rfl⟩)))
   refine wpQuiet_nil ?_
   clear hC
   intro C' hC'
   refine wpQuiet_nil ?_
   clear hC'
   intro wq hbq
   replace hbq:Below wx.heap.size wx wq:=by rw [hbq];exact⟨rfl,rfl,rfl,Nat.le_refl _,fun _ _=>rfl⟩
   have cq:=Lib.hid hbq
   have Nq:=Lib.hid (Nx.out.go hbq)
   have ownq:=Lib.hid (own_below ownx.out hbq)
   have hq:=h_ hwx hbq
   clear hbq Nx ownx h0 h1 h2 u9 lbx lbo
   refine wpTail4_one (by decide) ?_
   go_wp2_with fail
   refine(ownI_any s0 r.stops.length d0 r.stops wq (RD0.out.below hq.out) (by omega)).mono ?_;rintro e wc0 ⟨V0,y0,rfl,ho,hb⟩
   have cc0:Hid (Below wx.heap.size wx wc0):=b_ cq hb
   have Nc0:=Lib.hid (Nq.out.go hb)
   have ownc0:=Lib.hid (own_below ownq.out hb)
   have hc0:=h_ hq hb
   have O0:=Lib.hid (own_base ho Nq.out.bel.size)
   clear ho hb Nq ownq hq cq RD0
   go_wp2_with fail
   refine⟨fun _=>cc0.out,?_⟩
   refine wpTail4_one (by decide) ?_
   go_wp2_with fail
   refine(ownN_any s1 r.rides.length d1 r.rides wc0 (RD1.out.below hc0.out) (by omega)).mono ?_;rintro e wc1 ⟨V1,y1,rfl,ho,hb⟩
   have cc1:Hid (Below wx.heap.size wx wc1):=b_ cc0 hb
   have Nc1:=Lib.hid (Nc0.out.go hb)
   have ownc1:=Lib.hid (own_below ownc0.out hb)
   have hc1:=h_ hc0 hb
   have O1:=Lib.hid (own_base ho Nc0.out.bel.size)
   have o0:=Lib.hid (own_below O0.out hb)
   clear ho hb Nc0 ownc0 hc0 cc0 RD1 O0
   have O0:=o0
   clear o0
   go_wp2_with fail
   refine⟨fun _=>cc1.out,?_⟩
   refine wpTail4_one (by decide) ?_
   go_wp2_with fail
   refine(ownN_any s2 r.stays.length d2 r.stays wc1 (RD2.out.below hc1.out) (by omega)).mono ?_;rintro e wc2 ⟨V2,y2,rfl,ho,hb⟩
   have cc2:Hid (Below wx.heap.size wx wc2):=b_ cc1 hb
   have Nc2:=Lib.hid (Nc1.out.go hb)
   have ownc2:=Lib.hid (own_below ownc1.out hb)
   have hc2:=h_ hc1 hb
   have O2:=Lib.hid (own_base ho Nc1.out.bel.size)
   have o0:=Lib.hid (own_below O0.out hb)
   have o1:=Lib.hid (own_below O1.out hb)
   clear ho hb Nc1 ownc1 hc1 cc1 RD2 O0 O1
   have O0:=o0
   clear o0
   have O1:=o1
   clear o1
   go_wp2_with fail
   refine⟨fun _=>cc2.out,?_⟩
   refine wpTail4_quiet ?_
   intro C' hC'
   repeat(go_big_quiet_step (first|(intro _;with_reducible rfl)))
   refine wpQuiet_nil ?_
   clear hC'
   have ha:=(Below.refl wc2.heap.size wc2).alloc (Nat.le_refl _) (.cells (re3E ((V0,r.stops.length,y0),(V1,r.rides.length,y1),(V2,r.stays.length,y2))).toArray 51)
   have ownl:wc2.ownsRow wn.heap.size 51 3 (.slice Au i cu) L.length (L.flatMap re3E):=by rw [hLl];exact ownc2.out
   obtain⟨g,c8,w8,hrun8,own8,hgr8,hg8⟩:=append_one (enc:=re3E) Tryz.underlying27 info_tRoute rfl (by decide) re3E_len re3E_one wc2 wn.heap.size (.slice Au i cu) L ((V0,r.stops.length,y0),(V1,r.rides.length,y1),(V2,r.stays.length,y2)) ownl (by rw [hLl];omega) (by decide) hc2.out.size
   have hrt:RouT we.heap.size w8 ((V0,r.stops.length,y0),(V1,r.rides.length,y1),(V2,r.stays.length,y2)) r:=by
    have key: ∀ {size n:Nat} {e:TypeId} {v:Value} {xs:List Value},wc2.ownsRow we.heap.size e size v n xs→e≠51→w8.ownsRow we.heap.size e size v n xs:=fun {size n e v xs} h3 he=>by
     refine World.ownsRow.kept (own_below h3 ha) hgr8 ?_
     cases hq:v.ownBlock with
     |none=>exact .inl rfl
     |some q=>exact .inr fun h0=>own_ne (own_below ownl ha) (own_below h3 ha) (k:=q) he hq h0
    exact⟨key O0.out (by decide),key O1.out (by decide),key O2.out (by decide)⟩
   have N8':=(Nc2.out.go ha).grown (own_below ownl ha) hbN.out.size (Nat.le_trans hc2.out.size ha.size) hgr8 (fun r hr=>by simp at hr;rcases hr with rfl|rfl|rfl|rfl|rfl|rfl|rfl|rfl|rfl|rfl<;>(dsimp only;decide))
   have N8:NSt we wn w8 bo [.int .i64 M.hz,.slice B0 n0 x0,.slice B1 n1 x1,.slice B2 n2 x2,.slice B3 n3 x3,.slice B4 n4 x4,.slice B5 n5 x5,.slice EP nP kP,.slice ED nD kD,.slice Au i cu,.slice ET nT kT,.slice EH nH kH] [(9,1,.slice B5 n5 x5,n5,M.nHazs.flatMap strE),(9,1,.slice B4 n4 x4,n4,M.nTrips.flatMap strE),(9,1,.slice B3 n3 x3,n3,M.nRoutes.flatMap strE),(9,1,.slice B2 n2 x2,n2,M.nDoors.flatMap strE),(9,1,.slice B1 n1 x1,n1,M.nPaths.flatMap strE),(9,1,.slice B0 n0 x0,n0,M.stops.flatMap strE),(108,5,.slice EH nH kH,nH,M.hazs.flatMap hazE),(53,4,.slice ET nT kT,nT,M.trips.flatMap tripP),(104,6,.slice ED nD kD,nD,M.doors.flatMap doorE),(99,3,.slice EP nP kP,nP,M.paths.flatMap tripE)] (L++[((V0,r.stops.length,y0),(V1,r.rides.length,y1),(V2,r.stays.length,y2))]) (M.routes.take (i+1)):=⟨N8'.bel,N8'.but,N8'.bx,N8'.own,by rw [htk.out];exact N8'.rt.snoc hrt⟩
   have c9:=N8.bx.cell 9 rfl
   have f9:=N8.bx.frozen 9
   have lb9:=N8.bx.lt
   rw [List.length_append,List.length_singleton,hLl] at own8
   have own9:=own_box own8 N8.bx (by decide) (But.of_set w8 ⟨bo,9,none⟩ (.slice (some ⟨g,0,none⟩) (i+1) c8) (by simp))
   have N9:=N8.set (Nat.le_trans hbN.out.size hbnH.out) 9 (.slice (some ⟨g,0,none⟩) (i+1) c8)
   obtain⟨w9,hw9⟩: ∃ q,w8.setCell ⟨bo,9,none⟩ (.slice (some ⟨g,0,none⟩) (i+1) c8)=q:=⟨_,rfl⟩
   rw [hw9] at own9 N9
   have N10:Hid (NSt we wn w9 bo [.int .i64 M.hz,.slice B0 n0 x0,.slice B1 n1 x1,.slice B2 n2 x2,.slice B3 n3 x3,.slice B4 n4 x4,.slice B5 n5 x5,.slice EP nP kP,.slice ED nD kD,.slice (some ⟨g,0,none⟩) (i+1) c8,.slice ET nT kT,.slice EH nH kH] [(9,1,.slice B5 n5 x5,n5,M.nHazs.flatMap strE),(9,1,.slice B4 n4 x4,n4,M.nTrips.flatMap strE),(9,1,.slice B3 n3 x3,n3,M.nRoutes.flatMap strE),(9,1,.slice B2 n2 x2,n2,M.nDoors.flatMap strE),(9,1,.slice B1 n1 x1,n1,M.nPaths.flatMap strE),(9,1,.slice B0 n0 x0,n0,M.stops.flatMap strE),(108,5,.slice EH nH kH,nH,M.hazs.flatMap hazE),(53,4,.slice ET nT kT,nT,M.trips.flatMap tripP),(104,6,.slice ED nD kD,nD,M.doors.flatMap doorE),(99,3,.slice EP nP kP,nP,M.paths.flatMap tripE)] (L++[((V0,r.stops.length,y0),(V1,r.rides.length,y1),(V2,r.stays.length,y2))]) (M.routes.take (i+1))):=N9
   have own10:=Lib.hid own9
   rw [hLl] at hrun8
   simp only [re3E,SlV.v] at hrun8
   clear own8 own9 N8 N9 N8' hrt hgr8 hg8 ownl ha O0 O1 O2 Nc2 ownc2 cc2
   refine wpTail4_list _ _ _ (by simp) ?_
   simp only [List.map_cons,List.map_nil]
   go_wp2_with (at_builtin;refine wpList_append_run ?P1 (.tmp 57) (.tmp 68) 27 ?P2 ?P3 ?P4 hrun8 ?_)
   all_goals try rfl
   go_roundw
   case rel=>exact⟨i+1,_,_,_,by omega,by go_num,N10,own10⟩
   case measure=>simp [intOf];omega
  ·obtain rfl:i=nR:=by omega
   have hbx:=hN.out.bx
   obtain⟨k0,k1,k2,k3,k4,k5,k6,k7,k8,k9,k10,k11⟩:=c_12 hbx
   have hBq:=hB2.out.below hNw.out
   obtain⟨hBF,hbF⟩:=hBq.row [.int .i64 M.hz,.slice B0 n0 x0,.slice B1 n1 x1,.slice B2 n2 x2,.slice B3 n3 x3,.slice B4 n4 x4,.slice B5 n5 x5,.slice EP nP kP,.slice ED nD kD,.slice Au i cu,.slice ET nT kT,.slice EH nH kH]
   obtain⟨wF,hwF⟩: ∃ q,wr.setRow b2 (List.toArray [.int .i64 M.hz,.slice B0 n0 x0,.slice B1 n1 x1,.slice B2 n2 x2,.slice B3 n3 x3,.slice B4 n4 x4,.slice B5 n5 x5,.slice EP nP kP,.slice ED nD kD,.slice Au i cu,.slice ET nT kT,.slice EH nH kH])=q:=⟨_,rfl⟩
   rw [hwF] at hBF hbF
   have hfin:Hid (Below we.heap.size we wF):=hN.out.bel.trans (hbF.below hN.out.bel.size (fun x hx=>by simp only [List.mem_singleton] at hx;subst hx;exact hge2.out))
   have hrw:Hid (RW wF M ⟨B0,B1,B2,B3,B4,B5,EP,ED,Au,ET,EH,n0,n1,n2,n3,n4,n5,nP,nD,i,nT,nH,x0,x1,x2,x3,x4,x5,kP,kD,cu,kT,kH⟩):=by
    have s0:=own_rd (own_box (hN.out.own (9,1,.slice B0 n0 x0,n0,M.stops.flatMap strE) (by simp)).2 hBq (hN.out.own (9,1,.slice B0 n0 x0,n0,M.stops.flatMap strE) (by simp)).1.symm hbF) strE_len L0.out
    have s1:=own_rd (own_box (hN.out.own (9,1,.slice B1 n1 x1,n1,M.nPaths.flatMap strE) (by simp)).2 hBq (hN.out.own (9,1,.slice B1 n1 x1,n1,M.nPaths.flatMap strE) (by simp)).1.symm hbF) strE_len L1.out
    have s2:=own_rd (own_box (hN.out.own (9,1,.slice B2 n2 x2,n2,M.nDoors.flatMap strE) (by simp)).2 hBq (hN.out.own (9,1,.slice B2 n2 x2,n2,M.nDoors.flatMap strE) (by simp)).1.symm hbF) strE_len L2'.out
    have s3:=own_rd (own_box (hN.out.own (9,1,.slice B3 n3 x3,n3,M.nRoutes.flatMap strE) (by simp)).2 hBq (hN.out.own (9,1,.slice B3 n3 x3,n3,M.nRoutes.flatMap strE) (by simp)).1.symm hbF) strE_len L3.out
    have s4:=own_rd (own_box (hN.out.own (9,1,.slice B4 n4 x4,n4,M.nTrips.flatMap strE) (by simp)).2 hBq (hN.out.own (9,1,.slice B4 n4 x4,n4,M.nTrips.flatMap strE) (by simp)).1.symm hbF) strE_len L4.out
    have s5:=own_rd (own_box (hN.out.own (9,1,.slice B5 n5 x5,n5,M.nHazs.flatMap strE) (by simp)).2 hBq (hN.out.own (9,1,.slice B5 n5 x5,n5,M.nHazs.flatMap strE) (by simp)).1.symm hbF) strE_len L5.out
    have sP:=own_rd (own_box (hN.out.own (99,3,.slice EP nP kP,nP,M.paths.flatMap tripE) (by simp)).2 hBq (hN.out.own (99,3,.slice EP nP kP,nP,M.paths.flatMap tripE) (by simp)).1.symm hbF) tripE_len LP.out
    have sD:=own_rd (own_box (hN.out.own (104,6,.slice ED nD kD,nD,M.doors.flatMap doorE) (by simp)).2 hBq (hN.out.own (104,6,.slice ED nD kD,nD,M.doors.flatMap doorE) (by simp)).1.symm hbF) doorE_len LD.out
    have sT:=own_rd (own_box (hN.out.own (53,4,.slice ET nT kT,nT,M.trips.flatMap tripP) (by simp)).2 hBq (hN.out.own (53,4,.slice ET nT kT,nT,M.trips.flatMap tripP) (by simp)).1.symm hbF) tripP_len LT.out
    have sH:=own_rd (own_box (hN.out.own (108,5,.slice EH nH kH,nH,M.hazs.flatMap hazE) (by simp)).2 hBq (hN.out.own (108,5,.slice EH nH kH,nH,M.hazs.flatMap hazE) (by simp)).1.symm hbF) hazE_len LH.out
    have rr:=RowsG.routes (hN.out.rt.up fun e r he=>he.up fun _ e' _ _ _ _ ht _ ho=>own_box ho hBq (by rcases ht with rfl|rfl<;>decide) hbF) (own_rd (own_box own.out hBq (by decide) hbF) re3E_len hLl)
    rw [List.take_of_length_le (by rw [LR'.out];exact Nat.le_refl _)] at rr
    exact⟨s0,s1,s2,s3,s4,s5,sP,sD,rr,sT,sH⟩
   replace hBF:=Lib.hid hBF
   have hBq:=Lib.hid hBq
   rename_i bqX
   clear hN own hbx hbF hNw
   go_wp2_with (refine wpList_store_bx (.tmp 2) (.tmp 71) 31 rfl rfl rfl rfl hBq.out (by kernel_rfl) rfl rfl hwF ?_)
   refine bodyPost_bx (s:=2) (t:=31) rfl rfl hBF.out (by kernel_rfl) (by kernel_rfl) rfl ?_
   exact⟨_,rfl,hrw.out,hfin.out⟩
end Go.Proofs.YtechdefolfboeaaGreatDoor
