/- Merged. -/
import Derived.Shelf.SlSortCmp.NoneTotal
import Derived.Test.YtechdefolfboeaaGreatDoorPo27
import Derived.Test.YtechdefolfboeaaGreatDoorPo28
set_option linter.unusedVariables false
set_option linter.unusedSimpArgs false
set_option maxRecDepth 100000
set_option maxHeartbeats 2000000
namespace Go.Proofs.YtechdefolfboeaaGreatDoor
open Go.Shelf
def sortCL_ren:Go.Shelf.Ren:=⟨fun|6=>100|15=>114|14=>139|28=>155|29=>156|20=>204|21=>205|22=>206|23=>207|24=>208|25=>209|26=>210|27=>211|46=>239|47=>223|48=>224|49=>240|50=>241|57=>249|n=>n,fun|22=>86|24=>88|25=>92|3=>3|39=>151|0=>0|53=>197|55=>199|4=>4|46=>190|45=>189|50=>194|5=>5|9=>9|66=>263|70=>267|76=>287|77=>74|n=>n,fun|n=>n⟩
theorem sortCL:Go.Proofs.SlLaysF0.n6 Tryz.prog sortCL_ren:={
 mixed:=by kernel_rfl
 f6:=⟨Tryz.f100.name,by decide,Tryz.func100.trans (congrArg some (by kernel_rfl))⟩
 f14:=⟨Tryz.f139.name,by decide,Tryz.func139.trans (congrArg some (by kernel_rfl))⟩
 f15:=Tryz.func114.trans (congrArg some (by kernel_rfl))
 f20:=⟨Tryz.f204.name,by decide,Tryz.func204.trans (congrArg some (by kernel_rfl))⟩
 f21:=⟨Tryz.f205.name,by decide,Tryz.func205.trans (congrArg some (by kernel_rfl))⟩
 f22:=⟨Tryz.f206.name,by decide,Tryz.func206.trans (congrArg some (by kernel_rfl))⟩
 f23:=⟨Tryz.f207.name,by decide,Tryz.func207.trans (congrArg some (by kernel_rfl))⟩
 f24:=⟨Tryz.f208.name,by decide,Tryz.func208.trans (congrArg some (by kernel_rfl))⟩
 f25:=⟨Tryz.f209.name,by decide,Tryz.func209.trans (congrArg some (by kernel_rfl))⟩
 f26:=⟨Tryz.f210.name,by decide,Tryz.func210.trans (congrArg some (by kernel_rfl))⟩
 f27:=⟨Tryz.f211.name,by decide,Tryz.func211.trans (congrArg some (by kernel_rfl))⟩
 f28:=Tryz.func155.trans (congrArg some (by kernel_rfl))
 f29:=Tryz.func156.trans (congrArg some (by kernel_rfl))
 f46:=⟨Tryz.f239.name,by decide,Tryz.func239.trans (congrArg some (by kernel_rfl))⟩
 f47:=Tryz.func223.trans (congrArg some (by kernel_rfl))
 f48:=Tryz.func224.trans (congrArg some (by kernel_rfl))
 f49:=⟨Tryz.f240.name,by decide,Tryz.func240.trans (congrArg some (by kernel_rfl))⟩
 f50:=⟨Tryz.f241.name,by decide,Tryz.func241.trans (congrArg some (by kernel_rfl))⟩
 f57:=⟨Tryz.f249.name,by decide,Tryz.func249.trans (congrArg some (by kernel_rfl))⟩
 t0:=Tryz.underlying0
 a0:=Tryz.isAgg0
 z0:=Tryz.sizeOf0
 v0:=Tryz.zeroValue0
 t3:=Tryz.underlying3
 a3:=Tryz.isAgg3
 z3:=Tryz.sizeOf3
 v3:=Tryz.zeroValue3
 t4:=Tryz.underlying4
 a4:=Tryz.isAgg4
 z4:=Tryz.sizeOf4
 v4:=Tryz.zeroValue4
 t5:=Tryz.underlying5
 a5:=Tryz.isAgg5
 z5:=Tryz.sizeOf5
 v5:=Tryz.zeroValue5
 t9:=Tryz.underlying9
 a9:=Tryz.isAgg9
 z9:=Tryz.sizeOf9
 v9:=Tryz.zeroValue9
 t22:=Tryz.underlying86
 a22:=Tryz.isAgg86
 z22:=Tryz.sizeOf86
 v22:=Tryz.zeroValue86
 t25:=Tryz.underlying92
 a25:=Tryz.isAgg92
 z25:=Tryz.sizeOf92
 v25:=Tryz.zeroValue92
 t39:=Tryz.underlying151
 a39:=Tryz.isAgg151
 z39:=Tryz.sizeOf151
 v39:=Tryz.zeroValue151
 t45:=Tryz.underlying189
 a45:=Tryz.isAgg189
 z45:=Tryz.sizeOf189
 v45:=Tryz.zeroValue189
 t46:=Tryz.underlying190
 a46:=Tryz.isAgg190
 z46:=Tryz.sizeOf190
 v46:=Tryz.zeroValue190
 t50:=Tryz.underlying194
 a50:=Tryz.isAgg194
 z50:=Tryz.sizeOf194
 v50:=Tryz.zeroValue194
 t53:=Tryz.underlying197
 a53:=Tryz.isAgg197
 z53:=Tryz.sizeOf197
 v53:=Tryz.zeroValue197
 t55:=Tryz.underlying199
 a55:=Tryz.isAgg199
 z55:=Tryz.sizeOf199
 v55:=Tryz.zeroValue199
 t66:=Tryz.underlying263
 a66:=Tryz.isAgg263
 z66:=Tryz.sizeOf263
 v66:=Tryz.zeroValue263
 t70:=Tryz.underlying267
 a70:=Tryz.isAgg267
 z70:=Tryz.sizeOf267
 v70:=Tryz.zeroValue267
 t76:=Tryz.underlying287
 a76:=Tryz.isAgg287
 z76:=Tryz.sizeOf287
 v76:=Tryz.zeroValue287
 t77:=Tryz.underlying74
 a77:=Tryz.isAgg74
 z77:=Tryz.sizeOf74
 v77:=Tryz.zeroValue74}
open Go.RowKit B K Go.Sort
attribute [local go_sem] Oper.semAt_some
theorem info_tCc:(Tryz.prog.info? 88).map (fun i=>(i.zero,i.size,i.bytes))=some (some (.agg #[.int .i64 0,.int .i64 0,.int .i64 0,.int .i64 0,.int .i64 0,.int .i64 0]),6,48):=by kernel_rfl
theorem own_low {w:World} {base base':Nat} {e:TypeId} {size n:Nat} {v:Value} {xs:List Value} (h:w.ownsRow base e size v n xs) (hb:base'≤base):w.ownsRow base' e size v n xs:=by
 refine⟨h.1,?_⟩;rcases h.2 with h2|⟨g,cap,cur,h1,h2,r⟩
 ·exact .inl h2
 ·exact .inr ⟨g,cap,cur,h1,Nat.le_trans hb h2,r⟩
def CInv (w:World) (Bo:Nat) (pre:List ConnP) (S:Nat→Prop) (V:World):Prop:=
 ∃ v,V.heap[Bo]?=some (.cells #[v] 86 (0,0))∧V.ownsRow (w.heap.size+1) 88 6 v pre.length (pre.flatMap connE)∧ ¬ S Bo∧(∀ g,v.ownBlock=some g→ ¬ S g)∧
   (∀ k,S k→w.heap.size≤k)∧Below w.heap.size w V
theorem CInv.step {w:World} {Bo:Nat} {pre:List ConnP} {S S':Nat→Prop} {V V':World} (h:CInv w Bo pre S V) (hs:Step S S' V V'):CInv w Bo pre S' V':=by
 obtain⟨v,h1,h2,h3,h4,h5,h6⟩:=h;have hBo:=(Array.getElem?_eq_some_iff.1 h1).1;refine⟨v,(hs.turn.block Bo hBo h3).trans h1,own_keep h2 (fun k hk=>hs.turn.block k (h2.lt k hk).2 (h4 k hk)),fun h=>?_,fun g hg h=>?_,fun k hk=>?_,h6.trans (hs.turn.toBelow h6.size (fun k hk h=>by have:=h5 k h;omega))⟩
 ·rcases hs.new _ h with h|h
  ·exact h3 h
  ·omega
 ·have:=(h2.lt g hg).2;rcases hs.new _ h with h|h
  ·exact h4 g hg h
  ·omega
 ·rcases hs.new _ hk with h|h
  ·exact h5 k h
  ·have:=h6.size;omega
theorem CInv.push {w:World} {pre:List ConnP} {x:ConnP} {S:Nat→Prop} {V2:World} {v:Value} {n1 g c:Nat} {w1:World} {o:Obj}
 (g1:V2.heap[w.heap.size]?=some (.cells #[v] 86 (0,0))) (g2:V2.ownsRow (w.heap.size+1) 88 6 v pre.length (pre.flatMap connE)) (g3: ¬ S w.heap.size) (g4: ∀ g,v.ownBlock=some g→ ¬ S g) (g5: ∀ k,S k→w.heap.size≤k)
 (g6:Below w.heap.size w V2) (hS: ∀ k,S k→k<V2.heap.size)
 (own1:w1.ownsRow (w.heap.size+1) 88 6 (.slice (some ⟨g,0,none⟩) n1 c) (pre++[x]).length ((pre++[x]).flatMap connE)) (hgr:(V2.alloc o).grownBy w1 v.ownBlock) (hg:v.ownBlock=some g∨g=V2.heap.size+1):
 w1.heap[w.heap.size]?=some (.cells #[v] 86 (0,0))∧CInv w w.heap.size (pre++[x]) S (w1.setCell ⟨w.heap.size,0,none⟩ (.slice (some ⟨g,0,none⟩) n1 c))∧Turn (fun k=> ¬ k<w.heap.size∧ ¬ S k) V2 (w1.setCell ⟨w.heap.size,0,none⟩ (.slice (some ⟨g,0,none⟩) n1 c)):=by
 have hBo:=(Array.getElem?_eq_some_iff.1 g1).1
 have hT:Turn (fun k=> ¬ k<w.heap.size∧ ¬ S k) V2 w1:=by
  refine((Turn.refl _ V2).alloc o).grown hgr (fun k hk hlt=>?_);exact⟨by have:=(g2.lt k hk).1;omega,g4 k hk⟩
 have hT2:=hT.setCell (p:=⟨w.heap.size,0,none⟩) (fun _=>⟨by simp,g3⟩) (.slice (some ⟨g,0,none⟩) n1 c)
 have hb1:w1.heap[w.heap.size]?=some (.cells #[v] 86 (0,0)):=by
  refine(hgr.block _ (by simp;omega) ?_).trans ((Below.heap_alloc _ o _ (by simpa using hBo)).trans g1);intro e;have:=(g2.lt _ e.symm).1;omega
 refine⟨hb1,⟨_,one_setCell hb1,?_,g3,fun g' hg'=>?_,g5,g6.trans (hT2.toBelow (by omega) (fun k hk h=>by omega))⟩,hT2⟩
 ·exact ownsRow_setCell_below own1 (by simp) _
 ·obtain rfl:g=g':=by simpa [Value.ownBlock] using hg'
  rcases hg with hg|hg
  ·exact g4 _ hg
  ·intro h;have:=hS _ h;omega
theorem apseq_any (gf:Nat) (lb:Array Value) (eg: ∀ args w,(callFunc gf args).run Tryz.prog w= .ok (.enter gf args) w) (l:List ConnP) (hl:l.length≤1099511627776) (w:World)
 (hit:Iter Tryz.prog gf lb conV l (fun k=>k<w.heap.size) (fun _=>False) w):
 Calls Tryz.prog 138 #[.slice none 0 0,.func (.func gf) #[] lb] w fun e w'=> ∃ v,e= .returned v∧w'.ownsRow w.heap.size 88 6 v l.length (l.flatMap connE)∧Below w.heap.size w w':=by
 refine(callsIn_wide (n:=0)).1 (callsIn_of_wp_marks Tryz.func138 rfl trivial ?_ rfl);simp only [Tryz.ntmps138,List.size_toArray,List.length_cons,List.length_nil,Nat.reduceAdd,Nat.reduceSub,Array.replicate_succ,Array.replicate_zero,List.push_toArray,List.append_toArray,List.nil_append,List.cons_append]
 gi_wp2
 refine wpIn_rangeFunc_iter rfl eg hit ((Below.refl _ _).alloc (Nat.le_refl _) _) (fun k h=>by simp;omega) (fun _ h=>h.elim) (CInv w w.heap.size) (fun _ _ _ _=>False) (fun _ _ _ _ _ h hs=>h.step hs) (fun _ _ _ _ _ _ h _=>h)
  ⟨.slice none 0 0,alloc_one _ _ _,World.ownsRow_nil _ _ _ _,fun h=>h,fun _ h=>(by cases h),fun _ h=>h.elim,(Below.refl _ _).alloc (Nat.le_refl _) _⟩ ?body ?done ?stop
 case body=>
  rintro L pre ⟨x1,x2,x3,x4,x5,x6⟩ S V hpre hJ hN hSlt
  dsimp only [conV]
  gi_wp2
  refine⟨(Turn.refl _ V).alloc _,fun V2 hT hsz=>?_⟩;have hT2:Step S S V V2:=(Step.same ((Turn.refl S V).alloc (.cells #[.int .i64 x1,.int .i64 x2,.int .i64 x3,.int .i64 x4,.int .i64 x5,.int .i64 x6] 88))).trans (.same hT);have hJ2:=hJ.step hT2;obtain⟨v,g1,g2,g3,g4,g5,g6⟩:=hJ2;have hc1:=cell_of_one g1;have hf1:=free_of_one g1;have hnS: ¬ S V.heap.size:=fun h=>by have:=hSlt _ h;omega
  have hw0:V2.heap[V.heap.size]?=some (.cells #[.int .i64 x1,.int .i64 x2,.int .i64 x3,.int .i64 x4,.int .i64 x5,.int .i64 x6] 88 (0,0)):=(hT.block _ (by simp) hnS).trans (heap_alloc_new V _);have hc2:=cell_of_row V2 _ 0 _ _ _ hw0;have hc3:=cell_of_row V2 _ 1 _ _ _ hw0;have hc4:=cell_of_row V2 _ 2 _ _ _ hw0;have hc5:=cell_of_row V2 _ 3 _ _ _ hw0;have hc6:=cell_of_row V2 _ 4 _ _ _ hw0;have hc7:=cell_of_row V2 _ 5 _ _ _ hw0;simp only [List.getElem?_toArray,List.getElem?_cons_zero,List.getElem?_cons_succ] at hc2 hc3 hc4 hc5 hc6 hc7;have hSlt2: ∀ k,S k→k<V2.heap.size:=fun k hk=>by have:=hSlt k hk;have:=hT2.turn.size;omega
  have hpl:pre.length+1≤l.length:=by have:=hpre.length_le;simpa using this
  obtain⟨A0,c0,rfl,_,_,_⟩:=Rd.of_own (enc:=connE) connE_len rfl g2
  obtain⟨g,c,w1,hrun,own1,hgr,hg⟩:=append_one (enc:=connE) Tryz.underlying86 info_tCc rfl (by decide) connE_len (fun x u hu=>connE_one x u hu)
   V2 (w.heap.size+1) (.slice A0 pre.length c0) pre ⟨x1,x2,x3,x4,x5,x6⟩ g2 (by omega) (by decide) (by have:=(Array.getElem?_eq_some_iff.1 g1).1;omega)
  have hpush:=CInv.push g1 g2 g3 g4 g5 g6 hSlt2 (by simpa using own1) hgr hg;obtain⟨hd0,hpush1,hpush2⟩:=hpush;have hd1:=cell_of_one hd0;have hd2:=free_of_one hd0;obtain⟨n,hn⟩: ∃ n,pre.length=n:=⟨_,rfl⟩
  simp only [connE] at hrun;rw [hn] at hrun hc1 hd1;have hpush1:=H_ hpush1;have hpush2:=H_ hpush2;rename_i hp1 hp2;clear hp1 hp2 g1 g2 hd0 own1
  gi_wp2_with (gi_at_builtin;refine wpListIn_append_run rfl _ _ _ rfl rfl rfl hrun ?_)
  rw [←hn];exact⟨hpush1.out,hpush2.out⟩
 case done=>
  rintro D S V hSD hD ⟨v,g1,g2,g3,g4,g5,g6⟩ hDd;obtain⟨A,c,rfl,r1,r2,r3⟩:=Rd.of_own (enc:=connE) connE_len rfl g2;have hc1:=cell_of_one g1;have hf1:=free_of_one g1;have hnD:D≠w.heap.size:=fun e=>g3 (e ▸ hSD);have hDl:=(Array.getElem?_eq_some_iff.1 hDd).1;clear g4 g5
  gi_wp2
  obtain⟨U2,hU2⟩: ∃ U2,V.putObj D (.deferred none)=U2:=⟨_,rfl⟩
  have ho2:U2.ownsRow (w.heap.size+1) 88 6 (.slice A l.length c) l.length (l.flatMap connE):=by
   rw [←hU2];exact ownsRow_putObj g2 _ hDd rfl
  have hT2:Below w.heap.size w U2:=by
   rw [←hU2];exact g6.grown (grownBy_putObj' V D _) g6.size (fun k e=>by cases e;simp at hD;omega)
  refine⟨by simp,.inl ⟨_,_,rfl,run_takeDeferred hDd,?_⟩⟩;rw [hU2];exact⟨_,by simp [results,Tryz.results138,go_sem],_,rfl,own_low ho2 (Nat.le_succ _),hT2⟩
 case stop=>exact fun _ _ _ _ _ _ _ _ h _=>h.elim
theorem collect_any (gf:Nat) (lb:Array Value) (eg: ∀ args w,(callFunc gf args).run Tryz.prog w= .ok (.enter gf args) w) (l:List ConnP) (hl:l.length≤1099511627776) (w:World)
 (hit:Iter Tryz.prog gf lb conV l (fun k=>k<w.heap.size) (fun _=>False) w):
 Calls Tryz.prog 99 #[.func (.func gf) #[] lb] w fun e w'=> ∃ v,e= .returned v∧w'.ownsRow w.heap.size 88 6 v l.length (l.flatMap connE)∧Below w.heap.size w w':=by
 have h:=H_ (apseq_any gf lb eg l hl w hit);go_enter Tryz.func99,Tryz.ntmps99;go_wp2_with (go_at_call 138;refine h.out.mono ?_;rintro e w1 ⟨v,rfl,own,hb⟩);go_returns;exact⟨_,rfl,own,hb⟩
theorem perm_sorted {α:Type} [Inhabited α] {lt:α→α→Bool} {d d':Array α} (hp:PermIn 0 d.size d d') (hs:SortedIn lt 0 d.size d'):d'.toList.Perm d.toList∧d'.toList.Pairwise fun a b=>lt b a=false:=by
 obtain⟨h1,_,h2⟩:=hp;have e1:(d'.extract 0 d.size).toList =d'.toList:=by rw [←h1];simp
 have e2:(d.extract 0 d.size).toList =d.toList:=by simp
 rw [e1,e2] at h2;refine⟨h2,List.pairwise_iff_getElem.2 fun i j hi hj hij=>?_⟩;have hi':i<d'.size:=by simpa using hi
 have hj':j<d'.size:=by simpa using hj
 have:=hs i j (Nat.zero_le _) hij (by omega);rw [getElem!_pos d' i hi',getElem!_pos d' j hj'] at this;simpa using this
theorem swoC:SWO (ltOf fun x y:ConnP=>ordC x y) where
 irrefl x:=ltC_irr x
 trans x y z h1 h2:=ltC_tr h1 h2
 ntrans x y z h1 h2:=ltC_ntr h1 h2
def RetSC (base:Nat) (w:World) (v:Value) (l:List ConnP) (e:Ending) (w':World):Prop:=
 e= .returned (.tuple #[])∧ ∃ S:List ConnP,S.Perm l∧(S.Pairwise fun a b=>ltC b a=false)∧w'.ownsRow base 88 6 v S.length (S.flatMap connE)∧w.grownBy w' v.ownBlock
theorem sortC_any (base:Nat) (v:Value) (l:List ConnP) (w:World) (hown:w.ownsRow base 88 6 v l.length (l.flatMap connE)) (hn:l.length≤1099511627776):
 Calls Tryz.prog 100 #[v,.func (.func 61) #[] #[]] w (RetSC base w v l):=by
 rcases hown.2 with⟨rfl,h0⟩|⟨g0,cap,cur,rfl,hb,hg,hnc,hcm,hcs,htk⟩
 ·obtain rfl:l=[]:=List.eq_nil_of_length_eq_zero h0;refine(AnyF.slices_SortFunc_none sortCL none 0 _ w).mono fun e w' ⟨he,hw⟩=>?_;subst hw;exact⟨he,[],List.Perm.refl _,.nil,hown,World.grownBy.refl _ _⟩
 ·have hcmp:CmpLays Tryz.prog 61 #[] connE 6 (fun x y=>ordC x y) g0 0 l.toArray.size w:=by
   intro m os dk _ x y;refine(ccmp_any x y _).mono fun e w' ⟨he,hgr⟩=>⟨he,?_⟩
   obtain⟨q,os',hq⟩:=hgr.grow;exact⟨q,os',hq⟩
  have hsz:l.toArray.size=l.length:=by simp
  have h:=AnyQ.slices_SortFunc sortCL 6 Tryz.isAgg88 Tryz.sizeOf88 connE connE_len (fun x u hu=>connE_one x u hu) (fun x y=>ordC x y) swoC 61 #[] g0 0 cap l.toArray w
   (enters_of Tryz.func61 (by kernel_rfl) rfl) hcmp (holdsK_of_own connE_len (by decide) hown) (hown.lt g0 rfl).2 (by rw [hsz];omega)
  change Calls Tryz.prog 100 _ _ _ at h;rw [hsz] at h;refine h.mono fun e w' ⟨he,d',m,os,hp,hs,hw⟩=>?_;obtain⟨p1,p2⟩:=perm_sorted (d:=l.toArray) (d':=d') (by rw [hsz];exact hp) (by rw [hsz];exact hs);have hlen:d'.toList.length=l.length:=by rw [p1.length_eq]
  obtain⟨k1,k2⟩:=own_sorted connE_len (by decide) hown m d'.toList hlen os;subst hw;rw [Array.toArray_toList] at k1 k2;exact⟨he,d'.toList,p1,p2,by rw [hlen];exact k1,k2⟩
def RetSrt (l:List ConnP) (w:World) (e:Ending) (w':World):Prop:= ∃ (S:List ConnP) (A:Option Addr) (c:Nat),S.Perm l∧(S.Pairwise fun a b=>ltC b a=false)∧e= .returned (.slice A S.length c)∧Rd w' 6 connE A S.length S∧Below w.heap.size w w'
theorem sortedC_any (gf:Nat) (lb:Array Value) (eg: ∀ args w,(callFunc gf args).run Tryz.prog w= .ok (.enter gf args) w) (l:List ConnP) (hl:l.length≤1099511627776) (w:World)
 (hit:Iter Tryz.prog gf lb conV l (fun k=>k<w.heap.size) (fun _=>False) w):
 Calls Tryz.prog 59 #[.func (.func gf) #[] lb,.func (.func 61) #[] #[]] w (RetSrt l w):=by
 have hC:=H_ (collect_any gf lb eg l hl w hit);clear hit;go_enter Tryz.func59,Tryz.ntmps59;go_wp2_with fail;refine hC.out.mono ?_;rintro e w1 ⟨v,rfl,own,hb⟩;have hS:=H_ (sortC_any w.heap.size v l w1 own (by omega));go_wp2_with fail;refine hS.out.mono ?_;rintro e w2 ⟨rfl,S,hp,hs,own2,hg⟩;obtain⟨A,c,rfl,r,hc,hc2⟩:=Rd.of_own connE_len rfl own2;have hb2:=H_ (hb.grown hg hb.size (fun g hg=>(own.lt g hg).1));have hpH:=H_ hp;have hsH:=H_ hs;have rH:=H_ r;clear hp hs r own2 hg own hb;go_wp2_with fail;go_returns;exact⟨S,A,c,hpH.out,hsH.out,rfl,rH.out,hb2.out⟩
