/- Merged. -/
import Derived.Shelf.SlSortCmp.NoneTotal
import Derived.Test.YtechdefolfboeaaGreatDoorPd27
import Derived.Test.YtechdefolfboeaaGreatDoorPd29
set_option linter.unusedVariables false
set_option linter.unusedSimpArgs false
set_option maxRecDepth 100000
set_option maxHeartbeats 2000000
namespace Go.Proofs.YtechdefolfboeaaGreatDoor
open Go.Shelf
def ly_:Go.Shelf.Ren:=⟨fun|6=>100|15=>114|14=>139|28=>155|29=>156|20=>204|21=>205|22=>206|23=>207|24=>208|25=>209|26=>210|27=>211|46=>239|47=>223|48=>224|49=>240|50=>241|57=>249|n=>n,fun|22=>86|24=>88|25=>92|3=>3|39=>151|0=>0|53=>197|55=>199|4=>4|46=>190|45=>189|50=>194|5=>5|9=>9|66=>263|70=>267|76=>287|77=>74|n=>n,fun|n=>n⟩
theorem m5_:Go.Proofs.SlLaysF0.n6 Tryz.prog ly_:={
 mixed:=by kernel_rfl
 f6:=⟨Tryz.f100.name,by decide,Tryz.func100.trans (congrArg some (by kernel_rfl))⟩
 f14:=⟨Tryz.f139.name,by decide,Tryz.func139.trans (congrArg some (by kernel_rfl))⟩
 f15:=Tryz.func114.trans (congrArg some (by kernel_rfl))
 f20:=⟨Tryz.f204.name,by decide,Tryz.func204.trans (congrArg some (by kernel_rfl))⟩
 f21:=⟨Tryz.f205.name,by decide,Tryz.func205.trans (congrArg some (by kernel_rfl))⟩
 f22:=⟨Tryz.f206.name,by decide,Tryz.func206.trans (congrArg some (by kernel_rfl))⟩
 f23:=⟨Tryz.f207.name,by decide,Tryz.func207.trans (congrArg some (by kernel_rfl))⟩
 f24:=⟨Tryz.f208.name,by decide,Tryz.func208.trans (congrArg some (by kernel_rfl))⟩
 f25:=⟨Tryz.f209.name,by decide,Tryz.func209.trans (congrArg some (by kernel_rfl))⟩
 f26:=⟨Tryz.f210.name,by decide,Tryz.func210.trans (congrArg some (by kernel_rfl))⟩
 f27:=⟨Tryz.f211.name,by decide,Tryz.func211.trans (congrArg some (by kernel_rfl))⟩
 f28:=Tryz.func155.trans (congrArg some (by kernel_rfl))
 f29:=Tryz.func156.trans (congrArg some (by kernel_rfl))
 f46:=⟨Tryz.f239.name,by decide,Tryz.func239.trans (congrArg some (by kernel_rfl))⟩
 f47:=Tryz.func223.trans (congrArg some (by kernel_rfl))
 f48:=Tryz.func224.trans (congrArg some (by kernel_rfl))
 f49:=⟨Tryz.f240.name,by decide,Tryz.func240.trans (congrArg some (by kernel_rfl))⟩
 f50:=⟨Tryz.f241.name,by decide,Tryz.func241.trans (congrArg some (by kernel_rfl))⟩
 f57:=⟨Tryz.f249.name,by decide,Tryz.func249.trans (congrArg some (by kernel_rfl))⟩
 t0:=Tryz.underlying0
 a0:=Tryz.isAgg0
 z0:=Tryz.sizeOf0
 v0:=Tryz.zeroValue0
 t3:=Tryz.underlying3
 a3:=Tryz.isAgg3
 z3:=Tryz.sizeOf3
 v3:=Tryz.zeroValue3
 t4:=Tryz.underlying4
 a4:=Tryz.isAgg4
 z4:=Tryz.sizeOf4
 v4:=Tryz.zeroValue4
 t5:=Tryz.underlying5
 a5:=Tryz.isAgg5
 z5:=Tryz.sizeOf5
 v5:=Tryz.zeroValue5
 t9:=Tryz.underlying9
 a9:=Tryz.isAgg9
 z9:=Tryz.sizeOf9
 v9:=Tryz.zeroValue9
 t22:=Tryz.underlying86
 a22:=Tryz.isAgg86
 z22:=Tryz.sizeOf86
 v22:=Tryz.zeroValue86
 t25:=Tryz.underlying92
 a25:=Tryz.isAgg92
 z25:=Tryz.sizeOf92
 v25:=Tryz.zeroValue92
 t39:=Tryz.underlying151
 a39:=Tryz.isAgg151
 z39:=Tryz.sizeOf151
 v39:=Tryz.zeroValue151
 t45:=Tryz.underlying189
 a45:=Tryz.isAgg189
 z45:=Tryz.sizeOf189
 v45:=Tryz.zeroValue189
 t46:=Tryz.underlying190
 a46:=Tryz.isAgg190
 z46:=Tryz.sizeOf190
 v46:=Tryz.zeroValue190
 t50:=Tryz.underlying194
 a50:=Tryz.isAgg194
 z50:=Tryz.sizeOf194
 v50:=Tryz.zeroValue194
 t53:=Tryz.underlying197
 a53:=Tryz.isAgg197
 z53:=Tryz.sizeOf197
 v53:=Tryz.zeroValue197
 t55:=Tryz.underlying199
 a55:=Tryz.isAgg199
 z55:=Tryz.sizeOf199
 v55:=Tryz.zeroValue199
 t66:=Tryz.underlying263
 a66:=Tryz.isAgg263
 z66:=Tryz.sizeOf263
 v66:=Tryz.zeroValue263
 t70:=Tryz.underlying267
 a70:=Tryz.isAgg267
 z70:=Tryz.sizeOf267
 v70:=Tryz.zeroValue267
 t76:=Tryz.underlying287
 a76:=Tryz.isAgg287
 z76:=Tryz.sizeOf287
 v76:=Tryz.zeroValue287
 t77:=Tryz.underlying74
 a77:=Tryz.isAgg74
 z77:=Tryz.sizeOf74
 v77:=Tryz.zeroValue74}
end Go.Proofs.YtechdefolfboeaaGreatDoor
namespace Go.Proofs.YtechdefolfboeaaGreatDoor
open Go.RowKit B K Go.Shelf Go.Sort
attribute [local go_sem] Oper.semAt_some
theorem nB_:(Tryz.prog.info? 88).map (fun i=>(i.zero,i.size,i.bytes))=some (some (.agg #[.int .i64 0,.int .i64 0,.int .i64 0,.int .i64 0,.int .i64 0,.int .i64 0]),6,48):=by kernel_rfl
theorem oX_ {w:World} {base base':Nat} {e:TypeId} {size n:Nat} {v:Value} {xs:List Value} (h:w.ownsRow base e size v n xs) (hb:base'<=base):w.ownsRow base' e size v n xs:=by
 refine⟨h.1,?_⟩;rcases h.2 with p|⟨g,f,j,q,p,r⟩
 ·exact .inl p
 ·exact .inr ⟨g,f,j,q,Nat.le_trans hb p,r⟩
def CInv (w:World) (Bo:Nat) (pre:List aC_) (S:Nat ->Prop) (V:World):Prop:=
 ∃ v,V.heap[Bo]?=some (.cells #[v] 86 (0,0))/\V.ownsRow (w.heap.size+1) 88 6 v pre.length (pre.flatMap bt_)/\ ¬ S Bo/\(∀ g,v.ownBlock=some g -> ¬ S g)/\
   (∀ k,S k ->w.heap.size<=k)/\Below w.heap.size w V
theorem CInv.step {w:World} {Bo:Nat} {pre:List aC_} {S S':Nat ->Prop} {V V':World} (h:CInv w Bo pre S V) (hs:Step S S' V V'):CInv w Bo pre S' V':=by
 obtain⟨v,q,j,y,z,D,n⟩:=h;have p:=(Array.getElem?_eq_some_iff.1 q).1;refine⟨v,(hs.turn.block Bo p y).trans q,bd_ j (fun k f=>hs.turn.block k (j.lt k f).2 (z k f)),fun h=>?_,fun g F h=>?_,fun k f=>?_,n.trans (hs.turn.toBelow n.size (fun k f h=>by have:=D k h;omega))⟩
 ·rcases hs.new _ h with h|h
  ·exact y h
  ·omega
 ·have:=(j.lt g F).2;rcases hs.new _ h with h|h
  ·exact z g F h
  ·omega
 ·rcases hs.new _ f with h|h
  ·exact D k h
  ·have:=n.size;omega
theorem CInv.push {w:World} {pre:List aC_} {x:aC_} {S:Nat ->Prop} {V2:World} {v:Value} {n1 g c:Nat} {w1:World} {o:Obj}
 (g1:V2.heap[w.heap.size]?=some (.cells #[v] 86 (0,0))) (g2:V2.ownsRow (w.heap.size+1) 88 6 v pre.length (pre.flatMap bt_)) (g3: ¬ S w.heap.size) (g4: ∀ g,v.ownBlock=some g -> ¬ S g) (g5: ∀ k,S k ->w.heap.size<=k)
 (g6:Below w.heap.size w V2) (hS: ∀ k,S k ->k<V2.heap.size)
 (own1:w1.ownsRow (w.heap.size+1) 88 6 (.slice (some ⟨g,0,none⟩) n1 c) (pre++[x]).length ((pre++[x]).flatMap bt_)) (hgr:(V2.alloc o).grownBy w1 v.ownBlock) (hg:v.ownBlock=some g∨g=V2.heap.size+1):
 w1.heap[w.heap.size]?=some (.cells #[v] 86 (0,0))/\CInv w w.heap.size (pre++[x]) S (w1.setCell ⟨w.heap.size,0,none⟩ (.slice (some ⟨g,0,none⟩) n1 c))/\Turn (fun k=> ¬ k<w.heap.size/\ ¬ S k) V2 (w1.setCell ⟨w.heap.size,0,none⟩ (.slice (some ⟨g,0,none⟩) n1 c)):=by
 have n:=(Array.getElem?_eq_some_iff.1 g1).1
 have D:Turn (fun k=> ¬ k<w.heap.size/\ ¬ S k) V2 w1:=by
  refine((Turn.refl _ V2).alloc o).grown hgr (fun k y aA=>?_);exact⟨by have:=(g2.lt k y).1;omega,g4 k y⟩
 have f:=D.setCell (p:=⟨w.heap.size,0,none⟩) (fun _=>⟨by simp,g3⟩) (.slice (some ⟨g,0,none⟩) n1 c)
 have j:w1.heap[w.heap.size]?=some (.cells #[v] 86 (0,0)):=by
  refine(hgr.block _ (by simp;omega) ?_).trans ((Below.heap_alloc _ o _ (by simpa using n)).trans g1);intro e;have:=(g2.lt _ e.symm).1;omega
 refine⟨j,⟨_,one_setCell j,?_,g3,fun z q=>?_,g5,g6.trans (f.toBelow (by omega) (fun k y h=>by omega))⟩,f⟩
 ·exact ownsRow_setCell_below own1 (by simp) _
 ·obtain rfl:g=z:=by simpa [Value.ownBlock] using q
  rcases hg with hg|hg
  ·exact g4 _ hg
  ·intro h;have:=hS _ h;omega
theorem lU_ (gf:Nat) (lb:Array Value) (eg: ∀ args w,(callFunc gf args).run Tryz.prog w= .ok (.enter gf args) w) (l:List aC_) (hl:l.length<=1099511627776) (w:World)
 (hit:Iter Tryz.prog gf lb conV l (fun k=>k<w.heap.size) (fun _=>False) w):
 Calls Tryz.prog 138 #[.slice none 0 0,.func (.func gf) #[] lb] w fun e w'=> ∃ v,e= .returned v/\w'.ownsRow w.heap.size 88 6 v l.length (l.flatMap bt_)/\Below w.heap.size w w':=by
 refine(callsIn_wide (n:=0)).1 (callsIn_of_wp_marks Tryz.func138 rfl trivial ?_ rfl);simp only [Tryz.ntmps138,List.size_toArray,List.length_cons,List.length_nil,Nat.reduceAdd,Nat.reduceSub,Array.replicate_succ,Array.replicate_zero,List.push_toArray,List.append_toArray,List.nil_append,List.cons_append]
 gi_wp2
 refine dT_ rfl eg hit ((Below.refl _ _).alloc (Nat.le_refl _) _) (fun k h=>by simp;omega) (fun _ h=>h.elim) (CInv w w.heap.size) (fun _ _ _ _=>False) (fun _ _ _ _ _ h hs=>h.step hs) (fun _ _ _ _ _ _ h _=>h)
  ⟨.slice none 0 0,hL_ _ _ _,World.ownsRow_nil _ _ _ _,fun h=>h,fun _ h=>(by cases h),fun _ h=>h.elim,(Below.refl _ _).alloc (Nat.le_refl _) _⟩ ?body ?done ?stop
 case body=>
  rintro L F ⟨x1,x2,x3,x4,x5,x6⟩ S V Y hJ hN J
  dsimp only [conV]
  gi_wp2
  refine⟨(Turn.refl _ V).alloc _,fun y hT aQ=>?_⟩;have z:Step S S V y:=(Step.same ((Turn.refl S V).alloc (.cells #[.int .i64 x1,.int .i64 x2,.int .i64 x3,.int .i64 x4,.int .i64 x5,.int .i64 x6] 88))).trans (.same hT);have i:=hJ.step z;obtain⟨v,G,N,a,b,d,Z⟩:=i;have X:=cell_of_one G;have aG:=free_of_one G;have aI: ¬ S V.heap.size:=fun h=>by have:=J _ h;omega
  have p:y.heap[V.heap.size]?=some (.cells #[.int .i64 x1,.int .i64 x2,.int .i64 x3,.int .i64 x4,.int .i64 x5,.int .i64 x6] 88 (0,0)):=(hT.block _ (by simp) aI).trans (heap_alloc_new V _);have s:=cell_of_row y _ 0 _ _ _ p;have aA:=cell_of_row y _ 1 _ _ _ p;have aB:=cell_of_row y _ 2 _ _ _ p;have aC:=cell_of_row y _ 3 _ _ _ p;have aD:=cell_of_row y _ 4 _ _ _ p;have aE:=cell_of_row y _ 5 _ _ _ p;simp only [List.getElem?_toArray,List.getElem?_cons_zero,List.getElem?_cons_succ] at s aA aB aC aD aE;have Q: ∀ k,S k ->k<y.heap.size:=fun k hk=>by have:=J k hk;have:=z.turn.size;omega
  have aP:F.length+1<=l.length:=by have:=Y.length_le;simpa using this
  obtain⟨A0,c0,rfl,_,_,_⟩:=Rd.of_own (enc:=bt_) cw_ rfl N
  obtain⟨g,c,w1,q,M,aH,hg⟩:=a7_ (enc:=bt_) Tryz.underlying86 nB_ rfl (by decide) cw_ (fun x u hu=>fA_ x u hu)
   y (w.heap.size+1) (.slice A0 F.length c0) F ⟨x1,x2,x3,x4,x5,x6⟩ N (by omega) (by decide) (by have:=(Array.getElem?_eq_some_iff.1 G).1;omega)
  have U:=CInv.push G N a b d Z Q (by simpa using M) aH hg;obtain⟨T,f,j⟩:=U;have aF:=cell_of_one T;have aN:=free_of_one T;obtain⟨n,hn⟩:=e_ F.length;simp only [bt_] at q;rw [hn] at q X aF;have f:=H_ f;have j:=H_ j;rename_i aK aL;clear aK aL G N T M
  gi_wp2_with (gi_at_builtin;refine cZ_ rfl _ _ _ rfl rfl rfl q ?_)
  rw [<-hn];exact⟨f.o,j.o⟩
 case done=>
  rintro D S V r hD ⟨v,G,N,a,b,d,Z⟩ P;obtain⟨A,c,rfl,r1,r2,r3⟩:=Rd.of_own (enc:=bt_) cw_ rfl N;have X:=cell_of_one G;have aG:=free_of_one G;have aO:D≠w.heap.size:=fun e=>a (e ▸ r);have aM:=(Array.getElem?_eq_some_iff.1 P).1;clear b d
  gi_wp2
  obtain⟨U2,R⟩:=e_ (V.putObj D (.deferred none))
  have aJ:U2.ownsRow (w.heap.size+1) 88 6 (.slice A l.length c) l.length (l.flatMap bt_):=by
   rw [<-R];exact ownsRow_putObj N _ P rfl
  have z:Below w.heap.size w U2:=by
   rw [<-R];exact Z.grown (grownBy_putObj' V D _) Z.size (fun k e=>by cases e;simp at hD;omega)
  refine⟨by simp,.inl ⟨_,_,rfl,run_takeDeferred P,?_⟩⟩;rw [R];exact⟨_,by simp [results,Tryz.results138,go_sem],_,rfl,oX_ aJ (Nat.le_succ _),z⟩
 case stop=>exact fun _ _ _ _ _ _ _ _ h _=>h.elim
theorem jz_ (gf:Nat) (lb:Array Value) (eg: ∀ args w,(callFunc gf args).run Tryz.prog w= .ok (.enter gf args) w) (l:List aC_) (hl:l.length<=1099511627776) (w:World)
 (hit:Iter Tryz.prog gf lb conV l (fun k=>k<w.heap.size) (fun _=>False) w):
 Calls Tryz.prog 99 #[.func (.func gf) #[] lb] w fun e w'=> ∃ v,e= .returned v/\w'.ownsRow w.heap.size 88 6 v l.length (l.flatMap bt_)/\Below w.heap.size w w':=by
 have h:=H_ (lU_ gf lb eg l hl w hit);go_enter Tryz.func99,Tryz.ntmps99;go_wp2_with (go_at_call 138;refine h.o.mono ?_;rintro e w1 ⟨v,rfl,own,f⟩);go_returns;exact⟨_,rfl,own,f⟩
theorem gl_ {α:Type} [Inhabited α] {lt:α ->α ->Bool} {d d':Array α} (hp:PermIn 0 d.size d d') (hs:SortedIn lt 0 d.size d'):d'.toList.Perm d.toList/\d'.toList.Pairwise fun a b=>lt b a=false:=by
 obtain⟨z,_,p⟩:=hp;have q:(d'.extract 0 d.size).toList =d'.toList:=by rw [<-z];simp
 have y:(d.extract 0 d.size).toList =d.toList:=by simp
 rw [q,y] at p;refine⟨p,List.pairwise_iff_getElem.2 fun i j D F g=>?_⟩;have f:i<d'.size:=by simpa using D
 have n:j<d'.size:=by simpa using F
 have:=hs i j (Nat.zero_le _) g (by omega);rw [getElem!_pos d' i f,getElem!_pos d' j n] at this;simpa using this
theorem swoC:SWO (ltOf fun x y:aC_=>ordC x y) where
 irrefl x:=kl_ x
 trans x y z h1 h2:=mr_ h1 h2
 ntrans x y z h1 h2:=km_ h1 h2
def pL_ (base:Nat) (w:World) (v:Value) (l:List aC_) (e:Ending) (w':World):Prop:=
 e= .returned (.tuple #[])/\ ∃ S:List aC_,S.Perm l/\(S.Pairwise fun a b=>ltC b a=false)/\w'.ownsRow base 88 6 v S.length (S.flatMap bt_)/\w.grownBy w' v.ownBlock
theorem m6_ (base:Nat) (v:Value) (l:List aC_) (w:World) (hown:w.ownsRow base 88 6 v l.length (l.flatMap bt_)) (hn:l.length<=1099511627776):
 Calls Tryz.prog 100 #[v,.func (.func 61) #[] #[]] w (pL_ base w v l):=by
 rcases hown.2 with⟨rfl,Q⟩|⟨z,p,aA,rfl,hb,hg,aD,aB,aC,aE⟩
 ·obtain rfl:l=[]:=List.eq_nil_of_length_eq_zero Q;refine(AnyF.slices_SortFunc_none m5_ none 0 _ w).mono fun e P ⟨n,F⟩=>?_;subst F;exact⟨n,[],List.Perm.refl _,.nil,hown,World.grownBy.refl _ _⟩
 ·have j:CmpLays Tryz.prog 61 #[] bt_ 6 (fun x y=>ordC x y) z 0 l.toArray.size w:=by
   intro m M dk _ x y;refine(nj_ x y _).mono fun e P ⟨n,D⟩=>⟨n,?_⟩
   obtain⟨q,G,S⟩:=D.grow;exact⟨q,G,S⟩
  have f:l.toArray.size=l.length:=by simp
  have h:=AnyQ.slices_SortFunc m5_ 6 Tryz.isAgg88 Tryz.sizeOf88 bt_ cw_ (fun x u U=>fA_ x u U) (fun x y=>ordC x y) swoC 61 #[] z 0 p l.toArray w
   (enters_of Tryz.func61 (by kernel_rfl) rfl) j (il_ cw_ (by decide) hown) (hown.lt z rfl).2 (by rw [f];omega)
  change Calls Tryz.prog 100 _ _ _ at h;rw [f] at h;refine h.mono fun e P ⟨n,d',m,M,R,T,F⟩=>?_;obtain⟨N,X⟩:=gl_ (d:=l.toArray) (d':=d') (by rw [f];exact R) (by rw [f];exact T);have g:d'.toList.length=l.length:=by rw [N.length_eq]
  obtain⟨J,L⟩:=k4_ cw_ (by decide) hown m d'.toList g M;subst F;rw [Array.toArray_toList] at J L;exact⟨n,d'.toList,N,X,by rw [g];exact J,L⟩
def pf_ (l:List aC_) (w:World) (e:Ending) (w':World):Prop:= ∃ (S:List aC_) (A:Option Addr) (c:Nat),S.Perm l/\(S.Pairwise fun a b=>ltC b a=false)/\e= .returned (.slice A S.length c)/\Rd w' 6 bt_ A S.length S/\Below w.heap.size w w'
theorem j6_ (gf:Nat) (lb:Array Value) (eg: ∀ args w,(callFunc gf args).run Tryz.prog w= .ok (.enter gf args) w) (l:List aC_) (hl:l.length<=1099511627776) (w:World)
 (hit:Iter Tryz.prog gf lb conV l (fun k=>k<w.heap.size) (fun _=>False) w):
 Calls Tryz.prog 59 #[.func (.func gf) #[] lb,.func (.func 61) #[] #[]] w (pf_ l w):=by
 have F:=H_ (jz_ gf lb eg l hl w hit);clear hit;go_enter Tryz.func59,Tryz.ntmps59;go_wp2_with fail;refine F.o.mono ?_;rintro e w1 ⟨v,rfl,own,n⟩;have G:=H_ (m6_ w.heap.size v l w1 own (by omega));go_wp2_with fail;refine G.o.mono ?_;rintro e w2 ⟨rfl,S,z,D,f,j⟩;obtain⟨A,c,rfl,r,hc,aA⟩:=Rd.of_own cw_ rfl f;have p:=H_ (n.grown j n.size (fun g j=>(own.lt g j).1));have q:=H_ z;have y:=H_ D;have J:=H_ r;clear z D r f j own n
 go_wp2
 go_returns;exact⟨S,A,c,q.o,y.o,rfl,J.o,p.o⟩
