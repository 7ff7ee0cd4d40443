/- Merged. -/
import Derived.Test.YtechdefolfboeaaGreatDoorPo41
import Derived.Test.YtechdefolfboeaaGreatDoorPo52
set_option linter.unusedVariables false
set_option linter.unusedSimpArgs false
set_option maxRecDepth 100000
set_option maxHeartbeats 8000000
namespace Go.Proofs.YtechdefolfboeaaGreatDoor
open Go.RowKit B K
def byD (b:Int):Int:=b.tmod 1000
theorem byD_lt (b:Int): -1000<byD b∧byD b<1000:=by
 unfold byD;have h1:=Int.tmod_lt_of_pos b (show(0:Int)<1000 by decide);have h2:=Int.lt_tmod_of_pos b (show(0:Int)<1000 by decide);exact⟨h2,h1⟩
def mvR (r:RunP) (d i:Int):RunP:=⟨r.trip,i,r.arr.map (· +d),r.dep.map (· +d)⟩
def onesL (M:WorldP) (r:RunP) (by_:List Int):Nat→List RunP
 |0=>[]
 |k+1=>onesL M r by_ k++(if fitsR M (mvR r (byD (by_.getD k 0)) k)=true then [mvR r (byD (by_.getD k 0)) k] else [])
section
variable {M:WorldP} {r:RunP} {by_:List Int} {L:List RunP}
theorem ones_len (k:Nat):(onesL M r by_ k).length ≤k:=by
 induction k with
 |zero=>simp [onesL]
 |succ k ih=>
  unfold onesL;rw [List.length_append];split<;>simp<;>omega
theorem ones_mem (k:Nat) {s:RunP} (h:s∈onesL M r by_ k):fitsR M s=true∧ ∃ d i,s=mvR r d i:=by
 induction k with
 |zero=>simp [onesL] at h
 |succ k ih=>
  unfold onesL at h;rcases List.mem_append.1 h with h|h
  ·exact ih h
  ·split at h
   ·rename_i hf;simp only [List.mem_singleton] at h;subst h;exact⟨hf,_,_,rfl⟩
   ·simp at h
def Mvd (M:WorldP) (r:RunP) (L:List RunP):Prop:= ∀ s∈L,fitsR M s=true∧ ∃ d i,s=mvR r d i
theorem mvd_err (hM:goodB nameB M=true) (h:Mvd M r L) (hn: ¬ 16384<L.length):errC M L=0:=by
 unfold errC;rw [if_neg hn,if_pos];rw [hM,Bool.true_and,List.all_eq_true];exact fun s hs=>(h s hs).1
theorem noneB_mv (l:List Int) {a b:Int} (h:a≤b):noneB (l.map (· +a)) (l.map (· +b))=true:=by
 rw [noneB_iff];intro i x y hx hy;rw [List.getElem?_map] at hx hy
 cases hq:l[i]? with
 |none=>rw [hq] at hx;cases hx
 |some z=>
  rw [hq] at hx hy;cases hx;cases hy;exact Int.add_le_add_left h z
theorem ahead_mv {a b i j:Int} (h:a≤b):aheadB (mvR r a i) (mvR r b j)=true:=by
 rw [aheadB_iff];exact⟨by simp [mvR],by simp [mvR],noneB_mv _ h,noneB_mv _ h⟩
theorem dep0_mv {a i:Int} (h:0<r.dep.length):dep0 (mvR r a i)=dep0 r+a:=by
 unfold dep0 mvR;simp only [List.getElem?_map];rw [List.getElem?_eq_getElem h];rfl
theorem mvd_ahead (hF:FitL M L) (h:Mvd M r L) (hr:0<r.dep.length) {a b:Int} (ha:a∈natI L.length) (hb:b∈natI L.length) (hlt:ltR L b a=false):aheadB (runAt L a) (runAt L b)=true:=by
 obtain⟨_,d1,i1,e1⟩:=h _ (List.mem_of_getElem? (runAt_get ha));obtain⟨_,d2,i2,e2⟩:=h _ (List.mem_of_getElem? (runAt_get hb))
 have hd: ¬ d2<d1:=fun hd=>by
  rw [Bool.eq_false_iff] at hlt;exact hlt (ltR_iff.2 (.inl (by rw [e1,e2,dep0_mv hr,dep0_mv hr];omega)))
 rw [e1,e2];exact ahead_mv (by omega)
theorem ofL_one (rt:Int) (l:List Int) (h:l.Pairwise fun a b=>aheadB (runAt L a) (runAt L b)=true):ofL L rt l=if l=[] then [] else [⟨rt,l⟩]:=by
 rcases List.eq_nil_or_concat l with rfl|⟨l',n,rfl⟩
 ·rfl
 ·rw [List.concat_eq_append] at*;rw [if_neg (by simp)]
  induction hk:l'.length generalizing l' n with
  |zero=>
   obtain rfl:=List.length_eq_zero_iff.1 hk;rfl
  |succ k ih=>
   rcases List.eq_nil_or_concat l' with rfl|⟨l2,m,rfl⟩
   ·simp at hk
   ·rw [List.concat_eq_append] at*;have hp:=List.pairwise_append.1 h;rw [ofL_snoc,ih l2 m hp.1 (by simp at hk;omega)];unfold ofStep;have hm:aheadB (runAt L m) (runAt L n)=true:=hp.2.2 m (by simp) n (by simp)
    have e:(([⟨rt,l2++[m]⟩]:List PatP).findIdx? fun p=>aheadB (runAt L (p.runs.getLastD 0)) (runAt L n))=some 0:=by
     simp [List.findIdx?_cons,hm]
    rw [e];rfl
theorem flatMap_at_one {α:Type} {f:Nat→List α} {N k:Nat} (hk:k<N) (h: ∀ i,i<N→i≠k→f i=[]):(List.range N).flatMap f=f k:=by
 induction N with
 |zero=>omega
 |succ N ih=>
  rw [List.range_succ,List.flatMap_append];by_cases e:k=N
  ·subst e
   have h0:(List.range k).flatMap f=[]:=by
    rw [List.flatMap_eq_nil_iff];intro i hi;have:=List.mem_range.1 hi;exact h i (by omega) (by omega)
   rw [h0];simp
  ·rw [ih (by omega) (fun i hi hne=>h i (by omega) hne)];have hN:f N=[]:=h N (by omega) (by omega);simp [hN]
theorem srtR_nil:srtR L []=[]:=List.eq_nil_of_length_eq_zero (by rw [srtR_len];rfl)
structure OneP (L:List RunP) (rt:Int) (P:List PatP):Prop where
 some:L≠[]→ ∃ S,P=[⟨rt,S⟩]∧S.Perm (natI L.length)∧S.Pairwise fun a b=>aheadB (runAt L a) (runAt L b)=true
 none:L=[]→P=[]
theorem mvd_make (hF:FitL M L) (h:Mvd M r L) (hr:0<r.dep.length) {rt:Int} (hrt: ∀ q,M.trips[r.trip.toNat]?=some q→q.route=rt):OneP L rt (makeP M L):=by
 have hR: ∀ n∈natI L.length,rtOf M L n=rt:=fun n hn=>by
  obtain⟨_,d,i,e⟩:=h _ (List.mem_of_getElem? (runAt_get hn));obtain⟨q,s,h0,hq,h1,_⟩:=hF.route hn;rw [e] at hq;rw [←h1];exact hrt q hq
 have hpl: ∀ k:Nat,places M L k=if(k:Int)=rt then natI L.length else []:=fun k=>by
  unfold places;split
  ·rename_i hk;rw [List.filter_eq_self];exact fun n hn=>T_ (by rw [hR n hn,hk])
  ·rename_i hk;rw [List.filter_eq_nil_iff];exact fun n hn=>by rw [hR n hn];simp;omega
 refine⟨fun hne=>?_,fun hL=>?_⟩
 ·have h0:(0:Int)∈natI L.length:=natI_mem.2 ⟨by omega,by have:=List.length_pos_iff.2 hne;omega⟩;have hb:=hF.rtOf h0;rw [hR _ h0] at hb;obtain⟨k,ek⟩:=Int.eq_ofNat_of_zero_le hb.1
  have hmk:makeP M L=makeAt M L k:=by
   unfold makeP;refine flatMap_at_one (by omega) fun i hi hne=>?_;unfold makeAt;rw [hpl,if_neg (by omega),srtR_nil];rfl
  have hS:(srtR L (natI L.length)).Pairwise fun a b=>aheadB (runAt L a) (runAt L b)=true:=by
   refine List.Pairwise.imp_of_mem (fun {a b} ha hb hab=>?_) (srtR_sorted (L:=L) (natI L.length));exact mvd_ahead hF h hr ((srtR_perm _).mem_iff.1 ha) ((srtR_perm _).mem_iff.1 hb) hab
  refine⟨srtR L (natI L.length),?_,srtR_perm _,hS⟩;rw [hmk];unfold makeAt;rw [hpl,if_pos ek.symm,ofL_one _ _ hS,if_neg ?_,ek];intro e;have:=srtR_len (L:=L) (natI L.length);rw [e] at this;rw [List.length_nil] at this;have h2:=List.length_pos_of_mem h0;omega
 ·subst hL;unfold makeP;rw [List.flatMap_eq_nil_iff];intro k _;unfold makeAt places;rw [show(natI ([]:List RunP).length).filter (fun n=>decide (rtOf M [] n=(k:Int)))=[] from rfl,srtR_nil];rfl
def seenL (S:List Int) (n j:Nat):List Value:=(List.range n).map fun(k:Nat)=>Value.bool (decide ((k:Int)∈S.take j))
theorem seenL_zero (S:List Int) (n:Nat):seenL S n 0=List.replicate n (.bool false):=by
 unfold seenL;rw [List.take_zero];refine List.ext_getElem (by simp) fun k h1 h2=>by simp
theorem seenL_len (S:List Int) (n j:Nat):(seenL S n j).length =n:=by unfold seenL;simp
theorem seenL_at (S:List Int) {n k:Nat} (j:Nat) (h:k<n):(seenL S n j)[k]?=some (.bool (decide ((k:Int)∈S.take j))):=by
 unfold seenL;rw [List.getElem?_map,List.getElem?_range h];rfl
theorem seenL_step {S:List Int} {n j x:Nat} (hx:S[j]?=some (x:Int)) (hn:x<n):(seenL S n j).set x (.bool true)=seenL S n (j+1):=by
 refine List.ext_getElem? fun k=>?_;by_cases hk:k<n
 ·rw [seenL_at _ _ hk,take_at hx,List.getElem?_set];by_cases e:x=k
  ·subst e;rw [if_pos rfl,if_pos (by rw [seenL_len];exact hk)];simp
  ·rw [if_neg e,seenL_at _ _ hk]
   congr 2
   simp only [List.mem_append,List.mem_singleton];rw [decide_eq_decide];constructor
   ·exact fun h=> .inl h
   ·rintro(h|h)
    ·exact h
    ·exact absurd (by omega) e
 ·rw [List.getElem?_eq_none (by rw [List.length_set,seenL_len];omega),List.getElem?_eq_none (by rw [seenL_len];omega)]
theorem perm_not_seen {S:List Int} {n j:Nat} {x:Int} (hp:S.Perm (natI n)) (hx:S[j]?=some x):x ∉ S.take j:=by
 have hnd:=hp.nodup_iff.2 (natI_nodup n);intro hm;obtain⟨i,hi⟩:=List.getElem?_of_mem hm;have hij:i<j:=by have:=(List.getElem?_eq_some_iff.1 hi).1;rw [List.length_take] at this;omega
 rw [List.getElem?_take_of_lt hij] at hi;obtain⟨h1,e1⟩:=List.getElem?_eq_some_iff.1 hi;obtain⟨h2,e2⟩:=List.getElem?_eq_some_iff.1 hx;have:=(List.nodup_iff_pairwise_ne.1 hnd)
 exact List.pairwise_iff_getElem.1 this i j h1 h2 hij (e1.trans e2.symm)
end
end Go.Proofs.YtechdefolfboeaaGreatDoor
namespace Go.Proofs.YtechdefolfboeaaGreatDoor.B
open Go.RowKit B
theorem Bx.cast {w:World} {b:Nat} {T:TypeId} {vs us:List Value} (h:Bx w b T vs) (e:vs=us):Bx w b T us:=e ▸ h
def sepV (v v':Value):Prop:= ∀ q,v.ownBlock=some q→v'.ownBlock≠some q
theorem sepV.symm {v v':Value} (h:sepV v v'):sepV v' v:=fun q h1 h2=>h q h2 h1
def OwI (bm:Nat) (w:World) (v:Value) (l:List Int):Prop:=w.ownsRow (bm+1) 2 1 v l.length (l.flatMap (numE .i64))
theorem OwI.new {bm:Nat} {w:World} (h:bm+1≤w.heap.size) (d:Int):OwI bm (w.alloc (.cells #[.int .i64 d] 2)) (.slice (some ⟨w.heap.size,0,none⟩) 1 1) [d]:=⟨rfl,.inr ⟨w.heap.size,1,#[.int .i64 d],rfl,h,heap_alloc_new w _,Nat.le_refl _,by decide,rfl,rfl⟩⟩
theorem OwI.sep_new {bm:Nat} {w:World} {v:Value} {l:List Int} (h:OwI bm w v l) (c d:Nat):sepV v (.slice (some ⟨w.heap.size,0,none⟩) c d):=fun q h1 h2=>by
 have:=(World.ownsRow.lt h q h1).2;simp [Value.ownBlock] at h2;omega
structure GT2 (w0:World) (bm:Nat) (t i:Value) (v1 v2:Value) (l1 l2:List Int) (d1 d2:Int) (f1 f16 fa fb fc fd fe fg:Bool) (xa xb xc xd:Value) (w:World):Prop where
 ie:fe=true→fb=true∧f1=true
 ig:fg=true→fd=true∧f16=true
 id:fd=true→fb=true
 bel:Below bm w0 w
 lt:bm+1≤w.heap.size
 bx:Bx w bm 47 [t,i,if fe=true then xb else v1,if fg=true then xd else v2]
 r1:OwI bm w (if fb=true then xb else v1) (if fb=true then l1++[d1] else l1)
 r2:OwI bm w (if fd=true then xd else v2) (if fd=true then l2++[d2] else l2)
 qa:fa=true→fb=false→OwI bm w xa [d1]∧xa.ownBlock≠none
 qc:fc=true→fd=false→OwI bm w xc [d2]
 s12:sepV (if fb=true then xb else v1) (if fd=true then xd else v2)
 s1c:fc=true→fd=false→sepV (if fb=true then xb else v1) xc
 s2a:fa=true→fb=false→sepV (if fd=true then xd else v2) xa
 sac:fa=true→fb=false→fc=true→fd=false→sepV xa xc
section
variable {w0 w w':World} {bm:Nat} {t i v1 v2:Value} {l1 l2:List Int} {d1 d2:Int} {f1 f16 fa fb fc fd fe fg:Bool} {xa xb xc xd:Value}
theorem GT2.start (hb:Bx w0 bm 47 [t,i,v1,v2]) (h1:OwI bm w0 v1 l1) (h2:OwI bm w0 v2 l2) (hs:sepV v1 v2) (ha:fa=false) (hb':fb=false) (hc:fc=false) (hd:fd=false) (he:fe=false) (hg:fg=false):GT2 w0 bm t i v1 v2 l1 l2 d1 d2 f1 f16 fa fb fc fd fe fg xa xb xc xd {w0 with drawn:=w0.drawn+1}:=by
 subst ha hb' hc hd he hg;exact⟨(fun h=>by cases h),(fun h=>by cases h),(fun h=>by cases h),⟨rfl,rfl,rfl,Nat.le_refl _,fun _ _=>rfl⟩,hb.lt,hb,h1,h2,(fun h=>by cases h),(fun h=>by cases h),hs,(fun h=>by cases h),(fun h=>by cases h),fun h=>by cases h⟩
theorem GT2.litA (h:GT2 w0 bm t i v1 v2 l1 l2 d1 d2 f1 f16 fa fb fc fd fe fg xa xb xc xd w):GT2 w0 bm t i v1 v2 l1 l2 d1 d2 f1 f16 true fb fc fd fe fg (.slice (some ⟨w.heap.size,0,none⟩) 1 1) xb xc xd (w.alloc (.cells #[.int .i64 d1] 2)):=by
 have hb:=below_alloc w #[.int .i64 d1] 2;refine⟨h.ie,h.ig,h.id,h.bel.trans (hb.mono (by have:=h.lt;omega)),by simp;have:=h.lt;omega,h.bx.below hb,own_below h.r1 hb,own_below h.r2 hb,fun _ _=>⟨OwI.new h.lt d1,by simp [Value.ownBlock]⟩,fun h1 h2=>own_below (h.qc h1 h2) hb,h.s12,h.s1c,fun _ _=>h.r2.sep_new 1 1,fun _ _ h1 h2=>((h.qc h1 h2).sep_new 1 1).symm⟩
theorem GT2.litC (h:GT2 w0 bm t i v1 v2 l1 l2 d1 d2 f1 f16 fa fb fc fd fe fg xa xb xc xd w):GT2 w0 bm t i v1 v2 l1 l2 d1 d2 f1 f16 fa fb true fd fe fg xa xb (.slice (some ⟨w.heap.size,0,none⟩) 1 1) xd (w.alloc (.cells #[.int .i64 d2] 2)):=by
 have hb:=below_alloc w #[.int .i64 d2] 2;refine⟨h.ie,h.ig,h.id,h.bel.trans (hb.mono (by have:=h.lt;omega)),by simp;have:=h.lt;omega,h.bx.below hb,own_below h.r1 hb,own_below h.r2 hb,fun h1 h2=>⟨own_below (h.qa h1 h2).1 hb,(h.qa h1 h2).2⟩,fun _ _=>OwI.new h.lt d2,h.s12,fun _ _=>h.r1.sep_new 1 1,h.s2a,fun h1 h2 _ _=>(h.qa h1 h2).1.sep_new 1 1⟩
theorem OwI.app {v x:Value} {l:List Int} {d:Int} (h:OwI bm w v l) (hx:OwI bm w x [d]) (hl:l.length+1≤1099511627776) (hB:bm+1≤w.heap.size):
 ∃ v' w1,(Builtin.append_ #[45,45] 45 #[v,x]).run Tryz.prog w= .ok v' w1∧OwI bm w1 v' (l++[d])∧Below (bm+1) w w1∧(∀ u k,OwI bm w u k→sepV v u→OwI bm w1 u k∧sepV v' u):=by
 obtain⟨A,c,e,hr,_,_⟩:=Rd.of_own num_len rfl hx;subst e;obtain⟨v',w1,hrun,own,hg,hnew⟩:=own_append (enc:=(numE .i64)) Tryz.underlying45 info_tI64 rfl (by decide) num_len num_one c h hr hl (by decide) hB;refine⟨v',w1,hrun,by unfold OwI;rw [List.length_append];exact own,(Below.refl (bm+1) w).grown hg hB (fun k hk=>(World.ownsRow.lt h k hk).1),fun u k hu hs=>⟨World.ownsRow.kept hu hg ?_,fun q h1 h2=>?_⟩⟩
 ·cases hq:u.ownBlock with
  |none=>exact .inl rfl
  |some q=>exact .inr fun e=>hs q e.symm hq
 ·rcases hnew with e|e
  ·exact hs q (by rw [←e];exact h1) h2
  ·rw [e] at h1;cases h1;have:=(World.ownsRow.lt hu _ h2).2;omega
theorem GT2.appA (h:GT2 w0 bm t i v1 v2 l1 l2 d1 d2 f1 f16 fa fb fc fd fe fg xa xb xc xd w) (ha:fa=true) (hb:fb=false) (hl:l1.length+1≤1099511627776):
 ∃ v' w1,(Builtin.append_ #[45,45] 45 #[v1,xa]).run Tryz.prog w= .ok v' w1∧GT2 w0 bm t i v1 v2 l1 l2 d1 d2 f1 f16 fa true fc fd fe fg xa v' xc xd w1:=by
 subst hb;have he:fe=false:=by cases hq:fe with|false=>rfl|true=>have:=(h.ie hq).1;cases this
 obtain⟨v',w1,hrun,own,hbl,hk⟩:=OwI.app (by simpa using h.r1) (h.qa ha rfl).1 hl h.lt;obtain⟨r2,s2⟩:=hk _ _ h.r2 (by simpa using h.s12);refine⟨v',w1,hrun,(fun h1=>⟨rfl,(h.ie h1).2⟩),h.ig,(fun _=>rfl),h.bel.trans (hbl.mono (by omega)),Nat.le_trans h.lt hbl.size,(h.bx.keep (hbl.block bm (by omega))).cast (by simp [he]),own,r2,(fun _ h2=>by cases h2),fun h1 h2=>(hk _ _ (h.qc h1 h2) (by simpa using h.s1c h1 h2)).1,s2,fun h1 h2=>(hk _ _ (h.qc h1 h2) (by simpa using h.s1c h1 h2)).2,(fun _ h2=>by cases h2),fun _ h2=>by cases h2⟩
theorem GT2.appC (h:GT2 w0 bm t i v1 v2 l1 l2 d1 d2 f1 f16 fa fb fc fd fe fg xa xb xc xd w) (hb:fb=true) (hc:fc=true) (hd:fd=false) (hl:l2.length+1≤1099511627776):
 ∃ v' w1,(Builtin.append_ #[45,45] 45 #[v2,xc]).run Tryz.prog w= .ok v' w1∧GT2 w0 bm t i v1 v2 l1 l2 d1 d2 f1 f16 fa fb fc true fe fg xa xb xc v' w1:=by
 subst hd;have hg:fg=false:=by cases hq:fg with|false=>rfl|true=>have:=(h.ig hq).1;cases this
 obtain⟨v',w1,hrun,own,hbl,hk⟩:=OwI.app (by simpa using h.r2) (h.qc hc rfl) hl h.lt;obtain⟨r1,s1⟩:=hk _ _ h.r1 (by simpa using h.s12.symm);refine⟨v',w1,hrun,h.ie,(fun h1=>⟨rfl,(h.ig h1).2⟩),(fun _=>hb),h.bel.trans (hbl.mono (by omega)),Nat.le_trans h.lt hbl.size,(h.bx.keep (hbl.block bm (by omega))).cast (by simp [hg]),r1,own,(fun _ h2=>by rw [hb] at h2;cases h2),(fun _ h2=>by cases h2),s1.symm,(fun _ h2=>by cases h2),(fun _ h2=>by rw [hb] at h2;cases h2),fun _ h2=>by rw [hb] at h2;cases h2⟩
theorem GT2.put {fe' fg':Bool} (hie:fe'=true→fb=true∧f1=true) (hig:fg'=true→fd=true∧f16=true) (h:GT2 w0 bm t i v1 v2 l1 l2 d1 d2 f1 f16 fa fb fc fd fe fg xa xb xc xd w) (hB:Bx w' bm 47 [t,i,if fe'=true then xb else v1,if fg'=true then xd else v2]) (hbut:But w w' [bm]):GT2 w0 bm t i v1 v2 l1 l2 d1 d2 f1 f16 fa fb fc fd fe' fg' xa xb xc xd w':=by
 have hX: ∀ x∈[bm],x<bm+1:=fun x hx=>by simp only [List.mem_singleton] at hx;omega
 refine⟨hie,hig,h.id,h.bel.trans (hbut.below (by have:=h.lt;omega) fun x hx=>by simp only [List.mem_singleton] at hx;omega),Nat.le_trans h.lt hbut.size,hB,own_but h.r1 hbut hX,own_but h.r2 hbut hX,fun h1 h2=>⟨own_but (h.qa h1 h2).1 hbut hX,(h.qa h1 h2).2⟩,fun h1 h2=>own_but (h.qc h1 h2) hbut hX,h.s12,h.s1c,h.s2a,h.sac⟩
theorem GT2.s1 (h:GT2 w0 bm t i v1 v2 l1 l2 d1 d2 f1 f16 fa fb fc fd fe fg xa xb xc xd w):GT2 w0 bm t i v1 v2 l1 l2 d1 d2 true f16 fa fb fc fd fe fg xa xb xc xd w:=
 {h with ie:=fun e=>⟨(h.ie e).1,rfl⟩}
theorem GT2.s16 (h:GT2 w0 bm t i v1 v2 l1 l2 d1 d2 f1 f16 fa fb fc fd fe fg xa xb xc xd w):GT2 w0 bm t i v1 v2 l1 l2 d1 d2 f1 true fa fb fc fd fe fg xa xb xc xd w:=
 {h with ig:=fun e=>⟨(h.ig e).1,rfl⟩}
theorem GT2.c2 (h:GT2 w0 bm t i v1 v2 l1 l2 d1 d2 f1 f16 fa fb fc fd fe fg xa xb xc xd w) (h1:f1=false):w.cell? ⟨bm,2,none⟩=some v1:=by
 have he:fe=false:=by cases hq:fe with|false=>rfl|true=>have:=(h.ie hq).2;rw [h1] at this;cases this
 have:=h.bx;rw [show(if fe=true then xb else v1)=v1 by simp [he]] at this;exact this.cell 2 rfl
theorem GT2.c3 (h:GT2 w0 bm t i v1 v2 l1 l2 d1 d2 f1 f16 fa fb fc fd fe fg xa xb xc xd w) (h1:f16=false):w.cell? ⟨bm,3,none⟩=some v2:=by
 have hg:fg=false:=by cases hq:fg with|false=>rfl|true=>have:=(h.ig hq).2;rw [h1] at this;cases this
 have:=h.bx;rw [show(if fg=true then xd else v2)=v2 by simp [hg]] at this;exact this.cell 3 rfl
theorem OwI.cell1 {v:Value} {l:List Int} (h:OwI bm w v l):v.oneCell'=true:=by
 obtain⟨A,c,e,_⟩:=Rd.of_own num_len rfl h;subst e;rfl
theorem GT2.ob (h:GT2 w0 bm t i v1 v2 l1 l2 d1 d2 f1 f16 fa fb fc fd fe fg xa xb xc xd w) (hb:fb=true):xb.oneCell'=true:=by
 have:=h.r1.cell1;rwa [if_pos hb] at this
theorem GT2.od (h:GT2 w0 bm t i v1 v2 l1 l2 d1 d2 f1 f16 fa fb fc fd fe fg xa xb xc xd w) (hd:fd=true):xd.oneCell'=true:=by
 have:=h.r2.cell1;rwa [if_pos hd] at this
theorem outcome_store_f {P:Program} {o:Oper} {ev:Operand→Value} {K:Value→World→Prop} (p x:Operand) (t:TypeId) (hop:o.op=Op.store t p x) {b:Nat} {T:TypeId} {vs:List Value} (i:Nat) {v:Value} (hp:ev p= .pointer (some ⟨b,i,none⟩)) (hx:ev x=v)
 (hB:Bx w b T vs) (hi:i<vs.length) (h1:v.oneCell'=true) (ht:(P.info? t).map (·.size)=some 1) (hK:Bx (w.setCell ⟨b,i,none⟩ v) b T (vs.set i v)→But w (w.setCell ⟨b,i,none⟩ v) [b]→K undef (w.setCell ⟨b,i,none⟩ v)):Outcome P K ((execOp ev o).run P w):=by
 unfold execOp;simp only [hop,hp,hx,Sem.run_bind,run_field hB i hi h1 t ht,Result.andThen_ok,Sem.run_pure];exact hK (hB.set i v) (But.of_set _ _ _ (by simp))
theorem GT2.putE (h:GT2 w0 bm t i v1 v2 l1 l2 d1 d2 f1 f16 fa fb fc fd fe fg xa xb xc xd w) (he:fe=false) (hb:fb=true) (h1:f1=true) {w':World} (hB:Bx w' bm 47 [t,i,xb,if fg=true then xd else v2]) (hbut:But w w' [bm]):GT2 w0 bm t i v1 v2 l1 l2 d1 d2 f1 f16 fa fb fc fd true fg xa xb xc xd w':=
 h.put (fun _=>⟨hb,h1⟩) h.ig hB hbut
theorem GT2.putG (h:GT2 w0 bm t i v1 v2 l1 l2 d1 d2 f1 f16 fa fb fc fd fe fg xa xb xc xd w) (hd:fd=true) (h1:f16=true) {w':World} (hB:Bx w' bm 47 [t,i,if fe=true then xb else v1,xd]) (hbut:But w w' [bm]):GT2 w0 bm t i v1 v2 l1 l2 d1 d2 f1 f16 fa fb fc fd fe true xa xb xc xd w':=
 h.put h.ie (fun _=>⟨hd,h1⟩) hB hbut
end
end Go.Proofs.YtechdefolfboeaaGreatDoor.B
namespace Go.Proofs.YtechdefolfboeaaGreatDoor
open Go.RowKit B K
theorem rruns_one {w:World} {b:Nat} {e:RnE} {r:RunP} (hB:Bx w b 47 (rnE e)) (h:RunT w e r):RRuns w (some ⟨b,0,none⟩) 1 [r]:=
 ⟨⟨[e],⟨rfl,fun _=>⟨b,0,rfl,hB.lt,fun i x hx j u hu=>by
   obtain rfl:i=0:=by have:=(List.getElem?_eq_some_iff.1 hx).1;simp at this;exact this
   cases hx;have:=hB.cell j hu
   simpa using this⟩⟩,⟨rfl,fun k e' r' he hr=>by
   obtain rfl:k=0:=by have:=(List.getElem?_eq_some_iff.1 he).1;simp at this;exact this
   cases he;cases hr;exact h⟩⟩⟩
theorem info_tBl:(Tryz.prog.info? 4).map (fun i=>(i.zero,i.size,i.bytes))=some (some (.bool false),1,1):=by kernel_rfl
theorem make_bools (n:Nat) (hn:n≤1000) (W:World):(Instr.makeSlice 66 (.int .i64 (n:Int)) (.int .i64 (n:Int))).run Tryz.prog W= .ok (.slice (some ⟨W.heap.size,0,none⟩) n n) (W.alloc (.cells (List.replicate n (Value.bool false)).toArray 4)):=by
 obtain⟨i,hi,hz,hs,hb⟩:=info_parts info_tBl;have:=run_make (P:=Tryz.prog) W 66 4 i _ Tryz.underlying66 hi hz .i64 .i64 (n:Int) (n:Int) (by omega) (Int.le_refl _) (by rw [hb];omega) (by omega);rw [hs] at this;rw [show(List.replicate n (Value.bool false)).toArray =madeCells #[.bool false] n by rw [←toList_madeCells_one]];simpa [Value.cells] using this
theorem one_any (M:WorldP) (V:WV) (t no:Int) (X1:Option Addr) (m1 d1:Nat) (X2:Option Addr) (m2 d2:Nat) (arr dep:List Int) (A:Option Addr) (n c:Nat) (by_:List Int) (we:World) (hsp:Sp we) (hr:RW we M V) (hwf:WfM M)
 (ha:Rd we 1 (numE .i64) X1 m1 arr) (hac:m1≤d1∧d1≤9223372036854775807) (hd:Rd we 1 (numE .i64) X2 m2 dep) (hdc:m2≤d2∧d2≤9223372036854775807) (hy:Rd we 1 (numE .i64) A n by_):
 Calls Tryz.prog 8 #[wVal M V,.agg #[.int .i64 t,.int .i64 no,.slice X1 m1 d1,.slice X2 m2 d2],.slice A n c] we fun e w'=>e= .returned (.bool true)∧Below we.heap.size we w':=by
 have hkf:=H_ (fun w (h:RW w M V)=>kfew_any M V w h hwf);have hft:=H_ (fun w h hf t no x1 x2 k1 k2 j1 j2 ar de h1 h2=>rFits_any M V w h hf t no x1 x2 k1 k2 j1 j2 ar de h1 h2);have hmg:=H_ (fun A n c L w h1 hf h2 h3 hn hx=>paMake_any 100000 (sortOK 100000 (Nat.le_refl _)) M V A n c L w h1 hf h2 h3 hn hx);have hrH:=H_ hr;have hsH:=H_ hsp;have haH:=H_ ha;have hdH:=H_ hd;have hyH:=H_ hy;have hacH:=H_ hac;have hdcH:=H_ hdc;have hyl:=H_ hy.len;obtain⟨a0,a1,a2,a3,a4,a5,aP,aD,aR,aT,aH,n0,n1,n2,n3,n4,n5,nP,nD,nR,nT,nH,c0,c1,c2,c3,c4,c5,cP,cD,cR,cT,cH⟩:=V;simp only [wVal] at*
 obtain⟨w1,w2,b1,b2,hw1,hw2,hbE1,hbE2,hbF2,hb1,hb2,hup,B1,B2,hge1,hge2⟩:=enter2 we 31 47 [.int .i64 M.hz,.slice a0 n0 c0,.slice a1 n1 c1,.slice a2 n2 c2,.slice a3 n3 c3,.slice a4 n4 c4,.slice a5 n5 c5,.slice aP nP cP,.slice aD nD cD,.slice aR nR cR,.slice aT nT cT,.slice aH nH cH] [.int .i64 t,.int .i64 no,.slice X1 m1 d1,.slice X2 m2 d2];have B1H:=H_ B1;have B2H:=H_ B2;have l1:=B1.lt;have l2:=B2.lt;clear B1 B2 hb1 hb2 hr hsp ha hd hy hwf hac hdc;go_enter Tryz.func8,Tryz.ntmps8;go_wp2_with fail;refine(lives20_any w2 (hsH.out.below hup.out)).mono ?_;rintro e w3 ⟨rfl,hb3⟩;have hb3w:=h_ hup hb3;have C1:=H_ (B1H.out.below hb3);have C2:=H_ (B2H.out.below hb3);obtain⟨y0,y1,y2,y3,y4,y5,y6,y7,y8,y9,y10,y11⟩:=c_12 C1.out;clear hb3;go_wp2_with fail;clear hw1 hw2 hbE1 hbE2 hbF2;refine(hkf.out w3 (hrH.out.below hb3w.out)).mono ?_;rintro e w4 ⟨rfl,hb4⟩;have hb4w:=h_ hb3w hb4
 have D1:=H_ (C1.out.below hb4);have D2:=H_ (C2.out.below hb4);clear hb4 y0 y1 y2 y3 y4 y5 y6 y7 y8 y9 y10 y11 C1 C2 B1H B2H
 cases hfw:fewB M with
 |false=>
  clear hfw;go_wp2_with fail;go_returns;exact⟨rfl,hb4w.out⟩
 |true=>
  have hfew:=H_ (few_of hfw);clear hfw;obtain⟨x0,x1,x2,x3⟩:=c_4 D2.out;obtain⟨w5,b5,hw5,hb5E,hbw5,Bw5⟩:=box1 w4 47 [.int .i64 t,.int .i64 no,.slice X1 m1 d1,.slice X2 m2 d2];have hb5w:=h_ hb4w hbw5;have E1:=H_ (D1.out.below hbw5);have E2:=H_ (D2.out.below hbw5);have R5:Hid (RRuns w5 (some ⟨b5,0,none⟩) 1 [⟨t,no,arr,dep⟩]):=rruns_one (e:=(t,no,(X1,m1,d1),(X2,m2,d2))) Bw5 ⟨rfl,rfl,haH.out.below hb5w.out,hacH.out,hdH.out.below hb5w.out,hdcH.out⟩;clear Bw5 hbw5;go_wp2_with fail;clear hw5 hb5E;refine(klight_any (some ⟨b5,0,none⟩) 1 1 [⟨t,no,arr,dep⟩] w5 R5.out).mono ?_;rintro e w6 ⟨rfl,hb6⟩;have hb6w:=h_ hb5w hb6;have F1:=H_ (E1.out.below hb6);have F2:=H_ (E2.out.below hb6);clear hb6 R5 x0 x1 x2 x3 E1 E2 D1 D2
  cases hlt:lightB [⟨t,no,arr,dep⟩] with
  |false=>
   clear hlt;go_wp2_with fail;go_returns;exact⟨rfl,hb6w.out⟩
  |true=>
   have hn1:m1≤40:=by have h1:arr.length≤40:=(light_runs hlt _ (List.mem_singleton.2 rfl)).1;have:=haH.out.len;omega
   have hn2:m2≤40:=by have h1:dep.length≤40:=(light_runs hlt _ (List.mem_singleton.2 rfl)).2;have:=hdH.out.len;omega
   clear hlt;by_cases hn30:30<n
   ·have hg30:decide (30<n)=true:=T_ hn30;go_wp2_with fail;go_returns;exact⟨rfl,hb6w.out⟩
   ·have hg30:decide (30<n)=false:=F_ hn30;have hn30':n≤30:=by omega
    obtain⟨y0,y1,y2,y3,y4,y5,y6,y7,y8,y9,y10,y11⟩:=c_12 F1.out;obtain⟨x0,x1,x2,x3⟩:=c_4 F2.out;go_wp2_with fail;refine(hft.out w6 (hrH.out.below hb6w.out) hfew.out t no X1 X2 m1 m2 d1 d2 arr dep (haH.out.below hb6w.out) (hdH.out.below hb6w.out)).mono ?_;rintro e w7 ⟨rfl,hb7⟩;have hb7w:=h_ hb6w hb7;have G1:=H_ (F1.out.below hb7);have G2:=H_ (F2.out.below hb7);clear hb7 y0 y1 y2 y3 y4 y5 y6 y7 y8 y9 y10 y11 x0 x1 x2 x3 F1 F2
    cases hfit:(goodB nameB M&&fitsR M ⟨t,no,arr,dep⟩) with
    |false=>
     simp only [Bool.false_eq_true,if_false];clear hfit;go_wp2_with fail;go_returns;exact⟨rfl,hb7w.out⟩
    |true=>
     simp only [if_true];obtain⟨hgood,hfitr⟩:=Bool.and_eq_true_iff.1 hfit;have hgood:=H_ hgood;have hF:=H_ (fitR_of hfitr);rename_i hgood0;clear hgood0 hfit hfitr;have hgw:=H_ (goodW_of hgood.out);have hhz:Hid (M.hz≤1099511627776):=hgw.out.hz.2;have hlen:arr.length=dep.length:=hF.out.la.trans hF.out.ld.symm;obtain rfl:m1=m2:=by have h1:=haH.out.len;have h2:=hdH.out.len;omega
     clear hlen hgw;have hL0:Hid (RunsO w7.heap.size w7 (.slice none 0 0) (onesL M ⟨t,no,arr,dep⟩ by_ 0)):=RunsO.nil;have hb0:Hid (Below w7.heap.size w7 w7):=Below.refl _ _;go_wp2_with fail;go_loopw [7,8] (fun vo vi wr=> ∃ (i:Nat) (A0:Option Addr) (c0:Nat),i≤n∧vo= .slice A0 (onesL M ⟨t,no,arr,dep⟩ by_ i).length c0∧vi= .int .i64 i∧Hid (RunsO w7.heap.size wr (.slice A0 (onesL M ⟨t,no,arr,dep⟩ by_ i).length c0) (onesL M ⟨t,no,arr,dep⟩ by_ i))∧Hid (Below w7.heap.size w7 wr)) (fun _ vi _=>n-(intOf vi).toNat)
     case atStart=>exact⟨0,none,0,Nat.zero_le _,rfl,rfl,hL0,hb0⟩
     case round=>
      rename World=>wo
      clear hL0 hb0;obtain⟨i,A0,c0,hi,rfl,rfl,ho,hbr⟩:=hrel;have hbw:=h_ hb7w hbr.out;by_cases hlt:i<n
      ·have hltI:(i:Int)<(n:Int):=by omega
       obtain⟨bY,oY,y,rfl,hbY,hy,gy⟩:=hyH.out.num hlt
       have hstep:Hid (onesL M ⟨t,no,arr,dep⟩ by_ (i+1)=onesL M ⟨t,no,arr,dep⟩ by_ i++(if fitsR M (mvR ⟨t,no,arr,dep⟩ (byD y) i)=true then [mvR ⟨t,no,arr,dep⟩ (byD y) i] else [])):=by
        show _=_;rw [onesL,show by_.getD i 0=y by simp [List.getD,hy]]
       have hyb:=byD_lt y;obtain⟨dd,hdd⟩: ∃ q,byD y=q:=⟨_,rfl⟩
       rw [hdd] at hstep hyb;have hrem:Int.tmod y 1000=dd:=hdd;have HB1:=H_ (G1.out.below hbr.out);have HB2:=H_ (G2.out.below hbr.out);have l2:=HB2.out.lt;have gyr:=c_ hbw.out hbY gy;have lYr:=Nat.lt_of_lt_of_le hbY hbw.out.size;have x0:=HB2.out.cell 0 rfl;clear hy gy hdd;obtain⟨wm,bm,hwm,hbmE,hbwm,Bwm⟩:=box1 wo 47 [.int .i64 t,.int .i64 i,.slice none 0 0,.slice none 0 0];have hbm:Hid (Below bm wo wm):=by show Below _ _ _;rw [←hbmE];exact hbwm
       have O1:Hid (OwI bm wm (.slice none 0 0) ((arr.take 0).map (· +dd))):=World.ownsRow_nil _ _ _ _;have O2:Hid (OwI bm wm (.slice none 0 0) ((dep.take 0).map (· +dd))):=World.ownsRow_nil _ _ _ _;have hsv:Hid (sepV (.slice none 0 0) (.slice none 0 0)):=fun q h=>by cases h
       have Bm:=H_ Bwm;have lbm:Hid (wo.heap.size=bm):=hbmE;have hwmH:=H_ hwm;clear Bwm hbwm hwm;go_wp2_with fail;rw [hwmH.out];clear hwmH hbmE x0;go_loopw [10] (fun vk wq=> ∃ (k:Nat) (v1 v2:Value),k≤m1∧vk= .int .i64 k∧Hid (Bx wq bm 47 [.int .i64 t,.int .i64 i,v1,v2])∧Hid (OwI bm wq v1 ((arr.take k).map (· +dd)))∧Hid (OwI bm wq v2 ((dep.take k).map (· +dd)))∧Hid (sepV v1 v2)∧Hid (Below bm wo wq)) (fun vk _=>m1-(intOf vk).toNat)
       case atStart=>exact⟨0,_,_,Nat.zero_le _,rfl,Bm,O1,O2,hsv,hbm⟩
       case round=>
        clear Bm O1 O2 hsv hbm;obtain⟨k,v1,v2,hk,rfl,Bm,O1,O2,hsv,hbm⟩:=hrel;have lbr:Hid (Below wo.heap.size wo wr):=by show Below _ _ _;rw [lbm.out];exact hbm.out
        by_cases hlk:k<m1
        ·have hkI:(k:Int)<(m1:Int):=by omega
         obtain⟨bA,oA,a,rfl,hbA,hxa,ga⟩:=haH.out.num hlk;obtain⟨bD,oD,d,rfl,hbD,hxd,gd⟩:=hdH.out.num hlk;have htk:=hF.out.tick k a d hxa hxd;have hzz:=hhz.out;have hwa:IntKind.i64.wrap (a+dd)=a+dd:=IntWalk.i64_in _ (by omega);have hwd:IntKind.i64.wrap (d+dd)=d+dd:=IntWalk.i64_in _ (by omega);have hla:Hid ((arr.take (k+1)).map (· +dd)=(arr.take k).map (· +dd)++[a+dd]):=by show _=_;rw [take_at hxa,List.map_append];rfl
         have hld:Hid ((dep.take (k+1)).map (· +dd)=(dep.take k).map (· +dd)++[d+dd]):=by show _=_;rw [take_at hxd,List.map_append];rfl
         have hl1:Hid (((arr.take k).map (· +dd)).length +1≤1099511627776):=by show _≤_;rw [List.length_map,List.length_take];omega
         have hl2:Hid (((dep.take k).map (· +dd)).length +1≤1099511627776):=by show _≤_;rw [List.length_map,List.length_take];omega
         have hbrw:=h_ hbw lbr.out;have ht1:=c_ lbr.out l2 (HB2.out.cell 2 rfl);have ht2:=c_ lbr.out l2 (HB2.out.cell 3 rfl);have hta:=c_ hbrw.out hbA ga;have htd:=c_ hbrw.out hbD gd;have hty:=c_ lbr.out lYr gyr;have zb2:b2<bm:=by rw [←lbm.out];exact l2
         have zbY:bY<bm:=by rw [←lbm.out];exact lYr
         have zbA:bA<bm:=by have:=hbw.out.size;have:=lbm.out;omega
         have zbD:bD<bm:=by have:=hbw.out.size;have:=lbm.out;omega
         clear hxa hxd ga gd hzz;go_upto_region 13 with fail;refine wp_region_ghost (fun fl x w=>GT2 wr bm (.int .i64 t) (.int .i64 (i:Int)) v1 v2 ((arr.take k).map (· +dd)) ((dep.take k).map (· +dd)) (a+dd) (d+dd) (fl 1) (fl 16) (fl 13) (fl 14) (fl 28) (fl 29) (fl 31) (fl 33) (x 13) (x 14) (x 28) (x 29) w) (by kernel_rfl) (by kernel_rfl) (by kernel_rfl) (by kernel_rfl) (by kernel_rfl) ?_ ?_
         ·intro x0;exact GT2.start Bm.out O1.out O2.out hsv.out rfl rfl rfl rfl rfl rfl
         intro base O hbase hO
         have kx1:Hid (∀ xs,evX base O xs (.tmp 2)= .slice (some ⟨bY,oY,none⟩) n c∧evX base O xs (.tmp 4)= .pointer (some ⟨b2,0,none⟩)∧evX base O xs (.tmp 8)= .int .i64 (i:Int)∧evX base O xs (.tmp 9)= .pointer (some ⟨bm,0,none⟩)∧evX base O xs (.tmp 10)= .int .i64 (k:Int)∧evX base O xs (.tmp 55)=xs 0∧evX base O xs (.tmp 56)=xs 1∧evX base O xs (.tmp 57)=xs 2∧evX base O xs (.tmp 58)=xs 3∧evX base O xs (.tmp 59)=xs 4∧evX base O xs (.tmp 60)=xs 5∧evX base O xs (.tmp 61)=xs 6∧evX base O xs (.tmp 62)=xs 7∧evX base O xs (.tmp 63)=xs 8∧evX base O xs (.tmp 64)=xs 9∧evX base O xs (.tmp 65)=xs 10∧evX base O xs (.tmp 66)=xs 11∧evX base O xs (.tmp 67)=xs 12∧evX base O xs (.tmp 68)=xs 13∧evX base O xs (.tmp 69)=xs 14∧evX base O xs (.tmp 70)=xs 15∧evX base O xs (.tmp 71)=xs 16∧evX base O xs (.tmp 72)=xs 17∧evX base O xs (.tmp 73)=xs 18∧evX base O xs (.tmp 74)=xs 19∧evX base O xs (.tmp 75)=xs 20∧evX base O xs (.tmp 76)=xs 21∧evX base O xs (.tmp 77)=xs 22∧evX base O xs (.tmp 78)=xs 23∧evX base O xs (.tmp 79)=xs 24∧evX base O xs (.tmp 80)=xs 25∧evX base O xs (.tmp 81)=xs 26∧evX base O xs (.tmp 82)=xs 27∧evX base O xs (.tmp 83)=xs 28∧evX base O xs (.tmp 84)=xs 29∧evX base O xs (.tmp 85)=xs 30∧evX base O xs (.tmp 86)=xs 32):=fun xs=>by rw [hbase,hO];exact⟨rfl,rfl,rfl,rfl,rfl,rfl,rfl,rfl,rfl,rfl,rfl,rfl,rfl,rfl,rfl,rfl,rfl,rfl,rfl,rfl,rfl,rfl,rfl,rfl,rfl,rfl,rfl,rfl,rfl,rfl,rfl,rfl,rfl,rfl,rfl,rfl,rfl⟩
         clear hbase hO;apply gd_ (n:=0);rfl
         ·intro fl xs w ev hG hD hl hdone hev ef K hK;have e9:=(hev (.tmp 9)).trans ((kx1.out xs).2.2.2.1);clear hev hD;go_simp;exact hK _ _ rfl hG
         apply gd_ (n:=1);rfl
         ·intro fl xs w ev hG hD hl hdone hev ef K hK;have e55:=(hev (.tmp 55)).trans ((kx1.out xs).2.2.2.2.2.1);have d0:=hD.at_ 0 rfl rfl;replace e55:=e55.trans d0;clear hev hD;have m0:=hG.c2 hl;go_simp;exact hK _ _ rfl hG.s1
         apply gd_ (n:=2);rfl
         ·intro fl xs w ev hG hD hl hdone hev ef K hK;have e4:=(hev (.tmp 4)).trans ((kx1.out xs).2.1);clear hev hD;go_simp;exact hK _ _ rfl hG
         apply gd_ (n:=3);rfl
         ·intro fl xs w ev hG hD hl hdone hev ef K hK;have e57:=(hev (.tmp 57)).trans ((kx1.out xs).2.2.2.2.2.2.2.1);have d2:=hD.at_ 2 rfl rfl;replace e57:=e57.trans d2;clear hev hD;have m0:=c_ hG.bel zb2 ht1;go_simp;exact hK _ _ rfl hG
         apply gd_ (n:=4);rfl
         ·intro fl xs w ev hG hD hl hdone hev ef K hK;have e10:=(hev (.tmp 10)).trans ((kx1.out xs).2.2.2.2.1);clear hev hD;go_simp;exact hK _ _ rfl hG
         apply gd_ (n:=5);rfl
         ·intro fl xs w ev hG hD hl hdone hev ef K hK;have e58:=(hev (.tmp 58)).trans ((kx1.out xs).2.2.2.2.2.2.2.2.1);have d3:=hD.at_ 3 rfl rfl;replace e58:=e58.trans d3;have e59:=(hev (.tmp 59)).trans ((kx1.out xs).2.2.2.2.2.2.2.2.2.1);have d4:=hD.at_ 4 rfl rfl;replace e59:=e59.trans d4;clear hev hD;go_simp;exact hK _ _ rfl hG
         apply gd_ (n:=6);rfl
         ·intro fl xs w ev hG hD hl hdone hev ef K hK;have e60:=(hev (.tmp 60)).trans ((kx1.out xs).2.2.2.2.2.2.2.2.2.2.1);have d5:=hD.at_ 5 rfl rfl;replace e60:=e60.trans d5;clear hev hD;have m0:=c_ hG.bel zbA hta;go_simp;exact hK _ _ rfl hG
         apply gd_ (n:=7);rfl
         ·intro fl xs w ev hG hD hl hdone hev ef K hK;have e2:=(hev (.tmp 2)).trans ((kx1.out xs).1);clear hev hD;go_simp;exact hK _ _ rfl hG
         apply gd_ (n:=8);rfl
         ·intro fl xs w ev hG hD hl hdone hev ef K hK;have e8:=(hev (.tmp 8)).trans ((kx1.out xs).2.2.1);clear hev hD;go_simp;exact hK _ _ rfl hG
         apply gd_ (n:=9);rfl
         ·intro fl xs w ev hG hD hl hdone hev ef K hK;have e62:=(hev (.tmp 62)).trans ((kx1.out xs).2.2.2.2.2.2.2.2.2.2.2.2.1);have d7:=hD.at_ 7 rfl rfl;replace e62:=e62.trans d7;have e63:=(hev (.tmp 63)).trans ((kx1.out xs).2.2.2.2.2.2.2.2.2.2.2.2.2.1);have d8:=hD.at_ 8 rfl rfl;replace e63:=e63.trans d8;clear hev hD;go_simp;exact hK _ _ rfl hG
         apply gd_ (n:=10);rfl
         ·intro fl xs w ev hG hD hl hdone hev ef K hK;have e64:=(hev (.tmp 64)).trans ((kx1.out xs).2.2.2.2.2.2.2.2.2.2.2.2.2.2.1);have d9:=hD.at_ 9 rfl rfl;replace e64:=e64.trans d9;clear hev hD;have m0:=c_ hG.bel zbY hty;go_simp;exact hK _ _ rfl hG
         apply gd_ (n:=11);rfl
         ·intro fl xs w ev hG hD hl hdone hev ef K hK;have e65:=(hev (.tmp 65)).trans ((kx1.out xs).2.2.2.2.2.2.2.2.2.2.2.2.2.2.2.1);have d10:=hD.at_ 10 rfl rfl;replace e65:=e65.trans d10;have ec: ∀ v,ev (.const v)=v:=fun v=>(hev _).trans rfl;clear hev hD;go_simp;exact hK _ _ rfl hG
         apply gd_ (n:=12);rfl
         ·intro fl xs w ev hG hD hl hdone hev ef K hK;have e61:=(hev (.tmp 61)).trans ((kx1.out xs).2.2.2.2.2.2.2.2.2.2.2.1);have d6:=hD.at_ 6 rfl rfl;replace e61:=e61.trans d6;have e66:=(hev (.tmp 66)).trans ((kx1.out xs).2.2.2.2.2.2.2.2.2.2.2.2.2.2.2.2.1);have d11:=hD.at_ 11 rfl rfl;replace e66:=e66.trans d11;clear hev hD;go_simp;exact hK _ _ rfl hG
         refine ga_ (n:=13) (fun _=>True) ?_ ?_
         ·intro fl xs w ev hG hD hl hdone hev ef K hK;have e67:=(hev (.tmp 67)).trans ((kx1.out xs).2.2.2.2.2.2.2.2.2.2.2.2.2.2.2.2.2.1);have d12:=hD.at_ 12 rfl rfl;replace e67:=e67.trans d12;clear hev hD;go_simp;exact hK _ _ trivial hG.litA
         refine ga_ (n:=14) (fun _=>True) ?_ ?_
         ·intro fl xs w ev hG hD hl hdone hev ef K hK;have e56:=(hev (.tmp 56)).trans ((kx1.out xs).2.2.2.2.2.2.1);have d1:=hD.at_ 1 rfl rfl;replace e56:=e56.trans d1;have e68:=(hev (.tmp 68)).trans ((kx1.out xs).2.2.2.2.2.2.2.2.2.2.2.2.2.2.2.2.2.2.1);clear hev hD;obtain⟨v',w1,hrun,hG'⟩:=hG.appA (done_of hdone 13 rfl) hl hl1.out;exact outcome_append (.tmp 56) (.tmp 68) 45 rfl e56 e68 hrun (hK _ _ trivial hG')
         apply gd_ (n:=15);rfl
         ·intro fl xs w ev hG hD hl hdone hev ef K hK;have e9:=(hev (.tmp 9)).trans ((kx1.out xs).2.2.2.1);clear hev hD;go_simp;exact hK _ _ rfl hG
         apply gd_ (n:=16);rfl
         ·intro fl xs w ev hG hD hl hdone hev ef K hK;have e70:=(hev (.tmp 70)).trans ((kx1.out xs).2.2.2.2.2.2.2.2.2.2.2.2.2.2.2.2.2.2.2.2.1);have d15:=hD.at_ 15 rfl rfl;replace e70:=e70.trans d15;clear hev hD;have m0:=hG.c3 hl;go_simp;exact hK _ _ rfl hG.s16
         apply gd_ (n:=17);rfl
         ·intro fl xs w ev hG hD hl hdone hev ef K hK;have e4:=(hev (.tmp 4)).trans ((kx1.out xs).2.1);clear hev hD;go_simp;exact hK _ _ rfl hG
         apply gd_ (n:=18);rfl
         ·intro fl xs w ev hG hD hl hdone hev ef K hK;have e72:=(hev (.tmp 72)).trans ((kx1.out xs).2.2.2.2.2.2.2.2.2.2.2.2.2.2.2.2.2.2.2.2.2.2.1);have d17:=hD.at_ 17 rfl rfl;replace e72:=e72.trans d17;clear hev hD;have m0:=c_ hG.bel zb2 ht2;go_simp;exact hK _ _ rfl hG
         apply gd_ (n:=19);rfl
         ·intro fl xs w ev hG hD hl hdone hev ef K hK;have e10:=(hev (.tmp 10)).trans ((kx1.out xs).2.2.2.2.1);clear hev hD;go_simp;exact hK _ _ rfl hG
         apply gd_ (n:=20);rfl
         ·intro fl xs w ev hG hD hl hdone hev ef K hK;have e73:=(hev (.tmp 73)).trans ((kx1.out xs).2.2.2.2.2.2.2.2.2.2.2.2.2.2.2.2.2.2.2.2.2.2.2.1);have d18:=hD.at_ 18 rfl rfl;replace e73:=e73.trans d18;have e74:=(hev (.tmp 74)).trans ((kx1.out xs).2.2.2.2.2.2.2.2.2.2.2.2.2.2.2.2.2.2.2.2.2.2.2.2.1);have d19:=hD.at_ 19 rfl rfl;replace e74:=e74.trans d19;clear hev hD;go_simp;exact hK _ _ rfl hG
         apply gd_ (n:=21);rfl
         ·intro fl xs w ev hG hD hl hdone hev ef K hK;have e75:=(hev (.tmp 75)).trans ((kx1.out xs).2.2.2.2.2.2.2.2.2.2.2.2.2.2.2.2.2.2.2.2.2.2.2.2.2.1);have d20:=hD.at_ 20 rfl rfl;replace e75:=e75.trans d20;clear hev hD;have m0:=c_ hG.bel zbD htd;go_simp;exact hK _ _ rfl hG
         apply gd_ (n:=22);rfl
         ·intro fl xs w ev hG hD hl hdone hev ef K hK;have e2:=(hev (.tmp 2)).trans ((kx1.out xs).1);clear hev hD;go_simp;exact hK _ _ rfl hG
         apply gd_ (n:=23);rfl
         ·intro fl xs w ev hG hD hl hdone hev ef K hK;have e8:=(hev (.tmp 8)).trans ((kx1.out xs).2.2.1);clear hev hD;go_simp;exact hK _ _ rfl hG
         apply gd_ (n:=24);rfl
         ·intro fl xs w ev hG hD hl hdone hev ef K hK;have e77:=(hev (.tmp 77)).trans ((kx1.out xs).2.2.2.2.2.2.2.2.2.2.2.2.2.2.2.2.2.2.2.2.2.2.2.2.2.2.2.1);have d22:=hD.at_ 22 rfl rfl;replace e77:=e77.trans d22;have e78:=(hev (.tmp 78)).trans ((kx1.out xs).2.2.2.2.2.2.2.2.2.2.2.2.2.2.2.2.2.2.2.2.2.2.2.2.2.2.2.2.1);have d23:=hD.at_ 23 rfl rfl;replace e78:=e78.trans d23;clear hev hD;go_simp;exact hK _ _ rfl hG
         apply gd_ (n:=25);rfl
         ·intro fl xs w ev hG hD hl hdone hev ef K hK;have e79:=(hev (.tmp 79)).trans ((kx1.out xs).2.2.2.2.2.2.2.2.2.2.2.2.2.2.2.2.2.2.2.2.2.2.2.2.2.2.2.2.2.1);have d24:=hD.at_ 24 rfl rfl;replace e79:=e79.trans d24;clear hev hD;have m0:=c_ hG.bel zbY hty;go_simp;exact hK _ _ rfl hG
         apply gd_ (n:=26);rfl
         ·intro fl xs w ev hG hD hl hdone hev ef K hK;have e80:=(hev (.tmp 80)).trans ((kx1.out xs).2.2.2.2.2.2.2.2.2.2.2.2.2.2.2.2.2.2.2.2.2.2.2.2.2.2.2.2.2.2.1);have d25:=hD.at_ 25 rfl rfl;replace e80:=e80.trans d25;have ec: ∀ v,ev (.const v)=v:=fun v=>(hev _).trans rfl;clear hev hD;go_simp;exact hK _ _ rfl hG
         apply gd_ (n:=27);rfl
         ·intro fl xs w ev hG hD hl hdone hev ef K hK;have e76:=(hev (.tmp 76)).trans ((kx1.out xs).2.2.2.2.2.2.2.2.2.2.2.2.2.2.2.2.2.2.2.2.2.2.2.2.2.2.1);have d21:=hD.at_ 21 rfl rfl;replace e76:=e76.trans d21;have e81:=(hev (.tmp 81)).trans ((kx1.out xs).2.2.2.2.2.2.2.2.2.2.2.2.2.2.2.2.2.2.2.2.2.2.2.2.2.2.2.2.2.2.2.1);have d26:=hD.at_ 26 rfl rfl;replace e81:=e81.trans d26;clear hev hD;go_simp;exact hK _ _ rfl hG
         refine ga_ (n:=28) (fun _=>True) ?_ ?_
         ·intro fl xs w ev hG hD hl hdone hev ef K hK;have e82:=(hev (.tmp 82)).trans ((kx1.out xs).2.2.2.2.2.2.2.2.2.2.2.2.2.2.2.2.2.2.2.2.2.2.2.2.2.2.2.2.2.2.2.2.1);have d27:=hD.at_ 27 rfl rfl;replace e82:=e82.trans d27;clear hev hD;go_simp;exact hK _ _ trivial hG.litC
         refine ga_ (n:=29) (fun _=>True) ?_ ?_
         ·intro fl xs w ev hG hD hl hdone hev ef K hK;have e71:=(hev (.tmp 71)).trans ((kx1.out xs).2.2.2.2.2.2.2.2.2.2.2.2.2.2.2.2.2.2.2.2.2.1);have d16:=hD.at_ 16 rfl rfl;replace e71:=e71.trans d16;have e83:=(hev (.tmp 83)).trans ((kx1.out xs).2.2.2.2.2.2.2.2.2.2.2.2.2.2.2.2.2.2.2.2.2.2.2.2.2.2.2.2.2.2.2.2.2.1);clear hev hD;obtain⟨v',w1,hrun,hG'⟩:=hG.appC (done_of hdone 14 rfl) (done_of hdone 28 rfl) hl hl2.out;exact outcome_append (.tmp 71) (.tmp 83) 45 rfl e71 e83 hrun (hK _ _ trivial hG')
         apply gd_ (n:=30);rfl
         ·intro fl xs w ev hG hD hl hdone hev ef K hK;have e9:=(hev (.tmp 9)).trans ((kx1.out xs).2.2.2.1);clear hev hD;go_simp;exact hK _ _ rfl hG
         refine ga_ (n:=31) (fun _=>True) ?_ ?_
         ·intro fl xs w ev hG hD hl hdone hev ef K hK;have e85:=(hev (.tmp 85)).trans ((kx1.out xs).2.2.2.2.2.2.2.2.2.2.2.2.2.2.2.2.2.2.2.2.2.2.2.2.2.2.2.2.2.2.2.2.2.2.2.1);have d30:=hD.at_ 30 rfl rfl;replace e85:=e85.trans d30;have e69:=(hev (.tmp 69)).trans ((kx1.out xs).2.2.2.2.2.2.2.2.2.2.2.2.2.2.2.2.2.2.2.1);clear hev hD;exact outcome_store_f (.tmp 85) (.tmp 69) 45 rfl 2 e85 e69 hG.bx (by simp) (hG.ob (done_of hdone 14 rfl)) (by kernel_rfl) (fun hB hbut=>hK _ _ trivial (hG.putE hl (done_of hdone 14 rfl) (done_of hdone 1 rfl) hB hbut))
         apply gd_ (n:=32);rfl
         ·intro fl xs w ev hG hD hl hdone hev ef K hK;have e9:=(hev (.tmp 9)).trans ((kx1.out xs).2.2.2.1);clear hev hD;go_simp;exact hK _ _ rfl hG
         refine ga_ (n:=33) (fun _=>True) ?_ ?_
         ·intro fl xs w ev hG hD hl hdone hev ef K hK;have e86:=(hev (.tmp 86)).trans ((kx1.out xs).2.2.2.2.2.2.2.2.2.2.2.2.2.2.2.2.2.2.2.2.2.2.2.2.2.2.2.2.2.2.2.2.2.2.2.2);have d32:=hD.at_ 32 rfl rfl;replace e86:=e86.trans d32;have e84:=(hev (.tmp 84)).trans ((kx1.out xs).2.2.2.2.2.2.2.2.2.2.2.2.2.2.2.2.2.2.2.2.2.2.2.2.2.2.2.2.2.2.2.2.2.2.1);clear hev hD;exact outcome_store_f (.tmp 86) (.tmp 84) 45 rfl 3 e86 e84 hG.bx (by simp) (hG.od (done_of hdone 29 rfl)) (by kernel_rfl) (fun hB hbut=>hK _ _ trivial (hG.putG (done_of hdone 29 rfl) (done_of hdone 16 rfl) hB hbut))
         clear kx1;intro xs w9 hG hI;clear hI;have B9:Hid (Bx w9 bm 47 [.int .i64 t,.int .i64 i,xs 14,xs 29]):=hG.bx;have O1':Hid (OwI bm w9 (xs 14) ((arr.take (k+1)).map (· +dd))):=by show OwI _ _ _ _;rw [hla.out];exact hG.r1
         have O2':Hid (OwI bm w9 (xs 29) ((dep.take (k+1)).map (· +dd))):=by show OwI _ _ _ _;rw [hld.out];exact hG.r2
         have hs':Hid (sepV (xs 14) (xs 29)):=hG.s12;have hbm':Hid (Below bm wo w9):=hbm.out.trans hG.bel;clear hG Bm O1 O2 hsv hla hld hl1 hl2;simp only [List.append_eq,List.cons_append,List.nil_append,setAll,List.setIfInBounds_toArray,List.set_cons_zero,List.set_cons_succ,Nat.zero_add,Nat.reduceAdd];go_wp2_with fail;go_roundw
         case rel=>exact⟨k+1,xs 14,xs 29,by omega,by go_num,B9,O1',O2',hs',hbm'⟩
         case measure=>simp [intOf];omega
        ·obtain rfl:k=m1:=by omega
         rw [List.take_of_length_le (by rw [haH.out.len];exact Nat.le_refl _)] at O1;rw [List.take_of_length_le (by rw [hdH.out.len];exact Nat.le_refl _)] at O2;obtain⟨P1,q1,ep1,hp1,hq1,hq1'⟩:=Rd.of_own num_len rfl O1.out;obtain⟨P2,q2,ep2,hp2,hq2,hq2'⟩:=Rd.of_own num_len rfl O2.out;subst ep1 ep2;have hbrw:=h_ hbw lbr.out;have HC1:=H_ (HB1.out.below lbr.out);have hoR:=H_ (ho.out.below lbr.out);have O1:=H_ (own_base O1.out (show w7.heap.size≤bm+1 by have:=hbr.out.size;have:=lbm.out;omega));have O2:=H_ (own_base O2.out (show w7.heap.size≤bm+1 by have:=hbr.out.size;have:=lbm.out;omega));have el1:(arr.map (· +dd)).length =k:=by rw [List.length_map];exact haH.out.len
         have el2:(dep.map (· +dd)).length =k:=by rw [List.length_map];exact hdH.out.len
         rw [el1] at hp1 hq1 O1 Bm;rw [el2] at hp2 hq2 O2 Bm;have hp1:=H_ hp1;have hp2:=H_ hp2;rename_i hs1 hs2 hs3 hs4;clear hs1 hs2 hs3 hs4 hsv hq1 hq1' hq2 hq2' hlk hk;have el1:=H_ el1;have el2:=H_ el2;have ht1:=c_ lbr.out l2 (HB2.out.cell 2 rfl);obtain⟨y0,y1,y2,y3,y4,y5,y6,y7,y8,y9,y10,y11⟩:=c_12 HC1.out;obtain⟨z0,z1,z2,z3⟩:=c_4 Bm.out;go_wp2_with fail;refine(hft.out wr (hrH.out.below hbrw.out) hfew.out t i P1 P2 k k q1 q2 (arr.map (· +dd)) (dep.map (· +dd)) hp1.out hp2.out).mono ?_;rintro e ws ⟨rfl,hbs⟩;have Rn:Hid (RunO w7.heap.size ws (t,(i:Int),(P1,k,q1),(P2,k,q2)) (mvR ⟨t,no,arr,dep⟩ dd i)):=⟨rfl,rfl,by show World.ownsRow _ _ _ _ _ (arr.map (· +dd)).length _;rw [el1.out];exact own_below O1.out hbs,by show World.ownsRow _ _ _ _ _ (dep.map (· +dd)).length _;rw [el2.out];exact own_below O2.out hbs⟩
         have hoS:=H_ (hoR.out.below hbs);have hbS:=h_ hbr (b_ lbr hbs);have BmS:=H_ (Bm.out.below hbs);clear hbs y0 y1 y2 y3 y4 y5 y6 y7 y8 y9 y10 y11 z0 z1 z2 z3 ht1 Bm HC1 hoR O1 O2 hp1 hp2 el1 el2;rw [hgood.out,Bool.true_and];have e0:fitsR M ⟨t,i,arr.map (· +dd),dep.map (· +dd)⟩=fitsR M (mvR ⟨t,no,arr,dep⟩ dd i):=rfl;rw [e0];clear e0
         cases hfs:fitsR M (mvR ⟨t,no,arr,dep⟩ dd i) with
         |false=>
          rw [hfs] at hstep;simp only [Bool.false_eq_true,if_false,List.append_nil] at hstep ⊢;have hoT:Hid (RunsO w7.heap.size ws (.slice A0 (onesL M ⟨t,no,arr,dep⟩ by_ (i+1)).length c0) (onesL M ⟨t,no,arr,dep⟩ by_ (i+1))):=by show RunsO _ _ _ _;rw [hstep.out];exact hoS.out
          have hvv:onesL M ⟨t,no,arr,dep⟩ by_ i=onesL M ⟨t,no,arr,dep⟩ by_ (i+1):=hstep.out.symm;rw [hvv];clear hfs hstep hvv hoS;go_wp2_with fail;go_roundw
          case rel=>exact⟨i+1,A0,c0,by omega,rfl,by go_num,hoT,hbS⟩
          case measure=>simp [intOf];omega
         |true=>
          rw [hfs] at hstep;simp only [if_true] at hstep ⊢;obtain⟨v7,w8,hrun,ho8,hb8⟩:=hoS.out.add Rn.out (by have:=ones_len (M:=M) (r:=⟨t,no,arr,dep⟩) (by_:=by_) i;omega) hbS.out.size;have hrun:(Builtin.append_ #[32,32] 32 #[.slice A0 (onesL M ⟨t,no,arr,dep⟩ by_ i).length c0,.slice (some ⟨ws.heap.size,0,none⟩) 1 1]).run Tryz.prog (ws.alloc (.cells #[.int .i64 t,.int .i64 (i:Int),(.slice P1 k q1),(.slice P2 k q2)] 47))= .ok v7 w8:=hrun;rw [←hstep.out] at ho8;obtain⟨A7,c7,e7,_⟩:=ho8.rd;subst e7;have ho8:=H_ ho8;have hb8:=H_ (hbS.out.trans hb8);rename_i gx1 gx2;clear hfs hstep hoS Rn hbS gx1 gx2;obtain⟨z0,z1,z2,z3⟩:=c_4 BmS.out;go_wp2_with (at_builtin;refine wpList_append_run ?b1 (.tmp 91) (.tmp 93) 32 ?b2 ?b3 ?b4 hrun ?_)
          case b1=>rfl
          case b2=>rfl
          try(case b3=>rfl)
          try(case b4=>rfl)
          go_wp2_with fail;go_roundw
          case rel=>exact⟨i+1,A7,c7,by omega,rfl,by go_num,ho8,hb8⟩
          case measure=>simp [intOf];omega
      ·obtain rfl:i=n:=by omega
       have hMv:Mvd M ⟨t,no,arr,dep⟩ (onesL M ⟨t,no,arr,dep⟩ by_ i):=fun s hs=>ones_mem _ hs;have hL30:(onesL M ⟨t,no,arr,dep⟩ by_ i).length ≤30:=by have:=ones_len (M:=M) (r:=⟨t,no,arr,dep⟩) (by_:=by_) i;omega
       obtain⟨L,hL⟩: ∃ q,onesL M ⟨t,no,arr,dep⟩ by_ i=q:=⟨_,rfl⟩
       rw [hL] at ho hMv hL30 ⊢;obtain⟨A',c',e',rL,_,_⟩:=ho.out.rd;cases e';have he:=mvd_err hgood.out hMv (by omega);have hFL:=H_ (fitL_of (by omega) he);have hdp:0<dep.length:=by have h1:=hF.out.ld;have h2:=hF.out.pos;exact h1 ▸ h2
       obtain⟨kt,q,r0,ekt,hq⟩: ∃ (kt:Nat) (q:TripP) (r0:Int),t=(kt:Int)∧M.trips[kt]?=some q∧q.route=r0:=by
        have h2:0<(tripStops M t).length :=hF.out.pos;unfold tripStops at h2;by_cases h3:t<0
        ·rw [if_pos h3] at h2;simp at h2
        ·obtain⟨kt,e⟩:=Int.eq_ofNat_of_zero_le (show 0≤t by omega);subst e;rw [if_neg h3,Int.toNat_natCast] at h2
         cases h4:M.trips[kt]? with
         |none=>rw [h4] at h2;simp at h2
         |some q=>exact⟨kt,q,_,rfl,h4,rfl⟩
       have hone:=mvd_make hFL.out hMv hdp (rt:=r0) (fun q' h=>by
        have h:M.trips[t.toNat]?=some q':=h;rw [ekt,Int.toNat_natCast,hq.1] at h;cases h;exact hq.2)
       have hres:resP M L=makeP M L:=by unfold resP;rw [if_pos he]
       have G1r:=H_ (G1.out.below hbr.out);have G2r:=H_ (G2.out.below hbr.out);have rLH:=H_ rL;obtain⟨y0,y1,y2,y3,y4,y5,y6,y7,y8,y9,y10,y11⟩:=c_12 G1r.out;go_wp2_with fail;refine(hmg.out A0 L.length c0 L wo (hrH.out.below hbw.out) hfew.out (hsH.out.below hbw.out) rL (by omega) (by omega)).mono ?_;rintro e w9 ⟨A5,c5,rfl,r5,_,_,hb9⟩;rw [hres] at r5;rw [hres,he];have hb9w:=h_ hbw hb9;have rL9:=H_ (rL.below hb9);have H1:=H_ (G1r.out.below hb9);have H2:=H_ (G2r.out.below hb9);clear hb9 rLH rL y0 y1 y2 y3 y4 y5 y6 y7 y8 y9 y10 y11 G1r G2r hres he hL ho hMv;obtain⟨P,hP⟩: ∃ q,makeP M L=q:=⟨_,rfl⟩
       rw [hP] at r5 hone ⊢;clear hP;subst ekt;by_cases hL0:L=[]
       ·obtain rfl:=hone.none hL0;subst hL0;go_wp2_with fail;go_returns;exact⟨rfl,hb9w.out⟩
       ·obtain⟨S,rfl,hperm,hpw⟩:=hone.some hL0;have hnp:=List.length_pos_iff.2 hL0
        have hlm:Hid (∀ s∈L,s.arr.length≤1099511627776∧s.dep.length≤1099511627776):=fun s hs=>by
         have h1:=hFL.out.fit s hs;have h2:=tripStops_le hfew.out s.trip;have h3:=h1.la;have h4:=h1.ld;omega
        obtain⟨nL,hnL⟩: ∃ q,L.length=q:=⟨_,rfl⟩
        rw [hnL] at hperm rL9 hL30 hnp ⊢;obtain⟨bp,op,p,Xp,mp,dp,rfl,hbp,hp,g0,g1,s1,_⟩:=r5.get (k:=0) (by simp);cases hp;simp only [Nat.zero_mul,Nat.add_zero] at g0 g1;have hSl:S.length=nL:=by rw [hperm.length_eq];unfold natI;simp
        obtain rfl:mp=nL:=by rw [←s1.len];exact hSl
        have hpermH:=H_ hperm;have hpwH:=H_ hpw;have s1H:=H_ s1;have g0H:=H_ g0;have hmk:=make_bools mp (by omega) w9;obtain⟨sb,hsb⟩: ∃ q,w9.heap.size=q:=⟨_,rfl⟩
        have B10:=Bx.new w9 4 (List.replicate mp (.bool false));have hb10:=below_alloc w9 (List.replicate mp (.bool false)).toArray 4;obtain⟨w10,hw10⟩: ∃ q,w9.alloc (.cells (List.replicate mp (.bool false)).toArray 4)=q:=⟨_,rfl⟩
        rw [hw10] at hmk hb10;change Bx (w9.alloc (.cells (List.replicate mp (.bool false)).toArray 4)) _ _ _ at B10;rw [hw10,hsb,←seenL_zero S mp] at B10;rw [hsb] at hmk;have hb10:=H_ hb10;have B10:=H_ B10;have hmin:min 1 (mp:Int)=1:=by omega
        have hz0:((mp:Int)==0)=false:=by simp;omega
        have hsbH:=H_ hsb;rw [show([⟨r0,S⟩]:List PatP).length =1 from rfl];rename_i gx1 gx2;clear gx1 gx2 hw10 hsb hone r5 hperm hpw s1 hSl hnp;go_wp2_with fail;clear hmk hmin;go_loopw [14] (fun vi wr=> ∃ j:Nat,j≤mp∧vi= .int .i64 j∧Hid (Bx wr sb 4 (seenL S mp j))∧Hid (But w10 wr [sb])) (fun vi _=>mp-(intOf vi).toNat)
        case atStart=>exact⟨0,Nat.zero_le _,rfl,B10,But.refl _ _⟩
        case round=>
         obtain⟨j,hj,rfl,hB,hbut⟩:=hrel;have hb9r:Hid (Below w9.heap.size w9 wr):=hb10.out.trans (hbut.out.below hb10.out.size (fun x hx=>by simp only [List.mem_singleton] at hx;rw [hx];exact Nat.le_of_eq hsbH.out));have z1:=c_ hb9r.out hbp g1;by_cases hjm:j<mp
         ·have hjI:(j:Int)<(mp:Int):=by omega
          obtain⟨b6,o6,x,rfl,hb6,hx,v6⟩:=s1H.out.num hjm;have v6r:=c_ hb9r.out hb6 v6;have hxm:=natI_mem.1 (hpermH.out.mem_iff.1 (List.mem_of_getElem? hx));have hns:=perm_not_seen hpermH.out hx;obtain⟨xk,rfl⟩:=Int.eq_ofNat_of_zero_le hxm.1;have hxk:xk<mp:=by omega
          have hxI:(xk:Int)<(mp:Int):=by omega
          have hx0':decide ((xk:Int)<0)=false:=F_ (by omega);have hxn':decide (mp≤xk)=false:=F_ (by omega);have q0:=hB.out.cell xk (seenL_at S j hxk);rw [F_ hns] at q0;have lsr:=hB.out.lt;have hxH:=H_ hx;clear hx hxm hns;rcases Nat.eq_zero_or_pos j with hj0|hj0
          ·subst hj0;simp only [Nat.add_zero] at v6r;have hkz:decide ((0:Int)<((0:Nat):Int))=false:=by decide
           go_wp2_with fail;go_upto_region 26 with fail;refine wb_ wr.heap.size ?_;intro C hC
           repeat(go_big_quiet_step (first
            |((intro _;with_reducible rfl))
            |(intro hc;have hcw:=b_ hb9r hc;have m0:=c_ hc lsr q0;simp only [m0,Result.andThen];exact⟨trivial,rfl⟩)
           ))
           refine wpQuiet_nil ?_;intro wy hby;clear hC;have hBy:=hB.out.below hby;have hbuty:=H_ (hbut.out.trans (But.of_below hby [sb]));have qy:=c_ hby lsr q0;have qf:=hBy.frozen xk;have BF:=hBy.set xk (.bool true);rw [seenL_step hxH.out hxk] at BF;have hbutF:=hbuty.out.trans (But.of_set wy ⟨sb,xk,none⟩ (.bool true) (by simp));obtain⟨wF,hwF⟩: ∃ q,wy.setCell ⟨sb,xk,none⟩ (.bool true)=q:=⟨_,rfl⟩
           rw [hwF] at BF hbutF;have BF:=H_ BF;have hbutF:=H_ hbutF;clear hby hBy hbuty;go_wp2_with fail;go_roundw
           case rel=>exact⟨0+1,by omega,by go_num,BF,hbutF⟩
           case measure=>simp [intOf];omega
          ·obtain⟨j',rfl⟩: ∃ j',j=j'+1:=⟨j-1,by omega⟩
           obtain⟨b7,o7,x',hA7,hb7,hx',v7⟩:=s1H.out.num (show j'<mp by omega);obtain⟨rfl,rfl⟩:b6=b7∧o6=o7:=by simpa using hA7
           have hxm':=natI_mem.1 (hpermH.out.mem_iff.1 (List.mem_of_getElem? hx'));obtain⟨xp,rfl⟩:=Int.eq_ofNat_of_zero_le hxm'.1;have hxpn:xp<mp:=by omega
           have hxpI:(xp:Int)<(mp:Int):=by omega
           obtain⟨bL,oL,s,A3,n3',e3,A4,n4',e4,rfl,hbL,hs1,t0,t1,t2,t3,ra1,ra2,hc1,hc2⟩:=rL9.out.get hxk;obtain⟨bL',oL',s',A5,n5',e5,A6,n6',e6,hAL,hbL',hs2,u0,u1,u2,u3,rb1,rb2,hc3,hc4⟩:=rL9.out.get hxpn;obtain⟨rfl,rfl⟩:bL=bL'∧oL=oL':=by simpa using hAL
           have hah:=H_ (fun w (h:Below w9.heap.size w9 w)=>pAhead_any (s'.trip,s'.no,(A5,n5',e5),(A6,n6',e6)) (s.trip,s.no,(A3,n3',e3),(A4,n4',e4)) s' s w ⟨rfl,rfl,rb1.below h,hc3,rb2.below h,hc4⟩ ⟨rfl,rfl,ra1.below h,hc1,ra2.below h,hc2⟩ (hlm.out s' (List.mem_of_getElem? hs2)).1 (hlm.out s' (List.mem_of_getElem? hs2)).2)
           have hab:aheadB s' s=true:=by
            have h1:=(List.getElem?_eq_some_iff.1 hx')
            have h2:=(List.getElem?_eq_some_iff.1 hxH.out)
            have h3:=List.pairwise_iff_getElem.1 hpwH.out j' (j'+1) h1.1 h2.1 (by omega);rw [h1.2,h2.2] at h3;have e1:runAt L (xp:Int)=s':=by unfold runAt;rw [Int.toNat_natCast,hs2];rfl
            have e2:runAt L (xk:Int)=s:=by unfold runAt;rw [Int.toNat_natCast,hs1];rfl
            rw [e1,e2] at h3;exact h3
           simp only [rnE,SlV.v,hab] at hah;have hkp:decide ((0:Int)<((j'+1:Nat):Int))=true:=T_ (by omega);have hkpA:decide ((0:Int)<(j':Int)+1)=true:=T_ (by omega);have hkpB:decide (0<j'+1)=true:=T_ (by omega);have hkp2:IntKind.i64.wrap (((j'+1:Nat):Int)-1)=(j':Int):=by rw [show((j'+1:Nat):Int)-1=(j':Int) by omega];exact IntWalk.i64_in _ (by omega)
           have hjI':(j':Int)<(mp:Int):=by omega
           clear hx' hA7 hxm' hs1 hs2 hAL hab ra1 ra2 rb1 rb2 hc1 hc2 hc3 hc4 hb7 hbL';go_wp2_with fail;go_upto_region 26 with fail;refine wb_ wr.heap.size ?_;intro C hC
           repeat(go_big_quiet_step (first
            |((intro _;with_reducible rfl))
            |(intro hc;have hcw:=b_ hb9r hc;have m0:=c_ hc lsr q0;have m1:=c_ hcw hbp g1;have m2:=c_ hcw hb6 v7;have m3:=c_ hcw hbL t0;have m4:=c_ hcw hbL t1;have m5:=c_ hcw hbL t2;have m6:=c_ hcw hbL t3;have m7:=c_ hcw hbL u0;have m8:=c_ hcw hbL u1;have m9:=c_ hcw hbL u2;have m10:=c_ hcw hbL u3;simp only [m0,m1,m2,m3,m4,m5,m6,m7,m8,m9,m10,Result.andThen];exact⟨trivial,rfl⟩)
            |(intro hc;have hcw:=b_ hb9r hc;(with_reducible refine(hah.out _ hcw).mono ?_);rintro e w'' ⟨rfl,hw⟩;exact⟨rfl,u_ hc hw⟩)))
           refine wpQuiet_nil ?_;intro wy hby;clear hC;have hBy:=hB.out.below hby;have hbuty:=H_ (hbut.out.trans (But.of_below hby [sb]));have qy:=c_ hby lsr q0;have qf:=hBy.frozen xk;have BF:=hBy.set xk (.bool true);rw [seenL_step hxH.out hxk] at BF;have hbutF:=hbuty.out.trans (But.of_set wy ⟨sb,xk,none⟩ (.bool true) (by simp));obtain⟨wF,hwF⟩: ∃ q,wy.setCell ⟨sb,xk,none⟩ (.bool true)=q:=⟨_,rfl⟩
           rw [hwF] at BF hbutF;have BF:=H_ BF;have hbutF:=H_ hbutF;clear hby hBy hbuty;go_wp2_with fail;go_roundw
           case rel=>exact⟨j'+1+1,by omega,by go_num,BF,hbutF⟩
           case measure=>simp [intOf];omega
         ·obtain rfl:j=mp:=by omega
          have hkT:kt<nT:=by have h1:M.trips.length=nT:=hrH.out.rT.len;have:=(List.getElem?_eq_some_iff.1 hq.1).1;omega
          obtain⟨bT,oT,q',rfl,hbT,hq',hcT⟩:=hrH.out.rT.get hkT;obtain rfl:q=q':=Option.some.inj (hq.1.symm.trans hq');have z0:=hcT 0 _ rfl;have hkTI:(kt:Int)<(nT:Int):=by omega
          rw [hq.2,Nat.add_zero] at z0;have hbr9:=h_ hb9w hb9r.out;have z0r:=c_ hbr9.out hbT z0;have lTr:=Nat.lt_of_lt_of_le hbT hbr9.out.size;have y10:=H1.out.cell 10 rfl;have l1r:=H1.out.lt;have l2r:=H2.out.lt;have x0:=H2.out.cell 0 rfl;have g0:=g0H.out;clear hcT hq hq';go_wp2_with fail;go_upto_region 29 with fail;refine wb_ wr.heap.size ?_;intro C hC
          repeat(go_big_quiet_step (first
           |((intro _;with_reducible rfl))
           |(intro hc;have hcw:=b_ hb9r hc;have m0:=c_ hcw hbp g1;have m1:=c_ hcw hbp g0;have m2:=c_ hcw l1r y10;have m3:=c_ hcw l2r x0;have m4:=c_ hc lTr z0r;simp only [m0,m1,m2,m3,m4,Result.andThen];exact⟨trivial,rfl⟩)
          ))
          refine wpQuiet_nil ?_;intro wy hby;clear hC;have hby:=h_ hbr9 hby;rename_i gx;clear gx;go_wp2_with fail;go_returns;exact⟨rfl,hby.out⟩
