/- Merged. -/
import Derived.Test.YtechdefolfboeaaGreatDoorPo18
set_option linter.unusedVariables false
set_option linter.unusedSimpArgs false
set_option maxRecDepth 100000
set_option maxHeartbeats 2000000
namespace Go.Proofs.YtechdefolfboeaaGreatDoor
open Go.RowKit B K
def kindsL (z bw:Nat):List Value:=[.pointer (some ⟨z,0,none⟩),.pointer (some ⟨bw,1,none⟩),.pointer (some ⟨bw,2,none⟩),.pointer (some ⟨bw,3,none⟩),.pointer (some ⟨bw,4,none⟩),.pointer (some ⟨bw,5,none⟩),.pointer (some ⟨bw,6,none⟩)]
theorem pkinds_any (bw:Nat) (we:World):Calls Tryz.prog 196 #[.pointer (some ⟨bw,1,none⟩)] we fun e w'=> ∃ z,e= .returned (.agg (kindsL z bw).toArray)∧Bx w' z 22 [.slice none 0 0]∧we.heap.size≤z∧Below we.heap.size we w':=by
 obtain⟨w1,b1,hw1,hbE1,hb1,hup,B1,hge1⟩:=enter1 we 246 [.pointer none,.pointer none,.pointer none,.pointer none,.pointer none,.pointer none,.pointer none];have B1H:=H_ B1;clear B1 hb1;go_enter Tryz.func196,Tryz.ntmps196;go_wp2_with fail;go_upto_region 1 with fail;refine wp_region_late [2,0,0,0,0,0,0,0,0,0,0,0,0,0,0,0,0,0,0,2,2] (by kernel_rfl) (by kernel_rfl) ?_;intro C hC;simp only [pickK,Nat.reduceEqDiff, ↓reduceIte]
 repeat(go_big_quiet_step (first
  |(intro _;with_reducible rfl)))
 refine wpQuiet_nil ?_;clear hC;intro C' hC';refine wpQuiet_nil ?_;clear hC';intro wq hbq;obtain⟨wz,z,hwz,hzE,hbz,Bz⟩:=box1 wq 22 [.slice none 0 0];have hB1:=(B1H.out.below hbq).below hbz;obtain⟨hBF,hbF⟩:=hB1.row (kindsL z bw);obtain⟨wF,hwF⟩: ∃ q,wz.setRow b1 (kindsL z bw).toArray =q:=⟨_,rfl⟩
 rw [hwF] at hBF hbF;have hne:z≠b1:=by have:=(B1H.out.below hbq).lt;omega
 have h0:=b_ hup hbq;have hz:Hid (we.heap.size≤z):=by have:=h0.size;show _≤_;omega
 have h2:=u_ h0 hbz;have hfin:Hid (Below we.heap.size we wF):=h2.trans (hbF.below h2.size (m_ hge1.out));have hBz:=H_ (Bz.keep (hbF.keep z Bz.lt (by simpa using hne)));have hBFH:=H_ hBF;have hB1H:=H_ hB1;clear hbq hw1 hbE1 hbF hBF hB1 Bz hbz h0 h2 hne;unfold kindsL at hwF hBFH;go_wp2_with (refine wpList_store_bx (.tmp 2) (.tmp 22) 246 (by with_reducible rfl) rfl rfl rfl hB1H.out (by kernel_rfl) rfl rfl hwF ?_);refine bodyPost_bx (s:=2) (t:=246) rfl rfl hBFH.out (by kernel_rfl) (by kernel_rfl) rfl ?_;exact⟨z,rfl,hBz.out,hz.out,hfin.out⟩
theorem uniqB_snoc: ∀ (l:List Str) (x:Str),uniqB (l++[x])=(uniqB l&& !(l.any fun y=>sq y x))
 |[],x=>rfl
 |y::l,x=>by
  simp only [List.cons_append,uniqB,uniqB_snoc l x,List.any_append,List.any_cons,List.any_nil,Bool.or_false];cases uniqB l<;>cases(l.any fun z=>sq y z)<;>cases sq y x<;>simp
theorem uniqB_pre: ∀ (l r:List Str),uniqB l=false→uniqB (l++r)=false
 |[],r,h=>by cases h
 |y::l,r,h=>by
  simp only [List.cons_append,uniqB,List.any_append] at h ⊢
  cases h1:uniqB l with
  |false=>rw [uniqB_pre l r h1];simp
  |true=>
   rw [h1] at h
   cases h2:(l.any fun z=>sq y z) with
   |true=>simp
   |false=>rw [h2] at h;simp at h
def RetW (we:World) (b:Bool) (e:Ending) (w':World):Prop:= ∃ c k a:Int,e= .returned (.agg #[.int .i64 c,.int .i64 k,.int .i64 a])∧(c=0↔b=true)∧Below we.heap.size we w'
theorem dropAt {α:Type} {l:List α} {i:Nat} {x:α} (h:l[i]?=some x):l.drop i=x::l.drop (i+1):=by
 obtain⟨hi,hx⟩:=List.getElem?_eq_some_iff.1 h;rw [List.drop_eq_getElem_cons hi,hx]
theorem name_size {s:Str} (h:nameB s=true):s.size≤24:=by
 unfold nameB wordB at h;simp only [Bool.and_eq_true,decide_eq_true_eq] at h;exact h.1.2.1
theorem sp_below {w w':World} {n:Nat} (h:Sp w) (hn:0<n) (k:Below n w w'):Sp w':=fun c hc=>(k.cell (p:=⟨0,c,none⟩) hn).trans (h c hc)
structure WSt (w0 wr:World) (mb bt z ba:Nat) (l:List Str) (v:Value) (bw:Nat):Prop where
 tst:TSt wr mb bt l v
 bel:Below mb w0 wr
 bz:Bx wr z 22 [.slice none 0 0]
 ba:Bx wr ba 246 (kindsL z bw)
def namesLs (N:WorldP):List (List Str):=[[],N.stops,N.nPaths,N.nDoors,N.nRoutes,N.nTrips,N.nHazs]
theorem namesLs_flat (N:WorldP):(namesLs N).flatten =allN N:=by simp [namesLs,allN]
theorem kidx (z bw:Nat) (w:World): ∀ k:Nat,k<7→ ∀ u,(kindsL z bw)[k]?=some u→(Instr.index 246 (.agg (kindsL z bw).toArray) (.int .i64 (k:Int))).run Tryz.prog w= .ok u w:=by
 intro k hk u hu;unfold kindsL at*
 match k,hk with
 |0,_=>cases hu;rfl
 |1,_=>cases hu;rfl
 |2,_=>cases hu;rfl
 |3,_=>cases hu;rfl
 |4,_=>cases hu;rfl
 |5,_=>cases hu;rfl
 |6,_=>cases hu;rfl
 |k+7,hk=>omega
theorem WSt.go {w0 w w':World} {mb bt z ba bw:Nat} {l:List Str} {v:Value} (h:WSt w0 w mb bt z ba l v bw) (k:Below w.heap.size w w'):WSt w0 w' mb bt z ba l v bw:=
 ⟨h.tst.below k,h.bel.trans (k.mono (Nat.le_of_lt h.tst.mp.lt)),h.bz.below k,h.ba.below k⟩
def fnsL (bc:Nat):List Value:=[.func (.func 198) #[.pointer (some ⟨bc,0,none⟩)] #[],.func (.func 198) #[.pointer (some ⟨bc,0,none⟩)] #[],.func (.func 199) #[.pointer (some ⟨bc,0,none⟩)] #[],.func (.func 200) #[.pointer (some ⟨bc,0,none⟩)] #[],
 .func (.func 201) #[.pointer (some ⟨bc,0,none⟩)] #[],.func (.func 202) #[.pointer (some ⟨bc,0,none⟩)] #[],.func (.func 203) #[.pointer (some ⟨bc,0,none⟩)] #[]]
theorem fidx (bc:Nat) (w:World): ∀ k:Nat,k<7→ ∀ u,(fnsL bc)[k]?=some u→(Instr.index 251 (.agg (fnsL bc).toArray) (.int .i64 (k:Int))).run Tryz.prog w= .ok u w:=by
 intro k hk u hu;unfold fnsL at*
 match k,hk with
 |0,_=>cases hu;rfl
 |1,_=>cases hu;rfl
 |2,_=>cases hu;rfl
 |3,_=>cases hu;rfl
 |4,_=>cases hu;rfl
 |5,_=>cases hu;rfl
 |6,_=>cases hu;rfl
 |k+7,hk=>omega
def allQ {α:Type} (f:α→Bool) (L:List α) (i:Nat):Bool:=match L[i]? with
 |some x=>f x
 |none=>true
theorem allQ_range {α:Type} {f:α→Bool} {L:List α} {n:Nat} (hn:L.length=n):(List.range n).all (allQ f L)=L.all f:=by
 rw [Bool.eq_iff_iff,List.all_eq_true,List.all_eq_true];constructor
 ·intro h x hx;obtain⟨i,hi⟩:=List.getElem?_of_mem hx;have:=h i (List.mem_range.2 (by have:=(List.getElem?_eq_some_iff.1 hi).1;omega));unfold allQ at this;rw [hi] at this;exact this
 ·intro h i hi;unfold allQ
  cases hk:L[i]? with
  |none=>rfl
  |some x=>exact h x (List.mem_of_getElem? hk)
theorem range_snoc {q:Nat→Bool} {i:Nat} (h:(List.range i).all q=true) (hq:q i=true):(List.range (i+1)).all q=true:=by
 rw [List.range_succ,List.all_append,h];simp [hq]
theorem range_no {q:Nat→Bool} {i n:Nat} (hi:i<n) (hq:q i=false):(List.range n).all q=false:=by
 cases h:(List.range n).all q with
 |false=>rfl
 |true=>have:=List.all_eq_true.1 h i (List.mem_range.2 hi);rw [hq] at this;cases this
def checksL (N:WorldP):List Bool:=[true,true,N.paths.all fun p=>wayB p.1 p.2.1 p.2.2,N.doors.all fun d=>wayB d.a d.b d.len&&timesB d.fr d.ev d.du N.hz,N.routes.all routeB,N.trips.all fun t=>decide (0≤t.route)&&decide (t.fr≤t.un),N.hazs.all fun h=>decide (0≤h.on)&&timesB h.fr h.ev h.du N.hz]
theorem checksL_all (N:WorldP):(checksL N).all id=firstB N:=by simp [checksL,firstB]
theorem checks_no {N:WorldP} {k:Nat} (h:(checksL N)[k]?=some false):firstB N=false:=by
 rw [←checksL_all]
 cases h2:(checksL N).all id with
 |false=>rfl
 |true=>have:=List.all_eq_true.1 h2 false (List.mem_of_getElem? h);cases this
theorem pwrong_any (N:WorldP) (V:WV) (bw:Nat) (we:World) (hx:Bx we bw 31 [.int .i64 N.hz,.slice V.a0 V.n0 V.c0,.slice V.a1 V.n1 V.c1,.slice V.a2 V.n2 V.c2,.slice V.a3 V.n3 V.c3,.slice V.a4 V.n4 V.c4,.slice V.a5 V.n5 V.c5,.slice V.aP V.nP V.cP,.slice V.aD V.nD V.cD,.slice V.aR V.nR V.cR,.slice V.aT V.nT V.cT,.slice V.aH V.nH V.cH]) (hr:RW we N V) (hsp:Sp we) (hnm: ∀ s∈allN N,nameB s=true) (hcn:(allN N).length ≤4000)
 (hl1:N.paths.length=N.nPaths.length) (hl2:N.doors.length=N.nDoors.length) (hl3:N.routes.length=N.nRoutes.length) (hl4:N.trips.length=N.nTrips.length) (hl5:N.hazs.length=N.nHazs.length)
 (hrt: ∀ r∈N.routes,r.rides.length+1=r.stops.length∧(∀ s∈r.stops, -1≤s)∧r.stops.length≤100000):Calls Tryz.prog 132 #[.pointer (some ⟨bw,0,none⟩)] we (RetW we (uniqB (allN N)&&firstB N)):=by
 obtain⟨a0,a1,a2,a3,a4,a5,aP,aD,aR,aT,aH,n0,n1,n2,n3,n4,n5,nP,nD,nR,nT,nH,c0,c1,c2,c3,c4,c5,cP,cD,cR,cT,cH⟩:=V;have hrH:=H_ hr;have hspH:=H_ hsp;have hxH:=H_ hx;have hnmH:=H_ hnm;have hcnH:Hid ((namesLs N).flatten.length ≤4000):=by show _≤_;rw [namesLs_flat];exact hcn
 have hrtH:=H_ hrt;have hLn:Hid (N.paths.length=N.nPaths.length∧N.doors.length=N.nDoors.length∧N.routes.length=N.nRoutes.length∧N.trips.length=N.nTrips.length∧N.hazs.length=N.nHazs.length):=⟨hl1,hl2,hl3,hl4,hl5⟩
 have hmm:n0≤4000∧n1≤4000∧n2≤4000∧n3≤4000∧n4≤4000∧n5≤4000:=by
  unfold allN at hcn;simp only [List.length_append] at hcn;have:=hr.r0.len;have:=hr.r1.len;have:=hr.r2.len;have:=hr.r3.len;have:=hr.r4.len;have:=hr.r5.len;simp only at*;omega
 have hwz:Hid (0<we.heap.size∧bw<we.heap.size):=⟨by have:=hx.lt;omega,hx.lt⟩
 clear hr hsp hx hnm hcn hrt hl1 hl2 hl3 hl4 hl5;obtain⟨w1,b1,hw1,hbE1,hb1,hup,B1,hge1⟩:=enter1 we 81 [.int .i64 0,.int .i64 0,.int .i64 0];obtain⟨w2,bc,hw2,hbcE,hbc,Bc⟩:=box1 w1 242 [.pointer none,.pointer (some ⟨bw,0,none⟩)];have hB1:=H_ (B1.below hbc);have hupc:=h_ hup hbc;have hBc:=H_ Bc;have hlc:Hid (b1<bc∧we.heap.size≤b1):=⟨by have:=B1.lt;omega,hge1.out⟩
 clear B1 hb1 Bc hbc hup;have htF:Hid (∀ (i:Nat) (w:World) (g:Value),Calls Tryz.prog 198 #[g,.int .i64 i] w (RetE w true)):=fun i w g=>kfine_any g i w;go_enter Tryz.func132,Tryz.ntmps132;go_wp2_with fail;refine(tnew_any w2).mono ?_;rintro e w3 ⟨mb,bt,rfl,hT3,hgm,hb3⟩;have hBc3:=hBc.out.below hb3;have f1:=hBc3.cell 0 rfl;have f2:=hBc3.frozen 0;have hBc4:=hBc3.set 0 (.pointer (some ⟨bt,0,none⟩));have t34:But w3 (w3.setCell ⟨bc,0,none⟩ (.pointer (some ⟨bt,0,none⟩))) [bc]:=But.of_set _ _ _ (by simp);obtain⟨w4,hw4⟩: ∃ q,w3.setCell ⟨bc,0,none⟩ (.pointer (some ⟨bt,0,none⟩))=q:=⟨_,rfl⟩
 rw [hw4] at hBc4 t34;have hm2:bc<mb:=by have:=hBc.out.lt;omega
 have hlm:Hid (bc<mb∧mb<bt∧we.heap.size≤mb):=⟨hm2,hT3.lt,by have:=hlc.out;show _≤_;omega⟩
 have hT4:=(⟨hT3.bx.keep (t34.keep bt hT3.bx.lt (by have:=hT3.lt;simp;omega)),own_but hT3.own t34 (fun x hx=>by have:=hT3.lt;simp only [List.mem_singleton] at hx;omega),hT3.mp.keep (t34.keep mb hT3.mp.lt (by simp;omega)),hT3.lt⟩:TSt w4 mb bt [] (.slice none 0 0))
 have e24:Below bc w2 w4:=(hb3.mono (Nat.le_of_lt hBc.out.lt)).trans (t34.below (by have:=hBc3.lt;omega) (fun x hx=>by simp only [List.mem_singleton] at hx;omega));have hB14:=H_ (hB1.out.keep (e24.block b1 hlc.out.1));have e04:=H_ (hupc.out.trans (e24.mono (by have:=hlc.out;omega)));have hT4:=H_ hT4;have hBc4H:=H_ hBc4;clear hBc4 hBc3 t34 e24 hT3 hgm hb3 hm2;go_wp2_with fail;refine(pkinds_any bw w4).mono ?_;rintro e w5 ⟨z,rfl,hBz,hgz,hb5⟩;clear hw1 hw2 hbE1 hbcE f1 f2 hw4;obtain⟨w6,ba,hw6,hbaE,hba,Ba⟩:=box1 w5 246 [.pointer none,.pointer none,.pointer none,.pointer none,.pointer none,.pointer none,.pointer none];have hB6:=Ba;obtain⟨hBK,hbK⟩:=hB6.row (kindsL z bw);obtain⟨w0,hw0⟩: ∃ q,w6.setRow ba (kindsL z bw).toArray =q:=⟨_,rfl⟩
 rw [hw0] at hBK hbK;have hza:z<ba:=by have:=hBz.lt;omega
 have hwsz:w4.heap.size≤w5.heap.size:=hb5.size;have h6:=u_ hb5 hba;have hk0:Below w4.heap.size w4 w0:=h6.trans (hbK.below h6.size (fun x hx=>by simp only [List.mem_singleton] at hx;subst hx;omega));have hS0:Hid (WSt w0 w0 mb bt z ba [] (.slice none 0 0) bw):=⟨hT4.out.below hk0,Below.refl _ _,(hBz.below hba).keep (hbK.keep z (hBz.below hba).lt (by simp;omega)),hBK⟩
 have e00:=h_ e04 hk0;have hB10:=H_ (hB14.out.below hk0);have hBc0:=H_ (hBc4H.out.below hk0)
 have hzn:Hid (z≠bt∧ba≠bt∧mb≤w0.heap.size):=by
  have h1:=hT4.out.bx.lt;have h2:=(hT4.out.below hk0).mp.lt;exact⟨by omega,by omega,by omega⟩
 have hSl:Hid (∀ k:Nat,k<7→ ∃ b o A n c l,(kindsL z bw)[k]?=some (.pointer (some ⟨b,o,none⟩))∧(namesLs N)[k]?=some l∧(∀ wr l' v,WSt w0 wr mb bt z ba l' v bw→wr.cell? ⟨b,o,none⟩=some (.slice A n c)∧Rd wr 1 strE A n l)∧n≤4000):=by
  have hup: ∀ wr l v,WSt w0 wr mb bt z ba l v bw→Below we.heap.size we wr:=fun wr l v h=>e00.out.trans (h.bel.mono hlm.out.2.2);intro k hk
  match k,hk with
  |0,_=>exact⟨z,0,none,0,0,[],rfl,rfl,fun wr l v h=>⟨h.bz.cell 0 rfl,⟨rfl,fun h=>absurd h (by omega)⟩⟩,by omega⟩
  |1,_=>exact⟨bw,1,a0,n0,c0,_,rfl,rfl,fun wr l v h=>⟨(hxH.out.below (hup wr l v h)).cell 1 rfl,hrH.out.r0.below (hup wr l v h)⟩,by omega⟩
  |2,_=>exact⟨bw,2,a1,n1,c1,_,rfl,rfl,fun wr l v h=>⟨(hxH.out.below (hup wr l v h)).cell 2 rfl,hrH.out.r1.below (hup wr l v h)⟩,by omega⟩
  |3,_=>exact⟨bw,3,a2,n2,c2,_,rfl,rfl,fun wr l v h=>⟨(hxH.out.below (hup wr l v h)).cell 3 rfl,hrH.out.r2.below (hup wr l v h)⟩,by omega⟩
  |4,_=>exact⟨bw,4,a3,n3,c3,_,rfl,rfl,fun wr l v h=>⟨(hxH.out.below (hup wr l v h)).cell 4 rfl,hrH.out.r3.below (hup wr l v h)⟩,by omega⟩
  |5,_=>exact⟨bw,5,a4,n4,c4,_,rfl,rfl,fun wr l v h=>⟨(hxH.out.below (hup wr l v h)).cell 5 rfl,hrH.out.r4.below (hup wr l v h)⟩,by omega⟩
  |6,_=>exact⟨bw,6,a5,n5,c5,_,rfl,rfl,fun wr l v h=>⟨(hxH.out.below (hup wr l v h)).cell 6 rfl,hrH.out.r5.below (hup wr l v h)⟩,by omega⟩
  |k+7,hk=>omega
 have hB6H:=H_ hB6;obtain⟨rk0,rk1,rk2,rk3,rk4,rk5,rk6⟩:=c_7 hBK;clear hB6 hBz hgz hb5 hba Ba hBK hbK hza hwsz h6 hk0;go_wp2_with (refine wpList_store_bx (.tmp 4) (.tmp 29) 246 (by with_reducible rfl) rfl rfl rfl hB6H.out (by kernel_rfl) rfl rfl hw0 ?_);clear hw6 hbaE hw0 hB6H;go_loopw [31] (fun kv wr=> ∃ (k:Nat) (l:List Str) (v:Value),k≤7∧kv= .int .i64 k∧Hid (WSt w0 wr mb bt z ba l v bw)∧Hid (l++((namesLs N).drop k).flatten =(namesLs N).flatten)∧Hid (uniqB l=true)) (fun kv _=>7-(intOf kv).toNat)
 case atStart=>exact⟨0,[],.slice none 0 0,by omega,rfl,hS0,by show _=_;simp,rfl⟩
 case round=>
  clear rk0 rk1 rk2 rk3 rk4 rk5 rk6;obtain⟨k,l,v,hk,rfl,hS,hl,hu⟩:=hrel;by_cases hk7:k<7
  ·have hkI:(k:Int)<7:=by omega
   obtain⟨b,o,A,n,c,lk,hvk,hLk,hcell,hn⟩:=hSl.out k hk7;have hix:=kidx z bw wr k hk7 _ hvk;simp only [kindsL] at hix;have z0:=(hcell wr l v hS.out).1;have hlk:Hid (lk.length=n):=(hcell wr l v hS.out).2.len
   have hl':Hid (l++(lk.drop 0++((namesLs N).drop (k+1)).flatten)=(namesLs N).flatten):=by
    have:=hl.out;rw [dropAt hLk,List.flatten_cons] at this;exact this
   have hcH:=H_ hcell;have hLkH:=H_ hLk;clear hl hcell hLk hvk;go_wp2_with fail;clear hix z0;go_loopw [39] (fun iv wx=> ∃ (i:Nat) (l:List Str) (v:Value),i≤n∧iv= .int .i64 i∧Hid (WSt w0 wx mb bt z ba l v bw)∧Hid (l++(lk.drop i++((namesLs N).drop (k+1)).flatten)=(namesLs N).flatten)∧Hid (uniqB l=true)) (fun iv _=>n-(intOf iv).toNat)
   case atStart=>exact⟨0,l,v,Nat.zero_le _,rfl,hS,hl',hu⟩
   case round=>
    clear hS hl' hu;obtain⟨i,l,v,hi,rfl,hS,hl,hu⟩:=hrel;by_cases hin:i<n
    ·have hinI:(i:Int)<(n:Int):=by omega
     obtain⟨b',o',x,rfl,hb0,hx,g0⟩:=((hcH.out wr l v hS.out).2).str hin;have hnx:=hnmH.out x (by rw [←namesLs_flat];exact List.mem_flatten.2 ⟨lk,List.mem_of_getElem? hLkH.out,List.mem_of_getElem? hx⟩);have hl2:Hid ((l++[x])++(lk.drop (i+1)++((namesLs N).drop (k+1)).flatten)=(namesLs N).flatten):=by have:=hl.out;rw [dropAt hx] at this;show _=_;rw [←this];simp
     have hlen:l.length<4096:=by have h1:=congrArg List.length hl2.out;rw [List.length_append,List.length_append] at h1;simp only [List.length_singleton] at h1;have:=hcnH.out;omega
     have hup0:=e00.out.trans (hS.out.bel.mono hlm.out.2.2);have hadd:=H_ (tadd_any wr mb bt l v x (sp_below hspH.out hwz.out.1 hup0) hS.out.tst hnx (name_size hnx) hlen);have y0:=(hS.out.bel.cell (p:=⟨bc,0,none⟩) hlm.out.1).trans (hBc0.out.cell 0 rfl);clear hup0 hnx hlen hx hl;go_wp2_with fail;refine hadd.out.mono ?_;rintro e w9 ⟨j,cc,rfl,hb9,hiff,hnext⟩;by_cases hc0:cc=0
     ·subst hc0;obtain⟨v',hT9,hk9⟩:=hnext rfl;have hany:=hiff.1 rfl;have hS9:Hid (WSt w0 w9 mb bt z ba (l++[x]) v' bw):=⟨hT9,hS.out.bel.trans hb9,hk9 z 22 _ (by decide) hzn.out.1 hS.out.bz,hk9 ba 246 _ (by decide) hzn.out.2.1 hS.out.ba⟩
      have hu2:Hid (uniqB (l++[x])=true):=by
       show _=_;rw [uniqB_snoc,hu.out,hany];rfl
      clear hT9 hk9 hany hnext hiff hb9 hadd y0 g0;go_wp2_with fail;go_roundw
      case rel=>exact⟨i+1,l++[x],v',by omega,by go_num,hS9,hl2,hu2⟩
      case measure=>simp [intOf];omega
     ·have hno:Hid (uniqB (allN N)=false):=by
       show _=_;rw [←namesLs_flat,←hl2.out];refine uniqB_pre _ _ ?_;rw [uniqB_snoc]
       cases h1:(l.any fun y=>sq y x) with
       |false=>exact absurd (hiff.2 h1) hc0
       |true=>simp
      have hd:(cc !=0)=true:=by simpa using hc0
      have hbel9:=hS.out.bel.trans hb9;have hBw:=hB10.out.keep (hbel9.block b1 (by have:=hlc.out;have:=hlm.out;omega));obtain⟨hBF,hbF⟩:=hBw.row [.int .i64 cc,.int .i64 (k:Int),.int .i64 (i:Int)];obtain⟨wF,hwF⟩: ∃ q,w9.setRow b1 (List.toArray [.int .i64 cc,.int .i64 (k:Int),.int .i64 (i:Int)])=q:=⟨_,rfl⟩
      rw [hwF] at hBF hbF;have h39:=e00.out.trans (hbel9.mono hlm.out.2.2);have hfin:Hid (Below we.heap.size we wF):=h39.trans (hbF.below h39.size (m_ hlc.out.2));have hBF:=H_ hBF;have hBwH:=H_ hBw;rename_i q1;clear q1 hbF h39 hl2 hb9 hu hnext hiff hbel9 hBw hadd y0 g0;go_wp2_with (with_reducible refine wpList_store_bx (.tmp 2) (.tmp 59) 81 (by with_reducible rfl) ?x1 ?x2 ?x3 hBwH.out ?x4 ?x5 ?x6 hwF ?_)
      case x1=>rfl
      case x2=>rfl
      case x3=>rfl
      case x4=>kernel_rfl
      case x5=>rfl
      case x6=>rfl
      refine bodyPost_bx (s:=2) (t:=81) rfl rfl hBF.out (by kernel_rfl) (by kernel_rfl) rfl ?_;exact⟨_,_,_,rfl,⟨fun h=>absurd h hc0,fun h=>by rw [hno.out] at h;simp at h⟩,hfin.out⟩
    ·obtain rfl:i=n:=by omega
     have hl2:Hid (l++((namesLs N).drop (k+1)).flatten =(namesLs N).flatten):=by have:=hl.out;rw [List.drop_eq_nil_of_le (by rw [hlk.out];omega),List.nil_append] at this;exact this
     clear hl;go_wp2_with fail;go_roundw
     case rel=>exact⟨k+1,l,v,by omega,by go_num,hS,hl2,hu⟩
     case measure=>simp [intOf];omega
  ·obtain rfl:k=7:=by omega
   have huA:Hid (uniqB (allN N)=true):=by
    have h1:=hl.out;have h2:((namesLs N).drop 7).flatten =[]:=rfl;rw [h2,List.append_nil] at h1;show _=_;rw [←namesLs_flat,←h1];exact hu.out
   clear hl hu hk7
   have hKC:Hid (∀ w,Below mb w0 w→KC w bc bw N ⟨a0,a1,a2,a3,a4,a5,aP,aD,aR,aT,aH,n0,n1,n2,n3,n4,n5,nP,nD,nR,nT,nH,c0,c1,c2,c3,c4,c5,cP,cD,cR,cT,cH⟩):=fun w h=>by
    have h1:=e00.out.trans (h.mono hlm.out.2.2);exact⟨(h.cell (p:=⟨bc,1,none⟩) hlm.out.1).trans (hBc0.out.cell 1 rfl),hxH.out.below h1,hrH.out.below h1⟩
   have hck:Hid (∀ k:Nat,k<7→ ∃ (g:Nat) (q:Nat→Bool) (b o:Nat) (A:Option Addr) (n c:Nat),(fnsL bc)[k]?=some (.func (.func g) #[.pointer (some ⟨bc,0,none⟩)] #[])∧(∀ args w,(callFunc g args).run Tryz.prog w= .ok (.enter g args) w)∧(checksL N)[k]?=some ((List.range n).all q)∧
    (kindsL z bw)[k]?=some (.pointer (some ⟨b,o,none⟩))∧(∀ wr,WSt w0 wr mb bt z ba l v bw→wr.cell? ⟨b,o,none⟩=some (.slice A n c))∧n≤4000∧ ∀ (i:Nat),i<n→ ∀ w,Below mb w0 w→Calls Tryz.prog g #[.pointer (some ⟨bc,0,none⟩),.int .i64 i] w (RetE w (q i))):=by
    intro k hk;obtain⟨b,o,A,n,c,lk,hvk,hLk,hcell,hn⟩:=hSl.out k hk;have hcl: ∀ wr,WSt w0 wr mb bt z ba l v bw→wr.cell? ⟨b,o,none⟩=some (.slice A n c):=fun wr h=>(hcell wr l v h).1;have hlen:=(hcell _ l v hS.out).2.len
    match k,hk with
    |0,_=>exact⟨198,fun _=>true,b,o,A,n,c,rfl,enters_of Tryz.func198 (by kernel_rfl) rfl,by simp [checksL],hvk,hcl,hn,fun i _ w _=>htF.out i w _⟩
    |1,_=>exact⟨198,fun _=>true,b,o,A,n,c,rfl,enters_of Tryz.func198 (by kernel_rfl) rfl,by simp [checksL],hvk,hcl,hn,fun i _ w _=>htF.out i w _⟩
    |2,_=>
     have e1:lk=N.nPaths:=by cases hLk;rfl
     have e2:N.paths.length=n:=by rw [hLn.out.1,←e1];exact hlen
     refine⟨199,allQ (fun p=>wayB p.1 p.2.1 p.2.2) N.paths,b,o,A,n,c,rfl,enters_of Tryz.func199 (by kernel_rfl) rfl,by rw [allQ_range e2];rfl,hvk,hcl,hn,fun i hi w hw=>?_⟩;obtain⟨x,hx⟩: ∃ x,N.paths[i]?=some x:=⟨_,List.getElem?_eq_getElem (by omega)⟩
     unfold allQ;rw [hx];exact kpath_any bc bw N _ i x w (hKC.out w hw) hx
    |3,_=>
     have e1:lk=N.nDoors:=by cases hLk;rfl
     have e2:N.doors.length=n:=by rw [hLn.out.2.1,←e1];exact hlen
     refine⟨200,allQ (fun d=>wayB d.a d.b d.len&&timesB d.fr d.ev d.du N.hz) N.doors,b,o,A,n,c,rfl,enters_of Tryz.func200 (by kernel_rfl) rfl,by rw [allQ_range e2];rfl,hvk,hcl,hn,fun i hi w hw=>?_⟩;obtain⟨x,hx⟩: ∃ x,N.doors[i]?=some x:=⟨_,List.getElem?_eq_getElem (by omega)⟩
     unfold allQ;rw [hx];exact kdoor_any bc bw N _ i x w (hKC.out w hw) hx
    |4,_=>
     have e1:lk=N.nRoutes:=by cases hLk;rfl
     have e2:N.routes.length=n:=by rw [hLn.out.2.2.1,←e1];exact hlen
     refine⟨201,allQ routeB N.routes,b,o,A,n,c,rfl,enters_of Tryz.func201 (by kernel_rfl) rfl,by rw [allQ_range e2];rfl,hvk,hcl,hn,fun i hi w hw=>?_⟩;obtain⟨x,hx⟩: ∃ x,N.routes[i]?=some x:=⟨_,List.getElem?_eq_getElem (by omega)⟩
     unfold allQ;rw [hx];exact kroute_any bc bw N _ i x w (hKC.out w hw) hx (hrtH.out x (List.mem_of_getElem? hx)).1 (hrtH.out x (List.mem_of_getElem? hx)).2.1 (hrtH.out x (List.mem_of_getElem? hx)).2.2
    |5,_=>
     have e1:lk=N.nTrips:=by cases hLk;rfl
     have e2:N.trips.length=n:=by rw [hLn.out.2.2.2.1,←e1];exact hlen
     refine⟨202,allQ (fun t=>decide (0≤t.route)&&decide (t.fr≤t.un)) N.trips,b,o,A,n,c,rfl,enters_of Tryz.func202 (by kernel_rfl) rfl,by rw [allQ_range e2];rfl,hvk,hcl,hn,fun i hi w hw=>?_⟩;obtain⟨x,hx⟩: ∃ x,N.trips[i]?=some x:=⟨_,List.getElem?_eq_getElem (by omega)⟩
     unfold allQ;rw [hx];exact ktrip_any bc bw N _ i x w (hKC.out w hw) hx
    |6,_=>
     have e1:lk=N.nHazs:=by cases hLk;rfl
     have e2:N.hazs.length=n:=by rw [hLn.out.2.2.2.2,←e1];exact hlen
     refine⟨203,allQ (fun h=>decide (0≤h.on)&&timesB h.fr h.ev h.du N.hz) N.hazs,b,o,A,n,c,rfl,enters_of Tryz.func203 (by kernel_rfl) rfl,by rw [allQ_range e2];rfl,hvk,hcl,hn,fun i hi w hw=>?_⟩;obtain⟨x,hx⟩: ∃ x,N.hazs[i]?=some x:=⟨_,List.getElem?_eq_getElem (by omega)⟩
     unfold allQ;rw [hx];exact khazard_any bc bw N _ i x w (hKC.out w hw) hx
    |k+7,hk=>omega
   go_wp2_with fail;go_loopw [77] (fun kv wy=> ∃ k:Nat,k≤7∧kv= .int .i64 k∧Hid (WSt w0 wy mb bt z ba l v bw)∧Hid (∀ j,j<k→(checksL N)[j]?=some true)) (fun kv _=>7-(intOf kv).toNat)
   case atStart=>exact⟨0,by omega,rfl,hS,fun j hj=>absurd hj (by omega)⟩
   case round=>
    clear hS;obtain⟨k,hk,rfl,hS,hall⟩:=hrel;by_cases hk7:k<7
    ·have hkI:(k:Int)<7:=by omega
     obtain⟨g,q,b,o,A,n,c,hgk,eg,hBk,hvk,hcl,hn,hcall⟩:=hck.out k hk7;have hix:=fidx bc wr k hk7 _ hgk;simp only [fnsL] at hix;have y1:=hS.out.ba.cell k hvk;have y2:=hcl wr hS.out;have hcH:=H_ hcall;have hBH:=H_ hBk;clear hcall hBk hgk hvk hcl;go_wp2_with fail;clear hix y1 y2;go_loopw [87] (fun iv wy=> ∃ i:Nat,i≤n∧iv= .int .i64 i∧Hid (WSt w0 wy mb bt z ba l v bw)∧Hid ((List.range i).all q=true)) (fun iv _=>n-(intOf iv).toNat)
     case atStart=>exact⟨0,Nat.zero_le _,rfl,hS,rfl⟩
     case round=>
      clear hS;obtain⟨i,hi,rfl,hS,hq⟩:=hrel;by_cases hin:i<n
      ·have hinI:(i:Int)<(n:Int):=by omega
       have hcl:=H_ (hcH.out i hin wr hS.out.bel);go_wp2_with fail;refine hcl.out.mono ?_;rintro e w9 ⟨cc,rfl,hiff,hb9⟩;have hS9:=H_ (hS.out.go hb9);by_cases hc0:cc=0
       ·subst hc0;have hq2:Hid ((List.range (i+1)).all q=true):=range_snoc hq.out (hiff.1 rfl);clear hiff hb9 hcl hS hq;go_wp2_with fail;go_roundw
        case rel=>
         refine⟨_,_,_,_,_,_,_,_,_,_,_,_,_,_,_,?_,rfl⟩;exact⟨i+1,by omega,by go_num,hS9,hq2⟩
        case measure=>simp [intOf];omega
       ·have hno:Hid (firstB N=false):=by
         show _=_;refine checks_no (k:=k) ?_;rw [hBH.out];refine congrArg some (range_no hin ?_)
         cases hqq:q i with
         |false=>rfl
         |true=>exact absurd (hiff.2 hqq) hc0
        have hd:(cc !=0)=true:=by simpa using hc0
        have hBw:=hB10.out.keep (hS9.out.bel.block b1 (by have:=hlc.out;have:=hlm.out;omega));obtain⟨hBF,hbF⟩:=hBw.row [.int .i64 cc,.int .i64 (k:Int),.int .i64 (i:Int)];obtain⟨wF,hwF⟩: ∃ q,w9.setRow b1 (List.toArray [.int .i64 cc,.int .i64 (k:Int),.int .i64 (i:Int)])=q:=⟨_,rfl⟩
        rw [hwF] at hBF hbF;have h39:=e00.out.trans (hS9.out.bel.mono hlm.out.2.2);have hfin:Hid (Below we.heap.size we wF):=h39.trans (hbF.below h39.size (m_ hlc.out.2));have hBF:=H_ hBF;have hBwH:=H_ hBw;rename_i q1;clear q1 hbF h39 hb9 hiff hBw hcl hS hq;go_wp2_with (with_reducible refine wpList_store_bx (.tmp 2) (.tmp 98) 81 (by with_reducible rfl) ?x1 ?x2 ?x3 hBwH.out ?x4 ?x5 ?x6 hwF ?_)
        case x1=>rfl
        case x2=>rfl
        case x3=>rfl
        case x4=>kernel_rfl
        case x5=>rfl
        case x6=>rfl
        refine bodyPost_bx (s:=2) (t:=81) rfl rfl hBF.out (by kernel_rfl) (by kernel_rfl) rfl ?_;exact⟨_,_,_,rfl,⟨fun h=>absurd h hc0,fun h=>by rw [hno.out] at h;simp at h⟩,hfin.out⟩
      ·obtain rfl:i=n:=by omega
       have hall2:Hid (∀ j,j<k+1→(checksL N)[j]?=some true):=fun j hj=>by
        rcases Nat.lt_or_ge j k with h|h
        ·exact hall.out j h
        ·obtain rfl:j=k:=by omega
         rw [hBH.out,hq.out]
       go_wp2_with fail;go_roundw
       case rel=>exact⟨k+1,by omega,by go_num,hS,hall2⟩
       case measure=>simp [intOf];omega
    ·obtain rfl:k=7:=by omega
     have hyes:Hid (firstB N=true):=by
      show _=_;rw [←checksL_all,List.all_eq_true];intro x hx;obtain⟨j,hj⟩:=List.getElem?_of_mem hx;have hj7:j<7:=(List.getElem?_eq_some_iff.1 hj).1;have:=hall.out j hj7;rw [hj] at this;cases this;rfl
     have hBw:=hB10.out.keep (hS.out.bel.block b1 (by have:=hlc.out;have:=hlm.out;omega));obtain⟨hBF,hbF⟩:=hBw.row [.int .i64 0,.int .i64 0,.int .i64 0];obtain⟨wF,hwF⟩: ∃ q,wr.setRow b1 (List.toArray [.int .i64 0,.int .i64 0,.int .i64 0])=q:=⟨_,rfl⟩
     rw [hwF] at hBF hbF;have h39:=e00.out.trans (hS.out.bel.mono hlm.out.2.2);have hfin:Hid (Below we.heap.size we wF):=h39.trans (hbF.below h39.size (m_ hlc.out.2));have hBF:=H_ hBF;have hBwH:=H_ hBw;clear hbF h39 hBw hall hk7;go_wp2_with (with_reducible refine wpList_store_bx (.tmp 2) (.tmp 101) 81 (by with_reducible rfl) ?x1 ?x2 ?x3 hBwH.out ?x4 ?x5 ?x6 hwF ?_)
     case x1=>rfl
     case x2=>rfl
     case x3=>rfl
     case x4=>kernel_rfl
     case x5=>rfl
     case x6=>rfl
     refine bodyPost_bx (s:=2) (t:=81) rfl rfl hBF.out (by kernel_rfl) (by kernel_rfl) rfl ?_;exact⟨_,_,_,rfl,⟨fun _=>by rw [huA.out,hyes.out];rfl,fun _=>rfl⟩,hfin.out⟩
