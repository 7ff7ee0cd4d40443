/- Merged. -/
import Derived.Test.YtechdefolfboeaaGreatDoorProg
import Derived.Handy
import Derived.Shelf.RegionOpen
import Derived.LoopNIn
import Derived.LoopIn
import Derived.Test.YtechdefolfboeaaGreatDoorPo1
set_option maxRecDepth 100000
set_option maxHeartbeats 400000
namespace Go.Proofs.YtechdefolfboeaaGreatDoor.K
def idx {α:Type} (p:α→Bool) (l:List α):Int:=if l.any p then(l.findIdx p:Int) else-1
theorem idx_at {α:Type} {p:α→Bool} {l:List α} {k:Nat} {x:α} (h:l[k]?=some x) (hno: ∀ y∈l.take k,p y=false) (hp:p x=true):idx p l=k:=by
 obtain⟨hlt,hx⟩:=List.getElem?_eq_some_iff.1 h;have hany:l.any p=true:=List.any_eq_true.2 ⟨x,hx ▸ List.getElem_mem hlt,hp⟩;unfold idx;rw [if_pos hany]
 congr 1
 rw [List.findIdx_eq hlt];refine⟨by rw [hx];exact hp,fun j hj=>?_⟩;have:=hno l[j] (by rw [List.mem_take_iff_getElem];exact⟨j,by omega,rfl⟩);exact this
theorem idx_no {α:Type} {p:α→Bool} {l:List α} (h: ∀ y∈l,p y=false):idx p l= -1:=by
 unfold idx;rw [if_neg];intro hh;obtain⟨y,hy,hp⟩:=List.any_eq_true.1 hh;rw [h y hy] at hp;cases hp
theorem idx_any {α:Type} (p:α→Bool) (l:List α):decide (0≤idx p l)=l.any p:=by
 unfold idx
 cases h:l.any p with
 |true=>simp
 |false=>simp
end Go.Proofs.YtechdefolfboeaaGreatDoor.K
namespace Go.Proofs.YtechdefolfboeaaGreatDoor
open Go.RowKit B
def eachL (f v n:Int) (m:Nat):W.Row:=(List.range m).map fun(i:Nat)=>(f+i*v,f+i*v+n)
theorem eachL_len (f v n:Int) (m:Nat):(eachL f v n m).length =m:=by simp [eachL]
theorem eachL_at (f v n:Int) (m k:Nat) (h:k<m):(eachL f v n m)[k]?=some (f+k*v,f+k*v+n):=by simp [eachL,h]
theorem eachL_pre (f v n:Int) (m k:Nat) (h:k<m):(eachL f v n m).take k++[(f+k*v,f+k*v+n)]<+:eachL f v n m:=by
 rw [←take_at (eachL_at f v n m k h)];exact List.take_prefix _ _
theorem eachL_snoc (f v n:Int) (m:Nat):eachL f v n (m+1)=eachL f v n m++[(f+m*v,f+m*v+n)]:=by simp [eachL,List.range_succ]
def winsM (f v n h:Int):W.Row×Int:=
 if W.chkT f v n≠0 then([],W.chkT f v n) else if W.chk h≠0 then([],W.chk h) else if 256<W.count f v h then([],3) else(W.joinL (eachL f v n (W.count f v h).toNat),0)
theorem chkT_zero {f v n:Int} (h:W.chkT f v n=0):(0≤f∧f≤1099511627776)∧(0≤v∧v≤1099511627776)∧(0≤n∧n≤1099511627776):=by
 unfold W.chkT at h;split at h
 ·cases h
 ·rename_i h0;have h1:=W.chk_zero (x:=f) (by omega);exact⟨h1,by omega,by omega⟩
theorem count_nonneg (f v u:Int):0≤W.count f v u:=by
 unfold W.count;split
 ·rename_i h;split
  ·omega
  ·have:=W.chk_zero h.2.1;have:=Int.ediv_nonneg (show 0≤u-f by omega) (show 0≤v by omega);omega
 ·omega
theorem withinW_any (lo x hi:Int) (w:World):
 Calls Tryz.prog 137 #[.int .i64 lo,.int .i64 x,.int .i64 hi] w fun e w'=>e= .returned (.bool (decide (lo≤x∧x≤hi)))∧w=w':=by
 go_enter Tryz.func137,Tryz.ntmps137
 go_wp2
 all_goals go_returns
 ·refine⟨?_,rfl⟩;congr;symm;simp;omega
 ·refine⟨?_,rfl⟩;congr 2;simp;omega
theorem tcheckW_any (x:Int) (w:World):
 Calls Tryz.prog 98 #[.int .i64 x] w fun e w'=>e= .returned (.int .i64 (W.chk x))∧w=w':=by
 go_enter Tryz.func98,Tryz.ntmps98;by_cases h:0≤x∧x≤1099511627776
 ·have hd:decide (0≤x∧x≤1099511627776)=true:=by simpa using h
  go_wp2_with (go_at_call 137;refine(withinW_any _ _ _ _).mono ?_;rintro e w' ⟨rfl,rfl⟩);go_returns;exact⟨ret_int (W.chk_ok h).symm,rfl⟩
 ·have hd:decide (0≤x∧x≤1099511627776)=false:=by simpa using h
  go_wp2_with (go_at_call 137;refine(withinW_any _ _ _ _).mono ?_;rintro e w' ⟨rfl,rfl⟩);go_returns;exact⟨ret_int (W.chk_no h).symm,rfl⟩
theorem check_any (f v n:Int) (w:World):
 Calls Tryz.prog 257 #[.agg #[.int .i64 f,.int .i64 v,.int .i64 n]] w fun e w'=>e= .returned (.int .i64 (W.chkT f v n))∧Below w.heap.size w w':=by
 go_enter Tryz.func257,Tryz.ntmps257;by_cases hv:v=0
 ·subst hv;rcases W.chk_cases f with h|h
  all_goals
   go_wp2_with (go_at_call 98;refine(tcheckW_any _ _).mono ?_;rintro e w' ⟨rfl,rfl⟩)
   all_goals
    go_returns;exact⟨ret_int (by unfold W.chkT;first|(rw [if_pos (by omega)])|(rw [if_neg (by omega)])),(Below.refl _ _).alloc (Nat.le_refl _) _⟩
 ·have hv2:(v !=0)=true:=by simp [hv]
  rcases W.chk_cases f with h|h
  all_goals
   go_wp2_with (go_at_call 98;refine(tcheckW_any _ _).mono ?_;rintro e w' ⟨rfl,rfl⟩)
   all_goals
    go_returns;exact⟨ret_int (by unfold W.chkT;first|(rw [if_pos (by omega)])|(rw [if_neg (by omega)])),(Below.refl _ _).alloc (Nat.le_refl _) _⟩
theorem count_any (f v u:Int) (w:World):
 Calls Tryz.prog 258 #[.int .i64 f,.int .i64 v,.int .i64 u] w fun e w'=>e= .returned (.int .i64 (W.count f v u))∧w=w':=by
 go_enter Tryz.func258,Tryz.ntmps258;by_cases hh:W.chk f=0∧W.chk v=0∧W.chk u=0∧f≤u
 ·obtain⟨h1,h2,h3,h4⟩:=hh;have:=W.chk_zero h1;have:=W.chk_zero h2;have:=W.chk_zero h3;by_cases hv:v=0
  ·subst hv;go_wp2_with (go_at_call 98;refine(tcheckW_any _ _).mono ?_;rintro e w' ⟨rfl,rfl⟩);go_returns;exact⟨ret_int (by unfold W.count;rw [if_pos ⟨h1,h2,h3,h4⟩,if_pos rfl]),rfl⟩
  ·have hq0:0≤(u-f) / v:=Int.ediv_nonneg (by omega) (by omega);have hq1:(u-f) / v≤1099511627776:=Int.le_trans (Int.ediv_le_self _ (by omega)) (by omega);go_wp2_with (go_at_call 98;refine(tcheckW_any _ _).mono ?_;rintro e w' ⟨rfl,rfl⟩);go_returns;exact⟨ret_int (by unfold W.count;rw [if_pos ⟨h1,h2,h3,h4⟩,if_neg hv]),rfl⟩
 ·have h0:Hid (W.count f v u=0):=by show _=_;unfold W.count;rw [if_neg hh]
  rcases W.chk_cases f with h1|h1<;>rcases W.chk_cases v with h2|h2<;>rcases W.chk_cases u with h3|h3
  all_goals
   go_wp2_with (go_at_call 98;refine(tcheckW_any _ _).mono ?_;rintro e w' ⟨rfl,rfl⟩)
   all_goals
    go_returns;exact⟨ret_int (by rw [h0.out]),rfl⟩
end Go.Proofs.YtechdefolfboeaaGreatDoor
namespace Go.Proofs.YtechdefolfboeaaGreatDoor.B
def noDefer (ops:Array Oper):Bool:=ops.all fun o=>match o.op with| .defer _=>false|_=>true
theorem noDefer_at {ops:Array Oper} (h:noDefer ops=true) {i:Nat} {o:Oper} (ho:ops[i]?=some o): ∀ c,o.op≠ .defer c:=by
 intro c hc;obtain⟨hlt,rfl⟩:=Array.getElem?_eq_some_iff.1 ho;have:=(Array.all_eq_true.1 h) i hlt;rw [hc] at this;cases this
section
variable {P:Program} {r:Option Nat} {l:Nat} {Q:Exit→Act→World→Prop}
abbrev wideR (r:Option Nat):Fence:={Fence.wide with round:=r}
theorem wpIn_of_wp {o:Oper} {a:Act} {w:World} {K:Act→World→Prop} (hd: ∀ c,o.op≠ .defer c) (h:o.wp P a w K Q):o.wpIn (wideR r) 0 P a w K Q:=by
 refine⟨fun _ _=>trivial,?_⟩;rw [Oper.semAt_eq _ _ _ hd];unfold Oper.wp at h;generalize (execOp a.eval o).run P w=r at*
 cases r with
 |ok n w'=>
  cases n<;>simp only [Oper.upon] at h<;>simp only [Oper.uponIn]
  case value v=>exact h
  case skip=>exact h
  case defer d=>exact h
  case enter f args=>exact⟨fun h=>by simp [Fence.wide] at h,(callsIn_wide (n:=0)).2 h⟩
  case row row args=>
   refine⟨fun h=>by simp [Fence.wide] at h,fun c cs _=>?_⟩;obtain⟨v,w'',hr,hs⟩:=h c cs;exact⟨v,w'',hr,stepsIn_wide.2 hs⟩
 |halt x w'=>
  cases x<;>simp only [Oper.upon] at h<;>simp only [Oper.uponIn]<;>exact h
theorem wpAnyIn_of_wpAny {md:Region.Mode} {ops:Array Oper} (hnd:noDefer ops=true) (hQ: ∀ a w,¬ Q .outgrown a w): ∀ (fuel:Nat) (listed:Array Bool) (a:Act) (w:World),
 wpAny P md ops Q fuel listed a w→wpAnyIn (wideR r) 0 P md ops Q fuel listed a w
 |0,_,_,_,h=>h
 |fuel+1,listed,a,w,h=>by
  refine⟨h.1,fun i hi=>?_⟩;have h2:=h.2 i hi;unfold wpOp at h2;unfold wpOpIn;split
  ·rename_i ho;simp only [ho] at h2;exact wpAnyIn_of_wpAny hnd hQ fuel _ _ _ h2
  ·rename_i o ho;simp only [ho] at h2;split
   ·rename_i hw;simp only [hw,if_true] at h2;rcases h2 with h2|⟨_,a0,w0,h2⟩
    ·exact wpIn_of_wp (noDefer_at hnd ho) (Oper.wp_mono (fun a w h=>wpAnyIn_of_wpAny hnd hQ fuel _ _ _ h) h2)
    ·exact(hQ _ _ h2).elim
   ·rename_i hw;simp only [hw] at h2;exact⟨fun _ _=>trivial,wpAnyIn_of_wpAny hnd hQ fuel _ _ _ h2⟩
theorem quiet_any {id:Nat} {a:Act} {w:World} {ol:List Oper} (hm:P.follows .mixedOrders =true) (hB:Region.lexB .any ol.toArray=true) (hnd:noDefer ol.toArray=true) (hQ: ∀ a w,¬ Q .outgrown a w)
 (h:wpQuiet P ol.toArray (fun w'=> ∃ n,w'=w.drewN n) (fun a'=> ∀ w',(∃ n,w'=w.drewN n)→Q .normal a' w') ol a):(Code.region id ol.toArray true).wpIn (wideR r) 0 P Q a w:=by
 simp only [Region.lexB,Bool.and_eq_true] at hB;refine wpIn_region_any hm (wpAnyIn_of_wpAny hnd hQ _ _ _ _ ?_);refine wpAny_of_quiet (C:=fun w'=> ∃ n,w'=w.drewN n) (Q:=fun a'=> ∀ w',(∃ n,w'=w.drewN n)→Q .normal a' w') (fun _ w' hw' h=>h w' hw') _ _ _ _ ⟨1,rfl⟩ ?_;have:=wpAnyQ_lex (C:=fun w'=> ∃ n,w'=w.drewN n) (md:= .any) hB.1 ol 0 (Array.replicate ol.toArray.size false) a (by simp) (by simpa using hB.2) h;simpa using this
theorem tail_any {id:Nat} {a:Act} {w:World} {ol:List Oper} (n:Nat) (hm:P.follows .mixedOrders =true) (hB:Region.lexTailB .any ol.toArray n=true) (hnd:noDefer ol.toArray=true) (hQ: ∀ a w,¬ Q .outgrown a w)
 (h:wpStill P ol.toArray w.drew (fun a'=>wpList P ol.toArray Q (ol.drop n) a' w.drew) (ol.take n) a):(Code.region id ol.toArray true).wpIn (wideR r) 0 P Q a w:=by
 simp only [Region.lexTailB,Bool.and_eq_true,decide_eq_true_eq] at hB;obtain⟨⟨⟨⟨hsel,hn⟩,hs⟩,hc⟩,hlex⟩:=hB;have hn':n<ol.length:=by simpa using hn
 have htl:(ol.take n).length =n:=by simp;omega
 have hdl:(ol.drop n).length =ol.toArray.size-n:=by simp
 have inv0:HeadInv .any ol.toArray n (Array.replicate ol.toArray.size false):=
  ⟨by simp,fun j oj _ hl=>(by rw [getD_replicate_false] at hl;cases hl),fun t _ ht=>getD_in (by simpa using ht) (getD_replicate_false _ _)⟩
 have H:=wpAnyL_lex (md:= .any) (g:=ol.toArray.size-n) hsel hs hc hn (ol.take n) 0 _ a (fun j hj=>by
  have hj':j<n:=by rw [htl] at hj;exact hj
  simp [hj']) (by simpa using htl) inv0 (by rw [htl];exact hlex) h
 refine wpIn_region_any hm (wpAnyIn_of_wpAny hnd hQ _ _ _ _ ?_)
 have:=wpAny_of_head (Q':=Q) (g:=ol.toArray.size-n) (fun listed a' hL=>by
  have:=wpAny_of_seq (md:= .any) (Q':=Q) (ol.drop n) n listed a' w.drew (fun j=>by simp [List.getElem?_drop]) (by rw [hdl];exact hL.1) hL.2
  rwa [hdl] at this) _ _ _ H
 rw [htl,show n+(ol.toArray.size-n)=ol.toArray.size by omega] at this;exact this
theorem quiet_round {id:Nat} {a:Act} {w:World} {ol:List Oper} (hm:P.follows .mixedOrders =true) (hB:Region.lexB .any ol.toArray=true) (hnd:noDefer ol.toArray=true) (hQ: ∀ a w,¬ Q .outgrown a w)
 (h:wpQuiet P ol.toArray (fun w'=> ∃ n,w'=w.drewN n) (fun a'=> ∀ w',(∃ n,w'=w.drewN n)→Q .normal a' w') ol a):(Code.region id ol.toArray true).wpIn (Fence.wide.inRound l) 0 P Q a w:=
 quiet_any (r:=some l) hm hB hnd hQ h
theorem tail_round {id:Nat} {a:Act} {w:World} {ol:List Oper} (n:Nat) (hm:P.follows .mixedOrders =true) (hB:Region.lexTailB .any ol.toArray n=true) (hnd:noDefer ol.toArray=true) (hQ: ∀ a w,¬ Q .outgrown a w)
 (h:wpStill P ol.toArray w.drew (fun a'=>wpList P ol.toArray Q (ol.drop n) a' w.drew) (ol.take n) a):(Code.region id ol.toArray true).wpIn (Fence.wide.inRound l) 0 P Q a w:=
 tail_any (r:=some l) n hm hB hnd hQ h
theorem tail_roundN {id:Nat} {a:Act} {w:World} {ol:List Oper} (n:Nat) {k:Nat} (hm:P.follows .mixedOrders =true) (hB:Region.lexTailB .any ol.toArray n=true) (hnd:noDefer ol.toArray=true) (hQ: ∀ a w,¬ Q .outgrown a w)
 (h:wpStill P ol.toArray (w.drewN (k+1)) (fun a'=>wpList P ol.toArray Q (ol.drop n) a' (w.drewN (k+1))) (ol.take n) a):(Code.region id ol.toArray true).wpIn (Fence.wide.inRound l) 0 P Q a (w.drewN k):=
 tail_round n hm hB hnd hQ h
end
end Go.Proofs.YtechdefolfboeaaGreatDoor.B
namespace Go.Proofs.YtechdefolfboeaaGreatDoor
open Go.RowKit B Go.Shelf
attribute [local go_sem] Oper.semAt_some
def winV (p:Int×Int):Value:= .agg #[.int .i64 p.1,.int .i64 p.2]
theorem each_iter (f v n:Int) (m Bn Bt:Nat) (K:Nat→Prop) (w:World) (hm:m≤256) (hf:0≤f∧f≤1099511627776) (hv:0≤v∧v≤1099511627776) (hn:0≤n∧n≤1099511627776)
 (hBn:Bn<w.heap.size) (hBt:Bt<w.heap.size) (hKt:K Bt) (c1:w.cell? ⟨Bn,0,none⟩=some (.int .i64 m))
 (c2:w.cell? ⟨Bt,0,none⟩=some (.int .i64 f)) (c3:w.cell? ⟨Bt,1,none⟩=some (.int .i64 v)) (c4:w.cell? ⟨Bt,2,none⟩=some (.int .i64 n)):
 Iter Tryz.prog 263 #[.pointer (some ⟨Bn,0,none⟩),.pointer (some ⟨Bt,0,none⟩)] winV (eachL f v n m) K (fun _=>False) w:=by
 intro l J Jx W hW h0 hst hstx hround;have c1:=(hW.cell (p:=⟨Bn,0,none⟩) hBn).trans c1;have c2:=(hW.cell (p:=⟨Bt,0,none⟩) hBt).trans c2;have c3:=(hW.cell (p:=⟨Bt,1,none⟩) hBt).trans c3;have c4:=(hW.cell (p:=⟨Bt,2,none⟩) hBt).trans c4;have hround:=Lib.hid hround;have hst:=Lib.hid hst;have hstx:=Lib.hid hstx;rename_i hr1 hs1 hs2;clear hr1 hs1 hs2;refine callsIn_of_wp Tryz.func263 rfl trivial ?_ rfl;simp only [Tryz.ntmps263,List.size_toArray,List.length_cons,List.length_nil,Nat.reduceAdd,Nat.reduceSub,Array.replicate_succ,Array.replicate_zero,List.push_toArray,List.append_toArray,List.nil_append,List.cons_append]
 gi_wp2
 gi_loopw [7] (fun i wr=> ∃ (k:Nat),k≤m∧i= .int .i64 k∧J ((eachL f v n m).take k) (fun _=>False) wr∧wr.heap[Bt]?=W.heap[Bt]?∧W.heap.size≤wr.heap.size) (fun i _=>m-(intOf i).toNat)
 case atStart=>exact⟨0,Nat.zero_le _,rfl,h0,rfl,Nat.le_refl _⟩
 case round=>
  obtain⟨k,hk,rfl,hj,hb,hsz⟩:=hrel;by_cases hlt:k<m
  ·have d2:=(World.cell?_of_block (a:=⟨Bt,0,none⟩) hb).trans c2;have d3:=(World.cell?_of_block (a:=⟨Bt,1,none⟩) hb).trans c3;have d4:=(World.cell?_of_block (a:=⟨Bt,2,none⟩) hb).trans c4;have hp1:0≤(k:Int)*v:=Int.mul_nonneg (by omega) hv.1;have hp2:(k:Int)*v≤281474976710656:=Int.le_trans (Int.mul_le_mul (by omega:(k:Int)≤256) hv.2 hv.1 (by omega)) (by omega);obtain⟨fn,tmps,assign,body,hy,hR⟩:=hround.out _ _ _ wr hj (eachL_pre f v n m k hlt);have hR:=Lib.hid hR
   dsimp only [winV] at hy
   have hbh:=Lib.hid hb;clear hb
   gi_wp2
   refine⟨rfl,?_⟩;refine RoundIn.mono hR.out ?_;rintro e W' (⟨rfl,hj',hT⟩|⟨rfl,hj',hT⟩)
   ·have hb':=(hT.block Bt (by have:=hW.size;omega) (fun h=>h.1 hKt)).trans hbh.out;have hsz':=Nat.le_trans hsz hT.size;have hbh':=Lib.hid hb';clear hb'
    gi_wp2
    go_roundw
    case rel=>exact⟨k+1,by omega,by go_num,by rw [take_at (eachL_at f v n m k hlt)];exact hj',hbh'.out,hsz'⟩
    case measure=>simp [intOf];omega
   ·gi_wp2
    refine bodyPost_ret (results_none rfl _ _ _) rfl ?_;exact⟨⟨_,rfl⟩,fun _=>False,.inr ⟨_,eachL_pre f v n m k hlt,hj'⟩⟩
  ·gi_wp2
   refine bodyPost_end (results_none rfl _ _ _) rfl ?_;refine⟨⟨_,rfl⟩,fun _=>False,.inl ?_⟩;rw [List.take_of_length_le (by rw [eachL_len];omega)] at hj;exact hj
theorem each_any (f v n m:Int) (w:World):
 Calls Tryz.prog 260 #[.agg #[.int .i64 f,.int .i64 v,.int .i64 n],.int .i64 m] w fun e w'=>
  e= .returned (.func (.func 263) #[] #[.pointer (some ⟨w.heap.size+1,0,none⟩),.pointer (some ⟨w.heap.size,0,none⟩)])∧
   w'=(w.alloc (.cells #[.int .i64 f,.int .i64 v,.int .i64 n] 102)).alloc (.cells #[.int .i64 m] 2):=by
 go_enter Tryz.func260,Tryz.ntmps260
 go_wp2
 go_returns;exact⟨rfl,rfl⟩
theorem pairE_len (p:Int×Int):(pairE p).length =2:=rfl
theorem Tryz.infoWin:(Tryz.prog.info? 295).map (fun i=>(i.zero,i.size,i.bytes))=some (some (.agg #[.int .i64 0,.int .i64 0]),2,16):=by kernel_rfl
def JInv (w:World) (Bo:Nat) (pre:W.Row) (S:Nat→Prop) (V:World):Prop:=
 ∃ v,V.heap[Bo]?=some (.cells #[v] 284 (0,0))∧V.ownsRow (w.heap.size+1) 295 2 v (W.joinL pre).length ((W.joinL pre).flatMap pairE)∧ ¬ S Bo∧(∀ g,v.ownBlock=some g→ ¬ S g)∧
   (∀ k,S k→w.heap.size≤k)∧Below w.heap.size w V∧(W.joinL pre=[]→v= .slice none 0 0)
theorem JInv.step {w:World} {Bo:Nat} {pre:W.Row} {S S':Nat→Prop} {V V':World} (h:JInv w Bo pre S V) (hs:Step S S' V V'):JInv w Bo pre S' V':=by
 obtain⟨v,h1,h2,h3,h4,h5,h6,h7⟩:=h;have hBo:=(Array.getElem?_eq_some_iff.1 h1).1;refine⟨v,(hs.turn.block Bo hBo h3).trans h1,own_keep h2 (fun k hk=>hs.turn.block k (h2.lt k hk).2 (h4 k hk)),fun h=>?_,fun g hg h=>?_,fun k hk=>?_,h6.trans (hs.turn.toBelow h6.size (fun k hk h=>by have:=h5 k h;omega)),h7⟩
 ·rcases hs.new _ h with h|h
  ·exact h3 h
  ·omega
 ·have:=(h2.lt g hg).2;rcases hs.new _ h with h|h
  ·exact h4 g hg h
  ·omega
 ·rcases hs.new _ hk with h|h
  ·exact h5 k h
  ·have:=h6.size;omega
theorem JInv.push {w:World} {pre acc:W.Row} {x:Int×Int} {S:Nat→Prop} {V2:World} {v:Value} {nq n n1 g c:Nat} {xs:List Value} {w1:World} {o:Obj}
 (g1:V2.heap[w.heap.size]?=some (.cells #[v] 284 (0,0))) (g2:V2.ownsRow (w.heap.size+1) 295 2 v n xs) (g3: ¬ S w.heap.size) (g4: ∀ g,v.ownBlock=some g→ ¬ S g) (g5: ∀ k,S k→w.heap.size≤k)
 (g6:Below w.heap.size w V2) (hS: ∀ k,S k→k<V2.heap.size) (hj:W.joinL (pre++[x])=acc++[x])
 (own1:w1.ownsRow (w.heap.size+1) 295 2 (.slice (some ⟨g,0,none⟩) n1 c) (acc++[x]).length ((acc++[x]).flatMap pairE)) (hgr:((V2.drewN nq).alloc o).grownBy w1 v.ownBlock) (hg:v.ownBlock=some g∨g=V2.heap.size+1):
 w1.heap[w.heap.size]?=some (.cells #[v] 284 (0,0))∧JInv w w.heap.size (pre++[x]) S (w1.setCell ⟨w.heap.size,0,none⟩ (.slice (some ⟨g,0,none⟩) n1 c))∧Turn (fun k=> ¬ k<w.heap.size∧ ¬ S k) V2 (w1.setCell ⟨w.heap.size,0,none⟩ (.slice (some ⟨g,0,none⟩) n1 c)):=by
 have hBo:=(Array.getElem?_eq_some_iff.1 g1).1
 have hT:Turn (fun k=> ¬ k<w.heap.size∧ ¬ S k) V2 w1:=by
  refine(((Turn.refl _ V2).drewN nq).alloc o).grown hgr (fun k hk hlt=>?_);exact⟨by have:=(g2.lt k hk).1;omega,g4 k hk⟩
 have hT2:=hT.setCell (p:=⟨w.heap.size,0,none⟩) (fun _=>⟨by simp,g3⟩) (.slice (some ⟨g,0,none⟩) n1 c)
 have hb1:w1.heap[w.heap.size]?=some (.cells #[v] 284 (0,0)):=by
  refine(hgr.block _ (by simp;omega) ?_).trans ((Below.heap_alloc _ o _ (by simpa using hBo)).trans g1);intro e;have:=(g2.lt _ e.symm).1;omega
 refine⟨hb1,⟨_,one_setCell hb1,?_,g3,fun g' hg'=>?_,g5,g6.trans (hT2.toBelow (by omega) (fun k hk h=>by omega)),fun h=>by rw [hj] at h;simp at h⟩,hT2⟩
 ·rw [hj];exact ownsRow_setCell_below own1 (by simp) _
 ·obtain rfl:g=g':=by simpa [Value.ownBlock] using hg'
  rcases hg with hg|hg
  ·exact g4 _ hg
  ·intro h;have:=hS _ h;omega
theorem flat_set (i:W.Row) (a b u:Int):((i++[(a,b)]).flatMap pairE).set (i.length*2+1) (.int .i64 u)=(i++[(a,u)]).flatMap pairE:=by
 have hl:(i.flatMap pairE).length =i.length*2:=flatMap_len pairE_len i;rw [List.flatMap_append,List.flatMap_append,List.set_append_right _ _ (by omega),hl,show i.length*2+1-i.length*2=1 by omega];rfl
theorem JInv.put {w:World} {pre i:W.Row} {x:Int×Int} {a b u:Int} {S:Nat→Prop} {V2:World} {nq g c:Nat}
 (g1:V2.heap[w.heap.size]?=some (.cells #[.slice (some ⟨g,0,none⟩) (i.length+1) c] 284 (0,0))) (g2:V2.ownsRow (w.heap.size+1) 295 2 (.slice (some ⟨g,0,none⟩) (i.length+1) c) (i.length+1) ((W.joinL pre).flatMap pairE))
 (g3: ¬ S w.heap.size) (g4: ∀ k,(Value.slice (some ⟨g,0,none⟩) (i.length+1) c).ownBlock =some k→ ¬ S k) (g5: ∀ k,S k→w.heap.size≤k)
 (g6:Below w.heap.size w V2) (h:W.joinL pre=i++[(a,b)]) (hj:W.joinL (pre++[x])=i++[(a,u)]):
 JInv w w.heap.size (pre++[x]) S ((V2.drewN nq).setCell ⟨g,i.length*2+1,none⟩ (.int .i64 u))∧Turn (fun k=> ¬ k<w.heap.size∧ ¬ S k) V2 ((V2.drewN nq).setCell ⟨g,i.length*2+1,none⟩ (.int .i64 u)):=by
 have hlt:=g2.lt g rfl;have g2':(V2.drewN nq).ownsRow (w.heap.size+1) 295 2 (.slice (some ⟨g,0,none⟩) (i.length+1) c) (i.length+1) ((W.joinL pre).flatMap pairE):=g2;have hs:=(g2'.stored (i.length*2+1) (.int .i64 u)).1;rw [h,flat_set] at hs;have hT:Turn (fun k=> ¬ k<w.heap.size∧ ¬ S k) V2 ((V2.drewN nq).setCell ⟨g,i.length*2+1,none⟩ (.int .i64 u)):=((Turn.refl _ V2).drewN nq).setCell (p:=⟨g,_,none⟩) (fun _=>⟨by simp;omega,g4 g rfl⟩) _;refine⟨⟨_,?_,?_,g3,g4,g5,g6.trans (hT.toBelow (Nat.le_of_lt (Array.getElem?_eq_some_iff.1 g1).1) (fun k hk h=>by omega)),fun h=>by rw [hj] at h;simp at h⟩,hT⟩
 ·exact(Below.heap_setCell _ _ _ _ (by simp;omega)).trans g1
 ·rw [hj];simpa using hs
theorem joined_any (gf:Nat) (lb:Array Value) (eg: ∀ args w,(callFunc gf args).run Tryz.prog w= .ok (.enter gf args) w) (l:W.Row) (hl:l.length≤1099511627776) (w:World)
 (hit:Iter Tryz.prog gf lb winV l (fun k=>k<w.heap.size) (fun _=>False) w):
 Calls Tryz.prog 259 #[.func (.func gf) #[] lb] w fun e w'=>RetRow1 w (W.joinL l) e w':=by
 refine(callsIn_wide (n:=0)).1 (callsIn_of_wp_marks Tryz.func259 rfl trivial ?_ rfl);simp only [Tryz.ntmps259,List.size_toArray,List.length_cons,List.length_nil,Nat.reduceAdd,Nat.reduceSub,Array.replicate_succ,Array.replicate_zero,List.push_toArray,List.append_toArray,List.nil_append,List.cons_append]
 gi_wp2
 refine wpIn_rangeFunc_iter rfl eg hit ((Below.refl _ _).alloc (Nat.le_refl _) _) (fun k h=>by simp;omega) (fun _ h=>h.elim) (JInv w w.heap.size) (fun _ _ _ _=>False) (fun _ _ _ _ _ h hs=>h.step hs) (fun _ _ _ _ _ _ h _=>h)
  ⟨.slice none 0 0,alloc_one _ _ _,World.ownsRow_nil _ _ _ _,fun h=>h,fun _ h=>(by cases h),fun _ h=>h.elim,(Below.refl _ _).alloc (Nat.le_refl _) _,fun _=>rfl⟩ ?body ?done ?stop
 case body=>
  rintro L pre ⟨p,q⟩ S V hpre hJ hN hSlt
  dsimp only [winV]
  gi_wp2
  refine⟨(Turn.refl _ V).alloc _,fun V2 hT hsz=>?_⟩;have hT2:Step S S V V2:=(Step.same ((Turn.refl S V).alloc (.cells #[.int .i64 p,.int .i64 q] 295))).trans (.same hT);have hJ2:=hJ.step hT2;obtain⟨v,g1,g2,g3,g4,g5,g6,g7⟩:=hJ2;have hc1:=cell_of_one g1;have hf1:=free_of_one g1;have hnS: ¬ S V.heap.size:=fun h=>by have:=hSlt _ h;omega
  have hw0:V2.heap[V.heap.size]?=some (.cells #[.int .i64 p,.int .i64 q] 295 (0,0)):=(hT.block _ (by simp) hnS).trans (heap_alloc_new V _);have hc2:=cell_of_row V2 _ 0 _ _ _ hw0;have hc3:=cell_of_row V2 _ 1 _ _ _ hw0;simp only [List.getElem?_toArray,List.getElem?_cons_zero,List.getElem?_cons_succ] at hc2 hc3;rcases List.eq_nil_or_concat (W.joinL pre) with hnil|⟨i,⟨a,b⟩,hcat⟩
  ·obtain rfl:=g7 hnil
   ·gi_wp2
    refine quiet_round (by kernel_rfl) (by kernel_rfl) (by kernel_rfl) (fun _ _ h=>h) ?_
    repeat(go_big_quiet_step (fail))
    refine wpQuiet_nil ?_;rintro _ ⟨nq,rfl⟩;have hSlt2: ∀ k,S k→k<V2.heap.size:=fun k hk=>by have:=hSlt k hk;have:=hT2.turn.size;omega
    obtain⟨g,c,w1,hrun,own1,hgr,hg⟩:=append_one (enc:=pairE) Tryz.underlying284 Tryz.infoWin rfl (by decide) pairE_len (fun x u hu=>by simp [pairE] at hu;rcases hu with rfl|rfl<;>rfl)
     (V2.drewN nq) (w.heap.size+1) (.slice none 0 0) [] (p,q) (World.ownsRow_nil _ _ _ _) (by simp) (by decide) (by have:=(Array.getElem?_eq_some_iff.1 g1).1;simp;omega)
    have hpush:=JInv.push (n:=0) (xs:=[]) g1 (World.ownsRow_nil _ _ _ _) g3 g4 g5 g6 hSlt2 (by rw [W.joinL_snoc,hnil];rfl:W.joinL (pre++[(p,q)])=[]++[(p,q)]) own1 hgr (by simpa using hg);simp only [pairE,List.length_nil,Nat.zero_add,World.heap_drewN] at hrun hpush;obtain⟨hd0,hpush1,hpush2⟩:=hpush;have hd1:=cell_of_one hd0;have hd2:=free_of_one hd0
    gi_wp2_with (gi_at_builtin;refine wpListIn_append_run rfl _ _ _ rfl rfl rfl hrun ?_)
    exact⟨hpush1,hpush2⟩
  ·rw [List.concat_eq_append] at hcat;have hSlt2: ∀ k,S k→k<V2.heap.size:=fun k hk=>by have:=hSlt k hk;have:=hT2.turn.size;omega
   have hKl:(W.joinL pre).length =i.length+1:=by rw [hcat];simp
   have hKb:i.length+2≤1099511627776:=by have:=W.joinL_len pre;have:=hpre.length_le;simp at this;omega
   rw [hKl] at g2;obtain⟨g0,cap,rfl⟩:=ownsRow_succ g2;have e1:=g2.cellAt (i.length*2) (by omega);have e2:=g2.cellAt (i.length*2+1) (by omega);rw [hcat,flatMap_at pairE_len (i++[(a,b)]) i.length (a,b) (by simp) 1 _ rfl] at e2;have e3:=flatMap_at pairE_len (i++[(a,b)]) i.length (a,b) (by simp) 0 _ rfl;rw [Nat.add_zero] at e3;rw [hcat,e3] at e1;clear e3;have e4:=g2.frozenAt (i.length*2+1);obtain⟨K,hK⟩: ∃ K,i.length=K:=⟨_,rfl⟩
   rw [hK] at g1 g2 hc1 e1 e2 e4 hKb;by_cases hin:p≤b
   ·gi_wp2
    refine quiet_round (by kernel_rfl) (by kernel_rfl) (by kernel_rfl) (fun _ _ h=>h) ?_
    repeat(go_big_quiet_step (fail))
    refine wpQuiet_nil ?_;rintro _ ⟨nq,rfl⟩
    gi_wp2
    have hput:=fun u hu nq=>JInv.put (x:=(p,q)) (u:=u) (nq:=nq) (i:=i) (by rw [hK];exact g1) (by rw [hK];exact g2) g3 (by rw [hK];exact g4) g5 g6 hcat hu;rw [hK] at hput;have hput2:=Lib.hid hput;have hjn:Hid (W.joinL (pre++[(p,q)])=i++[(a,max b q)]):=by show _=_;rw [W.joinL_snoc,hcat];exact W.joinStep_in _ _ _ hin
    clear hput g4 g7 hcat hKl;have hKK:(K:Int)<(K:Int)+1:=by omega
    refine tail_roundN 12 (by kernel_rfl) (by kernel_rfl) (by kernel_rfl) (fun _ _ h=>h) ?_;simp only [List.take_succ_cons,List.take_zero,List.drop_succ_cons,List.drop_zero]
    repeat still_step
    try refine wpStill_nil ?_
    go_wp2
    all_goals first
     |exact hput2.out b (by rw [hjn.out,show max b q=b by omega]) _
     |exact hput2.out q (by rw [hjn.out,show max b q=q by omega]) _
   ·have hpb:b<p:=by omega
    clear hin;have hKK:(K:Int)<(K:Int)+1:=by omega
    gi_wp2
    refine quiet_round (by kernel_rfl) (by kernel_rfl) (by kernel_rfl) (fun _ _ h=>h) ?_
    repeat(go_big_quiet_step (fail))
    refine wpQuiet_nil ?_;rintro _ ⟨nq,rfl⟩
    obtain⟨g,c,w1,hrun,own1,hgr,hg⟩:=append_one (enc:=pairE) Tryz.underlying284 Tryz.infoWin rfl (by decide) pairE_len (fun x u hu=>by simp [pairE] at hu;rcases hu with rfl|rfl<;>rfl)
     (V2.drewN nq) (w.heap.size+1) (.slice (some ⟨g0,0,none⟩) (K+1) cap) (i++[(a,b)]) (p,q) (by rw [←hcat,hKl,hK];exact g2) (by simp [hK];omega) (by decide) (by have:=(Array.getElem?_eq_some_iff.1 g1).1;simp;omega)
    have hpush:=JInv.push g1 g2 g3 (by rw [←hK];exact g4) g5 g6 hSlt2 (by rw [W.joinL_snoc,hcat];exact W.joinStep_out _ _ _ hpb:W.joinL (pre++[(p,q)])=(i++[(a,b)])++[(p,q)]) own1 hgr (by simpa using hg);have hil:(i++[(a,b)]).length =K+1:=by simp [hK]
    simp only [pairE,hil,World.heap_drewN] at hrun hpush;obtain⟨hd0,hpush1,hpush2⟩:=hpush;have hd1:=cell_of_one hd0;have hd2:=free_of_one hd0;clear g4 g7 hcat hKl hil hK
    gi_wp2_with (gi_at_builtin;refine wpListIn_append_run rfl _ _ _ rfl rfl rfl hrun ?_)
    exact⟨hpush1,hpush2⟩
 case done=>
  rintro D S V hSD hD ⟨v,g1,g2,g3,g4,g5,g6,g7⟩ hDd;obtain⟨A,c,rfl,r1,r2,r3⟩:=Rd.of_own pairE_len rfl g2;have hc1:=cell_of_one g1;have hf1:=free_of_one g1;have hnD:D≠w.heap.size:=fun e=>g3 (e ▸ hSD);have hlt:=(Array.getElem?_eq_some_iff.1 g1).1;have hDl:=(Array.getElem?_eq_some_iff.1 hDd).1;clear g4 g5 g7
  gi_wp2
  obtain⟨U1,hU1⟩: ∃ U1,V.setCell ⟨w.heap.size,0,none⟩ (.slice A (List.length (W.joinL l)) c)=U1:=⟨_,rfl⟩
  rw [hU1];have hDd1:U1.heap[D]?=some (.deferred (some [])):=by rw [←hU1];exact(Below.heap_setCell _ _ _ _ hnD).trans hDd
  have hb1:U1.heap[w.heap.size]?=some (.cells #[.slice A (List.length (W.joinL l)) c] 284 (0,0)):=by rw [←hU1];exact one_setCell g1
  have ho1:U1.ownsRow (w.heap.size+1) 295 2 (.slice A (List.length (W.joinL l)) c) (List.length (W.joinL l)) ((W.joinL l).flatMap pairE):=by rw [←hU1];exact ownsRow_setCell_below g2 (by simp) _
  have hT1:Below w.heap.size w U1:=by rw [←hU1];exact g6.setCell (by simp) _
  obtain⟨U2,hU2⟩: ∃ U2,U1.putObj D (.deferred none)=U2:=⟨_,rfl⟩
  have hb2:U2.heap[w.heap.size]?=some (.cells #[.slice A (List.length (W.joinL l)) c] 284 (0,0)):=by rw [←hU2];exact(World.putObj_heap_other (Ne.symm hnD)).trans hb1
  have ho2:U2.ownsRow (w.heap.size+1) 295 2 (.slice A (List.length (W.joinL l)) c) (List.length (W.joinL l)) ((W.joinL l).flatMap pairE):=by
   rw [←hU2];exact ownsRow_putObj ho1 _ hDd1 rfl
  have hT2:Below w.heap.size w U2:=by
   rw [←hU2];exact hT1.grown (grownBy_putObj' U1 D _) hT1.size (fun k e=>by cases e;simp at hD;omega)
  have hc2:=cell_of_one hb2;obtain⟨A',c',he,r1',_,_⟩:=Rd.of_own pairE_len rfl ho2;cases he;refine⟨by simp,.inl ⟨_,_,rfl,run_takeDeferred hDd1,?_⟩⟩;rw [hU2];exact⟨_,by simp [results,Tryz.results259,go_sem,hc2],.mk A c rfl r1' r2 r3 hT2⟩
 case stop=>exact fun _ _ _ _ _ _ _ _ h _=>h.elim
theorem wins_any (f v n h:Int) (w:World):
 Calls Tryz.prog 248 #[.agg #[.int .i64 f,.int .i64 v,.int .i64 n],.int .i64 h] w fun e w'=>RetRow2 w (winsM f v n h).1 (winsM f v n h).2 e w':=by
 obtain⟨r,hr⟩: ∃ r,winsM f v n h=r:=⟨_,rfl⟩
 rw [hr];have hr:=Lib.hid hr;rename_i hr0;clear hr0;go_enter Tryz.func248,Tryz.ntmps248;go_wp2_with fail;refine(check_any f v n _).mono ?_;rintro e w1 ⟨rfl,hb1⟩;have hbw:Below w.heap.size w w1:=((Below.refl _ w).alloc (Nat.le_refl _) _).trans (hb1.mono (by simp));have hsz1:w.heap.size<w1.heap.size:=by have:=hb1.size;simp at this;omega
 by_cases h1:W.chkT f v n=0
 ·have hh1:=Lib.hid h1;go_wp2_with fail;refine(tcheckW_any h _).mono ?_;rintro e w2 ⟨rfl,rfl⟩;by_cases h2:W.chk h=0
  ·have hh2:=Lib.hid h2;have c1:w1.cell? ⟨w.heap.size,0,none⟩=some (.int .i64 f):=(hb1.cell (p:=⟨w.heap.size,0,none⟩) (by simp)).trans (by simp [go_sem]);have c2:w1.cell? ⟨w.heap.size,1,none⟩=some (.int .i64 v):=(hb1.cell (p:=⟨w.heap.size,1,none⟩) (by simp)).trans (by simp [go_sem]);have c3:w1.cell? ⟨w.heap.size,2,none⟩=some (.int .i64 n):=(hb1.cell (p:=⟨w.heap.size,2,none⟩) (by simp)).trans (by simp [go_sem]);go_wp2_with fail;refine(count_any f v h _).mono ?_;rintro e w2 ⟨rfl,rfl⟩;obtain⟨hf0,hv0,hn0⟩:=chkT_zero hh1.out;by_cases h3:256<W.count f v h
   ·obtain rfl:r=([],3):=by have:=hr.out;unfold winsM at this;rw [if_neg (by simp [hh1.out]),if_neg (by simp [hh2.out]),if_pos h3] at this;exact this.symm
    go_wp2_with fail
    go_ret2
    exact .mk none 0 rfl Rd.nil (Nat.le_refl _) (by omega) hbw
   ·obtain⟨m,hm⟩: ∃ m:Nat,W.count f v h=m:=⟨(W.count f v h).toNat,by rw [Int.toNat_of_nonneg (count_nonneg _ _ _)]⟩
    obtain rfl:r=(W.joinL (eachL f v n m),0):=by
     have:=hr.out;unfold winsM at this;rw [if_neg (by simp [hh1.out]),if_neg (by simp [hh2.out]),if_neg h3,hm] at this;exact this.symm
    rw [hm] at h3 ⊢;have hm3:m≤256:=by omega
    clear hm;go_wp2_with fail;refine(each_any f v n m _).mono ?_;rintro e w2 ⟨rfl,rfl⟩;go_wp2_with fail;refine(joined_any 263 _ (enters_of Tryz.func263 (by kernel_rfl) rfl) (eachL f v n m) (by rw [eachL_len];omega) _ (each_iter f v n m (w1.heap.size+1) w1.heap.size _ _ hm3 hf0 hv0 hn0 (by simp) (by simp;omega) (by simp;omega) (by simp [go_sem]) (by simp [go_sem]) (by simp [go_sem]) (by simp [go_sem]))).mono ?_;rintro e w2 ⟨A,c,rfl,r1,r2,r3,r4⟩;go_wp2_with fail
    go_ret2
    exact .mk A c rfl r1 r2 r3 (hbw.trans ((((Below.refl _ w1).alloc (Nat.le_refl _) _).alloc (by simp) _).mono (by omega)|>.trans (r4.mono (by simp;omega))))
  ·obtain rfl:r=([],W.chk h):=by have:=hr.out;unfold winsM at this;rw [if_neg (by simp [hh1.out]),if_pos h2] at this;exact this.symm
   have hne:(W.chk h !=0)=true:=by simp [h2]
   go_wp2_with fail
   go_ret2
   exact .mk none 0 rfl Rd.nil (Nat.le_refl _) (by omega) hbw
 ·obtain rfl:r=([],W.chkT f v n):=by have:=hr.out;unfold winsM at this;rw [if_pos h1] at this;exact this.symm
  have hne:(W.chkT f v n !=0)=true:=by simp [h1]
  go_wp2_with fail
  go_ret2
  exact .mk none 0 rfl Rd.nil (Nat.le_refl _) (by omega) hbw
