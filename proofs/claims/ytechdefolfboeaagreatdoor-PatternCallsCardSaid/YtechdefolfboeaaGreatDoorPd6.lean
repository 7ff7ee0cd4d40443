/- Merged. -/
import Derived.Test.YtechdefolfboeaaGreatDoorProg
import Derived.Handy
import Derived.Shelf.RegionOpen
import Derived.LoopNIn
import Derived.LoopIn
import Derived.Test.YtechdefolfboeaaGreatDoorPd1
set_option maxRecDepth 100000
set_option maxHeartbeats 400000
namespace Go.Proofs.YtechdefolfboeaaGreatDoor.K
def idx {α:Type} (p:α ->Bool) (l:List α):Int:=if l.any p then(l.findIdx p:Int) else-1
theorem cn_ {α:Type} {p:α ->Bool} {l:List α} {k:Nat} {x:α} (h:l[k]?=some x) (hno: ∀ y∈l.take k,p y=false) (hp:p x=true):idx p l=k:=by
 obtain⟨g,n⟩:=List.getElem?_eq_some_iff.1 h;have f:l.any p=true:=List.any_eq_true.2 ⟨x,n ▸ List.getElem_mem g,hp⟩;unfold idx;rw [if_pos f]
 congr 1
 rw [List.findIdx_eq g];refine⟨by rw [n];exact hp,fun j hj=>?_⟩;have:=hno l[j] (by rw [List.mem_take_iff_getElem];exact⟨j,by omega,rfl⟩);exact this
theorem cx_ {α:Type} {p:α ->Bool} {l:List α} (h: ∀ y∈l,p y=false):idx p l= -1:=by
 unfold idx;rw [if_neg];intro g;obtain⟨y,j,f⟩:=List.any_eq_true.1 g;rw [h y j] at f;cases f
theorem cK_ {α:Type} (p:α ->Bool) (l:List α):decide (0<=idx p l)=l.any p:=by
 unfold idx
 cases h:l.any p with
 |true=>simp
 |false=>simp
end Go.Proofs.YtechdefolfboeaaGreatDoor.K
namespace Go.Proofs.YtechdefolfboeaaGreatDoor
open Go.RowKit B
def cd_ (f v n:Int) (m:Nat):W.Row:=(List.range m).map fun(i:Nat)=>(f+i*v,f+i*v+n)
theorem eA_ (f v n:Int) (m:Nat):(cd_ f v n m).length =m:=by simp [cd_]
theorem iI_ (f v n:Int) (m k:Nat) (h:k<m):(cd_ f v n m)[k]?=some (f+k*v,f+k*v+n):=by simp [cd_,h]
theorem hS_ (f v n:Int) (m k:Nat) (h:k<m):(cd_ f v n m).take k++[(f+k*v,f+k*v+n)]<+:cd_ f v n m:=by
 rw [<-an_ (iI_ f v n m k h)];exact List.take_prefix _ _
theorem kH_ (f v n:Int) (m:Nat):cd_ f v n (m+1)=cd_ f v n m++[(f+m*v,f+m*v+n)]:=by simp [cd_,List.range_succ]
def cv_ (f v n h:Int):W.Row×Int:=
 if W.chkT f v n≠0 then([],W.chkT f v n) else if W.chk h≠0 then([],W.chk h) else if 256<W.count f v h then([],3) else(W.joinL (cd_ f v n (W.count f v h).toNat),0)
theorem hN_ {f v n:Int} (h:W.chkT f v n=0):(0<=f/\f<=1099511627776)/\(0<=v/\v<=1099511627776)/\(0<=n/\n<=1099511627776):=by
 unfold W.chkT at h;split at h
 ·cases h
 ·rename_i h0;have g:=W.chk_zero (x:=f) (by omega);exact⟨g,by omega,by omega⟩
theorem fB_ (f v u:Int):0<=W.count f v u:=by
 unfold W.count;split
 ·rename_i h;split
  ·omega
  ·have:=W.chk_zero h.2.1;have:=Int.ediv_nonneg (show 0<=u-f by omega) (show 0<=v by omega);omega
 ·omega
theorem gr_ (lo x hi:Int) (w:World):
 Calls Tryz.prog 137 #[.int .i64 lo,.int .i64 x,.int .i64 hi] w fun e w'=>e= .returned (.bool (decide (lo<=x/\x<=hi)))/\w=w':=by
 go_enter Tryz.func137,Tryz.ntmps137
 go_wp2
 all_goals go_returns
 ·refine⟨?_,rfl⟩;congr;symm;simp;omega
 ·refine⟨?_,rfl⟩;congr 2;simp;omega
theorem aX_ (x:Int) (w:World):
 Calls Tryz.prog 98 #[.int .i64 x] w fun e w'=>e= .returned (.int .i64 (W.chk x))/\w=w':=by
 go_enter Tryz.func98,Tryz.ntmps98;by_cases h:0<=x/\x<=1099511627776
 ·have f:decide (0<=x/\x<=1099511627776)=true:=by simpa using h
  go_wp2_with (go_at_call 137;refine(gr_ _ _ _ _).mono ?_;rintro e w' ⟨rfl,rfl⟩);go_returns;exact⟨ah_ (W.chk_ok h).symm,rfl⟩
 ·have f:decide (0<=x/\x<=1099511627776)=false:=by simpa using h
  go_wp2_with (go_at_call 137;refine(gr_ _ _ _ _).mono ?_;rintro e w' ⟨rfl,rfl⟩);go_returns;exact⟨ah_ (W.chk_no h).symm,rfl⟩
theorem lY_ (f v n:Int) (w:World):
 Calls Tryz.prog 257 #[.agg #[.int .i64 f,.int .i64 v,.int .i64 n]] w (rb_ (.int .i64 (W.chkT f v n)) w):=by
 go_enter Tryz.func257,Tryz.ntmps257;by_cases g:v=0
 ·subst g;rcases W.chk_cases f with h|h
  all_goals
   go_wp2_with (go_at_call 98;refine(aX_ _ _).mono ?_;rintro e j ⟨rfl,rfl⟩)
   all_goals
    go_returns;exact⟨ah_ (by unfold W.chkT;first|(rw [if_pos (by omega)])|(rw [if_neg (by omega)])),(Below.refl _ _).alloc (Nat.le_refl _) _⟩
 ·have aA:(v !=0)=true:=by simp [g]
  rcases W.chk_cases f with h|h
  all_goals
   go_wp2_with (go_at_call 98;refine(aX_ _ _).mono ?_;rintro e j ⟨rfl,rfl⟩)
   all_goals
    go_returns;exact⟨ah_ (by unfold W.chkT;first|(rw [if_pos (by omega)])|(rw [if_neg (by omega)])),(Below.refl _ _).alloc (Nat.le_refl _) _⟩
theorem l1_ (f v u:Int) (w:World):
 Calls Tryz.prog 258 #[.int .i64 f,.int .i64 v,.int .i64 u] w fun e w'=>e= .returned (.int .i64 (W.count f v u))/\w=w':=by
 go_enter Tryz.func258,Tryz.ntmps258;by_cases q:W.chk f=0/\W.chk v=0/\W.chk u=0/\f<=u
 ·obtain⟨g,j,n,p⟩:=q;have:=W.chk_zero g;have:=W.chk_zero j;have:=W.chk_zero n;by_cases y:v=0
  ·subst y;go_wp2_with (go_at_call 98;refine(aX_ _ _).mono ?_;rintro e w' ⟨rfl,rfl⟩);go_returns;exact⟨ah_ (by unfold W.count;rw [if_pos ⟨g,j,n,p⟩,if_pos rfl]),rfl⟩
  ·have aA:0<=(u-f) / v:=Int.ediv_nonneg (by omega) (by omega);have aB:(u-f) / v<=1099511627776:=Int.le_trans (Int.ediv_le_self _ (by omega)) (by omega);go_wp2_with (go_at_call 98;refine(aX_ _ _).mono ?_;rintro e w' ⟨rfl,rfl⟩);go_returns;exact⟨ah_ (by unfold W.count;rw [if_pos ⟨g,j,n,p⟩,if_neg y]),rfl⟩
 ·have z:Hd (W.count f v u=0):=by show _=_;unfold W.count;rw [if_neg q]
  rcases W.chk_cases f with g|g<;>rcases W.chk_cases v with j|j<;>rcases W.chk_cases u with n|n
  all_goals
   go_wp2_with (go_at_call 98;refine(aX_ _ _).mono ?_;rintro e w' ⟨rfl,rfl⟩)
   all_goals
    go_returns;exact⟨ah_ (by rw [z.o]),rfl⟩
end Go.Proofs.YtechdefolfboeaaGreatDoor
namespace Go.Proofs.YtechdefolfboeaaGreatDoor.B
def cM_ (ops:Array Oper):Bool:=ops.all fun o=>match o.op with| .defer _=>false|_=>true
theorem g3_ {ops:Array Oper} (h:cM_ ops=true) {i:Nat} {o:Oper} (ho:ops[i]?=some o): ∀ c,o.op≠ .defer c:=by
 intro c g;obtain⟨f,rfl⟩:=Array.getElem?_eq_some_iff.1 ho;have:=(Array.all_eq_true.1 h) i f;rw [g] at this;cases this
section
variable {P:Program} {r:Option Nat} {l:Nat} {Q:Exit ->Act ->World ->Prop}
abbrev dm_ (r:Option Nat):Fence:={Fence.wide with round:=r}
theorem hr_ {o:Oper} {a:Act} {w:World} {K:Act ->World ->Prop} (hd: ∀ c,o.op≠ .defer c) (h:o.wp P a w K Q):o.wpIn (dm_ r) 0 P a w K Q:=by
 refine⟨fun _ _=>trivial,?_⟩;rw [Oper.semAt_eq _ _ _ hd];unfold Oper.wp at h;generalize (execOp a.eval o).run P w=r at*
 cases r with
 |ok n w'=>
  cases n<;>simp only [Oper.upon] at h<;>simp only [Oper.uponIn]
  case value v=>exact h
  case skip=>exact h
  case defer d=>exact h
  case enter f args=>exact⟨fun h=>by simp [Fence.wide] at h,(callsIn_wide (n:=0)).2 h⟩
  case row row args=>
   refine⟨fun h=>by simp [Fence.wide] at h,fun c j _=>?_⟩;obtain⟨v,g,p,q⟩:=h c j;exact⟨v,g,p,stepsIn_wide.2 q⟩
 |halt x w'=>
  cases x<;>simp only [Oper.upon] at h<;>simp only [Oper.uponIn]<;>exact h
theorem cr_ {md:Region.Mode} {ops:Array Oper} (hnd:cM_ ops=true) (hQ: ∀ a w,¬ Q .outgrown a w): ∀ (fuel:Nat) (listed:Array Bool) (a:Act) (w:World),
 wpAny P md ops Q fuel listed a w ->wpAnyIn (dm_ r) 0 P md ops Q fuel listed a w
 |0,_,_,_,h=>h
 |fuel+1,listed,a,w,h=>by
  refine⟨h.1,fun i hi=>?_⟩;have h2:=h.2 i hi;unfold wpOp at h2;unfold wpOpIn;split
  ·rename_i f;simp only [f] at h2;exact cr_ hnd hQ fuel _ _ _ h2
  ·rename_i o f;simp only [f] at h2;split
   ·rename_i g;simp only [g,if_true] at h2;rcases h2 with h2|⟨_,a0,w0,h2⟩
    ·exact hr_ (g3_ hnd f) (Oper.wp_mono (fun a w h=>cr_ hnd hQ fuel _ _ _ h) h2)
    ·exact(hQ _ _ h2).elim
   ·rename_i g;simp only [g] at h2;exact⟨fun _ _=>trivial,cr_ hnd hQ fuel _ _ _ h2⟩
theorem mT_ {id:Nat} {a:Act} {w:World} {ol:List Oper} (hm:P.follows .mixedOrders =true) (hB:Region.lexB .any ol.toArray=true) (hnd:cM_ ol.toArray=true) (hQ: ∀ a w,¬ Q .outgrown a w)
 (h:wpQuiet P ol.toArray (fun w'=> ∃ n,w'=w.drewN n) (fun a'=> ∀ w',(∃ n,w'=w.drewN n) ->Q .normal a' w') ol a):(Code.region id ol.toArray true).wpIn (dm_ r) 0 P Q a w:=by
 simp only [Region.lexB,Bool.and_eq_true] at hB;refine wpIn_region_any hm (cr_ hnd hQ _ _ _ _ ?_);refine wpAny_of_quiet (C:=fun w'=> ∃ n,w'=w.drewN n) (Q:=fun a'=> ∀ w',(∃ n,w'=w.drewN n) ->Q .normal a' w') (fun _ w' f h=>h w' f) _ _ _ _ ⟨1,rfl⟩ ?_;have:=wpAnyQ_lex (C:=fun w'=> ∃ n,w'=w.drewN n) (md:= .any) hB.1 ol 0 (Array.replicate ol.toArray.size false) a (by simp) (by simpa using hB.2) h;simpa using this
theorem op_ {id:Nat} {a:Act} {w:World} {ol:List Oper} (n:Nat) (hm:P.follows .mixedOrders =true) (hB:Region.lexTailB .any ol.toArray n=true) (hnd:cM_ ol.toArray=true) (hQ: ∀ a w,¬ Q .outgrown a w)
 (h:wpStill P ol.toArray w.drew (fun a'=>wpList P ol.toArray Q (ol.drop n) a' w.drew) (ol.take n) a):(Code.region id ol.toArray true).wpIn (dm_ r) 0 P Q a w:=by
 simp only [Region.lexTailB,Bool.and_eq_true,decide_eq_true_eq] at hB;obtain⟨⟨⟨⟨z,M⟩,R⟩,N⟩,y⟩:=hB;have aA:n<ol.length:=by simpa using M
 have f:(ol.take n).length =n:=by simp;omega
 have q:(ol.drop n).length =ol.toArray.size-n:=by simp
 have D:HeadInv .any ol.toArray n (Array.replicate ol.toArray.size false):=
  ⟨by simp,fun j oj _ L=>(by rw [getD_replicate_false] at L;cases L),fun t _ S=>getD_in (by simpa using S) (getD_replicate_false _ _)⟩
 have H:=wpAnyL_lex (md:= .any) (g:=ol.toArray.size-n) z R N M (ol.take n) 0 _ a (fun j J=>by
  have F:j<n:=by rw [f] at J;exact J
  simp [F]) (by simpa using f) D (by rw [f];exact y) h
 refine wpIn_region_any hm (cr_ hnd hQ _ _ _ _ ?_)
 have:=wpAny_of_head (Q':=Q) (g:=ol.toArray.size-n) (fun p a' G=>by
  have:=wpAny_of_seq (md:= .any) (Q':=Q) (ol.drop n) n p a' w.drew (fun j=>by simp [List.getElem?_drop]) (by rw [q];exact G.1) G.2
  rwa [q] at this) _ _ _ H
 rw [f,show n+(ol.toArray.size-n)=ol.toArray.size by omega] at this;exact this
theorem eO_ {id:Nat} {a:Act} {w:World} {ol:List Oper} (hm:P.follows .mixedOrders =true) (hB:Region.lexB .any ol.toArray=true) (hnd:cM_ ol.toArray=true) (hQ: ∀ a w,¬ Q .outgrown a w)
 (h:wpQuiet P ol.toArray (fun w'=> ∃ n,w'=w.drewN n) (fun a'=> ∀ w',(∃ n,w'=w.drewN n) ->Q .normal a' w') ol a):(Code.region id ol.toArray true).wpIn (Fence.wide.inRound l) 0 P Q a w:=
 mT_ (r:=some l) hm hB hnd hQ h
theorem lC_ {id:Nat} {a:Act} {w:World} {ol:List Oper} (n:Nat) (hm:P.follows .mixedOrders =true) (hB:Region.lexTailB .any ol.toArray n=true) (hnd:cM_ ol.toArray=true) (hQ: ∀ a w,¬ Q .outgrown a w)
 (h:wpStill P ol.toArray w.drew (fun a'=>wpList P ol.toArray Q (ol.drop n) a' w.drew) (ol.take n) a):(Code.region id ol.toArray true).wpIn (Fence.wide.inRound l) 0 P Q a w:=
 op_ (r:=some l) n hm hB hnd hQ h
theorem kb_ {id:Nat} {a:Act} {w:World} {ol:List Oper} (n:Nat) {k:Nat} (hm:P.follows .mixedOrders =true) (hB:Region.lexTailB .any ol.toArray n=true) (hnd:cM_ ol.toArray=true) (hQ: ∀ a w,¬ Q .outgrown a w)
 (h:wpStill P ol.toArray (w.drewN (k+1)) (fun a'=>wpList P ol.toArray Q (ol.drop n) a' (w.drewN (k+1))) (ol.take n) a):(Code.region id ol.toArray true).wpIn (Fence.wide.inRound l) 0 P Q a (w.drewN k):=
 lC_ n hm hB hnd hQ h
end
end Go.Proofs.YtechdefolfboeaaGreatDoor.B
namespace Go.Proofs.YtechdefolfboeaaGreatDoor
open Go.RowKit B Go.Shelf
attribute [local go_sem] Oper.semAt_some
def winV (p:Int×Int):Value:= .agg #[.int .i64 p.1,.int .i64 p.2]
theorem mb_ (f v n:Int) (m Bn Bt:Nat) (K:Nat ->Prop) (w:World) (hm:m<=256) (hf:0<=f/\f<=1099511627776) (hv:0<=v/\v<=1099511627776) (hn:0<=n/\n<=1099511627776)
 (hBn:Bn<w.heap.size) (hBt:Bt<w.heap.size) (hKt:K Bt) (c1:w.cell? ⟨Bn,0,none⟩=some (.int .i64 m))
 (c2:w.cell? ⟨Bt,0,none⟩=some (.int .i64 f)) (c3:w.cell? ⟨Bt,1,none⟩=some (.int .i64 v)) (c4:w.cell? ⟨Bt,2,none⟩=some (.int .i64 n)):
 Iter Tryz.prog 263 #[.pointer (some ⟨Bn,0,none⟩),.pointer (some ⟨Bt,0,none⟩)] winV (cd_ f v n m) K (fun _=>False) w:=by
 intro l J Jx W z Y L j g;have c1:=(z.cell (p:=⟨Bn,0,none⟩) hBn).trans c1;have c2:=(z.cell (p:=⟨Bt,0,none⟩) hBt).trans c2;have c3:=(z.cell (p:=⟨Bt,1,none⟩) hBt).trans c3;have c4:=(z.cell (p:=⟨Bt,2,none⟩) hBt).trans c4;have g:=H_ g;have L:=H_ L;have j:=H_ j;rename_i S T U;clear S T U;refine callsIn_of_wp Tryz.func263 rfl trivial ?_ rfl;simp only [Tryz.ntmps263,List.size_toArray,List.length_cons,List.length_nil,Nat.reduceAdd,Nat.reduceSub,Array.replicate_succ,Array.replicate_zero,List.push_toArray,List.append_toArray,List.nil_append,List.cons_append]
 gi_wp2
 gi_loopw [7] (fun i wr=> ∃ (k:Nat),k<=m/\i= .int .i64 k/\J ((cd_ f v n m).take k) (fun _=>False) wr/\wr.heap[Bt]?=W.heap[Bt]?/\W.heap.size<=wr.heap.size) (fun i _=>m-(intOf i).toNat)
 ·exact⟨0,Nat.zero_le _,rfl,Y,rfl,Nat.le_refl _⟩
 ·obtain⟨k,hk,rfl,R,D,X⟩:=hrel;by_cases y:k<m
  ·have d2:=(World.cell?_of_block (a:=⟨Bt,0,none⟩) D).trans c2;have d3:=(World.cell?_of_block (a:=⟨Bt,1,none⟩) D).trans c3;have d4:=(World.cell?_of_block (a:=⟨Bt,2,none⟩) D).trans c4;have aD:0<=(k:Int)*v:=Int.mul_nonneg (by omega) hv.1;have aE:(k:Int)*v<=281474976710656:=Int.le_trans (Int.mul_le_mul (by omega:(k:Int)<=256) hv.2 hv.1 (by omega)) (by omega);obtain⟨fn,aC,aA,aB,Z,N⟩:=g.o _ _ _ wr R (hS_ f v n m k y);have N:=H_ N
   dsimp only [winV] at Z
   have Q:=H_ D;clear D
   gi_wp2
   refine⟨rfl,?_⟩;refine RoundIn.mono N.o ?_;rintro e W' (⟨rfl,q,P⟩|⟨rfl,q,P⟩)
   ·have F:=(P.block Bt (by have:=z.size;omega) (fun h=>h.1 hKt)).trans Q.o;have M:=Nat.le_trans X P.size;have G:=H_ F;clear F
    gi_wp2
    go_roundw
    ·exact⟨k+1,by omega,by go_num,by rw [an_ (iI_ f v n m k y)];exact q,G.o,M⟩
    ·simp [intOf];omega
   ·gi_wp2
    refine bodyPost_ret (results_none rfl _ _ _) rfl ?_;exact⟨⟨_,rfl⟩,fun _=>False,.inr ⟨_,hS_ f v n m k y,q⟩⟩
  ·gi_wp2
   refine bodyPost_end (results_none rfl _ _ _) rfl ?_;refine⟨⟨_,rfl⟩,fun _=>False,.inl ?_⟩;rw [List.take_of_length_le (by rw [eA_];omega)] at R;exact R
theorem nx_ (f v n m:Int) (w:World):
 Calls Tryz.prog 260 #[.agg #[.int .i64 f,.int .i64 v,.int .i64 n],.int .i64 m] w fun e w'=>
  e= .returned (.func (.func 263) #[] #[.pointer (some ⟨w.heap.size+1,0,none⟩),.pointer (some ⟨w.heap.size,0,none⟩)])/\
   w'=(w.alloc (.cells #[.int .i64 f,.int .i64 v,.int .i64 n] 102)).alloc (.cells #[.int .i64 m] 2):=by
 go_enter Tryz.func260,Tryz.ntmps260
 go_wp2
 go_returns;exact⟨rfl,rfl⟩
theorem bu_ (p:Int×Int):(aZ_ p).length =2:=rfl
theorem Tryz.infoWin:(Tryz.prog.info? 295).map (fun i=>(i.zero,i.size,i.bytes))=some (some (.agg #[.int .i64 0,.int .i64 0]),2,16):=by kernel_rfl
def JInv (w:World) (Bo:Nat) (pre:W.Row) (S:Nat ->Prop) (V:World):Prop:=
 ∃ v,V.heap[Bo]?=some (.cells #[v] 284 (0,0))/\V.ownsRow (w.heap.size+1) 295 2 v (W.joinL pre).length ((W.joinL pre).flatMap aZ_)/\ ¬ S Bo/\(∀ g,v.ownBlock=some g -> ¬ S g)/\
   (∀ k,S k ->w.heap.size<=k)/\Below w.heap.size w V/\(W.joinL pre=[] ->v= .slice none 0 0)
theorem JInv.step {w:World} {Bo:Nat} {pre:W.Row} {S S':Nat ->Prop} {V V':World} (h:JInv w Bo pre S V) (hs:Step S S' V V'):JInv w Bo pre S' V':=by
 obtain⟨v,q,j,y,z,D,n,G⟩:=h;have p:=(Array.getElem?_eq_some_iff.1 q).1;refine⟨v,(hs.turn.block Bo p y).trans q,bd_ j (fun k f=>hs.turn.block k (j.lt k f).2 (z k f)),fun h=>?_,fun g F h=>?_,fun k f=>?_,n.trans (hs.turn.toBelow n.size (fun k f h=>by have:=D k h;omega)),G⟩
 ·rcases hs.new _ h with h|h
  ·exact y h
  ·omega
 ·have:=(j.lt g F).2;rcases hs.new _ h with h|h
  ·exact z g F h
  ·omega
 ·rcases hs.new _ f with h|h
  ·exact D k h
  ·have:=n.size;omega
theorem JInv.push {w:World} {pre acc:W.Row} {x:Int×Int} {S:Nat ->Prop} {V2:World} {v:Value} {nq n n1 g c:Nat} {xs:List Value} {w1:World} {o:Obj}
 (g1:V2.heap[w.heap.size]?=some (.cells #[v] 284 (0,0))) (g2:V2.ownsRow (w.heap.size+1) 295 2 v n xs) (g3: ¬ S w.heap.size) (g4: ∀ g,v.ownBlock=some g -> ¬ S g) (g5: ∀ k,S k ->w.heap.size<=k)
 (g6:Below w.heap.size w V2) (hS: ∀ k,S k ->k<V2.heap.size) (hj:W.joinL (pre++[x])=acc++[x])
 (own1:w1.ownsRow (w.heap.size+1) 295 2 (.slice (some ⟨g,0,none⟩) n1 c) (acc++[x]).length ((acc++[x]).flatMap aZ_)) (hgr:((V2.drewN nq).alloc o).grownBy w1 v.ownBlock) (hg:v.ownBlock=some g∨g=V2.heap.size+1):
 w1.heap[w.heap.size]?=some (.cells #[v] 284 (0,0))/\JInv w w.heap.size (pre++[x]) S (w1.setCell ⟨w.heap.size,0,none⟩ (.slice (some ⟨g,0,none⟩) n1 c))/\Turn (fun k=> ¬ k<w.heap.size/\ ¬ S k) V2 (w1.setCell ⟨w.heap.size,0,none⟩ (.slice (some ⟨g,0,none⟩) n1 c)):=by
 have q:=(Array.getElem?_eq_some_iff.1 g1).1
 have F:Turn (fun k=> ¬ k<w.heap.size/\ ¬ S k) V2 w1:=by
  refine(((Turn.refl _ V2).drewN nq).alloc o).grown hgr (fun k z aA=>?_);exact⟨by have:=(g2.lt k z).1;omega,g4 k z⟩
 have f:=F.setCell (p:=⟨w.heap.size,0,none⟩) (fun _=>⟨by simp,g3⟩) (.slice (some ⟨g,0,none⟩) n1 c)
 have j:w1.heap[w.heap.size]?=some (.cells #[v] 284 (0,0)):=by
  refine(hgr.block _ (by simp;omega) ?_).trans ((Below.heap_alloc _ o _ (by simpa using q)).trans g1);intro e;have:=(g2.lt _ e.symm).1;omega
 refine⟨j,⟨_,one_setCell j,?_,g3,fun D y=>?_,g5,g6.trans (f.toBelow (by omega) (fun k z h=>by omega)),fun h=>by rw [hj] at h;simp at h⟩,f⟩
 ·rw [hj];exact ownsRow_setCell_below own1 (by simp) _
 ·obtain rfl:g=D:=by simpa [Value.ownBlock] using y
  rcases hg with hg|hg
  ·exact g4 _ hg
  ·intro h;have:=hS _ h;omega
theorem iK_ (i:W.Row) (a b u:Int):((i++[(a,b)]).flatMap aZ_).set (i.length*2+1) (.int .i64 u)=(i++[(a,u)]).flatMap aZ_:=by
 have f:(i.flatMap aZ_).length =i.length*2:=cz_ bu_ i;rw [List.flatMap_append,List.flatMap_append,List.set_append_right _ _ (by omega),f,show i.length*2+1-i.length*2=1 by omega];rfl
theorem JInv.put {w:World} {pre i:W.Row} {x:Int×Int} {a b u:Int} {S:Nat ->Prop} {V2:World} {nq g c:Nat}
 (g1:V2.heap[w.heap.size]?=some (.cells #[.slice (some ⟨g,0,none⟩) (i.length+1) c] 284 (0,0))) (g2:V2.ownsRow (w.heap.size+1) 295 2 (.slice (some ⟨g,0,none⟩) (i.length+1) c) (i.length+1) ((W.joinL pre).flatMap aZ_))
 (g3: ¬ S w.heap.size) (g4: ∀ k,(Value.slice (some ⟨g,0,none⟩) (i.length+1) c).ownBlock =some k -> ¬ S k) (g5: ∀ k,S k ->w.heap.size<=k)
 (g6:Below w.heap.size w V2) (h:W.joinL pre=i++[(a,b)]) (hj:W.joinL (pre++[x])=i++[(a,u)]):
 JInv w w.heap.size (pre++[x]) S ((V2.drewN nq).setCell ⟨g,i.length*2+1,none⟩ (.int .i64 u))/\Turn (fun k=> ¬ k<w.heap.size/\ ¬ S k) V2 ((V2.drewN nq).setCell ⟨g,i.length*2+1,none⟩ (.int .i64 u)):=by
 have aA:=g2.lt g rfl;have f:(V2.drewN nq).ownsRow (w.heap.size+1) 295 2 (.slice (some ⟨g,0,none⟩) (i.length+1) c) (i.length+1) ((W.joinL pre).flatMap aZ_):=g2;have n:=(f.stored (i.length*2+1) (.int .i64 u)).1;rw [h,iK_] at n;have j:Turn (fun k=> ¬ k<w.heap.size/\ ¬ S k) V2 ((V2.drewN nq).setCell ⟨g,i.length*2+1,none⟩ (.int .i64 u)):=((Turn.refl _ V2).drewN nq).setCell (p:=⟨g,_,none⟩) (fun _=>⟨by simp;omega,g4 g rfl⟩) _;refine⟨⟨_,?_,?_,g3,g4,g5,g6.trans (j.toBelow (Nat.le_of_lt (Array.getElem?_eq_some_iff.1 g1).1) (fun k hk h=>by omega)),fun h=>by rw [hj] at h;simp at h⟩,j⟩
 ·exact(Below.heap_setCell _ _ _ _ (by simp;omega)).trans g1
 ·rw [hj];simpa using n
theorem kQ_ (gf:Nat) (lb:Array Value) (eg: ∀ args w,(callFunc gf args).run Tryz.prog w= .ok (.enter gf args) w) (l:W.Row) (hl:l.length<=1099511627776) (w:World)
 (hit:Iter Tryz.prog gf lb winV l (fun k=>k<w.heap.size) (fun _=>False) w):
 Calls Tryz.prog 259 #[.func (.func gf) #[] lb] w fun e w'=>f3_ w (W.joinL l) e w':=by
 refine(callsIn_wide (n:=0)).1 (callsIn_of_wp_marks Tryz.func259 rfl trivial ?_ rfl);simp only [Tryz.ntmps259,List.size_toArray,List.length_cons,List.length_nil,Nat.reduceAdd,Nat.reduceSub,Array.replicate_succ,Array.replicate_zero,List.push_toArray,List.append_toArray,List.nil_append,List.cons_append]
 gi_wp2
 refine dT_ rfl eg hit ((Below.refl _ _).alloc (Nat.le_refl _) _) (fun k h=>by simp;omega) (fun _ h=>h.elim) (JInv w w.heap.size) (fun _ _ _ _=>False) (fun _ _ _ _ _ h hs=>h.step hs) (fun _ _ _ _ _ _ h _=>h)
  ⟨.slice none 0 0,hL_ _ _ _,World.ownsRow_nil _ _ _ _,fun h=>h,fun _ h=>(by cases h),fun _ h=>h.elim,(Below.refl _ _).alloc (Nat.le_refl _) _,fun _=>rfl⟩ ?body ?done ?stop
 case body=>
  rintro L M ⟨p,q⟩ S V aL hJ hN P
  dsimp only [winV]
  gi_wp2
  refine⟨(Turn.refl _ V).alloc _,fun s hT bF=>?_⟩;have Q:Step S S V s:=(Step.same ((Turn.refl S V).alloc (.cells #[.int .i64 p,.int .i64 q] 295))).trans (.same hT);have aO:=hJ.step Q;obtain⟨v,J,N,g3,g4,g5,g6,g7⟩:=aO;have aG:=cell_of_one J;have aX:=free_of_one J;have aY: ¬ S V.heap.size:=fun h=>by have:=P _ h;omega
  have aM:s.heap[V.heap.size]?=some (.cells #[.int .i64 p,.int .i64 q] 295 (0,0)):=(hT.block _ (by simp) aY).trans (heap_alloc_new V _);have aC:=cell_of_row s _ 0 _ _ _ aM;have aU:=cell_of_row s _ 1 _ _ _ aM;simp only [List.getElem?_toArray,List.getElem?_cons_zero,List.getElem?_cons_succ] at aC aU;rcases List.eq_nil_or_concat (W.joinL M) with aB|⟨i,⟨a,b⟩,f⟩
  ·obtain rfl:=g7 aB
   ·gi_wp2
    refine eO_ (by kernel_rfl) (by kernel_rfl) (by kernel_rfl) (fun _ _ h=>h) ?_
    repeat(go_big_quiet_step (fail))
    refine wpQuiet_nil ?_;rintro _ ⟨nq,rfl⟩;have G: ∀ k,S k ->k<s.heap.size:=fun k hk=>by have:=P k hk;have:=Q.turn.size;omega
    obtain⟨g,c,w1,F,Y,aD,hg⟩:=a7_ (enc:=aZ_) Tryz.underlying284 Tryz.infoWin rfl (by decide) bu_ (fun x u hu=>by simp [aZ_] at hu;rcases hu with rfl|rfl<;>rfl)
     (s.drewN nq) (w.heap.size+1) (.slice none 0 0) [] (p,q) (World.ownsRow_nil _ _ _ _) (by simp) (by decide) (by have:=(Array.getElem?_eq_some_iff.1 J).1;simp;omega)
    have j:=JInv.push (n:=0) (xs:=[]) J (World.ownsRow_nil _ _ _ _) g3 g4 g5 g6 G (by rw [W.joinL_snoc,aB];rfl:W.joinL (M++[(p,q)])=[]++[(p,q)]) Y aD (by simpa using hg);simp only [aZ_,List.length_nil,Nat.zero_add,World.heap_drewN] at F j;obtain⟨T,y,z⟩:=j;have aV:=cell_of_one T;have aW:=free_of_one T
    gi_wp2_with (gi_at_builtin;refine cZ_ rfl _ _ _ rfl rfl rfl F ?_)
    exact⟨y,z⟩
  ·rw [List.concat_eq_append] at f;have G: ∀ k,S k ->k<s.heap.size:=fun k hk=>by have:=P k hk;have:=Q.turn.size;omega
   have d:(W.joinL M).length =i.length+1:=by rw [f];simp
   have aQ:i.length+2<=1099511627776:=by have:=W.joinL_len M;have:=aL.length_le;simp at this;omega
   rw [d] at N;obtain⟨g0,aN,rfl⟩:=ownsRow_succ N;have e1:=N.cellAt (i.length*2) (by omega);have e2:=N.cellAt (i.length*2+1) (by omega);rw [f,a8_ bu_ (i++[(a,b)]) i.length (a,b) (by simp) 1 _ rfl] at e2;have e3:=a8_ bu_ (i++[(a,b)]) i.length (a,b) (by simp) 0 _ rfl;rw [Nat.add_zero] at e3;rw [f,e3] at e1;clear e3;have e4:=N.frozenAt (i.length*2+1);obtain⟨K,Z⟩:=e_ i.length;rw [Z] at J N aG e1 e2 e4 aQ;by_cases aI:p<=b
   ·gi_wp2
    refine eO_ (by kernel_rfl) (by kernel_rfl) (by kernel_rfl) (fun _ _ h=>h) ?_
    repeat(go_big_quiet_step (fail))
    refine wpQuiet_nil ?_;rintro _ ⟨nq,rfl⟩
    gi_wp2
    have U:=fun u hu nq=>JInv.put (x:=(p,q)) (u:=u) (nq:=nq) (i:=i) (by rw [Z];exact J) (by rw [Z];exact N) g3 (by rw [Z];exact g4) g5 g6 f hu;rw [Z] at U;have X:=H_ U;have aJ:Hd (W.joinL (M++[(p,q)])=i++[(a,max b q)]):=by show _=_;rw [W.joinL_snoc,f];exact W.joinStep_in _ _ _ aI
    clear U g4 g7 f d;have aP:(K:Int)<(K:Int)+1:=by omega
    refine kb_ 12 (by kernel_rfl) (by kernel_rfl) (by kernel_rfl) (fun _ _ h=>h) ?_;simp only [List.take_succ_cons,List.take_zero,List.drop_succ_cons,List.drop_zero]
    repeat still_step
    try refine wpStill_nil ?_
    go_wp2
    all_goals first
     |exact X.o b (by rw [aJ.o,show max b q=b by omega]) _
     |exact X.o q (by rw [aJ.o,show max b q=q by omega]) _
   ·have bB:b<p:=by omega
    clear aI;have aP:(K:Int)<(K:Int)+1:=by omega
    gi_wp2
    refine eO_ (by kernel_rfl) (by kernel_rfl) (by kernel_rfl) (fun _ _ h=>h) ?_
    repeat(go_big_quiet_step (fail))
    refine wpQuiet_nil ?_;rintro _ ⟨nq,rfl⟩
    obtain⟨g,c,w1,F,Y,aD,hg⟩:=a7_ (enc:=aZ_) Tryz.underlying284 Tryz.infoWin rfl (by decide) bu_ (fun x u hu=>by simp [aZ_] at hu;rcases hu with rfl|rfl<;>rfl)
     (s.drewN nq) (w.heap.size+1) (.slice (some ⟨g0,0,none⟩) (K+1) aN) (i++[(a,b)]) (p,q) (by rw [<-f,d,Z];exact N) (by simp [Z];omega) (by decide) (by have:=(Array.getElem?_eq_some_iff.1 J).1;simp;omega)
    have j:=JInv.push J N g3 (by rw [<-Z];exact g4) g5 g6 G (by rw [W.joinL_snoc,f];exact W.joinStep_out _ _ _ bB:W.joinL (M++[(p,q)])=(i++[(a,b)])++[(p,q)]) Y aD (by simpa using hg);have aH:(i++[(a,b)]).length =K+1:=by simp [Z]
    simp only [aZ_,aH,World.heap_drewN] at F j;obtain⟨T,y,z⟩:=j;have aV:=cell_of_one T;have aW:=free_of_one T;clear g4 g7 f d aH Z
    gi_wp2_with (gi_at_builtin;refine cZ_ rfl _ _ _ rfl rfl rfl F ?_)
    exact⟨y,z⟩
 case done=>
  rintro D S V aR hD ⟨v,J,N,g3,g4,g5,g6,g7⟩ aE;obtain⟨A,c,rfl,r1,r2,r3⟩:=Rd.of_own bu_ rfl N;have aG:=cell_of_one J;have aX:=free_of_one J;have aK:D≠w.heap.size:=fun e=>g3 (e ▸ aR);have bE:=(Array.getElem?_eq_some_iff.1 J).1;have bD:=(Array.getElem?_eq_some_iff.1 aE).1;clear g4 g5 g7
  gi_wp2
  obtain⟨U1,R⟩:=e_ (V.setCell ⟨w.heap.size,0,none⟩ (.slice A (List.length (W.joinL l)) c));rw [R];have aA:U1.heap[D]?=some (.deferred (some [])):=by rw [<-R];exact(Below.heap_setCell _ _ _ _ aK).trans aE
  have aS:U1.heap[w.heap.size]?=some (.cells #[.slice A (List.length (W.joinL l)) c] 284 (0,0)):=by rw [<-R];exact one_setCell J
  have aZ:U1.ownsRow (w.heap.size+1) 295 2 (.slice A (List.length (W.joinL l)) c) (List.length (W.joinL l)) ((W.joinL l).flatMap aZ_):=by rw [<-R];exact ownsRow_setCell_below N (by simp) _
  have aF:Below w.heap.size w U1:=by rw [<-R];exact g6.setCell (by simp) _
  obtain⟨U2,r⟩:=e_ (U1.putObj D (.deferred none));have aT:U2.heap[w.heap.size]?=some (.cells #[.slice A (List.length (W.joinL l)) c] 284 (0,0)):=by rw [<-r];exact(World.putObj_heap_other (Ne.symm aK)).trans aS
  have bA:U2.ownsRow (w.heap.size+1) 295 2 (.slice A (List.length (W.joinL l)) c) (List.length (W.joinL l)) ((W.joinL l).flatMap aZ_):=by
   rw [<-r];exact ownsRow_putObj aZ _ aA rfl
  have Q:Below w.heap.size w U2:=by
   rw [<-r];exact aF.grown (grownBy_putObj' U1 D _) aF.size (fun k e=>by cases e;simp at hD;omega)
  have aC:=cell_of_one aT;obtain⟨A',c',he,bC,_,_⟩:=Rd.of_own bu_ rfl bA;cases he;refine⟨by simp,.inl ⟨_,_,rfl,run_takeDeferred aA,?_⟩⟩;rw [r];exact⟨_,by simp [results,Tryz.results259,go_sem,aC],.mk A c rfl bC r2 r3 Q⟩
 case stop=>exact fun _ _ _ _ _ _ _ _ h _=>h.elim
theorem ot_ (f v n h:Int) (w:World):
 Calls Tryz.prog 248 #[.agg #[.int .i64 f,.int .i64 v,.int .i64 n],.int .i64 h] w fun e w'=>f4_ w (cv_ f v n h).1 (cv_ f v n h).2 e w':=by
 obtain⟨r,y⟩:=e_ (cv_ f v n h);rw [y];have y:=H_ y;rename_i Q;clear Q;go_enter Tryz.func248,Tryz.ntmps248;go_wp2_with fail;refine(lY_ f v n _).mono ?_;rintro e w1 ⟨rfl,g⟩;have j:Below w.heap.size w w1:=((Below.refl _ w).alloc (Nat.le_refl _) _).trans (g.mono (by simp));have aA:w.heap.size<w1.heap.size:=by have:=g.size;simp at this;omega
 by_cases D:W.chkT f v n=0
 ·have q:=H_ D;go_wp2_with fail;refine(aX_ h _).mono ?_;rintro e w2 ⟨rfl,rfl⟩;by_cases F:W.chk h=0
  ·have z:=H_ F;have c1:w1.cell? ⟨w.heap.size,0,none⟩=some (.int .i64 f):=(g.cell (p:=⟨w.heap.size,0,none⟩) (by simp)).trans (by simp [go_sem]);have c2:w1.cell? ⟨w.heap.size,1,none⟩=some (.int .i64 v):=(g.cell (p:=⟨w.heap.size,1,none⟩) (by simp)).trans (by simp [go_sem]);have c3:w1.cell? ⟨w.heap.size,2,none⟩=some (.int .i64 n):=(g.cell (p:=⟨w.heap.size,2,none⟩) (by simp)).trans (by simp [go_sem]);go_wp2_with fail;refine(l1_ f v h _).mono ?_;rintro e w2 ⟨rfl,rfl⟩;obtain⟨J,R,N⟩:=hN_ q.o;by_cases G:256<W.count f v h
   ·obtain rfl:r=([],3):=by have:=y.o;unfold cv_ at this;rw [if_neg (by simp [q.o]),if_neg (by simp [z.o]),if_pos G] at this;exact this.symm
    go_wp2
    go_ret2
    exact .mk none 0 rfl Rd.nil (Nat.le_refl _) (by omega) j
   ·obtain⟨m,L⟩: ∃ m:Nat,W.count f v h=m:=⟨(W.count f v h).toNat,by rw [Int.toNat_of_nonneg (fB_ _ _ _)]⟩
    obtain rfl:r=(W.joinL (cd_ f v n m),0):=by
     have:=y.o;unfold cv_ at this;rw [if_neg (by simp [q.o]),if_neg (by simp [z.o]),if_neg G,L] at this;exact this.symm
    rw [L] at G ⊢;have M:m<=256:=by omega
    clear L;go_wp2_with fail;refine(nx_ f v n m _).mono ?_;rintro e w2 ⟨rfl,rfl⟩;go_wp2_with fail;refine(kQ_ 263 _ (enters_of Tryz.func263 (by kernel_rfl) rfl) (cd_ f v n m) (by rw [eA_];omega) _ (mb_ f v n m (w1.heap.size+1) w1.heap.size _ _ M J R N (by simp) (by simp;omega) (by simp;omega) (by simp [go_sem]) (by simp [go_sem]) (by simp [go_sem]) (by simp [go_sem]))).mono ?_;rintro e w2 ⟨A,c,rfl,S,T,U,X⟩
    go_wp2
    go_ret2
    exact .mk A c rfl S T U (j.trans ((((Below.refl _ w1).alloc (Nat.le_refl _) _).alloc (by simp) _).mono (by omega)|>.trans (X.mono (by simp;omega))))
  ·obtain rfl:r=([],W.chk h):=by have:=y.o;unfold cv_ at this;rw [if_neg (by simp [q.o]),if_pos F] at this;exact this.symm
   have P:(W.chk h !=0)=true:=by simp [F]
   go_wp2
   go_ret2
   exact .mk none 0 rfl Rd.nil (Nat.le_refl _) (by omega) j
 ·obtain rfl:r=([],W.chkT f v n):=by have:=y.o;unfold cv_ at this;rw [if_pos D] at this;exact this.symm
  have P:(W.chkT f v n !=0)=true:=by simp [D]
  go_wp2
  go_ret2
  exact .mk none 0 rfl Rd.nil (Nat.le_refl _) (by omega) j
