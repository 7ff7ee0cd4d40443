/- Merged. -/
import Derived.Test.YtechdefolfboeaaGreatDoorPd2
import Derived.Test.YtechdefolfboeaaGreatDoorPd6
set_option linter.unusedVariables false
set_option linter.unusedSimpArgs false
set_option maxHeartbeats 1000000
namespace Go.Proofs.YtechdefolfboeaaGreatDoor
open Go.RowKit B
theorem c6_ (x:Int) (w:World):
 Calls Tryz.prog 215 #[.int .i64 x] w fun e w'=>e= .returned (.int .i64 (W.chk x))/\w=w':=by
 go_enter Tryz.func215,Tryz.ntmps215;by_cases h:0<=x/\x<=1099511627776
 ·obtain⟨f,g⟩:=h
  go_wp2
  go_returns;exact⟨ah_ (W.chk_ok ⟨f,g⟩).symm,rfl⟩
 ·go_wp2
  all_goals
   first
    |(exfalso;omega)
    |(go_returns;exact⟨ah_ (W.chk_no h).symm,rfl⟩)
theorem lo_ (f v u:Int) (w:World):
 Calls Tryz.prog 253 #[.int .i64 f,.int .i64 v,.int .i64 u] w fun e w'=>e= .returned (.int .i64 (W.count f v u))/\w=w':=by
 go_enter Tryz.func253,Tryz.ntmps253;by_cases q:W.chk f=0/\W.chk v=0/\W.chk u=0/\f<=u
 ·obtain⟨g,j,n,p⟩:=q;have:=W.chk_zero g;have:=W.chk_zero j;have:=W.chk_zero n;by_cases y:v=0
  ·subst y;go_wp2_with (go_at_call 215;refine(c6_ _ _).mono ?_;rintro e w' ⟨rfl,rfl⟩);go_returns;exact⟨ah_ (by unfold W.count;rw [if_pos ⟨g,j,n,p⟩,if_pos rfl]),rfl⟩
  ·have aA:0<=(u-f) / v:=Int.ediv_nonneg (by omega) (by omega);have aB:(u-f) / v<=1099511627776:=Int.le_trans (Int.ediv_le_self _ (by omega)) (by omega);go_wp2_with (go_at_call 215;refine(c6_ _ _).mono ?_;rintro e w' ⟨rfl,rfl⟩);go_returns;exact⟨ah_ (by unfold W.count;rw [if_pos ⟨g,j,n,p⟩,if_neg y]),rfl⟩
 ·have z:Hd (W.count f v u=0):=by show _=_;unfold W.count;rw [if_neg q]
  rcases W.chk_cases f with g|g<;>rcases W.chk_cases v with j|j<;>rcases W.chk_cases u with n|n
  all_goals
   go_wp2_with (go_at_call 215;refine(c6_ _ _).mono ?_;rintro e w' ⟨rfl,rfl⟩)
   all_goals
    go_returns;exact⟨ah_ (by rw [z.o]),rfl⟩
theorem jX_ (f v n:Int) (w:World):
 Calls Tryz.prog 252 #[.agg #[.int .i64 f,.int .i64 v,.int .i64 n]] w (rb_ (.int .i64 (W.chkT f v n)) w):=by
 go_enter Tryz.func252,Tryz.ntmps252;by_cases g:v=0
 ·subst g;rcases W.chk_cases f with h|h
  all_goals
   go_wp2_with (go_at_call 215;refine(c6_ _ _).mono ?_;rintro e j ⟨rfl,rfl⟩)
   all_goals
    go_returns;exact⟨ah_ (by unfold W.chkT;first|(rw [if_pos (by omega)])|(rw [if_neg (by omega)])),(Below.refl _ _).alloc (Nat.le_refl _) _⟩
 ·have aA:(v !=0)=true:=by simp [g]
  rcases W.chk_cases f with h|h
  all_goals
   go_wp2_with (go_at_call 215;refine(c6_ _ _).mono ?_;rintro e j ⟨rfl,rfl⟩)
   all_goals
    go_returns;exact⟨ah_ (by unfold W.chkT;first|(rw [if_pos (by omega)])|(rw [if_neg (by omega)])),(Below.refl _ _).alloc (Nat.le_refl _) _⟩
end Go.Proofs.YtechdefolfboeaaGreatDoor
namespace Go.Proofs.YtechdefolfboeaaGreatDoor
open Go.RowKit B Go.Shelf
set_option maxRecDepth 100000 in
theorem jZ_ (A:Option Addr) (n c:Nat) (l:W.Row) (w:World) (hr:Rd w 2 aZ_ A n l) (hn:n<=549755813888):
 Calls Tryz.prog 254 #[.slice A n c] w fun e w'=>f3_ w (W.joinL l) e w':=by
 go_enter Tryz.func254,Tryz.ntmps254
 go_wp2
 go_loopw [3,4] (fun v i wr=> ∃ (k:Nat),k<=n/\i= .int .i64 k/\wr.ownsRow w.heap.size 295 2 v (W.joinL (l.take k)).length ((W.joinL (l.take k)).flatMap aZ_)/\(W.joinL (l.take k)=[] ->v= .slice none 0 0)/\Below w.heap.size w wr) (fun _ i _=>n-(intOf i).toNat)
 ·exact⟨0,Nat.zero_le _,rfl,World.ownsRow_nil _ _ _ _,fun _=>rfl,Below.refl _ _⟩
 ·obtain⟨k,d,rfl,own,J,f⟩:=hrel;by_cases aD:k<n
  ·obtain⟨b,o,p,q,rfl,aH,hl,h1,h2⟩:=(hr.below f).pair aD;have R:=H_ (an_ hl);clear hl;rcases List.eq_nil_or_concat (W.joinL (l.take k)) with F|⟨i,⟨a,j⟩,F⟩
   ·obtain rfl:=J F;go_upto_region 6 with fail
    go_quiet (fail)
    obtain⟨g,c2,w1,z,D,Q,hg⟩:=a7_ (enc:=aZ_) Tryz.underlying284 Tryz.infoWin rfl (by decide) bu_ (fun x u Z=>by simp [aZ_] at Z;rcases Z with rfl|rfl<;>rfl)
     (wr.drewN nq) w.heap.size (.slice none 0 0) [] (p,q) (World.ownsRow_nil _ _ _ _) (by simp) (by decide) (by have:=f.size;simp;omega)
    have G:Below w.heap.size w w1:=(Below.alloc (w:=wr.drewN nq) ⟨f.os,f.tape,f.output,f.size,f.block⟩ f.size _).grown Q (by have:=f.size;simp;omega) (fun k d=>by cases d);have y:Hd (W.joinL (l.take (k+1))=[(p,q)]):=by show _=_;rw [R.o,W.joinL_snoc,F];rfl
    simp only [aZ_,List.length_nil,Nat.zero_add,World.heap_drewN] at z;go_wp2_with (at_builtin;refine ap_ (.tmp 47) (.tmp 52) 284 z ?_);go_roundw
    ·exact⟨k+1,by omega,by go_num,by rw [y.o];exact D,fun h=>by rw [y.o] at h;simp at h,G⟩
    ·simp [intOf];omega
   ·rw [List.concat_eq_append] at F;have N:(W.joinL (l.take k)).length =i.length+1:=by rw [F];simp
    have aB:i.length+1<=k:=by have:=W.joinL_len (l.take k);simp at this;omega
    rw [N] at own;obtain⟨T,S,rfl⟩:=ownsRow_succ own;clear J;have s:=own.cellAt (i.length*2) (by omega);have e2:=own.cellAt (i.length*2+1) (by omega);rw [F,a8_ bu_ (i++[(a,j)]) i.length (a,j) (by simp) 1 _ rfl] at e2;have e3:=a8_ bu_ (i++[(a,j)]) i.length (a,j) (by simp) 0 _ rfl;rw [Nat.add_zero] at e3;rw [F,e3] at s;clear e3;have e4:=own.frozenAt (i.length*2+1)
    dsimp only at s e2
    obtain⟨K,M⟩:=e_ i.length;rw [M] at own s e2 e4 aB;have aG:(K:Int)<(K:Int)+1:=by omega
    by_cases X:p<=j
    ·go_upto_region 6 with fail
     go_quiet (fail)
     go_upto_region 7 with fail;have aI:IntKind.i64.wrap (K:Int)=K:=IntWalk.i64_in _ (by omega);refine ov_ 15 (by kernel_rfl) (by kernel_rfl) ?_;simp only [List.take_succ_cons,List.take_zero,List.drop_succ_cons,List.drop_zero]
     repeat still_step
     try refine wpStill_nil ?_
     have L:(wr.drewN (nq+1)).ownsRow w.heap.size 295 2 (.slice (some ⟨T,0,none⟩) (K+1) S) (K+1) ((W.joinL (l.take k)).flatMap aZ_):=own;have r:=(L.stored (K*2+1) (.int .i64 (max j q))).1;have P:=iK_ (i:=i) (a:=a) (b:=j) (u:=max j q);rw [M] at P;rw [F,P] at r;have r:=H_ r;rename_i aE;clear aE P;have aC:Hd (Below w.heap.size w ((wr.drewN (nq+1)).setCell ⟨T,K*2+1,none⟩ (.int .i64 (max j q)))):=(below_drewN f (nq+1)).setCell (p:=⟨T,K*2+1,none⟩) (own.lt T rfl).1 _;have Y:(if j<q then q else j)=max j q:=by omega
     have y:Hd (W.joinL (l.take (k+1))=i++[(a,max j q)]):=by show _=_;rw [R.o,W.joinL_snoc,F];exact W.joinStep_in _ _ _ X
     have aA:=H_ M;clear own L M F N
     try rw [Y]
     clear Y
     go_wp2
     go_roundw
     ·exact⟨k+1,by omega,by go_num,by rw [y.o];simpa [aA.o] using r.o,fun h=>by rw [y.o] at h;simp at h,aC.o⟩
     ·simp [intOf];omega
    ·have aF:decide (p<=j)=false:=F_ X;go_upto_region 6 with fail
     go_quiet (fail)
     obtain⟨g,c2,w1,z,D,Q,hg⟩:=a7_ (enc:=aZ_) Tryz.underlying284 Tryz.infoWin rfl (by decide) bu_ (fun x u Z=>by simp [aZ_] at Z;rcases Z with rfl|rfl<;>rfl)
      (wr.drewN nq) w.heap.size (.slice (some ⟨T,0,none⟩) (K+1) S) (i++[(a,j)]) (p,q) (by rw [<-F,N,M];exact own) (by simp [M];omega) (by decide) (by have:=f.size;simp;omega)
     have G:Below w.heap.size w w1:=(Below.alloc (w:=wr.drewN nq) ⟨f.os,f.tape,f.output,f.size,f.block⟩ f.size _).grown Q (by have:=f.size;simp;omega) (fun k d=>(own.lt k d).1);have y:Hd (W.joinL (l.take (k+1))=i++[(a,j)]++[(p,q)]):=by show _=_;rw [R.o,W.joinL_snoc,F];exact W.joinStep_out _ _ _ (by simp only;omega)
     have U:(i++[(a,j)]).length =K+1:=by simp [M]
     simp only [aZ_,U,World.heap_drewN] at z;go_wp2_with (at_builtin;refine cH_ ?a1 (.tmp 47) (.tmp 52) 284 ?a2 ?a3 ?a4 z ?_)
     all_goals try rfl
     go_roundw
     ·exact⟨k+1,by omega,by go_num,by rw [y.o];rw [U] at D;exact D,fun h=>by rw [y.o] at h;simp at h,G⟩
     ·simp [intOf];omega
  ·obtain⟨A',c',rfl,r1,r2,r3⟩:=Rd.of_own bu_ rfl own;rw [List.take_of_length_le (by rw [hr.len];omega)] at r1 r2 ⊢
   go_wp2
   go_returns;exact .mk A' c' rfl r1 r2 r3 f
theorem pa_ {B:Nat} {w wr:World} {v:Value} {l:W.Row} (x:Int×Int) (hown:wr.ownsRow B 295 2 v l.length (l.flatMap aZ_)) (hlen:l.length+1<=1099511627776) (hb:Below B w wr) (hB:B<=wr.heap.size) (nq:Nat):
 ∃ g c w1,(Builtin.append_ #[284,284] 284 #[v,.slice (some ⟨wr.heap.size,0,none⟩) 1 1]).run Tryz.prog ((wr.drewN nq).alloc (.cells #[.int .i64 x.1,.int .i64 x.2] 295))= .ok (.slice (some ⟨g,0,none⟩) (l.length+1) c) w1/\
   w1.ownsRow B 295 2 (.slice (some ⟨g,0,none⟩) (l.length+1) c) (l.length+1) ((l++[x]).flatMap aZ_)/\Below B w w1/\wr.heap.size<w1.heap.size:=by
 obtain⟨g,c,w1,j,n,p,q,_⟩:=i7_ (enc:=aZ_) Tryz.underlying284 Tryz.infoWin rfl (by decide) bu_ (fun x u f=>by simp [aZ_] at f;rcases f with rfl|rfl<;>rfl) x hown hlen (by decide) hb hB nq;exact⟨g,c,w1,j,n,p,q⟩
set_option maxRecDepth 100000 in
theorem mY_ (f v n h:Int) (w:World):
 Calls Tryz.prog 244 #[.agg #[.int .i64 f,.int .i64 v,.int .i64 n],.int .i64 h] w fun e w'=>f4_ w (cv_ f v n h).1 (cv_ f v n h).2 e w':=by
 obtain⟨r,Z⟩:=e_ (cv_ f v n h);rw [Z];have y:=H_ Z;clear Z;go_enter Tryz.func244,Tryz.ntmps244;go_wp2_with fail;refine(jX_ f v n _).mono ?_;rintro e w1 ⟨rfl,j⟩;have D:Below w.heap.size w w1:=((Below.refl _ w).alloc (Nat.le_refl _) _).trans (j.mono (by simp));have z:w.heap.size<w1.heap.size:=by have:=j.size;simp at this;omega
 by_cases Q:W.chkT f v n=0
 ·have q:=H_ Q;go_wp2_with fail;refine(c6_ h _).mono ?_;rintro e w2 ⟨rfl,rfl⟩;by_cases R:W.chk h=0
  ·have F:=H_ R;have a:w1.cell? ⟨w.heap.size,0,none⟩=some (.int .i64 f):=(j.cell (p:=⟨w.heap.size,0,none⟩) (by simp)).trans (by simp [go_sem]);have N:w1.cell? ⟨w.heap.size,1,none⟩=some (.int .i64 v):=(j.cell (p:=⟨w.heap.size,1,none⟩) (by simp)).trans (by simp [go_sem]);have P:w1.cell? ⟨w.heap.size,2,none⟩=some (.int .i64 n):=(j.cell (p:=⟨w.heap.size,2,none⟩) (by simp)).trans (by simp [go_sem]);go_wp2_with fail;refine(lo_ f v h _).mono ?_;rintro e w2 ⟨rfl,rfl⟩;obtain⟨aA,G,aD⟩:=hN_ q.o;by_cases S:256<W.count f v h
   ·obtain rfl:r=([],3):=by have:=y.o;unfold cv_ at this;rw [if_neg (by simp [q.o]),if_neg (by simp [F.o]),if_pos S] at this;exact this.symm
    go_wp2
    go_ret2
    exact .mk none 0 rfl Rd.nil (Nat.le_refl _) (by omega) D
   ·obtain⟨m,X⟩: ∃ m:Nat,W.count f v h=m:=⟨(W.count f v h).toNat,by rw [Int.toNat_of_nonneg (fB_ _ _ _)]⟩
    obtain rfl:r=(W.joinL (cd_ f v n m),0):=by
     have:=y.o;unfold cv_ at this;rw [if_neg (by simp [q.o]),if_neg (by simp [F.o]),if_neg S,X] at this;exact this.symm
    rw [X] at S ⊢;have aC:m<=256:=by omega
    clear X Q R
    go_wp2
    go_loopw [8,9] (fun x i wr=> ∃ k:Nat,k<=m/\i= .int .i64 k/\wr.ownsRow w1.heap.size 295 2 x (cd_ f v n k).length ((cd_ f v n k).flatMap aZ_)/\Below w1.heap.size w1 wr) (fun _ i _=>m-(intOf i).toNat)
    ·exact⟨0,Nat.zero_le _,rfl,World.ownsRow_nil _ _ _ _,Below.refl _ _⟩
    ·obtain⟨k,hk,rfl,own,J⟩:=hrel;have d1:wr.cell? ⟨w.heap.size,0,none⟩=some (.int .i64 f):=(J.cell (p:=⟨w.heap.size,0,none⟩) z).trans a;have d2:wr.cell? ⟨w.heap.size,1,none⟩=some (.int .i64 v):=(J.cell (p:=⟨w.heap.size,1,none⟩) z).trans N;have d3:wr.cell? ⟨w.heap.size,2,none⟩=some (.int .i64 n):=(J.cell (p:=⟨w.heap.size,2,none⟩) z).trans P;clear a N P;have s:=J.size;by_cases aB:k<m
     ·have q0:0<=(k:Int)*v:=Int.mul_nonneg (by omega) G.1;have q1:(k:Int)*v<=256*1099511627776:=Int.mul_le_mul (by omega) G.2 G.1 (by omega);obtain⟨g,cc,w2,L,M,T,aE⟩:=pa_ (f+k*v,f+k*v+n) own (by rw [eA_];omega) J s 0;go_wp2_with (at_builtin;refine cH_ ?b1 (.tmp 40) (.tmp 47) 284 ?b2 ?b3 ?b4 L ?_)
      all_goals try rfl
      go_roundw
      ·exact⟨k+1,by omega,by go_num,by rw [kH_];simpa using M,T⟩
      ·simp [intOf];omega
     ·obtain rfl:k=m:=by omega
      obtain⟨c,N,rfl,r1,r2,r3⟩:=Rd.of_own bu_ rfl own;have b:=eA_ f v n k;have U:=H_ b;clear b;clear own y q F;go_wp2_with fail;refine(jZ_ c (cd_ f v n k).length N (cd_ f v n k) _ r1 (by rw [U.o];omega)).mono ?_;rintro e w3 ⟨d,P,rfl,s1,s2,s3,s4⟩
      go_wp2
      go_ret2
      exact .mk d P rfl s1 s2 s3 (D.trans ((J.mono (by omega)).trans (s4.mono (by omega))))
  ·obtain rfl:r=([],W.chk h):=by have:=y.o;unfold cv_ at this;rw [if_neg (by simp [q.o]),if_pos R] at this;exact this.symm
   have Y:(W.chk h !=0)=true:=by simp [R]
   go_wp2
   go_ret2
   exact .mk none 0 rfl Rd.nil (Nat.le_refl _) (by omega) D
 ·obtain rfl:r=([],W.chkT f v n):=by have:=y.o;unfold cv_ at this;rw [if_pos Q] at this;exact this.symm
  have Y:(W.chkT f v n !=0)=true:=by simp [Q]
  go_wp2
  go_ret2
  exact .mk none 0 rfl Rd.nil (Nat.le_refl _) (by omega) D
