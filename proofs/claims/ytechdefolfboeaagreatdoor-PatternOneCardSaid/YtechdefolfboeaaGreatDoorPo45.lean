/- Merged. -/
import Derived.Test.YtechdefolfboeaaGreatDoorPo2
import Derived.Test.YtechdefolfboeaaGreatDoorPo6
set_option linter.unusedVariables false
set_option linter.unusedSimpArgs false
set_option maxHeartbeats 1000000
namespace Go.Proofs.YtechdefolfboeaaGreatDoor
open Go.RowKit B
theorem rchkW_any (x:Int) (w:World):
 Calls Tryz.prog 215 #[.int .i64 x] w fun e w'=>e= .returned (.int .i64 (W.chk x))∧w=w':=by
 go_enter Tryz.func215,Tryz.ntmps215;by_cases h:0≤x∧x≤1099511627776
 ·obtain⟨h1,h2⟩:=h
  go_wp2
  go_returns;exact⟨ret_int (W.chk_ok ⟨h1,h2⟩).symm,rfl⟩
 ·go_wp2
  all_goals
   first
    |(exfalso;omega)
    |(go_returns;exact⟨ret_int (W.chk_no h).symm,rfl⟩)
theorem rcount_any (f v u:Int) (w:World):
 Calls Tryz.prog 253 #[.int .i64 f,.int .i64 v,.int .i64 u] w fun e w'=>e= .returned (.int .i64 (W.count f v u))∧w=w':=by
 go_enter Tryz.func253,Tryz.ntmps253;by_cases hh:W.chk f=0∧W.chk v=0∧W.chk u=0∧f≤u
 ·obtain⟨h1,h2,h3,h4⟩:=hh;have:=W.chk_zero h1;have:=W.chk_zero h2;have:=W.chk_zero h3;by_cases hv:v=0
  ·subst hv;go_wp2_with (go_at_call 215;refine(rchkW_any _ _).mono ?_;rintro e w' ⟨rfl,rfl⟩);go_returns;exact⟨ret_int (by unfold W.count;rw [if_pos ⟨h1,h2,h3,h4⟩,if_pos rfl]),rfl⟩
  ·have hq0:0≤(u-f) / v:=Int.ediv_nonneg (by omega) (by omega);have hq1:(u-f) / v≤1099511627776:=Int.le_trans (Int.ediv_le_self _ (by omega)) (by omega);go_wp2_with (go_at_call 215;refine(rchkW_any _ _).mono ?_;rintro e w' ⟨rfl,rfl⟩);go_returns;exact⟨ret_int (by unfold W.count;rw [if_pos ⟨h1,h2,h3,h4⟩,if_neg hv]),rfl⟩
 ·have h0:Hid (W.count f v u=0):=by show _=_;unfold W.count;rw [if_neg hh]
  rcases W.chk_cases f with h1|h1<;>rcases W.chk_cases v with h2|h2<;>rcases W.chk_cases u with h3|h3
  all_goals
   go_wp2_with (go_at_call 215;refine(rchkW_any _ _).mono ?_;rintro e w' ⟨rfl,rfl⟩)
   all_goals
    go_returns;exact⟨ret_int (by rw [h0.out]),rfl⟩
theorem rcheckT_any (f v n:Int) (w:World):
 Calls Tryz.prog 252 #[.agg #[.int .i64 f,.int .i64 v,.int .i64 n]] w fun e w'=>e= .returned (.int .i64 (W.chkT f v n))∧Below w.heap.size w w':=by
 go_enter Tryz.func252,Tryz.ntmps252;by_cases hv:v=0
 ·subst hv;rcases W.chk_cases f with h|h
  all_goals
   go_wp2_with (go_at_call 215;refine(rchkW_any _ _).mono ?_;rintro e w' ⟨rfl,rfl⟩)
   all_goals
    go_returns;exact⟨ret_int (by unfold W.chkT;first|(rw [if_pos (by omega)])|(rw [if_neg (by omega)])),(Below.refl _ _).alloc (Nat.le_refl _) _⟩
 ·have hv2:(v !=0)=true:=by simp [hv]
  rcases W.chk_cases f with h|h
  all_goals
   go_wp2_with (go_at_call 215;refine(rchkW_any _ _).mono ?_;rintro e w' ⟨rfl,rfl⟩)
   all_goals
    go_returns;exact⟨ret_int (by unfold W.chkT;first|(rw [if_pos (by omega)])|(rw [if_neg (by omega)])),(Below.refl _ _).alloc (Nat.le_refl _) _⟩
open Go.Shelf
set_option maxRecDepth 100000 in
theorem rjoined_any (A:Option Addr) (n c:Nat) (l:W.Row) (w:World) (hr:Rd w 2 pairE A n l) (hn:n≤549755813888):
 Calls Tryz.prog 254 #[.slice A n c] w fun e w'=>RetRow1 w (W.joinL l) e w':=by
 go_enter Tryz.func254,Tryz.ntmps254
 go_wp2
 go_loopw [3,4] (fun v i wr=> ∃ (k:Nat),k≤n∧i= .int .i64 k∧wr.ownsRow w.heap.size 295 2 v (W.joinL (l.take k)).length ((W.joinL (l.take k)).flatMap pairE)∧(W.joinL (l.take k)=[]→v= .slice none 0 0)∧Below w.heap.size w wr) (fun _ i _=>n-(intOf i).toNat)
 case atStart=>exact⟨0,Nat.zero_le _,rfl,World.ownsRow_nil _ _ _ _,fun _=>rfl,Below.refl _ _⟩
 case round=>
  obtain⟨k,hk,rfl,own,hnil,hb⟩:=hrel;by_cases hlt:k<n
  ·obtain⟨b,o,p,q,rfl,hbs,hl,h1,h2⟩:=(hr.below hb).pair hlt;have htk:=H_ (take_at hl);clear hl;rcases List.eq_nil_or_concat (W.joinL (l.take k)) with hj|⟨i,⟨a,bb⟩,hj⟩
   ·obtain rfl:=hnil hj;go_upto_region 6 with fail
    go_quiet (fail)
    obtain⟨g,c2,w1,hrun,own1,hgr,hg⟩:=append_one (enc:=pairE) Tryz.underlying284 Tryz.infoWin rfl (by decide) pairE_len (fun x u hu=>by simp [pairE] at hu;rcases hu with rfl|rfl<;>rfl)
     (wr.drewN nq) w.heap.size (.slice none 0 0) [] (p,q) (World.ownsRow_nil _ _ _ _) (by simp) (by decide) (by have:=hb.size;simp;omega)
    have hbw1:Below w.heap.size w w1:=(Below.alloc (w:=wr.drewN nq) ⟨hb.os,hb.tape,hb.output,hb.size,hb.block⟩ hb.size _).grown hgr (by have:=hb.size;simp;omega) (fun k hk=>by cases hk);have hjn:Hid (W.joinL (l.take (k+1))=[(p,q)]):=by show _=_;rw [htk.out,W.joinL_snoc,hj];rfl
    simp only [pairE,List.length_nil,Nat.zero_add,World.heap_drewN] at hrun;go_wp2_with (at_builtin;refine wpList_append_run ?z1 (.tmp 47) (.tmp 52) 284 ?z2 ?z3 ?z4 hrun ?_)
    case z1=>rfl
    case z2=>rfl
    try(case z3=>rfl)
    try(case z4=>rfl)
    go_roundw
    case rel=>exact⟨k+1,by omega,by go_num,by rw [hjn.out];exact own1,fun h=>by rw [hjn.out] at h;simp at h,hbw1⟩
    case measure=>simp [intOf];omega
   ·rw [List.concat_eq_append] at hj;have hKl:(W.joinL (l.take k)).length =i.length+1:=by rw [hj];simp
    have hKb:i.length+1≤k:=by have:=W.joinL_len (l.take k);simp at this;omega
    rw [hKl] at own;obtain⟨g0,cap,rfl⟩:=ownsRow_succ own;clear hnil;have e1:=own.cellAt (i.length*2) (by omega);have e2:=own.cellAt (i.length*2+1) (by omega);rw [hj,flatMap_at pairE_len (i++[(a,bb)]) i.length (a,bb) (by simp) 1 _ rfl] at e2;have e3:=flatMap_at pairE_len (i++[(a,bb)]) i.length (a,bb) (by simp) 0 _ rfl;rw [Nat.add_zero] at e3;rw [hj,e3] at e1;clear e3;have e4:=own.frozenAt (i.length*2+1)
    dsimp only at e1 e2
    obtain⟨K,hK⟩: ∃ K,i.length=K:=⟨_,rfl⟩
    rw [hK] at own e1 e2 e4 hKb;have hKK:(K:Int)<(K:Int)+1:=by omega
    by_cases hin:p≤bb
    ·go_upto_region 6 with fail
     go_quiet (fail)
     go_upto_region 7 with fail;have hwK:IntKind.i64.wrap (K:Int)=K:=IntWalk.i64_in _ (by omega);refine wp_tailN 15 (by kernel_rfl) (by kernel_rfl) ?_;simp only [List.take_succ_cons,List.take_zero,List.drop_succ_cons,List.drop_zero]
     repeat still_step
     try refine wpStill_nil ?_
     have own':(wr.drewN (nq+1)).ownsRow w.heap.size 295 2 (.slice (some ⟨g0,0,none⟩) (K+1) cap) (K+1) ((W.joinL (l.take k)).flatMap pairE):=own;have hs:=(own'.stored (K*2+1) (.int .i64 (max bb q))).1;have hfs:=flat_set (i:=i) (a:=a) (b:=bb) (u:=max bb q);rw [hK] at hfs;rw [hj,hfs] at hs;have hs:=H_ hs;rename_i hs0;clear hs0 hfs;have hbw:Hid (Below w.heap.size w ((wr.drewN (nq+1)).setCell ⟨g0,K*2+1,none⟩ (.int .i64 (max bb q)))):=(below_drewN hb (nq+1)).setCell (p:=⟨g0,K*2+1,none⟩) (own.lt g0 rfl).1 _;have hmx:(if bb<q then q else bb)=max bb q:=by omega
     have hjn:Hid (W.joinL (l.take (k+1))=i++[(a,max bb q)]):=by show _=_;rw [htk.out,W.joinL_snoc,hj];exact W.joinStep_in _ _ _ hin
     have hK2:=H_ hK;clear own own' hK hj hKl
     try rw [hmx]
     clear hmx
     go_wp2
     go_roundw
     case rel=>exact⟨k+1,by omega,by go_num,by rw [hjn.out];simpa [hK2.out] using hs.out,fun h=>by rw [hjn.out] at h;simp at h,hbw.out⟩
     case measure=>simp [intOf];omega
    ·have hin':decide (p≤bb)=false:=F_ hin;go_upto_region 6 with fail
     go_quiet (fail)
     obtain⟨g,c2,w1,hrun,own1,hgr,hg⟩:=append_one (enc:=pairE) Tryz.underlying284 Tryz.infoWin rfl (by decide) pairE_len (fun x u hu=>by simp [pairE] at hu;rcases hu with rfl|rfl<;>rfl)
      (wr.drewN nq) w.heap.size (.slice (some ⟨g0,0,none⟩) (K+1) cap) (i++[(a,bb)]) (p,q) (by rw [←hj,hKl,hK];exact own) (by simp [hK];omega) (by decide) (by have:=hb.size;simp;omega)
     have hbw1:Below w.heap.size w w1:=(Below.alloc (w:=wr.drewN nq) ⟨hb.os,hb.tape,hb.output,hb.size,hb.block⟩ hb.size _).grown hgr (by have:=hb.size;simp;omega) (fun k hk=>(own.lt k hk).1);have hjn:Hid (W.joinL (l.take (k+1))=i++[(a,bb)]++[(p,q)]):=by show _=_;rw [htk.out,W.joinL_snoc,hj];exact W.joinStep_out _ _ _ (by simp only;omega)
     have hil:(i++[(a,bb)]).length =K+1:=by simp [hK]
     simp only [pairE,hil,World.heap_drewN] at hrun;go_wp2_with (at_builtin;refine wpList_append_run ?a1 (.tmp 47) (.tmp 52) 284 ?a2 ?a3 ?a4 hrun ?_)
     case a1=>rfl
     case a2=>rfl
     go_roundw
     case rel=>exact⟨k+1,by omega,by go_num,by rw [hjn.out];rw [hil] at own1;exact own1,fun h=>by rw [hjn.out] at h;simp at h,hbw1⟩
     case measure=>simp [intOf];omega
  ·obtain⟨A',c',rfl,r1,r2,r3⟩:=Rd.of_own pairE_len rfl own;rw [List.take_of_length_le (by rw [hr.len];omega)] at r1 r2 ⊢
   go_wp2
   go_returns;exact .mk A' c' rfl r1 r2 r3 hb
theorem winPush {B:Nat} {w wr:World} {v:Value} {l:W.Row} (x:Int×Int) (hown:wr.ownsRow B 295 2 v l.length (l.flatMap pairE)) (hlen:l.length+1≤1099511627776) (hb:Below B w wr) (hB:B≤wr.heap.size) (nq:Nat):
 ∃ g c w1,(Builtin.append_ #[284,284] 284 #[v,.slice (some ⟨wr.heap.size,0,none⟩) 1 1]).run Tryz.prog ((wr.drewN nq).alloc (.cells #[.int .i64 x.1,.int .i64 x.2] 295))= .ok (.slice (some ⟨g,0,none⟩) (l.length+1) c) w1∧
   w1.ownsRow B 295 2 (.slice (some ⟨g,0,none⟩) (l.length+1) c) (l.length+1) ((l++[x]).flatMap pairE)∧Below B w w1∧wr.heap.size<w1.heap.size:=by
 obtain⟨g,c,w1,h1,h2,h3,h4,_⟩:=own_push (enc:=pairE) Tryz.underlying284 Tryz.infoWin rfl (by decide) pairE_len (fun x u hu=>by simp [pairE] at hu;rcases hu with rfl|rfl<;>rfl) x hown hlen (by decide) hb hB nq;exact⟨g,c,w1,h1,h2,h3,h4⟩
set_option maxRecDepth 100000 in
theorem rwins_any (f v n h:Int) (w:World):
 Calls Tryz.prog 244 #[.agg #[.int .i64 f,.int .i64 v,.int .i64 n],.int .i64 h] w fun e w'=>RetRow2 w (winsM f v n h).1 (winsM f v n h).2 e w':=by
 obtain⟨r,hr⟩: ∃ r,winsM f v n h=r:=⟨_,rfl⟩
 rw [hr];have hr':=H_ hr;clear hr;go_enter Tryz.func244,Tryz.ntmps244;go_wp2_with fail;refine(rcheckT_any f v n _).mono ?_;rintro e w1 ⟨rfl,hb1⟩;have hbw:Below w.heap.size w w1:=((Below.refl _ w).alloc (Nat.le_refl _) _).trans (hb1.mono (by simp));have hsz1:w.heap.size<w1.heap.size:=by have:=hb1.size;simp at this;omega
 by_cases h1:W.chkT f v n=0
 ·have hh1:=H_ h1;go_wp2_with fail;refine(rchkW_any h _).mono ?_;rintro e w2 ⟨rfl,rfl⟩;by_cases h2:W.chk h=0
  ·have hh2:=H_ h2;have c1:w1.cell? ⟨w.heap.size,0,none⟩=some (.int .i64 f):=(hb1.cell (p:=⟨w.heap.size,0,none⟩) (by simp)).trans (by simp [go_sem]);have c2:w1.cell? ⟨w.heap.size,1,none⟩=some (.int .i64 v):=(hb1.cell (p:=⟨w.heap.size,1,none⟩) (by simp)).trans (by simp [go_sem]);have c3:w1.cell? ⟨w.heap.size,2,none⟩=some (.int .i64 n):=(hb1.cell (p:=⟨w.heap.size,2,none⟩) (by simp)).trans (by simp [go_sem]);go_wp2_with fail;refine(rcount_any f v h _).mono ?_;rintro e w2 ⟨rfl,rfl⟩;obtain⟨hf0,hv0,hn0⟩:=chkT_zero hh1.out;by_cases h3:256<W.count f v h
   ·obtain rfl:r=([],3):=by have:=hr'.out;unfold winsM at this;rw [if_neg (by simp [hh1.out]),if_neg (by simp [hh2.out]),if_pos h3] at this;exact this.symm
    go_wp2_with fail
    go_ret2
    exact .mk none 0 rfl Rd.nil (Nat.le_refl _) (by omega) hbw
   ·obtain⟨m,hm⟩: ∃ m:Nat,W.count f v h=m:=⟨(W.count f v h).toNat,by rw [Int.toNat_of_nonneg (count_nonneg _ _ _)]⟩
    obtain rfl:r=(W.joinL (eachL f v n m),0):=by
     have:=hr'.out;unfold winsM at this;rw [if_neg (by simp [hh1.out]),if_neg (by simp [hh2.out]),if_neg h3,hm] at this;exact this.symm
    rw [hm] at h3 ⊢;have hm3:m≤256:=by omega
    clear hm h1 h2;go_wp2_with fail;go_loopw [8,9] (fun x i wr=> ∃ k:Nat,k≤m∧i= .int .i64 k∧wr.ownsRow w1.heap.size 295 2 x (eachL f v n k).length ((eachL f v n k).flatMap pairE)∧Below w1.heap.size w1 wr) (fun _ i _=>m-(intOf i).toNat)
    case atStart=>exact⟨0,Nat.zero_le _,rfl,World.ownsRow_nil _ _ _ _,Below.refl _ _⟩
    case round=>
     obtain⟨k,hk,rfl,own,hb⟩:=hrel;have d1:wr.cell? ⟨w.heap.size,0,none⟩=some (.int .i64 f):=(hb.cell (p:=⟨w.heap.size,0,none⟩) hsz1).trans c1;have d2:wr.cell? ⟨w.heap.size,1,none⟩=some (.int .i64 v):=(hb.cell (p:=⟨w.heap.size,1,none⟩) hsz1).trans c2;have d3:wr.cell? ⟨w.heap.size,2,none⟩=some (.int .i64 n):=(hb.cell (p:=⟨w.heap.size,2,none⟩) hsz1).trans c3;clear c1 c2 c3;have hB:=hb.size;by_cases hlt:k<m
     ·have q0:0≤(k:Int)*v:=Int.mul_nonneg (by omega) hv0.1;have q1:(k:Int)*v≤256*1099511627776:=Int.mul_le_mul (by omega) hv0.2 hv0.1 (by omega);obtain⟨g,cc,w2,hrun,own1,hb2,hs2⟩:=winPush (f+k*v,f+k*v+n) own (by rw [eachL_len];omega) hb hB 0;go_wp2_with (at_builtin;refine wpList_append_run ?b1 (.tmp 40) (.tmp 47) 284 ?b2 ?b3 ?b4 hrun ?_)
      case b1=>rfl
      case b2=>rfl
      go_roundw
      case rel=>exact⟨k+1,by omega,by go_num,by rw [eachL_snoc];simpa using own1,hb2⟩
      case measure=>simp [intOf];omega
     ·obtain rfl:k=m:=by omega
      obtain⟨A2,c2,rfl,r1,r2,r3⟩:=Rd.of_own pairE_len rfl own;have hl:=eachL_len f v n k;have hl':=H_ hl;clear hl;clear own hr' hh1 hh2;go_wp2_with fail;refine(rjoined_any A2 (eachL f v n k).length c2 (eachL f v n k) _ r1 (by rw [hl'.out];omega)).mono ?_;rintro e w3 ⟨A3,c3,rfl,s1,s2,s3,s4⟩;go_wp2_with fail
      go_ret2
      exact .mk A3 c3 rfl s1 s2 s3 (hbw.trans ((hb.mono (by omega)).trans (s4.mono (by omega))))
  ·obtain rfl:r=([],W.chk h):=by have:=hr'.out;unfold winsM at this;rw [if_neg (by simp [hh1.out]),if_pos h2] at this;exact this.symm
   have hne:(W.chk h !=0)=true:=by simp [h2]
   go_wp2_with fail
   go_ret2
   exact .mk none 0 rfl Rd.nil (Nat.le_refl _) (by omega) hbw
 ·obtain rfl:r=([],W.chkT f v n):=by have:=hr'.out;unfold winsM at this;rw [if_pos h1] at this;exact this.symm
  have hne:(W.chkT f v n !=0)=true:=by simp [h1]
  go_wp2_with fail
  go_ret2
  exact .mk none 0 rfl Rd.nil (Nat.le_refl _) (by omega) hbw
