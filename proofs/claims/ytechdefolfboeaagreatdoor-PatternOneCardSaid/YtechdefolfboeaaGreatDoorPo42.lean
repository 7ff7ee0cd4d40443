/- Merged. -/
import Derived.Test.YtechdefolfboeaaGreatDoorPo9
import Derived.Test.YtechdefolfboeaaGreatDoorPo13
set_option linter.unusedVariables false
set_option linter.unusedSimpArgs false
set_option maxHeartbeats 4000000
namespace Go.Proofs.YtechdefolfboeaaGreatDoor
open Go.RowKit B
set_option maxRecDepth 100000 in
theorem names_any (X:SheetP) (V:SV) (we:World) (hr:RS we X V) (hf:FewS X):
 Calls Tryz.prog 212 #[sVal X V] we fun e w'=> ∃ A n c,e= .returned (.slice A n c)∧Rd w' 1 (strE) A n (namesL X)∧n≤c∧c≤9223372036854775807∧Below we.heap.size we w':=by
 obtain⟨a0,aP,aD,aR,aT,aH,n0,nP,nD,nR,nT,nH,c0,cP,cD,cR,cT,cH⟩:=V;have LP:Hid (X.paths.length=nP):=hr.rP.len;have LD:Hid (X.doors.length=nD):=hr.rD.len;have LR:Hid (X.routes.length=nR):=hr.rR.len;have LT:Hid (X.trips.length=nT):=hr.rT.len;have LH:Hid (X.hazs.length=nH):=hr.rH.len;have l0:X.stops.length=n0:=hr.r0.len;have L0:=H_ l0;have hNb:=H_ (namesL_le hf);have mP:nP≤100000:=by have:=hf.sP;have:=LP.out;omega
 have mD:nD≤100000:=by have:=hf.sD;have:=LD.out;omega
 have mR:nR≤100000:=by have:=hf.sR;have:=LR.out;omega
 have mT:nT≤100000:=by have:=hf.sT;have:=LT.out;omega
 have mH:nH≤100000:=by have:=hf.sH;have:=LH.out;omega
 have m0:n0≤100000:=by have:=hf.s0;omega
 obtain⟨hz,hhz⟩: ∃ q,X.hz=q:=⟨_,rfl⟩
 have Hhz:=H_ hhz;simp only [sVal];rw [hhz];have hb1:=below_alloc we #[.int .i64 hz,.slice a0 n0 c0,.slice aP nP cP,.slice aD nD cD,.slice aR nR cR,.slice aT nT cT,.slice aH nH cH] 136;have B1:=Bx.new we 136 [.int .i64 hz,.slice a0 n0 c0,.slice aP nP cP,.slice aD nD cD,.slice aR nR cR,.slice aT nT cT,.slice aH nH cH];obtain⟨w1,hw1⟩: ∃ q,we.alloc (.cells #[.int .i64 hz,.slice a0 n0 c0,.slice aP nP cP,.slice aD nD cD,.slice aR nR cR,.slice aT nT cT,.slice aH nH cH] 136)=q:=⟨_,rfl⟩
 rw [hw1] at hb1;change Bx (we.alloc (.cells #[.int .i64 hz,.slice a0 n0 c0,.slice aP nP cP,.slice aD nD cD,.slice aR nR cR,.slice aT nT cT,.slice aH nH cH] 136)) _ _ _ at B1;rw [hw1] at B1;obtain⟨bn,hbn⟩: ∃ q,we.heap.size=q:=⟨_,rfl⟩
 rw [hbn] at B1;have hup:Hid (∀ U,Below w1.heap.size w1 U→Below we.heap.size we U):=fun U hU=>u_ hb1 hU;have hR:=hr.below hb1;have hr0:Hid (Rd w1 1 strE a0 n0 X.stops):=hR.r0;have hrP:Hid (Rd w1 4 spathE aP nP X.paths):=hR.rP;have hrD:Hid (Rd w1 7 sdoorE aD nD X.doors):=hR.rD;have hrR:Hid (RSRoutes w1 aR nR X.routes):=hR.rR;have hrT:Hid (Rd w1 5 stripE aT nT X.trips):=hR.rT;have hrH:Hid (Rd w1 5 shazE aH nH X.hazs):=hR.rH;have zbn:=B1.lt;have p0:=B1.cell 0 rfl;have p1:=B1.cell 1 rfl;have B1:=H_ B1;rename_i b1X;clear b1X hr hf hb1 hhz hR l0;go_enter Tryz.func212,Tryz.ntmps212;obtain⟨v0,w2,hrun,own,hb⟩:=own_copy (base:=w1.heap.size) (g:=w1.heap.size) Tryz.underlying22 info_tStr rfl (by decide) strE_len c0 (own_lit0 w1 w1.heap.size 9 1 (Nat.le_refl _)) (hr0.out.below (below_alloc w1 #[] 9)) (by omega) (by decide) (Nat.le_of_lt (by simp))
 have hb:Hid (Below w1.heap.size w1 w2):=(below_alloc w1 #[] 9).trans (hb.mono (by simp));have hl:Hid (X.stops++((X.paths.drop 0).flatMap pN++(X.doors.flatMap dN++(X.routes.flatMap rN++(X.trips.flatMap tN++(X.hazs.flatMap hN++([]))))))=namesL X):=rfl;rw [←L0.out] at own;have own:=H_ own;rename_i o1X o2X;clear o1X o2X;go_wp2_with (at_builtin;refine wpList_append_run ?s1 (.tmp 9) (.tmp 11) 22 ?s2 ?s3 ?s4 hrun ?_)
 all_goals try rfl
 clear hrun p0 p1 hw1 hbn;go_wp2_with fail;go_loopw [4,3] (fun iv v wr=> ∃ (i:Nat) (vv:Value) (l:List Str),i≤nP∧iv= .int .i64 i∧vv=v∧Hid (wr.ownsRow w1.heap.size 9 1 v l.length (l.flatMap (strE)))∧Hid (l++((X.paths.drop i).flatMap pN++(X.doors.flatMap dN++(X.routes.flatMap rN++(X.trips.flatMap tN++(X.hazs.flatMap hN++([]))))))=namesL X)∧Hid (Below w1.heap.size w1 wr)) (fun iv _ _=>nP-(intOf iv).toNat)
 case atStart=>exact⟨0,_,_,Nat.zero_le _,rfl,rfl,own,hl,hb⟩
 case round=>
  clear own hl hb;obtain⟨i,vv,l,hi,rfl,hvv,own,hl,hb⟩:=hrel;subst hvv;have y0:=(B1.out.below hb.out).cell 2 rfl;have z0:=B1.out.cell 2 rfl;have hbase:=hb.out.size;by_cases hin:i<nP
  ·have hinI:(i:Int)<(nP:Int):=by omega
   obtain⟨b,o,⟨q0,q1,q2,q3⟩,rfl,hbs,hx,hc⟩:=hrP.out.get hin;have f0:=hc 0 _ rfl;have f1:=hc 1 _ rfl;have f2:=hc 2 _ rfl;simp only [Nat.add_zero] at f0 f1 f2;have hl2:(l++[q0,q1,q2])++((X.paths.drop (i+1)).flatMap pN++(X.doors.flatMap dN++(X.routes.flatMap rN++(X.trips.flatMap tN++(X.hazs.flatMap hN++([]))))))=namesL X:=by rw [←hl.out,drop_at hx];simp [pN]
   have hlen1:Hid (l.length+([q0,q1,q2]).length ≤1099511627776):=by
    have h:=congrArg List.length hl2;rw [List.length_append,List.length_append] at h;have:=hNb.out;show _≤_;omega
   have hl2:=H_ hl2;rename_i hl2X;clear hl2X hx hc hl;generalize hvv:vv=vv at own;go_wp2_with fail;go_upto_region 5 with fail;refine wp_region_late [0,0,0,0,0,0,0,0,0,0,0,0,0,0,0,0,0,0,0,2,2,2] (by kernel_rfl) (by kernel_rfl) ?_;intro C hC;simp only [pickK,Nat.reduceEqDiff, ↓reduceIte]
   repeat(go_big_quiet_step (first
    |(intro _;with_reducible rfl)
    |(intro hc;have hbw:=b_ hb hc;have m0:=(B1.out.below hbw).cell 2 rfl;have m1:=c_ hbw hbs f0;have m2:=c_ hbw hbs f1;have m3:=c_ hbw hbs f2;simp only [m0,m1,m2,m3,Result.andThen];exact⟨trivial,rfl⟩)))
   refine wpQuiet_nil ?_;clear hC;intro C' hC';refine wpQuiet_nil ?_;clear hC';intro wq hbq;have hbq2:=b_ hb hbq;have hbo:w1.heap.size≤wq.heap.size:=hbq2.size;have ownq:wq.ownsRow w1.heap.size 9 1 vv l.length (l.flatMap strE):=own_below own.out hbq;obtain⟨v9,w9,hrun,own9,hb9⟩:=own_lits (enc:=strE) Tryz.underlying22 info_tStr rfl (by decide) strE_len strE_one [q0,q1,q2] ownq hlen1.out (by decide) hbo;have hb9:=hbq2.trans hb9;clear ownq hbo hbq hbq2;go_wp2_with (at_builtin;refine wpList_append_run ?nP1 (.tmp 20) (.tmp 39) 22 ?nP2 ?nP3 ?nP4 hrun ?_)
   all_goals try rfl
   have hl2b:=hl2;clear hlen1
   try clear hlen2
   have hb2:=H_ hb9;have own9:=H_ own9;rename_i o9X;clear o9X hb9 hb;go_roundw
   case rel=>exact⟨i+1,_,_,by omega,by go_num,rfl,own9,hl2b,hb2⟩
   case measure=>simp [intOf];omega
  ·obtain rfl:nP=i:=by omega
   have hl3:=hl.out;rw [List.drop_eq_nil_of_le (by rw [LP.out];omega),List.flatMap_nil,List.nil_append] at hl3;have hl3:=H_ hl3;clear hl;have hl:=hl3;rename_i h3X;clear hl3 h3X z0 hbase hi hin;go_wp2_with fail;go_loopw [5,3] (fun iv v wr=> ∃ (i:Nat) (vv:Value) (l:List Str),i≤nD∧iv= .int .i64 i∧vv=v∧Hid (wr.ownsRow w1.heap.size 9 1 v l.length (l.flatMap (strE)))∧Hid (l++((X.doors.drop i).flatMap dN++(X.routes.flatMap rN++(X.trips.flatMap tN++(X.hazs.flatMap hN++([])))))=namesL X)∧Hid (Below w1.heap.size w1 wr)) (fun iv _ _=>nD-(intOf iv).toNat)
   case atStart=>exact⟨0,_,_,Nat.zero_le _,rfl,rfl,own,hl,hb⟩
   case round=>
    clear own hl hb;obtain⟨i,vv,l,hi,rfl,hvv,own,hl,hb⟩:=hrel;subst hvv;have y0:=(B1.out.below hb.out).cell 3 rfl;have z0:=B1.out.cell 3 rfl;have hbase:=hb.out.size;by_cases hin:i<nD
    ·have hinI:(i:Int)<(nD:Int):=by omega
     obtain⟨b,o,⟨q0,q1,q2,q3,q4,q5,q6⟩,rfl,hbs,hx,hc⟩:=hrD.out.get hin;have f0:=hc 0 _ rfl;have f1:=hc 1 _ rfl;have f2:=hc 2 _ rfl;simp only [Nat.add_zero] at f0 f1 f2;have hl2:(l++[q0,q1,q2])++((X.doors.drop (i+1)).flatMap dN++(X.routes.flatMap rN++(X.trips.flatMap tN++(X.hazs.flatMap hN++([])))))=namesL X:=by rw [←hl.out,drop_at hx];simp [dN]
     have hlen1:Hid (l.length+([q0,q1,q2]).length ≤1099511627776):=by
      have h:=congrArg List.length hl2;rw [List.length_append,List.length_append] at h;have:=hNb.out;show _≤_;omega
     have hl2:=H_ hl2;rename_i hl2X;clear hl2X hx hc hl;generalize hvv:vv=vv at own;go_wp2_with fail;go_upto_region 9 with fail;refine wp_region_late [0,0,0,0,0,0,0,0,0,0,0,0,0,0,0,0,0,0,0,2,2,2] (by kernel_rfl) (by kernel_rfl) ?_;intro C hC;simp only [pickK,Nat.reduceEqDiff, ↓reduceIte]
     repeat(go_big_quiet_step (first
      |(intro _;with_reducible rfl)
      |(intro hc;have hbw:=b_ hb hc;have m0:=(B1.out.below hbw).cell 3 rfl;have m1:=c_ hbw hbs f0;have m2:=c_ hbw hbs f1;have m3:=c_ hbw hbs f2;simp only [m0,m1,m2,m3,Result.andThen];exact⟨trivial,rfl⟩)))
     refine wpQuiet_nil ?_;clear hC;intro C' hC';refine wpQuiet_nil ?_;clear hC';intro wq hbq;have hbq2:=b_ hb hbq;have hbo:w1.heap.size≤wq.heap.size:=hbq2.size;have ownq:wq.ownsRow w1.heap.size 9 1 vv l.length (l.flatMap strE):=own_below own.out hbq;obtain⟨v9,w9,hrun,own9,hb9⟩:=own_lits (enc:=strE) Tryz.underlying22 info_tStr rfl (by decide) strE_len strE_one [q0,q1,q2] ownq hlen1.out (by decide) hbo;have hb9:=hbq2.trans hb9;clear ownq hbo hbq hbq2;go_wp2_with (at_builtin;refine wpList_append_run ?nD1 (.tmp 48) (.tmp 67) 22 ?nD2 ?nD3 ?nD4 hrun ?_)
     all_goals try rfl
     have hl2b:=hl2;clear hlen1
     try clear hlen2
     have hb2:=H_ hb9;have own9:=H_ own9;rename_i o9X;clear o9X hb9 hb;go_roundw
     case rel=>exact⟨i+1,_,_,by omega,by go_num,rfl,own9,hl2b,hb2⟩
     case measure=>simp [intOf];omega
    ·obtain rfl:nD=i:=by omega
     have hl3:=hl.out;rw [List.drop_eq_nil_of_le (by rw [LD.out];omega),List.flatMap_nil,List.nil_append] at hl3;have hl3:=H_ hl3;clear hl;have hl:=hl3;rename_i h3X;clear hl3 h3X z0 hbase hi hin;go_wp2_with fail;go_loopw [6,3] (fun iv v wr=> ∃ (i:Nat) (vv:Value) (l:List Str),i≤nR∧iv= .int .i64 i∧vv=v∧Hid (wr.ownsRow w1.heap.size 9 1 v l.length (l.flatMap (strE)))∧Hid (l++((X.routes.drop i).flatMap rN++(X.trips.flatMap tN++(X.hazs.flatMap hN++([]))))=namesL X)∧Hid (Below w1.heap.size w1 wr)) (fun iv _ _=>nR-(intOf iv).toNat)
     case atStart=>exact⟨0,_,_,Nat.zero_le _,rfl,rfl,own,hl,hb⟩
     case round=>
      clear own hl hb;obtain⟨i,vv,l,hi,rfl,hvv,own,hl,hb⟩:=hrel;subst hvv;have y0:=(B1.out.below hb.out).cell 4 rfl;have z0:=B1.out.cell 4 rfl;have hbase:=hb.out.size;by_cases hin:i<nR
      ·have hinI:(i:Int)<(nR:Int):=by omega
       obtain⟨b,o,r,rfl,hbs,hx,f0,⟨s1,m1,d1,f1,rs1,_,_⟩,_,_⟩:=hrR.out.get hin;have hl2:(l++[r.name]++r.stops)++((X.routes.drop (i+1)).flatMap rN++(X.trips.flatMap tN++(X.hazs.flatMap hN++([]))))=namesL X:=by rw [←hl.out,drop_at hx];simp [rN]
       have hlen2:Hid ((l++[r.name]).length +m1≤1099511627776):=by
        have h:=congrArg List.length hl2;rw [List.length_append, @List.length_append _ (l++[r.name]) r.stops,rs1.len] at h;have:=hNb.out;show _≤_;omega
       have hlen1:Hid (l.length+([r.name]).length ≤1099511627776):=by
        have:=hlen2.out;rw [List.length_append] at this;show _≤_;omega
       have hl2:=H_ hl2;have rs1:=H_ rs1;rename_i h1X h2X;clear h1X h2X hx hl;generalize hvv:vv=vv at own;go_wp2_with fail;go_upto_region 13 with fail;refine wp_region_lateN w1.heap.size [0,0,0,0,0,0,0,2,3,0,0,0,0,0,0,2,2] (by kernel_rfl) (by kernel_rfl) hb.out.size ?_;intro C hC;simp only [pickK,pickT,Nat.reduceLeDiff,Nat.reduceEqDiff, ↓reduceIte]
       repeat(go_big_quiet_step (first
        |(intro _;with_reducible rfl)
        |(intro hc;have hbw:=hb.out.trans hc;have m0:=(B1.out.below hbw).cell 4 rfl;have m1:=c_ hbw hbs f0;have m2:=c_ hbw hbs f1;simp only [m0,m1,m2,Result.andThen];exact⟨trivial,rfl⟩)))
       refine wpQuiet_nil ?_;clear hC;intro C' hC';refine wpQuiet_nil ?_;clear hC';intro wq hbq;replace hbq:Below wr.heap.size wr wq:=by rw [hbq];exact⟨rfl,rfl,rfl,Nat.le_refl _,fun _ _=>rfl⟩
       have hbq2:=b_ hb hbq;have hbo:w1.heap.size≤wq.heap.size:=hbq2.size;have ownq:wq.ownsRow w1.heap.size 9 1 vv l.length (l.flatMap strE):=own_below own.out hbq;obtain⟨v8,w8,hrun8,own8,hb8⟩:=own_lits (enc:=strE) Tryz.underlying22 info_tStr rfl (by decide) strE_len strE_one [r.name] ownq hlen1.out (by decide) hbo;refine wpTail_one (wpList_plain rfl fun K hK=>?_);go_simp;refine hK _ _ ⟨(fun h=>nomatch h),?_⟩;clear hK;obtain⟨v9,w9,hrun,own9,hb9⟩:=own_row (enc:=strE) Tryz.underlying22 info_tStr rfl (by decide) strE_len strE_one d1 own8 (rs1.out.below (hbq2.trans hb8)) hlen2.out (by decide) (Nat.le_trans hbo hb8.size);refine wpTail_append rfl (.tmp 76) (.tmp 83) 22 rfl rfl rfl hrun8 (fun _=>(hbq.mono hb.out.size).trans hb8) ?_;refine wpTail_append rfl (.tmp 84) (.tmp 90) 22 rfl rfl rfl hrun (fun h=>nomatch h) ?_;refine wpTail_list _ _ _ (by simp) ?_;simp only [List.map_cons,List.map_nil]
       have hb9:=(hbq2.trans hb8).trans hb9;clear ownq hbo hbq hbq2 hrun8 own8 hb8;go_wp2_with fail;have hl2b:=hl2;clear hlen1
       try clear hlen2
       have hb2:=H_ hb9;have own9:=H_ own9;rename_i o9X;clear o9X hb9 hb;go_roundw
       case rel=>exact⟨i+1,_,_,by omega,by go_num,rfl,own9,hl2b,hb2⟩
       case measure=>simp [intOf];omega
      ·obtain rfl:nR=i:=by omega
       have hl3:=hl.out;rw [List.drop_eq_nil_of_le (by rw [LR.out];omega),List.flatMap_nil,List.nil_append] at hl3;have hl3:=H_ hl3;clear hl;have hl:=hl3;rename_i h3X;clear hl3 h3X z0 hbase hi hin;go_wp2_with fail;go_loopw [7,3] (fun iv v wr=> ∃ (i:Nat) (vv:Value) (l:List Str),i≤nT∧iv= .int .i64 i∧vv=v∧Hid (wr.ownsRow w1.heap.size 9 1 v l.length (l.flatMap (strE)))∧Hid (l++((X.trips.drop i).flatMap tN++(X.hazs.flatMap hN++([])))=namesL X)∧Hid (Below w1.heap.size w1 wr)) (fun iv _ _=>nT-(intOf iv).toNat)
       case atStart=>exact⟨0,_,_,Nat.zero_le _,rfl,rfl,own,hl,hb⟩
       case round=>
        clear own hl hb;obtain⟨i,vv,l,hi,rfl,hvv,own,hl,hb⟩:=hrel;subst hvv;have y0:=(B1.out.below hb.out).cell 5 rfl;have z0:=B1.out.cell 5 rfl;have hbase:=hb.out.size;by_cases hin:i<nT
        ·have hinI:(i:Int)<(nT:Int):=by omega
         obtain⟨b,o,⟨q0,q1,q2,q3,q4⟩,rfl,hbs,hx,hc⟩:=hrT.out.get hin;have f0:=hc 0 _ rfl;have f1:=hc 1 _ rfl;simp only [Nat.add_zero] at f0 f1;have hl2:(l++[q0,q1])++((X.trips.drop (i+1)).flatMap tN++(X.hazs.flatMap hN++([])))=namesL X:=by rw [←hl.out,drop_at hx];simp [tN]
         have hlen1:Hid (l.length+([q0,q1]).length ≤1099511627776):=by
          have h:=congrArg List.length hl2;rw [List.length_append,List.length_append] at h;have:=hNb.out;show _≤_;omega
         have hl2:=H_ hl2;rename_i hl2X;clear hl2X hx hc hl;generalize hvv:vv=vv at own;go_wp2_with fail;go_upto_region 17 with fail;refine wp_region_late [0,0,0,0,0,0,0,0,0,0,0,0,0,2,2,2] (by kernel_rfl) (by kernel_rfl) ?_;intro C hC;simp only [pickK,Nat.reduceEqDiff, ↓reduceIte]
         repeat(go_big_quiet_step (first
          |(intro _;with_reducible rfl)
          |(intro hc;have hbw:=b_ hb hc;have m0:=(B1.out.below hbw).cell 5 rfl;have m1:=c_ hbw hbs f0;have m2:=c_ hbw hbs f1;simp only [m0,m1,m2,Result.andThen];exact⟨trivial,rfl⟩)))
         refine wpQuiet_nil ?_;clear hC;intro C' hC';refine wpQuiet_nil ?_;clear hC';intro wq hbq;have hbq2:=b_ hb hbq;have hbo:w1.heap.size≤wq.heap.size:=hbq2.size;have ownq:wq.ownsRow w1.heap.size 9 1 vv l.length (l.flatMap strE):=own_below own.out hbq;obtain⟨v9,w9,hrun,own9,hb9⟩:=own_lits (enc:=strE) Tryz.underlying22 info_tStr rfl (by decide) strE_len strE_one [q0,q1] ownq hlen1.out (by decide) hbo;have hb9:=hbq2.trans hb9;clear ownq hbo hbq hbq2;go_wp2_with (at_builtin;refine wpList_append_run ?nT1 (.tmp 99) (.tmp 112) 22 ?nT2 ?nT3 ?nT4 hrun ?_)
         all_goals try rfl
         have hl2b:=hl2;clear hlen1
         try clear hlen2
         have hb2:=H_ hb9;have own9:=H_ own9;rename_i o9X;clear o9X hb9 hb;go_roundw
         case rel=>exact⟨i+1,_,_,by omega,by go_num,rfl,own9,hl2b,hb2⟩
         case measure=>simp [intOf];omega
        ·obtain rfl:nT=i:=by omega
         have hl3:=hl.out;rw [List.drop_eq_nil_of_le (by rw [LT.out];omega),List.flatMap_nil,List.nil_append] at hl3;have hl3:=H_ hl3;clear hl;have hl:=hl3;rename_i h3X;clear hl3 h3X z0 hbase hi hin;go_wp2_with fail;go_loopw [8,3] (fun iv v wr=> ∃ (i:Nat) (vv:Value) (l:List Str),i≤nH∧iv= .int .i64 i∧vv=v∧Hid (wr.ownsRow w1.heap.size 9 1 v l.length (l.flatMap (strE)))∧Hid (l++((X.hazs.drop i).flatMap hN++([]))=namesL X)∧Hid (Below w1.heap.size w1 wr)) (fun iv _ _=>nH-(intOf iv).toNat)
         case atStart=>exact⟨0,_,_,Nat.zero_le _,rfl,rfl,own,hl,hb⟩
         case round=>
          clear own hl hb;obtain⟨i,vv,l,hi,rfl,hvv,own,hl,hb⟩:=hrel;subst hvv;have y0:=(B1.out.below hb.out).cell 6 rfl;have z0:=B1.out.cell 6 rfl;have hbase:=hb.out.size;by_cases hin:i<nH
          ·have hinI:(i:Int)<(nH:Int):=by omega
           obtain⟨b,o,⟨q0,q1,q2,q3,q4⟩,rfl,hbs,hx,hc⟩:=hrH.out.get hin;have f0:=hc 0 _ rfl;have f1:=hc 1 _ rfl;simp only [Nat.add_zero] at f0 f1;have hl2:(l++[q0,q1])++((X.hazs.drop (i+1)).flatMap hN++([]))=namesL X:=by rw [←hl.out,drop_at hx];simp [hN]
           have hlen1:Hid (l.length+([q0,q1]).length ≤1099511627776):=by
            have h:=congrArg List.length hl2;rw [List.length_append,List.length_append] at h;have:=hNb.out;show _≤_;omega
           have hl2:=H_ hl2;rename_i hl2X;clear hl2X hx hc hl;generalize hvv:vv=vv at own;go_wp2_with fail;go_upto_region 21 with fail;refine wp_region_late [0,0,0,0,0,0,0,0,0,0,0,0,0,2,2,2] (by kernel_rfl) (by kernel_rfl) ?_;intro C hC;simp only [pickK,Nat.reduceEqDiff, ↓reduceIte]
           repeat(go_big_quiet_step (first
            |(intro _;with_reducible rfl)
            |(intro hc;have hbw:=b_ hb hc;have m0:=(B1.out.below hbw).cell 6 rfl;have m1:=c_ hbw hbs f0;have m2:=c_ hbw hbs f1;simp only [m0,m1,m2,Result.andThen];exact⟨trivial,rfl⟩)))
           refine wpQuiet_nil ?_;clear hC;intro C' hC';refine wpQuiet_nil ?_;clear hC';intro wq hbq;have hbq2:=b_ hb hbq;have hbo:w1.heap.size≤wq.heap.size:=hbq2.size;have ownq:wq.ownsRow w1.heap.size 9 1 vv l.length (l.flatMap strE):=own_below own.out hbq;obtain⟨v9,w9,hrun,own9,hb9⟩:=own_lits (enc:=strE) Tryz.underlying22 info_tStr rfl (by decide) strE_len strE_one [q0,q1] ownq hlen1.out (by decide) hbo;have hb9:=hbq2.trans hb9;clear ownq hbo hbq hbq2;go_wp2_with (at_builtin;refine wpList_append_run ?nH1 (.tmp 121) (.tmp 134) 22 ?nH2 ?nH3 ?nH4 hrun ?_)
           all_goals try rfl
           have hl2b:=hl2;clear hlen1
           try clear hlen2
           have hb2:=H_ hb9;have own9:=H_ own9;rename_i o9X;clear o9X hb9 hb;go_roundw
           case rel=>exact⟨i+1,_,_,by omega,by go_num,rfl,own9,hl2b,hb2⟩
           case measure=>simp [intOf];omega
          ·obtain rfl:nH=i:=by omega
           have hl3:=hl.out;rw [List.drop_eq_nil_of_le (by rw [LH.out];omega),List.flatMap_nil,List.nil_append] at hl3;have hl3:=H_ hl3;clear hl;have hl:=hl3;rename_i h3X;clear hl3 h3X z0 hbase hi hin;go_wp2_with fail;go_returns;obtain⟨A,c,rfl,r1,r2,r3⟩:=Rd.of_own strE_len rfl own.out;have hll:=hl.out;rw [List.append_nil] at hll;subst hll;exact⟨A,_,c,rfl,r1,r2,r3,hup.out _ hb.out⟩
set_option maxRecDepth 100000 in
theorem nums_any (X:SheetP) (V:SV) (we:World) (hr:RS we X V) (hf:FewS X):
 Calls Tryz.prog 214 #[sVal X V] we fun e w'=> ∃ A n c,e= .returned (.slice A n c)∧Rd w' 1 (numE .i64) A n (numsL X)∧n≤c∧c≤9223372036854775807∧Below we.heap.size we w':=by
 obtain⟨a0,aP,aD,aR,aT,aH,n0,nP,nD,nR,nT,nH,c0,cP,cD,cR,cT,cH⟩:=V;have LP:Hid (X.paths.length=nP):=hr.rP.len;have LD:Hid (X.doors.length=nD):=hr.rD.len;have LR:Hid (X.routes.length=nR):=hr.rR.len;have LT:Hid (X.trips.length=nT):=hr.rT.len;have LH:Hid (X.hazs.length=nH):=hr.rH.len;have l0:X.stops.length=n0:=hr.r0.len;have L0:=H_ l0;have hNb:=H_ (numsL_le hf);have mP:nP≤100000:=by have:=hf.sP;have:=LP.out;omega
 have mD:nD≤100000:=by have:=hf.sD;have:=LD.out;omega
 have mR:nR≤100000:=by have:=hf.sR;have:=LR.out;omega
 have mT:nT≤100000:=by have:=hf.sT;have:=LT.out;omega
 have mH:nH≤100000:=by have:=hf.sH;have:=LH.out;omega
 have m0:n0≤100000:=by have:=hf.s0;omega
 obtain⟨hz,hhz⟩: ∃ q,X.hz=q:=⟨_,rfl⟩
 have Hhz:=H_ hhz;simp only [sVal];rw [hhz];have hb1:=below_alloc we #[.int .i64 hz,.slice a0 n0 c0,.slice aP nP cP,.slice aD nD cD,.slice aR nR cR,.slice aT nT cT,.slice aH nH cH] 136;have B1:=Bx.new we 136 [.int .i64 hz,.slice a0 n0 c0,.slice aP nP cP,.slice aD nD cD,.slice aR nR cR,.slice aT nT cT,.slice aH nH cH];obtain⟨w1,hw1⟩: ∃ q,we.alloc (.cells #[.int .i64 hz,.slice a0 n0 c0,.slice aP nP cP,.slice aD nD cD,.slice aR nR cR,.slice aT nT cT,.slice aH nH cH] 136)=q:=⟨_,rfl⟩
 rw [hw1] at hb1;change Bx (we.alloc (.cells #[.int .i64 hz,.slice a0 n0 c0,.slice aP nP cP,.slice aD nD cD,.slice aR nR cR,.slice aT nT cT,.slice aH nH cH] 136)) _ _ _ at B1;rw [hw1] at B1;obtain⟨bn,hbn⟩: ∃ q,we.heap.size=q:=⟨_,rfl⟩
 rw [hbn] at B1;have hup:Hid (∀ U,Below w1.heap.size w1 U→Below we.heap.size we U):=fun U hU=>u_ hb1 hU;have hR:=hr.below hb1;have hr0:Hid (Rd w1 1 strE a0 n0 X.stops):=hR.r0;have hrP:Hid (Rd w1 4 spathE aP nP X.paths):=hR.rP;have hrD:Hid (Rd w1 7 sdoorE aD nD X.doors):=hR.rD;have hrR:Hid (RSRoutes w1 aR nR X.routes):=hR.rR;have hrT:Hid (Rd w1 5 stripE aT nT X.trips):=hR.rT;have hrH:Hid (Rd w1 5 shazE aH nH X.hazs):=hR.rH;have zbn:=B1.lt;have p0:=B1.cell 0 rfl;have p1:=B1.cell 1 rfl;have B1:=H_ B1;rename_i b1X;clear b1X hr hf hb1 hhz hR l0;go_enter Tryz.func214,Tryz.ntmps214;have own:=World.ownsRow_made (base:=w1.heap.size) (e:=2) (size:=1) w1 #[.int .i64 hz] 1 (Nat.le_refl _) (by rw [maxLen_num];omega) rfl
 have own:Hid ((w1.alloc (.cells #[.int .i64 hz] 2)).ownsRow w1.heap.size 2 1 (.slice (some ⟨w1.heap.size,0,none⟩) 1 1) [X.hz].length ([X.hz].flatMap (numE .i64))):=by
  rw [Hhz.out];exact⟨rfl,.inr ⟨w1.heap.size,1,#[.int .i64 hz],rfl,Nat.le_refl _,heap_alloc_new w1 _,Nat.le_refl _,by rw [maxLen_num];decide,rfl,rfl⟩⟩
 have hb:Hid (Below w1.heap.size w1 (w1.alloc (.cells #[.int .i64 hz] 2))):=below_alloc w1 #[.int .i64 hz] 2;have hl:Hid ([X.hz]++((X.paths.drop 0).flatMap pI++(X.doors.flatMap dI++(X.routes.flatMap rI++(X.trips.flatMap tI++(X.hazs.flatMap hI++([]))))))=numsL X):=rfl;rename_i o1X;clear o1X;go_wp2_with fail;go_loopw [4,3] (fun iv v wr=> ∃ (i:Nat) (vv:Value) (l:List Int),i≤nP∧iv= .int .i64 i∧vv=v∧Hid (wr.ownsRow w1.heap.size 2 1 v l.length (l.flatMap (numE .i64)))∧Hid (l++((X.paths.drop i).flatMap pI++(X.doors.flatMap dI++(X.routes.flatMap rI++(X.trips.flatMap tI++(X.hazs.flatMap hI++([]))))))=numsL X)∧Hid (Below w1.heap.size w1 wr)) (fun iv _ _=>nP-(intOf iv).toNat)
 case atStart=>exact⟨0,_,_,Nat.zero_le _,rfl,rfl,own,hl,hb⟩
 case round=>
  clear own hl hb;obtain⟨i,vv,l,hi,rfl,hvv,own,hl,hb⟩:=hrel;subst hvv;have y0:=(B1.out.below hb.out).cell 2 rfl;have z0:=B1.out.cell 2 rfl;have hbase:=hb.out.size;by_cases hin:i<nP
  ·have hinI:(i:Int)<(nP:Int):=by omega
   obtain⟨b,o,⟨q0,q1,q2,q3⟩,rfl,hbs,hx,hc⟩:=hrP.out.get hin;have f3:=hc 3 _ rfl;simp only [Nat.add_zero] at f3;have hl2:(l++[q3])++((X.paths.drop (i+1)).flatMap pI++(X.doors.flatMap dI++(X.routes.flatMap rI++(X.trips.flatMap tI++(X.hazs.flatMap hI++([]))))))=numsL X:=by rw [←hl.out,drop_at hx];simp [pI]
   have hlen1:Hid (l.length+([q3]).length ≤1099511627776):=by
    have h:=congrArg List.length hl2;rw [List.length_append,List.length_append] at h;have:=hNb.out;show _≤_;omega
   have hl2:=H_ hl2;rename_i hl2X;clear hl2X hx hc hl;have fw:=c_ hb.out hbs f3;obtain⟨g,c9,w9,hrun,own9,hb9,_⟩:=own_push (enc:=numE .i64) Tryz.underlying45 info_tI64 rfl (by decide) num_len num_one q3 own.out hlen1.out (by decide) hb.out hbase 0;have hlq:l.length+1=(l++[q3]).length :=by simp
   have own9:Hid (w9.ownsRow w1.heap.size 2 1 (.slice (some ⟨g,0,none⟩) (l.length+1) c9) (l++[q3]).length ((l++[q3]).flatMap (numE .i64))):=by rw [←hlq];exact own9
   have hb9:=H_ hb9;have hrun:(Builtin.append_ #[45,45] 45 #[vv,.slice (some ⟨wr.heap.size,0,none⟩) 1 1]).run Tryz.prog (wr.alloc (.cells #[.int .i64 q3] 2))= .ok (.slice (some ⟨g,0,none⟩) (l.length+1) c9) w9:=hrun;clear hlq hlen1;rename_i o1X o2X o3X;clear o1X o2X o3X;go_wp2_with (at_builtin;refine wpList_append_run ?a1 (.tmp 19) (.tmp 26) 45 ?a2 ?a3 ?a4 hrun ?_)
   all_goals try rfl
   go_roundw
   case rel=>exact⟨i+1,_,_,by omega,by go_num,rfl,own9,hl2,hb9⟩
   case measure=>simp [intOf];omega
  ·obtain rfl:nP=i:=by omega
   have hl3:=hl.out;rw [List.drop_eq_nil_of_le (by rw [LP.out];omega),List.flatMap_nil,List.nil_append] at hl3;have hl3:=H_ hl3;clear hl;have hl:=hl3;rename_i h3X;clear hl3 h3X z0 hbase hi hin;go_wp2_with fail;go_loopw [5,3] (fun iv v wr=> ∃ (i:Nat) (vv:Value) (l:List Int),i≤nD∧iv= .int .i64 i∧vv=v∧Hid (wr.ownsRow w1.heap.size 2 1 v l.length (l.flatMap (numE .i64)))∧Hid (l++((X.doors.drop i).flatMap dI++(X.routes.flatMap rI++(X.trips.flatMap tI++(X.hazs.flatMap hI++([])))))=numsL X)∧Hid (Below w1.heap.size w1 wr)) (fun iv _ _=>nD-(intOf iv).toNat)
   case atStart=>exact⟨0,_,_,Nat.zero_le _,rfl,rfl,own,hl,hb⟩
   case round=>
    clear own hl hb;obtain⟨i,vv,l,hi,rfl,hvv,own,hl,hb⟩:=hrel;subst hvv;have y0:=(B1.out.below hb.out).cell 3 rfl;have z0:=B1.out.cell 3 rfl;have hbase:=hb.out.size;by_cases hin:i<nD
    ·have hinI:(i:Int)<(nD:Int):=by omega
     obtain⟨b,o,⟨q0,q1,q2,q3,q4,q5,q6⟩,rfl,hbs,hx,hc⟩:=hrD.out.get hin;have f3:=hc 3 _ rfl;have f4:=hc 4 _ rfl;have f5:=hc 5 _ rfl;have f6:=hc 6 _ rfl;simp only [Nat.add_zero] at f3 f4 f5 f6;have hl2:(l++[q3,q4,q5,q6])++((X.doors.drop (i+1)).flatMap dI++(X.routes.flatMap rI++(X.trips.flatMap tI++(X.hazs.flatMap hI++([])))))=numsL X:=by rw [←hl.out,drop_at hx];simp [dI]
     have hlen1:Hid (l.length+([q3,q4,q5,q6]).length ≤1099511627776):=by
      have h:=congrArg List.length hl2;rw [List.length_append,List.length_append] at h;have:=hNb.out;show _≤_;omega
     have hl2:=H_ hl2;rename_i hl2X;clear hl2X hx hc hl;generalize hvv:vv=vv at own;go_wp2_with fail;go_upto_region 9 with fail;refine wp_region_late [0,0,0,0,0,0,0,0,0,0,0,0,0,0,0,0,0,0,0,0,0,0,0,0,0,0,0,0,2,2,2] (by kernel_rfl) (by kernel_rfl) ?_;intro C hC;simp only [pickK,Nat.reduceEqDiff, ↓reduceIte]
     repeat(go_big_quiet_step (first
      |(intro _;with_reducible rfl)
      |(intro hc;have hbw:=b_ hb hc;have m0:=(B1.out.below hbw).cell 3 rfl;have m1:=c_ hbw hbs f3;have m2:=c_ hbw hbs f4;have m3:=c_ hbw hbs f5;have m4:=c_ hbw hbs f6;simp only [m0,m1,m2,m3,m4,Result.andThen];exact⟨trivial,rfl⟩)))
     refine wpQuiet_nil ?_;clear hC;intro C' hC';refine wpQuiet_nil ?_;clear hC';intro wq hbq;have hbq2:=b_ hb hbq;have hbo:w1.heap.size≤wq.heap.size:=hbq2.size;have ownq:wq.ownsRow w1.heap.size 2 1 vv l.length (l.flatMap (numE .i64)):=own_below own.out hbq;obtain⟨v9,w9,hrun,own9,hb9⟩:=own_lits (enc:=(numE .i64)) Tryz.underlying45 info_tI64 rfl (by decide) num_len num_one [q3,q4,q5,q6] ownq hlen1.out (by decide) hbo;have hb9:=hbq2.trans hb9;clear ownq hbo hbq hbq2;go_wp2_with (at_builtin;refine wpList_append_run ?nD1 (.tmp 35) (.tmp 63) 45 ?nD2 ?nD3 ?nD4 hrun ?_)
     all_goals try rfl
     have hl2b:=hl2;clear hlen1
     try clear hlen2
     have hb2:=H_ hb9;have own9:=H_ own9;rename_i o9X;clear o9X hb9 hb;go_roundw
     case rel=>exact⟨i+1,_,_,by omega,by go_num,rfl,own9,hl2b,hb2⟩
     case measure=>simp [intOf];omega
    ·obtain rfl:nD=i:=by omega
     have hl3:=hl.out;rw [List.drop_eq_nil_of_le (by rw [LD.out];omega),List.flatMap_nil,List.nil_append] at hl3;have hl3:=H_ hl3;clear hl;have hl:=hl3;rename_i h3X;clear hl3 h3X z0 hbase hi hin;go_wp2_with fail;go_loopw [6,3] (fun iv v wr=> ∃ (i:Nat) (vv:Value) (l:List Int),i≤nR∧iv= .int .i64 i∧vv=v∧Hid (wr.ownsRow w1.heap.size 2 1 v l.length (l.flatMap (numE .i64)))∧Hid (l++((X.routes.drop i).flatMap rI++(X.trips.flatMap tI++(X.hazs.flatMap hI++([]))))=numsL X)∧Hid (Below w1.heap.size w1 wr)) (fun iv _ _=>nR-(intOf iv).toNat)
     case atStart=>exact⟨0,_,_,Nat.zero_le _,rfl,rfl,own,hl,hb⟩
     case round=>
      clear own hl hb;obtain⟨i,vv,l,hi,rfl,hvv,own,hl,hb⟩:=hrel;subst hvv;have y0:=(B1.out.below hb.out).cell 4 rfl;have z0:=B1.out.cell 4 rfl;have hbase:=hb.out.size;by_cases hin:i<nR
      ·have hinI:(i:Int)<(nR:Int):=by omega
       obtain⟨b,o,r,rfl,hbs,hx,_,_,⟨s1,m1,d1,f1,rs1,_,_⟩,⟨s2,m2,d2,f2,rs2,_,_⟩⟩:=hrR.out.get hin;have hl2:(l++r.rides++r.stays)++((X.routes.drop (i+1)).flatMap rI++(X.trips.flatMap tI++(X.hazs.flatMap hI++([]))))=numsL X:=by rw [←hl.out,drop_at hx];simp [rI]
       have hlen2:Hid ((l++r.rides).length +m2≤1099511627776):=by
        have h:=congrArg List.length hl2;rw [List.length_append, @List.length_append _ (l++r.rides) r.stays,rs2.len] at h;have:=hNb.out;show _≤_;omega
       have hlen1:Hid (l.length+m1≤1099511627776):=by
        have:=hlen2.out;rw [List.length_append,rs1.len] at this;show _≤_;omega
       have hl2:=H_ hl2;have rs1:=H_ rs1;have rs2:=H_ rs2;rename_i h1X h2X h3X;clear h1X h2X h3X hx hl;generalize hvv:vv=vv at own;go_wp2_with fail;go_upto_region 13 with fail;refine wp_region_lateN w1.heap.size [0,0,0,0,0,0,0,3,0,0,0,0,0,0,2,2] (by kernel_rfl) (by kernel_rfl) hb.out.size ?_;intro C hC;simp only [pickK,pickT,Nat.reduceLeDiff,Nat.reduceEqDiff, ↓reduceIte]
       repeat(go_big_quiet_step (first
        |(intro _;with_reducible rfl)
        |(intro hc;have hbw:=hb.out.trans hc;have m0:=(B1.out.below hbw).cell 4 rfl;have m1:=c_ hbw hbs f1;have m2:=c_ hbw hbs f2;simp only [m0,m1,m2,Result.andThen];exact⟨trivial,rfl⟩)))
       refine wpQuiet_nil ?_;clear hC;intro C' hC';refine wpQuiet_nil ?_;clear hC';intro wq hbq;replace hbq:Below wr.heap.size wr wq:=by rw [hbq];exact⟨rfl,rfl,rfl,Nat.le_refl _,fun _ _=>rfl⟩
       have hbq2:=b_ hb hbq;have hbo:w1.heap.size≤wq.heap.size:=hbq2.size;have ownq:wq.ownsRow w1.heap.size 2 1 vv l.length (l.flatMap (numE .i64)):=own_below own.out hbq;obtain⟨v8,w8,hrun8,own8,hb8⟩:=own_row (enc:=(numE .i64)) Tryz.underlying45 info_tI64 rfl (by decide) num_len num_one d1 ownq (rs1.out.below hbq2) hlen1.out (by decide) hbo;obtain⟨v9,w9,hrun,own9,hb9⟩:=own_row (enc:=(numE .i64)) Tryz.underlying45 info_tI64 rfl (by decide) num_len num_one d2 own8 (rs2.out.below (hbq2.trans hb8)) hlen2.out (by decide) (Nat.le_trans hbo hb8.size);refine wpTail_append rfl (.tmp 72) (.tmp 78) 45 rfl rfl rfl hrun8 (fun _=>(hbq.mono hb.out.size).trans hb8) ?_;refine wpTail_append rfl (.tmp 79) (.tmp 85) 45 rfl rfl rfl hrun (fun h=>nomatch h) ?_;refine wpTail_list _ _ _ (by simp) ?_;simp only [List.map_cons,List.map_nil];have hb9:=(hbq2.trans hb8).trans hb9;clear ownq hbo hbq hbq2 hrun8 own8 hb8
       go_wp2_with fail;have hl2b:=hl2;clear hlen1
       try clear hlen2
       have hb2:=H_ hb9;have own9:=H_ own9;rename_i o9X;clear o9X hb9 hb;go_roundw
       case rel=>exact⟨i+1,_,_,by omega,by go_num,rfl,own9,hl2b,hb2⟩
       case measure=>simp [intOf];omega
      ·obtain rfl:nR=i:=by omega
       have hl3:=hl.out;rw [List.drop_eq_nil_of_le (by rw [LR.out];omega),List.flatMap_nil,List.nil_append] at hl3;have hl3:=H_ hl3;clear hl;have hl:=hl3;rename_i h3X;clear hl3 h3X z0 hbase hi hin;go_wp2_with fail;go_loopw [7,3] (fun iv v wr=> ∃ (i:Nat) (vv:Value) (l:List Int),i≤nT∧iv= .int .i64 i∧vv=v∧Hid (wr.ownsRow w1.heap.size 2 1 v l.length (l.flatMap (numE .i64)))∧Hid (l++((X.trips.drop i).flatMap tI++(X.hazs.flatMap hI++([])))=numsL X)∧Hid (Below w1.heap.size w1 wr)) (fun iv _ _=>nT-(intOf iv).toNat)
       case atStart=>exact⟨0,_,_,Nat.zero_le _,rfl,rfl,own,hl,hb⟩
       case round=>
        clear own hl hb;obtain⟨i,vv,l,hi,rfl,hvv,own,hl,hb⟩:=hrel;subst hvv;have y0:=(B1.out.below hb.out).cell 5 rfl;have z0:=B1.out.cell 5 rfl;have hbase:=hb.out.size;by_cases hin:i<nT
        ·have hinI:(i:Int)<(nT:Int):=by omega
         obtain⟨b,o,⟨q0,q1,q2,q3,q4⟩,rfl,hbs,hx,hc⟩:=hrT.out.get hin;have f2:=hc 2 _ rfl;have f3:=hc 3 _ rfl;have f4:=hc 4 _ rfl;simp only [Nat.add_zero] at f2 f3 f4;have hl2:(l++[q2,q3,q4])++((X.trips.drop (i+1)).flatMap tI++(X.hazs.flatMap hI++([])))=numsL X:=by rw [←hl.out,drop_at hx];simp [tI]
         have hlen1:Hid (l.length+([q2,q3,q4]).length ≤1099511627776):=by
          have h:=congrArg List.length hl2;rw [List.length_append,List.length_append] at h;have:=hNb.out;show _≤_;omega
         have hl2:=H_ hl2;rename_i hl2X;clear hl2X hx hc hl;generalize hvv:vv=vv at own;go_wp2_with fail;go_upto_region 17 with fail;refine wp_region_late [0,0,0,0,0,0,0,0,0,0,0,0,0,0,0,0,0,0,0,2,2,2] (by kernel_rfl) (by kernel_rfl) ?_;intro C hC;simp only [pickK,Nat.reduceEqDiff, ↓reduceIte]
         repeat(go_big_quiet_step (first
          |(intro _;with_reducible rfl)
          |(intro hc;have hbw:=b_ hb hc;have m0:=(B1.out.below hbw).cell 5 rfl;have m1:=c_ hbw hbs f2;have m2:=c_ hbw hbs f3;have m3:=c_ hbw hbs f4;simp only [m0,m1,m2,m3,Result.andThen];exact⟨trivial,rfl⟩)))
         refine wpQuiet_nil ?_;clear hC;intro C' hC';refine wpQuiet_nil ?_;clear hC';intro wq hbq;have hbq2:=b_ hb hbq;have hbo:w1.heap.size≤wq.heap.size:=hbq2.size;have ownq:wq.ownsRow w1.heap.size 2 1 vv l.length (l.flatMap (numE .i64)):=own_below own.out hbq;obtain⟨v9,w9,hrun,own9,hb9⟩:=own_lits (enc:=(numE .i64)) Tryz.underlying45 info_tI64 rfl (by decide) num_len num_one [q2,q3,q4] ownq hlen1.out (by decide) hbo;have hb9:=hbq2.trans hb9;clear ownq hbo hbq hbq2;go_wp2_with (at_builtin;refine wpList_append_run ?nT1 (.tmp 94) (.tmp 113) 45 ?nT2 ?nT3 ?nT4 hrun ?_)
         all_goals try rfl
         have hl2b:=hl2;clear hlen1
         try clear hlen2
         have hb2:=H_ hb9;have own9:=H_ own9;rename_i o9X;clear o9X hb9 hb;go_roundw
         case rel=>exact⟨i+1,_,_,by omega,by go_num,rfl,own9,hl2b,hb2⟩
         case measure=>simp [intOf];omega
        ·obtain rfl:nT=i:=by omega
         have hl3:=hl.out;rw [List.drop_eq_nil_of_le (by rw [LT.out];omega),List.flatMap_nil,List.nil_append] at hl3;have hl3:=H_ hl3;clear hl;have hl:=hl3;rename_i h3X;clear hl3 h3X z0 hbase hi hin;go_wp2_with fail;go_loopw [8,3] (fun iv v wr=> ∃ (i:Nat) (vv:Value) (l:List Int),i≤nH∧iv= .int .i64 i∧vv=v∧Hid (wr.ownsRow w1.heap.size 2 1 v l.length (l.flatMap (numE .i64)))∧Hid (l++((X.hazs.drop i).flatMap hI++([]))=numsL X)∧Hid (Below w1.heap.size w1 wr)) (fun iv _ _=>nH-(intOf iv).toNat)
         case atStart=>exact⟨0,_,_,Nat.zero_le _,rfl,rfl,own,hl,hb⟩
         case round=>
          clear own hl hb;obtain⟨i,vv,l,hi,rfl,hvv,own,hl,hb⟩:=hrel;subst hvv;have y0:=(B1.out.below hb.out).cell 6 rfl;have z0:=B1.out.cell 6 rfl;have hbase:=hb.out.size;by_cases hin:i<nH
          ·have hinI:(i:Int)<(nH:Int):=by omega
           obtain⟨b,o,⟨q0,q1,q2,q3,q4⟩,rfl,hbs,hx,hc⟩:=hrH.out.get hin;have f2:=hc 2 _ rfl;have f3:=hc 3 _ rfl;have f4:=hc 4 _ rfl;simp only [Nat.add_zero] at f2 f3 f4;have hl2:(l++[q2,q3,q4])++((X.hazs.drop (i+1)).flatMap hI++([]))=numsL X:=by rw [←hl.out,drop_at hx];simp [hI]
           have hlen1:Hid (l.length+([q2,q3,q4]).length ≤1099511627776):=by
            have h:=congrArg List.length hl2;rw [List.length_append,List.length_append] at h;have:=hNb.out;show _≤_;omega
           have hl2:=H_ hl2;rename_i hl2X;clear hl2X hx hc hl;generalize hvv:vv=vv at own;go_wp2_with fail;go_upto_region 21 with fail;refine wp_region_late [0,0,0,0,0,0,0,0,0,0,0,0,0,0,0,0,0,0,0,0,0,0,2,2,2] (by kernel_rfl) (by kernel_rfl) ?_;intro C hC;simp only [pickK,Nat.reduceEqDiff, ↓reduceIte]
           repeat(go_big_quiet_step (first
            |(intro _;with_reducible rfl)
            |(intro hc;have hbw:=b_ hb hc;have m0:=(B1.out.below hbw).cell 6 rfl;have m1:=c_ hbw hbs f2;have m2:=c_ hbw hbs f3;have m3:=c_ hbw hbs f4;simp only [m0,m1,m2,m3,Result.andThen];exact⟨trivial,rfl⟩)))
           refine wpQuiet_nil ?_;clear hC;intro C' hC';refine wpQuiet_nil ?_;clear hC';intro wq hbq;have hbq2:=b_ hb hbq;have hbo:w1.heap.size≤wq.heap.size:=hbq2.size;have ownq:wq.ownsRow w1.heap.size 2 1 vv l.length (l.flatMap (numE .i64)):=own_below own.out hbq;obtain⟨v9,w9,hrun,own9,hb9⟩:=own_lits (enc:=(numE .i64)) Tryz.underlying45 info_tI64 rfl (by decide) num_len num_one [q2,q3,q4] ownq hlen1.out (by decide) hbo;have hb9:=hbq2.trans hb9;clear ownq hbo hbq hbq2;go_wp2_with (at_builtin;refine wpList_append_run ?nH1 (.tmp 122) (.tmp 144) 45 ?nH2 ?nH3 ?nH4 hrun ?_)
           all_goals try rfl
           have hl2b:=hl2;clear hlen1
           try clear hlen2
           have hb2:=H_ hb9;have own9:=H_ own9;rename_i o9X;clear o9X hb9 hb;go_roundw
           case rel=>exact⟨i+1,_,_,by omega,by go_num,rfl,own9,hl2b,hb2⟩
           case measure=>simp [intOf];omega
          ·obtain rfl:nH=i:=by omega
           have hl3:=hl.out;rw [List.drop_eq_nil_of_le (by rw [LH.out];omega),List.flatMap_nil,List.nil_append] at hl3;have hl3:=H_ hl3;clear hl;have hl:=hl3;rename_i h3X;clear hl3 h3X z0 hbase hi hin;go_wp2_with fail;go_returns;obtain⟨A,c,rfl,r1,r2,r3⟩:=Rd.of_own num_len rfl own.out;have hll:=hl.out;rw [List.append_nil] at hll;subst hll;exact⟨A,_,c,rfl,r1,r2,r3,hup.out _ hb.out⟩
