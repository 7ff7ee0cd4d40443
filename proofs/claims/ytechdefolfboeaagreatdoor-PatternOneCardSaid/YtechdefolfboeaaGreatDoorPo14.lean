/- Merged. -/
import Derived.Test.YtechdefolfboeaaGreatDoorPo12
import Derived.Test.YtechdefolfboeaaGreatDoorPo13
set_option linter.unusedVariables false
set_option linter.unusedSimpArgs false
set_option maxRecDepth 100000
set_option maxHeartbeats 2000000
namespace Go.Proofs.YtechdefolfboeaaGreatDoor
open Go.RowKit B K
structure KB (N:Nat) (w0:World) (b:Nat) (T:TypeId) (u:List Value) (w:World):Prop where
 lo:Below N w0 w
 bx:Bx w b T u
theorem KB.closed {N:Nat} {w0:World} {b:Nat} {T:TypeId} {u:List Value} (hN:N≤w0.heap.size) (w1 w2:World) (h1:KB N w0 b T u w1) (h2:Below w1.heap.size w1 w2):KB N w0 b T u w2:=⟨h1.lo.trans (h2.mono (Nat.le_trans hN h1.lo.size)),h1.bx.below h2⟩
theorem own_rowK {α:Type} {P:Program} {enc:α→List Value} {t e:TypeId} {z:Value} {size bytes:Nat} (ht:P.underlying t=some (.slice e)) (hi:(P.info? e).map (fun i=>(i.zero,i.size,i.bytes))=some (some z,size,bytes)) (hzs:z.cells.size=size) (hsz:0<size) (hes: ∀ x,(enc x).length =size) (h1: ∀ x, ∀ u∈enc x,u.oneCell'=true)
 {base:Nat} {w:World} {v:Value} {l r:List α} {A:Option Addr} {m:Nat} (c:Nat) (hown:w.ownsRow base e size v l.length (l.flatMap enc)) (hr:Rd w size enc A m r) (hlen:l.length+m≤1099511627776) (hby:bytes≤127) (hB:base≤w.heap.size):
 ∃ v' w1,(Builtin.append_ #[t,t] t #[v,.slice A m c]).run P w= .ok v' w1∧w1.ownsRow base e size v' (l++r).length ((l++r).flatMap enc)∧Below base w w1∧ ∀ (b:Nat) (T:TypeId) (u:List Value),T≠e→Bx w b T u→Bx w1 b T u:=by
 obtain⟨v',w1,hrun,own,hgr,_⟩:=own_append ht hi hzs hsz hes h1 c hown hr hlen hby hB;exact⟨v',w1,hrun,by rw [List.length_append,hr.len];exact own,(Below.refl _ w).grown hgr hB fun g hg=>(hown.lt g hg).1,fun b T u hT hb=>hb.keep (hgr.block b hb.lt fun h=>own_ne_box hown hb hT b h.symm rfl)⟩
theorem snames_any (X:SheetP) (V:SV) (we:World) (hr:RS we X V) (hf:FewS X):
 Calls Tryz.prog 164 #[sVal X V] we fun e w'=> ∃ A n c,e= .returned (.slice A n c)∧Rd w' 1 strE A n (namesL X)∧n≤c∧c≤9223372036854775807∧Below we.heap.size we w':=by
 obtain⟨a0,aP,aD,aR,aT,aH,n0,nP,nD,nR,nT,nH,c0,cP,cD,cR,cT,cH⟩:=V;have LP:Hid (X.paths.length=nP):=hr.rP.len;have LD:Hid (X.doors.length=nD):=hr.rD.len;have LR:Hid (X.routes.length=nR):=hr.rR.len;have LT:Hid (X.trips.length=nT):=hr.rT.len;have LH:Hid (X.hazs.length=nH):=hr.rH.len;have L0:Hid (X.stops.length=n0):=hr.r0.len;have hNb:=H_ (namesL_le hf);have mP:nP≤100000:=by have:=hf.sP;have:=LP.out;omega
 have mD:nD≤100000:=by have:=hf.sD;have:=LD.out;omega
 have mR:nR≤100000:=by have:=hf.sR;have:=LR.out;omega
 have mT:nT≤100000:=by have:=hf.sT;have:=LT.out;omega
 have mH:nH≤100000:=by have:=hf.sH;have:=LH.out;omega
 have m0:n0≤100000:=by have:=hf.s0;have:=L0.out;omega
 obtain⟨hz,hhz⟩: ∃ q,X.hz=q:=⟨_,rfl⟩
 simp only [sVal];rw [hhz];obtain⟨w1,b1,hw1,hbE1,hb1,hup,B1,hge1⟩:=enter1 we 136 [.int .i64 hz,.slice a0 n0 c0,.slice aP nP cP,.slice aD nD cD,.slice aR nR cR,.slice aT nT cT,.slice aH nH cH];have hR:=H_ (hr.below hup.out);have p0:=B1.cell 0 rfl;have p1:=B1.cell 1 rfl;have B1:=H_ B1;rename_i gX;clear gX hr hf hb1;have hcl:=H_ (clStr_any a0 n0 c0 X.stops w1 hR.out.r0 (by omega));go_enter Tryz.func164,Tryz.ntmps164;go_wp2_with fail;refine hcl.out.mono ?_;rintro e w2 ⟨v0,rfl,own,hb⟩;clear hw1 hbE1 p0 p1 hcl;have hl:Hid (X.stops++((X.paths.drop 0).flatMap pN++(X.doors.flatMap dN++(X.routes.flatMap rN++(X.trips.flatMap tN++(X.hazs.flatMap hN++[])))))=namesL X):=rfl;rw [←L0.out] at own;replace own:=H_ own;replace hb:=H_ hb;have y2:=(B1.out.below hb.out).cell 2 rfl;go_wp2_with fail;clear y2
 go_loopw [20,3] (fun iv v wr=> ∃ (i:Nat) (l:List Str),i≤nP∧iv= .int .i64 i∧Hid (wr.ownsRow w1.heap.size 9 1 v l.length (l.flatMap strE))∧Hid (l++((X.paths.drop i).flatMap pN++(X.doors.flatMap dN++(X.routes.flatMap rN++(X.trips.flatMap tN++(X.hazs.flatMap hN++[])))))=namesL X)∧Hid (Below w1.heap.size w1 wr)) (fun iv _ _=>nP-(intOf iv).toNat)
 case atStart=>exact⟨0,_,Nat.zero_le _,rfl,own,hl,hb⟩
 case round=>
  clear own hl hb;obtain⟨i,l,hi,rfl,own,hl,hb⟩:=hrel;by_cases hin:i<nP
  ·have hinI:(i:Int)<(nP:Int):=by omega
   obtain⟨b,o,⟨x1,x2,x3,x4⟩,rfl,hbs,hx,hc⟩:=((hR.out.rP).below hb.out).get hin;have f0:=hc 0 _ rfl;have f1:=hc 1 _ rfl;have f2:=hc 2 _ rfl;have f3:=hc 3 _ rfl;simp only [Nat.add_zero] at f0;have hl2:(l++[x1,x2,x3])++((X.paths.drop (i+1)).flatMap pN++(X.doors.flatMap dN++(X.routes.flatMap rN++(X.trips.flatMap tN++(X.hazs.flatMap hN++[])))))=namesL X:=by rw [←hl.out,drop_at hx];simp [pN]
   have hlen1:Hid (l.length+3≤1099511627776):=by
    have h:=congrArg List.length hl2;simp only [List.length_append,List.length_cons,List.length_nil] at h;have:=hNb.out;show _≤_;omega
   have hl2:=H_ hl2;rename_i hl2X;clear hl2X hx hc hl;obtain⟨wa,ba,hwa,hbaE,hbwa,Bwa⟩:=box1 wr 171 [.string x1,.string x2,.string x3,.int .i64 x4];obtain⟨q0,q1,q2,q3⟩:=c_4 Bwa;have hbwa2:=b_ hb hbwa;obtain⟨v9,w9,hrun,own9,hb9⟩:=own_lits (enc:=strE) Tryz.underlying22 info_tStr rfl (by decide) strE_len strE_one [x1,x2,x3] (own_below own.out hbwa) hlen1.out (by decide) hbwa2.size;have hrun:(Builtin.append_ #[22,22] 22 #[u3,.slice (some ⟨wa.heap.size,0,none⟩) 3 3]).run Tryz.prog (wa.alloc (.cells #[.string x1,.string x2,.string x3] 9))= .ok v9 w9:=hrun;have hbF:=H_ (hbwa2.trans hb9);replace own9:=H_ own9;clear own hb Bwa hbwa2 hb9 hlen1 hbwa;go_wp2_with (at_builtin;refine wpList_append_run ?P1 (.tmp 24) (.tmp 31) 22 ?P2 ?P3 ?P4 hrun ?_)
   all_goals try rfl
   go_roundw
   case rel=>exact⟨i+1,_,by omega,by go_num,own9,hl2,hbF⟩
   case measure=>simp [intOf];omega
  ·obtain rfl:nP=i:=by omega
   have hl3:=hl.out;rw [List.drop_eq_nil_of_le (by rw [LP.out];omega),List.flatMap_nil,List.nil_append] at hl3;replace hl3:=H_ hl3;clear hl;have hl:=hl3;clear hl3 hi hin;have y3:=(B1.out.below hb.out).cell 3 rfl;go_wp2_with fail;clear y3;go_loopw [37,3] (fun iv v wr=> ∃ (i:Nat) (l:List Str),i≤nD∧iv= .int .i64 i∧Hid (wr.ownsRow w1.heap.size 9 1 v l.length (l.flatMap strE))∧Hid (l++((X.doors.drop i).flatMap dN++(X.routes.flatMap rN++(X.trips.flatMap tN++(X.hazs.flatMap hN++[]))))=namesL X)∧Hid (Below w1.heap.size w1 wr)) (fun iv _ _=>nD-(intOf iv).toNat)
   case atStart=>exact⟨0,_,Nat.zero_le _,rfl,own,hl,hb⟩
   case round=>
    clear own hl hb;obtain⟨i,l,hi,rfl,own,hl,hb⟩:=hrel;by_cases hin:i<nD
    ·have hinI:(i:Int)<(nD:Int):=by omega
     obtain⟨b,o,⟨x1,x2,x3,x4,x5,x6,x7⟩,rfl,hbs,hx,hc⟩:=((hR.out.rD).below hb.out).get hin;have f0:=hc 0 _ rfl;have f1:=hc 1 _ rfl;have f2:=hc 2 _ rfl;have f3:=hc 3 _ rfl;have f4:=hc 4 _ rfl;have f5:=hc 5 _ rfl;have f6:=hc 6 _ rfl;simp only [Nat.add_zero] at f0;have hl2:(l++[x1,x2,x3])++((X.doors.drop (i+1)).flatMap dN++(X.routes.flatMap rN++(X.trips.flatMap tN++(X.hazs.flatMap hN++[]))))=namesL X:=by rw [←hl.out,drop_at hx];simp [dN]
     have hlen1:Hid (l.length+3≤1099511627776):=by
      have h:=congrArg List.length hl2;simp only [List.length_append,List.length_cons,List.length_nil] at h;have:=hNb.out;show _≤_;omega
     have hl2:=H_ hl2;rename_i hl2X;clear hl2X hx hc hl;obtain⟨wa,ba,hwa,hbaE,hbwa,Bwa⟩:=box1 wr 173 [.string x1,.string x2,.string x3,.int .i64 x4,.int .i64 x5,.int .i64 x6,.int .i64 x7];obtain⟨q0,q1,q2,q3,q4,q5,q6⟩:=c_7 Bwa;have hbwa2:=b_ hb hbwa;obtain⟨v9,w9,hrun,own9,hb9⟩:=own_lits (enc:=strE) Tryz.underlying22 info_tStr rfl (by decide) strE_len strE_one [x1,x2,x3] (own_below own.out hbwa) hlen1.out (by decide) hbwa2.size;have hrun:(Builtin.append_ #[22,22] 22 #[u3,.slice (some ⟨wa.heap.size,0,none⟩) 3 3]).run Tryz.prog (wa.alloc (.cells #[.string x1,.string x2,.string x3] 9))= .ok v9 w9:=hrun;have hbF:=H_ (hbwa2.trans hb9);replace own9:=H_ own9;clear own hb Bwa hbwa2 hb9 hlen1 hbwa;go_wp2_with (at_builtin;refine wpList_append_run ?D1 (.tmp 41) (.tmp 48) 22 ?D2 ?D3 ?D4 hrun ?_)
     all_goals try rfl
     go_roundw
     case rel=>exact⟨i+1,_,by omega,by go_num,own9,hl2,hbF⟩
     case measure=>simp [intOf];omega
    ·obtain rfl:nD=i:=by omega
     have hl3:=hl.out;rw [List.drop_eq_nil_of_le (by rw [LD.out];omega),List.flatMap_nil,List.nil_append] at hl3;replace hl3:=H_ hl3;clear hl;have hl:=hl3;clear hl3 hi hin;have y4:=(B1.out.below hb.out).cell 4 rfl;go_wp2_with fail;clear y4;go_loopw [54,3] (fun iv v wr=> ∃ (i:Nat) (l:List Str),i≤nR∧iv= .int .i64 i∧Hid (wr.ownsRow w1.heap.size 9 1 v l.length (l.flatMap strE))∧Hid (l++((X.routes.drop i).flatMap rN++(X.trips.flatMap tN++(X.hazs.flatMap hN++[])))=namesL X)∧Hid (Below w1.heap.size w1 wr)) (fun iv _ _=>nR-(intOf iv).toNat)
     case atStart=>exact⟨0,_,Nat.zero_le _,rfl,own,hl,hb⟩
     case round=>
      clear own hl hb;obtain⟨i,l,hi,rfl,own,hl,hb⟩:=hrel;by_cases hin:i<nR
      ·have hinI:(i:Int)<(nR:Int):=by omega
       obtain⟨b,o,r,rfl,hbs,hx,f0,⟨s1,m1,d1,f1,rs1,_,_⟩,⟨s2,m2,d2,f2,rs2,_,_⟩,⟨s3,m3,d3,f3,rs3,_,_⟩⟩:=hR.out.rR.get hin;replace f0:=c_ hb.out hbs f0;replace f1:=c_ hb.out hbs f1;replace f2:=c_ hb.out hbs f2;replace f3:=c_ hb.out hbs f3;have hl2:(l++[r.name]++r.stops)++((X.routes.drop (i+1)).flatMap rN++(X.trips.flatMap tN++(X.hazs.flatMap hN++[])))=namesL X:=by rw [←hl.out,drop_at hx];simp [rN]
       have hlen1:Hid (l.length+1+m1≤1099511627776):=by
        have h:=congrArg List.length hl2;simp only [List.length_append,List.length_cons,List.length_nil] at h;have:=hNb.out;have:=rs1.len;show _≤_;omega
       have hl2:=H_ hl2;rename_i hl2X;clear hl2X hx hl rs2 rs3;obtain⟨wa,ba,hwa,hbaE,hbwa,Bwa⟩:=box1 wr 177 [.string r.name,.slice s1 m1 d1,.slice s2 m2 d2,.slice s3 m3 d3];obtain⟨q0,q1,q2,q3⟩:=c_4 Bwa;have hbwa2:=b_ hb hbwa;have own2:=H_ (own_below own.out hbwa);have BwH:=H_ Bwa;have hbw:=H_ hbwa2;have R1:=H_ rs1;clear own hb hbwa rs1 hbwa2 Bwa;go_wp2_with fail;go_upto_region 15 with fail;refine wp_region_lateC (KB w1.heap.size wa ba 177 [.string r.name,.slice s1 m1 d1,.slice s2 m2 d2,.slice s3 m3 d3]) [0,0,0,2,3,0,0,2,2] (by kernel_rfl) (by kernel_rfl) ⟨⟨rfl,rfl,rfl,Nat.le_refl _,fun _ _=>rfl⟩,BwH.out⟩ (KB.closed hbw.out.size) ?_;intro C hC;simp only [pickK,pickT,Nat.reduceLeDiff,Nat.reduceEqDiff, ↓reduceIte]
       repeat(go_big_quiet_step (first
        |(intro _;with_reducible rfl)
        |(intro hc;have m0:=hc.bx.cell 0 rfl;have m1:=hc.bx.cell 1 rfl;simp only [m0,m1,Result.andThen];exact⟨trivial,rfl⟩)))
       refine wpQuiet_nil ?_;clear hC;intro C' hC';refine wpQuiet_nil ?_;clear hC';intro wq hbq;replace hbq:Below wa.heap.size wa wq:=by rw [hbq];exact⟨rfl,rfl,rfl,Nat.le_refl _,fun _ _=>rfl⟩
       have Bq:Bx wq ba 177 [.string r.name,.slice s1 m1 d1,.slice s2 m2 d2,.slice s3 m3 d3]:=BwH.out.below hbq;have ownq:=own_below own2.out hbq;have hbq2:=b_ hbw hbq;obtain⟨wl,hwl⟩: ∃ q,wq.alloc (.cells ([r.name].flatMap strE).toArray 9)=q:=⟨_,rfl⟩
       have hwl':wq.alloc (.cells #[.string r.name] 9)=wl:=hwl;have hbl:=below_alloc wq ([r.name].flatMap strE).toArray 9;have rdl:=Rd.lit wq 1 strE strE_len 9 [r.name];rw [hwl] at hbl rdl;obtain⟨v8,w8,hrun8,own8,hb8,hK8⟩:=own_rowK (enc:=strE) Tryz.underlying22 info_tStr rfl (by decide) strE_len strE_one 1 (own_below ownq hbl) rdl (by have:=hlen1.out;simp only [List.length_cons,List.length_nil];omega) (by decide) (Nat.le_trans hbq2.size hbl.size);have Bq8:=H_ (hK8 _ _ _ (by decide) (Bq.below hbl));have hbq8:=(u_ hbq2 hbl).trans hb8;obtain⟨v9,w9,hrun9,own9,hb9,_⟩:=own_rowK (enc:=strE) Tryz.underlying22 info_tStr rfl (by decide) strE_len strE_one d1 own8 (R1.out.below hbq8) (by have:=hlen1.out;rw [List.length_append];simp only [List.length_cons,List.length_nil];omega) (by decide) hbq8.size
       have hrun8:(Builtin.append_ #[22,22] 22 #[u3,.slice (some ⟨wq.heap.size,0,none⟩) 1 1]).run Tryz.prog wl= .ok v8 w8:=hrun8;have hcl8:=H_ (((hbq.mono hbw.out.size).trans (hbl.mono hbq2.size)).trans hb8);have hbF:=H_ (hbq8.trans hb9);replace own9:=H_ own9;clear ownq own8 hb8 hb9 hK8 Bq rdl hbq2 hbq8 hwl hbl hlen1;refine wpTail4_one (by decide) ?_;go_wp2_with fail;refine⟨fun h=>absurd h (by decide),?_⟩;refine wpTail4_one (by decide) ?_;go_wp2_with (at_builtin;refine wpList_append_run ?K1 (.tmp 58) (.tmp 61) 22 ?K2 ?K3 ?K4 hrun8 ?_)
       all_goals try rfl
       refine⟨fun _=>⟨hcl8.out,Bq8.out⟩,?_⟩;refine wpTail4_list _ _ _ (by simp) ?_;simp only [List.map_cons,List.map_nil];go_wp2_with (at_builtin;refine wpList_append_run ?L1 (.tmp 62) (.tmp 64) 22 ?L2 ?L3 ?L4 hrun9 ?_)
       all_goals try rfl
       go_roundw
       case rel=>exact⟨i+1,_,by omega,by go_num,own9,hl2,hbF⟩
       case measure=>simp [intOf];omega
      ·obtain rfl:nR=i:=by omega
       have hl3:=hl.out;rw [List.drop_eq_nil_of_le (by rw [LR.out];omega),List.flatMap_nil,List.nil_append] at hl3;replace hl3:=H_ hl3;clear hl;have hl:=hl3;clear hl3 hi hin;have y5:=(B1.out.below hb.out).cell 5 rfl;go_wp2_with fail;clear y5;go_loopw [70,3] (fun iv v wr=> ∃ (i:Nat) (l:List Str),i≤nT∧iv= .int .i64 i∧Hid (wr.ownsRow w1.heap.size 9 1 v l.length (l.flatMap strE))∧Hid (l++((X.trips.drop i).flatMap tN++(X.hazs.flatMap hN++[]))=namesL X)∧Hid (Below w1.heap.size w1 wr)) (fun iv _ _=>nT-(intOf iv).toNat)
       case atStart=>exact⟨0,_,Nat.zero_le _,rfl,own,hl,hb⟩
       case round=>
        clear own hl hb;obtain⟨i,l,hi,rfl,own,hl,hb⟩:=hrel;by_cases hin:i<nT
        ·have hinI:(i:Int)<(nT:Int):=by omega
         obtain⟨b,o,⟨x1,x2,x3,x4,x5⟩,rfl,hbs,hx,hc⟩:=((hR.out.rT).below hb.out).get hin;have f0:=hc 0 _ rfl;have f1:=hc 1 _ rfl;have f2:=hc 2 _ rfl;have f3:=hc 3 _ rfl;have f4:=hc 4 _ rfl;simp only [Nat.add_zero] at f0;have hl2:(l++[x1,x2])++((X.trips.drop (i+1)).flatMap tN++(X.hazs.flatMap hN++[]))=namesL X:=by rw [←hl.out,drop_at hx];simp [tN]
         have hlen1:Hid (l.length+2≤1099511627776):=by
          have h:=congrArg List.length hl2;simp only [List.length_append,List.length_cons,List.length_nil] at h;have:=hNb.out;show _≤_;omega
         have hl2:=H_ hl2;rename_i hl2X;clear hl2X hx hc hl;obtain⟨wa,ba,hwa,hbaE,hbwa,Bwa⟩:=box1 wr 179 [.string x1,.string x2,.int .i64 x3,.int .i64 x4,.int .i64 x5];obtain⟨q0,q1,q2,q3,q4⟩:=c_5 Bwa;have hbwa2:=b_ hb hbwa;obtain⟨v9,w9,hrun,own9,hb9⟩:=own_lits (enc:=strE) Tryz.underlying22 info_tStr rfl (by decide) strE_len strE_one [x1,x2] (own_below own.out hbwa) hlen1.out (by decide) hbwa2.size;have hrun:(Builtin.append_ #[22,22] 22 #[u3,.slice (some ⟨wa.heap.size,0,none⟩) 2 2]).run Tryz.prog (wa.alloc (.cells #[.string x1,.string x2] 9))= .ok v9 w9:=hrun;have hbF:=H_ (hbwa2.trans hb9);replace own9:=H_ own9;clear own hb Bwa hbwa2 hb9 hlen1 hbwa;go_wp2_with (at_builtin;refine wpList_append_run ?T1 (.tmp 74) (.tmp 79) 22 ?T2 ?T3 ?T4 hrun ?_)
         all_goals try rfl
         go_roundw
         case rel=>exact⟨i+1,_,by omega,by go_num,own9,hl2,hbF⟩
         case measure=>simp [intOf];omega
        ·obtain rfl:nT=i:=by omega
         have hl3:=hl.out;rw [List.drop_eq_nil_of_le (by rw [LT.out];omega),List.flatMap_nil,List.nil_append] at hl3;replace hl3:=H_ hl3;clear hl;have hl:=hl3;clear hl3 hi hin;have y6:=(B1.out.below hb.out).cell 6 rfl;go_wp2_with fail;clear y6;go_loopw [85,3] (fun iv v wr=> ∃ (i:Nat) (l:List Str),i≤nH∧iv= .int .i64 i∧Hid (wr.ownsRow w1.heap.size 9 1 v l.length (l.flatMap strE))∧Hid (l++((X.hazs.drop i).flatMap hN++([]))=namesL X)∧Hid (Below w1.heap.size w1 wr)) (fun iv _ _=>nH-(intOf iv).toNat)
         case atStart=>exact⟨0,_,Nat.zero_le _,rfl,own,hl,hb⟩
         case round=>
          clear own hl hb;obtain⟨i,l,hi,rfl,own,hl,hb⟩:=hrel;by_cases hin:i<nH
          ·have hinI:(i:Int)<(nH:Int):=by omega
           obtain⟨b,o,⟨x1,x2,x3,x4,x5⟩,rfl,hbs,hx,hc⟩:=((hR.out.rH).below hb.out).get hin;have f0:=hc 0 _ rfl;have f1:=hc 1 _ rfl;have f2:=hc 2 _ rfl;have f3:=hc 3 _ rfl;have f4:=hc 4 _ rfl;simp only [Nat.add_zero] at f0;have hl2:(l++[x1,x2])++((X.hazs.drop (i+1)).flatMap hN++([]))=namesL X:=by rw [←hl.out,drop_at hx];simp [hN]
           have hlen1:Hid (l.length+2≤1099511627776):=by
            have h:=congrArg List.length hl2;simp only [List.length_append,List.length_cons,List.length_nil] at h;have:=hNb.out;show _≤_;omega
           have hl2:=H_ hl2;rename_i hl2X;clear hl2X hx hc hl;obtain⟨wa,ba,hwa,hbaE,hbwa,Bwa⟩:=box1 wr 181 [.string x1,.string x2,.int .i64 x3,.int .i64 x4,.int .i64 x5];obtain⟨q0,q1,q2,q3,q4⟩:=c_5 Bwa;have hbwa2:=b_ hb hbwa;obtain⟨v9,w9,hrun,own9,hb9⟩:=own_lits (enc:=strE) Tryz.underlying22 info_tStr rfl (by decide) strE_len strE_one [x1,x2] (own_below own.out hbwa) hlen1.out (by decide) hbwa2.size;have hrun:(Builtin.append_ #[22,22] 22 #[u3,.slice (some ⟨wa.heap.size,0,none⟩) 2 2]).run Tryz.prog (wa.alloc (.cells #[.string x1,.string x2] 9))= .ok v9 w9:=hrun;have hbF:=H_ (hbwa2.trans hb9);replace own9:=H_ own9;clear own hb Bwa hbwa2 hb9 hlen1 hbwa;go_wp2_with (at_builtin;refine wpList_append_run ?H1 (.tmp 89) (.tmp 94) 22 ?H2 ?H3 ?H4 hrun ?_)
           all_goals try rfl
           go_roundw
           case rel=>exact⟨i+1,_,by omega,by go_num,own9,hl2,hbF⟩
           case measure=>simp [intOf];omega
          ·obtain rfl:nH=i:=by omega
           have hl3:=hl.out;rw [List.drop_eq_nil_of_le (by rw [LH.out];omega),List.flatMap_nil,List.nil_append] at hl3;replace hl3:=H_ hl3;clear hl;have hl:=hl3;clear hl3 hi hin;go_wp2_with fail;go_returns;obtain⟨A,c,rfl,r1,r2,r3⟩:=Rd.of_own strE_len rfl own.out;have hll:=hl.out;rw [List.append_nil] at hll;subst hll;exact⟨A,_,c,rfl,r1,r2,r3,b_ hup hb.out⟩
structure KB2 (N:Nat) (w0:World) (b:Nat) (T:TypeId) (u:List Value) (b':Nat) (T':TypeId) (u':List Value) (w:World):Prop where
 lo:Below N w0 w
 bx:Bx w b T u
 by':Bx w b' T' u'
theorem KB2.closed {N:Nat} {w0:World} {b:Nat} {T:TypeId} {u:List Value} {b':Nat} {T':TypeId} {u':List Value} (hN:N≤w0.heap.size) (w1 w2:World) (h1:KB2 N w0 b T u b' T' u' w1) (h2:Below w1.heap.size w1 w2):KB2 N w0 b T u b' T' u' w2:=⟨h1.lo.trans (h2.mono (Nat.le_trans hN h1.lo.size)),h1.bx.below h2,h1.by'.below h2⟩
structure NS (w1:World) (bt:Nat) (v:Value) (l:List Int) (w:World):Prop where
 bx:Bx w bt 45 [v]
 own:w.ownsRow w1.heap.size 2 1 v l.length (l.flatMap (numE .i64))
 bel:Below w1.heap.size w1 w
 ge:w1.heap.size≤bt
theorem NS.below {w1 w w':World} {bt:Nat} {v:Value} {l:List Int} (h:NS w1 bt v l w) (k:Below w.heap.size w w'):NS w1 bt v l w':=⟨h.bx.below k,own_below h.own k,u_ h.bel k,h.ge⟩
theorem NS.lits {w1 w:World} {bt:Nat} {v:Value} {l:List Int} (h:NS w1 bt v l w) (xs:List Int) (hl:l.length+xs.length≤1099511627776): ∃ W1 W2 W3 A c,w.alloc (.cells (xs.flatMap (numE .i64)).toArray 2)=W1∧W2.setCell ⟨bt,0,none⟩ (.slice A (l.length+xs.length) c)=W3∧Bx W2 bt 45 [v]∧
 (Builtin.append_ #[45,45] 45 #[v,.slice (some ⟨w.heap.size,0,none⟩) xs.length xs.length]).run Tryz.prog W1= .ok (.slice A (l.length+xs.length) c) W2∧NS w1 bt (.slice A (l.length+xs.length) c) (l++xs) W3∧ ∀ (b:Nat) (T':TypeId) (u:List Value),T'≠2→b≠bt→Bx w b T' u→Bx W3 b T' u:=by
 obtain⟨W1,W2,W3,va,vb,k1,k2,k3,b2,b3,lA,_,runA,oA,⟨A,c,hab⟩,hk⟩:=stepMB (enc:=numE .i64) Tryz.underlying45 info_tI64 rfl (by decide) num_len num_one (by decide) (f:=0) (T:=45) xs (by decide) h.bx h.own rfl hl h.bel.size h.ge;subst hab k2;exact⟨W1,W2,W3,A,c,k1,k3,b2,runA,⟨b3,by rw [List.length_append];exact oA,h.bel.trans lA,h.ge⟩,hk⟩
theorem snums1_any (w1:World) (bt:Nat) (v:Value) (l:List Int) (f e d:Int) (w:World) (h:NS w1 bt v l w) (hl:l.length+3≤1099511627776):
 Calls Tryz.prog 233 #[.agg #[.int .i64 f,.int .i64 e,.int .i64 d],.pointer (some ⟨bt,0,none⟩)] w fun r w'=>(∃ q,r= .returned q)∧ ∃ v',NS w1 bt v' (l++[f,e,d]) w':=by
 obtain⟨wa,ba,hwa,hbaE,hbwa,Bwa⟩:=box1 w 102 [.int .i64 f,.int .i64 e,.int .i64 d];obtain⟨q0,q1,q2⟩:=c_3 Bwa;have ha:=h.below hbwa;have p0:=ha.bx.cell 0 rfl;obtain⟨W1,W2,W3,A,c,k1,k3,b2,runA,hT,_⟩:=ha.lits [f,e,d] hl;have hTH:=H_ hT;have v5:=b2.cell 0 rfl;have v6:=b2.frozen 0;subst k1;have k3:W2.setCell ⟨bt,0,none⟩ (.slice A (l.length+3) c)=W3:=k3;have runA:(Builtin.append_ #[45,45] 45 #[v,.slice (some ⟨wa.heap.size,0,none⟩) 3 3]).run Tryz.prog (wa.alloc (.cells #[.int .i64 f,.int .i64 e,.int .i64 d] 2))= .ok (.slice A (l.length+3) c) W2:=runA;clear h hT ha b2 Bwa hbwa;go_enter Tryz.func233,Tryz.ntmps233;go_wp2_with (at_builtin;refine wpList_append_run ?a1 (.tmp 3) (.tmp 10) 45 ?a2 ?a3 ?a4 runA ?_)
 all_goals try rfl
 refine bodyPost_end (results_none rfl _ _ _) rfl ?_;exact⟨⟨_,rfl⟩,_,hTH.out⟩
theorem snums_any (X:SheetP) (V:SV) (we:World) (hr:RS we X V) (hf:FewS X):
 Calls Tryz.prog 168 #[sVal X V] we fun e w'=> ∃ A n c,e= .returned (.slice A n c)∧Rd w' 1 (numE .i64) A n (numsL X)∧n≤c∧c≤9223372036854775807∧Below we.heap.size we w':=by
 obtain⟨a0,aP,aD,aR,aT,aH,n0,nP,nD,nR,nT,nH,c0,cP,cD,cR,cT,cH⟩:=V;have LP:Hid (X.paths.length=nP):=hr.rP.len;have LD:Hid (X.doors.length=nD):=hr.rD.len;have LR:Hid (X.routes.length=nR):=hr.rR.len;have LT:Hid (X.trips.length=nT):=hr.rT.len;have LH:Hid (X.hazs.length=nH):=hr.rH.len;have L0:Hid (X.stops.length=n0):=hr.r0.len;have hNb:=H_ (numsL_le hf);have mP:nP≤100000:=by have:=hf.sP;have:=LP.out;omega
 have mD:nD≤100000:=by have:=hf.sD;have:=LD.out;omega
 have mR:nR≤100000:=by have:=hf.sR;have:=LR.out;omega
 have mT:nT≤100000:=by have:=hf.sT;have:=LT.out;omega
 have mH:nH≤100000:=by have:=hf.sH;have:=LH.out;omega
 have m0:n0≤100000:=by have:=hf.s0;have:=L0.out;omega
 obtain⟨hz,hhz⟩: ∃ q,X.hz=q:=⟨_,rfl⟩
 simp only [sVal];rw [hhz];obtain⟨w1,b1,hw1,hbE1,hb1,hup,B1,hge1⟩:=enter1 we 136 [.int .i64 hz,.slice a0 n0 c0,.slice aP nP cP,.slice aD nD cD,.slice aR nR cR,.slice aT nT cT,.slice aH nH cH];have hR:=H_ (hr.below hup.out);have p0:=B1.cell 0 rfl;have p1:=B1.cell 1 rfl;have B1:=H_ B1;rename_i gX;clear gX hr hf hb1
 have hNS:Hid (NS w1 (w1.heap.size+1) (.slice (some ⟨w1.heap.size,0,none⟩) 1 1) [hz] ((w1.alloc (.cells #[.int .i64 hz] 2)).alloc (.cells #[.slice (some ⟨w1.heap.size,0,none⟩) 1 1] 45))):=by
  have h2:=Bx.new (w1.alloc (.cells #[.int .i64 hz] 2)) 45 [.slice (some ⟨w1.heap.size,0,none⟩) 1 1];have hsz:(w1.alloc (.cells #[.int .i64 hz] 2)).heap.size =w1.heap.size+1:=by simp
  rw [hsz] at h2;have h0:=below_alloc w1 #[.int .i64 hz] 2;have h1:=below_alloc (w1.alloc (.cells #[.int .i64 hz] 2)) #[.slice (some ⟨w1.heap.size,0,none⟩) 1 1] 45;exact⟨h2,own_below (own_lit1 w1 w1.heap.size 2 (.int .i64 hz) (Nat.le_refl _)) h1,u_ h0 h1,Nat.le_succ _⟩
 obtain⟨bt,hbt⟩: ∃ q,w1.heap.size+1=q:=⟨_,rfl⟩
 obtain⟨wl,hwl⟩: ∃ q,w1.alloc (.cells #[.int .i64 hz] 2)=q:=⟨_,rfl⟩
 have hwls:wl.heap.size=bt:=by rw [←hwl,←hbt];simp
 obtain⟨wt,hwt⟩: ∃ q,wl.alloc (.cells #[.slice (some ⟨w1.heap.size,0,none⟩) 1 1] 45)=q:=⟨_,rfl⟩
 rw [hwl,hwt,hbt] at hNS;have hl:Hid ([hz]++((X.paths.drop 0).flatMap pI++(X.doors.flatMap dI++(X.routes.flatMap rI++(X.trips.flatMap tI++(X.hazs.flatMap hI++[])))))=numsL X):=by show _=_;unfold numsL;rw [hhz];rfl
 go_enter Tryz.func168,Tryz.ntmps168;have hb:=hNS;go_upto_region 3 with fail;clear hw1 hbE1 p0 p1 hNS hhz hwl hwt hbt hwls;have y2:=(B1.out.below hb.out.bel).cell 2 rfl;go_wp2_with fail;clear y2;go_loopw [22] (fun iv wr=> ∃ (i:Nat) (v:Value) (l:List Int),i≤nP∧iv= .int .i64 i∧Hid (l++((X.paths.drop i).flatMap pI++(X.doors.flatMap dI++(X.routes.flatMap rI++(X.trips.flatMap tI++(X.hazs.flatMap hI++[])))))=numsL X)∧Hid (NS w1 bt v l wr)) (fun iv _=>nP-(intOf iv).toNat)
 case atStart=>exact⟨0,_,_,Nat.zero_le _,rfl,hl,hb⟩
 case round=>
  clear hl hb;obtain⟨i,v,l,hi,rfl,hl,hN⟩:=hrel;have hb:=H_ hN.out.bel;by_cases hin:i<nP
  ·have hinI:(i:Int)<(nP:Int):=by omega
   obtain⟨b,o,⟨x1,x2,x3,x4⟩,rfl,hbs,hx,hc⟩:=((hR.out.rP).below hb.out).get hin;have f0:=hc 0 _ rfl;have f1:=hc 1 _ rfl;have f2:=hc 2 _ rfl;have f3:=hc 3 _ rfl;simp only [Nat.add_zero] at f0;have hl2:(l++[x4])++((X.paths.drop (i+1)).flatMap pI++(X.doors.flatMap dI++(X.routes.flatMap rI++(X.trips.flatMap tI++(X.hazs.flatMap hI++[])))))=numsL X:=by rw [←hl.out,drop_at hx];simp [pI]
   have hlen1:Hid (l.length+1≤1099511627776):=by
    have h:=congrArg List.length hl2;simp only [List.length_append,List.length_cons,List.length_nil] at h;have:=hNb.out;show _≤_;omega
   have hl2:=H_ hl2;rename_i hl2X;clear hl2X hx hc hl;obtain⟨wa,ba,hwa,hbaE,hbwa,Bwa⟩:=box1 wr 171 [.string x1,.string x2,.string x3,.int .i64 x4];obtain⟨q0,q1,q2,q3⟩:=c_4 Bwa;have hNa:=hN.out.below hbwa;have p9:=hNa.bx.cell 0 rfl;clear hbwa Bwa hN hb;obtain⟨W1,W2,W3,A9,c9,k1,k3,b2',runA,hT3,hkp⟩:=hNa.lits [x4] (by have:=hlen1.out;simp only [List.length_cons,List.length_nil];omega);replace hT3:=H_ hT3;have v5:=b2'.cell 0 rfl;have v6:=b2'.frozen 0;subst k1;have k3:W2.setCell ⟨bt,0,none⟩ (.slice A9 (l.length+1) c9)=W3:=k3;have runA:(Builtin.append_ #[45,45] 45 #[v,.slice (some ⟨wa.heap.size,0,none⟩) 1 1]).run Tryz.prog (wa.alloc (.cells #[.int .i64 x4] 2))= .ok (.slice A9 (l.length+1) c9) W2:=runA;clear b2';clear hNa hlen1 hkp;go_wp2_with (at_builtin;refine wpList_append_run ?P1 (.tmp 26) (.tmp 29) 45 ?P2 ?P3 ?P4 runA ?_)
   all_goals try rfl
   go_roundw
   case rel=>exact⟨i+1,_,_,by omega,by go_num,hl2,hT3⟩
   case measure=>simp [intOf];omega
  ·obtain rfl:nP=i:=by omega
   have hl3:=hl.out;clear hb;have hb:=hN;clear hN;rw [List.drop_eq_nil_of_le (by rw [LP.out];omega),List.flatMap_nil,List.nil_append] at hl3;replace hl3:=H_ hl3;clear hl;have hl:=hl3;clear hl3 hi hin;have y3:=(B1.out.below hb.out.bel).cell 3 rfl;go_wp2_with fail;clear y3;go_loopw [35] (fun iv wr=> ∃ (i:Nat) (v:Value) (l:List Int),i≤nD∧iv= .int .i64 i∧Hid (l++((X.doors.drop i).flatMap dI++(X.routes.flatMap rI++(X.trips.flatMap tI++(X.hazs.flatMap hI++[]))))=numsL X)∧Hid (NS w1 bt v l wr)) (fun iv _=>nD-(intOf iv).toNat)
   case atStart=>exact⟨0,_,_,Nat.zero_le _,rfl,hl,hb⟩
   case round=>
    clear hl hb;obtain⟨i,v,l,hi,rfl,hl,hN⟩:=hrel;have hb:=H_ hN.out.bel;by_cases hin:i<nD
    ·have hinI:(i:Int)<(nD:Int):=by omega
     obtain⟨b,o,⟨x1,x2,x3,x4,x5,x6,x7⟩,rfl,hbs,hx,hc⟩:=((hR.out.rD).below hb.out).get hin;have f0:=hc 0 _ rfl;have f1:=hc 1 _ rfl;have f2:=hc 2 _ rfl;have f3:=hc 3 _ rfl;have f4:=hc 4 _ rfl;have f5:=hc 5 _ rfl;have f6:=hc 6 _ rfl;simp only [Nat.add_zero] at f0;have hl2:(l++[x4,x5,x6,x7])++((X.doors.drop (i+1)).flatMap dI++(X.routes.flatMap rI++(X.trips.flatMap tI++(X.hazs.flatMap hI++[]))))=numsL X:=by rw [←hl.out,drop_at hx];simp [dI]
     have hlen1:Hid (l.length+4≤1099511627776):=by
      have h:=congrArg List.length hl2;simp only [List.length_append,List.length_cons,List.length_nil] at h;have:=hNb.out;show _≤_;omega
     have hl2:=H_ hl2;rename_i hl2X;clear hl2X hx hc hl;obtain⟨wa,ba,hwa,hbaE,hbwa,Bwa⟩:=box1 wr 173 [.string x1,.string x2,.string x3,.int .i64 x4,.int .i64 x5,.int .i64 x6,.int .i64 x7];obtain⟨q0,q1,q2,q3,q4,q5,q6⟩:=c_7 Bwa;have hNa:=hN.out.below hbwa;have p9:=hNa.bx.cell 0 rfl;have hN0:=hN;clear hN hb;obtain⟨W1,W2,W3,A9,c9,k1,k3,b2',runA,hT3,hkp⟩:=hNa.lits [x4] (by have:=hlen1.out;simp only [List.length_cons,List.length_nil];omega);replace hT3:=H_ hT3;have v5:=b2'.cell 0 rfl;have v6:=b2'.frozen 0;subst k1;have k3:W2.setCell ⟨bt,0,none⟩ (.slice A9 (l.length+1) c9)=W3:=k3;have runA:(Builtin.append_ #[45,45] 45 #[v,.slice (some ⟨wa.heap.size,0,none⟩) 1 1]).run Tryz.prog (wa.alloc (.cells #[.int .i64 x4] 2))= .ok (.slice A9 (l.length+1) c9) W2:=runA;clear b2';have hkeep:=hkp ba _ _ (by decide) (by have h1:=hN0.out.bx.lt;have h2:wr.heap.size=ba:=hbaE;omega) Bwa;have z4:=hkeep.cell 4 rfl
     have z5:=hkeep.cell 5 rfl;have z6:=hkeep.cell 6 rfl;clear hkp hN0;clear hNa hbwa Bwa;go_wp2_with (at_builtin;refine wpList_append_run ?D1 (.tmp 39) (.tmp 42) 45 ?D2 ?D3 ?D4 runA ?_)
     all_goals try rfl
     refine(snums1_any w1 bt _ _ x5 x6 x7 _ hT3.out (by have:=hlen1.out;simp only [List.length_append,List.length_cons,List.length_nil];omega)).mono ?_;rintro e w5 ⟨⟨q,rfl⟩,v',hT4⟩;rw [List.append_assoc] at hT4;replace hT4:=H_ hT4;clear hlen1 hkeep hT3 z4 z5 z6;have hT3:=hT4;clear hT4;go_wp2_with fail;go_roundw
     case rel=>exact⟨i+1,_,_,by omega,by go_num,hl2,hT3⟩
     case measure=>simp [intOf];omega
    ·obtain rfl:nD=i:=by omega
     have hl3:=hl.out;clear hb;have hb:=hN;clear hN;rw [List.drop_eq_nil_of_le (by rw [LD.out];omega),List.flatMap_nil,List.nil_append] at hl3;replace hl3:=H_ hl3;clear hl;have hl:=hl3;clear hl3 hi hin;have y4:=(B1.out.below hb.out.bel).cell 4 rfl;go_wp2_with fail;clear y4;go_loopw [52] (fun iv wr=> ∃ (i:Nat) (v:Value) (l:List Int),i≤nR∧iv= .int .i64 i∧Hid (l++((X.routes.drop i).flatMap rI++(X.trips.flatMap tI++(X.hazs.flatMap hI++[])))=numsL X)∧Hid (NS w1 bt v l wr)) (fun iv _=>nR-(intOf iv).toNat)
     case atStart=>exact⟨0,_,_,Nat.zero_le _,rfl,hl,hb⟩
     case round=>
      clear hl hb;obtain⟨i,v,l,hi,rfl,hl,hN⟩:=hrel;have hb:=H_ hN.out.bel;by_cases hin:i<nR
      ·have hinI:(i:Int)<(nR:Int):=by omega
       obtain⟨b,o,r,rfl,hbs,hx,f0,⟨s1,m1,d1,f1,rs1,_,_⟩,⟨s2,m2,d2,f2,rs2,_,_⟩,⟨s3,m3,d3,f3,rs3,_,_⟩⟩:=hR.out.rR.get hin;replace f0:=c_ hN.out.bel hbs f0;replace f1:=c_ hN.out.bel hbs f1;replace f2:=c_ hN.out.bel hbs f2;replace f3:=c_ hN.out.bel hbs f3;have hl2:(l++r.rides++r.stays)++((X.routes.drop (i+1)).flatMap rI++(X.trips.flatMap tI++(X.hazs.flatMap hI++[])))=numsL X:=by rw [←hl.out,drop_at hx];simp [rI]
       have hlen1:Hid (l.length+m2+m3≤1099511627776):=by
        have h:=congrArg List.length hl2;simp only [List.length_append] at h;have:=hNb.out;have:=rs2.len;have:=rs3.len;show _≤_;omega
       have hl2:=H_ hl2;rename_i hl2X;clear hl2X hx hl rs1;obtain⟨wa,ba,hwa,hbaE,hbwa,Bwa⟩:=box1 wr 177 [.string r.name,.slice s1 m1 d1,.slice s2 m2 d2,.slice s3 m3 d3];obtain⟨q0,q1,q2,q3⟩:=c_4 Bwa;have hba:Hid (ba≠bt):=by have h1:=hN.out.bx.lt;have h2:wr.heap.size=ba:=hbaE;show _≠_;omega
       have hNa:=hN.out.below hbwa;have R2:=H_ rs2;have R3:=H_ rs3;have BwH:=H_ Bwa;have hbw:=H_ hNa.bel;have NH:=H_ hNa;clear hN hb hbwa rs2 rs3 Bwa hNa;go_wp2_with fail;go_upto_region 17 with fail;refine wp_region_lateC (KB2 w1.heap.size wa ba 177 [.string r.name,.slice s1 m1 d1,.slice s2 m2 d2,.slice s3 m3 d3] bt 45 [v]) [0,0,0,3,0,0,2,2] (by kernel_rfl) (by kernel_rfl) ⟨⟨rfl,rfl,rfl,Nat.le_refl _,fun _ _=>rfl⟩,BwH.out,NH.out.bx⟩ (KB2.closed hbw.out.size) ?_;intro C hC;simp only [pickK,pickT,Nat.reduceLeDiff,Nat.reduceEqDiff, ↓reduceIte]
       repeat(go_big_quiet_step (first
        |(intro _;with_reducible rfl)
        |(intro hc;have m0:=hc.bx.cell 2 rfl;have m1:=hc.bx.cell 3 rfl;have m2:=hc.by'.cell 0 rfl;simp only [m0,m1,m2,Result.andThen];exact⟨trivial,rfl⟩)))
       refine wpQuiet_nil ?_;clear hC;intro C' hC';refine wpQuiet_nil ?_;clear hC';intro wq hbq;replace hbq:Below wa.heap.size wa wq:=by rw [hbq];exact⟨rfl,rfl,rfl,Nat.le_refl _,fun _ _=>rfl⟩
       have hNq:=NH.out.below hbq;have Bq:=BwH.out.below hbq;have hbq2:=hNq.bel;obtain⟨v8,w8,hrun8,own8,hb8,hK8⟩:=own_rowK (enc:=numE .i64) Tryz.underlying45 info_tI64 rfl (by decide) num_len num_one d2 hNq.own (R2.out.below hbq2) (by have:=hlen1.out;omega) (by decide) hbq2.size;have hK8':=H_ (And.intro (hK8 _ _ _ (by decide) Bq) (hK8 _ _ _ (by decide) hNq.bx));have hbq8:=hbq2.trans hb8;obtain⟨v9,w9,hrun9,own9,hb9,hK9⟩:=own_rowK (enc:=numE .i64) Tryz.underlying45 info_tI64 rfl (by decide) num_len num_one d3 own8 (R3.out.below hbq8) (by have:=hlen1.out;rw [List.length_append,R2.out.len];omega) (by decide) hbq8.size;have hB9:=hK9 _ _ _ (by decide) hK8'.out.2;obtain⟨A9,c9,e9,_⟩:=Rd.of_own num_len rfl own9;subst e9
       have hT3:Hid (NS w1 bt (.slice A9 (l++r.rides++r.stays).length c9) (l++r.rides++r.stays) (w9.setCell ⟨bt,0,none⟩ (.slice A9 (l++r.rides++r.stays).length c9))):=by
        have t9:But w9 (w9.setCell ⟨bt,0,none⟩ (.slice A9 (l++r.rides++r.stays).length c9)) [bt]:=But.of_set _ _ _ (by simp);have h9:=hbq8.trans hb9;exact⟨hB9.set 0 _,own_box own9 hB9 (by decide) t9,h9.trans (t9.below h9.size (fun y hy=>by simp only [List.mem_singleton] at hy;subst hy;exact NH.out.ge)),NH.out.ge⟩
       have v5:=hB9.cell 0 rfl;have v6:=hB9.frozen 0;obtain⟨W3,k3⟩: ∃ q,w9.setCell ⟨bt,0,none⟩ (.slice A9 (l++r.rides++r.stays).length c9)=q:=⟨_,rfl⟩
       rw [k3] at hT3;obtain⟨n9,hn9⟩: ∃ q,(l++r.rides++r.stays).length =q:=⟨_,rfl⟩
       rw [hn9] at hrun9 k3 hT3;have hcl8:=H_ ((hbq.mono hbw.out.size).trans hb8);clear hNq own8 own9 hb8 hb9 hK8 hK9 Bq hbq2 hbq8 hlen1 hB9 hn9 NH BwH;refine wpTail4_one (by decide) ?_;go_wp2_with (at_builtin;refine wpList_append_run ?K1 (.tmp 56) (.tmp 58) 45 ?K2 ?K3 ?K4 hrun8 ?_)
       all_goals try rfl
       refine⟨fun _=>⟨hcl8.out,hK8'.out.1,hK8'.out.2⟩,?_⟩;refine wpTail4_list _ _ _ (by simp) ?_;simp only [List.map_cons,List.map_nil];go_wp2_with (at_builtin;refine wpList_append_run ?L1 (.tmp 59) (.tmp 61) 45 ?L2 ?L3 ?L4 hrun9 ?_)
       all_goals try rfl
       go_roundw
       case rel=>exact⟨i+1,_,_,by omega,by go_num,hl2,hT3⟩
       case measure=>simp [intOf];omega
      ·obtain rfl:nR=i:=by omega
       have hl3:=hl.out;clear hb;have hb:=hN;clear hN;rw [List.drop_eq_nil_of_le (by rw [LR.out];omega),List.flatMap_nil,List.nil_append] at hl3;replace hl3:=H_ hl3;clear hl;have hl:=hl3;clear hl3 hi hin;have y5:=(B1.out.below hb.out.bel).cell 5 rfl;go_wp2_with fail;clear y5;go_loopw [67] (fun iv wr=> ∃ (i:Nat) (v:Value) (l:List Int),i≤nT∧iv= .int .i64 i∧Hid (l++((X.trips.drop i).flatMap tI++(X.hazs.flatMap hI++[]))=numsL X)∧Hid (NS w1 bt v l wr)) (fun iv _=>nT-(intOf iv).toNat)
       case atStart=>exact⟨0,_,_,Nat.zero_le _,rfl,hl,hb⟩
       case round=>
        clear hl hb;obtain⟨i,v,l,hi,rfl,hl,hN⟩:=hrel;have hb:=H_ hN.out.bel;by_cases hin:i<nT
        ·have hinI:(i:Int)<(nT:Int):=by omega
         obtain⟨b,o,⟨x1,x2,x3,x4,x5⟩,rfl,hbs,hx,hc⟩:=((hR.out.rT).below hb.out).get hin;have f0:=hc 0 _ rfl;have f1:=hc 1 _ rfl;have f2:=hc 2 _ rfl;have f3:=hc 3 _ rfl;have f4:=hc 4 _ rfl;simp only [Nat.add_zero] at f0;have hl2:(l++[x3,x4,x5])++((X.trips.drop (i+1)).flatMap tI++(X.hazs.flatMap hI++[]))=numsL X:=by rw [←hl.out,drop_at hx];simp [tI]
         have hlen1:Hid (l.length+3≤1099511627776):=by
          have h:=congrArg List.length hl2;simp only [List.length_append,List.length_cons,List.length_nil] at h;have:=hNb.out;show _≤_;omega
         have hl2:=H_ hl2;rename_i hl2X;clear hl2X hx hc hl;obtain⟨wa,ba,hwa,hbaE,hbwa,Bwa⟩:=box1 wr 179 [.string x1,.string x2,.int .i64 x3,.int .i64 x4,.int .i64 x5];obtain⟨q0,q1,q2,q3,q4⟩:=c_5 Bwa;have hNa:=hN.out.below hbwa;have p9:=hNa.bx.cell 0 rfl;clear hbwa Bwa hN hb;obtain⟨W1,W2,W3,A9,c9,k1,k3,b2',runA,hT3,hkp⟩:=hNa.lits [x3,x4,x5] (by have:=hlen1.out;simp only [List.length_cons,List.length_nil];omega);replace hT3:=H_ hT3;have v5:=b2'.cell 0 rfl;have v6:=b2'.frozen 0;subst k1;have k3:W2.setCell ⟨bt,0,none⟩ (.slice A9 (l.length+3) c9)=W3:=k3;have runA:(Builtin.append_ #[45,45] 45 #[v,.slice (some ⟨wa.heap.size,0,none⟩) 3 3]).run Tryz.prog (wa.alloc (.cells #[.int .i64 x3,.int .i64 x4,.int .i64 x5] 2))= .ok (.slice A9 (l.length+3) c9) W2:=runA;clear b2';clear hNa hlen1 hkp;go_wp2_with (at_builtin;refine wpList_append_run ?T1 (.tmp 71) (.tmp 78) 45 ?T2 ?T3 ?T4 runA ?_)
         all_goals try rfl
         go_roundw
         case rel=>exact⟨i+1,_,_,by omega,by go_num,hl2,hT3⟩
         case measure=>simp [intOf];omega
        ·obtain rfl:nT=i:=by omega
         have hl3:=hl.out;clear hb;have hb:=hN;clear hN;rw [List.drop_eq_nil_of_le (by rw [LT.out];omega),List.flatMap_nil,List.nil_append] at hl3;replace hl3:=H_ hl3;clear hl;have hl:=hl3;clear hl3 hi hin;have y6:=(B1.out.below hb.out.bel).cell 6 rfl;go_wp2_with fail;clear y6;go_loopw [84] (fun iv wr=> ∃ (i:Nat) (v:Value) (l:List Int),i≤nH∧iv= .int .i64 i∧Hid (l++((X.hazs.drop i).flatMap hI++([]))=numsL X)∧Hid (NS w1 bt v l wr)) (fun iv _=>nH-(intOf iv).toNat)
         case atStart=>exact⟨0,_,_,Nat.zero_le _,rfl,hl,hb⟩
         case round=>
          clear hl hb;obtain⟨i,v,l,hi,rfl,hl,hN⟩:=hrel;have hb:=H_ hN.out.bel;by_cases hin:i<nH
          ·have hinI:(i:Int)<(nH:Int):=by omega
           obtain⟨b,o,⟨x1,x2,x3,x4,x5⟩,rfl,hbs,hx,hc⟩:=((hR.out.rH).below hb.out).get hin;have f0:=hc 0 _ rfl;have f1:=hc 1 _ rfl;have f2:=hc 2 _ rfl;have f3:=hc 3 _ rfl;have f4:=hc 4 _ rfl;simp only [Nat.add_zero] at f0;have hl2:(l++[x3,x4,x5])++((X.hazs.drop (i+1)).flatMap hI++([]))=numsL X:=by rw [←hl.out,drop_at hx];simp [hI]
           have hlen1:Hid (l.length+3≤1099511627776):=by
            have h:=congrArg List.length hl2;simp only [List.length_append,List.length_cons,List.length_nil] at h;have:=hNb.out;show _≤_;omega
           have hl2:=H_ hl2;rename_i hl2X;clear hl2X hx hc hl;obtain⟨wa,ba,hwa,hbaE,hbwa,Bwa⟩:=box1 wr 181 [.string x1,.string x2,.int .i64 x3,.int .i64 x4,.int .i64 x5];obtain⟨q0,q1,q2,q3,q4⟩:=c_5 Bwa;have hNa:=H_ (hN.out.below hbwa);clear hbwa Bwa hN hb;go_wp2_with fail;refine(snums1_any w1 bt v l x3 x4 x5 wa hNa.out hlen1.out).mono ?_;rintro e w5 ⟨⟨q,rfl⟩,v',hT3⟩;replace hT3:=H_ hT3;clear hlen1 hNa;go_wp2_with fail;go_roundw
           case rel=>exact⟨i+1,_,_,by omega,by go_num,hl2,hT3⟩
           case measure=>simp [intOf];omega
          ·obtain rfl:nH=i:=by omega
           have hl3:=hl.out;clear hb;have hb:=hN;clear hN;rw [List.drop_eq_nil_of_le (by rw [LH.out];omega),List.flatMap_nil,List.nil_append] at hl3;replace hl3:=H_ hl3;clear hl;have hl:=hl3;clear hl3 hi hin;have hN:=hb.out;obtain⟨A,c,rfl,r1,r2,r3⟩:=Rd.of_own num_len rfl hN.own;have p9:=hN.bx.cell 0 rfl;have hN:=H_ hN;rename_i gN;clear gN hb;go_wp2_with fail;go_returns;have hll:=hl.out;rw [List.append_nil] at hll;subst hll;exact⟨A,_,c,rfl,r1,r2,r3,b_ hup hN.out.bel⟩
theorem pin_any (A:Option Addr) (n c:Nat) (x:Int) (w:World):Calls Tryz.prog 117 #[.slice A n c,.int .i64 x] w fun e w'=>e= .returned (.bool (inB x n))∧Below w.heap.size w w':=by
 by_cases h0:0≤x
 ·have hres:Hid (inB x n=decide (x<(n:Int))):=by show _=_;unfold inB;rw [T_ h0];rfl
  rw [hres.out];go_enter Tryz.func117,Tryz.ntmps117
  go_wp2
  go_returns;exact⟨by simp,Below.refl _ _⟩
 ·have hres:Hid (inB x n=false):=by show _=_;unfold inB;rw [F_ h0];rfl
  rw [hres.out];go_enter Tryz.func117,Tryz.ntmps117
  go_wp2
  go_returns;exact⟨by simp,Below.refl _ _⟩
structure WC (w:World) (b3 b4 b5:Nat) (V:WV):Prop where
 c4:w.cell? ⟨b4,0,none⟩=some (.func (.func 117) #[] #[])
 c5:w.cell? ⟨b5,0,none⟩=some (.func (.func 118) #[] #[.pointer (some ⟨b4,0,none⟩),.pointer (some ⟨b3,0,none⟩)])
 n0:w.cell? ⟨b3,0,none⟩=some (.slice V.a0 V.n0 V.c0)
 n1:w.cell? ⟨b3,1,none⟩=some (.slice V.a1 V.n1 V.c1)
 n3:w.cell? ⟨b3,3,none⟩=some (.slice V.a3 V.n3 V.c3)
theorem up_cell {w w':World} {b o:Nat} {v:Value} (k:Below w.heap.size w w') (h:w.cell? ⟨b,o,none⟩=some v):w'.cell? ⟨b,o,none⟩=some v:=(k.cell (p:=⟨b,o,none⟩) (World.block_lt_of_cell? w ⟨b,o,none⟩ h)).trans h
theorem WC.below {w w':World} {b3 b4 b5:Nat} {V:WV} (h:WC w b3 b4 b5 V) (k:Below w.heap.size w w'):WC w' b3 b4 b5 V:=⟨up_cell k h.c4,up_cell k h.c5,up_cell k h.n0,up_cell k h.n1,up_cell k h.n3⟩
theorem podd_any (b3 b4 b5:Nat) (V:WV) (x:Int) (w:World) (h:WC w b3 b4 b5 V):Calls Tryz.prog 118 #[.int .i64 x,.pointer (some ⟨b4,0,none⟩),.pointer (some ⟨b3,0,none⟩)] w fun e w'=>e= .returned (.bool (!inB x V.n0))∧Below w.heap.size w w':=by
 have c4:=h.c4;have n0:=h.n0;clear h;go_enter Tryz.func118,Tryz.ntmps118;go_wp2_with fail;refine(pin_any V.a0 V.n0 V.c0 x w).mono ?_;rintro e w' ⟨rfl,hb⟩;have hbH:=H_ hb;clear hb;go_wp2_with fail;go_returns;exact⟨rfl,hbH.out⟩
theorem podd3_any (b3 b4 b5:Nat) (V:WV) (p:Int×Int×Int) (we:World) (h:WC we b3 b4 b5 V):Calls Tryz.prog 120 #[.agg (tripE p).toArray,.pointer (some ⟨b5,0,none⟩)] we fun e w'=>e= .returned (.bool (!(inB p.1 V.n0&&inB p.2.1 V.n0)))∧Below we.heap.size we w':=by
 obtain⟨x1,x2,x3⟩:=p;simp only [tripE];obtain⟨wa,ba,hwa,hbaE,hbwa,Bwa⟩:=box1 we 99 [.int .i64 x1,.int .i64 x2,.int .i64 x3];have q0:=Bwa.cell 0 rfl;have q1:=Bwa.cell 1 rfl;have hW:=H_ (h.below hbwa);have c5:=hW.out.c5;have hbaH:=H_ hbwa;clear Bwa h;have hodd:=H_ (fun(w:World) (x:Int) h=>podd_any b3 b4 b5 V x w h)
 cases h1:inB x1 V.n0 with
 |false=>
  clear hbwa;go_enter Tryz.func120,Tryz.ntmps120;go_wp2_with fail;refine(hodd.out wa x1 hW.out).mono ?_;rintro e w2 ⟨rfl,hb2⟩;rw [h1];have hbF:=h_ hbaH hb2;clear hb2;go_wp2_with fail;go_returns;exact⟨by simp,hbF.out⟩
 |true=>
  clear hbwa;go_enter Tryz.func120,Tryz.ntmps120;go_wp2_with fail;refine(hodd.out wa x1 hW.out).mono ?_;rintro e w2 ⟨rfl,hb2⟩;rw [h1];have hW2:=H_ (hW.out.below hb2);have c5':=hW2.out.c5;have q1':=up_cell hb2 q1;have hb2H:=H_ hb2;clear hb2;go_wp2_with fail;refine(hodd.out w2 x2 hW2.out).mono ?_;rintro e w3 ⟨rfl,hb3⟩;have hbF:=h_ hbaH (b_ hb2H hb3);clear hb3;go_wp2_with fail;go_returns;exact⟨by simp,hbF.out⟩
theorem podd4_any (b3 b4 b5:Nat) (V:WV) (p:DoorP) (we:World) (h:WC we b3 b4 b5 V):Calls Tryz.prog 122 #[.agg (doorE p).toArray,.pointer (some ⟨b5,0,none⟩)] we fun e w'=>e= .returned (.bool (!(inB p.a V.n0&&inB p.b V.n0)))∧Below we.heap.size we w':=by
 obtain⟨x1,x2,x3,x4,x5,x6⟩:=p;simp only [doorE];obtain⟨wa,ba,hwa,hbaE,hbwa,Bwa⟩:=box1 we 104 [.int .i64 x1,.int .i64 x2,.int .i64 x3,.int .i64 x4,.int .i64 x5,.int .i64 x6];have q0:=Bwa.cell 0 rfl;have q1:=Bwa.cell 1 rfl;have hW:=H_ (h.below hbwa);have c5:=hW.out.c5;have hbaH:=H_ hbwa;clear Bwa h;have hodd:=H_ (fun(w:World) (x:Int) h=>podd_any b3 b4 b5 V x w h)
 cases h1:inB x1 V.n0 with
 |false=>
  clear hbwa;go_enter Tryz.func122,Tryz.ntmps122;go_wp2_with fail;refine(hodd.out wa x1 hW.out).mono ?_;rintro e w2 ⟨rfl,hb2⟩;rw [h1];have hbF:=h_ hbaH hb2;clear hb2;go_wp2_with fail;go_returns;exact⟨by simp,hbF.out⟩
 |true=>
  clear hbwa;go_enter Tryz.func122,Tryz.ntmps122;go_wp2_with fail;refine(hodd.out wa x1 hW.out).mono ?_;rintro e w2 ⟨rfl,hb2⟩;rw [h1];have hW2:=H_ (hW.out.below hb2);have c5':=hW2.out.c5;have q1':=up_cell hb2 q1;have hb2H:=H_ hb2;clear hb2;go_wp2_with fail;refine(hodd.out w2 x2 hW2.out).mono ?_;rintro e w3 ⟨rfl,hb3⟩;have hbF:=h_ hbaH (b_ hb2H hb3);clear hb3;go_wp2_with fail;go_returns;exact⟨by simp,hbF.out⟩
theorem podd5_any (b3 b4 b5:Nat) (V:WV) (r:RE3) (D:List Int) (we:World) (h:WC we b3 b4 b5 V) (hd:Rd we 1 (numE .i64) r.1.1 r.1.2.1 D) (hn:r.1.2.1≤1000000):Calls Tryz.prog 124 #[.agg (re3E r).toArray,.pointer (some ⟨b5,0,none⟩)] we fun e w'=>e= .returned (.bool (D.any fun s=> !inB s V.n0))∧Below we.heap.size we w':=by
 obtain⟨⟨x1,x2,x3⟩,⟨x4,x5,x6⟩,⟨x7,x8,x9⟩⟩:=r;simp only [re3E,SlV.v] at*;obtain⟨wa,ba,hwa,hbaE,hbwa,Bwa⟩:=box1 we 51 [.slice x1 x2 x3,.slice x4 x5 x6,.slice x7 x8 x9];have q0:=Bwa.cell 0 rfl;have hW:=H_ (h.below hbwa);have c5:=hW.out.c5;have hbaH:=H_ hbwa;have hc:=H_ (ctfI_any 118 #[.pointer (some ⟨b4,0,none⟩),.pointer (some ⟨b3,0,none⟩)] (enters_of Tryz.func118 (by kernel_rfl) rfl) (fun s=> !inB s V.n0) x1 x2 x3 D wa (hd.below hbwa) (by omega) (fun W x hb _=>podd_any b3 b4 b5 V x W (hW.out.below hb)));clear Bwa h hd hbwa;go_enter Tryz.func124,Tryz.ntmps124;go_wp2_with fail;refine hc.out.mono ?_;rintro e w2 ⟨rfl,hb2⟩;have hbF:=h_ hbaH hb2;clear hb2;go_wp2_with fail;go_returns;exact⟨rfl,hbF.out⟩
theorem podd6_any (b3 b4 b5:Nat) (V:WV) (p:TripP) (we:World) (h:WC we b3 b4 b5 V):Calls Tryz.prog 127 #[.agg (tripP p).toArray,.pointer (some ⟨b4,0,none⟩),.pointer (some ⟨b3,0,none⟩)] we fun e w'=>e= .returned (.bool (!inB p.route V.n3))∧Below we.heap.size we w':=by
 obtain⟨x1,x2,x3,x4⟩:=p;simp only [tripP];obtain⟨wa,ba,hwa,hbaE,hbwa,Bwa⟩:=box1 we 53 [.int .i64 x1,.int .i64 x2,.int .i64 x3,.int .i64 x4];have q0:=Bwa.cell 0 rfl;have hW:=H_ (h.below hbwa);have c4:=hW.out.c4;have n3:=hW.out.n3;have hbaH:=H_ hbwa;clear Bwa h hbwa;go_enter Tryz.func127,Tryz.ntmps127;go_wp2_with fail;refine(pin_any V.a3 V.n3 V.c3 x1 wa).mono ?_;rintro e w2 ⟨rfl,hb2⟩;have hbF:=h_ hbaH hb2;clear hb2;go_wp2_with fail;go_returns;exact⟨rfl,hbF.out⟩
theorem podd7_any (b3 b4 b5:Nat) (V:WV) (p:HazP) (we:World) (h:WC we b3 b4 b5 V):Calls Tryz.prog 129 #[.agg (hazE p).toArray,.pointer (some ⟨b5,0,none⟩),.pointer (some ⟨b4,0,none⟩),.pointer (some ⟨b3,0,none⟩)] we fun e w'=>e= .returned (.bool (!inB p.on (if p.stop then V.n0 else V.n1)))∧Below we.heap.size we w':=by
 obtain⟨x1,x2,x3,x4,x5⟩:=p;simp only [hazE];obtain⟨wa,ba,hwa,hbaE,hbwa,Bwa⟩:=box1 we 108 [.bool x1,.int .i64 x2,.int .i64 x3,.int .i64 x4,.int .i64 x5];have q0:=Bwa.cell 0 rfl;have q1:=Bwa.cell 1 rfl;have hW:=H_ (h.below hbwa);have c4:=hW.out.c4;have c5:=hW.out.c5;have n1:=hW.out.n1;have hbaH:=H_ hbwa;clear Bwa h hbwa
 cases x1 with
 |true=>
  go_enter Tryz.func129,Tryz.ntmps129;go_wp2_with fail;refine(podd_any b3 b4 b5 V x2 wa hW.out).mono ?_;rintro e w2 ⟨rfl,hb2⟩;have hbF:=h_ hbaH hb2;clear hb2 hwa hbaE;go_wp2_with fail;go_returns;exact⟨rfl,hbF.out⟩
 |false=>
  go_enter Tryz.func129,Tryz.ntmps129;go_wp2_with fail;refine(pin_any V.a1 V.n1 V.c1 x2 wa).mono ?_;rintro e w2 ⟨rfl,hb2⟩;have hbF:=h_ hbaH hb2;clear hb2 hwa hbaE;go_wp2_with fail;go_returns;exact⟨rfl,hbF.out⟩
theorem RRoutes.rows {w:World} {A:Option Addr} {n:Nat} {l:List RouteP} (h:RRoutes w A n l): ∃ L:List RE3,Rd w 3 re3E A n L∧RowsG (fun w e r=>Rd w 1 (numE .i64) e.1.1 e.1.2.1 r.stops∧Rd w 1 (numE .i64) e.2.1.1 e.2.1.2.1 r.rides∧Rd w 1 (numE .i64) e.2.2.1 e.2.2.2.1 r.stays∧e.1.2.1≤e.1.2.2∧e.1.2.2≤9223372036854775807∧e.2.1.2.1≤e.2.1.2.2∧e.2.1.2.2≤9223372036854775807∧e.2.2.2.1≤e.2.2.2.2∧e.2.2.2.2≤9223372036854775807) w L l:=by
 have key: ∀ k:Nat, ∃ e:RE3, ∀ r,l[k]?=some r→ ∃ b o,A=some ⟨b,o,none⟩∧b<w.heap.size∧(∀ (j:Nat) u,(re3E e)[j]?=some u→w.cell? ⟨b,o+k*3+j,none⟩=some u)∧Rd w 1 (numE .i64) e.1.1 e.1.2.1 r.stops∧Rd w 1 (numE .i64) e.2.1.1 e.2.1.2.1 r.rides∧Rd w 1 (numE .i64) e.2.2.1 e.2.2.2.1 r.stays∧e.1.2.1≤e.1.2.2∧e.1.2.2≤9223372036854775807∧e.2.1.2.1≤e.2.1.2.2∧e.2.1.2.2≤9223372036854775807∧e.2.2.2.1≤e.2.2.2.2∧e.2.2.2.2≤9223372036854775807:=fun k=>by
  cases hk:l[k]? with
  |none=>exact⟨((none,0,0),(none,0,0),(none,0,0)),fun r hr=>by cases hr⟩
  |some r=>
   obtain⟨b,o,e,hb,⟨s1,n1,c1,h1,r1,g1,g2⟩,⟨s2,n2,c2,h2,r2,g3,g4⟩,⟨s3,n3,c3,h3,r3,g5,g6⟩⟩:=h.at_ k r hk;refine⟨((s1,n1,c1),(s2,n2,c2),(s3,n3,c3)),fun r' hr'=>?_⟩;cases hr';refine⟨b,o,e,hb,fun j u hu=>?_,r1,r2,r3,g1,g2,g3,g4,g5,g6⟩
   match j,hu with
   |0,hu=>simp [re3E,SlV.v] at hu;subst hu;exact h1
   |1,hu=>simp [re3E,SlV.v] at hu;subst hu;exact h2
   |2,hu=>simp [re3E,SlV.v] at hu;subst hu;exact h3
   |j+3,hu=>simp [re3E] at hu
 obtain⟨f,hf⟩:=Classical.axiomOfChoice key;have hlen:((List.range n).map f).length =n:=by simp
 have hat: ∀ k e,((List.range n).map f)[k]?=some e→k<n∧e=f k:=fun k e he=>by
  have hk:k<n:=by have:=(List.getElem?_eq_some_iff.1 he).1;rwa [hlen] at this
  rw [List.getElem?_map,List.getElem?_range hk] at he;exact⟨hk,(Option.some.inj he).symm⟩
 have hl: ∀ k,k<n→ ∃ r,l[k]?=some r:=fun k hk=>⟨_,List.getElem?_eq_getElem (by rw [h.len];exact hk)⟩
 refine⟨(List.range n).map f,⟨hlen,fun hn=>?_⟩,⟨by rw [hlen,h.len],fun k e r he hr=>?_⟩⟩
 ·obtain⟨r0,hr0⟩:=hl 0 hn;obtain⟨b,o,e,hb,_⟩:=hf 0 r0 hr0;refine⟨b,o,e,hb,fun i x hx j u hu=>?_⟩;obtain⟨hi,rfl⟩:=hat i x hx;obtain⟨r,hr⟩:=hl i hi;obtain⟨b',o',e',_,hc,_⟩:=hf i r hr;rw [e] at e';cases e';exact hc j u hu
 ·obtain⟨hi,rfl⟩:=hat k e he;obtain⟨b,o,_,_,_,hh⟩:=hf k r hr;exact hh
