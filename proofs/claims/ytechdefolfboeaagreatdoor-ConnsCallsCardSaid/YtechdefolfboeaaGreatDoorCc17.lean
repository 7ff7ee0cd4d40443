/- Texts of one chain, merged. -/
import Derived.Test.YtechdefolfboeaaGreatDoorCc1
import Derived.Test.YtechdefolfboeaaGreatDoorCc15
import Derived.Test.YtechdefolfboeaaGreatDoorCc16
set_option linter.unusedVariables false
set_option linter.unusedSimpArgs false
set_option maxRecDepth 100000
set_option maxHeartbeats 2000000
namespace Go.Proofs.YtechdefolfboeaaGreatDoor
open Go.RowKit B K
structure KB (N:Nat) (w0:World) (b:Nat) (T:TypeId) (u:List Value) (w:World):Prop where
 lo:Below N w0 w
 bx:Bx w b T u
theorem KB.closed {N:Nat} {w0:World} {b:Nat} {T:TypeId} {u:List Value} (hN:N≤w0.heap.size) (w1 w2:World) (h1:KB N w0 b T u w1) (h2:Below w1.heap.size w1 w2):KB N w0 b T u w2:=⟨h1.lo.trans (h2.mono (Nat.le_trans hN h1.lo.size)),h1.bx.below h2⟩
theorem own_rowK {α:Type} {P:Program} {enc:α→List Value} {t e:TypeId} {z:Value} {size bytes:Nat} (ht:P.underlying t=some (.slice e)) (hi:(P.info? e).map (fun i=>(i.zero,i.size,i.bytes))=some (some z,size,bytes)) (hzs:z.cells.size=size) (hsz:0<size) (hes: ∀ x,(enc x).length =size) (h1: ∀ x, ∀ u∈enc x,u.oneCell'=true)
 {base:Nat} {w:World} {v:Value} {l r:List α} {A:Option Addr} {m:Nat} (c:Nat) (hown:w.ownsRow base e size v l.length (l.flatMap enc)) (hr:Rd w size enc A m r) (hlen:l.length+m≤1099511627776) (hby:bytes≤127) (hB:base≤w.heap.size):
 ∃ v' w1,(Builtin.append_ #[t,t] t #[v,.slice A m c]).run P w= .ok v' w1∧w1.ownsRow base e size v' (l++r).length ((l++r).flatMap enc)∧Below base w w1∧ ∀ (b:Nat) (T:TypeId) (u:List Value),T≠e→Bx w b T u→Bx w1 b T u:=by
 obtain⟨v',w1,hrun,own,hgr,_⟩:=own_append ht hi hzs hsz hes h1 c hown hr hlen hby hB
 exact⟨v',w1,hrun,by rw [List.length_append,hr.len];exact own,(Below.refl _ w).grown hgr hB fun g hg=>(hown.lt g hg).1,fun b T u hT hb=>hb.keep (hgr.block b hb.lt fun h=>own_ne_box hown hb hT b h.symm rfl)⟩
theorem snames_any (X:SheetP) (V:SV) (we:World) (hr:RS we X V) (hf:FewS X):
 Calls Tryz.prog 164 #[sVal X V] we fun e w'=> ∃ A n c,e= .returned (.slice A n c)∧Rd w' 1 strE A n (namesL X)∧n≤c∧c≤9223372036854775807∧Below we.heap.size we w':=by
 obtain⟨a0,aP,aD,aR,aT,aH,n0,nP,nD,nR,nT,nH,c0,cP,cD,cR,cT,cH⟩:=V
 have LP:Hid (X.paths.length=nP):=hr.rP.len
 have LD:Hid (X.doors.length=nD):=hr.rD.len
 have LR:Hid (X.routes.length=nR):=hr.rR.len
 have LT:Hid (X.trips.length=nT):=hr.rT.len
 have LH:Hid (X.hazs.length=nH):=hr.rH.len
 have L0:Hid (X.stops.length=n0):=hr.r0.len
 have hNb:=Lib.hid (namesL_le hf)
 have mP:nP≤100000:=by have:=hf.sP;have:=LP.out;omega
 have mD:nD≤100000:=by have:=hf.sD;have:=LD.out;omega
 have mR:nR≤100000:=by have:=hf.sR;have:=LR.out;omega
 have mT:nT≤100000:=by have:=hf.sT;have:=LT.out;omega
 have mH:nH≤100000:=by have:=hf.sH;have:=LH.out;omega
 have m0:n0≤100000:=by have:=hf.s0;have:=L0.out;omega
 obtain⟨hz,hhz⟩: ∃ q,X.hz=q:=⟨_,rfl⟩
 simp only [sVal]
 rw [hhz]
 obtain⟨w1,b1,hw1,hbE1,hb1,hup,B1,hge1⟩:=enter1 we 136 [.int .i64 hz,.slice a0 n0 c0,.slice aP nP cP,.slice aD nD cD,.slice aR nR cR,.slice aT nT cT,.slice aH nH cH]
 have hR:=Lib.hid (hr.below hup.out)
 have p0:=B1.cell 0 rfl
 have p1:=B1.cell 1 rfl
 have B1:=Lib.hid B1
 rename_i gX
 clear gX hr hf hb1
 have hcl:=Lib.hid (clStr_any a0 n0 c0 X.stops w1 hR.out.r0 (by omega))
 go_enter Tryz.func164,Tryz.ntmps164
 go_wp2_with fail
 refine hcl.out.mono ?_;rintro e w2 ⟨v0,rfl,own,hb⟩
 clear hw1 hbE1 p0 p1 hcl
 have hl:Hid (X.stops++((X.paths.drop 0).flatMap pN++(X.doors.flatMap dN++(X.routes.flatMap rN++(X.trips.flatMap tN++(X.hazs.flatMap hN++[])))))=namesL X):=rfl
 rw [←L0.out] at own
 replace own:=Lib.hid own
 replace hb:=Lib.hid hb
 have y2:=(B1.out.below hb.out).cell 2 rfl
 go_wp2_with fail
 clear y2
 go_loopw [20,3] (fun iv v wr=> ∃ (i:Nat) (l:List Str),i≤nP∧iv= .int .i64 i∧Hid (wr.ownsRow w1.heap.size 9 1 v l.length (l.flatMap strE))∧Hid (l++((X.paths.drop i).flatMap pN++(X.doors.flatMap dN++(X.routes.flatMap rN++(X.trips.flatMap tN++(X.hazs.flatMap hN++[])))))=namesL X)∧Hid (Below w1.heap.size w1 wr)) (fun iv _ _=>nP-(intOf iv).toNat)
 case atStart=>exact⟨0,_,Nat.zero_le _,rfl,own,hl,hb⟩
 case round=>
  clear own hl hb
  obtain⟨i,l,hi,rfl,own,hl,hb⟩:=hrel
  by_cases hin:i<nP
  ·have hinI:(i:Int)<(nP:Int):=by omega
   obtain⟨b,o,⟨x1,x2,x3,x4⟩,rfl,hbs,hx,hc⟩:=((hR.out.rP).below hb.out).get hin
   have f0:=hc 0 _ rfl
   have f1:=hc 1 _ rfl
   have f2:=hc 2 _ rfl
   have f3:=hc 3 _ rfl
   simp only [Nat.add_zero] at f0
   have hl2:(l++[x1,x2,x3])++((X.paths.drop (i+1)).flatMap pN++(X.doors.flatMap dN++(X.routes.flatMap rN++(X.trips.flatMap tN++(X.hazs.flatMap hN++[])))))=namesL X:=by rw [←hl.out,drop_at hx];simp [pN]
   have hlen1:Hid (l.length+3≤1099511627776):=by
    have h:=congrArg List.length hl2
    simp only [List.length_append,List.length_cons,List.length_nil] at h
    have:=hNb.out
    show _≤_;omega
   have hl2:=Lib.hid hl2
   rename_i hl2X
   clear hl2X hx hc hl
   obtain⟨wa,ba,hwa,hbaE,hbwa,Bwa⟩:=box1 wr 171 [.string x1,.string x2,.string x3,.int .i64 x4]
   obtain⟨q0,q1,q2,q3⟩:=c_4 Bwa
   have hbwa2:=b_ hb hbwa
   obtain⟨v9,w9,hrun,own9,hb9⟩:=own_lits (enc:=strE) Tryz.underlying22 info_tStr rfl (by decide) strE_len strE_one [x1,x2,x3] (own_below own.out hbwa) hlen1.out (by decide) hbwa2.size
   have hrun:(Builtin.append_ #[22,22] 22 #[u3,.slice (some ⟨wa.heap.size,0,none⟩) 3 3]).run Tryz.prog (wa.alloc (.cells #[.string x1,.string x2,.string x3] 9))= .ok v9 w9:=hrun
   have hbF:=Lib.hid (hbwa2.trans hb9)
   replace own9:=Lib.hid own9
   clear own hb Bwa hbwa2 hb9 hlen1 hbwa
   go_wp2_with (at_builtin;refine wpList_append_run ?P1 (.tmp 24) (.tmp 31) 22 ?P2 ?P3 ?P4 hrun ?_)
   all_goals try rfl
   go_roundw
   case rel=>exact⟨i+1,_,by omega,by go_num,own9,hl2,hbF⟩
   case measure=>simp [intOf];omega
  ·obtain rfl:nP=i:=by omega
   have hl3:=hl.out
   rw [List.drop_eq_nil_of_le (by rw [LP.out];omega),List.flatMap_nil,List.nil_append] at hl3
   replace hl3:=Lib.hid hl3
   clear hl
   have hl:=hl3
   clear hl3 hi hin
   have y3:=(B1.out.below hb.out).cell 3 rfl
   go_wp2_with fail
   clear y3
   go_loopw [37,3] (fun iv v wr=> ∃ (i:Nat) (l:List Str),i≤nD∧iv= .int .i64 i∧Hid (wr.ownsRow w1.heap.size 9 1 v l.length (l.flatMap strE))∧Hid (l++((X.doors.drop i).flatMap dN++(X.routes.flatMap rN++(X.trips.flatMap tN++(X.hazs.flatMap hN++[]))))=namesL X)∧Hid (Below w1.heap.size w1 wr)) (fun iv _ _=>nD-(intOf iv).toNat)
   case atStart=>exact⟨0,_,Nat.zero_le _,rfl,own,hl,hb⟩
   case round=>
    clear own hl hb
    obtain⟨i,l,hi,rfl,own,hl,hb⟩:=hrel
    by_cases hin:i<nD
    ·have hinI:(i:Int)<(nD:Int):=by omega
     obtain⟨b,o,⟨x1,x2,x3,x4,x5,x6,x7⟩,rfl,hbs,hx,hc⟩:=((hR.out.rD).below hb.out).get hin
     have f0:=hc 0 _ rfl
     have f1:=hc 1 _ rfl
     have f2:=hc 2 _ rfl
     have f3:=hc 3 _ rfl
     have f4:=hc 4 _ rfl
     have f5:=hc 5 _ rfl
     have f6:=hc 6 _ rfl
     simp only [Nat.add_zero] at f0
     have hl2:(l++[x1,x2,x3])++((X.doors.drop (i+1)).flatMap dN++(X.routes.flatMap rN++(X.trips.flatMap tN++(X.hazs.flatMap hN++[]))))=namesL X:=by rw [←hl.out,drop_at hx];simp [dN]
     have hlen1:Hid (l.length+3≤1099511627776):=by
      have h:=congrArg List.length hl2
      simp only [List.length_append,List.length_cons,List.length_nil] at h
      have:=hNb.out
      show _≤_;omega
     have hl2:=Lib.hid hl2
     rename_i hl2X
     clear hl2X hx hc hl
     obtain⟨wa,ba,hwa,hbaE,hbwa,Bwa⟩:=box1 wr 173 [.string x1,.string x2,.string x3,.int .i64 x4,.int .i64 x5,.int .i64 x6,.int .i64 x7]
     obtain⟨q0,q1,q2,q3,q4,q5,q6⟩:=c_7 Bwa
     have hbwa2:=b_ hb hbwa
     obtain⟨v9,w9,hrun,own9,hb9⟩:=own_lits (enc:=strE) Tryz.underlying22 info_tStr rfl (by decide) strE_len strE_one [x1,x2,x3] (own_below own.out hbwa) hlen1.out (by decide) hbwa2.size
     have hrun:(Builtin.append_ #[22,22] 22 #[u3,.slice (some ⟨wa.heap.size,0,none⟩) 3 3]).run Tryz.prog (wa.alloc (.cells #[.string x1,.string x2,.string x3] 9))= .ok v9 w9:=hrun
     have hbF:=Lib.hid (hbwa2.trans hb9)
     replace own9:=Lib.hid own9
     clear own hb Bwa hbwa2 hb9 hlen1 hbwa
     go_wp2_with (at_builtin;refine wpList_append_run ?D1 (.tmp 41) (.tmp 48) 22 ?D2 ?D3 ?D4 hrun ?_)
     all_goals try rfl
     go_roundw
     case rel=>exact⟨i+1,_,by omega,by go_num,own9,hl2,hbF⟩
     case measure=>simp [intOf];omega
    ·obtain rfl:nD=i:=by omega
     have hl3:=hl.out
     rw [List.drop_eq_nil_of_le (by rw [LD.out];omega),List.flatMap_nil,List.nil_append] at hl3
     replace hl3:=Lib.hid hl3
     clear hl
     have hl:=hl3
     clear hl3 hi hin
     have y4:=(B1.out.below hb.out).cell 4 rfl
     go_wp2_with fail
     clear y4
     go_loopw [54,3] (fun iv v wr=> ∃ (i:Nat) (l:List Str),i≤nR∧iv= .int .i64 i∧Hid (wr.ownsRow w1.heap.size 9 1 v l.length (l.flatMap strE))∧Hid (l++((X.routes.drop i).flatMap rN++(X.trips.flatMap tN++(X.hazs.flatMap hN++[])))=namesL X)∧Hid (Below w1.heap.size w1 wr)) (fun iv _ _=>nR-(intOf iv).toNat)
     case atStart=>exact⟨0,_,Nat.zero_le _,rfl,own,hl,hb⟩
     case round=>
      clear own hl hb
      obtain⟨i,l,hi,rfl,own,hl,hb⟩:=hrel
      by_cases hin:i<nR
      ·have hinI:(i:Int)<(nR:Int):=by omega
       obtain⟨b,o,r,rfl,hbs,hx,f0,⟨s1,m1,d1,f1,rs1,_,_⟩,⟨s2,m2,d2,f2,rs2,_,_⟩,⟨s3,m3,d3,f3,rs3,_,_⟩⟩:=hR.out.rR.get hin
       replace f0:=c_ hb.out hbs f0
       replace f1:=c_ hb.out hbs f1
       replace f2:=c_ hb.out hbs f2
       replace f3:=c_ hb.out hbs f3
       have hl2:(l++[r.name]++r.stops)++((X.routes.drop (i+1)).flatMap rN++(X.trips.flatMap tN++(X.hazs.flatMap hN++[])))=namesL X:=by rw [←hl.out,drop_at hx];simp [rN]
       have hlen1:Hid (l.length+1+m1≤1099511627776):=by
        have h:=congrArg List.length hl2
        simp only [List.length_append,List.length_cons,List.length_nil] at h
        have:=hNb.out
        have:=rs1.len
        show _≤_;omega
       have hl2:=Lib.hid hl2
       rename_i hl2X
       clear hl2X hx hl rs2 rs3
       obtain⟨wa,ba,hwa,hbaE,hbwa,Bwa⟩:=box1 wr 177 [.string r.name,.slice s1 m1 d1,.slice s2 m2 d2,.slice s3 m3 d3]
       obtain⟨q0,q1,q2,q3⟩:=c_4 Bwa
       have hbwa2:=b_ hb hbwa
       have own2:=Lib.hid (own_below own.out hbwa)
       have BwH:=Lib.hid Bwa
       have hbw:=Lib.hid hbwa2
       have R1:=Lib.hid rs1
       clear own hb hbwa rs1 hbwa2 Bwa
       go_wp2_with fail
       go_upto_region 15 with fail
       refine wp_region_lateC (KB w1.heap.size wa ba 177 [.string r.name,.slice s1 m1 d1,.slice s2 m2 d2,.slice s3 m3 d3]) [0,0,0,2,3,0,0,2,2] (by kernel_rfl) (by kernel_rfl) ⟨⟨rfl,rfl,rfl,Nat.le_refl _,fun _ _=>rfl⟩,BwH.out⟩ (KB.closed hbw.out.size) ?_
       intro C hC
       simp only [pickK,pickT,Nat.reduceLeDiff,Nat.reduceEqDiff, ↓reduceIte]
       repeat(go_big_quiet_step (first
        |(intro _;with_reducible rfl)
        |(intro hc
          have m0:=hc.bx.cell 0 rfl
          have m1:=hc.bx.cell 1 rfl
          simp only [m0,m1,Result.andThen]
          exact⟨trivial,rfl⟩)))
       refine wpQuiet_nil ?_
       clear hC
       intro C' hC'
       refine wpQuiet_nil ?_
       clear hC'
       intro wq hbq
       replace hbq:Below wa.heap.size wa wq:=by rw [hbq];exact⟨rfl,rfl,rfl,Nat.le_refl _,fun _ _=>rfl⟩
       have Bq:Bx wq ba 177 [.string r.name,.slice s1 m1 d1,.slice s2 m2 d2,.slice s3 m3 d3]:=BwH.out.below hbq
       have ownq:=own_below own2.out hbq
       have hbq2:=b_ hbw hbq
       obtain⟨wl,hwl⟩: ∃ q,wq.alloc (.cells ([r.name].flatMap strE).toArray 9)=q:=⟨_,rfl⟩
       have hwl':wq.alloc (.cells #[.string r.name] 9)=wl:=hwl
       have hbl:=below_alloc wq ([r.name].flatMap strE).toArray 9
       have rdl:=Rd.lit wq 1 strE strE_len 9 [r.name]
       rw [hwl] at hbl rdl
       obtain⟨v8,w8,hrun8,own8,hb8,hK8⟩:=own_rowK (enc:=strE) Tryz.underlying22 info_tStr rfl (by decide) strE_len strE_one 1 (own_below ownq hbl) rdl (by have:=hlen1.out;simp only [List.length_cons,List.length_nil];omega) (by decide) (Nat.le_trans hbq2.size hbl.size)
       have Bq8:=Lib.hid (hK8 _ _ _ (by decide) (Bq.below hbl))
       have hbq8:=(u_ hbq2 hbl).trans hb8
       obtain⟨v9,w9,hrun9,own9,hb9,_⟩:=own_rowK (enc:=strE) Tryz.underlying22 info_tStr rfl (by decide) strE_len strE_one d1 own8 (R1.out.below hbq8) (by have:=hlen1.out;rw [List.length_append];simp only [List.length_cons,List.length_nil];omega) (by decide) hbq8.size
       have hrun8:(Builtin.append_ #[22,22] 22 #[u3,.slice (some ⟨wq.heap.size,0,none⟩) 1 1]).run Tryz.prog wl= .ok v8 w8:=hrun8
       have hcl8:=Lib.hid (((hbq.mono hbw.out.size).trans (hbl.mono hbq2.size)).trans hb8)
       have hbF:=Lib.hid (hbq8.trans hb9)
       replace own9:=Lib.hid own9
       clear ownq own8 hb8 hb9 hK8 Bq rdl hbq2 hbq8 hwl hbl hlen1
       refine wpTail4_one (by decide) ?_
       go_wp2_with fail
       refine⟨fun h=>absurd h (by decide),?_⟩
       refine wpTail4_one (by decide) ?_
       go_wp2_with (at_builtin;refine wpList_append_run ?K1 (.tmp 58) (.tmp 61) 22 ?K2 ?K3 ?K4 hrun8 ?_)
       all_goals try rfl
       refine⟨fun _=>⟨hcl8.out,Bq8.out⟩,?_⟩
       refine wpTail4_list _ _ _ (by simp) ?_
       simp only [List.map_cons,List.map_nil]
       go_wp2_with (at_builtin;refine wpList_append_run ?L1 (.tmp 62) (.tmp 64) 22 ?L2 ?L3 ?L4 hrun9 ?_)
       all_goals try rfl
       go_roundw
       case rel=>exact⟨i+1,_,by omega,by go_num,own9,hl2,hbF⟩
       case measure=>simp [intOf];omega
      ·obtain rfl:nR=i:=by omega
       have hl3:=hl.out
       rw [List.drop_eq_nil_of_le (by rw [LR.out];omega),List.flatMap_nil,List.nil_append] at hl3
       replace hl3:=Lib.hid hl3
       clear hl
       have hl:=hl3
       clear hl3 hi hin
       have y5:=(B1.out.below hb.out).cell 5 rfl
       go_wp2_with fail
       clear y5
       go_loopw [70,3] (fun iv v wr=> ∃ (i:Nat) (l:List Str),i≤nT∧iv= .int .i64 i∧Hid (wr.ownsRow w1.heap.size 9 1 v l.length (l.flatMap strE))∧Hid (l++((X.trips.drop i).flatMap tN++(X.hazs.flatMap hN++[]))=namesL X)∧Hid (Below w1.heap.size w1 wr)) (fun iv _ _=>nT-(intOf iv).toNat)
       case atStart=>exact⟨0,_,Nat.zero_le _,rfl,own,hl,hb⟩
       case round=>
        clear own hl hb
        obtain⟨i,l,hi,rfl,own,hl,hb⟩:=hrel
        by_cases hin:i<nT
        ·have hinI:(i:Int)<(nT:Int):=by omega
         obtain⟨b,o,⟨x1,x2,x3,x4,x5⟩,rfl,hbs,hx,hc⟩:=((hR.out.rT).below hb.out).get hin
         have f0:=hc 0 _ rfl
         have f1:=hc 1 _ rfl
         have f2:=hc 2 _ rfl
         have f3:=hc 3 _ rfl
         have f4:=hc 4 _ rfl
         simp only [Nat.add_zero] at f0
         have hl2:(l++[x1,x2])++((X.trips.drop (i+1)).flatMap tN++(X.hazs.flatMap hN++[]))=namesL X:=by rw [←hl.out,drop_at hx];simp [tN]
         have hlen1:Hid (l.length+2≤1099511627776):=by
          have h:=congrArg List.length hl2
          simp only [List.length_append,List.length_cons,List.length_nil] at h
          have:=hNb.out
          show _≤_;omega
         have hl2:=Lib.hid hl2
         rename_i hl2X
         clear hl2X hx hc hl
         obtain⟨wa,ba,hwa,hbaE,hbwa,Bwa⟩:=box1 wr 179 [.string x1,.string x2,.int .i64 x3,.int .i64 x4,.int .i64 x5]
         obtain⟨q0,q1,q2,q3,q4⟩:=c_5 Bwa
         have hbwa2:=b_ hb hbwa
         obtain⟨v9,w9,hrun,own9,hb9⟩:=own_lits (enc:=strE) Tryz.underlying22 info_tStr rfl (by decide) strE_len strE_one [x1,x2] (own_below own.out hbwa) hlen1.out (by decide) hbwa2.size
         have hrun:(Builtin.append_ #[22,22] 22 #[u3,.slice (some ⟨wa.heap.size,0,none⟩) 2 2]).run Tryz.prog (wa.alloc (.cells #[.string x1,.string x2] 9))= .ok v9 w9:=hrun
         have hbF:=Lib.hid (hbwa2.trans hb9)
         replace own9:=Lib.hid own9
         clear own hb Bwa hbwa2 hb9 hlen1 hbwa
         go_wp2_with (at_builtin;refine wpList_append_run ?T1 (.tmp 74) (.tmp 79) 22 ?T2 ?T3 ?T4 hrun ?_)
         all_goals try rfl
         go_roundw
         case rel=>exact⟨i+1,_,by omega,by go_num,own9,hl2,hbF⟩
         case measure=>simp [intOf];omega
        ·obtain rfl:nT=i:=by omega
         have hl3:=hl.out
         rw [List.drop_eq_nil_of_le (by rw [LT.out];omega),List.flatMap_nil,List.nil_append] at hl3
         replace hl3:=Lib.hid hl3
         clear hl
         have hl:=hl3
         clear hl3 hi hin
         have y6:=(B1.out.below hb.out).cell 6 rfl
         go_wp2_with fail
         clear y6
         go_loopw [85,3] (fun iv v wr=> ∃ (i:Nat) (l:List Str),i≤nH∧iv= .int .i64 i∧Hid (wr.ownsRow w1.heap.size 9 1 v l.length (l.flatMap strE))∧Hid (l++((X.hazs.drop i).flatMap hN++([]))=namesL X)∧Hid (Below w1.heap.size w1 wr)) (fun iv _ _=>nH-(intOf iv).toNat)
         case atStart=>exact⟨0,_,Nat.zero_le _,rfl,own,hl,hb⟩
         case round=>
          clear own hl hb
          obtain⟨i,l,hi,rfl,own,hl,hb⟩:=hrel
          by_cases hin:i<nH
          ·have hinI:(i:Int)<(nH:Int):=by omega
           obtain⟨b,o,⟨x1,x2,x3,x4,x5⟩,rfl,hbs,hx,hc⟩:=((hR.out.rH).below hb.out).get hin
           have f0:=hc 0 _ rfl
           have f1:=hc 1 _ rfl
           have f2:=hc 2 _ rfl
           have f3:=hc 3 _ rfl
           have f4:=hc 4 _ rfl
           simp only [Nat.add_zero] at f0
           have hl2:(l++[x1,x2])++((X.hazs.drop (i+1)).flatMap hN++([]))=namesL X:=by rw [←hl.out,drop_at hx];simp [hN]
           have hlen1:Hid (l.length+2≤1099511627776):=by
            have h:=congrArg List.length hl2
            simp only [List.length_append,List.length_cons,List.length_nil] at h
            have:=hNb.out
            show _≤_;omega
           have hl2:=Lib.hid hl2
           rename_i hl2X
           clear hl2X hx hc hl
           obtain⟨wa,ba,hwa,hbaE,hbwa,Bwa⟩:=box1 wr 181 [.string x1,.string x2,.int .i64 x3,.int .i64 x4,.int .i64 x5]
           obtain⟨q0,q1,q2,q3,q4⟩:=c_5 Bwa
           have hbwa2:=b_ hb hbwa
           obtain⟨v9,w9,hrun,own9,hb9⟩:=own_lits (enc:=strE) Tryz.underlying22 info_tStr rfl (by decide) strE_len strE_one [x1,x2] (own_below own.out hbwa) hlen1.out (by decide) hbwa2.size
           have hrun:(Builtin.append_ #[22,22] 22 #[u3,.slice (some ⟨wa.heap.size,0,none⟩) 2 2]).run Tryz.prog (wa.alloc (.cells #[.string x1,.string x2] 9))= .ok v9 w9:=hrun
           have hbF:=Lib.hid (hbwa2.trans hb9)
           replace own9:=Lib.hid own9
           clear own hb Bwa hbwa2 hb9 hlen1 hbwa
           go_wp2_with (at_builtin;refine wpList_append_run ?H1 (.tmp 89) (.tmp 94) 22 ?H2 ?H3 ?H4 hrun ?_)
           all_goals try rfl
           go_roundw
           case rel=>exact⟨i+1,_,by omega,by go_num,own9,hl2,hbF⟩
           case measure=>simp [intOf];omega
          ·obtain rfl:nH=i:=by omega
           have hl3:=hl.out
           rw [List.drop_eq_nil_of_le (by rw [LH.out];omega),List.flatMap_nil,List.nil_append] at hl3
           replace hl3:=Lib.hid hl3
           clear hl
           have hl:=hl3
           clear hl3 hi hin
           go_wp2_with fail
           go_returns
           obtain⟨A,c,rfl,r1,r2,r3⟩:=Rd.of_own strE_len rfl own.out
           have hll:=hl.out
           rw [List.append_nil] at hll
           subst hll
           exact⟨A,_,c,rfl,r1,r2,r3,b_ hup hb.out⟩
structure KB2 (N:Nat) (w0:World) (b:Nat) (T:TypeId) (u:List Value) (b':Nat) (T':TypeId) (u':List Value) (w:World):Prop where
 lo:Below N w0 w
 bx:Bx w b T u
 by':Bx w b' T' u'
theorem KB2.closed {N:Nat} {w0:World} {b:Nat} {T:TypeId} {u:List Value} {b':Nat} {T':TypeId} {u':List Value} (hN:N≤w0.heap.size) (w1 w2:World) (h1:KB2 N w0 b T u b' T' u' w1) (h2:Below w1.heap.size w1 w2):KB2 N w0 b T u b' T' u' w2:=⟨h1.lo.trans (h2.mono (Nat.le_trans hN h1.lo.size)),h1.bx.below h2,h1.by'.below h2⟩
structure NS (w1:World) (bt:Nat) (v:Value) (l:List Int) (w:World):Prop where
 bx:Bx w bt 45 [v]
 own:w.ownsRow w1.heap.size 2 1 v l.length (l.flatMap (numE .i64))
 bel:Below w1.heap.size w1 w
 ge:w1.heap.size≤bt
theorem NS.below {w1 w w':World} {bt:Nat} {v:Value} {l:List Int} (h:NS w1 bt v l w) (k:Below w.heap.size w w'):NS w1 bt v l w':=⟨h.bx.below k,own_below h.own k,u_ h.bel k,h.ge⟩
theorem NS.lits {w1 w:World} {bt:Nat} {v:Value} {l:List Int} (h:NS w1 bt v l w) (xs:List Int) (hl:l.length+xs.length≤1099511627776): ∃ W1 W2 W3 A c,w.alloc (.cells (xs.flatMap (numE .i64)).toArray 2)=W1∧W2.setCell ⟨bt,0,none⟩ (.slice A (l.length+xs.length) c)=W3∧Bx W2 bt 45 [v]∧
 (Builtin.append_ #[45,45] 45 #[v,.slice (some ⟨w.heap.size,0,none⟩) xs.length xs.length]).run Tryz.prog W1= .ok (.slice A (l.length+xs.length) c) W2∧NS w1 bt (.slice A (l.length+xs.length) c) (l++xs) W3∧ ∀ (b:Nat) (T':TypeId) (u:List Value),T'≠2→b≠bt→Bx w b T' u→Bx W3 b T' u:=by
 obtain⟨W1,W2,W3,va,vb,k1,k2,k3,b2,b3,lA,_,runA,oA,⟨A,c,hab⟩,hk⟩:=stepMB (enc:=numE .i64) Tryz.underlying45 info_tI64 rfl (by decide) num_len num_one (by decide) (f:=0) (T:=45) xs (by decide) h.bx h.own rfl hl h.bel.size h.ge
 subst hab k2
 exact⟨W1,W2,W3,A,c,k1,k3,b2,runA,⟨b3,by rw [List.length_append];exact oA,h.bel.trans lA,h.ge⟩,hk⟩
theorem snums1_any (w1:World) (bt:Nat) (v:Value) (l:List Int) (f e d:Int) (w:World) (h:NS w1 bt v l w) (hl:l.length+3≤1099511627776):
 Calls Tryz.prog 233 #[.agg #[.int .i64 f,.int .i64 e,.int .i64 d],.pointer (some ⟨bt,0,none⟩)] w fun r w'=>(∃ q,r= .returned q)∧ ∃ v',NS w1 bt v' (l++[f,e,d]) w':=by
 obtain⟨wa,ba,hwa,hbaE,hbwa,Bwa⟩:=box1 w 102 [.int .i64 f,.int .i64 e,.int .i64 d]
 obtain⟨q0,q1,q2⟩:=c_3 Bwa
 have ha:=h.below hbwa
 have p0:=ha.bx.cell 0 rfl
 obtain⟨W1,W2,W3,A,c,k1,k3,b2,runA,hT,_⟩:=ha.lits [f,e,d] hl
 have hTH:=Lib.hid hT
 have v5:=b2.cell 0 rfl
 have v6:=b2.frozen 0
 subst k1
 have k3:W2.setCell ⟨bt,0,none⟩ (.slice A (l.length+3) c)=W3:=k3
 have runA:(Builtin.append_ #[45,45] 45 #[v,.slice (some ⟨wa.heap.size,0,none⟩) 3 3]).run Tryz.prog (wa.alloc (.cells #[.int .i64 f,.int .i64 e,.int .i64 d] 2))= .ok (.slice A (l.length+3) c) W2:=runA
 clear h hT ha b2 Bwa hbwa
 go_enter Tryz.func233,Tryz.ntmps233
 go_wp2_with (at_builtin;refine wpList_append_run ?a1 (.tmp 3) (.tmp 10) 45 ?a2 ?a3 ?a4 runA ?_)
 all_goals try rfl
 refine bodyPost_end (results_none rfl _ _ _) rfl ?_
 exact⟨⟨_,rfl⟩,_,hTH.out⟩
theorem snums_any (X:SheetP) (V:SV) (we:World) (hr:RS we X V) (hf:FewS X):
 Calls Tryz.prog 168 #[sVal X V] we fun e w'=> ∃ A n c,e= .returned (.slice A n c)∧Rd w' 1 (numE .i64) A n (numsL X)∧n≤c∧c≤9223372036854775807∧Below we.heap.size we w':=by
 obtain⟨a0,aP,aD,aR,aT,aH,n0,nP,nD,nR,nT,nH,c0,cP,cD,cR,cT,cH⟩:=V
 have LP:Hid (X.paths.length=nP):=hr.rP.len
 have LD:Hid (X.doors.length=nD):=hr.rD.len
 have LR:Hid (X.routes.length=nR):=hr.rR.len
 have LT:Hid (X.trips.length=nT):=hr.rT.len
 have LH:Hid (X.hazs.length=nH):=hr.rH.len
 have L0:Hid (X.stops.length=n0):=hr.r0.len
 have hNb:=Lib.hid (numsL_le hf)
 have mP:nP≤100000:=by have:=hf.sP;have:=LP.out;omega
 have mD:nD≤100000:=by have:=hf.sD;have:=LD.out;omega
 have mR:nR≤100000:=by have:=hf.sR;have:=LR.out;omega
 have mT:nT≤100000:=by have:=hf.sT;have:=LT.out;omega
 have mH:nH≤100000:=by have:=hf.sH;have:=LH.out;omega
 have m0:n0≤100000:=by have:=hf.s0;have:=L0.out;omega
 obtain⟨hz,hhz⟩: ∃ q,X.hz=q:=⟨_,rfl⟩
 simp only [sVal]
 rw [hhz]
 obtain⟨w1,b1,hw1,hbE1,hb1,hup,B1,hge1⟩:=enter1 we 136 [.int .i64 hz,.slice a0 n0 c0,.slice aP nP cP,.slice aD nD cD,.slice aR nR cR,.slice aT nT cT,.slice aH nH cH]
 have hR:=Lib.hid (hr.below hup.out)
 have p0:=B1.cell 0 rfl
 have p1:=B1.cell 1 rfl
 have B1:=Lib.hid B1
 rename_i gX
 clear gX hr hf hb1
 have hNS:Hid (NS w1 (w1.heap.size+1) (.slice (some ⟨w1.heap.size,0,none⟩) 1 1) [hz] ((w1.alloc (.cells #[.int .i64 hz] 2)).alloc (.cells #[.slice (some ⟨w1.heap.size,0,none⟩) 1 1] 45))):=by
  have h2:=Bx.new (w1.alloc (.cells #[.int .i64 hz] 2)) 45 [.slice (some ⟨w1.heap.size,0,none⟩) 1 1]
  have hsz:(w1.alloc (.cells #[.int .i64 hz] 2)).heap.size =w1.heap.size+1:=by simp
  rw [hsz] at h2
  have h0:=below_alloc w1 #[.int .i64 hz] 2
  have h1:=below_alloc (w1.alloc (.cells #[.int .i64 hz] 2)) #[.slice (some ⟨w1.heap.size,0,none⟩) 1 1] 45
  exact⟨h2,own_below (own_lit1 w1 w1.heap.size 2 (.int .i64 hz) (Nat.le_refl _)) h1,u_ h0 h1,Nat.le_succ _⟩
 obtain⟨bt,hbt⟩: ∃ q,w1.heap.size+1=q:=⟨_,rfl⟩
 obtain⟨wl,hwl⟩: ∃ q,w1.alloc (.cells #[.int .i64 hz] 2)=q:=⟨_,rfl⟩
 have hwls:wl.heap.size=bt:=by rw [←hwl,←hbt];simp
 obtain⟨wt,hwt⟩: ∃ q,wl.alloc (.cells #[.slice (some ⟨w1.heap.size,0,none⟩) 1 1] 45)=q:=⟨_,rfl⟩
 rw [hwl,hwt,hbt] at hNS
 have hl:Hid ([hz]++((X.paths.drop 0).flatMap pI++(X.doors.flatMap dI++(X.routes.flatMap rI++(X.trips.flatMap tI++(X.hazs.flatMap hI++[])))))=numsL X):=by show _=_;unfold numsL;rw [hhz];rfl
 go_enter Tryz.func168,Tryz.ntmps168
 have hb:=hNS
 go_upto_region 3 with fail
 clear hw1 hbE1 p0 p1 hNS hhz hwl hwt hbt hwls
 have y2:=(B1.out.below hb.out.bel).cell 2 rfl
 go_wp2_with fail
 clear y2
 go_loopw [22] (fun iv wr=> ∃ (i:Nat) (v:Value) (l:List Int),i≤nP∧iv= .int .i64 i∧Hid (l++((X.paths.drop i).flatMap pI++(X.doors.flatMap dI++(X.routes.flatMap rI++(X.trips.flatMap tI++(X.hazs.flatMap hI++[])))))=numsL X)∧Hid (NS w1 bt v l wr)) (fun iv _=>nP-(intOf iv).toNat)
 case atStart=>exact⟨0,_,_,Nat.zero_le _,rfl,hl,hb⟩
 case round=>
  clear hl hb
  obtain⟨i,v,l,hi,rfl,hl,hN⟩:=hrel
  have hb:=Lib.hid hN.out.bel
  by_cases hin:i<nP
  ·have hinI:(i:Int)<(nP:Int):=by omega
   obtain⟨b,o,⟨x1,x2,x3,x4⟩,rfl,hbs,hx,hc⟩:=((hR.out.rP).below hb.out).get hin
   have f0:=hc 0 _ rfl
   have f1:=hc 1 _ rfl
   have f2:=hc 2 _ rfl
   have f3:=hc 3 _ rfl
   simp only [Nat.add_zero] at f0
   have hl2:(l++[x4])++((X.paths.drop (i+1)).flatMap pI++(X.doors.flatMap dI++(X.routes.flatMap rI++(X.trips.flatMap tI++(X.hazs.flatMap hI++[])))))=numsL X:=by rw [←hl.out,drop_at hx];simp [pI]
   have hlen1:Hid (l.length+1≤1099511627776):=by
    have h:=congrArg List.length hl2
    simp only [List.length_append,List.length_cons,List.length_nil] at h
    have:=hNb.out
    show _≤_;omega
   have hl2:=Lib.hid hl2
   rename_i hl2X
   clear hl2X hx hc hl
   obtain⟨wa,ba,hwa,hbaE,hbwa,Bwa⟩:=box1 wr 171 [.string x1,.string x2,.string x3,.int .i64 x4]
   obtain⟨q0,q1,q2,q3⟩:=c_4 Bwa
   have hNa:=hN.out.below hbwa
   have p9:=hNa.bx.cell 0 rfl
   clear hbwa Bwa hN hb
   obtain⟨W1,W2,W3,A9,c9,k1,k3,b2',runA,hT3,hkp⟩:=hNa.lits [x4] (by have:=hlen1.out;simp only [List.length_cons,List.length_nil];omega)
   replace hT3:=Lib.hid hT3
   have v5:=b2'.cell 0 rfl
   have v6:=b2'.frozen 0
   subst k1
   have k3:W2.setCell ⟨bt,0,none⟩ (.slice A9 (l.length+1) c9)=W3:=k3
   have runA:(Builtin.append_ #[45,45] 45 #[v,.slice (some ⟨wa.heap.size,0,none⟩) 1 1]).run Tryz.prog (wa.alloc (.cells #[.int .i64 x4] 2))= .ok (.slice A9 (l.length+1) c9) W2:=runA
   clear b2'
   clear hNa hlen1 hkp
   go_wp2_with (at_builtin;refine wpList_append_run ?P1 (.tmp 26) (.tmp 29) 45 ?P2 ?P3 ?P4 runA ?_)
   all_goals try rfl
   go_roundw
   case rel=>exact⟨i+1,_,_,by omega,by go_num,hl2,hT3⟩
   case measure=>simp [intOf];omega
  ·obtain rfl:nP=i:=by omega
   have hl3:=hl.out
   clear hb
   have hb:=hN
   clear hN
   rw [List.drop_eq_nil_of_le (by rw [LP.out];omega),List.flatMap_nil,List.nil_append] at hl3
   replace hl3:=Lib.hid hl3
   clear hl
   have hl:=hl3
   clear hl3 hi hin
   have y3:=(B1.out.below hb.out.bel).cell 3 rfl
   go_wp2_with fail
   clear y3
   go_loopw [35] (fun iv wr=> ∃ (i:Nat) (v:Value) (l:List Int),i≤nD∧iv= .int .i64 i∧Hid (l++((X.doors.drop i).flatMap dI++(X.routes.flatMap rI++(X.trips.flatMap tI++(X.hazs.flatMap hI++[]))))=numsL X)∧Hid (NS w1 bt v l wr)) (fun iv _=>nD-(intOf iv).toNat)
   case atStart=>exact⟨0,_,_,Nat.zero_le _,rfl,hl,hb⟩
   case round=>
    clear hl hb
    obtain⟨i,v,l,hi,rfl,hl,hN⟩:=hrel
    have hb:=Lib.hid hN.out.bel
    by_cases hin:i<nD
    ·have hinI:(i:Int)<(nD:Int):=by omega
     obtain⟨b,o,⟨x1,x2,x3,x4,x5,x6,x7⟩,rfl,hbs,hx,hc⟩:=((hR.out.rD).below hb.out).get hin
     have f0:=hc 0 _ rfl
     have f1:=hc 1 _ rfl
     have f2:=hc 2 _ rfl
     have f3:=hc 3 _ rfl
     have f4:=hc 4 _ rfl
     have f5:=hc 5 _ rfl
     have f6:=hc 6 _ rfl
     simp only [Nat.add_zero] at f0
     have hl2:(l++[x4,x5,x6,x7])++((X.doors.drop (i+1)).flatMap dI++(X.routes.flatMap rI++(X.trips.flatMap tI++(X.hazs.flatMap hI++[]))))=numsL X:=by rw [←hl.out,drop_at hx];simp [dI]
     have hlen1:Hid (l.length+4≤1099511627776):=by
      have h:=congrArg List.length hl2
      simp only [List.length_append,List.length_cons,List.length_nil] at h
      have:=hNb.out
      show _≤_;omega
     have hl2:=Lib.hid hl2
     rename_i hl2X
     clear hl2X hx hc hl
     obtain⟨wa,ba,hwa,hbaE,hbwa,Bwa⟩:=box1 wr 173 [.string x1,.string x2,.string x3,.int .i64 x4,.int .i64 x5,.int .i64 x6,.int .i64 x7]
     obtain⟨q0,q1,q2,q3,q4,q5,q6⟩:=c_7 Bwa
     have hNa:=hN.out.below hbwa
     have p9:=hNa.bx.cell 0 rfl
     have hN0:=hN
     clear hN hb
     obtain⟨W1,W2,W3,A9,c9,k1,k3,b2',runA,hT3,hkp⟩:=hNa.lits [x4] (by have:=hlen1.out;simp only [List.length_cons,List.length_nil];omega)
     replace hT3:=Lib.hid hT3
     have v5:=b2'.cell 0 rfl
     have v6:=b2'.frozen 0
     subst k1
     have k3:W2.setCell ⟨bt,0,none⟩ (.slice A9 (l.length+1) c9)=W3:=k3
     have runA:(Builtin.append_ #[45,45] 45 #[v,.slice (some ⟨wa.heap.size,0,none⟩) 1 1]).run Tryz.prog (wa.alloc (.cells #[.int .i64 x4] 2))= .ok (.slice A9 (l.length+1) c9) W2:=runA
     clear b2'
     have hkeep:=hkp ba _ _ (by decide) (by have h1:=hN0.out.bx.lt;have h2:wr.heap.size=ba:=hbaE;omega) Bwa
     have z4:=hkeep.cell 4 rfl
     have z5:=hkeep.cell 5 rfl
     have z6:=hkeep.cell 6 rfl
     clear hkp hN0
     clear hNa hbwa Bwa
     go_wp2_with (at_builtin;refine wpList_append_run ?D1 (.tmp 39) (.tmp 42) 45 ?D2 ?D3 ?D4 runA ?_)
     all_goals try rfl
     refine(snums1_any w1 bt _ _ x5 x6 x7 _ hT3.out (by have:=hlen1.out;simp only [List.length_append,List.length_cons,List.length_nil];omega)).mono ?_
     rintro e w5 ⟨⟨q,rfl⟩,v',hT4⟩
     rw [List.append_assoc] at hT4
     replace hT4:=Lib.hid hT4
     clear hlen1 hkeep hT3 z4 z5 z6
     have hT3:=hT4
     clear hT4
     go_wp2_with fail
     go_roundw
     case rel=>exact⟨i+1,_,_,by omega,by go_num,hl2,hT3⟩
     case measure=>simp [intOf];omega
    ·obtain rfl:nD=i:=by omega
     have hl3:=hl.out
     clear hb
     have hb:=hN
     clear hN
     rw [List.drop_eq_nil_of_le (by rw [LD.out];omega),List.flatMap_nil,List.nil_append] at hl3
     replace hl3:=Lib.hid hl3
     clear hl
     have hl:=hl3
     clear hl3 hi hin
     have y4:=(B1.out.below hb.out.bel).cell 4 rfl
     go_wp2_with fail
     clear y4
     go_loopw [52] (fun iv wr=> ∃ (i:Nat) (v:Value) (l:List Int),i≤nR∧iv= .int .i64 i∧Hid (l++((X.routes.drop i).flatMap rI++(X.trips.flatMap tI++(X.hazs.flatMap hI++[])))=numsL X)∧Hid (NS w1 bt v l wr)) (fun iv _=>nR-(intOf iv).toNat)
     case atStart=>exact⟨0,_,_,Nat.zero_le _,rfl,hl,hb⟩
     case round=>
      clear hl hb
      obtain⟨i,v,l,hi,rfl,hl,hN⟩:=hrel
      have hb:=Lib.hid hN.out.bel
      by_cases hin:i<nR
      ·have hinI:(i:Int)<(nR:Int):=by omega
       obtain⟨b,o,r,rfl,hbs,hx,f0,⟨s1,m1,d1,f1,rs1,_,_⟩,⟨s2,m2,d2,f2,rs2,_,_⟩,⟨s3,m3,d3,f3,rs3,_,_⟩⟩:=hR.out.rR.get hin
       replace f0:=c_ hN.out.bel hbs f0
       replace f1:=c_ hN.out.bel hbs f1
       replace f2:=c_ hN.out.bel hbs f2
       replace f3:=c_ hN.out.bel hbs f3
       have hl2:(l++r.rides++r.stays)++((X.routes.drop (i+1)).flatMap rI++(X.trips.flatMap tI++(X.hazs.flatMap hI++[])))=numsL X:=by rw [←hl.out,drop_at hx];simp [rI]
       have hlen1:Hid (l.length+m2+m3≤1099511627776):=by
        have h:=congrArg List.length hl2
        simp only [List.length_append] at h
        have:=hNb.out
        have:=rs2.len
        have:=rs3.len
        show _≤_;omega
       have hl2:=Lib.hid hl2
       rename_i hl2X
       clear hl2X hx hl rs1
       obtain⟨wa,ba,hwa,hbaE,hbwa,Bwa⟩:=box1 wr 177 [.string r.name,.slice s1 m1 d1,.slice s2 m2 d2,.slice s3 m3 d3]
       obtain⟨q0,q1,q2,q3⟩:=c_4 Bwa
       have hba:Hid (ba≠bt):=by have h1:=hN.out.bx.lt;have h2:wr.heap.size=ba:=hbaE;show _≠_;omega
       have hNa:=hN.out.below hbwa
       have R2:=Lib.hid rs2
       have R3:=Lib.hid rs3
       have BwH:=Lib.hid Bwa
       have hbw:=Lib.hid hNa.bel
       have NH:=Lib.hid hNa
       clear hN hb hbwa rs2 rs3 Bwa hNa
       go_wp2_with fail
       go_upto_region 17 with fail
       refine wp_region_lateC (KB2 w1.heap.size wa ba 177 [.string r.name,.slice s1 m1 d1,.slice s2 m2 d2,.slice s3 m3 d3] bt 45 [v]) [0,0,0,3,0,0,2,2] (by kernel_rfl) (by kernel_rfl) ⟨⟨rfl,rfl,rfl,Nat.le_refl _,fun _ _=>rfl⟩,BwH.out,NH.out.bx⟩ (KB2.closed hbw.out.size) ?_
       intro C hC
       simp only [pickK,pickT,Nat.reduceLeDiff,Nat.reduceEqDiff, ↓reduceIte]
       repeat(go_big_quiet_step (first
        |(intro _;with_reducible rfl)
        |(intro hc
          have m0:=hc.bx.cell 2 rfl
          have m1:=hc.bx.cell 3 rfl
          have m2:=hc.by'.cell 0 rfl
          simp only [m0,m1,m2,Result.andThen]
          exact⟨trivial,rfl⟩)))
       refine wpQuiet_nil ?_
       clear hC
       intro C' hC'
       refine wpQuiet_nil ?_
       clear hC'
       intro wq hbq
       replace hbq:Below wa.heap.size wa wq:=by rw [hbq];exact⟨rfl,rfl,rfl,Nat.le_refl _,fun _ _=>rfl⟩
       have hNq:=NH.out.below hbq
       have Bq:=BwH.out.below hbq
       have hbq2:=hNq.bel
       obtain⟨v8,w8,hrun8,own8,hb8,hK8⟩:=own_rowK (enc:=numE .i64) Tryz.underlying45 info_tI64 rfl (by decide) num_len num_one d2 hNq.own (R2.out.below hbq2) (by have:=hlen1.out;omega) (by decide) hbq2.size
       have hK8':=Lib.hid (And.intro (hK8 _ _ _ (by decide) Bq) (hK8 _ _ _ (by decide) hNq.bx))
       have hbq8:=hbq2.trans hb8
       obtain⟨v9,w9,hrun9,own9,hb9,hK9⟩:=own_rowK (enc:=numE .i64) Tryz.underlying45 info_tI64 rfl (by decide) num_len num_one d3 own8 (R3.out.below hbq8) (by have:=hlen1.out;rw [List.length_append,R2.out.len];omega) (by decide) hbq8.size
       have hB9:=hK9 _ _ _ (by decide) hK8'.out.2
       obtain⟨A9,c9,e9,_⟩:=Rd.of_own num_len rfl own9
       subst e9
       have hT3:Hid (NS w1 bt (.slice A9 (l++r.rides++r.stays).length c9) (l++r.rides++r.stays) (w9.setCell ⟨bt,0,none⟩ (.slice A9 (l++r.rides++r.stays).length c9))):=by
        have t9:But w9 (w9.setCell ⟨bt,0,none⟩ (.slice A9 (l++r.rides++r.stays).length c9)) [bt]:=But.of_set _ _ _ (by simp)
        have h9:=hbq8.trans hb9
        exact⟨hB9.set 0 _,own_box own9 hB9 (by decide) t9,h9.trans (t9.below h9.size (fun y hy=>by simp only [List.mem_singleton] at hy;subst hy;exact NH.out.ge)),NH.out.ge⟩
       have v5:=hB9.cell 0 rfl
       have v6:=hB9.frozen 0
       obtain⟨W3,k3⟩: ∃ q,w9.setCell ⟨bt,0,none⟩ (.slice A9 (l++r.rides++r.stays).length c9)=q:=⟨_,rfl⟩
       rw [k3] at hT3
       obtain⟨n9,hn9⟩: ∃ q,(l++r.rides++r.stays).length =q:=⟨_,rfl⟩
       rw [hn9] at hrun9 k3 hT3
       have hcl8:=Lib.hid ((hbq.mono hbw.out.size).trans hb8)
       clear hNq own8 own9 hb8 hb9 hK8 hK9 Bq hbq2 hbq8 hlen1 hB9 hn9 NH BwH
       refine wpTail4_one (by decide) ?_
       go_wp2_with (at_builtin;refine wpList_append_run ?K1 (.tmp 56) (.tmp 58) 45 ?K2 ?K3 ?K4 hrun8 ?_)
       all_goals try rfl
       refine⟨fun _=>⟨hcl8.out,hK8'.out.1,hK8'.out.2⟩,?_⟩
       refine wpTail4_list _ _ _ (by simp) ?_
       simp only [List.map_cons,List.map_nil]
       go_wp2_with (at_builtin;refine wpList_append_run ?L1 (.tmp 59) (.tmp 61) 45 ?L2 ?L3 ?L4 hrun9 ?_)
       all_goals try rfl
       go_roundw
       case rel=>exact⟨i+1,_,_,by omega,by go_num,hl2,hT3⟩
       case measure=>simp [intOf];omega
      ·obtain rfl:nR=i:=by omega
       have hl3:=hl.out
       clear hb
       have hb:=hN
       clear hN
       rw [List.drop_eq_nil_of_le (by rw [LR.out];omega),List.flatMap_nil,List.nil_append] at hl3
       replace hl3:=Lib.hid hl3
       clear hl
       have hl:=hl3
       clear hl3 hi hin
       have y5:=(B1.out.below hb.out.bel).cell 5 rfl
       go_wp2_with fail
       clear y5
       go_loopw [67] (fun iv wr=> ∃ (i:Nat) (v:Value) (l:List Int),i≤nT∧iv= .int .i64 i∧Hid (l++((X.trips.drop i).flatMap tI++(X.hazs.flatMap hI++[]))=numsL X)∧Hid (NS w1 bt v l wr)) (fun iv _=>nT-(intOf iv).toNat)
       case atStart=>exact⟨0,_,_,Nat.zero_le _,rfl,hl,hb⟩
       case round=>
        clear hl hb
        obtain⟨i,v,l,hi,rfl,hl,hN⟩:=hrel
        have hb:=Lib.hid hN.out.bel
        by_cases hin:i<nT
        ·have hinI:(i:Int)<(nT:Int):=by omega
         obtain⟨b,o,⟨x1,x2,x3,x4,x5⟩,rfl,hbs,hx,hc⟩:=((hR.out.rT).below hb.out).get hin
         have f0:=hc 0 _ rfl
         have f1:=hc 1 _ rfl
         have f2:=hc 2 _ rfl
         have f3:=hc 3 _ rfl
         have f4:=hc 4 _ rfl
         simp only [Nat.add_zero] at f0
         have hl2:(l++[x3,x4,x5])++((X.trips.drop (i+1)).flatMap tI++(X.hazs.flatMap hI++[]))=numsL X:=by rw [←hl.out,drop_at hx];simp [tI]
         have hlen1:Hid (l.length+3≤1099511627776):=by
          have h:=congrArg List.length hl2
          simp only [List.length_append,List.length_cons,List.length_nil] at h
          have:=hNb.out
          show _≤_;omega
         have hl2:=Lib.hid hl2
         rename_i hl2X
         clear hl2X hx hc hl
         obtain⟨wa,ba,hwa,hbaE,hbwa,Bwa⟩:=box1 wr 179 [.string x1,.string x2,.int .i64 x3,.int .i64 x4,.int .i64 x5]
         obtain⟨q0,q1,q2,q3,q4⟩:=c_5 Bwa
         have hNa:=hN.out.below hbwa
         have p9:=hNa.bx.cell 0 rfl
         clear hbwa Bwa hN hb
         obtain⟨W1,W2,W3,A9,c9,k1,k3,b2',runA,hT3,hkp⟩:=hNa.lits [x3,x4,x5] (by have:=hlen1.out;simp only [List.length_cons,List.length_nil];omega)
         replace hT3:=Lib.hid hT3
         have v5:=b2'.cell 0 rfl
         have v6:=b2'.frozen 0
         subst k1
         have k3:W2.setCell ⟨bt,0,none⟩ (.slice A9 (l.length+3) c9)=W3:=k3
         have runA:(Builtin.append_ #[45,45] 45 #[v,.slice (some ⟨wa.heap.size,0,none⟩) 3 3]).run Tryz.prog (wa.alloc (.cells #[.int .i64 x3,.int .i64 x4,.int .i64 x5] 2))= .ok (.slice A9 (l.length+3) c9) W2:=runA
         clear b2'
         clear hNa hlen1 hkp
         go_wp2_with (at_builtin;refine wpList_append_run ?T1 (.tmp 71) (.tmp 78) 45 ?T2 ?T3 ?T4 runA ?_)
         all_goals try rfl
         go_roundw
         case rel=>exact⟨i+1,_,_,by omega,by go_num,hl2,hT3⟩
         case measure=>simp [intOf];omega
        ·obtain rfl:nT=i:=by omega
         have hl3:=hl.out
         clear hb
         have hb:=hN
         clear hN
         rw [List.drop_eq_nil_of_le (by rw [LT.out];omega),List.flatMap_nil,List.nil_append] at hl3
         replace hl3:=Lib.hid hl3
         clear hl
         have hl:=hl3
         clear hl3 hi hin
         have y6:=(B1.out.below hb.out.bel).cell 6 rfl
         go_wp2_with fail
         clear y6
         go_loopw [84] (fun iv wr=> ∃ (i:Nat) (v:Value) (l:List Int),i≤nH∧iv= .int .i64 i∧Hid (l++((X.hazs.drop i).flatMap hI++([]))=numsL X)∧Hid (NS w1 bt v l wr)) (fun iv _=>nH-(intOf iv).toNat)
         case atStart=>exact⟨0,_,_,Nat.zero_le _,rfl,hl,hb⟩
         case round=>
          clear hl hb
          obtain⟨i,v,l,hi,rfl,hl,hN⟩:=hrel
          have hb:=Lib.hid hN.out.bel
          by_cases hin:i<nH
          ·have hinI:(i:Int)<(nH:Int):=by omega
           obtain⟨b,o,⟨x1,x2,x3,x4,x5⟩,rfl,hbs,hx,hc⟩:=((hR.out.rH).below hb.out).get hin
           have f0:=hc 0 _ rfl
           have f1:=hc 1 _ rfl
           have f2:=hc 2 _ rfl
           have f3:=hc 3 _ rfl
           have f4:=hc 4 _ rfl
           simp only [Nat.add_zero] at f0
           have hl2:(l++[x3,x4,x5])++((X.hazs.drop (i+1)).flatMap hI++([]))=numsL X:=by rw [←hl.out,drop_at hx];simp [hI]
           have hlen1:Hid (l.length+3≤1099511627776):=by
            have h:=congrArg List.length hl2
            simp only [List.length_append,List.length_cons,List.length_nil] at h
            have:=hNb.out
            show _≤_;omega
           have hl2:=Lib.hid hl2
           rename_i hl2X
           clear hl2X hx hc hl
           obtain⟨wa,ba,hwa,hbaE,hbwa,Bwa⟩:=box1 wr 181 [.string x1,.string x2,.int .i64 x3,.int .i64 x4,.int .i64 x5]
           obtain⟨q0,q1,q2,q3,q4⟩:=c_5 Bwa
           have hNa:=Lib.hid (hN.out.below hbwa)
           clear hbwa Bwa hN hb
           go_wp2_with fail
           refine(snums1_any w1 bt v l x3 x4 x5 wa hNa.out hlen1.out).mono ?_
           rintro e w5 ⟨⟨q,rfl⟩,v',hT3⟩
           replace hT3:=Lib.hid hT3
           clear hlen1 hNa
           go_wp2_with fail
           go_roundw
           case rel=>exact⟨i+1,_,_,by omega,by go_num,hl2,hT3⟩
           case measure=>simp [intOf];omega
          ·obtain rfl:nH=i:=by omega
           have hl3:=hl.out
           clear hb
           have hb:=hN
           clear hN
           rw [List.drop_eq_nil_of_le (by rw [LH.out];omega),List.flatMap_nil,List.nil_append] at hl3
           replace hl3:=Lib.hid hl3
           clear hl
           have hl:=hl3
           clear hl3 hi hin
           have hN:=hb.out
           obtain⟨A,c,rfl,r1,r2,r3⟩:=Rd.of_own num_len rfl hN.own
           have p9:=hN.bx.cell 0 rfl
           have hN:=Lib.hid hN
           rename_i gN
           clear gN hb
           go_wp2_with fail
           go_returns
           have hll:=hl.out
           rw [List.append_nil] at hll
           subst hll
           exact⟨A,_,c,rfl,r1,r2,r3,b_ hup hN.out.bel⟩
end Go.Proofs.YtechdefolfboeaaGreatDoor
