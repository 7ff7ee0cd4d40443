/- Texts of one chain, merged. -/
import Derived.Test.YtechdefolfboeaaGreatDoorQr41
import Derived.Test.YtechdefolfboeaaGreatDoorQr44
import Derived.Test.YtechdefolfboeaaGreatDoorQr51
namespace Go.Proofs.YtechdefolfboeaaGreatDoor
open Go.RowKit B K
set_option linter.unusedVariables false
set_option linter.unusedSimpArgs false
set_option maxRecDepth 100000
set_option maxHeartbeats 2000000
def cntP (P:List PatP) (i:Nat):Nat:=((P.take i).flatMap PatP.runs).length
theorem cntP_step {P:List PatP} {i:Nat} {p:PatP} (h:P[i]?=some p):cntP P (i+1)=cntP P i+p.runs.length:=by unfold cntP;rw [take_at h];simp
theorem cntP_le (P:List PatP) (i:Nat):cntP P i≤(P.flatMap PatP.runs).length :=by
 unfold cntP
 have:P.flatMap PatP.runs=(P.take i).flatMap PatP.runs++(P.drop i).flatMap PatP.runs:=by rw [←List.flatMap_append,List.take_append_drop]
 rw [this,List.length_append];omega
set_option maxHeartbeats 8000000
theorem rows20_any (M:WorldP) (V:WV) (A:Option Addr) (n c:Nat) (L:List RunP) (pos t:Int) (we:World) (hsp:Sp we) (hr:RW we M V) (hwf:WfM M) (hL:RRuns we A n L) (hat: -9223372036854775808≤pos∧pos≤9223372036854775807):
 Calls Tryz.prog 10 #[wVal M V,.slice A n c,.int .i64 pos,.int .i64 t] we fun e w'=>e= .returned (.bool true)∧Below we.heap.size we w':=by
 have hatH:=Lib.hid hat
 clear hat
 have hkf:=Lib.hid (fun w (h:RW w M V)=>kfew_any M V w h hwf)
 have hkl:=Lib.hid (fun w h=>klight_any A n c L w h)
 have hmg:=Lib.hid (fun w h1 hf h2 h3 hn hx=>paMake_any 100000 (sortOK 100000 (Nat.le_refl _)) M V A n c L w h1 hf h2 h3 hn hx)
 have hcg:=Lib.hid (fun w A2 m c2 P h1 hf h2 h3 hn hl hP hm hps=>paCheck_any M V A n c L A2 m c2 P w h1 hf h2 h3 hn hl hP hm hps)
 have hrH:=Lib.hid hr
 have hsH:=Lib.hid hsp
 have hLH:=Lib.hid hL
 obtain⟨a0,a1,a2,a3,a4,a5,aP,aD,aR,aT,aH,n0,n1,n2,n3,n4,n5,nP,nD,nR,nT,nH,c0,c1,c2,c3,c4,c5,cP,cD,cR,cT,cH⟩:=V
 simp only [wVal] at*
 obtain⟨w1,b1,hw1,hbE1,hb1,hup,B1,hge1⟩:=enter1 we 31 [.int .i64 M.hz,.slice a0 n0 c0,.slice a1 n1 c1,.slice a2 n2 c2,.slice a3 n3 c3,.slice a4 n4 c4,.slice a5 n5 c5,.slice aP nP cP,.slice aD nD cD,.slice aR nR cR,.slice aT nT cT,.slice aH nH cH]
 have B1H:=Lib.hid B1
 have l1:=B1.lt
 clear B1 hb1 hr hsp hL hwf
 go_enter Tryz.func10,Tryz.ntmps10
 go_wp2_with fail
 refine(lives20_any w1 (hsH.out.below hup.out)).mono ?_;rintro e w2 ⟨rfl,hb2⟩
 have hb2w:=Lib.hid (hup.out.trans (hb2.mono hup.out.size))
 have h12:=Lib.hid hb2
 have y0:=(hb2.cell (p:=⟨b1,_,none⟩) l1).trans (B1H.out.cell 0 rfl)
 have y1:=(hb2.cell (p:=⟨b1,_,none⟩) l1).trans (B1H.out.cell 1 rfl)
 have y2:=(hb2.cell (p:=⟨b1,_,none⟩) l1).trans (B1H.out.cell 2 rfl)
 have y3:=(hb2.cell (p:=⟨b1,_,none⟩) l1).trans (B1H.out.cell 3 rfl)
 have y4:=(hb2.cell (p:=⟨b1,_,none⟩) l1).trans (B1H.out.cell 4 rfl)
 have y5:=(hb2.cell (p:=⟨b1,_,none⟩) l1).trans (B1H.out.cell 5 rfl)
 have y6:=(hb2.cell (p:=⟨b1,_,none⟩) l1).trans (B1H.out.cell 6 rfl)
 have y7:=(hb2.cell (p:=⟨b1,_,none⟩) l1).trans (B1H.out.cell 7 rfl)
 have y8:=(hb2.cell (p:=⟨b1,_,none⟩) l1).trans (B1H.out.cell 8 rfl)
 have y9:=(hb2.cell (p:=⟨b1,_,none⟩) l1).trans (B1H.out.cell 9 rfl)
 have y10:=(hb2.cell (p:=⟨b1,_,none⟩) l1).trans (B1H.out.cell 10 rfl)
 have y11:=(hb2.cell (p:=⟨b1,_,none⟩) l1).trans (B1H.out.cell 11 rfl)
 clear hb2
 go_wp2_with fail
 clear hw1 hbE1
 refine(hkf.out w2 (hrH.out.below hb2w.out)).mono ?_;rintro e w3 ⟨rfl,hb3⟩
 have hb3w:=Lib.hid (hb2w.out.trans (hb3.mono hb2w.out.size))
 have h13:=Lib.hid (h12.out.trans (hb3.mono h12.out.size))
 clear hb3 y0 y1 y2 y3 y4 y5 y6 y7 y8 y9 y10 y11
 cases hfw:fewB M with
 |false=>
  clear hfw
  go_wp2_with fail
  go_returns
  exact⟨rfl,hb3w.out⟩
 |true=>
  have hfew:=Lib.hid (few_of hfw)
  clear hfw
  go_wp2_with fail
  refine(hkl.out w3 (hLH.out.below hb3w.out)).mono ?_;rintro e w4 ⟨rfl,hb4⟩
  have hb4w:=Lib.hid (hb3w.out.trans (hb4.mono hb3w.out.size))
  have h14:=Lib.hid (h13.out.trans (hb4.mono h13.out.size))
  clear hb4
  cases hlt:lightB L with
  |false=>
   clear hlt
   go_wp2_with fail
   go_returns
   exact⟨rfl,hb4w.out⟩
  |true=>
   have hlight:=Lib.hid hlt
   have hn60:n≤60:=by have:=light_len hlt;have:=hLH.out.len;omega
   have hnl:Hid (¬ 16384<L.length):=by have:=light_len hlt;show ¬ _;omega
   clear hlt
   have y0:=(h14.out.cell (p:=⟨b1,_,none⟩) l1).trans (B1H.out.cell 0 rfl)
   have y1:=(h14.out.cell (p:=⟨b1,_,none⟩) l1).trans (B1H.out.cell 1 rfl)
   have y2:=(h14.out.cell (p:=⟨b1,_,none⟩) l1).trans (B1H.out.cell 2 rfl)
   have y3:=(h14.out.cell (p:=⟨b1,_,none⟩) l1).trans (B1H.out.cell 3 rfl)
   have y4:=(h14.out.cell (p:=⟨b1,_,none⟩) l1).trans (B1H.out.cell 4 rfl)
   have y5:=(h14.out.cell (p:=⟨b1,_,none⟩) l1).trans (B1H.out.cell 5 rfl)
   have y6:=(h14.out.cell (p:=⟨b1,_,none⟩) l1).trans (B1H.out.cell 6 rfl)
   have y7:=(h14.out.cell (p:=⟨b1,_,none⟩) l1).trans (B1H.out.cell 7 rfl)
   have y8:=(h14.out.cell (p:=⟨b1,_,none⟩) l1).trans (B1H.out.cell 8 rfl)
   have y9:=(h14.out.cell (p:=⟨b1,_,none⟩) l1).trans (B1H.out.cell 9 rfl)
   have y10:=(h14.out.cell (p:=⟨b1,_,none⟩) l1).trans (B1H.out.cell 10 rfl)
   have y11:=(h14.out.cell (p:=⟨b1,_,none⟩) l1).trans (B1H.out.cell 11 rfl)
   go_wp2_with fail
   refine(hmg.out w4 (hrH.out.below hb4w.out) hfew.out (hsH.out.below hb4w.out) (hLH.out.below hb4w.out) (by omega) (by omega)).mono ?_;rintro e w5 ⟨A5,c5,rfl,r5,_,_,hb5⟩
   have hb5w:=Lib.hid (hb4w.out.trans (hb5.mono hb4w.out.size))
   have h15:=Lib.hid (h14.out.trans (hb5.mono h14.out.size))
   clear hb5 y0 y1 y2 y3 y4 y5 y6 y7 y8 y9 y10 y11 hmg hkf hkl
   by_cases he:errC M L=0
   ·have hres:resP M L=makeP M L:=by unfold resP;rw [if_pos he]
    have hFL:=Lib.hid (fitL_of hnl.out he)
    have hck:chkP M L (makeP M L)=0:=by unfold chkP;rw [if_pos he,if_pos (makeP_ok hFL.out)]
    rw [hres] at r5
    rw [hres,he]
    have hlim:Hid (∀ r∈L,r.arr.length≤40∧r.dep.length≤40):=light_runs hlight.out
    have hsh: ∀ p∈makeP M L,p.runs.length≤100000:=fun p hp=>by have:=resP_short (M:=M) hnl.out (p:=p) (by rw [hres];exact hp);have:=hLH.out.len;omega
    have hml:(makeP M L).length ≤60:=by have:=makeP_len hFL.out;have:=hLH.out.len;omega
    have hchk:=Lib.hid (hcg.out w5 A5 (makeP M L).length c5 (makeP M L) (hrH.out.below hb5w.out) hfew.out (hsH.out.below hb5w.out) (hLH.out.below hb5w.out) (by omega) (fun r hr=>by have:=hlim.out r hr;omega) r5 (by omega) hsh)
    rw [hck] at hchk
    have hcm:=Lib.hid (fun p hp r0 hr0 ps hps tt=>catch_made (M:=M) hFL.out (p:=p) hp (r0:=r0) hr0 (pos:=ps) hps tt)
    have hpr:=Lib.hid (fun p hp=>makeP_runs (M:=M) (L:=L) (p:=p) hp)
    have hrts:=Lib.hid (makeP_rts (M:=M) (L:=L))
    have hall:Hid (((makeP M L).flatMap PatP.runs).length =n):=by show _=_;rw [(makeP_perm hFL.out).length_eq];have:=hLH.out.len;simp [natI,this]
    obtain⟨P,hP⟩: ∃ q,makeP M L=q:=⟨_,rfl⟩
    rw [hP] at r5 hchk hcm hpr hrts hall hml ⊢
    obtain⟨m,hm⟩: ∃ q,P.length=q:=⟨_,rfl⟩
    rw [hm] at r5 hchk hml ⊢
    have r5H:=Lib.hid r5
    clear r5 hres hck hsh hP he hcg
    have l1w5:=Nat.lt_of_lt_of_le l1 h15.out.size
    have y0:=(h15.out.cell (p:=⟨b1,_,none⟩) l1).trans (B1H.out.cell 0 rfl)
    have y1:=(h15.out.cell (p:=⟨b1,_,none⟩) l1).trans (B1H.out.cell 1 rfl)
    have y2:=(h15.out.cell (p:=⟨b1,_,none⟩) l1).trans (B1H.out.cell 2 rfl)
    have y3:=(h15.out.cell (p:=⟨b1,_,none⟩) l1).trans (B1H.out.cell 3 rfl)
    have y4:=(h15.out.cell (p:=⟨b1,_,none⟩) l1).trans (B1H.out.cell 4 rfl)
    have y5:=(h15.out.cell (p:=⟨b1,_,none⟩) l1).trans (B1H.out.cell 5 rfl)
    have y6:=(h15.out.cell (p:=⟨b1,_,none⟩) l1).trans (B1H.out.cell 6 rfl)
    have y7:=(h15.out.cell (p:=⟨b1,_,none⟩) l1).trans (B1H.out.cell 7 rfl)
    have y8:=(h15.out.cell (p:=⟨b1,_,none⟩) l1).trans (B1H.out.cell 8 rfl)
    have y9:=(h15.out.cell (p:=⟨b1,_,none⟩) l1).trans (B1H.out.cell 9 rfl)
    have y10:=(h15.out.cell (p:=⟨b1,_,none⟩) l1).trans (B1H.out.cell 10 rfl)
    have y11:=(h15.out.cell (p:=⟨b1,_,none⟩) l1).trans (B1H.out.cell 11 rfl)
    go_wp2_with fail
    refine hchk.out.mono ?_;rintro e w6 ⟨rfl,hb6⟩
    have hb6w:=Lib.hid (hb5w.out.trans (hb6.mono hb5w.out.size))
    have r6:=Lib.hid (r5H.out.below hb6)
    have hL6:=Lib.hid (hLH.out.below hb6w.out)
    have hb0:Hid (Below w6.heap.size w6 w6):=Below.refl _ _
    clear hb6 y0 y1 y2 y3 y4 y5 y6 y7 y8 y9 y10 y11 hchk r5H h15 h14 B1H
    go_wp2_with fail
    go_loopw [11,12] (fun vn vi wr=> ∃ i:Nat,i≤m∧vn= .int .i64 (cntP P i:Nat)∧vi= .int .i64 i∧Hid (Below w6.heap.size w6 wr)) (fun _ vi _=>m-(intOf vi).toNat)
    case atStart=>exact⟨0,Nat.zero_le _,rfl,rfl,hb0⟩
    case round=>
     clear hb0
     obtain⟨i,hi,rfl,rfl,hb⟩:=hrel
     have hbr:=Lib.hid (hb6w.out.trans (hb.out.mono hb6w.out.size))
     have hcle:cntP P i≤60:=by have:=cntP_le P i;have:=hall.out;omega
     by_cases him:i<m
     ·have himI:(i:Int)<(m:Int):=by omega
      obtain⟨bp,op,p,X1,m1,d1,rfl,hbp,hp,g0,g1,s1,hs1⟩:=r6.out.get him
      have hpm:=List.mem_of_getElem? hp
      obtain⟨hne,_,hin⟩:=hpr.out p hpm
      have hm1:m1=p.runs.length:=s1.len.symm
      have hm1p:0<m1:=by rw [hm1];exact List.length_pos_iff.2 hne
      have hcs:=cntP_step hp
      rw [←hm1] at hcs
      have hcle':cntP P (i+1)≤60:=by have:=cntP_le P (i+1);have:=hall.out;omega
      obtain⟨b5,o5,x0,rfl,hb5,hx0,v0⟩:=s1.num (show 0<m1 by omega)
      have hx0n:=hin x0 (List.mem_of_getElem? hx0)
      obtain⟨hx0a,hx0b⟩:=natI_mem.1 hx0n.1
      obtain⟨a0,rfl⟩:=Int.eq_ofNat_of_zero_le hx0a
      have ha0n:a0<n:=by have:=hL6.out.len;omega
      have ha0I:(a0:Int)<(n:Int):=by omega
      obtain⟨bL,oL,r0,A1,q1,e1,A2,q2,e2,rfl,hbL,hr0,t0,t1,t2,t3,ra1,ra2,_,_⟩:=hL6.out.get ha0n
      have hra0:runAt L (a0:Int)=r0:=by have:=runAt_get (L:=L) (n:=(a0:Int)) hx0n.1;rw [Int.toNat_natCast,hr0] at this;exact(Option.some.inj this).symm
      have hq1:1≤q1∧q1≤40:=by
       have h1:=hFL.out.fit r0 (List.mem_of_getElem? hr0)
       have h2:=hlim.out r0 (List.mem_of_getElem? hr0)
       have h3:=ra1.len
       have h4:=h1.pos
       have h5:=h1.la
       omega
      have hcmp:=Lib.hid (fun(ps:Nat) (h:ps<q1) (tt:Int)=>hcm.out p hpm (a0:Int) hx0 ps (by rw [hra0,ra1.len];exact h) tt)
      have hlenq:Hid ((runAt L (a0:Int)).arr.length =q1):=by show _=_;rw [hra0,ra1.len]
      have hinH:=Lib.hid hin
      have hml1:m1≤60:=by omega
      have s1H:=Lib.hid s1
      have hpH:=Lib.hid hp
      have hpmH:=Lib.hid hpm
      have hm1H:=Lib.hid hm1
      have hcat:=Lib.hid (fun w (h:Below w6.heap.size w6 w) (ps:Nat)=>paCatch_any (some ⟨bL,oL,none⟩) (some ⟨b5,o5,none⟩) n c m1 d1 p.rt (ps:Int) t L p.runs w (hL6.out.below h) (by omega) (s1.below h) (by omega) (fun r hr=>by have:=hlim.out r hr;omega))
      simp only [Nat.add_zero] at v0
      have z1:=(hb.out.cell (p:=⟨bp,_,none⟩) hbp).trans g1
      obtain⟨prt,hprt⟩: ∃ q,p.rt=q:=⟨_,rfl⟩
      rw [hprt] at g0 hcat
      have hz0:((m1:Int)==0)=false:=by simp;omega
      have hm1I:(0:Int)<(m1:Int):=by omega
      have hsum:IntKind.i64.wrap ((cntP P i:Int)+(m1:Int))=(cntP P (i+1):Int):=by rw [hcs];exact(IntWalk.i64_in _ (by omega)).trans (by omega)
      have hroute:Hid (∀ i',i=i'+1→ ∀ p',P[i']?=some p'→p'.rt≤prt):=fun i' e p' hp'=>by
       subst e
       obtain⟨h1,rfl⟩:=List.getElem?_eq_some_iff.1 hp'
       obtain⟨h2,h3⟩:=List.getElem?_eq_some_iff.1 hpH.out
       have:=List.pairwise_iff_getElem.1 hrts.out i' (i'+1) h1 h2 (by omega)
       rw [←hprt,←h3];exact this
      clear hx0 hx0n hx0a hx0b hr0 hra0 ra1 ra2 s1 hs1 hpm hne hp hin hprt hcs t0 t1 t3 hm1
      go_wp2_with fail
      go_upto_region 15 with fail
      go_cut [75] (fun v wx=>v= .bool false∧Hid (Below w6.heap.size w6 wx))
      case first=>
       rcases Nat.eq_zero_or_pos i with hi0|hi0
       ·subst hi0
        have hkz:decide ((0:Int)<((0:Nat):Int))=false:=by decide
        refine wp_region_below wr.heap.size (by kernel_rfl) (by kernel_rfl) ?_
        intro C hC
        repeat(go_big_quiet_step (first
         |((intro _;with_reducible rfl))
         |(intro hc;have hcw:=hb.out.trans (hc.mono hb.out.size);have m0:=(hcw.cell (p:=⟨bp,_,none⟩) hbp).trans g0;simp only [m0,Result.andThen];exact⟨trivial,rfl⟩)
        ))
        refine wpQuiet_nil ?_
        intro w9 hb9
        clear hC
        have hbz:=Lib.hid (hb.out.trans (hb9.mono hb.out.size))
        clear hb9
        go_wp2_with fail
        go_meet
        exact⟨rfl,hbz⟩
       ·obtain⟨i',rfl⟩: ∃ i',i=i'+1:=⟨i-1,by omega⟩
        obtain⟨bp',op',p',X2,m2,d2,hA',hbp',hp',k0,k1,_,_⟩:=r6.out.get (show i'<m by omega)
        obtain⟨rfl,rfl⟩:bp=bp'∧op=op':=by simpa using hA'
        have hrt:=hroute.out i' rfl p' hp'
        obtain⟨pr',hpr'⟩: ∃ q,p'.rt=q:=⟨_,rfl⟩
        rw [hpr'] at k0 hrt
        have hgt:decide (prt<pr')=false:=decide_eq_false (by omega)
        have hkp:decide ((0:Int)<((i'+1:Nat):Int))=true:=decide_eq_true (by omega)
        have hkpA:decide ((0:Int)<(i':Int)+1)=true:=decide_eq_true (by omega)
        have hkpB:decide (0<i'+1)=true:=decide_eq_true (by omega)
        have hkp2:IntKind.i64.wrap (((i'+1:Nat):Int)-1)=(i':Int):=by rw [show((i'+1:Nat):Int)-1=(i':Int) by omega];exact IntWalk.i64_in _ (by omega)
        have hiI':(i':Int)<(m:Int):=by omega
        clear hA' hbp' hp' k1 hpr'
        refine wp_region_below wr.heap.size (by kernel_rfl) (by kernel_rfl) ?_
        intro C hC
        repeat(go_big_quiet_step (first
         |((intro _;with_reducible rfl))
         |(intro hc;have hcw:=hb.out.trans (hc.mono hb.out.size);have m0:=(hcw.cell (p:=⟨bp,_,none⟩) hbp).trans g0;have m1:=(hcw.cell (p:=⟨bp,_,none⟩) hbp).trans k0;simp only [m0,m1,Result.andThen];exact⟨trivial,rfl⟩)
        ))
        refine wpQuiet_nil ?_
        intro w9 hb9
        clear hC
        have hbz:=Lib.hid (hb.out.trans (hb9.mono hb.out.size))
        clear hb9
        go_wp2_with fail
        go_meet
        exact⟨rfl,hbz⟩
      case rest=>
       obtain⟨rfl,hbx⟩:=hcut
       have v0r:=(hbx.out.cell (p:=⟨b5,_,none⟩) hb5).trans v0
       have t2r:=(hbx.out.cell (p:=⟨bL,_,none⟩) hbL).trans t2
       clear hb hbr z1 hroute
       go_wp2_with fail
       refine(pick_any pos (q1:Int) wc (by omega) hatH.out).mono ?_;rintro e w7 ⟨at_,rfl,hatq,hb7⟩
       have hatq':at_<q1:=by omega
       have h7:=Lib.hid (hbx.out.trans (hb7.mono hbx.out.size))
       have g0r:=(h7.out.cell (p:=⟨bp,_,none⟩) hbp).trans g0
       have g1r:=(h7.out.cell (p:=⟨bp,_,none⟩) hbp).trans g1
       clear hb7 v0r t2r hbx hatq
       go_wp2_with fail
       refine(hcat.out w7 h7.out at_).mono ?_;rintro e w8 ⟨rfl,hb8⟩
       have h8:=Lib.hid (h7.out.trans (hb8.mono h7.out.size))
       obtain⟨hlen2,hcat2,hnon2⟩:=hcmp.out at_ hatq' t
       have hKle:=catchP_le (L:=L) p.runs (at_:Int) t
       rw [←hm1H.out] at hKle
       obtain⟨K,hK⟩: ∃ q,catchP L p.runs (at_:Int) t=q:=⟨_,rfl⟩
       rw [hK] at hcat2 hKle ⊢
       have hcat2:=Lib.hid hcat2
       have hnon2:=Lib.hid hnon2
       have hlen2:=Lib.hid hlen2
       have hK0:decide ((K:Int)<0)=false:=decide_eq_false (by omega)
       have hKg:decide (m1<K)=false:=decide_eq_false (by omega)
       have hKg2:decide ((m1:Int)<(K:Int))=false:=decide_eq_false (by omega)
       clear hb8 g0r g1r hK hcat h7
       go_wp2_with fail
       go_loopw [16] (fun vm wr=> ∃ j:Nat,j≤m1∧vm= .int .i64 j∧Hid (Below w6.heap.size w6 wr)) (fun vm _=>m1-(intOf vm).toNat)
       case atStart=>exact⟨0,Nat.zero_le _,rfl,h8⟩
       case round=>
        clear h8
        obtain⟨j,hj,rfl,hb⟩:=hrel
        by_cases hjm:j<m1
        ·have hjI:(j:Int)<(m1:Int):=by omega
         obtain⟨b5',o5',x,hA5',hb5',hx,vx⟩:=s1H.out.num hjm
         obtain⟨rfl,rfl⟩:b5=b5'∧o5=o5':=by simpa using hA5'
         have hxm:=List.mem_of_getElem? hx
         have hxn:=hinH.out x hxm
         obtain⟨hxa,hxb⟩:=natI_mem.1 hxn.1
         obtain⟨xk,rfl⟩:=Int.eq_ofNat_of_zero_le hxa
         have hxkn:xk<n:=by have:=hL6.out.len;omega
         have hxkI:(xk:Int)<(n:Int):=by omega
         obtain⟨bL',oL',r,A3,n3,e3,A4,n4,e4,hAL,hbL',hr,u0,u1,u2,u3,ra,rd,_,_⟩:=hL6.out.get hxkn
         obtain⟨rfl,rfl⟩:bL=bL'∧oL=oL':=by simpa using hAL
         have hrx:runAt L (xk:Int)=r:=by have:=runAt_get (L:=L) (n:=(xk:Int)) hxn.1;rw [Int.toNat_natCast,hr] at this;exact(Option.some.inj this).symm
         have hl3:=hlen2.out (xk:Int) hxm
         rw [hrx,hlenq.out] at hl3
         obtain rfl:n3=q1:=by rw [←ra.len];exact hl3.1
         obtain rfl:n4=n3:=by rw [←rd.len];exact hl3.2
         have hatI:(at_:Int)<(n4:Int):=by omega
         obtain⟨bD,oD,d,rfl,hbD,hd,vd⟩:=rd.num hatq'
         have hdd:depAt L (at_:Int) (xk:Int)=d:=by
          unfold depAt
          rw [hrx,Int.toNat_natCast,hd];rfl
         have hiff:=hcat2.out j (xk:Int) hx
         rw [hdd] at hiff
         have raH:=Lib.hid ra
         have rdH:=Lib.hid rd
         have vxr:=(hb.out.cell (p:=⟨b5,_,none⟩) hb5).trans vx
         have u3r:=(hb.out.cell (p:=⟨bL,_,none⟩) hbL).trans u3
         have vdr:=(hb.out.cell (p:=⟨bD,_,none⟩) hbD).trans vd
         have hnonx:=Lib.hid (fun k n' hn' hkj=>hnon2.out j (xk:Int) k n' hx hn' hkj)
         have hrxH:=Lib.hid hrx
         clear hx hxn hxa hxb hr hrx hl3 hd hdd hA5' hAL ra hxm
         obtain⟨v,hkj,htd⟩: ∃ v,decide (K≤j)=v∧decide (t≤d)=v:=⟨_,rfl,by simp only [decide_eq_decide];exact hiff⟩
         have hvv:(v !=v)=false:=by cases v<;>rfl
         have u2H:=Lib.hid u2
         clear hiff u0 u1
         by_cases hKl:K<j
         ·have hkl:decide (K<j)=true:=decide_eq_true hKl
          obtain⟨b5',o5',xK,hA5',hb5',hxK,vK⟩:=s1H.out.num (show K<m1 by omega)
          obtain⟨rfl,rfl⟩:b5=b5'∧o5=o5':=by simpa using hA5'
          have hno:=hnonx.out K xK hxK hKl
          have hKm:=List.mem_of_getElem? hxK
          have hKn:=hinH.out xK hKm
          obtain⟨hKa,hKb⟩:=natI_mem.1 hKn.1
          obtain⟨kk,rfl⟩:=Int.eq_ofNat_of_zero_le hKa
          have hkkn:kk<n:=by have:=hL6.out.len;omega
          have hkkI:(kk:Int)<(n:Int):=by omega
          obtain⟨bL',oL',rK,A5,n5,e5,A6,n6,e6,hAL,hbL',hrK,p0,p1,p2,p3,ra5,rd5,_,_⟩:=hL6.out.get hkkn
          obtain⟨rfl,rfl⟩:bL=bL'∧oL=oL':=by simpa using hAL
          have hrKx:runAt L (kk:Int)=rK:=by have:=runAt_get (L:=L) (n:=(kk:Int)) hKn.1;rw [Int.toNat_natCast,hrK] at this;exact(Option.some.inj this).symm
          have hl5:=hlen2.out (kk:Int) hKm
          rw [hrKx,hlenq.out] at hl5
          rw [hrKx,hrxH.out] at hno
          obtain rfl:n5=n4:=by rw [←ra5.len];exact hl5.1
          obtain rfl:n6=n5:=by rw [←rd5.len];exact hl5.2
          have hno:=Lib.hid hno
          have ra5H:=Lib.hid ra5
          have rd5H:=Lib.hid rd5
          have p2H:=Lib.hid p2
          have p3H:=Lib.hid p3
          have vKH:=Lib.hid vK
          have u3H:=Lib.hid u3
          have vxH:=Lib.hid vx
          rename_i hnoX
          clear hnoX hA5' hb5' hxK hKm hKn hKa hKb hAL hbL' hrK p0 p1 p2 p3 ra5 rd5 hrKx hl5 vK
          go_wp2_with fail
          go_loopw [17] (fun vx wr=> ∃ y:Nat,at_≤y∧y≤n6∧vx= .int .i64 y∧Hid (Below w6.heap.size w6 wr)) (fun vx _=>n6-(intOf vx).toNat)
          case atStart=>exact⟨at_,Nat.le_refl _,by omega,rfl,hb⟩
          case round=>
           clear hb vxr u3r vdr
           obtain⟨y,hy1,hy2,rfl,hb⟩:=hrel
           have vxr:=(hb.out.cell (p:=⟨b5,_,none⟩) hb5).trans vxH.out
           have u2r:=(hb.out.cell (p:=⟨bL,_,none⟩) hbL).trans u2H.out
           by_cases hyn:y<n6
           ·have hyI:(y:Int)<(n6:Int):=by omega
            obtain⟨c1,o1,a1,rfl,hc1,ha1,va1⟩:=raH.out.num hyn
            obtain⟨c2,o2,d1,hD,hc2,hd1,vd1⟩:=rdH.out.num hyn
            obtain⟨c3,o3,a2,rfl,hc3,ha2,va2⟩:=ra5H.out.num hyn
            obtain⟨c4,o4,d2,rfl,hc4,hd2,vd2⟩:=rd5H.out.num hyn
            obtain⟨rfl,rfl⟩:bD=c2∧oD=o2:=by simpa using hD
            have ka:decide (a1<a2)=false:=decide_eq_false (by have:=noneB_iff.1 hno.out.1 y _ _ ha2 ha1;omega)
            have kd:decide (d1<d2)=false:=decide_eq_false (by have:=noneB_iff.1 hno.out.2 y _ _ hd2 hd1;omega)
            have hKI:(K:Int)<(m1:Int):=by omega
            have hbH:=Lib.hid hb
            clear ha1 hd1 ha2 hd2 hD hc2
            go_wp2_with fail
            go_upto_region 30 with fail
            refine wp_region_below wr.heap.size (by kernel_rfl) (by kernel_rfl) ?_
            intro C hC
            repeat(go_big_quiet_step (first
             |((intro _;with_reducible rfl))
             |(intro hc;have hcw:=hb.out.trans (hc.mono hb.out.size);have m0:=(hcw.cell (p:=⟨b5,_,none⟩) hb5).trans vxH.out;have m1:=(hcw.cell (p:=⟨b5,_,none⟩) hb5).trans vKH.out;have m2:=(hcw.cell (p:=⟨bL,_,none⟩) hbL).trans u2H.out;have m3:=(hcw.cell (p:=⟨bL,_,none⟩) hbL).trans u3H.out;have m4:=(hcw.cell (p:=⟨bL,_,none⟩) hbL).trans p2H.out;have m5:=(hcw.cell (p:=⟨bL,_,none⟩) hbL).trans p3H.out;have m6:=(hcw.cell (p:=⟨c1,_,none⟩) hc1).trans va1;have m7:=(hcw.cell (p:=⟨bD,_,none⟩) hbD).trans vd1;have m8:=(hcw.cell (p:=⟨c3,_,none⟩) hc3).trans va2;have m9:=(hcw.cell (p:=⟨c4,_,none⟩) hc4).trans vd2;simp only [m0,m1,m2,m3,m4,m5,m6,m7,m8,m9,Result.andThen];exact⟨trivial,rfl⟩)
            ))
            refine wpQuiet_nil ?_
            intro w9 hb9
            clear hC
            have hbz:=Lib.hid (hb.out.trans (hb9.mono hb.out.size))
            clear hb9
            go_wp2_with fail
            go_roundw
            case rel=>exact⟨y+1,by omega,by omega,by go_num,hbz⟩
            case measure=>simp [intOf];omega
           ·obtain rfl:y=n6:=by omega
            go_wp2_with fail
            go_roundw
            case rel=>exact⟨j+1,by omega,by go_num,hb⟩
            case measure=>simp [intOf];omega
         ·have hkl:decide (K<j)=false:=decide_eq_false hKl
          have vxH:=Lib.hid vx
          go_wp2_with fail
          go_loopw [17] (fun vx wr=> ∃ y:Nat,at_≤y∧y≤n4∧vx= .int .i64 y∧Hid (Below w6.heap.size w6 wr)) (fun vx _=>n4-(intOf vx).toNat)
          case atStart=>exact⟨at_,Nat.le_refl _,by omega,rfl,hb⟩
          case round=>
           clear hb vxr u3r vdr
           obtain⟨y,hy1,hy2,rfl,hb⟩:=hrel
           have vxr:=(hb.out.cell (p:=⟨b5,_,none⟩) hb5).trans vxH.out
           have u2r:=(hb.out.cell (p:=⟨bL,_,none⟩) hbL).trans u2H.out
           rcases Nat.lt_or_ge y n4 with hyn|hyn
           ·have hyI:(y:Int)<(n4:Int):=by omega
            go_wp2_with fail
            go_roundw
            case rel=>exact⟨j+1,by omega,by go_num,hb⟩
            case measure=>simp [intOf];omega
           ·have hyI: ¬ (y:Int)<(n4:Int):=by omega
            go_wp2_with fail
            go_roundw
            case rel=>exact⟨j+1,by omega,by go_num,hb⟩
            case measure=>simp [intOf];omega
        ·have hjI: ¬ (j:Int)<(m1:Int):=by omega
         go_wp2_with fail
         go_roundw
         case rel=>exact⟨i+1,by omega,rfl,by go_num,hb⟩
         case measure=>simp [intOf];omega
     ·obtain rfl:i=m:=by omega
      have hfin:cntP P i=n:=by rw [←hall.out,←hm];unfold cntP;rw [List.take_length]
      have hnn:((cntP P i:Int)==(n:Int))=true:=by rw [hfin];simp
      rw [hfin]
      go_wp2_with fail
      go_returns
      exact⟨rfl,hbr.out⟩
   ·have hres:(resP M L).length =0:=by unfold resP;rw [if_neg he];rfl
    have hne:(errC M L !=0)=true:=by simp [he]
    rw [hres]
    go_wp2_with fail
    go_returns
    exact⟨rfl,hb5w.out⟩
end Go.Proofs.YtechdefolfboeaaGreatDoor
