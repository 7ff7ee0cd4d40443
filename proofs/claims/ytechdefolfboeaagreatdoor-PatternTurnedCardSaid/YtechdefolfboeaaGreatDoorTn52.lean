/- Texts of one chain, merged. -/
import Derived.Test.YtechdefolfboeaaGreatDoorTn42
import Derived.Test.YtechdefolfboeaaGreatDoorTn44
import Derived.Test.YtechdefolfboeaaGreatDoorTn45
import Derived.Test.YtechdefolfboeaaGreatDoorTn51
namespace Go.Proofs.YtechdefolfboeaaGreatDoor
open Go.RowKit B K
set_option linter.unusedVariables false
set_option linter.unusedSimpArgs false
set_option maxRecDepth 100000
set_option maxHeartbeats 2000000
set_option maxHeartbeats 8000000
theorem turned_any (M:WorldP) (V:WV) (A:Option Addr) (n c:Nat) (L:List RunP) (by_:Int) (we:World) (hsp:Sp we) (hr:RW we M V) (hwf:WfM M) (hL:RRuns we A n L) (hnc:n≤c) (hat: -9223372036854775808≤by_∧by_≤9223372036854775807):
 Calls Tryz.prog 9 #[wVal M V,.slice A n c,.int .i64 by_] we fun e w'=>e= .returned (.bool true)∧Below we.heap.size we w':=by
 have hncH:=Lib.hid hnc
 have hatH:=Lib.hid hat
 clear hnc hat
 have hkf:=Lib.hid (fun w (h:RW w M V)=>kfew_any M V w h hwf)
 have hkl:=Lib.hid (fun w h=>klight_any A n c L w h)
 have hmg:=Lib.hid (fun A' n' c' L' w h1 hf h2 h3 hn hx=>paMake_any 100000 (sortOK 100000 (Nat.le_refl _)) M V A' n' c' L' w h1 hf h2 h3 hn hx)
 have hrH:=Lib.hid hr
 have hsH:=Lib.hid hsp
 have hLH:=Lib.hid hL
 obtain⟨a0,a1,a2,a3,a4,a5,aP,aD,aR,aT,aH,n0,n1,n2,n3,n4,n5,nP,nD,nR,nT,nH,c0,c1,c2,c3,c4,c5,cP,cD,cR,cT,cH⟩:=V
 simp only [wVal] at*
 obtain⟨w1,b1,hw1,hbE1,hb1,hup,B1,hge1⟩:=enter1 we 31 [.int .i64 M.hz,.slice a0 n0 c0,.slice a1 n1 c1,.slice a2 n2 c2,.slice a3 n3 c3,.slice a4 n4 c4,.slice a5 n5 c5,.slice aP nP cP,.slice aD nD cD,.slice aR nR cR,.slice aT nT cT,.slice aH nH cH]
 have B1H:=Lib.hid B1
 have l1:=B1.lt
 clear B1 hb1 hr hsp hL hwf
 go_enter Tryz.func9,Tryz.ntmps9
 go_wp2_with fail
 refine(lives20_any w1 (hsH.out.below hup.out)).mono ?_;rintro e w2 ⟨rfl,hb2⟩
 have hb2w:=Lib.hid (hup.out.trans (hb2.mono hup.out.size))
 have h12:=Lib.hid hb2
 have y0:=(hb2.cell (p:=⟨b1,_,none⟩) l1).trans (B1H.out.cell 0 rfl)
 have y1:=(hb2.cell (p:=⟨b1,_,none⟩) l1).trans (B1H.out.cell 1 rfl)
 have y2:=(hb2.cell (p:=⟨b1,_,none⟩) l1).trans (B1H.out.cell 2 rfl)
 have y3:=(hb2.cell (p:=⟨b1,_,none⟩) l1).trans (B1H.out.cell 3 rfl)
 have y4:=(hb2.cell (p:=⟨b1,_,none⟩) l1).trans (B1H.out.cell 4 rfl)
 have y5:=(hb2.cell (p:=⟨b1,_,none⟩) l1).trans (B1H.out.cell 5 rfl)
 have y6:=(hb2.cell (p:=⟨b1,_,none⟩) l1).trans (B1H.out.cell 6 rfl)
 have y7:=(hb2.cell (p:=⟨b1,_,none⟩) l1).trans (B1H.out.cell 7 rfl)
 have y8:=(hb2.cell (p:=⟨b1,_,none⟩) l1).trans (B1H.out.cell 8 rfl)
 have y9:=(hb2.cell (p:=⟨b1,_,none⟩) l1).trans (B1H.out.cell 9 rfl)
 have y10:=(hb2.cell (p:=⟨b1,_,none⟩) l1).trans (B1H.out.cell 10 rfl)
 have y11:=(hb2.cell (p:=⟨b1,_,none⟩) l1).trans (B1H.out.cell 11 rfl)
 clear hb2
 go_wp2_with fail
 clear hw1 hbE1
 refine(hkf.out w2 (hrH.out.below hb2w.out)).mono ?_;rintro e w3 ⟨rfl,hb3⟩
 have hb3w:=Lib.hid (hb2w.out.trans (hb3.mono hb2w.out.size))
 have h13:=Lib.hid (h12.out.trans (hb3.mono h12.out.size))
 clear hb3 y0 y1 y2 y3 y4 y5 y6 y7 y8 y9 y10 y11
 cases hfw:fewB M with
 |false=>
  clear hfw
  go_wp2_with fail
  go_returns
  exact⟨rfl,hb3w.out⟩
 |true=>
  have hfew:=Lib.hid (few_of hfw)
  clear hfw
  go_wp2_with fail
  refine(hkl.out w3 (hLH.out.below hb3w.out)).mono ?_;rintro e w4 ⟨rfl,hb4⟩
  have hb4w:=Lib.hid (hb3w.out.trans (hb4.mono hb3w.out.size))
  have h14:=Lib.hid (h13.out.trans (hb4.mono h13.out.size))
  clear hb4
  cases hlt:lightB L with
  |false=>
   clear hlt
   go_wp2_with fail
   go_returns
   exact⟨rfl,hb4w.out⟩
  |true=>
   have hlight:=Lib.hid hlt
   have hn60:n≤60:=by have:=light_len hlt;have:=hLH.out.len;omega
   have hnl:Hid (¬ 16384<L.length):=by have:=light_len hlt;show ¬ _;omega
   clear hlt
   have y0:=(h14.out.cell (p:=⟨b1,_,none⟩) l1).trans (B1H.out.cell 0 rfl)
   have y1:=(h14.out.cell (p:=⟨b1,_,none⟩) l1).trans (B1H.out.cell 1 rfl)
   have y2:=(h14.out.cell (p:=⟨b1,_,none⟩) l1).trans (B1H.out.cell 2 rfl)
   have y3:=(h14.out.cell (p:=⟨b1,_,none⟩) l1).trans (B1H.out.cell 3 rfl)
   have y4:=(h14.out.cell (p:=⟨b1,_,none⟩) l1).trans (B1H.out.cell 4 rfl)
   have y5:=(h14.out.cell (p:=⟨b1,_,none⟩) l1).trans (B1H.out.cell 5 rfl)
   have y6:=(h14.out.cell (p:=⟨b1,_,none⟩) l1).trans (B1H.out.cell 6 rfl)
   have y7:=(h14.out.cell (p:=⟨b1,_,none⟩) l1).trans (B1H.out.cell 7 rfl)
   have y8:=(h14.out.cell (p:=⟨b1,_,none⟩) l1).trans (B1H.out.cell 8 rfl)
   have y9:=(h14.out.cell (p:=⟨b1,_,none⟩) l1).trans (B1H.out.cell 9 rfl)
   have y10:=(h14.out.cell (p:=⟨b1,_,none⟩) l1).trans (B1H.out.cell 10 rfl)
   have y11:=(h14.out.cell (p:=⟨b1,_,none⟩) l1).trans (B1H.out.cell 11 rfl)
   have hb4:Hid (Below w4.heap.size w4 w4):=Below.refl _ _
   clear y0 y1 y2 y3 y4 y5 y6 y7 y8 y9 y10 y11
   go_wp2_with fail
   go_loopw [7] (fun vi wr=> ∃ i:Nat,i≤n∧vi= .int .i64 i∧Hid (Below w4.heap.size w4 wr)∧Hid (UnlikeN L i)) (fun vi _=>n-(intOf vi).toNat)
   case atStart=>exact⟨0,Nat.zero_le _,rfl,hb4,UnlikeN.zero L⟩
   case round=>
    obtain⟨i,hi,rfl,hb,hu⟩:=hrel
    by_cases hin:i<n
    ·have hinI:(i:Int)<(n:Int):=by omega
     clear hb4
     go_wp2_with fail
     go_loopw [8] (fun vk wr2=> ∃ k:Nat,k≤i∧vk= .int .i64 k∧Hid (Below w4.heap.size w4 wr2)∧Hid (UnlikeK L i k)) (fun vk _=>i-(intOf vk).toNat)
     case atStart=>exact⟨0,Nat.zero_le _,rfl,hb,UnlikeK.zero L i⟩
     case round=>
      clear hb
      obtain⟨k,hk,rfl,hb,hv⟩:=hrel
      have hbr2:=Lib.hid (hb4w.out.trans (hb.out.mono hb4w.out.size))
      by_cases hki:k<i
      ·have hkiI:(k:Int)<(i:Int):=by omega
       obtain⟨b,o,r,A1,n1,d1,A2,n2,d2,rfl,hbs,hx,g0,g1,_,_,_,_,_,_⟩:=hLH.out.get hin
       obtain⟨b',o',s,A1',n1',d1',A2',n2',d2',hA',hbs',hx',k0,k1,_,_,_,_,_,_⟩:=hLH.out.get (show k<n by omega)
       obtain⟨rfl,rfl⟩:b=b'∧o=o':=by simpa using hA'
       have hknI:(k:Int)<(n:Int):=by omega
       have hstep:=Lib.hid (fun h=>hv.out.step hx hx' h)
       clear hx hx' hA' hbs' hv
       by_cases e1:r.trip=s.trip
       ·rw [←e1] at k0
        by_cases e2:r.no=s.no
        ·rw [←e2] at k1
         clear hstep
         go_wp2_with fail
         go_upto_region 11 with fail
         refine wp_region_below wr.heap.size (by kernel_rfl) (by kernel_rfl) ?_
         intro C hC
         repeat(go_big_quiet_step (first
          |((intro _;with_reducible rfl))
          |(intro hc;have hcw:=hbr2.out.trans (hc.mono hbr2.out.size);have m0:=(hcw.cell (p:=⟨b,_,none⟩) hbs).trans g0;have m1:=(hcw.cell (p:=⟨b,_,none⟩) hbs).trans g1;have m2:=(hcw.cell (p:=⟨b,_,none⟩) hbs).trans k0;have m3:=(hcw.cell (p:=⟨b,_,none⟩) hbs).trans k1;simp only [m0,m1,m2,m3,Result.andThen];exact⟨trivial,rfl⟩)
         ))
         refine wpQuiet_nil ?_
         intro w9 hb9
         clear hC
         go_wp2_with fail
         go_returns
         exact⟨rfl,hbr2.out.trans (hb9.mono hbr2.out.size)⟩
        ·have hn2:(r.no==s.no)=false:=by simp [e2]
         have hne:=Lib.hid (hstep.out (fun h=>e2 h.2))
         clear hstep
         go_wp2_with fail
         go_upto_region 11 with fail
         refine wp_region_below wr.heap.size (by kernel_rfl) (by kernel_rfl) ?_
         intro C hC
         repeat(go_big_quiet_step (first
          |((intro _;with_reducible rfl))
          |(intro hc;have hcw:=hbr2.out.trans (hc.mono hbr2.out.size);have m0:=(hcw.cell (p:=⟨b,_,none⟩) hbs).trans g0;have m1:=(hcw.cell (p:=⟨b,_,none⟩) hbs).trans g1;have m2:=(hcw.cell (p:=⟨b,_,none⟩) hbs).trans k0;have m3:=(hcw.cell (p:=⟨b,_,none⟩) hbs).trans k1;simp only [m0,m1,m2,m3,Result.andThen];exact⟨trivial,rfl⟩)
         ))
         refine wpQuiet_nil ?_
         intro w9 hb9
         clear hC
         have hbz:=Lib.hid (hb.out.trans (hb9.mono hb.out.size))
         clear hb9
         go_wp2_with fail
         go_roundw
         case rel=>exact⟨k+1,by omega,by go_num,hbz,hne⟩
         case measure=>simp [intOf];omega
       ·have hn1:(r.trip==s.trip)=false:=by simp [e1]
        have hne:=Lib.hid (hstep.out (fun h=>e1 h.1))
        clear hstep
        go_wp2_with fail
        go_upto_region 11 with fail
        refine wp_region_below wr.heap.size (by kernel_rfl) (by kernel_rfl) ?_
        intro C hC
        repeat(go_big_quiet_step (first
         |((intro _;with_reducible rfl))
         |(intro hc;have hcw:=hbr2.out.trans (hc.mono hbr2.out.size);have m0:=(hcw.cell (p:=⟨b,_,none⟩) hbs).trans g0;have m1:=(hcw.cell (p:=⟨b,_,none⟩) hbs).trans g1;have m2:=(hcw.cell (p:=⟨b,_,none⟩) hbs).trans k0;have m3:=(hcw.cell (p:=⟨b,_,none⟩) hbs).trans k1;simp only [m0,m1,m2,m3,Result.andThen];exact⟨trivial,rfl⟩)
        ))
        refine wpQuiet_nil ?_
        intro w9 hb9
        clear hC
        have hbz:=Lib.hid (hb.out.trans (hb9.mono hb.out.size))
        clear hb9
        go_wp2_with fail
        go_roundw
        case rel=>exact⟨k+1,by omega,by go_num,hbz,hne⟩
        case measure=>simp [intOf];omega
      ·obtain rfl:k=i:=by omega
       have hne:=Lib.hid (hu.out.step hv.out)
       go_wp2_with fail
       go_roundw
       case rel=>exact⟨k+1,by omega,by go_num,hb,hne⟩
       case measure=>simp [intOf];omega
    ·obtain rfl:i=n:=by omega
     have hul:=Lib.hid (unlike_of (by rw [hLH.out.len];exact hu.out))
     clear hu hb4
     have hbr2:=Lib.hid (hb4w.out.trans (hb.out.mono hb4w.out.size))
     have h1r:=Lib.hid (h14.out.trans (hb.out.mono h14.out.size))
     clear hb
     go_wp2_with fail
     have hn1:(1:Int)≤(i:Int)+1∧(i:Int)+1≤1099511627776:=by omega
     refine(pick_any by_ ((i:Int)+1) wr hn1 hatH.out).mono ?_;rintro e w5 ⟨kk,rfl,hkn,hb5⟩
     have hkn':kk≤i:=by omega
     have hb5w:=Lib.hid (hbr2.out.trans (hb5.mono hbr2.out.size))
     have h15:=Lib.hid (h1r.out.trans (hb5.mono h1r.out.size))
     clear hb5 hn1 hkn hbr2 h1r
     have hcutT:=runs_head A i c kk (by have:=hncH.out;omega)
     have hcutD:=runs_cut A i c kk hkn'
     have hlenk:Hid (kk≤L.length):=by have:=hLH.out.len;show _≤_;omega
     have hlen':Hid ((L.drop kk++L.take kk).length =i):=by have:=hLH.out.len;show _=_;rw [List.length_append,List.length_drop,List.length_take];omega
     have hlim:Hid (∀ r∈L,r.arr.length≤40∧r.dep.length≤40):=light_runs hlight.out
     go_wp2_with fail
     go_wp2_with fail
     go_upto_region 14 with fail
     refine wp_region_lateM w5.heap.size [0,0,0,3,0,0,0,2,2] (by kernel_rfl) (by kernel_rfl) (Nat.le_refl _) ?_
     intro C hC
     simp only [pickK,pickT,Nat.reduceLeDiff,Nat.reduceEqDiff, ↓reduceIte]
     repeat(go_big_quiet_step (first
      |(intro _;with_reducible rfl)
      |(intro hc;simp only [hcutT,Result.andThen];exact⟨trivial,rfl⟩)
      |(intro hc;simp only [hcutD,Result.andThen];exact⟨trivial,rfl⟩)))
     refine wpQuiet_nil ?_
     clear hC
     intro C' hC'
     refine wpQuiet_nil ?_
     clear hC'
     intro wq hbq
     replace hbq:Below w5.heap.size w5 wq:=by rw [hbq];exact⟨rfl,rfl,rfl,Nat.le_refl _,fun _ _=>rfl⟩
     have hq5:=Lib.hid (hb5w.out.trans (hbq.mono hb5w.out.size))
     have hq1:=Lib.hid (h15.out.trans (hbq.mono h15.out.size))
     have hwq:Hid (w5.heap.size≤wq.heap.size):=hbq.size
     have hw5q:=Lib.hid hbq
     clear hbq
     refine wpTail4_one (by decide) ?_
     go_wp2_with fail
     refine(ownRuns_any (cutA A c kk 4) (i-kk) (c-kk) (L.drop kk) wq ((hLH.out.below hq5.out).drop hkn' hncH.out) (by omega) (fun r hr=>by have:=hlim.out r (List.mem_of_mem_drop hr);omega)).mono ?_;rintro e w6 ⟨v6,rfl,o6,hb6⟩
     obtain⟨A6,c6,e6,_,_,_⟩:=o6.rd
     have hdl:(L.drop kk).length =i-kk:=by rw [List.length_drop,hLH.out.len]
     rw [hdl] at e6
     subst e6
     have h6w:=Lib.hid (hq5.out.trans (hb6.mono hq5.out.size))
     have h61:=Lib.hid (hq1.out.trans (hb6.mono hq1.out.size))
     have hwq6:Hid (wq.heap.size≤w6.heap.size):=hb6.size
     have hw56:Hid (Below w5.heap.size w5 w6):=hw5q.out.trans (hb6.mono hwq.out)
     obtain⟨v7,w7,hrun,⟨A7,c7,e7,r7⟩,hb7⟩:=o6.app (A:=A) c (hLH.out.take hkn') h6w.out hq5.out.size (by omega) hwq6.out
     rw [hlen'.out] at e7 r7
     subst e7
     have h7w:=Lib.hid (h6w.out.trans (hb7.mono hq5.out.size))
     have h71:=Lib.hid (h61.out.trans (hb7.mono hq1.out.size))
     have r7H:=Lib.hid r7
     clear o6 hb6 hb7 r7 hq5 hq1 hwq6 h61 hdl
     go_wp2_with fail
     refine⟨fun _=>hw56.out,?_⟩
     refine wpTail4_list _ _ _ (by simp) ?_
     simp only [List.map_cons,List.map_nil]
     have l1w7:=Nat.lt_of_lt_of_le l1 h71.out.size
     have y0:=(h71.out.cell (p:=⟨b1,_,none⟩) l1).trans (B1H.out.cell 0 rfl)
     have y1:=(h71.out.cell (p:=⟨b1,_,none⟩) l1).trans (B1H.out.cell 1 rfl)
     have y2:=(h71.out.cell (p:=⟨b1,_,none⟩) l1).trans (B1H.out.cell 2 rfl)
     have y3:=(h71.out.cell (p:=⟨b1,_,none⟩) l1).trans (B1H.out.cell 3 rfl)
     have y4:=(h71.out.cell (p:=⟨b1,_,none⟩) l1).trans (B1H.out.cell 4 rfl)
     have y5:=(h71.out.cell (p:=⟨b1,_,none⟩) l1).trans (B1H.out.cell 5 rfl)
     have y6:=(h71.out.cell (p:=⟨b1,_,none⟩) l1).trans (B1H.out.cell 6 rfl)
     have y7:=(h71.out.cell (p:=⟨b1,_,none⟩) l1).trans (B1H.out.cell 7 rfl)
     have y8:=(h71.out.cell (p:=⟨b1,_,none⟩) l1).trans (B1H.out.cell 8 rfl)
     have y9:=(h71.out.cell (p:=⟨b1,_,none⟩) l1).trans (B1H.out.cell 9 rfl)
     have y10:=(h71.out.cell (p:=⟨b1,_,none⟩) l1).trans (B1H.out.cell 10 rfl)
     have y11:=(h71.out.cell (p:=⟨b1,_,none⟩) l1).trans (B1H.out.cell 11 rfl)
     go_wp2_with (at_builtin;refine wpList_append_run ?b1 (.tmp 71) (.tmp 74) 32 ?b2 ?b3 ?b4 hrun ?_)
     case b1=>rfl
     case b2=>rfl
     try(case b3=>rfl)
     try(case b4=>rfl)
     clear hrun hw56 h6w hw5q hwq
     have hrsT:=Lib.hid (resP_turn (M:=M) kk hlenk.out hul.out)
     have herT:=Lib.hid (errC_turn (M:=M) kk hlenk.out)
     have hmk1:=Lib.hid (fun w (h:Below we.heap.size we w)=>hmg.out A i c L w (hrH.out.below h) hfew.out (hsH.out.below h) (hLH.out.below h) (by omega) (by omega))
     have hmk2:=Lib.hid (fun w (h:Below we.heap.size we w) (hr:RRuns w A7 i (L.drop kk++L.take kk))=>hmg.out A7 i c7 (L.drop kk++L.take kk) w (hrH.out.below h) hfew.out (hsH.out.below h) hr (by omega) (by omega))
     rw [herT.out,hrsT.out] at hmk2
     have hpl:=Lib.hid (resP_len (M:=M) hnl.out)
     have hsh:=Lib.hid (fun p hp=>resP_short (M:=M) hnl.out (p:=p) hp)
     have hat2:=Lib.hid (fun p hp j a ha=>turn_at (M:=M) hlenk.out (p:=p) hp (j:=j) (a:=a) ha)
     obtain⟨Q,hQ⟩: ∃ q,(L.drop kk++L.take kk)=q:=⟨_,rfl⟩
     rw [hQ] at r7H hmk2 hlen' hat2
     obtain⟨σ,hσ⟩: ∃ q,turnI L.length kk=q:=⟨_,rfl⟩
     rw [hσ] at hmk2 hat2
     obtain⟨P,hP⟩: ∃ q,resP M L=q:=⟨_,rfl⟩
     rw [hP] at hmk1 hmk2 hpl hsh hat2
     obtain⟨eP,heP⟩: ∃ q,errC M L=q:=⟨_,rfl⟩
     rw [heP] at hmk1 hmk2
     unfold RetMkP at hmk1 hmk2
     simp only [List.length_map] at hmk2
     obtain⟨m,hm⟩: ∃ q,P.length=q:=⟨_,rfl⟩
     have hmH:=Lib.hid hm
     have hm60:m≤60:=by rw [←hm];have:=hpl.out;have:=hLH.out.len;omega
     simp only [hm] at hmk1 hmk2
     clear hrsT herT hQ hσ hP heP hm hmg hkf hkl hcutT hcutD hul hpl
     refine(hmk1.out w7 h7w.out).mono ?_;rintro e w8 ⟨A8,c8,rfl,r8,_,_,hb8⟩
     have h8w:=Lib.hid (h7w.out.trans (hb8.mono h7w.out.size))
     have h81:=Lib.hid (h71.out.trans (hb8.mono h71.out.size))
     have r78:=Lib.hid (r7H.out.below hb8)
     have r8H:=Lib.hid r8
     clear r8 hb8 y0 y1 y2 y3 y4 y5 y6 y7 y8 y9 y10 y11 hmk1 r7H h71 h7w
     have l1w8:=Nat.lt_of_lt_of_le l1 h81.out.size
     have y0:=(h81.out.cell (p:=⟨b1,_,none⟩) l1).trans (B1H.out.cell 0 rfl)
     have y1:=(h81.out.cell (p:=⟨b1,_,none⟩) l1).trans (B1H.out.cell 1 rfl)
     have y2:=(h81.out.cell (p:=⟨b1,_,none⟩) l1).trans (B1H.out.cell 2 rfl)
     have y3:=(h81.out.cell (p:=⟨b1,_,none⟩) l1).trans (B1H.out.cell 3 rfl)
     have y4:=(h81.out.cell (p:=⟨b1,_,none⟩) l1).trans (B1H.out.cell 4 rfl)
     have y5:=(h81.out.cell (p:=⟨b1,_,none⟩) l1).trans (B1H.out.cell 5 rfl)
     have y6:=(h81.out.cell (p:=⟨b1,_,none⟩) l1).trans (B1H.out.cell 6 rfl)
     have y7:=(h81.out.cell (p:=⟨b1,_,none⟩) l1).trans (B1H.out.cell 7 rfl)
     have y8:=(h81.out.cell (p:=⟨b1,_,none⟩) l1).trans (B1H.out.cell 8 rfl)
     have y9:=(h81.out.cell (p:=⟨b1,_,none⟩) l1).trans (B1H.out.cell 9 rfl)
     have y10:=(h81.out.cell (p:=⟨b1,_,none⟩) l1).trans (B1H.out.cell 10 rfl)
     have y11:=(h81.out.cell (p:=⟨b1,_,none⟩) l1).trans (B1H.out.cell 11 rfl)
     go_wp2_with fail
     refine(hmk2.out w8 h8w.out r78.out).mono ?_;rintro e w9 ⟨A9,c9,rfl,r9,_,_,hb9⟩
     have h9w:=Lib.hid (h8w.out.trans (hb9.mono h8w.out.size))
     have r79:=Lib.hid (r78.out.below hb9)
     have r89:=Lib.hid (r8H.out.below hb9)
     have r9H:=Lib.hid r9
     clear r9 hb9 y0 y1 y2 y3 y4 y5 y6 y7 y8 y9 y10 y11 hmk2 r78 r8H h81 h8w
     have hLw:=Lib.hid (hLH.out.below h9w.out)
     have hL60:=Lib.hid (hLH.out.len)
     have hb9:Hid (Below w9.heap.size w9 w9):=Below.refl _ _
     have he0:(eP !=eP)=false:=by simp
     have hm0:((m:Int) !=(m:Int))=false:=by simp
     clear hlight hnl hfew hrH hsH hLH hncH hatH
     go_wp2_with fail
     go_loopw [14] (fun vi wr=> ∃ j:Nat,j≤m∧vi= .int .i64 j∧Hid (Below w9.heap.size w9 wr)) (fun vi _=>m-(intOf vi).toNat)
     case atStart=>exact⟨0,Nat.zero_le _,rfl,hb9⟩
     case round=>
      clear hb9
      obtain⟨j,hj,rfl,hb⟩:=hrel
      have hbr:=Lib.hid (h9w.out.trans (hb.out.mono h9w.out.size))
      by_cases hjm:j<m
      ·have hjI:(j:Int)<(m:Int):=by omega
       obtain⟨bp,op,p,X1,m1,d1,rfl,hbp,hp,g0,g1,s1,hs1⟩:=r89.out.get hjm
       obtain⟨bq,oq,q',X2,m2,d2,rfl,hbq,hq,k0,k1,s2,hs2⟩:=r9H.out.get hjm
       have hq':q'=mapP σ p:=by rw [List.getElem?_map,hp] at hq;exact(Option.some.inj hq).symm
       subst hq'
       obtain rfl:m2=m1:=by rw [←s2.len,←s1.len];simp [mapP]
       have k0:w9.cell? ⟨bq,oq+j*2,none⟩=some (.int .i64 p.rt):=k0
       have s1H:=Lib.hid s1
       have s2H:Hid (Rd w9 1 (numE .i64) X2 m2 (p.runs.map σ)):=s2
       have hpm:=List.mem_of_getElem? hp
       have hmL:m2≤60:=by have h1:=hsh.out p hpm;have h2:=s1.len;have h3:=hL60.out;omega
       have hatp:=Lib.hid (hat2.out p hpm)
       have hr0:(p.rt !=p.rt)=false:=by simp
       have hl0:((m2:Int) !=(m2:Int))=false:=by simp
       obtain⟨prt,hprt⟩: ∃ q,p.rt=q:=⟨_,rfl⟩
       rw [hprt] at g0 k0 hr0
       have hb1:=Lib.hid hb
       rename_i k0x;clear k0x s1 s2 hp hq hpm hs1 hs2 hprt
       go_wp2_with fail
       go_upto_region 22 with fail
       refine wp_region_below wr.heap.size (by kernel_rfl) (by kernel_rfl) ?_
       intro C hC
       repeat(go_big_quiet_step (first
        |((intro _;with_reducible rfl))
        |(intro hc;have hcw:=hb.out.trans (hc.mono hb.out.size);have m0:=(hcw.cell (p:=⟨bp,_,none⟩) hbp).trans g0;have m1:=(hcw.cell (p:=⟨bp,_,none⟩) hbp).trans g1;have m2:=(hcw.cell (p:=⟨bq,_,none⟩) hbq).trans k0;have m3:=(hcw.cell (p:=⟨bq,_,none⟩) hbq).trans k1;simp only [m0,m1,m2,m3,Result.andThen];exact⟨trivial,rfl⟩)
       ))
       refine wpQuiet_nil ?_
       intro wz hbz
       clear hC
       have hb9w:=Lib.hid (hb.out.trans (hbz.mono hb.out.size))
       clear hbz g0 k0 hr0 hl0 hb1
       go_wp2_with fail
       go_loopw [15] (fun vk wr=> ∃ k:Nat,k≤m2∧vk= .int .i64 k∧Hid (Below w9.heap.size w9 wr)) (fun vk _=>m2-(intOf vk).toNat)
       case atStart=>exact⟨0,Nat.zero_le _,rfl,hb9w⟩
       case round=>
        clear hb9w hb hbr
        obtain⟨k,hk,rfl,hb⟩:=hrel
        have hbr:=Lib.hid (h9w.out.trans (hb.out.mono h9w.out.size))
        have z1:=(hb.out.cell (p:=⟨bp,_,none⟩) hbp).trans g1
        by_cases hkm:k<m2
        ·have hkI:(k:Int)<(m2:Int):=by omega
         obtain⟨ba,oa,a,rfl,hba,ha,f1⟩:=s1H.out.num hkm
         obtain⟨bb,ob,b',rfl,hbb,hb',f2⟩:=s2H.out.num hkm
         obtain rfl:b'=σ a:=by rw [List.getElem?_map,ha] at hb';exact(Option.some.inj hb').symm
         obtain⟨x,y,ex,hx,ey,hy,r,hrx,hry⟩:=hatp.out k a ha
         rw [ey] at f2
         subst ex
         have hxi:x<i:=by have:=hL60.out;omega
         have hyi:y<i:=by have:=hL60.out;omega
         have hlim2:=hlim.out r (List.mem_of_getElem? hrx)
         obtain⟨bx,ox,r',A1,n1,e1,A2,n2,e2,rfl,hbx,hr1,t0,t1,t2,t3,ra1,ra2,hc1,hc2⟩:=hLw.out.get hxi
         obtain rfl:r=r':=Option.some.inj (hrx.symm.trans hr1)
         obtain⟨by',oy,r',A3,n3,e3,A4,n4,e4,rfl,hby,hr2,v0,v1,v2,v3,rb1,rb2,hc3,hc4⟩:=r79.out.get hyi
         obtain rfl:r=r':=Option.some.inj (hry.symm.trans hr2)
         have hrun:=Lib.hid (fun w (h:Below w9.heap.size w9 w)=>kRun_any (r.trip,r.no,(A1,n1,e1),(A2,n2,e2)) (r.trip,r.no,(A3,n3,e3),(A4,n4,e4)) r w ⟨rfl,rfl,ra1.below h,hc1,ra2.below h,hc2⟩ ⟨rfl,rfl,rb1.below h,hc3,rb2.below h,hc4⟩ (by omega) (by omega))
         simp only [rnE,SlV.v] at hrun
         have hxI:(x:Int)<(i:Int):=by omega
         have hyI:(y:Int)<(i:Int):=by omega
         have hx0:decide ((x:Int)<0)=false:=decide_eq_false (by omega)
         have hy0:decide ((y:Int)<0)=false:=decide_eq_false (by omega)
         have hxg:decide (i≤x)=false:=decide_eq_false (by omega)
         have hyg:decide (i≤y)=false:=decide_eq_false (by omega)
         clear hrx hry hr1 hr2 ra1 ra2 rb1 rb2 hc1 hc2 hc3 hc4 ha hb' ey hx hy hlim2
         go_wp2_with fail
         go_upto_region 27 with fail
         refine wp_region_below wr.heap.size (by kernel_rfl) (by kernel_rfl) ?_
         intro C hC
         repeat(go_big_quiet_step (first
          |((intro _;with_reducible rfl))
          |(intro hc;have hcw:=hb.out.trans (hc.mono hb.out.size);have m0:=(hcw.cell (p:=⟨bp,_,none⟩) hbp).trans g1;have m1:=(hcw.cell (p:=⟨bq,_,none⟩) hbq).trans k1;have m2:=(hcw.cell (p:=⟨ba,_,none⟩) hba).trans f1;have m3:=(hcw.cell (p:=⟨bb,_,none⟩) hbb).trans f2;simp only [m0,m1,m2,m3,Result.andThen];exact⟨trivial,rfl⟩)
         ))
         refine wpQuiet_nil ?_
         intro wz hbz
         clear hC
         have hz:=Lib.hid (hb.out.trans (hbz.mono hb.out.size))
         clear hbz z1 f1 f2
         go_wp2_with fail
         go_upto_region 28 with fail
         refine wp_region_below wz.heap.size (by kernel_rfl) (by kernel_rfl) ?_
         intro C hC
         repeat(go_big_quiet_step (first
          |((intro _;with_reducible rfl))
          |(intro hc;have hcw:=hz.out.trans (hc.mono hz.out.size);have m0:=(hcw.cell (p:=⟨bx,_,none⟩) hbx).trans t0;have m1:=(hcw.cell (p:=⟨bx,_,none⟩) hbx).trans t1;have m2:=(hcw.cell (p:=⟨bx,_,none⟩) hbx).trans t2;have m3:=(hcw.cell (p:=⟨bx,_,none⟩) hbx).trans t3;have m4:=(hcw.cell (p:=⟨by',_,none⟩) hby).trans v0;have m5:=(hcw.cell (p:=⟨by',_,none⟩) hby).trans v1;have m6:=(hcw.cell (p:=⟨by',_,none⟩) hby).trans v2;have m7:=(hcw.cell (p:=⟨by',_,none⟩) hby).trans v3;simp only [m0,m1,m2,m3,m4,m5,m6,m7,Result.andThen];exact⟨trivial,rfl⟩)
          |(intro hc;have hcw:=hz.out.trans (hc.mono hz.out.size);(with_reducible refine(hrun.out _ hcw).mono ?_);rintro e w'' ⟨rfl,hw⟩;exact⟨rfl,hc.trans (hw.mono hc.size)⟩)))
         refine wpQuiet_nil ?_
         intro wz' hbz'
         clear hC
         have hy:=Lib.hid (hz.out.trans (hbz'.mono hz.out.size))
         clear hbz' hz
         go_wp2_with fail
         go_roundw
         case rel=>exact⟨k+1,by omega,by go_num,hy⟩
         case measure=>simp [intOf];omega
        ·have hkI: ¬ (k:Int)<(m2:Int):=by omega
         go_wp2_with fail
         go_roundw
         case rel=>exact⟨j+1,by omega,by go_num,hb⟩
         case measure=>simp [intOf];omega
      ·have hjI: ¬ (j:Int)<(m:Int):=by omega
       go_wp2_with fail
       go_returns
       exact⟨rfl,hbr.out⟩
end Go.Proofs.YtechdefolfboeaaGreatDoor
