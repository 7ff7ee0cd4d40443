/- Texts of one chain, merged. -/
import Derived.Test.YtechdefolfboeaaGreatDoorCc1
import Derived.Test.YtechdefolfboeaaGreatDoorCc48
import Derived.Test.YtechdefolfboeaaGreatDoorCc49
import Derived.Test.YtechdefolfboeaaGreatDoorCc50
import Derived.Test.YtechdefolfboeaaGreatDoorCc51
import Derived.Test.YtechdefolfboeaaGreatDoorCc52
set_option linter.unusedVariables false
set_option linter.unusedSimpArgs false
set_option maxRecDepth 100000
set_option maxHeartbeats 2000000
namespace Go.Proofs.YtechdefolfboeaaGreatDoor
open Go.RowKit B K
section
variable {M:WorldP} {L:List RunP}
end
theorem light_runs {L:List RunP} (h:lightB L=true): ∀ r∈L,r.arr.length≤40∧r.dep.length≤40:=by
 intro r hr
 unfold lightB at h
 rw [Bool.and_eq_true,List.all_eq_true] at h
 have:=h.2 r hr
 simpa using this
def UnlikeN (L:List RunP) (i:Nat):Prop:= ∀ a b,b<a→a<i→ ∀ r s,L[a]?=some r→L[b]?=some s→ ¬ (r.trip=s.trip∧r.no=s.no)
def UnlikeK (L:List RunP) (i k:Nat):Prop:= ∀ b,b<k→ ∀ r s,L[i]?=some r→L[b]?=some s→ ¬ (r.trip=s.trip∧r.no=s.no)
theorem UnlikeK.zero (L:List RunP) (i:Nat):UnlikeK L i 0:=fun b h=>absurd h (by omega)
theorem UnlikeN.zero (L:List RunP):UnlikeN L 0:=fun a b _ h=>absurd h (by omega)
theorem UnlikeK.step {L:List RunP} {i k:Nat} {r s:RunP} (h:UnlikeK L i k) (hr:L[i]?=some r) (hs:L[k]?=some s) (hne: ¬ (r.trip=s.trip∧r.no=s.no)):UnlikeK L i (k+1):=by
 intro b hb r' s' h1 h2
 rcases Nat.lt_or_ge b k with hk|hk
 ·exact h b hk r' s' h1 h2
 ·obtain rfl:b=k:=by omega
  rw [hr] at h1;rw [hs] at h2;cases h1;cases h2
  exact hne
theorem UnlikeN.step {L:List RunP} {i:Nat} (h:UnlikeN L i) (hk:UnlikeK L i i):UnlikeN L (i+1):=by
 intro a b hba ha r s h1 h2
 rcases Nat.lt_or_ge a i with h3|h3
 ·exact h a b hba h3 r s h1 h2
 ·obtain rfl:a=i:=by omega
  exact hk b hba r s h1 h2
theorem calls19_any (M:WorldP) (V:WV) (A:Option Addr) (n c:Nat) (L:List RunP) (Ac:Option Addr) (m cc:Nat) (K:List ConnP) (t stop run:Int) (we:World) (hsp:Sp we) (hr:RW we M V) (hwf:WfM M) (hL:RRuns we A n L) (hK:Rd we 6 connE Ac m K):
 Calls Tryz.prog 7 #[wVal M V,.slice A n c,.slice Ac m cc,.int .i64 t,.int .i64 stop,.int .i64 run] we fun e w'=>e= .returned (.bool true)∧Below we.heap.size we w':=by
 have hKH:=Lib.hid hK
 clear hK
 have hkf:=Lib.hid (fun w (h:RW w M V)=>kfew_any M V w h hwf)
 have hkl:=Lib.hid (fun w h=>klight_any A n c L w h)
 have how:=Lib.hid (fun w (h:RW w M V) hf=>ownWorld_any M V w h hf)
 have hrm:=Lib.hid (fun w (h:RW w M V) hf h3 hn=>rmakeC_any M V A n c L w h hf h3 hn)
 have hrf:=Lib.hid (fun w (h:RW w M V) hf t no x1 x2 m1 m2 d1 d2 arr dep ha hd=>rFits_any M V w h hf t no x1 x2 m1 m2 d1 d2 arr dep ha hd)
 have hcf:=Lib.hid (fun w (h:RW w M V) hf hs t no x1 x2 m1 m2 d1 d2 arr dep ha hd=>cFits_any M V w h hf hs t no x1 x2 m1 m2 d1 d2 arr dep ha hd)
 have hrH:=Lib.hid hr
 have hsH:=Lib.hid hsp
 have hLH:=Lib.hid hL
 obtain⟨a0,a1,a2,a3,a4,a5,aP,aD,aR,aT,aH,n0,n1,n2,n3,n4,n5,nP,nD,nR,nT,nH,c0,c1,c2,c3,c4,c5,cP,cD,cR,cT,cH⟩:=V
 simp only [wVal] at*
 obtain⟨w1,b1,hw1,hbE1,hb1,hup,B1,hge1⟩:=enter1 we 31 [.int .i64 M.hz,.slice a0 n0 c0,.slice a1 n1 c1,.slice a2 n2 c2,.slice a3 n3 c3,.slice a4 n4 c4,.slice a5 n5 c5,.slice aP nP cP,.slice aD nD cD,.slice aR nR cR,.slice aT nT cT,.slice aH nH cH]
 have B1H:=Lib.hid B1
 have l1:=B1.lt
 clear B1 hb1 hr hsp hL hwf
 go_enter Tryz.func7,Tryz.ntmps7
 go_wp2_with fail
 refine(lives19_any w1 (hsH.out.below hup.out)).mono ?_;rintro e w2 ⟨rfl,hb2⟩
 have hb2w:=h_ hup hb2
 have h12:=Lib.hid hb2
 obtain⟨y0,y1,y2,y3,y4,y5,y6,y7,y8,y9,y10,y11⟩:=d_12 hb2 l1 B1H.out
 clear hb2
 go_wp2_with fail
 clear hw1 hbE1
 refine(hkf.out w2 (hrH.out.below hb2w.out)).mono ?_;rintro e w3 ⟨rfl,hb3⟩
 have hb3w:=h_ hb2w hb3
 have h13:=h_ h12 hb3
 clear hb3 y0 y1 y2 y3 y4 y5 y6 y7 y8 y9 y10 y11
 cases hfw:fewB M with
 |false=>
  clear hfw
  go_wp2_with fail
  go_returns
  exact⟨rfl,hb3w.out⟩
 |true=>
  have hfew:=Lib.hid (few_of hfw)
  clear hfw
  go_wp2_with fail
  refine(hkl.out w3 (hLH.out.below hb3w.out)).mono ?_;rintro e w4 ⟨rfl,hb4⟩
  have hb4w:=h_ hb3w hb4
  have h14:=h_ h13 hb4
  clear hb4
  cases hlt:lightB L with
  |false=>
   clear hlt
   go_wp2_with fail
   go_returns
   exact⟨rfl,hb4w.out⟩
  |true=>
   have hlight:=Lib.hid hlt
   have hn60:n≤60:=by have:=light_len hlt;have:=hLH.out.len;omega
   have hnl:Hid (¬ 16384<L.length):=by have:=light_len hlt;show ¬ _;omega
   clear hlt
   obtain⟨y0,y1,y2,y3,y4,y5,y6,y7,y8,y9,y10,y11⟩:=d_12 h14.out l1 B1H.out
   by_cases hm100:100<m
   ·have hd:decide (100<m)=true:=decide_eq_true hm100
    have hdI:decide ((100:Int)<(m:Int))=true:=decide_eq_true (by omega)
    go_wp2_with fail
    go_returns
    exact⟨rfl,hb4w.out⟩
   ·have hd:decide (100<m)=false:=decide_eq_false hm100
    have hdI:decide ((100:Int)<(m:Int))=false:=decide_eq_false (by omega)
    have hlim:Hid (∀ r∈L,r.arr.length≤40∧r.dep.length≤40):=light_runs hlight.out
    go_wp2_with fail
    refine(how.out w4 (hrH.out.below hb4w.out) hfew.out).mono ?_;rintro e w5 ⟨V5,rfl,hW5,hb5⟩
    have hb5w:=h_ hb4w hb5
    have h15:=h_ h14 hb5
    have hW5H:=Lib.hid hW5
    clear hW5 hb5 y0 y1 y2 y3 y4 y5 y6 y7 y8 y9 y10 y11 how hd hdI
    go_wp2_with fail
    refine(ownRuns_any A n c L w5 (hLH.out.below hb5w.out) (by omega) (fun r hr=>by have:=hlim.out r hr;omega)).mono ?_;rintro e w6 ⟨v6,rfl,ho,hb6⟩
    obtain⟨A6,c6,rfl,r6,_,_⟩:=ho.rd
    rw [hLH.out.len] at r6
    have hln:L.length=n:=hLH.out.len
    simp only [hln]
    have hb6w:=h_ hb5w hb6
    have h16:=h_ h15 hb6
    have hmk:=Lib.hid (cmake_any M V5 A6 n c6 L w6 (hW5H.out.below hb6) hfew.out (hsH.out.below hb6w.out) r6 (by omega))
    have hrm7:=Lib.hid (fun w (h:Below we.heap.size we w)=>hrm.out w (hrH.out.below h) hfew.out (hLH.out.below h) (by omega))
    have hRl:Hid ((resC M L).length ≤2000):=by
     show _≤_
     by_cases he:errC M L=0
     ·rw [resC_ok he]
      have:=makeC_len_le (L:=L) (okC_of hnl.out he).good
      omega
     ·rw [resC_no he];simp
    obtain⟨R,hR⟩: ∃ R,resC M L=R:=⟨_,rfl⟩
    obtain⟨ec,hec⟩: ∃ q,errC M L=q:=⟨_,rfl⟩
    rw [hR,hec] at hmk hrm7
    rw [hR] at hRl
    clear hb6 ho r6 hln hR hec hW5H hrm hb5w h15
    go_wp2_with fail
    refine hmk.out.mono ?_;rintro e w7 ⟨A7,c7,rfl,r7,hc7,hm7,hb7⟩
    have hb7w:=h_ hb6w hb7
    have h17:=h_ h16 hb7
    have r7H:=Lib.hid r7
    clear r7 hb7 hmk hb6w h16 hc7 hm7
    have l1w7:=Nat.lt_of_lt_of_le l1 h17.out.size
    obtain⟨y0,y1,y2,y3,y4,y5,y6,y7,y8,y9,y10,y11⟩:=d_12 h17.out l1 B1H.out
    go_wp2_with fail
    refine(hrm7.out w7 hb7w.out).mono ?_;rintro e w8 ⟨A8,c8,rfl,r8,hc8,hm8,hb8⟩
    have hb8w:=h_ hb7w hb8
    have h18:=h_ h17 hb8
    have r78:=Lib.hid (r7H.out.below hb8)
    have r88:=Lib.hid r8
    clear r7H r8 hb8 hrm7 hb7w h17 hc8 hm8 y0 y1 y2 y3 y4 y5 y6 y7 y8 y9 y10 y11
    have hK8:=Lib.hid (hKH.out.below hb8w.out)
    have hsm:=Lib.hid (fun U (h:Below w8.heap.size w8 U)=>kSameC_any A7 R.length c7 R A8 R.length c8 R U (r78.out.below h) (r88.out.below h) (by have:=hRl.out;omega) (by have:=hRl.out;omega))
    rw [decide_eq_true rfl] at hsm
    have hec0:(ec !=ec)=false:=by simp
    go_wp2_with fail
    go_upto_region 7 with fail
    go_cut [77] (fun v wx=>v= .bool false∧Hid (Below w8.heap.size w8 wx))
    case first=>
     by_cases hm1:1<m
     ·have hd1:decide (1<m)=true:=decide_eq_true hm1
      have hdI1:decide ((1:Int)<(m:Int))=true:=decide_eq_true (by omega)
      have hm0I:(0:Int)<(m:Int):=by omega
      have hm1I:(1:Int)<(m:Int):=by omega
      obtain⟨bk,ok,x,rfl,hbk,hx,fx⟩:=hK8.out.get (show 0<m by omega)
      obtain⟨_,_,y,hq,_,hy,fy⟩:=hK8.out.get hm1
      cases hq
      have hl1:=Lib.hid (fun U=>cless_any x y U)
      have hl2:=Lib.hid (fun U=>rless_any x y U)
      obtain⟨lv,hlv⟩: ∃ q,ltC x y=q:=⟨_,rfl⟩
      rw [hlv] at hl1 hl2
      have hlv0:(lv !=lv)=false:=by cases lv<;>rfl
      obtain⟨x1,x2,x3,x4,x5,x6⟩:=x
      obtain⟨y1,y2,y3,y4,y5,y6⟩:=y
      simp only [connE] at hl1 hl2
      have g0:=fx 0 _ rfl
      have k0:=fy 0 _ rfl
      have g1:=fx 1 _ rfl
      have k1:=fy 1 _ rfl
      have g2:=fx 2 _ rfl
      have k2:=fy 2 _ rfl
      have g3:=fx 3 _ rfl
      have k3:=fy 3 _ rfl
      have g4:=fx 4 _ rfl
      have k4:=fy 4 _ rfl
      have g5:=fx 5 _ rfl
      have k5:=fy 5 _ rfl
      simp only [Nat.zero_mul,Nat.one_mul,Nat.add_zero] at g0 k0 k1 k2 k3 k4 k5
      clear fx fy hx hy hlv
      go_wp2_with fail
      go_upto_region 7 with fail
      refine wp_region_below w8.heap.size (by kernel_rfl) (by kernel_rfl) ?_
      intro C hC
      repeat(go_big_quiet_step (first
       |((intro _;with_reducible rfl))
       |(intro hc;have hcw:=b_ hb8w hc;have m0:=c_ hc hbk g0;have m1:=c_ hc hbk g1;have m2:=c_ hc hbk g2;have m3:=c_ hc hbk g3;have m4:=c_ hc hbk g4;have m5:=c_ hc hbk g5;have m6:=c_ hc hbk k0;have m7:=c_ hc hbk k1;have m8:=c_ hc hbk k2;have m9:=c_ hc hbk k3;have m10:=c_ hc hbk k4;have m11:=c_ hc hbk k5;simp only [m0,m1,m2,m3,m4,m5,m6,m7,m8,m9,m10,m11,Result.andThen];exact⟨trivial,rfl⟩)
       |(intro hc;have hcw:=b_ hb8w hc;(with_reducible refine(hsm.out _ hc).mono ?_);rintro e w'' ⟨rfl,hw⟩;exact⟨rfl,u_ hc hw⟩)
       |(intro hc;have hcw:=b_ hb8w hc;(with_reducible refine(hl1.out _).mono ?_);rintro e w'' ⟨rfl,hw⟩;exact⟨rfl,u_ hc hw.below⟩)
       |(intro hc;have hcw:=b_ hb8w hc;(with_reducible refine(hl2.out _).mono ?_);rintro e w'' ⟨rfl,hw⟩;exact⟨rfl,u_ hc hw⟩)))
      refine wpQuiet_nil ?_
      intro w9 hb9
      clear hC
      have hbx:=Lib.hid hb9
      clear hb9
      go_wp2_with fail
      go_meet
      exact⟨rfl,hbx⟩
     ·have hd1:decide (1<m)=false:=decide_eq_false hm1
      have hdI1:decide ((1:Int)<(m:Int))=false:=decide_eq_false (by omega)
      go_wp2_with fail
      go_upto_region 7 with fail
      refine wp_region_below w8.heap.size (by kernel_rfl) (by kernel_rfl) ?_
      intro C hC
      repeat(go_big_quiet_step (first
       |((intro _;with_reducible rfl))
       |(intro hc;have hcw:=b_ hb8w hc;(with_reducible refine(hsm.out _ hc).mono ?_);rintro e w'' ⟨rfl,hw⟩;exact⟨rfl,u_ hc hw⟩)))
      refine wpQuiet_nil ?_
      intro w9 hb9
      clear hC
      have hbx:=Lib.hid hb9
      clear hb9
      go_wp2_with fail
      go_meet
      exact⟨rfl,hbx⟩
    case rest=>
     obtain⟨rfl,hbx⟩:=hcut
     clear hsm hec0
     go_wp2_with fail
     go_loopw [17] (fun iv wr=> ∃ i:Nat,i≤n∧iv= .int .i64 i∧Hid (Below w8.heap.size w8 wr)) (fun iv _=>n-(intOf iv).toNat)
     case atStart=>exact⟨0,Nat.zero_le _,rfl,hbx⟩
     case round=>
      clear hbx
      obtain⟨i,hi,rfl,hb⟩:=hrel
      have hbr:=h_ hb8w hb.out
      have h1r:=h_ h18 hb.out
      by_cases hin:i<n
      ·have hinI:(i:Int)<(n:Int):=by omega
       obtain⟨bL,oL,r,A1,n1,e1,A2,n2,e2,rfl,hbL,hr1,t0,t1,t2,t3,ra1,ra2,_,_⟩:=hLH.out.get hin
       have hf1:=Lib.hid (fun w (h:Below we.heap.size we w)=>hcf.out w (hrH.out.below h) hfew.out (hsH.out.below h) r.trip r.no A1 A2 n1 n2 e1 e2 r.arr r.dep (ra1.below h) (ra2.below h))
       have hf2:=Lib.hid (fun w (h:Below we.heap.size we w)=>hrf.out w (hrH.out.below h) hfew.out r.trip r.no A1 A2 n1 n2 e1 e2 r.arr r.dep (ra1.below h) (ra2.below h))
       obtain⟨q,hq⟩: ∃ q:Int,(if(goodB nameB M&&fitsR M ⟨r.trip,r.no,r.arr,r.dep⟩)=true then 0 else 2)=q:=⟨_,rfl⟩
       rw [hq] at hf1 hf2
       have hq0:(q !=q)=false:=by simp
       obtain⟨rt,hrt⟩: ∃ q,r.trip=q:=⟨_,rfl⟩
       obtain⟨rn,hrn⟩: ∃ q,r.no=q:=⟨_,rfl⟩
       rw [hrt] at t0 hf1 hf2
       rw [hrn] at t1 hf1 hf2
       have l1wr:=Nat.lt_of_lt_of_le l1 h1r.out.size
       obtain⟨y0,y1,y2,y3,y4,y5,y6,y7,y8,y9,y10,y11⟩:=d_12 h1r.out l1 B1H.out
       clear hr1 ra1 ra2 hrt hrn hq
       go_wp2_with fail
       go_upto_region 12 with fail
       refine wp_region_below wr.heap.size (by kernel_rfl) (by kernel_rfl) ?_
       intro C hC
       repeat(go_big_quiet_step (first
        |((intro _;with_reducible rfl))
        |(intro hc;have hcw:=b_ hbr hc;have m0:=c_ hc l1wr y0;have m1:=c_ hc l1wr y1;have m2:=c_ hc l1wr y2;have m3:=c_ hc l1wr y3;have m4:=c_ hc l1wr y4;have m5:=c_ hc l1wr y5;have m6:=c_ hc l1wr y6;have m7:=c_ hc l1wr y7;have m8:=c_ hc l1wr y8;have m9:=c_ hc l1wr y9;have m10:=c_ hc l1wr y10;have m11:=c_ hc l1wr y11;have m12:=c_ hcw hbL t0;have m13:=c_ hcw hbL t1;have m14:=c_ hcw hbL t2;have m15:=c_ hcw hbL t3;simp only [m0,m1,m2,m3,m4,m5,m6,m7,m8,m9,m10,m11,m12,m13,m14,m15,Result.andThen];exact⟨trivial,rfl⟩)
        |(intro hc;have hcw:=b_ hbr hc;(with_reducible refine(hf1.out _ hcw).mono ?_);rintro e w'' ⟨rfl,hw⟩;exact⟨rfl,u_ hc hw⟩)
        |(intro hc;have hcw:=b_ hbr hc;(with_reducible refine(hf2.out _ hcw).mono ?_);rintro e w'' ⟨rfl,hw⟩;exact⟨rfl,u_ hc hw⟩)))
       refine wpQuiet_nil ?_
       intro w9 hb9
       clear hC
       have hbz:=h_ hb hb9
       clear hb9
       go_wp2_with fail
       go_roundw
       case rel=>exact⟨i+1,by omega,by go_num,hbz⟩
       case measure=>simp [intOf];omega
      ·have hinI: ¬ (i:Int)<(n:Int):=by omega
       have hbw8:=Lib.hid hb8w.out
       have hm100':m≤100:=by omega
       have hRl2:=hRl.out
       obtain⟨fc,hfc⟩: ∃ q,firstC K t=q:=⟨_,rfl⟩
       have hK0:=Lib.hid (fun w (h:Below w8.heap.size w8 w)=>hK8.out.below h)
       have hfi1:=Lib.hid (fun w (h:Below w8.heap.size w8 w)=>cfirst_any Ac m cc K t w (hK0.out w h) (by omega))
       have hfi2:=Lib.hid (fun w (h:Below w8.heap.size w8 w)=>rfirst_any Ac m cc K t w (hK0.out w h) (by omega))
       rw [hfc] at hfi1 hfi2
       have hfcb:((fc:Int)==(fc:Int))=true:=by simp
       obtain⟨sv,hsv⟩: ∃ q,decide (R=K)=q:=⟨_,rfl⟩
       have hsa1:=Lib.hid (fun w (h:Below w8.heap.size w8 w)=>csame_any A7 R.length c7 R Ac m cc K w (r78.out.below h) (hK0.out w h) (by omega) (by omega))
       have hsa2:=Lib.hid (fun w (h:Below w8.heap.size w8 w)=>kSameC_any A8 R.length c8 R Ac m cc K w (r88.out.below h) (hK0.out w h) (by omega) (by omega))
       rw [hsv] at hsa1 hsa2
       have hsvb:(sv==sv)=true:=by cases sv<;>rfl
       have hlf: ∀ p,(K.filter p).length ≤100:=fun p=>Nat.le_trans (List.length_filter_le _ _) (by rw [hK8.out.len];exact hm100')
       clear hcf hrf hfc hsv h1r hbr hK8 hfew hrH hsH hLH hnl hlight hlim hb8w h18
       go_wp2_with fail
       refine(hfi1.out wr hb.out).mono ?_;rintro e u1 ⟨rfl,hb1⟩
       have a1:=h_ hb hb1
       clear hb1 hb hfi1
       go_wp2_with fail
       refine(hfi2.out u1 a1.out).mono ?_;rintro e u2 ⟨rfl,hb2⟩
       have a2:=h_ a1 hb2
       clear hb2 a1 hfi2
       obtain⟨Ffr,hFfr⟩: ∃ q,K.filter (fun c=>c.fr==stop)=q:=⟨_,rfl⟩
       have hlfr:Ffr.length≤100:=by rw [←hFfr];exact hlf _
       have hg1:=Lib.hid (fun w (h:Below w8.heap.size w8 w)=>cfrom_any Ac m cc K stop w (hK0.out w h) (by omega))
       have hg2:=Lib.hid (fun w (h:Below w8.heap.size w8 w)=>rfrom_any Ac m cc K stop w (hK0.out w h) (by omega))
       rw [hFfr] at hg1 hg2
       clear hFfr
       go_wp2_with fail
       refine(hg1.out u2 a2.out).mono ?_;rintro e u3 ⟨B1_fr,e1_fr,rfl,s1,_,_,hb1⟩
       have a3:=h_ a2 hb1
       have s1H:=Lib.hid s1
       clear hb1 a2 hg1 s1
       go_wp2_with fail
       refine(hg2.out u3 a3.out).mono ?_;rintro e u4 ⟨B2_fr,e2_fr,rfl,s2,_,_,hb1⟩
       have a4:=h_ a3 hb1
       have hss:=Lib.hid (kSameC_any B1_fr Ffr.length e1_fr Ffr B2_fr Ffr.length e2_fr Ffr u4 (s1H.out.below hb1) s2 (by omega) (by omega))
       rw [decide_eq_true rfl] at hss
       clear hb1 a3 hg2 s2 s1H
       go_wp2_with fail
       refine hss.out.mono ?_;rintro e u5 ⟨rfl,hb1⟩
       have a5:=h_ a4 hb1
       clear hb1 a4 hss
       obtain⟨Fto_,hFto_⟩: ∃ q,K.filter (fun c=>c.to_==stop)=q:=⟨_,rfl⟩
       have hlto_:Fto_.length≤100:=by rw [←hFto_];exact hlf _
       have hg1:=Lib.hid (fun w (h:Below w8.heap.size w8 w)=>cto_any Ac m cc K stop w (hK0.out w h) (by omega))
       have hg2:=Lib.hid (fun w (h:Below w8.heap.size w8 w)=>rto_any Ac m cc K stop w (hK0.out w h) (by omega))
       rw [hFto_] at hg1 hg2
       clear hFto_
       go_wp2_with fail
       refine(hg1.out u5 a5.out).mono ?_;rintro e u6 ⟨B1_to_,e1_to_,rfl,s1,_,_,hb1⟩
       have a6:=h_ a5 hb1
       have s1H:=Lib.hid s1
       clear hb1 a5 hg1 s1
       go_wp2_with fail
       refine(hg2.out u6 a6.out).mono ?_;rintro e u7 ⟨B2_to_,e2_to_,rfl,s2,_,_,hb1⟩
       have a7:=h_ a6 hb1
       have hss:=Lib.hid (kSameC_any B1_to_ Fto_.length e1_to_ Fto_ B2_to_ Fto_.length e2_to_ Fto_ u7 (s1H.out.below hb1) s2 (by omega) (by omega))
       rw [decide_eq_true rfl] at hss
       clear hb1 a6 hg2 s2 s1H
       go_wp2_with fail
       refine hss.out.mono ?_;rintro e u8 ⟨rfl,hb1⟩
       have a8:=h_ a7 hb1
       clear hb1 a7 hss
       obtain⟨Frun,hFrun⟩: ∃ q,K.filter (fun c=>c.run==run)=q:=⟨_,rfl⟩
       have hlrun:Frun.length≤100:=by rw [←hFrun];exact hlf _
       have hg1:=Lib.hid (fun w (h:Below w8.heap.size w8 w)=>cof_any Ac m cc K run w (hK0.out w h) (by omega))
       have hg2:=Lib.hid (fun w (h:Below w8.heap.size w8 w)=>rof_any Ac m cc K run w (hK0.out w h) (by omega))
       rw [hFrun] at hg1 hg2
       clear hFrun
       go_wp2_with fail
       refine(hg1.out u8 a8.out).mono ?_;rintro e u9 ⟨B1_run,e1_run,rfl,s1,_,_,hb1⟩
       have a9:=h_ a8 hb1
       have s1H:=Lib.hid s1
       clear hb1 a8 hg1 s1
       go_wp2_with fail
       refine(hg2.out u9 a9.out).mono ?_;rintro e u10 ⟨B2_run,e2_run,rfl,s2,_,_,hb1⟩
       have a10:=h_ a9 hb1
       have hss:=Lib.hid (kSameC_any B1_run Frun.length e1_run Frun B2_run Frun.length e2_run Frun u10 (s1H.out.below hb1) s2 (by omega) (by omega))
       rw [decide_eq_true rfl] at hss
       clear hb1 a9 hg2 s2 s1H
       go_wp2_with fail
       refine hss.out.mono ?_;rintro e u11 ⟨rfl,hb1⟩
       have a11:=h_ a10 hb1
       clear hb1 a10 hss
       go_wp2_with fail
       refine(hsa1.out u11 a11.out).mono ?_;rintro e u12 ⟨rfl,hb1⟩
       have a12:=h_ a11 hb1
       clear hb1 a11 hsa1
       go_wp2_with fail
       refine(hsa2.out u12 a12.out).mono ?_;rintro e u13 ⟨rfl,hb1⟩
       have a13:=h_ a12 hb1
       clear hb1 a12 hsa2
       go_wp2_with fail
       go_returns
       exact⟨rfl,b_ hbw8 a13.out⟩
end Go.Proofs.YtechdefolfboeaaGreatDoor
