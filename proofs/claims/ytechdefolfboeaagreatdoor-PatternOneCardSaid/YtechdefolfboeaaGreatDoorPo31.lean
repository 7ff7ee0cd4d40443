/- Merged. -/
import Derived.Test.YtechdefolfboeaaGreatDoorPo29
import Derived.Test.YtechdefolfboeaaGreatDoorPo30
set_option linter.unusedVariables false
set_option linter.unusedSimpArgs false
set_option maxRecDepth 100000
set_option maxHeartbeats 2000000
namespace Go.Proofs.YtechdefolfboeaaGreatDoor
open Go.RowKit B K
theorem run_field_wrong (c k a:Int) (w:World):(Instr.field 81 (.agg #[.int .i64 c,.int .i64 k,.int .i64 a]) 0).run Tryz.prog w= .ok (.int .i64 c) w:=by kernel_rfl
theorem goodW_rt {M:WorldP} (h:GoodW M): ∀ q∈M.trips,0≤q.route∧q.route<(M.routes.length:Int):=fun q hq=>(h.trips q hq).1
def errC (M:WorldP) (L:List RunP):Int:=if 16384<L.length then 3 else if goodB nameB M&&L.all (fitsR M) then 0 else 2
def resC (M:WorldP) (L:List RunP):List ConnP:=if errC M L=0 then makeC M L else []
def RetMk2 (l:List ConnP) (c:Int) (we:World) (e:Ending) (w':World):Prop:= ∃ A cap,e= .returned (.tuple #[.slice A l.length cap,.int .i64 c])∧Rd w' 6 connE A l.length l∧l.length≤cap∧cap≤9223372036854775807∧Below we.heap.size we w'
theorem cmake1_any (M:WorldP) (V:WV) (b2:Nat) (we:World) (hr:RW we M V) (hB:Bx we b2 31 [.int .i64 M.hz,.slice V.a0 V.n0 V.c0,.slice V.a1 V.n1 V.c1,.slice V.a2 V.n2 V.c2,.slice V.a3 V.n3 V.c3,.slice V.a4 V.n4 V.c4,.slice V.a5 V.n5 V.c5,.slice V.aP V.nP V.cP,.slice V.aD V.nD V.cD,.slice V.aR V.nR V.cR,.slice V.aT V.nT V.cT,.slice V.aH V.nH V.cH]) (hG: ∀ q∈M.trips,0≤q.route∧q.route<(M.routes.length:Int)) (hf:Few M) (e:RnE) (r:RunP) (hT:RunT we e r):
 Calls Tryz.prog 57 #[.agg (rnE e).toArray,.pointer (some ⟨b2,0,none⟩)] we fun e w'=>e= .returned (.bool (!fitsR M r))∧Below we.heap.size we w':=by
 obtain⟨t,no,⟨x1,m1,d1⟩,⟨x2,m2,d2⟩⟩:=e;have hft:=H_ (fun w (h:RW w M V) ha hd=>cfits_any M V w h hG hf t no x1 x2 m1 m2 d1 d2 r.arr r.dep ha hd);have e1:fitsR M r=fitsB M t r.arr r.dep:=by unfold fitsR;rw [←hT.trip]
 obtain⟨q,hq⟩: ∃ q,fitsB M t r.arr r.dep=q:=⟨_,rfl⟩
 rw [e1,hq];rw [hq] at hft;have haH:=H_ hT.arr;have hdH:=H_ hT.dep;have hrH:=H_ hr;have l2:=hB.lt;have hBH:=H_ hB;obtain⟨a0,a1,a2,a3,a4,a5,aP,aD,aR,aT,aH,n0,n1,n2,n3,n4,n5,nP,nD,nR,nT,nH,c0,c1,c2,c3,c4,c5,cP,cD,cR,cT,cH⟩:=V;simp only [wVal,rnE,SlV.v] at*;clear hq e1 hT hr hB hG hf;obtain⟨w1,b1,hw1,hbE1,hb1,hup,B1,hge1⟩:=enter1 we 47 [.int .i64 t,.int .i64 no,.slice x1 m1 d1,.slice x2 m2 d2];obtain⟨q0,q1,q2,q3⟩:=c_4 B1;obtain⟨y0,y1,y2,y3,y4,y5,y6,y7,y8,y9,y10,y11⟩:=d_12 hup.out l2 hBH.out;clear B1 hb1;go_enter Tryz.func57,Tryz.ntmps57;go_wp2_with fail;refine(hft.out w1 (hrH.out.below hup.out) (haH.out.below hup.out) (hdH.out.below hup.out)).mono ?_;rintro e w2 ⟨rfl,hb2⟩;have hbz:=h_ hup hb2;clear hb2;go_wp2_with fail;clear hw1 hbE1;go_returns;exact⟨rfl,hbz.out⟩
theorem errC_long {M:WorldP} {L:List RunP} (h:16384<L.length):errC M L=3:=by unfold errC;rw [if_pos h]
theorem errC_ok {M:WorldP} {L:List RunP} (h: ¬ 16384<L.length) (hg:goodB nameB M=true) (ha:L.all (fitsR M)=true):errC M L=0:=by unfold errC;rw [if_neg h,hg,ha];rfl
theorem errC_bad {M:WorldP} {L:List RunP} (h: ¬ 16384<L.length) (hg:(goodB nameB M&&L.all (fitsR M))=false):errC M L=2:=by unfold errC;rw [if_neg h,hg];rfl
theorem resC_no {M:WorldP} {L:List RunP} (h:errC M L≠0):resC M L=[]:=by unfold resC;rw [if_neg h]
theorem resC_ok {M:WorldP} {L:List RunP} (h:errC M L=0):resC M L=makeC M L:=by unfold resC;rw [if_pos h]
def oddR (M:WorldP) (L:List RunP) (i:Nat):Bool:=match L[i]? with
 |some r=> !fitsR M r
 |none=>false
theorem oddR_any (M:WorldP) (L:List RunP):((List.range L.length).any (oddR M L))= !(L.all (fitsR M)):=by
 rw [Bool.eq_iff_iff,List.any_eq_true,Bool.not_eq_true',List.all_eq_false];constructor
 ·rintro⟨i,hi,h⟩;have hi:=List.mem_range.1 hi;unfold oddR at h;rw [List.getElem?_eq_getElem hi] at h;exact⟨L[i],List.getElem_mem hi,by simpa using h⟩
 ·rintro⟨r,hr,h⟩;obtain⟨i,hi⟩:=List.getElem?_of_mem hr;exact⟨i,List.mem_range.2 (List.getElem?_eq_some_iff.1 hi).1,by unfold oddR;rw [hi];simpa using h⟩
theorem rides_len_le {M:WorldP} (hG:GoodW M) (L:List RunP):(ridesL M L).length ≤32*L.length:=by
 have key: ∀ k,((List.range k).flatMap (ridesAt M L)).length ≤32*k:=by
  intro k
  induction k with
  |zero=>simp
  |succ k ih=>
   rw [List.range_succ,List.flatMap_append,List.length_append]
   have:(([k]:List Nat).flatMap (ridesAt M L)).length ≤32:=by
    simp only [List.flatMap_cons,List.flatMap_nil,List.append_nil];unfold ridesAt;split
    ·rw [ridesOf_len];have:=tripStops_len hG;exact Nat.le_trans (Nat.sub_le _ _) (this _)
    ·simp
   omega
 exact key L.length
theorem crides_any (M:WorldP) (V:WV) (A:Option Addr) (n c:Nat) (we:World):Calls Tryz.prog 60 #[wVal M V,.slice A n c] we fun e w'=> ∃ b3 b2,e= .returned (.func (.func 101) #[] #[.pointer (some ⟨b3,0,none⟩),.pointer (some ⟨b2,0,none⟩)])∧w'.cell? ⟨b3,0,none⟩=some (.slice A n c)∧
 Bx w' b2 31 [.int .i64 M.hz,.slice V.a0 V.n0 V.c0,.slice V.a1 V.n1 V.c1,.slice V.a2 V.n2 V.c2,.slice V.a3 V.n3 V.c3,.slice V.a4 V.n4 V.c4,.slice V.a5 V.n5 V.c5,.slice V.aP V.nP V.cP,.slice V.aD V.nD V.cD,.slice V.aR V.nR V.cR,.slice V.aT V.nT V.cT,.slice V.aH V.nH V.cH]∧Below we.heap.size we w':=by
 obtain⟨a0,a1,a2,a3,a4,a5,aP,aD,aR,aT,aH,n0,n1,n2,n3,n4,n5,nP,nD,nR,nT,nH,c0,c1,c2,c3,c4,c5,cP,cD,cR,cT,cH⟩:=V;simp only [wVal];obtain⟨w1,w2,b1,b2,hw1,hw2,hbE1,hbE2,hbF2,hb1,hb2,hup,B1,B2,hge1,hge2⟩:=enter2 we 31 32 [.int .i64 M.hz,.slice a0 n0 c0,.slice a1 n1 c1,.slice a2 n2 c2,.slice a3 n3 c3,.slice a4 n4 c4,.slice a5 n5 c5,.slice aP nP cP,.slice aD nD cD,.slice aR nR cR,.slice aT nT cT,.slice aH nH cH] [.slice A n c];have c3:=B2.cell 0 rfl;have B1H:=H_ B1;have cH:=H_ c3;clear B1 B2 hb1 hb2 c3;go_enter Tryz.func60,Tryz.ntmps60;go_wp2_with fail;clear hw1 hw2 hbE1 hbE2 hbF2;go_returns;exact⟨b2,b1,rfl,cH.out,B1H.out,hup.out⟩
theorem cmake_any (M:WorldP) (V:WV) (A:Option Addr) (n c:Nat) (L:List RunP) (we:World) (hr:RW we M V) (hf:Few M) (hsp:Sp we) (hL:RRuns we A n L) (hn:n≤100000):
 Calls Tryz.prog 17 #[wVal M V,.slice A n c] we (RetMk2 (resC M L) (errC M L) we):=by
 have hlen:L.length=n:=hL.len;by_cases hlong:16384<n
 ·have he:Hid (errC M L=3):=errC_long (by omega);have hrs:Hid (resC M L=[]):=resC_no (by rw [he.out];decide);rw [he.out,hrs.out];have hlI:((n:Int)>16384):=by omega
  obtain⟨a0,a1,a2,a3,a4,a5,aP,aD,aR,aT,aH,n0,n1,n2,n3,n4,n5,nP,nD,nR,nT,nH,c0,c1,c2,c3,c4,c5,cP,cD,cR,cT,cH⟩:=V;simp only [wVal];clear hr hf hsp hL hlen;obtain⟨w1,b1,hw1,hbE1,hb1,hup,B1,hge1⟩:=enter1 we 31 [.int .i64 M.hz,.slice a0 n0 c0,.slice a1 n1 c1,.slice a2 n2 c2,.slice a3 n3 c3,.slice a4 n4 c4,.slice a5 n5 c5,.slice aP nP cP,.slice aD nD cD,.slice aR nR cR,.slice aT nT cT,.slice aH nH cH];clear B1;go_enter Tryz.func17,Tryz.ntmps17;go_wp2_with fail;clear hw1 hbE1;go_returns;exact⟨none,0,rfl,Rd.nil,Nat.le_refl _,by omega,hup.out⟩
 ·have hlI:decide ((n:Int)>16384)=false:=F_ (by omega);have hck:=H_ (fun w h hs=>pcheck_any M V w h hf hs);have hrH:=H_ hr;have hsH:=H_ hsp;have hLH:=H_ hL;have hlenH:=H_ hlen;have hfH:=H_ hf;have hcl:=H_ (fun(b:Nat) (w:World) (hR:RW w M V) hB hG e r hT=>cmake1_any M V b w hR hB hG hf e r hT);have hit:=H_ (fun(b3 b2:Nat) (w:World) c3 hR hB hG hLw hfit=>rides_iter M V b3 b2 A n c L w c3 hR hB hG hf hLw hn hfit);obtain⟨a0,a1,a2,a3,a4,a5,aP,aD,aR,aT,aH,n0,n1,n2,n3,n4,n5,nP,nD,nR,nT,nH,c0,c1,c2,c3,c4,c5,cP,cD,cR,cT,cH⟩:=V;simp only [wVal] at*;clear hr hsp hL hlen hf;obtain⟨w1,b1,hw1,hbE1,hb1,hup,B1,hge1⟩:=enter1 we 31 [.int .i64 M.hz,.slice a0 n0 c0,.slice a1 n1 c1,.slice a2 n2 c2,.slice a3 n3 c3,.slice a4 n4 c4,.slice a5 n5 c5,.slice aP nP cP,.slice aD nD cD,.slice aR nR cR,.slice aT nT cT,.slice aH nH cH];obtain⟨p0,p1,p2,p3,p4,p5,p6,p7,p8,p9,p10,p11⟩:=c_12 B1;have B1H:=H_ B1;have l1:=B1.lt
  clear B1
  cases hg:goodB nameB M with
  |false=>
   have he:Hid (errC M L=2):=errC_bad (by have:=hlenH.out;omega) (by rw [hg];rfl);have hrs:Hid (resC M L=[]):=resC_no (by rw [he.out];decide);rw [he.out,hrs.out];have hgH:=H_ hg;clear hg;have qF:=run_field_wrong;go_enter Tryz.func17,Tryz.ntmps17;go_wp2_with fail;refine(hck.out w1 (hrH.out.below hup.out) (hsH.out.below hup.out)).mono ?_;rintro e w3 ⟨c9,k9,a9,rfl,hc,hb3⟩
   have hc0:(c9 !=0)=true:=by
    have:c9≠0:=fun e=>by have:=hc.1 e;rw [hgH.out] at this;cases this
    simp [this]
   have hbz:=h_ hup hb3;clear hc hb3;go_wp2_with fail;clear hw1 hbE1;go_returns;exact⟨none,0,rfl,Rd.nil,Nat.le_refl _,by omega,hbz.out⟩
  |true=>
   have hgH:=H_ hg;have hGW:=H_ (goodW_of hg);obtain⟨E,rE,gE⟩:=hLH.out.ex;have rEH:=H_ rE;have gEH:=H_ gE
   have hck2:Hid (∀ w,Below we.heap.size we w→w1.heap.size≤w.heap.size→Below w1.heap.size w1 w→Calls Tryz.prog 56 #[.slice A n c,.func (.func 57) #[] #[.pointer (some ⟨b1,0,none⟩)]] w fun e w'=>e= .returned (.bool (!(L.all (fitsR M))))∧Below w.heap.size w w'):=by
    intro w hbw _ hb1w
    have h:=ctfRun_any 57 #[.pointer (some ⟨b1,0,none⟩)] (enters_of Tryz.func57 (by kernel_rfl) rfl) (oddR M L) A n c E w (rEH.out.below hbw) (by omega) (fun U i x hU hx=>by
     have hi:i<L.length:=by rw [←gEH.out.len];exact(List.getElem?_eq_some_iff.1 hx).1
     have hri:L[i]?=some L[i]:=List.getElem?_eq_getElem hi;have h9:=hcl.out b1 U ((hrH.out.below hbw).below hU) ((B1H.out.below hb1w).below hU) (goodW_rt hGW.out) x L[i] (((gEH.out.at_ i x _ hx hri).below hbw).below hU);have e9:oddR M L i= !fitsR M L[i]:=by unfold oddR;rw [hri]
     rw [e9];exact h9)
    rw [←hlenH.out,oddR_any] at h;rw [←hlenH.out];exact h
   have hb1':Hid (Below w1.heap.size w1 w1):=Below.refl _ _;clear hg rE gE
   cases ha:L.all (fitsR M) with
   |false=>
    have he:Hid (errC M L=2):=errC_bad (by have:=hlenH.out;omega) (by rw [hgH.out,ha];rfl);have hrs:Hid (resC M L=[]):=resC_no (by rw [he.out];decide);rw [he.out,hrs.out];rw [ha] at hck2;clear ha;have qF:=run_field_wrong;go_enter Tryz.func17,Tryz.ntmps17;go_wp2_with fail;refine(hck.out w1 (hrH.out.below hup.out) (hsH.out.below hup.out)).mono ?_;rintro e w3 ⟨c9,k9,a9,rfl,hc,hb3⟩;obtain rfl:c9=0:=hc.2 hgH.out;have hbz:=h_ hup hb3;have hb3H:=H_ hb3;clear hc hb3;go_wp2_with fail;refine(hck2.out w3 hbz.out hb3H.out.size hb3H.out).mono ?_;rintro e w4 ⟨rfl,hb4⟩;have hby:=h_ hbz hb4;clear hb4;go_wp2_with fail;clear hw1 hbE1;go_returns;exact⟨none,0,rfl,Rd.nil,Nat.le_refl _,by omega,hby.out⟩
   |true=>
    have he:Hid (errC M L=0):=errC_ok (by have:=hlenH.out;omega) hgH.out ha;have hrs:Hid (resC M L=makeC M L):=resC_ok he.out;rw [he.out,hrs.out];have hfit:Hid (∀ r∈L,FitR M r):=fun r hr=>fitR_of (List.all_eq_true.1 ha r hr);rw [ha] at hck2;have hrl:Hid ((ridesL M L).length ≤3200000):=by have:=rides_len_le hGW.out L;have:=hlenH.out;show _≤_;omega
    clear ha;have qF:=run_field_wrong;go_enter Tryz.func17,Tryz.ntmps17;go_wp2_with fail;refine(hck.out w1 (hrH.out.below hup.out) (hsH.out.below hup.out)).mono ?_;rintro e w3 ⟨c9,k9,a9,rfl,hc,hb3⟩;obtain rfl:c9=0:=hc.2 hgH.out;have hbz:=h_ hup hb3;have hb3H:=H_ hb3;clear hc hb3;go_wp2_with fail;refine(hck2.out w3 hbz.out hb3H.out.size hb3H.out).mono ?_;rintro e w4 ⟨rfl,hb4⟩;have hby:=h_ hbz hb4;have h14:=h_ hb3H hb4;obtain⟨z0,z1,z2,z3,z4,z5,z6,z7,z8,z9,z10,z11⟩:=d_12 h14.out l1 B1H.out;clear hb4 p0 p1 p2 p3 p4 p5 p6 p7 p8 p9 p10 p11;go_wp2_with fail;refine(crides_any M ⟨a0,a1,a2,a3,a4,a5,aP,aD,aR,aT,aH,n0,n1,n2,n3,n4,n5,nP,nD,nR,nT,nH,c0,c1,c2,c3,c4,c5,cP,cD,cR,cT,cH⟩ A n c w4).mono ?_;rintro e w5 ⟨b3,b2,rfl,hc3,hB5,hb5⟩;have hb5w:=h_ hby hb5
    have hso:=H_ (sortedC_any 101 #[.pointer (some ⟨b3,0,none⟩),.pointer (some ⟨b2,0,none⟩)] (enters_of Tryz.func101 (by kernel_rfl) rfl) (ridesL M L) (Nat.le_trans hrl.out (by decide)) w5 (hit.out b3 b2 w5 hc3 (hrH.out.below hb5w.out) hB5 (goodW_rt hGW.out) (hLH.out.below hb5w.out) hfit.out));clear hc3 hB5 hb5 z0 z1 z2 z3 z4 z5 z6 z7 z8 z9 z10 z11;go_wp2_with fail;refine hso.out.mono ?_;rintro e w6 ⟨S0,A6,c6,hp6,hs6,rfl,r6,hb6⟩;obtain rfl:S0=makeC M L:=makeC_unique hp6 hs6;have hb6w:=h_ hb5w hb6;obtain⟨S,hS⟩: ∃ S,makeC M L=S:=⟨_,rfl⟩
    obtain⟨m,hm⟩: ∃ m,S.length=m:=⟨_,rfl⟩
    have hSH:Hid (makeC M L=S):=hS;have hmH:Hid (S.length=m):=hm;have hmb:m≤3200000:=by have:=hrl.out;have:=(makeC_perm M L).length_eq;rw [←hm,←hS];omega
    rw [hS,hm] at r6;simp only [hS,hm];have r6H:=H_ r6;clear hp6 hs6 r6 hb6 hso hS hm hit;go_wp2_with fail;go_loopw [26,6] (fun iv v wr=> ∃ i:Nat,i≤m∧iv= .int .i64 i∧Hid (wr.ownsRow w6.heap.size 42 6 v (S.take i).length ((S.take i).flatMap connE))∧Hid (Below w6.heap.size w6 wr)) (fun iv _ _=>m-(intOf iv).toNat)
    case atStart=>exact⟨0,Nat.zero_le _,rfl,World.ownsRow_nil _ _ _ _,Below.refl _ _⟩
    case round=>
     obtain⟨i,hi,rfl,own,hb⟩:=hrel;by_cases hin:i<m
     ·have hinI:(i:Int)<(m:Int):=by omega
      obtain⟨b,o,⟨x1,x2,x3,x4,x5,x6⟩,rfl,hbs,hx,hc0⟩:=(r6H.out.below hb.out).get hin;have f0:=hc0 0 _ rfl;have f1:=hc0 1 _ rfl;have f2:=hc0 2 _ rfl;have f3:=hc0 3 _ rfl;have f4:=hc0 4 _ rfl;have f5:=hc0 5 _ rfl;simp only [Nat.add_zero] at f0;have htk:Hid (S.take (i+1)=S.take i++[⟨x1,x2,x3,x4,x5,x6⟩]):=take_at hx;have htl:Hid ((S.take i).length +1≤1099511627776):=by rw [List.length_take];show _≤_;omega
      clear hc0 hx;obtain⟨wa,ba,hwa,hbaE,hbwa,Bwa⟩:=box1 wr 88 [.int .i64 x1,.int .i64 x2,.int .i64 x3,.int .i64 x4,.int .i64 x5,.int .i64 x6];obtain⟨q0,q1,q2,q3,q4,q5⟩:=c_6 Bwa;have hbwa2:=b_ hb hbwa;obtain⟨v9,w9,hrun,own9,hb9⟩:=own_lits (enc:=connE) Tryz.underlying37 info_tConn rfl (by decide) connE_len connE_one [⟨x1,x2,x3,x4,x5,x6⟩] (own_below own.out hbwa) htl.out (by decide) hbwa2.size;have hrun:(Builtin.append_ #[37,37] 37 #[u6,.slice (some ⟨wa.heap.size,0,none⟩) 1 1]).run Tryz.prog (wa.alloc (.cells #[.int .i64 x1,.int .i64 x2,.int .i64 x3,.int .i64 x4,.int .i64 x5,.int .i64 x6] 42))= .ok v9 w9:=hrun;have hbF:=H_ (hbwa2.trans hb9);have own9':Hid (w9.ownsRow w6.heap.size 42 6 v9 (S.take (i+1)).length ((S.take (i+1)).flatMap connE)):=by show World.ownsRow _ _ _ _ _ _ _;rw [htk.out];exact own9
      clear own hb Bwa hbwa2 hb9 hbwa own9;go_wp2_with (at_builtin;refine wpList_append_run ?a1 (.tmp 30) (.tmp 32) 37 ?a2 ?a3 ?a4 hrun ?_)
      all_goals try rfl
      go_roundw
      case rel=>exact⟨i+1,by omega,by go_num,own9',hbF⟩
      case measure=>simp [intOf];omega
     ·obtain rfl:i=m:=by omega
      have own9:wr.ownsRow w6.heap.size 42 6 u6 S.length (S.flatMap connE):=by
       have:=own.out
       rwa [List.take_of_length_le (by have:=hmH.out;omega)] at this
      obtain⟨A9,c9,rfl,r9,k1,k2⟩:=Rd.of_own connE_len rfl own9;have hbz9:=h_ hb6w hb.out;have r9H:=H_ r9;have k1H:=H_ k1;clear own own9 r9 k1;go_wp2_with fail;clear hw1 hbE1;go_returns;exact⟨A9,c9,by rw [hSH.out];rfl,by rw [hSH.out];exact r9H.out,by rw [hSH.out];exact k1H.out,k2,hbz9.out⟩
theorem Rd.of_bx {α:Type} {enc:α→List Value} {size:Nat} {w:World} {b:Nat} {T:TypeId} {l:List α} (hs: ∀ x,(enc x).length =size) (h:Bx w b T (l.flatMap enc)):Rd w size enc (some ⟨b,0,none⟩) l.length l:=
 ⟨rfl,fun _=>⟨b,0,rfl,h.lt,fun i x hx j u hu=>by
   rw [Nat.zero_add];exact h.cell _ (flatMap_at hs l i x hx j u hu)⟩⟩
def M0:WorldP:=⟨99,[(⟨#[97]⟩:ByteArray),(⟨#[98]⟩:ByteArray),(⟨#[99]⟩:ByteArray)],[],[],[(⟨#[114]⟩:ByteArray)],[(⟨#[116]⟩:ByteArray),(⟨#[117]⟩:ByteArray)],[],[],[],[⟨[0,1,2],[3,3],[1]⟩],[⟨0,5,0,5⟩,⟨0,6,0,6⟩],[]⟩
def L0:List RunP:=[⟨0,0,[5,8,12],[5,9,12]⟩,⟨1,0,[6,7,9],[6,7,9]⟩]
def C0:List ConnP:=[⟨5,8,0,1,0,0⟩,⟨6,7,0,1,1,0⟩,⟨7,9,1,2,1,1⟩,⟨9,12,1,2,0,1⟩]
theorem few0:Few M0:=⟨by decide,by decide,by decide,by decide,by decide,by decide,by decide,by decide,by decide,by decide,by decide,fun r hr=>by
 have:r=⟨[0,1,2],[3,3],[1]⟩:=by simpa [M0] using hr
 subst this;decide⟩
theorem good0:goodB nameB M0=true:=by kernel_rfl
theorem fit0:L0.all (fitsR M0)=true:=by kernel_rfl
theorem err0:errC M0 L0=0:=errC_ok (by decide) good0 fit0
