/- A text of the chain. -/
import Derived.Test.YtechdefolfboeaaGreatDoorNr1
namespace Go.Proofs.YtechdefolfboeaaGreatDoor
open Go.RowKit B K
set_option linter.unusedVariables false
set_option linter.unusedSimpArgs false
set_option maxRecDepth 100000
set_option maxHeartbeats 2000000
def segB (ops:Array Oper) (m:List Nat):List Nat→Array Bool→Array Bool→Bool
 |[],listed,target=>decide (listed=target)
 |t::ts,listed,target=>(if kindM m t=4∨kindM m t=5 then readyAt ops listed t&&(Region.free .any ops listed t&&((ops[t]?).map plainOp).getD false) else decide (Region.ready .any ops listed=[t]))&&segB ops m ts (listed.setIfInBounds t true) target
theorem chain5_seg {ops:Array Oper} {m:List Nat}: ∀ (ts1 ts2:List Nat) (listed target:Array Bool),segB ops m ts1 listed target=true→chain5 ops m ts2 target=true→chain5 ops m (ts1++ts2) listed=true
 |[],ts2,listed,target,h1,h2=>by obtain rfl:=of_decide_eq_true h1;exact h2
 |t::ts,ts2,listed,target,h1,h2=>by
  simp only [segB,Bool.and_eq_true] at h1
  simp only [List.cons_append,chain5,Bool.and_eq_true]
  exact⟨h1.1,chain5_seg ts ts2 _ target h1.2 h2⟩
theorem band_of {a b:Bool} (ha:a=true) (hb:b=true):(a&&b)=true:=by rw [ha,hb];rfl
def rotsT {α:Type}:List (Nat×Nat)→List α→List α
 |[],l=>l
 |(p,k)::r,l=>rotT p k (rotsT r l)
theorem wp_region_lateRs {P:Program} (N:Nat) (rs:List (Nat×Nat)) (m ts:List Nat) {id:Nat} {a:Act} {w:World} {l:List Oper} {Q:Exit→Act→World→Prop} (hm:P.follows .mixedOrders =true) (hB:lateR l m ts=true) (htl:pickO m l ts=rotsT rs (pickT m l)) (hN':N≤w.heap.size)
 (h: ∀ C:World→Prop,(C=fun w'=>Below N w w')→wpQuiet P l.toArray C (fun a1=> ∀ C':World→Prop,(C'=fun _=>True)→wpQuiet P l.toArray C' (fun a'=> ∀ w',w'={w with drawn:=w.drawn+1}→
   wpTail5 P l.toArray (fun w'=>Below N w w') (Exit.then (fun a w=>Q .normal a w) (fun _ _ _=>False)) (rotsT rs (pickT m l)) a' w') (pickK 1 m l) a1) (pickK 0 m l) a):(Code.region id l.toArray true).wp P Q a w:=
 wp_region_lateR N m ts _ hm hB htl hN' h
set_option maxHeartbeats 16000000
theorem names20_any (we:World) (hsp:Sp we):Calls Tryz.prog 11 #[] we fun e w'=>e= .returned (.bool true)∧Below we.heap.size we w':=by
 have hsH:=Lib.hid hsp
 clear hsp
 go_enter Tryz.func11,Tryz.ntmps11
 go_wp2_with fail
 refine(world20_any we).mono ?_;rintro e w1 ⟨V,rfl,hW,hb1⟩
 have hWH:=Lib.hid hW
 have hb1H:=Lib.hid hb1
 clear hW hb1
 go_wp2_with fail
 refine(runs20_any w1).mono ?_;rintro e w2 ⟨b,rfl,hR,hb2⟩
 have hb2H:=Lib.hid (hb1H.out.trans (hb2.mono hb1H.out.size))
 have hmk:=Lib.hid (paMake_any 100000 (sortOK 100000 (Nat.le_refl _)) M0 V (some ⟨b,0,none⟩) 2 2 L0 w2 (hWH.out.below hb2) few0 (hsH.out.below hb2H.out) hR (by decide) (by decide))
 rw [resP0,err0] at hmk
 clear hR hb2 hWH
 go_wp2_with fail
 refine hmk.out.mono ?_;rintro e w3 ⟨A3,c3,rfl,r3,_,_,hb3⟩
 have hb3H:=Lib.hid (hb2H.out.trans (hb3.mono hb2H.out.size))
 have r3H:Hid (RPats w3 A3 2 P0):=r3
 have hP2:P0.length=2:=rfl
 clear hmk r3 hb3 hb1H hb2H
 simp only [hP2]
 go_wp2_with fail
 refine(runs20_own w3).mono ?_;rintro e w4 ⟨b0,b1,b2,b3,b4,rfl,g0,⟨o1,o2,o3,o4⟩,K0,K1,K4,hb4⟩
 obtain⟨v5,b5,hv5,hb5E,hbv5,Bv5⟩:=box1 w4 2 [.int .i64 6,.int .i64 9,.int .i64 13]
 obtain⟨v6,b6,hv6,hb6E,hbv6,Bv6⟩:=box1 v5 2 [.int .i64 6,.int .i64 10,.int .i64 13]
 have hb46:Below w4.heap.size w4 v6:=hbv5.trans (hbv6.mono hbv5.size)
 have Q0:=K0.below hb46
 have Q1:=K1.below hb46
 have Q4:=K4.below hb46
 have Q5:=Bv5.below hbv6
 have k4:=Q4.cell 4 rfl
 have k5:=Q4.cell 5 rfl
 have k6:=Q4.cell 6 rfl
 have k7:=Q4.cell 7 rfl
 have f4:=Q4.frozen 4
 have f5:=Q4.frozen 5
 have f6:=Q4.frozen 6
 have f7:=Q4.frozen 7
 have l4:=Q4.lt
 have E4:=(((Q4.set 4 (.int .i64 1)).set 5 (.int .i64 0)).set 6 (.slice (some ⟨b5,0,none⟩) 3 3)).set 7 (.slice (some ⟨b6,0,none⟩) 3 3)
 have hbt:But v6 ((((v6.setCell ⟨b4,4,none⟩ (.int .i64 1)).setCell ⟨b4,5,none⟩ (.int .i64 0)).setCell ⟨b4,6,none⟩ (.slice (some ⟨b5,0,none⟩) 3 3)).setCell ⟨b4,7,none⟩ (.slice (some ⟨b6,0,none⟩) 3 3)) [b4]:=
  ((((But.refl v6 [b4]).trans (But.of_set _ ⟨b4,4,none⟩ _ (by simp))).trans (But.of_set _ ⟨b4,5,none⟩ _ (by simp))).trans (But.of_set _ ⟨b4,6,none⟩ _ (by simp))).trans (But.of_set _ ⟨b4,7,none⟩ _ (by simp))
 obtain⟨w7,hw7⟩: ∃ q,(((v6.setCell ⟨b4,4,none⟩ (.int .i64 1)).setCell ⟨b4,5,none⟩ (.int .i64 0)).setCell ⟨b4,6,none⟩ (.slice (some ⟨b5,0,none⟩) 3 3)).setCell ⟨b4,7,none⟩ (.slice (some ⟨b6,0,none⟩) 3 3)=q:=⟨_,rfl⟩
 rw [hw7] at E4 hbt
 have E4:Bx w7 b4 47 [.int .i64 0,.int .i64 0,.slice (some ⟨b0,0,none⟩) 3 3,.slice (some ⟨b1,0,none⟩) 3 3,.int .i64 1,.int .i64 0,.slice (some ⟨b5,0,none⟩) 3 3,.slice (some ⟨b6,0,none⟩) 3 3]:=E4
 have z5:b4<b5:=by rw [←hb5E];exact K4.lt
 have z6:b5<b6:=by rw [←hb6E];exact Bv5.lt
 have E0:=Q0.keep (hbt.keep b0 Q0.lt (by simp;omega))
 have E1:=Q1.keep (hbt.keep b1 Q1.lt (by simp;omega))
 have E5:=Q5.keep (hbt.keep b5 Q5.lt (by simp;omega))
 have E6:=Bv6.keep (hbt.keep b6 Bv6.lt (by simp;omega))
 have hl2:=Lib.hid (rruns_two E0 E1 E5 E6 E4)
 have E4H:=Lib.hid E4
 have h36:Below w3.heap.size w3 v6:=hb4.trans (hb46.mono hb4.size)
 have h37:Hid (Below w3.heap.size w3 w7):=h36.trans (hbt.below h36.size (fun x hx=>by simp only [List.mem_singleton] at hx;subst hx;omega))
 have hb7H:=Lib.hid (hb3H.out.trans (h37.out.mono hb3H.out.size))
 rename_i E4X
 clear E4X E0 E1 E4 E5 E6 Q0 Q1 Q5 hbt h36 hb46 K0 K1 K4 hb4 g0 o1 o2 o3 o4 z5 z6 Bv5 Bv6 hbv5 hbv6
 go_wp2_with fail
 refine(world20_any w7).mono ?_;rintro e w8 ⟨V8,rfl,hW8,hb8⟩
 clear hw7 hv5 hv6 hb5E hb6E k4 k5 k6 k7 f4 f5 f6 f7 l4 Q4
 have h38:=Lib.hid (h37.out.trans (hb8.mono h37.out.size))
 have hb8H:=Lib.hid (hb7H.out.trans (hb8.mono hb7H.out.size))
 have hl28:=Lib.hid (hl2.out.1.below hb8)
 have h78:=Lib.hid hb8
 have hmk8:=Lib.hid (paMake_any 100000 (sortOK 100000 (Nat.le_refl _)) M0 V8 (some ⟨b4,0,none⟩) 2 2 L2 w8 hW8 few0 (hsH.out.below hb8H.out) hl28.out (by decide) (by decide))
 rw [resP2,err2] at hmk8
 clear hW8 hb8
 go_wp2_with fail
 refine hmk8.out.mono ?_;rintro e w9 ⟨A9,c9,rfl,r9,_,_,hb9⟩
 have h39:=Lib.hid (h38.out.trans (hb9.mono h38.out.size))
 have h79:=Lib.hid (h78.out.trans (hb9.mono h78.out.size))
 have hb9H:=Lib.hid (hb8H.out.trans (hb9.mono hb8H.out.size))
 have r9H:Hid (RPats w9 A9 1 P2):=r9
 have hP1:P2.length=1:=rfl
 clear r9 hb9 hmk8 h38 h78 hb8H hl28
 simp only [hP1]
 obtain⟨wd,bd,hwd,hbdE,hbwd,Bwd⟩:=box1 w9 47 [.int .i64 0,.int .i64 0,.slice none 0 0,.slice none 0 0]
 have h3d:=Lib.hid (h39.out.trans (hbwd.mono h39.out.size))
 have h7d:=Lib.hid (h79.out.trans (hbwd.mono h79.out.size))
 have hed:=Lib.hid (hb9H.out.trans (hbwd.mono hb9H.out.size))
 have r9d:=Lib.hid (r9H.out.below hbwd)
 have hmkz:=Lib.hid (paMake_any 100000 (sortOK 100000 (Nat.le_refl _)) MZ VZ (some ⟨bd,0,none⟩) 1 1 [⟨0,0,[],[]⟩] wd (rwZ wd) fewZ (hsH.out.below hed.out) (rruns_one Bwd) (by decide) (by decide))
 rw [resP_bad errZ (by decide),errZ] at hmkz
 clear Bwd hbwd h39 h79 hb9H r9H
 go_wp2_with fail
 refine hmkz.out.mono ?_;rintro e w10 ⟨A10,c10,rfl,_,_,_,hb10⟩
 have h3a:=Lib.hid (h3d.out.trans (hb10.mono h3d.out.size))
 have h7a:=Lib.hid (h7d.out.trans (hb10.mono h7d.out.size))
 have hea:=Lib.hid (hed.out.trans (hb10.mono hed.out.size))
 have r9a:=Lib.hid (r9d.out.below hb10)
 have r3a:=Lib.hid (r3H.out.below h3a.out)
 clear hmkz hb10 h3d h7d hed hwd hbdE r9d
 have hof1:=Lib.hid (fun w (h:Below w10.heap.size w10 w)=>paOf_any A3 2 c3 P0 1 w (r3a.out.below h) (by decide) pat0_le)
 have hof7:=Lib.hid (fun w (h:Below w10.heap.size w10 w)=>paOf_any A3 2 c3 P0 7 w (r3a.out.below h) (by decide) pat0_le)
 rw [of1] at hof1
 rw [of7] at hof7
 go_wp2_with fail
 refine(hof1.out w10 (Below.refl _ _)).mono ?_;rintro e w11 ⟨rfl,hb11⟩
 have h11:=Lib.hid hb11
 clear hb11 hof1
 go_wp2_with fail
 refine(hof7.out w11 h11.out).mono ?_;rintro e w12 ⟨rfl,hb12⟩
 have h12:=Lib.hid (h11.out.trans (hb12.mono h11.out.size))
 clear hb12 hof7 h11
 obtain⟨wi,bi,hwi,hbiE,hbwi,Bwi⟩:=box1 w12 3 [.int .i64 0,.int .i64 1]
 obtain⟨wb,bp,hwb,hbpE,hbwb,Bwb⟩:=box1 wi 68 [.int .i64 0,.slice (some ⟨bi,0,none⟩) 2 2]
 have hbo:=Lib.hid (rpats_both (Bwi.below hbwb) Bwb)
 have haz:Below w10.heap.size w10 wb:=(h12.out.trans (hbwi.mono h12.out.size)).trans (hbwb.mono (Nat.le_trans h12.out.size hbwi.size))
 have heb:=Lib.hid (hea.out.trans (haz.mono hea.out.size))
 have h7b:Below w7.heap.size w7 wb:=h7a.out.trans (haz.mono h7a.out.size)
 have r3b:=Lib.hid (r3a.out.below haz)
 have r9b:=Lib.hid (r9a.out.below haz)
 have hlb:=Lib.hid (hl2.out.1.below h7b)
 have hr0:=Lib.hid (hl2.out.2.1.below h7b)
 have hr1:=Lib.hid (hl2.out.2.2.below h7b)
 have X4:=E4H.out.below h7b
 have xa0:=X4.cell 0 rfl
 have xa1:=X4.cell 1 rfl
 have xa2:=X4.cell 2 rfl
 have xa3:=X4.cell 3 rfl
 have xa4:=X4.cell 4 rfl
 have xa5:=X4.cell 5 rfl
 have xa6:=X4.cell 6 rfl
 have xa7:=X4.cell 7 rfl
 have lb4:=X4.lt
 obtain⟨bq,oq,q,Aq,nq,mq,hAq,hlq,hq,gq0,gq1,rq,hnq⟩:=r9b.out.get (show 0<1 by decide)
 obtain rfl:(⟨0,[0,1]⟩:PatP)=q:=Option.some.inj hq
 subst hAq
 obtain rfl:nq=2:=rq.len.symm
 have rqH:=Lib.hid rq
 simp only [Nat.zero_mul,Nat.add_zero] at gq0 gq1
 have cw:Hid (Below wb.heap.size wb wb):=Below.refl _ _
 clear rq hq hnq h12 hea h3a h7a haz h7b X4 Bwi Bwb hbwi hbwb r3a r9a hl2 E4H r3H h37 hb7H hb3H
 go_wp2_with fail
 clear hwi hwb hbiE hbpE
 go_upto_region 9 with fail
 refine wp_region_lateRs wb.heap.size [(53,2),(46,1),(47,1),(39,1),(40,1)] (3::4::4::4::4::4::4::4::4::4::4::4::4::4::5::3::3::4::4::4::4::4::4::4::4::4::4::4::4::4::4::4::4::4::4::4::4::4::4::3::3::4::3::4::4::4::3::3::4::3::4::4::4::3::4::4::3::4::4::4::4::4::5::4::4::5::3::4::4::4::4::5::4::4::5::3::4::4::4::4::4::3::4::4::4::4::3::4::4::4::4::4::4::5::3::4::4::4::[]) (0::1::2::3::4::5::6::7::8::9::10::11::12::13::14::15::16::17::18::19::20::21::22::23::24::25::26::27::28::29::30::31::32::33::34::35::36::37::38::41::39::40::42::43::44::45::48::46::47::49::50::51::52::54::55::53::56::57::58::59::60::61::62::63::64::65::66::67::68::69::70::71::72::73::74::75::76::77::78::79::80::81::82::83::84::85::86::87::88::89::90::91::92::93::94::95::96::97::[]) (by kernel_rfl) (by
  refine band_of (by as_aux_lemma=>kernel_rfl) ?_
  refine band_of (by as_aux_lemma=>kernel_rfl) ?_
  refine band_of (by as_aux_lemma=>kernel_rfl) ?_
  refine band_of (by as_aux_lemma=>kernel_rfl) ?_
  refine band_of (by as_aux_lemma=>kernel_rfl) ?_
  refine band_of (by as_aux_lemma=>kernel_rfl) ?_
  refine band_of (by as_aux_lemma=>kernel_rfl) ?_
  refine band_of (by as_aux_lemma=>kernel_rfl) ?_
  refine band_of ?_ (band_of (by as_aux_lemma=>kernel_rfl) (by as_aux_lemma=>kernel_rfl))
  refine chain5_seg [0,1,2,3,4,5,6,7,8,9,10,11,12,13] [14,15,16,17,18,19,20,21,22,23,24,25,26,27,28,29,30,31,32,33,34,35,36,37,38,41,39,40,42,43,44,45,48,46,47,49,50,51,52,54,55,53,56,57,58,59,60,61,62,63,64,65,66,67,68,69,70,71,72,73,74,75,76,77,78,79,80,81,82,83,84,85,86,87,88,89,90,91,92,93,94,95,96,97] (Array.replicate 98 false) #[true,true,true,true,true,true,true,true,true,true,true,true,true,true,false,false,false,false,false,false,false,false,false,false,false,false,false,false,false,false,false,false,false,false,false,false,false,false,false,false,false,false,false,false,false,false,false,false,false,false,false,false,false,false,false,false,false,false,false,false,false,false,false,false,false,false,false,false,false,false,false,false,false,false,false,false,false,false,false,false,false,false,false,false,false,false,false,false,false,false,false,false,false,false,false,false,false,false] (by as_aux_lemma=>kernel_rfl) ?_
  refine chain5_seg [14,15,16,17,18,19,20,21,22,23,24,25,26,27] [28,29,30,31,32,33,34,35,36,37,38,41,39,40,42,43,44,45,48,46,47,49,50,51,52,54,55,53,56,57,58,59,60,61,62,63,64,65,66,67,68,69,70,71,72,73,74,75,76,77,78,79,80,81,82,83,84,85,86,87,88,89,90,91,92,93,94,95,96,97] #[true,true,true,true,true,true,true,true,true,true,true,true,true,true,false,false,false,false,false,false,false,false,false,false,false,false,false,false,false,false,false,false,false,false,false,false,false,false,false,false,false,false,false,false,false,false,false,false,false,false,false,false,false,false,false,false,false,false,false,false,false,false,false,false,false,false,false,false,false,false,false,false,false,false,false,false,false,false,false,false,false,false,false,false,false,false,false,false,false,false,false,false,false,false,false,false,false,false] #[true,true,true,true,true,true,true,true,true,true,true,true,true,true,true,true,true,true,true,true,true,true,true,true,true,true,true,true,false,false,false,false,false,false,false,false,false,false,false,false,false,false,false,false,false,false,false,false,false,false,false,false,false,false,false,false,false,false,false,false,false,false,false,false,false,false,false,false,false,false,false,false,false,false,false,false,false,false,false,false,false,false,false,false,false,false,false,false,false,false,false,false,false,false,false,false,false,false] (by as_aux_lemma=>kernel_rfl) ?_
  refine chain5_seg [28,29,30,31,32,33,34,35,36,37,38,41,39,40] [42,43,44,45,48,46,47,49,50,51,52,54,55,53,56,57,58,59,60,61,62,63,64,65,66,67,68,69,70,71,72,73,74,75,76,77,78,79,80,81,82,83,84,85,86,87,88,89,90,91,92,93,94,95,96,97] #[true,true,true,true,true,true,true,true,true,true,true,true,true,true,true,true,true,true,true,true,true,true,true,true,true,true,true,true,false,false,false,false,false,false,false,false,false,false,false,false,false,false,false,false,false,false,false,false,false,false,false,false,false,false,false,false,false,false,false,false,false,false,false,false,false,false,false,false,false,false,false,false,false,false,false,false,false,false,false,false,false,false,false,false,false,false,false,false,false,false,false,false,false,false,false,false,false,false] #[true,true,true,true,true,true,true,true,true,true,true,true,true,true,true,true,true,true,true,true,true,true,true,true,true,true,true,true,true,true,true,true,true,true,true,true,true,true,true,true,true,true,false,false,false,false,false,false,false,false,false,false,false,false,false,false,false,false,false,false,false,false,false,false,false,false,false,false,false,false,false,false,false,false,false,false,false,false,false,false,false,false,false,false,false,false,false,false,false,false,false,false,false,false,false,false,false,false] (by as_aux_lemma=>kernel_rfl) ?_
  refine chain5_seg [42,43,44,45,48,46,47,49,50,51,52,54,55,53] [56,57,58,59,60,61,62,63,64,65,66,67,68,69,70,71,72,73,74,75,76,77,78,79,80,81,82,83,84,85,86,87,88,89,90,91,92,93,94,95,96,97] #[true,true,true,true,true,true,true,true,true,true,true,true,true,true,true,true,true,true,true,true,true,true,true,true,true,true,true,true,true,true,true,true,true,true,true,true,true,true,true,true,true,true,false,false,false,false,false,false,false,false,false,false,false,false,false,false,false,false,false,false,false,false,false,false,false,false,false,false,false,false,false,false,false,false,false,false,false,false,false,false,false,false,false,false,false,false,false,false,false,false,false,false,false,false,false,false,false,false] #[true,true,true,true,true,true,true,true,true,true,true,true,true,true,true,true,true,true,true,true,true,true,true,true,true,true,true,true,true,true,true,true,true,true,true,true,true,true,true,true,true,true,true,true,true,true,true,true,true,true,true,true,true,true,true,true,false,false,false,false,false,false,false,false,false,false,false,false,false,false,false,false,false,false,false,false,false,false,false,false,false,false,false,false,false,false,false,false,false,false,false,false,false,false,false,false,false,false] (by as_aux_lemma=>kernel_rfl) ?_
  refine chain5_seg [56,57,58,59,60,61,62,63,64,65,66,67,68,69] [70,71,72,73,74,75,76,77,78,79,80,81,82,83,84,85,86,87,88,89,90,91,92,93,94,95,96,97] #[true,true,true,true,true,true,true,true,true,true,true,true,true,true,true,true,true,true,true,true,true,true,true,true,true,true,true,true,true,true,true,true,true,true,true,true,true,true,true,true,true,true,true,true,true,true,true,true,true,true,true,true,true,true,true,true,false,false,false,false,false,false,false,false,false,false,false,false,false,false,false,false,false,false,false,false,false,false,false,false,false,false,false,false,false,false,false,false,false,false,false,false,false,false,false,false,false,false] #[true,true,true,true,true,true,true,true,true,true,true,true,true,true,true,true,true,true,true,true,true,true,true,true,true,true,true,true,true,true,true,true,true,true,true,true,true,true,true,true,true,true,true,true,true,true,true,true,true,true,true,true,true,true,true,true,true,true,true,true,true,true,true,true,true,true,true,true,true,true,false,false,false,false,false,false,false,false,false,false,false,false,false,false,false,false,false,false,false,false,false,false,false,false,false,false,false,false] (by as_aux_lemma=>kernel_rfl) ?_
  refine chain5_seg [70,71,72,73,74,75,76,77,78,79,80,81,82,83] [84,85,86,87,88,89,90,91,92,93,94,95,96,97] #[true,true,true,true,true,true,true,true,true,true,true,true,true,true,true,true,true,true,true,true,true,true,true,true,true,true,true,true,true,true,true,true,true,true,true,true,true,true,true,true,true,true,true,true,true,true,true,true,true,true,true,true,true,true,true,true,true,true,true,true,true,true,true,true,true,true,true,true,true,true,false,false,false,false,false,false,false,false,false,false,false,false,false,false,false,false,false,false,false,false,false,false,false,false,false,false,false,false] #[true,true,true,true,true,true,true,true,true,true,true,true,true,true,true,true,true,true,true,true,true,true,true,true,true,true,true,true,true,true,true,true,true,true,true,true,true,true,true,true,true,true,true,true,true,true,true,true,true,true,true,true,true,true,true,true,true,true,true,true,true,true,true,true,true,true,true,true,true,true,true,true,true,true,true,true,true,true,true,true,true,true,true,true,false,false,false,false,false,false,false,false,false,false,false,false,false,false] (by as_aux_lemma=>kernel_rfl) ?_
  as_aux_lemma=>kernel_rfl) (by as_aux_lemma=>kernel_rfl) (Nat.le_refl _) ?_
 intro C hC
 simp only [List.append_eq,List.cons_append,List.nil_append]
 simp only [pickK,pickT,rotsT,rotT,insT,Nat.reduceLeDiff,Nat.reduceEqDiff, ↓reduceIte]
 refine wpQuiet_nil ?_
 clear hC
 intro C' hC'
 refine wpQuiet_nil ?_
 clear hC'
 intro wq hbq
 have cq:Hid (Below wb.heap.size wb wq):=by rw [hbq];exact⟨rfl,rfl,rfl,Nat.le_refl _,fun _ _=>rfl⟩
 clear hbq cw
 refine wpTail5_one (by decide) (by decide) ?_
 go_wp2_with fail
 refine(lives20_any wq (hsH.out.below (heb.out.trans (cq.out.mono heb.out.size)))).mono ?_;rintro e W0 ⟨rfl,hb⟩
 have c0:Hid (Below wb.heap.size wb W0):=cq.out.trans (hb.mono cq.out.size)
 clear hb cq
 go_wp2_with fail
 refine⟨fun _=>c0.out,?_⟩
 refine wpTail5_quiet ?_
 intro C' hC'
 repeat(go_big_quiet_step (first|(intro _;with_reducible rfl)))
 refine wpQuiet_nil ?_
 clear hC'
 refine wpTail5_quiet ?_
 intro C' hC'
 repeat(go_big_quiet_step (first|(intro _;with_reducible rfl)))
 refine wpQuiet_nil ?_
 clear hC'
 refine wpTail5_quiet ?_
 intro C' hC'
 repeat(go_big_quiet_step (first|(intro _;with_reducible rfl)))
 refine wpQuiet_nil ?_
 clear hC'
 refine wpTail5_quiet ?_
 intro C' hC'
 repeat(go_big_quiet_step (first|(intro _;with_reducible rfl)))
 refine wpQuiet_nil ?_
 clear hC'
 refine wpTail5_quiet ?_
 intro C' hC'
 repeat(go_big_quiet_step (first|(intro _;with_reducible rfl)))
 refine wpQuiet_nil ?_
 clear hC'
 refine wpTail5_quiet ?_
 intro C' hC'
 repeat(go_big_quiet_step (first|(intro _;with_reducible rfl)))
 refine wpQuiet_nil ?_
 clear hC'
 refine wpTail5_quiet ?_
 intro C' hC'
 repeat(go_big_quiet_step (first|(intro _;with_reducible rfl)))
 refine wpQuiet_nil ?_
 clear hC'
 refine wpTail5_quiet ?_
 intro C' hC'
 repeat(go_big_quiet_step (first|(intro _;with_reducible rfl)))
 refine wpQuiet_nil ?_
 clear hC'
 refine wpTail5_quiet ?_
 intro C' hC'
 repeat(go_big_quiet_step (first|(intro _;with_reducible rfl)))
 refine wpQuiet_nil ?_
 clear hC'
 refine wpTail5_quiet ?_
 intro C' hC'
 repeat(go_big_quiet_step (first|(intro _;with_reducible rfl)))
 refine wpQuiet_nil ?_
 clear hC'
 refine wpTail5_quiet ?_
 intro C' hC'
 repeat(go_big_quiet_step (first|(intro _;with_reducible rfl)))
 refine wpQuiet_nil ?_
 clear hC'
 refine wpTail5_quiet ?_
 intro C' hC'
 repeat(go_big_quiet_step (first|(intro _;with_reducible rfl)))
 refine wpQuiet_nil ?_
 clear hC'
 refine wpTail5_quiet ?_
 intro C' hC'
 repeat(go_big_quiet_step (first|(intro _;with_reducible rfl)))
 refine wpQuiet_nil ?_
 clear hC'
 refine wpTail5_read c0.out ?_
 intro C' hC'
 repeat(go_big_quiet_step (first
  |(intro _;with_reducible rfl)
  |(intro hc
    have m0:=(hc.cell (p:=⟨bq,_,none⟩) hlq).trans gq1
    simp only [m0,Result.andThen]
    exact⟨trivial,rfl⟩)))
 refine wpQuiet_nil ?_
 clear hC'
 obtain⟨w15,b15,hw15,hb15E,hbw15,Bw15⟩:=box1 W0 3 [.int .i64 0,.int .i64 1]
 have c15:Hid (Below wb.heap.size wb w15):=c0.out.trans (hbw15.mono c0.out.size)
 have hs15:=Lib.hid (kSameI_any Aq 2 mq [0,1] (some ⟨b15,0,none⟩) 2 2 [0,1] w15 (rqH.out.below c15.out) (Rd.of_bx (enc:=numE .i64) (l:=[0,1]) num_len Bw15) (by decide) (by decide))
 rw [decide_eq_true rfl] at hs15
 clear hbw15 Bw15 c0
 refine wpTail5_one (by decide) (by decide) ?_
 go_wp2_with fail
 refine⟨fun _=>c15.out,?_⟩
 clear hw15 hb15E
 refine wpTail5_one (by decide) (by decide) ?_
 go_wp2_with fail
 refine hs15.out.mono ?_;rintro e w16 ⟨rfl,hb⟩
 have c16:Hid (Below wb.heap.size wb w16):=c15.out.trans (hb.mono c15.out.size)
 clear hb c15 hs15
 go_wp2_with fail
 refine⟨fun _=>c16.out,?_⟩
 refine wpTail5_quiet ?_
 intro C' hC'
 repeat(go_big_quiet_step (first|(intro _;with_reducible rfl)))
 refine wpQuiet_nil ?_
 clear hC'
 refine wpTail5_quiet ?_
 intro C' hC'
 repeat(go_big_quiet_step (first|(intro _;with_reducible rfl)))
 refine wpQuiet_nil ?_
 clear hC'
 refine wpTail5_quiet ?_
 intro C' hC'
 repeat(go_big_quiet_step (first|(intro _;with_reducible rfl)))
 refine wpQuiet_nil ?_
 clear hC'
 as_aux_lemma=>
  refine wpTail5_quiet ?_
  intro C' hC'
  repeat(go_big_quiet_step (first|(intro _;with_reducible rfl)))
  refine wpQuiet_nil ?_
  clear hC'
  refine wpTail5_quiet ?_
  intro C' hC'
  repeat(go_big_quiet_step (first|(intro _;with_reducible rfl)))
  refine wpQuiet_nil ?_
  clear hC'
  refine wpTail5_quiet ?_
  intro C' hC'
  repeat(go_big_quiet_step (first|(intro _;with_reducible rfl)))
  refine wpQuiet_nil ?_
  clear hC'
  refine wpTail5_quiet ?_
  intro C' hC'
  repeat(go_big_quiet_step (first|(intro _;with_reducible rfl)))
  refine wpQuiet_nil ?_
  clear hC'
  refine wpTail5_quiet ?_
  intro C' hC'
  repeat(go_big_quiet_step (first|(intro _;with_reducible rfl)))
  refine wpQuiet_nil ?_
  clear hC'
  refine wpTail5_quiet ?_
  intro C' hC'
  repeat(go_big_quiet_step (first|(intro _;with_reducible rfl)))
  refine wpQuiet_nil ?_
  clear hC'
  refine wpTail5_quiet ?_
  intro C' hC'
  repeat(go_big_quiet_step (first|(intro _;with_reducible rfl)))
  refine wpQuiet_nil ?_
  clear hC'
  refine wpTail5_quiet ?_
  intro C' hC'
  repeat(go_big_quiet_step (first|(intro _;with_reducible rfl)))
  refine wpQuiet_nil ?_
  clear hC'
  refine wpTail5_quiet ?_
  intro C' hC'
  repeat(go_big_quiet_step (first|(intro _;with_reducible rfl)))
  refine wpQuiet_nil ?_
  clear hC'
  refine wpTail5_quiet ?_
  intro C' hC'
  repeat(go_big_quiet_step (first|(intro _;with_reducible rfl)))
  refine wpQuiet_nil ?_
  clear hC'
  refine wpTail5_quiet ?_
  intro C' hC'
  repeat(go_big_quiet_step (first|(intro _;with_reducible rfl)))
  refine wpQuiet_nil ?_
  clear hC'
  refine wpTail5_quiet ?_
  intro C' hC'
  repeat(go_big_quiet_step (first|(intro _;with_reducible rfl)))
  refine wpQuiet_nil ?_
  clear hC'
  refine wpTail5_quiet ?_
  intro C' hC'
  repeat(go_big_quiet_step (first|(intro _;with_reducible rfl)))
  refine wpQuiet_nil ?_
  clear hC'
  refine wpTail5_quiet ?_
  intro C' hC'
  repeat(go_big_quiet_step (first|(intro _;with_reducible rfl)))
  refine wpQuiet_nil ?_
  clear hC'
  refine wpTail5_quiet ?_
  intro C' hC'
  repeat(go_big_quiet_step (first|(intro _;with_reducible rfl)))
  refine wpQuiet_nil ?_
  clear hC'
  refine wpTail5_quiet ?_
  intro C' hC'
  repeat(go_big_quiet_step (first|(intro _;with_reducible rfl)))
  refine wpQuiet_nil ?_
  clear hC'
  refine wpTail5_quiet ?_
  intro C' hC'
  repeat(go_big_quiet_step (first|(intro _;with_reducible rfl)))
  refine wpQuiet_nil ?_
  clear hC'
  refine wpTail5_quiet ?_
  intro C' hC'
  repeat(go_big_quiet_step (first|(intro _;with_reducible rfl)))
  refine wpQuiet_nil ?_
  clear hC'
  refine wpTail5_quiet ?_
  intro C' hC'
  repeat(go_big_quiet_step (first|(intro _;with_reducible rfl)))
  refine wpQuiet_nil ?_
  clear hC'
  refine wpTail5_quiet ?_
  intro C' hC'
  repeat(go_big_quiet_step (first|(intro _;with_reducible rfl)))
  refine wpQuiet_nil ?_
  clear hC'
  as_aux_lemma=>
   refine wpTail5_one (by decide) (by decide) ?_
   go_wp2_with fail
   refine(world20_any w16).mono ?_;rintro e w39 ⟨V39,rfl,hW,hb⟩
   have c39:Hid (Below wb.heap.size wb w39):=c16.out.trans (hb.mono c16.out.size)
   have hWH:=Lib.hid hW
   clear hW
   clear hb c16
   go_wp2_with fail
   refine⟨fun _=>c39.out,?_⟩
   refine wpTail5_one (by decide) (by decide) ?_
   go_wp2_with fail
   refine(runs20_any w39).mono ?_;rintro e w40 ⟨q40,rfl,hR,hb⟩
   have c40:Hid (Below wb.heap.size wb w40):=c39.out.trans (hb.mono c39.out.size)
   have hck:=Lib.hid (paCheck_any M0 V39 (some ⟨q40,0,none⟩) 2 2 L0 A3 2 c3 P0 w40 (hWH.out.below hb) few0 (hsH.out.below (heb.out.trans (c40.out.mono heb.out.size))) hR (by decide) len0_le (r3b.out.below c40.out) (by decide) pat0_le)
   rw [chk00] at hck
   clear hWH hR
   clear hb c39
   go_wp2_with fail
   refine⟨fun _=>c40.out,?_⟩
   refine wpTail5_one (by decide) (by decide) ?_
   go_wp2_with fail
   refine(hck.out).mono ?_;rintro e w42 ⟨rfl,hb⟩
   have c42:Hid (Below wb.heap.size wb w42):=c40.out.trans (hb.mono c40.out.size)
   clear hck
   clear hb c40
   go_wp2_with fail
   refine⟨fun _=>c42.out,?_⟩
   refine wpTail5_quiet ?_
   intro C' hC'
   repeat(go_big_quiet_step (first|(intro _;with_reducible rfl)))
   refine wpQuiet_nil ?_
   clear hC'
   refine wpTail5_quiet ?_
   intro C' hC'
   repeat(go_big_quiet_step (first|(intro _;with_reducible rfl)))
   refine wpQuiet_nil ?_
   clear hC'
   refine wpTail5_quiet ?_
   intro C' hC'
   repeat(go_big_quiet_step (first|(intro _;with_reducible rfl)))
   refine wpQuiet_nil ?_
   clear hC'
   refine wpTail5_quiet ?_
   intro C' hC'
   repeat(go_big_quiet_step (first|(intro _;with_reducible rfl)))
   refine wpQuiet_nil ?_
   clear hC'
   refine wpTail5_one (by decide) (by decide) ?_
   go_wp2_with fail
   refine(world20_any w42).mono ?_;rintro e w46 ⟨V46,rfl,hW,hb⟩
   have c46:Hid (Below wb.heap.size wb w46):=c42.out.trans (hb.mono c42.out.size)
   have hWH:=Lib.hid hW
   clear hW
   clear hb c42
   go_wp2_with fail
   refine⟨fun _=>c46.out,?_⟩
   refine wpTail5_one (by decide) (by decide) ?_
   go_wp2_with fail
   refine(runs20_any w46).mono ?_;rintro e w47 ⟨q47,rfl,hR,hb⟩
   have c47:Hid (Below wb.heap.size wb w47):=c46.out.trans (hb.mono c46.out.size)
   have hck:=Lib.hid (paCheck_any M0 V46 (some ⟨q47,0,none⟩) 2 2 L0 (some ⟨bp,0,none⟩) 1 1 P2 w47 (hWH.out.below hb) few0 (hsH.out.below (heb.out.trans (c47.out.mono heb.out.size))) hR (by decide) len0_le (hbo.out.below c47.out) (by decide) pat2_le)
   rw [chk02] at hck
   clear hWH hR
   clear hb c46
   go_wp2_with fail
   refine⟨fun _=>c47.out,?_⟩
   refine wpTail5_one (by decide) (by decide) ?_
   go_wp2_with fail
   refine(hck.out).mono ?_;rintro e w49 ⟨rfl,hb⟩
   have c49:Hid (Below wb.heap.size wb w49):=c47.out.trans (hb.mono c47.out.size)
   clear hck
   clear hb c47
   go_wp2_with fail
   refine⟨fun _=>c49.out,?_⟩
   refine wpTail5_quiet ?_
   intro C' hC'
   repeat(go_big_quiet_step (first|(intro _;with_reducible rfl)))
   refine wpQuiet_nil ?_
   clear hC'
   refine wpTail5_quiet ?_
   intro C' hC'
   repeat(go_big_quiet_step (first|(intro _;with_reducible rfl)))
   refine wpQuiet_nil ?_
   clear hC'
   refine wpTail5_quiet ?_
   intro C' hC'
   repeat(go_big_quiet_step (first|(intro _;with_reducible rfl)))
   refine wpQuiet_nil ?_
   clear hC'
   refine wpTail5_quiet ?_
   intro C' hC'
   repeat(go_big_quiet_step (first|(intro _;with_reducible rfl)))
   refine wpQuiet_nil ?_
   clear hC'
   refine wpTail5_quiet ?_
   intro C' hC'
   repeat(go_big_quiet_step (first|(intro _;with_reducible rfl)))
   refine wpQuiet_nil ?_
   clear hC'
   refine wpTail5_one (by decide) (by decide) ?_
   go_wp2_with fail
   refine(world20_any w49).mono ?_;rintro e w53 ⟨V53,rfl,hW,hb⟩
   have c53:Hid (Below wb.heap.size wb w53):=c49.out.trans (hb.mono c49.out.size)
   have hck:=Lib.hid (paCheck_any M0 V53 (some ⟨b4,0,none⟩) 2 2 L2 (some ⟨bp,0,none⟩) 1 1 P2 w53 hW few0 (hsH.out.below (heb.out.trans (c53.out.mono heb.out.size))) (hlb.out.below c53.out) (by decide) len2_le (hbo.out.below c53.out) (by decide) pat2_le)
   rw [chk22] at hck
   clear hW
   clear hb c49
   go_wp2_with fail
   refine⟨fun _=>c53.out,?_⟩
   refine wpTail5_one (by decide) (by decide) ?_
   go_wp2_with fail
   refine(hck.out).mono ?_;rintro e w56 ⟨rfl,hb⟩
   have c56:Hid (Below wb.heap.size wb w56):=c53.out.trans (hb.mono c53.out.size)
   clear hck
   clear hb c53
   go_wp2_with fail
   refine⟨fun _=>c56.out,?_⟩
   refine wpTail5_quiet ?_
   intro C' hC'
   repeat(go_big_quiet_step (first|(intro _;with_reducible rfl)))
   refine wpQuiet_nil ?_
   clear hC'
   refine wpTail5_quiet ?_
   intro C' hC'
   repeat(go_big_quiet_step (first|(intro _;with_reducible rfl)))
   refine wpQuiet_nil ?_
   clear hC'
   refine wpTail5_quiet ?_
   intro C' hC'
   repeat(go_big_quiet_step (first|(intro _;with_reducible rfl)))
   refine wpQuiet_nil ?_
   clear hC'
   as_aux_lemma=>
    refine wpTail5_quiet ?_
    intro C' hC'
    repeat(go_big_quiet_step (first|(intro _;with_reducible rfl)))
    refine wpQuiet_nil ?_
    clear hC'
    refine wpTail5_quiet ?_
    intro C' hC'
    repeat(go_big_quiet_step (first|(intro _;with_reducible rfl)))
    refine wpQuiet_nil ?_
    clear hC'
    refine wpTail5_read c56.out ?_
    intro C' hC'
    repeat(go_big_quiet_step (first
     |(intro _;with_reducible rfl)
     |(intro hc
       have m0:=(hc.cell (p:=⟨b4,_,none⟩) lb4).trans xa0
       have m1:=(hc.cell (p:=⟨b4,_,none⟩) lb4).trans xa1
       have m2:=(hc.cell (p:=⟨b4,_,none⟩) lb4).trans xa2
       have m3:=(hc.cell (p:=⟨b4,_,none⟩) lb4).trans xa3
       simp only [m0,m1,m2,m3,Result.andThen]
       exact⟨trivial,rfl⟩)))
    refine wpQuiet_nil ?_
    clear hC'
    refine wpTail5_quiet ?_
    intro C' hC'
    repeat(go_big_quiet_step (first|(intro _;with_reducible rfl)))
    refine wpQuiet_nil ?_
    clear hC'
    refine wpTail5_quiet ?_
    intro C' hC'
    repeat(go_big_quiet_step (first|(intro _;with_reducible rfl)))
    refine wpQuiet_nil ?_
    clear hC'
    refine wpTail5_read c56.out ?_
    intro C' hC'
    repeat(go_big_quiet_step (first
     |(intro _;with_reducible rfl)
     |(intro hc
       have m0:=(hc.cell (p:=⟨b4,_,none⟩) lb4).trans xa4
       have m1:=(hc.cell (p:=⟨b4,_,none⟩) lb4).trans xa5
       have m2:=(hc.cell (p:=⟨b4,_,none⟩) lb4).trans xa6
       have m3:=(hc.cell (p:=⟨b4,_,none⟩) lb4).trans xa7
       simp only [m0,m1,m2,m3,Result.andThen]
       exact⟨trivial,rfl⟩)))
    refine wpQuiet_nil ?_
    clear hC'
    have ha1:aheadB (⟨0,0,[5,8,12],[5,9,12]⟩:RunP) ⟨1,0,[6,9,13],[6,10,13]⟩=true:=rfl
    have hs66:=Lib.hid (pAhead_any (0,0,(some ⟨b0,0,none⟩,3,3),(some ⟨b1,0,none⟩,3,3)) (1,0,(some ⟨b5,0,none⟩,3,3),(some ⟨b6,0,none⟩,3,3)) _ _ w56 (hr0.out.below c56.out) (hr1.out.below c56.out) (by decide) (by decide))
    rw [ha1] at hs66
    simp only [rnE,SlV.v] at hs66
    clear ha1
    refine wpTail5_one (by decide) (by decide) ?_
    go_wp2_with fail
    refine(hs66.out).mono ?_;rintro e w66 ⟨rfl,hb⟩
    have c66:Hid (Below wb.heap.size wb w66):=c56.out.trans (hb.mono c56.out.size)
    clear hs66
    clear hb c56
    go_wp2_with fail
    refine⟨fun _=>c66.out,?_⟩
    refine wpTail5_quiet ?_
    intro C' hC'
    repeat(go_big_quiet_step (first|(intro _;with_reducible rfl)))
    refine wpQuiet_nil ?_
    clear hC'
    refine wpTail5_quiet ?_
    intro C' hC'
    repeat(go_big_quiet_step (first|(intro _;with_reducible rfl)))
    refine wpQuiet_nil ?_
    clear hC'
    refine wpTail5_quiet ?_
    intro C' hC'
    repeat(go_big_quiet_step (first|(intro _;with_reducible rfl)))
    refine wpQuiet_nil ?_
    clear hC'
    refine wpTail5_quiet ?_
    intro C' hC'
    repeat(go_big_quiet_step (first|(intro _;with_reducible rfl)))
    refine wpQuiet_nil ?_
    clear hC'
    refine wpTail5_read c66.out ?_
    intro C' hC'
    repeat(go_big_quiet_step (first
     |(intro _;with_reducible rfl)
     |(intro hc
       have m0:=(hc.cell (p:=⟨b4,_,none⟩) lb4).trans xa4
       have m1:=(hc.cell (p:=⟨b4,_,none⟩) lb4).trans xa5
       have m2:=(hc.cell (p:=⟨b4,_,none⟩) lb4).trans xa6
       have m3:=(hc.cell (p:=⟨b4,_,none⟩) lb4).trans xa7
       simp only [m0,m1,m2,m3,Result.andThen]
       exact⟨trivial,rfl⟩)))
    refine wpQuiet_nil ?_
    clear hC'
    refine wpTail5_quiet ?_
    intro C' hC'
    repeat(go_big_quiet_step (first|(intro _;with_reducible rfl)))
    refine wpQuiet_nil ?_
    clear hC'
    refine wpTail5_quiet ?_
    intro C' hC'
    repeat(go_big_quiet_step (first|(intro _;with_reducible rfl)))
    refine wpQuiet_nil ?_
    clear hC'
    refine wpTail5_read c66.out ?_
    intro C' hC'
    repeat(go_big_quiet_step (first
     |(intro _;with_reducible rfl)
     |(intro hc
       have m0:=(hc.cell (p:=⟨b4,_,none⟩) lb4).trans xa0
       have m1:=(hc.cell (p:=⟨b4,_,none⟩) lb4).trans xa1
       have m2:=(hc.cell (p:=⟨b4,_,none⟩) lb4).trans xa2
       have m3:=(hc.cell (p:=⟨b4,_,none⟩) lb4).trans xa3
       simp only [m0,m1,m2,m3,Result.andThen]
       exact⟨trivial,rfl⟩)))
    refine wpQuiet_nil ?_
    clear hC'
    have ha1:aheadB (⟨1,0,[6,9,13],[6,10,13]⟩:RunP) ⟨0,0,[5,8,12],[5,9,12]⟩=false:=rfl
    have hs75:=Lib.hid (pAhead_any (1,0,(some ⟨b5,0,none⟩,3,3),(some ⟨b6,0,none⟩,3,3)) (0,0,(some ⟨b0,0,none⟩,3,3),(some ⟨b1,0,none⟩,3,3)) _ _ w66 (hr1.out.below c66.out) (hr0.out.below c66.out) (by decide) (by decide))
    rw [ha1] at hs75
    simp only [rnE,SlV.v] at hs75
    clear ha1
    refine wpTail5_one (by decide) (by decide) ?_
    go_wp2_with fail
    refine(hs75.out).mono ?_;rintro e w75 ⟨rfl,hb⟩
    have c75:Hid (Below wb.heap.size wb w75):=c66.out.trans (hb.mono c66.out.size)
    clear hs75
    clear hb c66
    go_wp2_with fail
    refine⟨fun _=>c75.out,?_⟩
    refine wpTail5_quiet ?_
    intro C' hC'
    repeat(go_big_quiet_step (first|(intro _;with_reducible rfl)))
    refine wpQuiet_nil ?_
    clear hC'
    refine wpTail5_quiet ?_
    intro C' hC'
    repeat(go_big_quiet_step (first|(intro _;with_reducible rfl)))
    refine wpQuiet_nil ?_
    clear hC'
    refine wpTail5_quiet ?_
    intro C' hC'
    repeat(go_big_quiet_step (first|(intro _;with_reducible rfl)))
    refine wpQuiet_nil ?_
    clear hC'
    refine wpTail5_quiet ?_
    intro C' hC'
    repeat(go_big_quiet_step (first|(intro _;with_reducible rfl)))
    refine wpQuiet_nil ?_
    clear hC'
    as_aux_lemma=>
     refine wpTail5_quiet ?_
     intro C' hC'
     repeat(go_big_quiet_step (first|(intro _;with_reducible rfl)))
     refine wpQuiet_nil ?_
     clear hC'
     have hs81:=Lib.hid (paSame_any A3 2 c3 P0 A3 2 c3 P0 w75 (r3b.out.below c75.out) (r3b.out.below c75.out) (by decide) (by decide) pat0_le pat0_le)
     rw [same00] at hs81
     refine wpTail5_one (by decide) (by decide) ?_
     go_wp2_with fail
     refine(hs81.out).mono ?_;rintro e w81 ⟨rfl,hb⟩
     have c81:Hid (Below wb.heap.size wb w81):=c75.out.trans (hb.mono c75.out.size)
     clear hs81
     clear hb c75
     go_wp2_with fail
     refine⟨fun _=>c81.out,?_⟩
     refine wpTail5_quiet ?_
     intro C' hC'
     repeat(go_big_quiet_step (first|(intro _;with_reducible rfl)))
     refine wpQuiet_nil ?_
     clear hC'
     refine wpTail5_quiet ?_
     intro C' hC'
     repeat(go_big_quiet_step (first|(intro _;with_reducible rfl)))
     refine wpQuiet_nil ?_
     clear hC'
     refine wpTail5_quiet ?_
     intro C' hC'
     repeat(go_big_quiet_step (first|(intro _;with_reducible rfl)))
     refine wpQuiet_nil ?_
     clear hC'
     refine wpTail5_quiet ?_
     intro C' hC'
     repeat(go_big_quiet_step (first|(intro _;with_reducible rfl)))
     refine wpQuiet_nil ?_
     clear hC'
     have hs86:=Lib.hid (paSame_any A3 2 c3 P0 (some ⟨bq,oq,none⟩) 1 c9 P2 w81 (r3b.out.below c81.out) (r9b.out.below c81.out) (by decide) (by decide) pat0_le pat2_le)
     rw [same02] at hs86
     refine wpTail5_one (by decide) (by decide) ?_
     go_wp2_with fail
     refine(hs86.out).mono ?_;rintro e w86 ⟨rfl,hb⟩
     have c86:Hid (Below wb.heap.size wb w86):=c81.out.trans (hb.mono c81.out.size)
     clear hs86
     clear hb c81
     go_wp2_with fail
     refine⟨fun _=>c86.out,?_⟩
     refine wpTail5_quiet ?_
     intro C' hC'
     repeat(go_big_quiet_step (first|(intro _;with_reducible rfl)))
     refine wpQuiet_nil ?_
     clear hC'
     refine wpTail5_quiet ?_
     intro C' hC'
     repeat(go_big_quiet_step (first|(intro _;with_reducible rfl)))
     refine wpQuiet_nil ?_
     clear hC'
     refine wpTail5_quiet ?_
     intro C' hC'
     repeat(go_big_quiet_step (first|(intro _;with_reducible rfl)))
     refine wpQuiet_nil ?_
     clear hC'
     refine wpTail5_quiet ?_
     intro C' hC'
     repeat(go_big_quiet_step (first|(intro _;with_reducible rfl)))
     refine wpQuiet_nil ?_
     clear hC'
     refine wpTail5_quiet ?_
     intro C' hC'
     repeat(go_big_quiet_step (first|(intro _;with_reducible rfl)))
     refine wpQuiet_nil ?_
     clear hC'
     refine wpTail5_quiet ?_
     intro C' hC'
     repeat(go_big_quiet_step (first|(intro _;with_reducible rfl)))
     refine wpQuiet_nil ?_
     clear hC'
     refine wpTail5_read c86.out ?_
     intro C' hC'
     repeat(go_big_quiet_step (first
      |(intro _;with_reducible rfl)
      |(intro hc
        have m0:=(hc.cell (p:=⟨bq,_,none⟩) hlq).trans gq0
        have m1:=(hc.cell (p:=⟨bq,_,none⟩) hlq).trans gq1
        simp only [m0,m1,Result.andThen]
        exact⟨trivial,rfl⟩)))
     refine wpQuiet_nil ?_
     clear hC'
     have hs94:=Lib.hid (paCatch_any (some ⟨b4,0,none⟩) Aq 2 2 2 mq 0 3 0 L2 [0,1] w86 (hlb.out.below c86.out) (by decide) (rqH.out.below c86.out) (by decide) dep2_le)
     rw [catQ] at hs94
     refine wpTail5_one (by decide) (by decide) ?_
     go_wp2_with fail
     refine(hs94.out).mono ?_;rintro e w94 ⟨rfl,hb⟩
     have c94:Hid (Below wb.heap.size wb w94):=c86.out.trans (hb.mono c86.out.size)
     clear hs94
     clear hb c86
     go_wp2_with fail
     refine⟨fun _=>c94.out,?_⟩
     refine wpTail5_quiet ?_
     intro C' hC'
     repeat(go_big_quiet_step (first|(intro _;with_reducible rfl)))
     refine wpQuiet_nil ?_
     clear hC'
     refine wpTail5_quiet ?_
     intro C' hC'
     repeat(go_big_quiet_step (first|(intro _;with_reducible rfl)))
     refine wpQuiet_nil ?_
     clear hC'
     refine wpTail5_quiet ?_
     intro C' hC'
     repeat(go_big_quiet_step (first|(intro _;with_reducible rfl)))
     refine wpQuiet_nil ?_
     clear hC'
     refine wpTail5_list _ _ _ (by simp) ?_
     simp only [List.map_nil]
     go_wp2_with fail
     go_returns
     exact⟨rfl,(heb.out.trans (c94.out.mono heb.out.size))⟩
end Go.Proofs.YtechdefolfboeaaGreatDoor
