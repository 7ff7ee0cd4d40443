/- Merged. -/
import Derived.Test.YtechdefolfboeaaGreatDoorPo34
import Derived.Test.YtechdefolfboeaaGreatDoorPo35
import Derived.Test.YtechdefolfboeaaGreatDoorPo40
set_option linter.unusedVariables false
set_option linter.unusedSimpArgs false
set_option maxRecDepth 100000
set_option maxHeartbeats 8000000
namespace Go.Proofs.YtechdefolfboeaaGreatDoor
open Go.RowKit B K
theorem wp_region_lateRot2 {P:Program} (N p k p2 k2:Nat) (m ts:List Nat) {id:Nat} {a:Act} {w:World} {l:List Oper} {Q:Exit→Act→World→Prop} (hm:P.follows .mixedOrders =true) (hB:lateR l m ts=true) (htl:pickO m l ts=rotT p k (rotT p2 k2 (pickT m l))) (hN':N≤w.heap.size)
 (h: ∀ C:World→Prop,(C=fun w'=>Below N w w')→wpQuiet P l.toArray C (fun a1=> ∀ C':World→Prop,(C'=fun _=>True)→wpQuiet P l.toArray C' (fun a'=> ∀ w',w'={w with drawn:=w.drawn+1}→
   wpTail5 P l.toArray (fun w'=>Below N w w') (Exit.then (fun a w=>Q .normal a w) (fun _ _ _=>False)) (rotT p k (rotT p2 k2 (pickT m l))) a' w') (pickK 1 m l) a1) (pickK 0 m l) a):(Code.region id l.toArray true).wp P Q a w:=
 wp_region_lateR N m ts _ hm hB htl hN' h
theorem lives20_any (we:World) (hsp:Sp we):Calls Tryz.prog 37 #[] we fun e w'=>e= .returned (.bool true)∧Below we.heap.size we w':=by
 have hsH:=H_ hsp;clear hsp;go_enter Tryz.func37,Tryz.ntmps37;go_wp2_with fail;refine(world20_any we).mono ?_;rintro e w1 ⟨V,rfl,hW,hb1⟩;have hWH:=H_ hW;have hb1H:=H_ hb1;clear hW hb1;go_wp2_with fail;refine(runs20_any w1).mono ?_;rintro e w2 ⟨b,rfl,hR,hb2⟩;have hb2H:=h_ hb1H hb2;have hmk:=H_ (paMake_any 100000 (sortOK 100000 (Nat.le_refl _)) M0 V (some ⟨b,0,none⟩) 2 2 L0 w2 (hWH.out.below hb2) few0 (hsH.out.below hb2H.out) hR (by decide) (by decide));rw [resP0,err0] at hmk;clear hR hb2;go_wp2_with fail;refine hmk.out.mono ?_;rintro e w3 ⟨A3,c3,rfl,r3,hc3,hm3,hb3⟩;have hb3H:=h_ hb2H hb3;have r3H:Hid (RPats w3 A3 2 P0):=r3;have hP2:P0.length=2:=rfl;clear hmk r3 hb3 hb1H hb2H hc3 hm3;obtain⟨bp,op,p,A0,n0,m0,hA3,hlp,hp,g0,g1,r0,hn0⟩:=r3H.out.get (show 0<2 by decide);obtain rfl:(⟨0,[0]⟩:PatP)=p:=Option.some.inj hp
 obtain⟨bp',op',p',A1,n1,m1,hA3',hlp',hp',g2,g3,r1,hn1⟩:=r3H.out.get (show 1<2 by decide);obtain rfl:(⟨0,[1]⟩:PatP)=p':=Option.some.inj hp';subst hA3;obtain⟨rfl,rfl⟩:bp=bp'∧op=op':=by simpa using hA3'
 obtain rfl:n0=1:=r0.len.symm;obtain rfl:n1=1:=r1.len.symm;have r0H:=H_ r0;have r1H:=H_ r1;simp only [Nat.zero_mul,Nat.one_mul,Nat.add_zero,Nat.reduceAdd] at g0 g1 g2 g3;have g3:w3.cell? ⟨bp,op+3,none⟩=some (.slice A1 1 m1):=g3;have cw:Hid (Below w3.heap.size w3 w3):=Below.refl _ _;clear r0 r1 hn0 hn1 hp hp' hA3' g2 hlp' r3H hWH;simp only [hP2];go_wp2_with fail;go_upto_region 2 with fail;refine wp_region_lateRot2 w3.heap.size 20 3 12 3 (0::0::0::0::0::0::0::0::0::0::0::0::3::3::4::4::4::4::4::5::3::3::4::4::3::4::4::5::3::4::4::4::3::4::4::5::3::4::4::4::[]) (12::13::14::15::16::17::18::19::20::21::22::23::25::26::27::24::28::29::30::31::33::34::35::32::36::37::38::39::[]) (by kernel_rfl) (by kernel_rfl) (by kernel_rfl) (Nat.le_refl _) ?_;intro C hC;simp only [pickK,pickT,rotT,insT,Nat.reduceLeDiff,Nat.reduceEqDiff, ↓reduceIte]
 repeat(go_big_quiet_step (first
  |(intro _;with_reducible rfl)
  |(intro hc;have m1:=c_ hc hlp g1;simp only [m1,Result.andThen];exact⟨trivial,rfl⟩)))
 refine wpQuiet_nil ?_;clear hC;intro C' hC';refine wpQuiet_nil ?_;clear hC';intro wq hbq;have cq:Hid (Below w3.heap.size w3 wq):=by rw [hbq];exact⟨rfl,rfl,rfl,Nat.le_refl _,fun _ _=>rfl⟩
 clear hbq;obtain⟨w12,b12,hw12,hb12E,hbw12,Bw12⟩:=box1 wq 3 [.int .i64 0];have c12:Hid (Below w3.heap.size w3 w12):=b_ cq hbw12;have hs12:=H_ (kSameI_any A0 1 m0 [0] (some ⟨b12,0,none⟩) 1 1 [0] w12 (r0H.out.below c12.out) (Rd.of_bx (enc:=numE .i64) (l:=[0]) num_len Bw12) (by decide) (by decide));rw [T_ rfl] at hs12;clear hbw12 Bw12 cq;refine wpTail5_one (by decide) (by decide) ?_;go_wp2_with fail;refine⟨fun _=>c12.out,?_⟩;clear hw12 hb12E;refine wpTail5_one (by decide) (by decide) ?_;go_wp2_with fail;refine(hs12.out).mono ?_;rintro e w13 ⟨rfl,hb⟩;have c13:Hid (Below w3.heap.size w3 w13):=b_ c12 hb;clear hb c12 hs12;go_wp2_with fail;refine⟨fun _=>c13.out,?_⟩;refine wpTail5_quiet ?_;intro C' hC'
 repeat(go_big_quiet_step (first|(intro _;with_reducible rfl)))
 refine wpQuiet_nil ?_;clear hC';refine wpTail5_quiet ?_;intro C' hC'
 repeat(go_big_quiet_step (first|(intro _;with_reducible rfl)))
 refine wpQuiet_nil ?_;clear hC';refine wpTail5_quiet ?_;intro C' hC'
 repeat(go_big_quiet_step (first|(intro _;with_reducible rfl)))
 refine wpQuiet_nil ?_;clear hC';refine wpTail5_quiet ?_;intro C' hC'
 repeat(go_big_quiet_step (first|(intro _;with_reducible rfl)))
 refine wpQuiet_nil ?_;clear hC';refine wpTail5_quiet ?_;intro C' hC'
 repeat(go_big_quiet_step (first|(intro _;with_reducible rfl)))
 refine wpQuiet_nil ?_;clear hC';refine wpTail5_read c13.out ?_;intro C' hC'
 repeat(go_big_quiet_step (first
  |(intro _;with_reducible rfl)
  |(intro hc;have m0:=c_ hc hlp g3;simp only [m0,Result.andThen];exact⟨trivial,rfl⟩)))
 refine wpQuiet_nil ?_;clear hC';obtain⟨w20,b20,hw20,hb20E,hbw20,Bw20⟩:=box1 w13 3 [.int .i64 1];have c20:Hid (Below w3.heap.size w3 w20):=b_ c13 hbw20;have hs20:=H_ (kSameI_any A1 1 m1 [1] (some ⟨b20,0,none⟩) 1 1 [1] w20 (r1H.out.below c20.out) (Rd.of_bx (enc:=numE .i64) (l:=[1]) num_len Bw20) (by decide) (by decide));rw [T_ rfl] at hs20;clear hbw20 Bw20 c13;refine wpTail5_one (by decide) (by decide) ?_;go_wp2_with fail;refine⟨fun _=>c20.out,?_⟩;clear hw20 hb20E;refine wpTail5_one (by decide) (by decide) ?_;go_wp2_with fail;refine(hs20.out).mono ?_;rintro e w21 ⟨rfl,hb⟩;have c21:Hid (Below w3.heap.size w3 w21):=b_ c20 hb;clear hb c20 hs20;go_wp2_with fail;refine⟨fun _=>c21.out,?_⟩;refine wpTail5_quiet ?_;intro C' hC'
 repeat(go_big_quiet_step (first|(intro _;with_reducible rfl)))
 refine wpQuiet_nil ?_;clear hC';refine wpTail5_quiet ?_;intro C' hC'
 repeat(go_big_quiet_step (first|(intro _;with_reducible rfl)))
 refine wpQuiet_nil ?_;clear hC';refine wpTail5_quiet ?_;intro C' hC'
 repeat(go_big_quiet_step (first|(intro _;with_reducible rfl)))
 refine wpQuiet_nil ?_;clear hC';refine wpTail5_quiet ?_;intro C' hC'
 repeat(go_big_quiet_step (first|(intro _;with_reducible rfl)))
 refine wpQuiet_nil ?_;clear hC';refine wpTail5_read c21.out ?_;intro C' hC'
 repeat(go_big_quiet_step (first
  |(intro _;with_reducible rfl)
  |(intro hc;have m0:=c_ hc hlp g0;have m1:=c_ hc hlp g1;simp only [m0,m1,Result.andThen];exact⟨trivial,rfl⟩)))
 refine wpQuiet_nil ?_;clear hC';refine wpTail5_one (by decide) (by decide) ?_;go_wp2_with fail;refine(runs20_any w21).mono ?_;rintro e w24 ⟨q24,rfl,hR,hb⟩;have c24:Hid (Below w3.heap.size w3 w24):=b_ c21 hb;have ht24:=H_ (paCatch_any (some ⟨q24,0,none⟩) A0 2 2 1 m0 0 1 9 L0 [0] w24 hR (by decide) (r0H.out.below c24.out) (by decide) dep0_le);rw [cat0] at ht24;clear hb hR c21;go_wp2_with fail;refine⟨fun _=>c24.out,?_⟩;refine wpTail5_one (by decide) (by decide) ?_;go_wp2_with fail;refine(ht24.out).mono ?_;rintro e w28 ⟨rfl,hb⟩;have c28:Hid (Below w3.heap.size w3 w28):=b_ c24 hb;clear hb c24 ht24;go_wp2_with fail;refine⟨fun _=>c28.out,?_⟩;refine wpTail5_quiet ?_;intro C' hC'
 repeat(go_big_quiet_step (first|(intro _;with_reducible rfl)))
 refine wpQuiet_nil ?_;clear hC';refine wpTail5_quiet ?_;intro C' hC'
 repeat(go_big_quiet_step (first|(intro _;with_reducible rfl)))
 refine wpQuiet_nil ?_;clear hC';refine wpTail5_quiet ?_;intro C' hC'
 repeat(go_big_quiet_step (first|(intro _;with_reducible rfl)))
 refine wpQuiet_nil ?_;clear hC';refine wpTail5_quiet ?_;intro C' hC'
 repeat(go_big_quiet_step (first|(intro _;with_reducible rfl)))
 refine wpQuiet_nil ?_;clear hC';refine wpTail5_quiet ?_;intro C' hC'
 repeat(go_big_quiet_step (first|(intro _;with_reducible rfl)))
 refine wpQuiet_nil ?_;clear hC';refine wpTail5_read c28.out ?_;intro C' hC'
 repeat(go_big_quiet_step (first
  |(intro _;with_reducible rfl)
  |(intro hc;have m0:=c_ hc hlp g0;have m1:=c_ hc hlp g1;simp only [m0,m1,Result.andThen];exact⟨trivial,rfl⟩)))
 refine wpQuiet_nil ?_;clear hC';refine wpTail5_one (by decide) (by decide) ?_;go_wp2_with fail;refine(runs20_any w28).mono ?_;rintro e w32 ⟨q32,rfl,hR,hb⟩;have c32:Hid (Below w3.heap.size w3 w32):=b_ c28 hb;have ht32:=H_ (paCatch_any (some ⟨q32,0,none⟩) A0 2 2 1 m0 0 1 10 L0 [0] w32 hR (by decide) (r0H.out.below c32.out) (by decide) dep0_le);rw [cat1] at ht32;clear hb hR c28;go_wp2_with fail;refine⟨fun _=>c32.out,?_⟩;refine wpTail5_one (by decide) (by decide) ?_;go_wp2_with fail;refine(ht32.out).mono ?_;rintro e w36 ⟨rfl,hb⟩;have c36:Hid (Below w3.heap.size w3 w36):=b_ c32 hb;clear hb c32 ht32;go_wp2_with fail;refine⟨fun _=>c36.out,?_⟩;refine wpTail5_quiet ?_;intro C' hC'
 repeat(go_big_quiet_step (first|(intro _;with_reducible rfl)))
 refine wpQuiet_nil ?_;clear hC';refine wpTail5_quiet ?_;intro C' hC'
 repeat(go_big_quiet_step (first|(intro _;with_reducible rfl)))
 refine wpQuiet_nil ?_;clear hC';refine wpTail5_quiet ?_;intro C' hC'
 repeat(go_big_quiet_step (first|(intro _;with_reducible rfl)))
 refine wpQuiet_nil ?_;clear hC';refine wpTail5_list _ _ _ (by simp) ?_;simp only [List.map_nil];go_wp2_with fail;go_returns;exact⟨rfl,(b_ hb3H c36.out)⟩
