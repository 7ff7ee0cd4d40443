/- Merged. -/
import Derived.Test.YtechdefolfboeaaGreatDoorPo19
set_option linter.unusedVariables false
set_option linter.unusedSimpArgs false
set_option maxRecDepth 100000
set_option maxHeartbeats 2000000
namespace Go.Proofs.YtechdefolfboeaaGreatDoor.B
open Go.RowKit B
structure GX1 (w0:World) (g:Nat) (T:TypeId) (zs vs:List Value) (f:Bool) (w:World):Prop where
 but:But w0 w [g]
 bx:Bx w g T (if f=true then vs else zs)
section
variable {w0 w w':World} {g:Nat} {T:TypeId} {zs vs:List Value} {f:Bool}
theorem GX1.start (hB:Bx w0 g T zs) (hf:f=false):GX1 w0 g T zs vs f {w0 with drawn:=w0.drawn+1}:=⟨But.drawn _ _,by rw [hf];exact hB⟩
theorem GX1.box0 (h:GX1 w0 g T zs vs f w) (hf:f=false):Bx w g T zs:=by have:=h.bx;rwa [hf] at this
theorem GX1.put (h:GX1 w0 g T zs vs f w) (hB:Bx w' g T vs) (hb:But w w' [g]):GX1 w0 g T zs vs true w':=⟨h.but.trans hb,hB⟩
theorem GX1.cell (h:GX1 w0 g T zs vs f w) {b o:Nat} {v:Value} (hl:b<w0.heap.size) (hne:b≠g) (hv:w0.cell? ⟨b,o,none⟩=some v):w.cell? ⟨b,o,none⟩=some v:=(h.but.cell (p:=⟨b,o,none⟩) hl (by simpa using hne)).trans hv
end
structure GX2 (w0:World) (g:Nat) (T:TypeId) (zs vs:List Value) (g':Nat) (T':TypeId) (zs' vs':List Value) (f f':Bool) (w:World):Prop where
 but:But w0 w [g,g']
 bx:Bx w g T (if f=true then vs else zs)
 bx':Bx w g' T' (if f'=true then vs' else zs')
section
variable {w0 w w':World} {g g':Nat} {T T':TypeId} {zs vs zs' vs':List Value} {f f':Bool}
theorem GX2.start (hB:Bx w0 g T zs) (hB':Bx w0 g' T' zs') (hf:f=false) (hf':f'=false):GX2 w0 g T zs vs g' T' zs' vs' f f' {w0 with drawn:=w0.drawn+1}:=⟨But.drawn _ _,by rw [hf];exact hB,by rw [hf'];exact hB'⟩
theorem GX2.box0 (h:GX2 w0 g T zs vs g' T' zs' vs' f f' w) (hf:f=false):Bx w g T zs:=by have:=h.bx;rwa [hf] at this
theorem GX2.box1 (h:GX2 w0 g T zs vs g' T' zs' vs' f f' w) (hf:f'=false):Bx w g' T' zs':=by have:=h.bx';rwa [hf] at this
theorem GX2.put0 (h:GX2 w0 g T zs vs g' T' zs' vs' f f' w) (hne:g≠g') (hB:Bx w' g T vs) (hb:But w w' [g]):GX2 w0 g T zs vs g' T' zs' vs' true f' w':=
 ⟨h.but.trans (hb.mono (by simp)),hB,h.bx'.keep (hb.keep g' h.bx'.lt (by simpa using hne.symm))⟩
theorem GX2.put1 (h:GX2 w0 g T zs vs g' T' zs' vs' f f' w) (hne:g≠g') (hB:Bx w' g' T' vs') (hb:But w w' [g']):GX2 w0 g T zs vs g' T' zs' vs' f true w':=
 ⟨h.but.trans (hb.mono (by simp)),h.bx.keep (hb.keep g h.bx.lt (by simpa using hne)),hB⟩
theorem GX2.cell (h:GX2 w0 g T zs vs g' T' zs' vs' f f' w) {b o:Nat} {v:Value} (hl:b<w0.heap.size) (hne:b≠g) (hne':b≠g') (hv:w0.cell? ⟨b,o,none⟩=some v):w.cell? ⟨b,o,none⟩=some v:=(h.but.cell (p:=⟨b,o,none⟩) hl (by simp [hne,hne'])).trans hv
end
end Go.Proofs.YtechdefolfboeaaGreatDoor.B
namespace Go.Proofs.YtechdefolfboeaaGreatDoor
open Go.RowKit B K
def okS (X:SheetP):Bool:=sheetB nameB X&&(uniqB (allN (numS X))&&firstB (numS X))
def RetMk (X:SheetP) (we:World) (e:Ending) (w':World):Prop:= ∃ (vs:List Value) (c k a:Int),e= .returned (.tuple #[.agg vs.toArray,.agg #[.int .i64 c,.int .i64 k,.int .i64 a]])∧vs.length=12∧(∀ u∈vs,u.oneCell'=true)∧(c=0↔okS X=true)∧Below we.heap.size we w'
theorem shape_rides {nm:Str→Bool} {X:SheetP} (h:sheetB nm X=true) (hf:FewS X): ∀ r∈(numS X).routes,r.rides.length+1=r.stops.length∧(∀ s∈r.stops, -1≤s)∧r.stops.length≤100000:=fun r hr=>by
 unfold sheetB at h;simp only [Bool.and_eq_true] at h;obtain⟨q,hq,rfl⟩:=List.mem_map.1 (show r∈X.routes.map (numR X) from hr);have h1:=List.all_eq_true.1 h.2.2.2 q hq;unfold shapeB at h1;simp only [Bool.and_eq_true,decide_eq_true_eq] at h1;refine⟨by simp only [numR,List.length_map];omega,fun s hs=>?_,by simp only [numR,List.length_map];exact(hf.sr q hq).1⟩;obtain⟨x,_,rfl⟩:=List.mem_map.1 (show s∈q.stops.map (placeI X.stops) from hs);unfold placeI;split<;>omega
theorem names_good {X:SheetP} (h:sheetB nameB X=true):(∀ s∈allN (numS X),nameB s=true)∧(allN (numS X)).length ≤4000:=by
 unfold sheetB at h;simp only [Bool.and_eq_true] at h;obtain⟨hl,hn,_⟩:=h;refine⟨fun s hs=>List.all_eq_true.1 hn s ?_,?_⟩
 ·unfold allN numS at hs;unfold namesL;simp only [List.mem_append,List.mem_map,List.mem_flatMap] at hs ⊢;rcases hs with((((hs|⟨p,hp,rfl⟩)|⟨p,hp,rfl⟩)|⟨p,hp,rfl⟩)|⟨p,hp,rfl⟩)|⟨p,hp,rfl⟩
  ·exact .inl hs
  ·exact .inr (.inl ⟨p,hp,by simp [pN]⟩)
  ·exact .inr (.inr (.inl ⟨p,hp,by simp [dN]⟩))
  ·exact .inr (.inr (.inr (.inl ⟨p,hp,by simp [rN]⟩)))
  ·exact .inr (.inr (.inr (.inr (.inl ⟨p,hp,by simp [tN]⟩))))
  ·exact .inr (.inr (.inr (.inr (.inr (.inl ⟨p,hp,by simp [hN]⟩)))))
 ·unfold lensS at hl;simp only [Bool.and_eq_true,decide_eq_true_eq] at hl;unfold allN numS;simp only [List.length_append,List.length_map];omega
theorem pmake_any (X:SheetP) (V:SV) (we:World) (hr:RS we X V) (hf:FewS X) (hsp:Sp we):Calls Tryz.prog 94 #[sVal X V] we (RetMk X we):=by
 obtain⟨a0,aP,aD,aR,aT,aH,n0,nP,nD,nR,nT,nH,c0,cP,cD,cR,cT,cH⟩:=V;have hfl:=H_ hf;have hspH:=H_ hsp;have h0:Hid (0<we.heap.size):=by have:=World.block_lt_of_cell? we ⟨0,0,none⟩ (hsp 0 (by omega));show _<_;omega
 simp only [sVal];obtain⟨w1,w2,w3,b1,bq,bw,hw1,hw2,hw3,hbE1,hbE2,hbE3,hbF2,hbF3,hb1,hb2,hb3,hup,B1,B2,B3,hge1,hge2,hge3⟩:=enter3 we 136 31 81 [.int .i64 X.hz,.slice a0 n0 c0,.slice aP nP cP,.slice aD nD cD,.slice aR nR cR,.slice aT nT cT,.slice aH nH cH] [.int .i64 0,.slice none 0 0,.slice none 0 0,.slice none 0 0,.slice none 0 0,.slice none 0 0,.slice none 0 0,.slice none 0 0,.slice none 0 0,.slice none 0 0,.slice none 0 0,.slice none 0 0] [.int .i64 0,.int .i64 0,.int .i64 0];have hbwq:Hid (bw≠bq):=by show _≠_;omega
 have BQ:=H_ B2;have BW:=H_ B3;have hR:=H_ (hr.below hup.out);have hsp3:=H_ (sp_below hspH.out h0.out hup.out);obtain⟨p0,p1,p2,p3,p4,p5,p6⟩:=c_7 B1;have B1H:=H_ B1;clear B1 B2 B3 hb1 hb2 hb3 hr hf hsp;go_enter Tryz.func94,Tryz.ntmps94;go_wp2_with fail;refine(scheck_any X ⟨a0,aP,aD,aR,aT,aH,n0,nP,nD,nR,nT,nH,c0,cP,cD,cR,cT,cH⟩ w3 hR.out hfl.out hsp3.out).mono ?_;rintro e w4 ⟨c,rfl,hc,hb4⟩;have hcH:=H_ hc;clear hc hw1 hw2 hw3 hbE1 hbE2 hbE3 hbF2 hbF3 p0 p1 p2 p3 p4 p5 p6;have hup4:Hid (Below we.heap.size we w4):=b_ hup hb4;have BQ4:=H_ (BQ.out.below hb4);have BW4:=H_ (BW.out.below hb4);by_cases he:c=0
 ·subst he;have hsB:Hid (sheetB nameB X=true):=hcH.out.1 rfl;obtain⟨p0,p1,p2,p3,p4,p5,p6⟩:=c_7 (B1H.out.below hb4);have hR4:=H_ (hR.out.below hb4);clear hb4;go_wp2_with fail;refine(numbered_any X ⟨a0,aP,aD,aR,aT,aH,n0,nP,nD,nR,nT,nH,c0,cP,cD,cR,cT,cH⟩ w4 hR4.out hfl.out).mono ?_;rintro e w5 ⟨⟨A0,A1,A2,A3,A4,A5,AP,AD,AR,AT,AH,N0,N1,N2,N3,N4,N5,NP,ND,NR,NT,NH,K0,K1,K2,K3,K4,K5,KP,KD,KR,KT,KH⟩,rfl,hRW,hb5⟩;clear p0 p1 p2 p3 p4 p5 p6;simp only [wVal,numS];obtain⟨w6,b6,hw6,hb6E,hb6,B6⟩:=box1 w5 31 [.int .i64 X.hz,.slice A0 N0 K0,.slice A1 N1 K1,.slice A2 N2 K2,.slice A3 N3 K3,.slice A4 N4 K4,.slice A5 N5 K5,.slice AP NP KP,.slice AD ND KD,.slice AR NR KR,.slice AT NT KT,.slice AH NH KH];have hRW6:=H_ (hRW.below hb6);have hup6:Hid (Below we.heap.size we w6):=(b_ hup4 hb5).trans (hb6.mono (b_ hup4 hb5).size);have BQ6:=H_ ((BQ4.out.below hb5).below hb6)
  have BW6:=H_ ((BW4.out.below hb5).below hb6);have hn6q:Hid (b6≠bq∧b6≠bw):=by have h1:=(BQ4.out.below hb5).lt;have h2:=(BW4.out.below hb5).lt;show _∧_;omega
  have B6H:=H_ B6;have hsp6:=H_ (sp_below hspH.out h0.out hup6.out);have hwr:=H_ (pwrong_any (numS X) ⟨A0,A1,A2,A3,A4,A5,AP,AD,AR,AT,AH,N0,N1,N2,N3,N4,N5,NP,ND,NR,NT,NH,K0,K1,K2,K3,K4,K5,KP,KD,KR,KT,KH⟩ b6 w6 B6 hRW6.out hsp6.out (names_good hsB.out).1 (names_good hsB.out).2 (by simp [numS]) (by simp [numS]) (by simp [numS]) (by simp [numS]) (by simp [numS]) (shape_rides hsB.out hfl.out));clear hRW hb5 hb6 B6;go_wp2_with fail;refine hwr.out.mono ?_;rintro e w7 ⟨c,k,a,rfl,hc,hb7⟩;have hcu:=H_ hc;clear hw6 hb6E hwr;obtain⟨w8,b8,hw8,hb8E,hb8,B8⟩:=box1 w7 81 [.int .i64 c,.int .i64 k,.int .i64 a];have hup8:Hid (Below we.heap.size we w8):=(b_ hup6 hb7).trans (hb8.mono (b_ hup6 hb7).size);have hBq:=(BQ6.out.below hb7).below hb8;have hBw:=(BW6.out.below hb7).below hb8;have B68:=(B6H.out.below hb7).below hb8;have r0:=B8.cell 0 rfl;have hup9:=hup8
  have hb8q:Hid (b8≠bq∧b8≠bw):=by have h1:=(BQ6.out.below hb7).lt;have h2:=(BW6.out.below hb7).lt;show _∧_;omega
  obtain⟨d0,d1,d2,d3,d4,d5,d6,d7,d8,d9,d10,d11⟩:=c_12 B68;have B8H:=H_ B8;clear hc hb7 hb8 B8;by_cases hc0:c=0
  ·subst hc0;have hyes:Hid (okS X=true):=by show _=_;unfold okS;rw [hsB.out,hcu.out.1 rfl];rfl
   obtain⟨hQ1,hq1⟩:=hBq.row [.int .i64 X.hz,.slice A0 N0 K0,.slice A1 N1 K1,.slice A2 N2 K2,.slice A3 N3 K3,.slice A4 N4 K4,.slice A5 N5 K5,.slice AP NP KP,.slice AD ND KD,.slice AR NR KR,.slice AT NT KT,.slice AH NH KH];obtain⟨wf,hwf⟩: ∃ q,w8.setRow bq (List.toArray [.int .i64 X.hz,.slice A0 N0 K0,.slice A1 N1 K1,.slice A2 N2 K2,.slice A3 N3 K3,.slice A4 N4 K4,.slice A5 N5 K5,.slice AP NP KP,.slice AD ND KD,.slice AR NR KR,.slice AT NT KT,.slice AH NH KH])=q:=⟨_,rfl⟩
   rw [hwf] at hQ1 hq1;have hW1:Bx wf bw 81 [.int .i64 0,.int .i64 0,.int .i64 0]:=hBw.keep (hq1.keep bw hBw.lt (by simp;exact hbwq.out));obtain⟨hW2,hq2⟩:=hW1.row [.int .i64 0,.int .i64 0,.int .i64 0];obtain⟨wg,hwg⟩: ∃ q,wf.setRow bw (List.toArray [.int .i64 0,.int .i64 0,.int .i64 0])=q:=⟨_,rfl⟩
   rw [hwg] at hW2 hq2;have hQ2:Bx wg bq 31 [.int .i64 X.hz,.slice A0 N0 K0,.slice A1 N1 K1,.slice A2 N2 K2,.slice A3 N3 K3,.slice A4 N4 K4,.slice A5 N5 K5,.slice AP NP KP,.slice AD ND KD,.slice AR NR KR,.slice AT NT KT,.slice AH NH KH]:=hQ1.keep (hq2.keep bq hQ1.lt (by simp;exact fun h=>hbwq.out h.symm));have hF1:=hq1.below hup9.out.size (m_ hge2.out);have hF2:=hq2.below (hup9.out.trans hF1).size (m_ hge3.out);have hfin:Hid (Below we.heap.size we wg):=(hup9.out.trans hF1).trans hF2;have hQ2:=H_ hQ2;have hW2:=H_ hW2;have hBqz:=H_ hBq;have hW1z:=H_ hW1;clear hQ1 hq1 hq2 hF1 hF2 hW1 hBq hBw;rename_i gQ;clear gQ;go_wp2_with (first|(with_reducible refine wpList_store_bx (.tmp 2) (.tmp 22) 31 (by with_reducible rfl) ?y1 ?y2 ?y3 hBqz.out ?y4 ?y5 ?y6 hwf ?_)|(with_reducible refine wpList_store_bx (.tmp 3) (.tmp 23) 81 (by with_reducible rfl) ?y7 ?y8 ?y9 hW1z.out ?ya ?yb ?yc hwg ?_))
   all_goals try rfl
   all_goals try kernel_rfl
   refine bodyPost_bx2 (s:=2) (s':=3) (t:=31) (t':=81) rfl rfl rfl hQ2.out hW2.out (by kernel_rfl) (by kernel_rfl) (by kernel_rfl) (by kernel_rfl) rfl ?_;exact⟨_,_,_,_,rfl,by simp,by simp [Value.oneCell'],⟨fun _=>hyes.out,fun _=>rfl⟩,hfin.out⟩
  ·have hne:(c !=0)=true:=by simp [hc0]
   clear B68 d0 d1 d2 d3 d4 d5 d6 d7 d8 d9 d10 d11;go_wp2_with fail;have hno:Hid (okS X=false):=by show _=_;unfold okS;rw [hsB.out];simp only [Bool.true_and];exact Bool.eq_false_iff.2 fun h=>hc0 (hcu.out.2 h)
   have r1:=B8H.out.cell 1 rfl;have r2:=B8H.out.cell 2 rfl;have hb8l:=B8H.out.lt;have hgg:bq≠bw:=fun h=>hbwq.out h.symm;have hq8:=hb8q.out.1;have hw8':=hb8q.out.2;go_upto_region 7 with fail;refine wp_region_ghost (fun fl x w=>GX2 w8 bq 31 [.int .i64 0,.slice none 0 0,.slice none 0 0,.slice none 0 0,.slice none 0 0,.slice none 0 0,.slice none 0 0,.slice none 0 0,.slice none 0 0,.slice none 0 0,.slice none 0 0,.slice none 0 0] [.int .i64 0,.slice none 0 0,.slice none 0 0,.slice none 0 0,.slice none 0 0,.slice none 0 0,.slice none 0 0,.slice none 0 0,.slice none 0 0,.slice none 0 0,.slice none 0 0,.slice none 0 0] bw 81 [.int .i64 0,.int .i64 0,.int .i64 0] [.int .i64 c,.int .i64 k,.int .i64 a] (fl 2) (fl 3) w) (by kernel_rfl) (by kernel_rfl) (by kernel_rfl) (by kernel_rfl) (by kernel_rfl) ?_ ?_
   ·intro x0;exact GX2.start hBq hBw rfl rfl
   intro base O hbase hO;have kx1:Hid (∀ xs,evX base O xs (.tmp 2)= .pointer (some ⟨bq,0,none⟩)∧evX base O xs (.tmp 3)= .pointer (some ⟨bw,0,none⟩)∧evX base O xs (.tmp 6)= .pointer (some ⟨b8,0,none⟩)∧evX base O xs (.tmp 20)=xs 0∧evX base O xs (.tmp 21)=xs 1):=fun xs=>by rw [hbase,hO];exact⟨rfl,rfl,rfl,rfl,rfl⟩
   clear hbase hO;apply gd_ (n:=0);rfl
   ·intro fl xs w ev hG hD hl hdone hev ef K hK;clear hev hD;go_simp;exact hK _ _ rfl hG
   apply gd_ (n:=1);rfl
   ·intro fl xs w ev hG hD hl hdone hev ef K hK;have e6:=(hev (.tmp 6)).trans ((kx1.out xs).2.2.1);clear hev hD;have m0:=hG.cell (b:=b8) hb8l hq8 hw8' (r0);have m1:=hG.cell (b:=b8) hb8l hq8 hw8' (r1);have m2:=hG.cell (b:=b8) hb8l hq8 hw8' (r2);go_simp;exact hK _ _ rfl hG
   refine ga_ (n:=2) (fun _=>True) ?_ ?_
   ·intro fl xs w ev hG hD hl hdone hev ef K hK;have e2:=(hev (.tmp 2)).trans ((kx1.out xs).1);have e20:=(hev (.tmp 20)).trans ((kx1.out xs).2.2.2.1);have d0:=hD.at_ 0 rfl rfl;replace e20:=e20.trans d0;clear hev hD;exact outcome_store (.tmp 2) (.tmp 20) 31 rfl e2 e20 (hG.box0 hl) (by kernel_rfl) rfl (by simp [Value.oneCell']) (fun w' hB hBut=>hK _ _ trivial (hG.put0 hgg hB hBut))
   refine ga_ (n:=3) (fun _=>True) ?_ ?_
   ·intro fl xs w ev hG hD hl hdone hev ef K hK;have e3:=(hev (.tmp 3)).trans ((kx1.out xs).2.1);have e21:=(hev (.tmp 21)).trans ((kx1.out xs).2.2.2.2);have d1:=hD.at_ 1 rfl rfl;replace e21:=e21.trans d1;clear hev hD;exact outcome_store (.tmp 3) (.tmp 21) 81 rfl e3 e21 (hG.box1 hl) (by kernel_rfl) rfl (by simp [Value.oneCell']) (fun w' hB hBut=>hK _ _ trivial (hG.put1 hgg hB hBut))
   clear kx1;intro xs wb hG hI;clear hI;have hbutb:=hG.but;have hbxb:=hG.bx;have hbxb':=hG.bx';clear hG;simp only [if_true] at hbxb hbxb';simp only [List.append_eq,List.cons_append,List.nil_append,setAll,List.setIfInBounds_toArray,List.set_cons_zero,List.set_cons_succ,Nat.zero_add,Nat.reduceAdd];have hfin:Hid (Below we.heap.size we wb):=hup8.out.trans (hbutb.below hup8.out.size (fun x hx=>by simp only [List.mem_cons,List.not_mem_nil,or_false] at hx;rcases hx with rfl|rfl;exact hge2.out;exact hge3.out));clear hbutb;go_wp2_with fail;refine bodyPost_bx2 (s:=2) (s':=3) (t:=31) (t':=81) rfl rfl rfl hbxb hbxb' (by kernel_rfl) (by kernel_rfl) (by kernel_rfl) (by kernel_rfl) rfl ?_;exact⟨_,_,_,_,rfl,by simp,by simp [Value.oneCell'],⟨fun h=>absurd h hc0,fun h=>by rw [hno.out] at h;cases h⟩,hfin.out⟩
 ·have hne:(c !=0)=true:=by simp [he]
  have hno:Hid (okS X=false):=by
   show _=_
   cases h:sheetB nameB X with
   |true=>exact absurd (hcH.out.2 h) he
   |false=>unfold okS;rw [h];rfl
  have hup9:=hup4;have hBq:=BQ4.out;have hBw:=BW4.out;clear hb4;obtain⟨hQ1,hq1⟩:=hBq.row [.int .i64 0,.slice none 0 0,.slice none 0 0,.slice none 0 0,.slice none 0 0,.slice none 0 0,.slice none 0 0,.slice none 0 0,.slice none 0 0,.slice none 0 0,.slice none 0 0,.slice none 0 0];obtain⟨wf,hwf⟩: ∃ q,w4.setRow bq (List.toArray [.int .i64 0,.slice none 0 0,.slice none 0 0,.slice none 0 0,.slice none 0 0,.slice none 0 0,.slice none 0 0,.slice none 0 0,.slice none 0 0,.slice none 0 0,.slice none 0 0,.slice none 0 0])=q:=⟨_,rfl⟩
  rw [hwf] at hQ1 hq1;have hW1:Bx wf bw 81 [.int .i64 0,.int .i64 0,.int .i64 0]:=hBw.keep (hq1.keep bw hBw.lt (by simp;exact hbwq.out));obtain⟨hW2,hq2⟩:=hW1.row [.int .i64 c,.int .i64 0,.int .i64 0];obtain⟨wg,hwg⟩: ∃ q,wf.setRow bw (List.toArray [.int .i64 c,.int .i64 0,.int .i64 0])=q:=⟨_,rfl⟩
  rw [hwg] at hW2 hq2;have hQ2:Bx wg bq 31 [.int .i64 0,.slice none 0 0,.slice none 0 0,.slice none 0 0,.slice none 0 0,.slice none 0 0,.slice none 0 0,.slice none 0 0,.slice none 0 0,.slice none 0 0,.slice none 0 0,.slice none 0 0]:=hQ1.keep (hq2.keep bq hQ1.lt (by simp;exact fun h=>hbwq.out h.symm));have hF1:=hq1.below hup9.out.size (m_ hge2.out);have hF2:=hq2.below (hup9.out.trans hF1).size (m_ hge3.out);have hfin:Hid (Below we.heap.size we wg):=(hup9.out.trans hF1).trans hF2;have hQ2:=H_ hQ2;have hW2:=H_ hW2;have hBqz:=H_ hBq;have hW1z:=H_ hW1;clear hQ1 hq1 hq2 hF1 hF2 hW1 hBq hBw;rename_i gQ;clear gQ;go_wp2_with (first|(with_reducible refine wpList_store_bx (.tmp 2) (.tmp 11) 31 (by with_reducible rfl) ?n1 ?n2 ?n3 hBqz.out ?n4 ?n5 ?n6 hwf ?_)|(with_reducible refine wpList_store_bx (.tmp 3) (.tmp 13) 81 (by with_reducible rfl) ?n7 ?n8 ?n9 hW1z.out ?na ?nb ?nc hwg ?_))
  all_goals try rfl
  all_goals try kernel_rfl
  refine bodyPost_bx2 (s:=2) (s':=3) (t:=31) (t':=81) rfl rfl rfl hQ2.out hW2.out (by kernel_rfl) (by kernel_rfl) (by kernel_rfl) (by kernel_rfl) rfl ?_;exact⟨_,_,_,_,rfl,by simp,by simp [Value.oneCell'],⟨fun h=>absurd h he,fun h=>by rw [hno.out] at h;cases h⟩,hfin.out⟩
