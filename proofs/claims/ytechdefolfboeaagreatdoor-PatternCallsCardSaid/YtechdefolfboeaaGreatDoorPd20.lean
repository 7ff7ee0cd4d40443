/- Merged. -/
import Derived.Test.YtechdefolfboeaaGreatDoorPd19
set_option linter.unusedVariables false
set_option linter.unusedSimpArgs false
set_option maxRecDepth 100000
set_option maxHeartbeats 2000000
namespace Go.Proofs.YtechdefolfboeaaGreatDoor.B
open Go.RowKit B
structure GX1 (w0:World) (g:Nat) (T:TypeId) (zs vs:List Value) (f:Bool) (w:World):Prop where
 but:But w0 w [g]
 bx:Bx w g T (if f=true then vs else zs)
section
variable {w0 w w':World} {g:Nat} {T:TypeId} {zs vs:List Value} {f:Bool}
end
structure GX2 (w0:World) (g:Nat) (T:TypeId) (zs vs:List Value) (g':Nat) (T':TypeId) (zs' vs':List Value) (f f':Bool) (w:World):Prop where
 but:But w0 w [g,g']
 bx:Bx w g T (if f=true then vs else zs)
 bx':Bx w g' T' (if f'=true then vs' else zs')
section
variable {w0 w w':World} {g g':Nat} {T T':TypeId} {zs vs zs' vs':List Value} {f f':Bool}
theorem GX2.start (hB:Bx w0 g T zs) (hB':Bx w0 g' T' zs') (hf:f=false) (hf':f'=false):GX2 w0 g T zs vs g' T' zs' vs' f f' {w0 with drawn:=w0.drawn+1}:=⟨But.drawn _ _,by rw [hf];exact hB,by rw [hf'];exact hB'⟩
theorem GX2.box0 (h:GX2 w0 g T zs vs g' T' zs' vs' f f' w) (hf:f=false):Bx w g T zs:=by have:=h.bx;rwa [hf] at this
theorem GX2.box1 (h:GX2 w0 g T zs vs g' T' zs' vs' f f' w) (hf:f'=false):Bx w g' T' zs':=by have:=h.bx';rwa [hf] at this
theorem GX2.put0 (h:GX2 w0 g T zs vs g' T' zs' vs' f f' w) (hne:g≠g') (hB:Bx w' g T vs) (hb:But w w' [g]):GX2 w0 g T zs vs g' T' zs' vs' true f' w':=
 ⟨h.but.trans (hb.mono (by simp)),hB,h.bx'.keep (hb.keep g' h.bx'.lt (by simpa using hne.symm))⟩
theorem GX2.put1 (h:GX2 w0 g T zs vs g' T' zs' vs' f f' w) (hne:g≠g') (hB:Bx w' g' T' vs') (hb:But w w' [g']):GX2 w0 g T zs vs g' T' zs' vs' f true w':=
 ⟨h.but.trans (hb.mono (by simp)),h.bx.keep (hb.keep g h.bx.lt (by simpa using hne)),hB⟩
theorem GX2.cell (h:GX2 w0 g T zs vs g' T' zs' vs' f f' w) {b o:Nat} {v:Value} (hl:b<w0.heap.size) (hne:b≠g) (hne':b≠g') (hv:w0.cell? ⟨b,o,none⟩=some v):w.cell? ⟨b,o,none⟩=some v:=(h.but.cell (p:=⟨b,o,none⟩) hl (by simp [hne,hne'])).trans hv
end
end Go.Proofs.YtechdefolfboeaaGreatDoor.B
namespace Go.Proofs.YtechdefolfboeaaGreatDoor
open Go.RowKit B K
def okS (X:ay_):Bool:=bb_ aN_ X&&(bG_ (allN (numS X))&&a3_ (numS X))
def ox_ (X:ay_) (we:World) (e:Ending) (w':World):Prop:= ∃ (vs:List Value) (c k a:Int),e= .returned (.tuple #[.agg vs.toArray,.agg #[.int .i64 c,.int .i64 k,.int .i64 a]])/\vs.length=12/\(∀ u∈vs,u.oneCell'=true)/\(c=0↔okS X=true)/\Below we.heap.size we w'
theorem j4_ {nm:Str ->Bool} {X:ay_} (h:bb_ nm X=true) (hf:FewS X): ∀ r∈(numS X).routes,r.rides.length+1=r.stops.length/\(∀ s∈r.stops, -1<=s)/\r.stops.length<=100000:=fun r j=>by
 unfold bb_ at h;simp only [Bool.and_eq_true] at h;obtain⟨q,g,rfl⟩:=List.mem_map.1 (show r∈X.routes.map (numR X) from j);have f:=List.all_eq_true.1 h.2.2.2 q g;unfold cX_ at f;simp only [Bool.and_eq_true,decide_eq_true_eq] at f;refine⟨by simp only [numR,List.length_map];omega,fun s n=>?_,by simp only [numR,List.length_map];exact(hf.sr q g).1⟩;obtain⟨x,_,rfl⟩:=List.mem_map.1 (show s∈q.stops.map (ai_ X.stops) from n);unfold ai_;split<;>omega
theorem g2_ {X:ay_} (h:bb_ aN_ X=true):(∀ s∈allN (numS X),aN_ s=true)/\(allN (numS X)).length <=4000:=by
 unfold bb_ at h;simp only [Bool.and_eq_true] at h;obtain⟨j,n,_⟩:=h;refine⟨fun s g=>List.all_eq_true.1 n s ?_,?_⟩
 ·unfold allN numS at g;unfold aT_;simp only [List.mem_append,List.mem_map,List.mem_flatMap] at g ⊢;rcases g with((((g|⟨p,f,rfl⟩)|⟨p,f,rfl⟩)|⟨p,f,rfl⟩)|⟨p,f,rfl⟩)|⟨p,f,rfl⟩
  ·exact .inl g
  ·exact .inr (.inl ⟨p,f,by simp [pN]⟩)
  ·exact .inr (.inr (.inl ⟨p,f,by simp [dN]⟩))
  ·exact .inr (.inr (.inr (.inl ⟨p,f,by simp [rN]⟩)))
  ·exact .inr (.inr (.inr (.inr (.inl ⟨p,f,by simp [tN]⟩))))
  ·exact .inr (.inr (.inr (.inr (.inr (.inl ⟨p,f,by simp [hN]⟩)))))
 ·unfold cG_ at j;simp only [Bool.and_eq_true,decide_eq_true_eq] at j;unfold allN numS;simp only [List.length_append,List.length_map];omega
theorem mK_ (X:ay_) (V:SV) (we:World) (hr:RS we X V) (hf:FewS X) (hsp:Sp we):Calls Tryz.prog 94 #[sVal X V] we (ox_ X we):=by
 obtain⟨a0,aP,aD,aR,aT,aH,n0,nP,nD,nR,nT,nH,c0,cP,cD,cR,cT,cH⟩:=V;have bB:=H_ hf;have aX:=H_ hsp;have h0:Hd (0<we.heap.size):=by have:=World.block_lt_of_cell? we ⟨0,0,none⟩ (hsp 0 (by omega));show _<_;omega
 simp only [sVal];obtain⟨w1,w2,w3,b1,T,U,cK,cL,cM,bL,bM,bN,bO,bP,cF,cG,cI,bE,B1,B2,B3,cQ,aI,aJ⟩:=pm_ we 136 31 81 [.int .i64 X.hz,.slice a0 n0 c0,.slice aP nP cP,.slice aD nD cD,.slice aR nR cR,.slice aT nT cT,.slice aH nH cH] [.int .i64 0,.slice none 0 0,.slice none 0 0,.slice none 0 0,.slice none 0 0,.slice none 0 0,.slice none 0 0,.slice none 0 0,.slice none 0 0,.slice none 0 0,.slice none 0 0,.slice none 0 0] [.int .i64 0,.int .i64 0,.int .i64 0];have J:Hd (U≠T):=by show _≠_;omega
 have BQ:=H_ B2;have BW:=H_ B3;have hR:=H_ (hr.below bE.o);have bT:=H_ (fp_ aX.o h0.o bE.o);obtain⟨p0,p1,p2,p3,p4,p5,p6⟩:=c_7 B1;have bX:=H_ B1;clear B1 B2 B3 cF cG cI hr hf hsp;go_enter Tryz.func94,Tryz.ntmps94;go_wp2_with fail;refine(lt_ X ⟨a0,aP,aD,aR,aT,aH,n0,nP,nD,nR,nT,nH,c0,cP,cD,cR,cT,cH⟩ w3 hR.o bB.o bT.o).mono ?_;rintro e w4 ⟨c,rfl,hc,Q⟩;have bQ:=H_ hc;clear hc cK cL cM bL bM bN bO bP p0 p1 p2 p3 p4 p5 p6;have aL:Hd (Below we.heap.size we w4):=b_ bE Q;have aZ:=H_ (BQ.o.below Q);have bA:=H_ (BW.o.below Q);by_cases he:c=0
 ·subst he;have aK:Hd (bb_ aN_ X=true):=bQ.o.1 rfl;obtain⟨p0,p1,p2,p3,p4,p5,p6⟩:=c_7 (bX.o.below Q);have cE:=H_ (hR.o.below Q);clear Q;go_wp2_with fail;refine(i0_ X ⟨a0,aP,aD,aR,aT,aH,n0,nP,nD,nR,nT,nH,c0,cP,cD,cR,cT,cH⟩ w4 cE.o bB.o).mono ?_;rintro e w5 ⟨⟨A0,A1,A2,A3,A4,A5,AP,AD,AR,AT,AH,N0,N1,N2,N3,N4,N5,NP,ND,NR,NT,NH,K0,K1,K2,K3,K4,K5,KP,KD,KR,KT,KH⟩,rfl,bI,R⟩;clear p0 p1 p2 p3 p4 p5 p6;simp only [wVal,numS];obtain⟨w6,b6,cN,bK,aA,B6⟩:=box1 w5 31 [.int .i64 X.hz,.slice A0 N0 K0,.slice A1 N1 K1,.slice A2 N2 K2,.slice A3 N3 K3,.slice A4 N4 K4,.slice A5 N5 K5,.slice AP NP KP,.slice AD ND KD,.slice AR NR KR,.slice AT NT KT,.slice AH NH KH];have bJ:=H_ (bI.below aA);have aM:Hd (Below we.heap.size we w6):=(b_ aL R).trans (aA.mono (b_ aL R).size);have bG:=H_ ((aZ.o.below R).below aA);have bH:=H_ ((bA.o.below R).below aA)
  have cS:Hd (b6≠T/\b6≠U):=by have h1:=(aZ.o.below R).lt;have h2:=(bA.o.below R).lt;show _/\_;omega
  have bY:=H_ B6;have bU:=H_ (fp_ aX.o h0.o aM.o);have bV:=H_ (ll_ (numS X) ⟨A0,A1,A2,A3,A4,A5,AP,AD,AR,AT,AH,N0,N1,N2,N3,N4,N5,NP,ND,NR,NT,NH,K0,K1,K2,K3,K4,K5,KP,KD,KR,KT,KH⟩ b6 w6 B6 bJ.o bU.o (g2_ aK.o).1 (g2_ aK.o).2 (by simp [numS]) (by simp [numS]) (by simp [numS]) (by simp [numS]) (by simp [numS]) (j4_ aK.o bB.o));clear bI R aA B6;go_wp2_with fail;refine bV.o.mono ?_;rintro e w7 ⟨c,k,a,rfl,hc,G⟩;have bR:=H_ hc;clear cN bK bV;obtain⟨w8,b8,cU,cO,aB,B8⟩:=box1 w7 81 [.int .i64 c,.int .i64 k,.int .i64 a];have aN:Hd (Below we.heap.size we w8):=(b_ aM G).trans (aB.mono (b_ aM G).size);have D:=(bG.o.below G).below aB;have F:=(bH.o.below G).below aB;have bF:=(bY.o.below G).below aB;have r0:=B8.cell 0 rfl;have f:=aN;have aV:Hd (b8≠T/\b8≠U):=by have h1:=(bG.o.below G).lt;have h2:=(bH.o.below G).lt;show _/\_;omega
  obtain⟨d0,d1,d2,d3,d4,d5,d6,d7,d8,d9,bZ,cA⟩:=c_12 bF;have aY:=H_ B8;clear hc G aB B8;by_cases aU:c=0
  ·subst aU;have bW:Hd (okS X=true):=by show _=_;unfold okS;rw [aK.o,bR.o.1 rfl];rfl
   obtain⟨j,y⟩:=D.row [.int .i64 X.hz,.slice A0 N0 K0,.slice A1 N1 K1,.slice A2 N2 K2,.slice A3 N3 K3,.slice A4 N4 K4,.slice A5 N5 K5,.slice AP NP KP,.slice AD ND KD,.slice AR NR KR,.slice AT NT KT,.slice AH NH KH];obtain⟨wf,aQ⟩:=e_ (w8.setRow T (List.toArray [.int .i64 X.hz,.slice A0 N0 K0,.slice A1 N1 K1,.slice A2 N2 K2,.slice A3 N3 K3,.slice A4 N4 K4,.slice A5 N5 K5,.slice AP NP KP,.slice AD ND KD,.slice AR NR KR,.slice AT NT KT,.slice AH NH KH]));rw [aQ] at j y;have P:Bx wf U 81 [.int .i64 0,.int .i64 0,.int .i64 0]:=F.keep (y.keep U F.lt (by simp;exact J.o));obtain⟨q,z⟩:=P.row [.int .i64 0,.int .i64 0,.int .i64 0];obtain⟨wg,aS⟩:=e_ (wf.setRow U (List.toArray [.int .i64 0,.int .i64 0,.int .i64 0]));rw [aS] at q z
   have N:Bx wg T 31 [.int .i64 X.hz,.slice A0 N0 K0,.slice A1 N1 K1,.slice A2 N2 K2,.slice A3 N3 K3,.slice A4 N4 K4,.slice A5 N5 K5,.slice AP NP KP,.slice AD ND KD,.slice AR NR KR,.slice AT NT KT,.slice AH NH KH]:=j.keep (z.keep T j.lt (by simp;exact fun h=>J.o h.symm));have M:=y.below f.o.size (m_ aI.o);have d:=z.below (f.o.trans M).size (m_ aJ.o);have L:Hd (Below we.heap.size we wg):=(f.o.trans M).trans d;have N:=H_ N;have q:=H_ q;have Y:=H_ D;have i:=H_ P;clear j y z M d P D F;rename_i gQ;clear gQ;go_wp2_with (first|(with_reducible refine ac_ (.tmp 2) (.tmp 22) 31 (by with_reducible rfl) ?y1 ?y2 ?y3 Y.o ?y4 ?y5 ?y6 aQ ?_)|(with_reducible refine ac_ (.tmp 3) (.tmp 23) 81 (by with_reducible rfl) ?y7 ?y8 ?y9 i.o ?ya ?yb ?yc aS ?_))
   all_goals try rfl
   all_goals try kernel_rfl
   refine cl_ (s:=2) (s':=3) (t:=31) (t':=81) rfl rfl rfl N.o q.o (by kernel_rfl) (by kernel_rfl) (by kernel_rfl) (by kernel_rfl) rfl ?_;exact⟨_,_,_,_,rfl,by simp,by simp [Value.oneCell'],⟨fun _=>bW.o,fun _=>rfl⟩,L.o⟩
  ·have cJ:(c !=0)=true:=by simp [aU]
   clear bF d0 d1 d2 d3 d4 d5 d6 d7 d8 d9 bZ cA;go_wp2_with fail;have bC:Hd (okS X=false):=by show _=_;unfold okS;rw [aK.o];simp only [Bool.true_and];exact Bool.eq_false_iff.2 fun h=>aU (bR.o.2 h)
   have r1:=aY.o.cell 1 rfl;have r2:=aY.o.cell 2 rfl;have aC:=aY.o.lt;have bS:T≠U:=fun h=>J.o h.symm;have bD:=aV.o.1;have aO:=aV.o.2
   go_wp2
   refine a0_ (fun fl x w=>GX2 w8 T 31 [.int .i64 0,.slice none 0 0,.slice none 0 0,.slice none 0 0,.slice none 0 0,.slice none 0 0,.slice none 0 0,.slice none 0 0,.slice none 0 0,.slice none 0 0,.slice none 0 0,.slice none 0 0] [.int .i64 0,.slice none 0 0,.slice none 0 0,.slice none 0 0,.slice none 0 0,.slice none 0 0,.slice none 0 0,.slice none 0 0,.slice none 0 0,.slice none 0 0,.slice none 0 0,.slice none 0 0] U 81 [.int .i64 0,.int .i64 0,.int .i64 0] [.int .i64 c,.int .i64 k,.int .i64 a] (fl 2) (fl 3) w) (by kernel_rfl) (by kernel_rfl) (by kernel_rfl) (by kernel_rfl) (by kernel_rfl) ?_ ?_
   ·intro x0;exact GX2.start D F rfl rfl
   intro base O aE hO;have S:Hd (∀ xs,evX base O xs (.tmp 2)= .pointer (some ⟨T,0,none⟩)/\evX base O xs (.tmp 3)= .pointer (some ⟨U,0,none⟩)/\evX base O xs (.tmp 6)= .pointer (some ⟨b8,0,none⟩)/\evX base O xs (.tmp 20)=xs 0/\evX base O xs (.tmp 21)=xs 1):=fun xs=>by rw [aE,hO];exact⟨rfl,rfl,rfl,rfl,rfl⟩
   clear aE hO;apply gd_ (n:=0);rfl
   ·intro _ _ w _ m n _ _ r _ K t;clear r n;go_simp;exact t _ _ rfl m
   apply gd_ (n:=1);rfl
   ·intro _ g w _ m n _ _ r _ K t;have e6:=(r _).trans (S.o g).2.2.1;clear r n;have m0:=m.cell (b:=b8) aC bD aO (r0);have m1:=m.cell (b:=b8) aC bD aO (r1);have m2:=m.cell (b:=b8) aC bD aO (r2);go_simp;exact t _ _ rfl m
   refine ga_ (n:=2) (fun _=>True) ?_ ?_
   ·intro _ g w _ m n p _ r _ K t;have e2:=(r _).trans (S.o g).1;have d0:=n.at_ 0 rfl rfl;have cB:=(r _).trans ((S.o g).2.2.2.1.trans d0);clear r n;exact aP_ (.tmp 2) (.tmp 20) 31 rfl e2 cB (m.box0 p) (by kernel_rfl) rfl (by simp [Value.oneCell']) (fun w' hB Z=>t _ _ trivial (m.put0 bS hB Z))
   refine ga_ (n:=3) (fun _=>True) ?_ ?_
   ·intro _ g w _ m n p _ r _ K t;have e3:=(r _).trans (S.o g).2.1;have d1:=n.at_ 1 rfl rfl;have cC:=(r _).trans ((S.o g).2.2.2.2.trans d1);clear r n;exact aP_ (.tmp 3) (.tmp 21) 81 rfl e3 cC (m.box1 p) (by kernel_rfl) rfl (by simp [Value.oneCell']) (fun w' hB Z=>t _ _ trivial (m.put1 bS hB Z))
   clear S;intro xs wb hG hI;clear hI;have aF:=hG.but;have aW:=hG.bx;have aG:=hG.bx';clear hG;simp only [if_true] at aW aG;simp only [List.append_eq,List.cons_append,List.nil_append,aA_,List.setIfInBounds_toArray,List.set_cons_zero,List.set_cons_succ,Nat.zero_add,Nat.reduceAdd];have L:Hd (Below we.heap.size we wb):=aN.o.trans (aF.below aN.o.size (fun x hx=>by simp only [List.mem_cons,List.not_mem_nil,or_false] at hx;rcases hx with rfl|rfl;exact aI.o;exact aJ.o));clear aF;go_wp2_with fail;refine cl_ (s:=2) (s':=3) (t:=31) (t':=81) rfl rfl rfl aW aG (by kernel_rfl) (by kernel_rfl) (by kernel_rfl) (by kernel_rfl) rfl ?_;exact⟨_,_,_,_,rfl,by simp,by simp [Value.oneCell'],⟨fun h=>absurd h aU,fun h=>by rw [bC.o] at h;cases h⟩,L.o⟩
 ·have cJ:(c !=0)=true:=by simp [he]
  have bC:Hd (okS X=false):=by
   show _=_
   cases h:bb_ aN_ X with
   |true=>exact absurd (bQ.o.2 h) he
   |false=>unfold okS;rw [h];rfl
  have f:=aL;have D:=aZ.o;have F:=bA.o;clear Q;obtain⟨j,y⟩:=D.row [.int .i64 0,.slice none 0 0,.slice none 0 0,.slice none 0 0,.slice none 0 0,.slice none 0 0,.slice none 0 0,.slice none 0 0,.slice none 0 0,.slice none 0 0,.slice none 0 0,.slice none 0 0];obtain⟨wf,aQ⟩:=e_ (w4.setRow T (List.toArray [.int .i64 0,.slice none 0 0,.slice none 0 0,.slice none 0 0,.slice none 0 0,.slice none 0 0,.slice none 0 0,.slice none 0 0,.slice none 0 0,.slice none 0 0,.slice none 0 0,.slice none 0 0]));rw [aQ] at j y;have P:Bx wf U 81 [.int .i64 0,.int .i64 0,.int .i64 0]:=F.keep (y.keep U F.lt (by simp;exact J.o));obtain⟨q,z⟩:=P.row [.int .i64 c,.int .i64 0,.int .i64 0];obtain⟨wg,aS⟩:=e_ (wf.setRow U (List.toArray [.int .i64 c,.int .i64 0,.int .i64 0]));rw [aS] at q z
  have N:Bx wg T 31 [.int .i64 0,.slice none 0 0,.slice none 0 0,.slice none 0 0,.slice none 0 0,.slice none 0 0,.slice none 0 0,.slice none 0 0,.slice none 0 0,.slice none 0 0,.slice none 0 0,.slice none 0 0]:=j.keep (z.keep T j.lt (by simp;exact fun h=>J.o h.symm));have M:=y.below f.o.size (m_ aI.o);have d:=z.below (f.o.trans M).size (m_ aJ.o);have L:Hd (Below we.heap.size we wg):=(f.o.trans M).trans d;have N:=H_ N;have q:=H_ q;have Y:=H_ D;have i:=H_ P;clear j y z M d P D F;rename_i gQ;clear gQ;go_wp2_with (first|(with_reducible refine ac_ (.tmp 2) (.tmp 11) 31 (by with_reducible rfl) ?n1 ?n2 ?n3 Y.o ?n4 ?n5 ?n6 aQ ?_)|(with_reducible refine ac_ (.tmp 3) (.tmp 13) 81 (by with_reducible rfl) ?n7 ?n8 ?n9 i.o ?na ?nb ?nc aS ?_))
  all_goals try rfl
  all_goals try kernel_rfl
  refine cl_ (s:=2) (s':=3) (t:=31) (t':=81) rfl rfl rfl N.o q.o (by kernel_rfl) (by kernel_rfl) (by kernel_rfl) (by kernel_rfl) rfl ?_;exact⟨_,_,_,_,rfl,by simp,by simp [Value.oneCell'],⟨fun h=>absurd h he,fun h=>by rw [bC.o] at h;cases h⟩,L.o⟩
