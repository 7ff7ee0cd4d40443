/- Merged. -/
import Derived.Test.YtechdefolfboeaaGreatDoorPo19
import Derived.Test.YtechdefolfboeaaGreatDoorPo46
set_option linter.unusedVariables false
set_option linter.unusedSimpArgs false
set_option maxHeartbeats 4000000
namespace Go.Proofs.YtechdefolfboeaaGreatDoor
open Go.RowKit B
theorem drop_at' {α:Type} {l:List α} {i:Nat} {x:α} (h:l[i]?=some x):l.drop i=x::l.drop (i+1):=by
 obtain⟨hi,hx⟩:=List.getElem?_eq_some_iff.1 h;rw [List.drop_eq_getElem_cons hi,hx]
set_option maxRecDepth 100000 in
theorem twice_any (Ls:List (List Str)) (l0 l1 l2 l3 l4 l5:List Str) (hLs:Ls=[l0,l1,l2,l3,l4,l5]) (A0 A1 A2 A3 A4 A5:Option Addr) (n0 n1 n2 n3 n4 n5 c0 c1 c2 c3 c4 c5:Nat) (we:World)
 (h0:Rd we 1 strE A0 n0 l0) (h1:Rd we 1 strE A1 n1 l1) (h2:Rd we 1 strE A2 n2 l2) (h3:Rd we 1 strE A3 n3 l3) (h4:Rd we 1 strE A4 n4 l4) (h5:Rd we 1 strE A5 n5 l5)
 (m0:n0≤100000) (m1:n1≤100000) (m2:n2≤100000) (m3:n3≤100000) (m4:n4≤100000) (m5:n5≤100000):
 Calls Tryz.prog 145 #[.agg #[.slice A0 n0 c0,.slice A1 n1 c1,.slice A2 n2 c2,.slice A3 n3 c3,.slice A4 n4 c4,.slice A5 n5 c5]] we (RetW we (uniqB Ls.flatten)):=by
 obtain⟨vs,hvs⟩: ∃ q,[Value.slice A0 n0 c0,.slice A1 n1 c1,.slice A2 n2 c2,.slice A3 n3 c3,.slice A4 n4 c4,.slice A5 n5 c5]=q:=⟨_,rfl⟩
 have hvsH:=H_ hvs
 have hSl:Hid (∀ k,k<6→ ∃ A n c l,vs[k]?=some (.slice A n c)∧Ls[k]?=some l∧Rd we 1 strE A n l∧n≤100000):=fun k hk=>by
  subst hLs hvs
  match k,hk with
  |0,_=>exact⟨_,_,_,_,rfl,rfl,h0,m0⟩
  |1,_=>exact⟨_,_,_,_,rfl,rfl,h1,m1⟩
  |2,_=>exact⟨_,_,_,_,rfl,rfl,h2,m2⟩
  |3,_=>exact⟨_,_,_,_,rfl,rfl,h3,m3⟩
  |4,_=>exact⟨_,_,_,_,rfl,rfl,h4,m4⟩
  |5,_=>exact⟨_,_,_,_,rfl,rfl,h5,m5⟩
  |k+6,hk=>omega
 have hL6:Hid (Ls.length=6):=by subst hLs;rfl
 have hTot:Hid (Ls.flatten.length≤600000):=by
  subst hLs;have:=h0.len;have:=h1.len;have:=h2.len;have:=h3.len;have:=h4.len;have:=h5.len;show _≤_;simp;omega
 clear h0 h1 h2 h3 h4 h5 hLs hvs;have hb1:=below_alloc we #[.slice A0 n0 c0,.slice A1 n1 c1,.slice A2 n2 c2,.slice A3 n3 c3,.slice A4 n4 c4,.slice A5 n5 c5] 24;have B1:=Bx.new we 24 [.slice A0 n0 c0,.slice A1 n1 c1,.slice A2 n2 c2,.slice A3 n3 c3,.slice A4 n4 c4,.slice A5 n5 c5];obtain⟨w1,hw1⟩: ∃ q,we.alloc (.cells #[.slice A0 n0 c0,.slice A1 n1 c1,.slice A2 n2 c2,.slice A3 n3 c3,.slice A4 n4 c4,.slice A5 n5 c5] 24)=q:=⟨_,rfl⟩
 change Bx (we.alloc (.cells #[.slice A0 n0 c0,.slice A1 n1 c1,.slice A2 n2 c2,.slice A3 n3 c3,.slice A4 n4 c4,.slice A5 n5 c5] 24)) _ _ _ at B1;rw [hw1] at hb1 B1;have hb2:=below_alloc w1 #[.int .i64 0,.int .i64 0,.int .i64 0] 81;have B2:=Bx.new w1 81 [.int .i64 0,.int .i64 0,.int .i64 0];obtain⟨w2,hw2⟩: ∃ q,w1.alloc (.cells #[.int .i64 0,.int .i64 0,.int .i64 0] 81)=q:=⟨_,rfl⟩
 change Bx (w1.alloc (.cells #[.int .i64 0,.int .i64 0,.int .i64 0] 81)) _ _ _ at B2;rw [hw2] at hb2 B2;obtain⟨bn,hbn⟩: ∃ q,we.heap.size=q:=⟨_,rfl⟩
 obtain⟨bw,hq1⟩: ∃ q,bn+1=q:=⟨_,rfl⟩
 have hbwE:w1.heap.size=bw:=by rw [←hq1,←hbn,←hw1];simp
 rw [hbn] at B1;rw [hbwE] at B2;have B1':=B1.below hb2;obtain⟨p0,p1,p2,p3,p4,p5⟩:=c_6 B1';have hbew:Hid (we.heap.size≤bw):=by have:=hb1.size;show _≤_;omega
 have hup:Hid (Below we.heap.size we w2):=u_ hb1 hb2;have B2H:=H_ B2;clear B1 hb1 hb2 B1' B2;go_enter Tryz.func145,Tryz.ntmps145;go_wp2_with fail;refine(lists_any A0 A1 A2 A3 A4 A5 n0 n1 n2 n3 n4 n5 c0 c1 c2 c3 c4 c5 w2).mono ?_;rintro e w3 ⟨g,rfl,hBg,hb3⟩;rw [hvsH.out] at hBg;have hBg:=H_ hBg;have hup3:Hid (Below we.heap.size we w3):=b_ hup hb3;have B3:=H_ (B2H.out.below hb3);rename_i x1;clear x1 p0 p1 p2 p3 p4 p5 hw1 hw2 hbn hq1 hbwE hb3 hup B2H hvsH;go_wp2_with fail;go_loopw [5,3] (fun kv v wr=> ∃ (k:Nat) (l:List Str),k≤6∧kv= .int .i64 k∧Hid (wr.ownsRow w3.heap.size 9 1 v l.length (l.flatMap strE))∧Hid (l++(Ls.drop k).flatten =Ls.flatten)∧Hid (uniqB l=true)∧Hid (Below w3.heap.size w3 wr)) (fun kv _ _=>6-(intOf kv).toNat)
 case atStart=>exact⟨0,[],by omega,rfl,World.ownsRow_nil _ _ _ _,by show _=_;simp,rfl,Below.refl _ _⟩
 case round=>
  obtain⟨k,l,hk,rfl,own,hl,hu,hb⟩:=hrel;by_cases hk6:k<6
  ·have hkI:(k:Int)<6:=by omega
   obtain⟨A,n,c,lk,hvk,hLk,hrk,hn⟩:=hSl.out k hk6;have z0:=(hBg.out.below hb.out).cell k hvk;have hlk:Hid (lk.length=n):=hrk.len;have hrk3:=H_ (hrk.below hup3.out)
   have hl':Hid (l++(lk.drop 0++(Ls.drop (k+1)).flatten)=Ls.flatten):=by
    have:=hl.out;rw [drop_at' hLk,List.flatten_cons] at this;exact this
   have hgl:=hBg.out.lt;have hvkH:=H_ hvk;clear hl hvk hLk hrk;go_wp2_with fail;go_loopw [6,3] (fun iv v wx=> ∃ (i:Nat) (l:List Str),i≤n∧iv= .int .i64 i∧Hid (wx.ownsRow w3.heap.size 9 1 v l.length (l.flatMap strE))∧Hid (l++(lk.drop i++(Ls.drop (k+1)).flatten)=Ls.flatten)∧Hid (uniqB l=true)∧Hid (Below w3.heap.size w3 wx)) (fun iv _ _=>n-(intOf iv).toNat)
   case atStart=>exact⟨0,l,Nat.zero_le _,rfl,own,hl',hu,hb⟩
   case round=>
    clear own hl' hu hb z0;obtain⟨i,l,hi,rfl,own,hl,hu,hb⟩:=hrel;have z0:=(hBg.out.below hb.out).cell (v:= .slice A n c) k hvkH.out;by_cases hin:i<n
    ·have hinI:(i:Int)<(n:Int):=by omega
     obtain⟨b,o,x,rfl,hb0,hx,g0⟩:=(hrk3.out.below hb.out).str hin;obtain⟨As,cs,hv,hrs,_⟩:=Rd.of_own strE_len rfl own.out;subst hv;have hl2:Hid ((l++[x])++(lk.drop (i+1)++(Ls.drop (k+1)).flatten)=Ls.flatten):=by have:=hl.out;rw [drop_at' hx] at this;show _=_;rw [←this];simp
     have hlen:l.length+1≤600000:=by have h1:=congrArg List.length hl2.out;rw [List.length_append,List.length_append] at h1;simp only [List.length_singleton] at h1;have:=hTot.out;omega
     have hpl:=H_ (fun U=>place_any As l.length cs l x U);have hrsH:=H_ hrs;obtain⟨L,hL⟩: ∃ L,l.length=L:=⟨_,rfl⟩
     rw [hL] at own hpl hrsH hrs hlen ⊢;have hLH:=H_ hL;obtain⟨pi,hpi⟩: ∃ q,placeI l x=q:=⟨_,rfl⟩
     rw [hpi] at hpl;have hpiH:=H_ hpi;clear hx hrs hL hpi hl;go_wp2_with fail;refine(hpl.out _ hrsH.out (by omega)).mono ?_;rintro e wz ⟨rfl,rfl⟩;by_cases hp:0≤pi
     ·have hno:Hid (uniqB Ls.flatten=false):=by
       show _=_;have h1:=placeI_nonneg.1 (by rw [hpiH.out];exact hp:0≤placeI l x);rw [←hl2.out];refine uniqB_pre _ _ ?_;rw [uniqB_snoc,h1];simp
      go_wp2_with fail;refine(wrong_any 6 ((k:Int)+1) (i:Int) wr).mono ?_;rintro e w9 ⟨rfl,hb9⟩;have hBw:=(B3.out.below hb.out).below hb9;obtain⟨hBF,hbF⟩:=hBw.row [.int .i64 6,.int .i64 ((k:Int)+1),.int .i64 (i:Int)];obtain⟨wF,hwF⟩: ∃ q,w9.setRow bw (List.toArray [.int .i64 6,.int .i64 ((k:Int)+1),.int .i64 (i:Int)])=q:=⟨_,rfl⟩
      rw [hwF] at hBF hbF;have h39:=b_ hup3 (u_ hb.out hb9);have hfin:Hid (Below we.heap.size we wF):=h39.trans (hbF.below h39.size (m_ hbew.out));have hBF:=H_ hBF;rename_i q1;clear q1 hbF h39 own hl2 hpl hrsH hb9 hu;go_wp2_with (with_reducible refine wpList_store_bx (.tmp 2) (.tmp 37) 81 (by with_reducible rfl) ?x1 ?x2 ?x3 hBw ?x4 ?x5 ?x6 hwF ?_)
      case x1=>rfl
      case x2=>rfl
      case x3=>rfl
      case x4=>kernel_rfl
      case x5=>rfl
      case x6=>rfl
      refine bodyPost_bx (s:=2) (t:=81) rfl rfl hBF.out (by kernel_rfl) (by kernel_rfl) rfl ?_;exact⟨_,_,_,rfl,by simp [hno.out],hfin.out⟩
     ·have hu2:Hid (uniqB (l++[x])=true):=by
       show _=_;rw [uniqB_snoc,hu.out]
       cases h1:(l.any fun y=>sq y x) with
       |false=>rfl
       |true=>exact absurd (by rw [←hpiH.out];exact placeI_nonneg.2 h1) hp
      have own0:wr.ownsRow w3.heap.size 9 1 (.slice As L cs) l.length (l.flatMap strE):=by rw [hLH.out];exact own.out
      obtain⟨v9,w9,hrun,own9,hb9⟩:=own_lits (enc:=strE) Tryz.underlying22 info_tStr rfl (by decide) strE_len strE_one [x] own0 (by rw [hLH.out];simp;omega) (by decide) hb.out.size;have hrun:(Builtin.append_ #[22,22] 22 #[.slice As L cs,.slice (some ⟨wr.heap.size,0,none⟩) 1 1]).run Tryz.prog (wr.alloc (.cells #[.string x] 9))= .ok v9 w9:=hrun;have hb9:=H_ (hb.out.trans hb9);have own9:=H_ own9;rename_i q1 q2 q3;clear q1 q2 q3 own0 own hu hb hpl hrsH;go_wp2_with (at_builtin;refine wpList_append_run ?y1 (.tmp 38) (.tmp 46) 22 ?y2 ?y3 ?y4 hrun ?_)
      case y1=>rfl
      case y2=>rfl
      try(case y3=>rfl)
      try(case y4=>rfl)
      go_roundw
      case rel=>exact⟨i+1,l++[x],by omega,by go_num,own9,hl2,hu2,hb9⟩
      case measure=>simp [intOf];omega
    ·obtain rfl:i=n:=by omega
     have hl2:Hid (l++(Ls.drop (k+1)).flatten =Ls.flatten):=by have:=hl.out;rw [List.drop_eq_nil_of_le (by rw [hlk.out];omega),List.nil_append] at this;exact this
     clear hl hi hin;go_wp2_with fail;go_roundw
     case rel=>exact⟨k+1,l,by omega,by go_num,own,hl2,hu,hb⟩
     case measure=>simp [intOf];omega
  ·obtain rfl:k=6:=by omega
   have hall:Hid (uniqB Ls.flatten=true):=by
    have h1:=hl.out;rw [List.drop_eq_nil_of_le (by rw [hL6.out];omega),List.flatten_nil,List.append_nil] at h1;show _=_;rw [←h1];exact hu.out
   have hBw:=B3.out.below hb.out;obtain⟨hBF,hbF⟩:=hBw.row [.int .i64 0,.int .i64 0,.int .i64 0];obtain⟨wF,hwF⟩: ∃ q,wr.setRow bw (List.toArray [.int .i64 0,.int .i64 0,.int .i64 0])=q:=⟨_,rfl⟩
   rw [hwF] at hBF hbF;have h39:=b_ hup3 hb.out;have hfin:Hid (Below we.heap.size we wF):=h39.trans (hbF.below h39.size (m_ hbew.out));have hBF:=H_ hBF;rename_i q1;clear q1 hbF h39 own hl hu hb;go_wp2_with (with_reducible refine wpList_store_bx (.tmp 2) (.tmp 48) 81 (by with_reducible rfl) ?u1 ?u2 ?u3 hBw ?u4 ?u5 ?u6 hwF ?_)
   case u1=>rfl
   case u2=>rfl
   case u3=>rfl
   case u4=>kernel_rfl
   case u5=>rfl
   case u6=>rfl
   refine bodyPost_bx (s:=2) (t:=81) rfl rfl hBF.out (by kernel_rfl) (by kernel_rfl) rfl ?_;exact⟨_,_,_,rfl,by simp [hall.out],hfin.out⟩
set_option maxRecDepth 100000 in
theorem first9_any (M:WorldP) (V:WV) (we:World) (hr:RW we M V) (hf:Few M) (hsh: ∀ r∈M.routes,r.rides.length+1=r.stops.length):Calls Tryz.prog 146 #[wVal M V] we (RetW we (firstB M)):=by
 obtain⟨a0,a1,a2,a3,a4,a5,aP,aD,aR,aT,aH,n0,n1,n2,n3,n4,n5,nP,nD,nR,nT,nH,c0,c1,c2,c3,c4,c5,cP,cD,cR,cT,cH⟩:=V;have LP:Hid (M.paths.length=nP):=hr.rP.len;have LD:Hid (M.doors.length=nD):=hr.rD.len;have LR:Hid (M.routes.length=nR):=hr.rR.len;have LT:Hid (M.trips.length=nT):=hr.rT.len;have LH:Hid (M.hazs.length=nH):=hr.rH.len;have mP:nP≤100000:=by have:=hf.sP;have:=LP.out;omega
 have mD:nD≤100000:=by have:=hf.sD;have:=LD.out;omega
 have mR:nR≤100000:=by have:=hf.sR;have:=LR.out;omega
 have mT:nT≤100000:=by have:=hf.sT;have:=LT.out;omega
 have mH:nH≤100000:=by have:=hf.sH;have:=LH.out;omega
 have hfr:=H_ hf.sr;have hsp:=H_ hsh;obtain⟨hz,hhz⟩: ∃ q,M.hz=q:=⟨_,rfl⟩
 have Hhz:=H_ hhz;simp only [wVal];rw [hhz];have hb1:=below_alloc we #[.int .i64 hz,.slice a0 n0 c0,.slice a1 n1 c1,.slice a2 n2 c2,.slice a3 n3 c3,.slice a4 n4 c4,.slice a5 n5 c5,.slice aP nP cP,.slice aD nD cD,.slice aR nR cR,.slice aT nT cT,.slice aH nH cH] 31;have B1:=Bx.new we 31 [.int .i64 hz,.slice a0 n0 c0,.slice a1 n1 c1,.slice a2 n2 c2,.slice a3 n3 c3,.slice a4 n4 c4,.slice a5 n5 c5,.slice aP nP cP,.slice aD nD cD,.slice aR nR cR,.slice aT nT cT,.slice aH nH cH];obtain⟨w1,hw1⟩: ∃ q,we.alloc (.cells #[.int .i64 hz,.slice a0 n0 c0,.slice a1 n1 c1,.slice a2 n2 c2,.slice a3 n3 c3,.slice a4 n4 c4,.slice a5 n5 c5,.slice aP nP cP,.slice aD nD cD,.slice aR nR cR,.slice aT nT cT,.slice aH nH cH] 31)=q:=⟨_,rfl⟩
 change Bx (we.alloc (.cells #[.int .i64 hz,.slice a0 n0 c0,.slice a1 n1 c1,.slice a2 n2 c2,.slice a3 n3 c3,.slice a4 n4 c4,.slice a5 n5 c5,.slice aP nP cP,.slice aD nD cD,.slice aR nR cR,.slice aT nT cT,.slice aH nH cH] 31)) _ _ _ at B1;rw [hw1] at hb1 B1;have hb2:=below_alloc w1 #[.int .i64 0,.int .i64 0,.int .i64 0] 81;have B2:=Bx.new w1 81 [.int .i64 0,.int .i64 0,.int .i64 0];obtain⟨w2,hw2⟩: ∃ q,w1.alloc (.cells #[.int .i64 0,.int .i64 0,.int .i64 0] 81)=q:=⟨_,rfl⟩
 change Bx (w1.alloc (.cells #[.int .i64 0,.int .i64 0,.int .i64 0] 81)) _ _ _ at B2;rw [hw2] at hb2 B2;obtain⟨bn,hbn⟩: ∃ q,we.heap.size=q:=⟨_,rfl⟩
 obtain⟨bw,hq1⟩: ∃ q,bn+1=q:=⟨_,rfl⟩
 have hbwE:w1.heap.size=bw:=by rw [←hq1,←hbn,←hw1];simp
 rw [hbn] at B1;rw [hbwE] at B2;have hbew:Hid (we.heap.size≤bw):=by have:=hb1.size;show _≤_;omega
 have hup:Hid (Below we.heap.size we w2):=u_ hb1 hb2;have hR:=H_ (hr.below hup.out);have B3:=H_ B2;have B:=H_ (B1.below hb2);clear B1 hb1 hb2 B2 hr hf hsh hhz;go_enter Tryz.func146,Tryz.ntmps146;go_wp2_with fail;clear hw1 hw2 hbn hq1 hbwE;go_loopw [3] (fun iv wr=> ∃ i:Nat,i≤nP∧iv= .int .i64 i∧Hid ((M.paths.take i).all (fun p=>wayB p.1 p.2.1 p.2.2)=true)∧Hid (Below w2.heap.size w2 wr)) (fun iv _=>nP-(intOf iv).toNat)
 case atStart=>exact⟨0,Nat.zero_le _,rfl,rfl,Below.refl _ _⟩
 case round=>
  obtain⟨i,hi,rfl,hall,hb⟩:=hrel;have y0:=(B.out.below hb.out).cell 7 rfl;by_cases hin:i<nP
  ·have hinI:(i:Int)<(nP:Int):=by omega
   obtain⟨b,o,⟨q0,q1,q2⟩,rfl,hbs,hx0,hc0⟩:=(hR.out.below hb.out).rP.get hin;have f0:=hc0 0 _ rfl;have f1:=hc0 1 _ rfl;have f2:=hc0 2 _ rfl;simp only [Nat.add_zero] at f0;clear hc0;have hx:=H_ hx0;go_upto_region 4 with fail;refine wb_ wr.heap.size ?_;intro C hC
   repeat(go_big_quiet_step (first
    |((intro _;with_reducible rfl))
    |(intro hc;have hcw:=b_ hb hc;have m0:=(B.out.below hcw).cell 7 rfl;have m1:=c_ hc hbs f0;have m2:=c_ hc hbs f1;have m3:=c_ hc hbs f2;simp only [m0,m1,m2,m3,Result.andThen];exact⟨trivial,rfl⟩)
    |(intro hc;with_reducible refine(way_any _ _ _ _).mono ?_;rintro e w'' ⟨rfl,rfl⟩;exact⟨rfl,hc⟩)))
   refine wpQuiet_nil ?_;intro w9 hb9;clear hC;have hb9H:Hid (Below w2.heap.size w2 w9):=b_ hb hb9;clear hb9;by_cases he:wayE q0 q1 q2=0
   ·have hnx:=H_ (all_snoc (f:=(fun p=>wayB p.1 p.2.1 p.2.2)) hall.out hx.out (wayE_iff.1 he));go_wp2_with fail;go_roundw
    case rel=>exact⟨i+1,by omega,by go_num,hnx,hb9H⟩
    case measure=>simp [intOf];omega
   ·have hne:(wayE q0 q1 q2 !=0)=true:=by simp [he]
    have hno:Hid (firstB M=false):=by show _=_;unfold firstB;rw [all_not (f:=(fun p=>wayB p.1 p.2.1 p.2.2)) hx.out (Bool.eq_false_iff.2 fun h=>he (wayE_iff.2 h))];simp
    go_wp2_with fail;refine(wrong_any (wayE q0 q1 q2) 2 (i:Int) w9).mono ?_;rintro e wv ⟨rfl,hbv⟩;have hBw:=(B3.out.below hb9H.out).below hbv;obtain⟨hBF,hbF⟩:=hBw.row [.int .i64 (wayE q0 q1 q2),.int .i64 2,.int .i64 (i:Int)];obtain⟨wF,hwF⟩: ∃ q,wv.setRow bw (List.toArray [.int .i64 (wayE q0 q1 q2),.int .i64 2,.int .i64 (i:Int)])=q:=⟨_,rfl⟩
    rw [hwF] at hBF hbF;have h39:=b_ hup (u_ hb9H.out hbv);have hfin:Hid (Below we.heap.size we wF):=h39.trans (hbF.below h39.size (m_ hbew.out));have hBF:=H_ hBF;rename_i g1X;clear g1X hbF h39 hbv;go_wp2_with (with_reducible refine wpList_store_bx (.tmp 2) (.tmp 43) 81 (by with_reducible rfl) ?a1 ?a2 ?a3 hBw ?a4 ?a5 ?a6 hwF ?_)
    case a1=>rfl
    case a2=>rfl
    case a3=>rfl
    case a4=>kernel_rfl
    case a5=>rfl
    case a6=>rfl
    refine bodyPost_bx (s:=2) (t:=81) rfl rfl hBF.out (by kernel_rfl) (by kernel_rfl) rfl ?_;exact⟨_,_,_,rfl,⟨fun h=>absurd h (he),fun h=>by rw [hno.out] at h;cases h⟩,hfin.out⟩
  ·obtain rfl:nP=i:=by omega
   have KP:=H_ (all_done hall.out LP.out);have hbp:=hb;clear hall hb hi hin;obtain⟨wp,hwp⟩: ∃ q,q=wr:=⟨_,rfl⟩
   subst hwp;go_wp2_with fail;go_loopw [5] (fun iv wr=> ∃ i:Nat,i≤nD∧iv= .int .i64 i∧Hid ((M.doors.take i).all (fun d=>wayB d.a d.b d.len&&timesB d.fr d.ev d.du M.hz)=true)∧Hid (Below w2.heap.size w2 wr)) (fun iv _=>nD-(intOf iv).toNat)
   case atStart=>exact⟨0,Nat.zero_le _,rfl,rfl,hbp⟩
   case round=>
    clear y0;obtain⟨i,hi,rfl,hall,hb⟩:=hrel;have y0:=(B.out.below hb.out).cell 8 rfl;by_cases hin:i<nD
    ·have hinI:(i:Int)<(nD:Int):=by omega
     obtain⟨b,o,⟨q0,q1,q2,q3,q4,q5⟩,rfl,hbs,hx0,hc0⟩:=(hR.out.below hb.out).rD.get hin;have f0:=hc0 0 _ rfl;have f1:=hc0 1 _ rfl;have f2:=hc0 2 _ rfl;have f3:=hc0 3 _ rfl;have f4:=hc0 4 _ rfl;have f5:=hc0 5 _ rfl;simp only [Nat.add_zero] at f0;clear hc0;have hx:=H_ hx0;go_upto_region 10 with fail;refine wb_ wr.heap.size ?_;intro C hC
     repeat(go_big_quiet_step (first
      |((intro _;with_reducible rfl))
      |(intro hc;have hcw:=b_ hb hc;have m0:=(B.out.below hcw).cell 8 rfl;have m1:=c_ hc hbs f0;have m2:=c_ hc hbs f1;have m3:=c_ hc hbs f2;simp only [m0,m1,m2,m3,Result.andThen];exact⟨trivial,rfl⟩)
      |(intro hc;with_reducible refine(way_any _ _ _ _).mono ?_;rintro e w'' ⟨rfl,rfl⟩;exact⟨rfl,hc⟩)))
     refine wpQuiet_nil ?_;intro w9 hb9;clear hC;have hb9z:=hb9;have hb9H:Hid (Below w2.heap.size w2 w9):=b_ hb hb9;clear hb9;by_cases he:wayE q0 q1 q2=0
     ·have hbs2:b<w2.heap.size∨True:= .inr trivial;clear hbs2;have G3:=c_ hb9z hbs f3;have G4:=c_ hb9z hbs f4;have G5:=c_ hb9z hbs f5;have hbs9:=Nat.lt_of_lt_of_le hbs hb9z.size;clear hb9z;go_upto_region 12 with fail;refine wb_ w9.heap.size ?_;intro C hC
      repeat(go_big_quiet_step (first
       |((intro _;with_reducible rfl))
       |(intro hc;have hcw:=b_ hb9H hc;have m0:=(B.out.below hcw).cell 8 rfl;have m1:=(B.out.below hcw).cell 0 rfl;have m2:=c_ hc hbs9 G3;have m3:=c_ hc hbs9 G4;have m4:=c_ hc hbs9 G5;simp only [m0,m1,m2,m3,m4,Result.andThen];exact⟨trivial,rfl⟩)
       |(intro hc;with_reducible refine(times_any _ _ _ _ _).mono ?_;rintro e w'' ⟨rfl,hw⟩;exact⟨rfl,u_ hc hw⟩)))
      refine wpQuiet_nil ?_;intro w8 hb8;clear hC;have hb8H:Hid (Below w2.heap.size w2 w8):=b_ hb9H hb8;clear hb8;by_cases ht:timesE q3 q4 q5 hz=0
      ·have hnx:=H_ (all_snoc (f:=(fun d=>wayB d.a d.b d.len&&timesB d.fr d.ev d.du M.hz)) hall.out hx.out (by simp only [Bool.and_eq_true];exact⟨wayE_iff.1 he,by rw [Hhz.out];exact timesE_iff.1 ht⟩));go_wp2_with fail;go_roundw
       case rel=>exact⟨i+1,by omega,by go_num,hnx,hb8H⟩
       case measure=>simp [intOf];omega
      ·have hne:(timesE q3 q4 q5 hz !=0)=true:=by simp [ht]
       have hno:Hid (firstB M=false):=by show _=_;unfold firstB;rw [all_not (f:=(fun d=>wayB d.a d.b d.len&&timesB d.fr d.ev d.du M.hz)) hx.out (Bool.eq_false_iff.2 fun h=>ht (timesE_iff.2 (by simp only [Bool.and_eq_true] at h;rw [Hhz.out] at h;exact h.2)))];simp
       go_wp2_with fail;refine(wrong_any (timesE q3 q4 q5 hz) 3 (i:Int) w8).mono ?_;rintro e wv ⟨rfl,hbv⟩;have hBw:=(B3.out.below hb8H.out).below hbv;obtain⟨hBF,hbF⟩:=hBw.row [.int .i64 (timesE q3 q4 q5 hz),.int .i64 3,.int .i64 (i:Int)];obtain⟨wF,hwF⟩: ∃ q,wv.setRow bw (List.toArray [.int .i64 (timesE q3 q4 q5 hz),.int .i64 3,.int .i64 (i:Int)])=q:=⟨_,rfl⟩
       rw [hwF] at hBF hbF;have h39:=b_ hup (u_ hb8H.out hbv);have hfin:Hid (Below we.heap.size we wF):=h39.trans (hbF.below h39.size (m_ hbew.out));have hBF:=H_ hBF;rename_i g1X;clear g1X hbF h39 hbv;go_wp2_with (with_reducible refine wpList_store_bx (.tmp 2) (.tmp 85) 81 (by with_reducible rfl) ?c1 ?c2 ?c3 hBw ?c4 ?c5 ?c6 hwF ?_)
       case c1=>rfl
       case c2=>rfl
       case c3=>rfl
       case c4=>kernel_rfl
       case c5=>rfl
       case c6=>rfl
       refine bodyPost_bx (s:=2) (t:=81) rfl rfl hBF.out (by kernel_rfl) (by kernel_rfl) rfl ?_;exact⟨_,_,_,rfl,⟨fun h=>absurd h (ht),fun h=>by rw [hno.out] at h;cases h⟩,hfin.out⟩
     ·have hne:(wayE q0 q1 q2 !=0)=true:=by simp [he]
      have hne2:(wayE q0 q1 q2==0)=false:=by simp [he]
      have hno:Hid (firstB M=false):=by show _=_;unfold firstB;rw [all_not (f:=(fun d=>wayB d.a d.b d.len&&timesB d.fr d.ev d.du M.hz)) hx.out (Bool.eq_false_iff.2 fun h=>he (wayE_iff.2 (by simp only [Bool.and_eq_true] at h;exact h.1)))];simp
      go_wp2_with fail;refine(wrong_any (wayE q0 q1 q2) 3 (i:Int) w9).mono ?_;rintro e wv ⟨rfl,hbv⟩;have hBw:=(B3.out.below hb9H.out).below hbv;obtain⟨hBF,hbF⟩:=hBw.row [.int .i64 (wayE q0 q1 q2),.int .i64 3,.int .i64 (i:Int)];obtain⟨wF,hwF⟩: ∃ q,wv.setRow bw (List.toArray [.int .i64 (wayE q0 q1 q2),.int .i64 3,.int .i64 (i:Int)])=q:=⟨_,rfl⟩
      rw [hwF] at hBF hbF;have h39:=b_ hup (u_ hb9H.out hbv);have hfin:Hid (Below we.heap.size we wF):=h39.trans (hbF.below h39.size (m_ hbew.out));have hBF:=H_ hBF;rename_i g1X;clear g1X hbF h39 hbv;go_wp2_with (with_reducible refine wpList_store_bx (.tmp 2) (.tmp 85) 81 (by with_reducible rfl) ?b1 ?b2 ?b3 hBw ?b4 ?b5 ?b6 hwF ?_)
      case b1=>rfl
      case b2=>rfl
      case b3=>rfl
      case b4=>kernel_rfl
      case b5=>rfl
      case b6=>rfl
      refine bodyPost_bx (s:=2) (t:=81) rfl rfl hBF.out (by kernel_rfl) (by kernel_rfl) rfl ?_;exact⟨_,_,_,rfl,⟨fun h=>absurd h (he),fun h=>by rw [hno.out] at h;cases h⟩,hfin.out⟩
    ·obtain rfl:nD=i:=by omega
     have KD:=H_ (all_done hall.out LD.out);have hbp:=hb;clear hall hb hi hin;obtain⟨wp,hwp⟩: ∃ q,q=wr:=⟨_,rfl⟩
     subst hwp;go_wp2_with fail;go_loopw [7] (fun iv wr=> ∃ i:Nat,i≤nR∧iv= .int .i64 i∧Hid ((M.routes.take i).all routeB=true)∧Hid (Below w2.heap.size w2 wr)) (fun iv _=>nR-(intOf iv).toNat)
     case atStart=>exact⟨0,Nat.zero_le _,rfl,rfl,hbp⟩
     case round=>
      clear y0;obtain⟨i,hi,rfl,hall,hb⟩:=hrel;have y0:=(B.out.below hb.out).cell 9 rfl;by_cases hin:i<nR
      ·have hinI:(i:Int)<(nR:Int):=by omega
       obtain⟨b,o,r,rfl,hbs,hx0,⟨s1,m1,d1,f1,rs1,e11,e12⟩,⟨s2,m2,d2,f2,rs2,e21,e22⟩,⟨s3,m3,d3,f3,rs3,e31,e32⟩⟩:=(hR.out.below hb.out).rR.get hin;have hx:=H_ hx0;have hl:=hfr.out r (List.mem_of_getElem? hx0);have hsh:=hsp.out r (List.mem_of_getElem? hx0);have hrt:=H_ (route_any r s1 s2 s3 m1 m2 m3 d1 d2 d3 wr rs1 rs2 (by have:=rs1.len;omega) (by have:=rs1.len;have:=rs2.len;omega));clear rs1 rs2 rs3 e11 e12 e21 e22 e31 e32 hl hsh hx0;go_wp2_with fail;refine hrt.out.mono ?_;rintro e w9 ⟨ec,rfl,hec,hb9⟩;have hb9H:Hid (Below w2.heap.size w2 w9):=b_ hb hb9;clear hb9 hrt;have hecH:=H_ hec;clear hec;by_cases he:ec=0
       ·subst he;have hnx:=H_ (all_snoc (f:=routeB) hall.out hx.out (hecH.out.1 rfl));go_wp2_with fail;go_roundw
        case rel=>exact⟨i+1,by omega,by go_num,hnx,hb9H⟩
        case measure=>simp [intOf];omega
       ·have hne:(ec !=0)=true:=by simp [he]
        have hno:Hid (firstB M=false):=by show _=_;unfold firstB;rw [all_not (f:=routeB) hx.out (Bool.eq_false_iff.2 fun h=>he (hecH.out.2 h))];simp
        go_wp2_with fail;refine(wrong_any (ec) 4 (i:Int) w9).mono ?_;rintro e wv ⟨rfl,hbv⟩;have hBw:=(B3.out.below hb9H.out).below hbv;obtain⟨hBF,hbF⟩:=hBw.row [.int .i64 (ec),.int .i64 4,.int .i64 (i:Int)];obtain⟨wF,hwF⟩: ∃ q,wv.setRow bw (List.toArray [.int .i64 (ec),.int .i64 4,.int .i64 (i:Int)])=q:=⟨_,rfl⟩
        rw [hwF] at hBF hbF;have h39:=b_ hup (u_ hb9H.out hbv);have hfin:Hid (Below we.heap.size we wF):=h39.trans (hbF.below h39.size (m_ hbew.out));have hBF:=H_ hBF;rename_i g1X;clear g1X hbF h39 hbv;go_wp2_with (with_reducible refine wpList_store_bx (.tmp 2) (.tmp 103) 81 (by with_reducible rfl) ?d1 ?d2 ?d3 hBw ?d4 ?d5 ?d6 hwF ?_)
        case d1=>rfl
        case d2=>rfl
        case d3=>rfl
        case d4=>kernel_rfl
        case d5=>rfl
        case d6=>rfl
        refine bodyPost_bx (s:=2) (t:=81) rfl rfl hBF.out (by kernel_rfl) (by kernel_rfl) rfl ?_;exact⟨_,_,_,rfl,⟨fun h=>absurd h (he),fun h=>by rw [hno.out] at h;cases h⟩,hfin.out⟩
      ·obtain rfl:nR=i:=by omega
       have KR:=H_ (all_done hall.out LR.out);have hbp:=hb;clear hall hb hi hin;obtain⟨wp,hwp⟩: ∃ q,q=wr:=⟨_,rfl⟩
       subst hwp;go_wp2_with fail;go_loopw [9] (fun iv wr=> ∃ i:Nat,i≤nT∧iv= .int .i64 i∧Hid ((M.trips.take i).all (fun t=>decide (0≤t.route)&&decide (t.fr≤t.un))=true)∧Hid (Below w2.heap.size w2 wr)) (fun iv _=>nT-(intOf iv).toNat)
       case atStart=>exact⟨0,Nat.zero_le _,rfl,rfl,hbp⟩
       case round=>
        clear y0;obtain⟨i,hi,rfl,hall,hb⟩:=hrel;have y0:=(B.out.below hb.out).cell 10 rfl;by_cases hin:i<nT
        ·have hinI:(i:Int)<(nT:Int):=by omega
         obtain⟨b,o,⟨q0,q1,q2,q3⟩,rfl,hbs,hx0,hc0⟩:=(hR.out.below hb.out).rT.get hin;have f0:=hc0 0 _ rfl;have f1:=hc0 1 _ rfl;have f2:=hc0 2 _ rfl;have f3:=hc0 3 _ rfl;simp only [Nat.add_zero] at f0;clear hc0;have hx:=H_ hx0;have hbt:Hid (Below w2.heap.size w2 (wr.alloc (.cells #[.int .i64 q0,.int .i64 q1,.int .i64 q2,.int .i64 q3] 53))):=b_ hb (below_alloc wr _ _);by_cases h0:q0<0
         ·have hno:Hid (firstB M=false):=by show _=_;unfold firstB;rw [all_not (f:=(fun t=>decide (0≤t.route)&&decide (t.fr≤t.un))) hx.out (by simp;omega)];simp
          go_wp2_with fail;refine(wrong_any (5) 5 (i:Int) (wr.alloc (.cells #[.int .i64 q0,.int .i64 q1,.int .i64 q2,.int .i64 q3] 53))).mono ?_;rintro e wv ⟨rfl,hbv⟩;have hBw:=(B3.out.below hbt.out).below hbv;obtain⟨hBF,hbF⟩:=hBw.row [.int .i64 (5),.int .i64 5,.int .i64 (i:Int)];obtain⟨wF,hwF⟩: ∃ q,wv.setRow bw (List.toArray [.int .i64 (5),.int .i64 5,.int .i64 (i:Int)])=q:=⟨_,rfl⟩
          rw [hwF] at hBF hbF;have h39:=b_ hup (u_ hbt.out hbv);have hfin:Hid (Below we.heap.size we wF):=h39.trans (hbF.below h39.size (m_ hbew.out));have hBF:=H_ hBF;rename_i g1X;clear g1X hbF h39 hbv;go_wp2_with (with_reducible refine wpList_store_bx (.tmp 2) (.tmp 120) 81 (by with_reducible rfl) ?e1 ?e2 ?e3 hBw ?e4 ?e5 ?e6 hwF ?_)
          case e1=>rfl
          case e2=>rfl
          case e3=>rfl
          case e4=>kernel_rfl
          case e5=>rfl
          case e6=>rfl
          refine bodyPost_bx (s:=2) (t:=81) rfl rfl hBF.out (by kernel_rfl) (by kernel_rfl) rfl ?_;exact⟨_,_,_,rfl,⟨fun h=>absurd h (by decide),fun h=>by rw [hno.out] at h;cases h⟩,hfin.out⟩
         ·by_cases h1:q3<q1
          ·have hno:Hid (firstB M=false):=by show _=_;unfold firstB;rw [all_not (f:=(fun t=>decide (0≤t.route)&&decide (t.fr≤t.un))) hx.out (by simp;omega)];simp
           go_wp2_with fail;refine(wrong_any (2) 5 (i:Int) (wr.alloc (.cells #[.int .i64 q0,.int .i64 q1,.int .i64 q2,.int .i64 q3] 53))).mono ?_;rintro e wv ⟨rfl,hbv⟩;have hBw:=(B3.out.below hbt.out).below hbv;obtain⟨hBF,hbF⟩:=hBw.row [.int .i64 (2),.int .i64 5,.int .i64 (i:Int)];obtain⟨wF,hwF⟩: ∃ q,wv.setRow bw (List.toArray [.int .i64 (2),.int .i64 5,.int .i64 (i:Int)])=q:=⟨_,rfl⟩
           rw [hwF] at hBF hbF;have h39:=b_ hup (u_ hbt.out hbv);have hfin:Hid (Below we.heap.size we wF):=h39.trans (hbF.below h39.size (m_ hbew.out));have hBF:=H_ hBF;rename_i g1X;clear g1X hbF h39 hbv;go_wp2_with (with_reducible refine wpList_store_bx (.tmp 2) (.tmp 127) 81 (by with_reducible rfl) ?f1 ?f2 ?f3 hBw ?f4 ?f5 ?f6 hwF ?_)
           case f1=>rfl
           case f2=>rfl
           case f3=>rfl
           case f4=>kernel_rfl
           case f5=>rfl
           case f6=>rfl
           refine bodyPost_bx (s:=2) (t:=81) rfl rfl hBF.out (by kernel_rfl) (by kernel_rfl) rfl ?_;exact⟨_,_,_,rfl,⟨fun h=>absurd h (by decide),fun h=>by rw [hno.out] at h;cases h⟩,hfin.out⟩
          ·have hnx:=H_ (all_snoc (f:=(fun t=>decide (0≤t.route)&&decide (t.fr≤t.un))) hall.out hx.out (by simp;omega));go_wp2_with fail;go_roundw
           case rel=>exact⟨i+1,by omega,by go_num,hnx,hbt⟩
           case measure=>simp [intOf];omega
        ·obtain rfl:nT=i:=by omega
         have KT:=H_ (all_done hall.out LT.out);have hbp:=hb;clear hall hb hi hin;obtain⟨wp,hwp⟩: ∃ q,q=wr:=⟨_,rfl⟩
         subst hwp;go_wp2_with fail;go_loopw [11] (fun iv wr=> ∃ i:Nat,i≤nH∧iv= .int .i64 i∧Hid ((M.hazs.take i).all (fun h=>decide (0≤h.on)&&timesB h.fr h.ev h.du M.hz)=true)∧Hid (Below w2.heap.size w2 wr)) (fun iv _=>nH-(intOf iv).toNat)
         case atStart=>exact⟨0,Nat.zero_le _,rfl,rfl,hbp⟩
         case round=>
          clear y0;obtain⟨i,hi,rfl,hall,hb⟩:=hrel;have y0:=(B.out.below hb.out).cell 11 rfl;by_cases hin:i<nH
          ·have hinI:(i:Int)<(nH:Int):=by omega
           obtain⟨b,o,⟨q0,q1,q2,q3,q4⟩,rfl,hbs,hx0,hc0⟩:=(hR.out.below hb.out).rH.get hin;have f0:=hc0 0 _ rfl;have f1:=hc0 1 _ rfl;have f2:=hc0 2 _ rfl;have f3:=hc0 3 _ rfl;have f4:=hc0 4 _ rfl;simp only [Nat.add_zero] at f0;clear hc0;have hx:=H_ hx0;go_upto_region 32 with fail;refine wb_ wr.heap.size ?_;intro C hC
           repeat(go_big_quiet_step (first
            |((intro _;with_reducible rfl))
            |(intro hc;have hcw:=b_ hb hc;have m0:=(B.out.below hcw).cell 11 rfl;have m1:=(B.out.below hcw).cell 0 rfl;have m2:=c_ hc hbs f2;have m3:=c_ hc hbs f3;have m4:=c_ hc hbs f4;simp only [m0,m1,m2,m3,m4,Result.andThen];exact⟨trivial,rfl⟩)
            |(intro hc;with_reducible refine(times_any _ _ _ _ _).mono ?_;rintro e w'' ⟨rfl,hw⟩;exact⟨rfl,u_ hc hw⟩)))
           refine wpQuiet_nil ?_;intro w9 hb9;clear hC;have G1:=c_ hb9 hbs f1;have hb9H:Hid (Below w2.heap.size w2 w9):=b_ hb hb9;clear hb9;have z0:=(B.out.below hb9H.out).cell 11 rfl;by_cases h0:q1<0
           ·have hno:Hid (firstB M=false):=by show _=_;unfold firstB;rw [all_not (f:=(fun h=>decide (0≤h.on)&&timesB h.fr h.ev h.du M.hz)) hx.out (Bool.eq_false_iff.2 fun h=>by simp only [Bool.and_eq_true,decide_eq_true_eq] at h;omega)];simp
            go_wp2_with fail;refine(wrong_any (5) 6 (i:Int) w9).mono ?_;rintro e wv ⟨rfl,hbv⟩;have hBw:=(B3.out.below hb9H.out).below hbv;obtain⟨hBF,hbF⟩:=hBw.row [.int .i64 (5),.int .i64 6,.int .i64 (i:Int)];obtain⟨wF,hwF⟩: ∃ q,wv.setRow bw (List.toArray [.int .i64 (5),.int .i64 6,.int .i64 (i:Int)])=q:=⟨_,rfl⟩
            rw [hwF] at hBF hbF;have h39:=b_ hup (u_ hb9H.out hbv);have hfin:Hid (Below we.heap.size we wF):=h39.trans (hbF.below h39.size (m_ hbew.out));have hBF:=H_ hBF;rename_i g1X;clear g1X hbF h39 hbv;go_wp2_with (with_reducible refine wpList_store_bx (.tmp 2) (.tmp 155) 81 (by with_reducible rfl) ?g1 ?g2 ?g3 hBw ?g4 ?g5 ?g6 hwF ?_)
            case g1=>rfl
            case g2=>rfl
            case g3=>rfl
            case g4=>kernel_rfl
            case g5=>rfl
            case g6=>rfl
            refine bodyPost_bx (s:=2) (t:=81) rfl rfl hBF.out (by kernel_rfl) (by kernel_rfl) rfl ?_;exact⟨_,_,_,rfl,⟨fun h=>absurd h (by decide),fun h=>by rw [hno.out] at h;cases h⟩,hfin.out⟩
           ·by_cases ht:timesE q2 q3 q4 hz=0
            ·have hnx:=H_ (all_snoc (f:=(fun h=>decide (0≤h.on)&&timesB h.fr h.ev h.du M.hz)) hall.out hx.out (by simp only [Bool.and_eq_true,decide_eq_true_eq];exact⟨by omega,by rw [Hhz.out];exact timesE_iff.1 ht⟩));go_wp2_with fail;go_roundw
             case rel=>exact⟨i+1,by omega,by go_num,hnx,hb9H⟩
             case measure=>simp [intOf];omega
            ·have hne:(timesE q2 q3 q4 hz !=0)=true:=by simp [ht]
             have hno:Hid (firstB M=false):=by show _=_;unfold firstB;rw [all_not (f:=(fun h=>decide (0≤h.on)&&timesB h.fr h.ev h.du M.hz)) hx.out (Bool.eq_false_iff.2 fun h=>ht (timesE_iff.2 (by simp only [Bool.and_eq_true] at h;rw [Hhz.out] at h;exact h.2)))];simp
             go_wp2_with fail;refine(wrong_any (timesE q2 q3 q4 hz) 6 (i:Int) w9).mono ?_;rintro e wv ⟨rfl,hbv⟩;have hBw:=(B3.out.below hb9H.out).below hbv;obtain⟨hBF,hbF⟩:=hBw.row [.int .i64 (timesE q2 q3 q4 hz),.int .i64 6,.int .i64 (i:Int)];obtain⟨wF,hwF⟩: ∃ q,wv.setRow bw (List.toArray [.int .i64 (timesE q2 q3 q4 hz),.int .i64 6,.int .i64 (i:Int)])=q:=⟨_,rfl⟩
             rw [hwF] at hBF hbF;have h39:=b_ hup (u_ hb9H.out hbv);have hfin:Hid (Below we.heap.size we wF):=h39.trans (hbF.below h39.size (m_ hbew.out));have hBF:=H_ hBF;rename_i g1X;clear g1X hbF h39 hbv;go_wp2_with (with_reducible refine wpList_store_bx (.tmp 2) (.tmp 155) 81 (by with_reducible rfl) ?h1 ?h2 ?h3 hBw ?h4 ?h5 ?h6 hwF ?_)
             case h1=>rfl
             case h2=>rfl
             case h3=>rfl
             case h4=>kernel_rfl
             case h5=>rfl
             case h6=>rfl
             refine bodyPost_bx (s:=2) (t:=81) rfl rfl hBF.out (by kernel_rfl) (by kernel_rfl) rfl ?_;exact⟨_,_,_,rfl,⟨fun h=>absurd h (ht),fun h=>by rw [hno.out] at h;cases h⟩,hfin.out⟩
          ·obtain rfl:nH=i:=by omega
           have KH:=H_ (all_done hall.out LH.out);have hbp:=hb;clear hall hb hi hin;obtain⟨wp,hwp⟩: ∃ q,q=wr:=⟨_,rfl⟩
           subst hwp;have hyes:Hid (firstB M=true):=by show _=_;unfold firstB;rw [KP.out,KD.out,KR.out,KT.out,KH.out];rfl
           have hBw:=B3.out.below hbp.out;obtain⟨hBF,hbF⟩:=hBw.row [.int .i64 0,.int .i64 0,.int .i64 0];obtain⟨wF,hwF⟩: ∃ q,wp.setRow bw (List.toArray [.int .i64 0,.int .i64 0,.int .i64 0])=q:=⟨_,rfl⟩
           rw [hwF] at hBF hbF;have h39:=b_ hup hbp.out;have hfin:Hid (Below we.heap.size we wF):=h39.trans (hbF.below h39.size (m_ hbew.out));have hBF:=H_ hBF;clear hbF h39;go_wp2_with (with_reducible refine wpList_store_bx (.tmp 2) (.tmp 156) 81 (by with_reducible rfl) ?y1 ?y2 ?y3 hBw ?y4 ?y5 ?y6 hwF ?_)
           case y1=>rfl
           case y2=>rfl
           case y3=>rfl
           case y4=>kernel_rfl
           case y5=>rfl
           case y6=>rfl
           refine bodyPost_bx (s:=2) (t:=81) rfl rfl hBF.out (by kernel_rfl) (by kernel_rfl) rfl ?_;exact⟨_,_,_,rfl,⟨fun _=>hyes.out,fun _=>rfl⟩,hfin.out⟩
