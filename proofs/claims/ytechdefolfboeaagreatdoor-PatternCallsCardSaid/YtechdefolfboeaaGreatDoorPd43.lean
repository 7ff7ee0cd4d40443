/- Merged. -/
import Derived.Test.YtechdefolfboeaaGreatDoorPd19
import Derived.Test.YtechdefolfboeaaGreatDoorPd41
set_option linter.unusedVariables false
set_option linter.unusedSimpArgs false
set_option maxHeartbeats 4000000
namespace Go.Proofs.YtechdefolfboeaaGreatDoor
open Go.RowKit B
theorem iH_ {α:Type} {l:List α} {i:Nat} {x:α} (h:l[i]?=some x):l.drop i=x::l.drop (i+1):=by
 obtain⟨f,g⟩:=List.getElem?_eq_some_iff.1 h;rw [List.drop_eq_getElem_cons f,g]
set_option maxRecDepth 100000 in
theorem m8_ (Ls:List (List Str)) (l0 l1 l2 l3 l4 l5:List Str) (hLs:Ls=[l0,l1,l2,l3,l4,l5]) (A0 A1 A2 A3 A4 A5:Option Addr) (n0 n1 n2 n3 n4 n5 c0 c1 c2 c3 c4 c5:Nat) (we:World)
 (h0:Rd we 1 strE A0 n0 l0) (h1:Rd we 1 strE A1 n1 l1) (h2:Rd we 1 strE A2 n2 l2) (h3:Rd we 1 strE A3 n3 l3) (h4:Rd we 1 strE A4 n4 l4) (h5:Rd we 1 strE A5 n5 l5)
 (m0:n0<=100000) (m1:n1<=100000) (m2:n2<=100000) (m3:n3<=100000) (m4:n4<=100000) (m5:n5<=100000):
 Calls Tryz.prog 145 #[.agg #[.slice A0 n0 c0,.slice A1 n1 c1,.slice A2 n2 c2,.slice A3 n3 c3,.slice A4 n4 c4,.slice A5 n5 c5]] we (RetW we (bG_ Ls.flatten)):=by
 obtain⟨vs,aI⟩:=e_ ([Value.slice A0 n0 c0,.slice A1 n1 c1,.slice A2 n2 c2,.slice A3 n3 c3,.slice A4 n4 c4,.slice A5 n5 c5]);have d:=H_ aI
 have aY:Hd (∀ k,k<6 -> ∃ A n c l,vs[k]?=some (.slice A n c)/\Ls[k]?=some l/\Rd we 1 strE A n l/\n<=100000):=fun k hk=>by
  subst hLs aI
  match k,hk with
  |0,_=>exact⟨_,_,_,_,rfl,rfl,h0,m0⟩
  |1,_=>exact⟨_,_,_,_,rfl,rfl,h1,m1⟩
  |2,_=>exact⟨_,_,_,_,rfl,rfl,h2,m2⟩
  |3,_=>exact⟨_,_,_,_,rfl,rfl,h3,m3⟩
  |4,_=>exact⟨_,_,_,_,rfl,rfl,h4,m4⟩
  |5,_=>exact⟨_,_,_,_,rfl,rfl,h5,m5⟩
  |k+6,hk=>omega
 have aX:Hd (Ls.length=6):=by subst hLs;rfl
 have aN:Hd (Ls.flatten.length<=600000):=by
  subst hLs;have:=h0.len;have:=h1.len;have:=h2.len;have:=h3.len;have:=h4.len;have:=h5.len;show _<=_;simp;omega
 clear h0 h1 h2 h3 h4 h5 hLs aI;obtain⟨w1,aW,aA,B1⟩:=box0 we 24 [.slice A0 n0 c0,.slice A1 n1 c1,.slice A2 n2 c2,.slice A3 n3 c3,.slice A4 n4 c4,.slice A5 n5 c5];obtain⟨w2,bD,aB,B2⟩:=box0 w1 81 [.int .i64 0,.int .i64 0,.int .i64 0];obtain⟨bn,aD⟩:=e_ we.heap.size;obtain⟨bw,aS⟩:=e_ (bn+1);have Z:w1.heap.size=bw:=by rw [<-aS, <-aD, <-aW];simp
 rw [aD] at B1;rw [Z] at B2;have aJ:=B1.below aB;obtain⟨p0,p1,p2,p3,p4,p5⟩:=c_6 aJ;have Y:Hd (we.heap.size<=bw):=by have:=aA.size;show _<=_;omega
 have aU:Hd (Below we.heap.size we w2):=u_ aA aB;have aK:=H_ B2;clear B1 aA aB aJ B2;go_enter Tryz.func145,Tryz.ntmps145;go_wp2_with fail;refine(mo_ A0 A1 A2 A3 A4 A5 n0 n1 n2 n3 n4 n5 c0 c1 c2 c3 c4 c5 w2).mono ?_;rintro e w3 ⟨g,rfl,F,aC⟩;rw [d.o] at F;have F:=H_ F;have Q:Hd (Below we.heap.size we w3):=b_ aU aC;have B3:=H_ (aK.o.below aC);rename_i x1;clear x1 p0 p1 p2 p3 p4 p5 aW bD aD aS Z aC aU aK d
 go_wp2
 go_loopw [5,3] (fun kv v wr=> ∃ (k:Nat) (l:List Str),k<=6/\kv= .int .i64 k/\Hd (wr.ownsRow w3.heap.size 9 1 v l.length (l.flatMap strE))/\Hd (l++(Ls.drop k).flatten =Ls.flatten)/\Hd (bG_ l=true)/\Hd (Below w3.heap.size w3 wr)) (fun kv _ _=>6-(intOf kv).toNat)
 ·exact⟨0,[],by omega,rfl,World.ownsRow_nil _ _ _ _,by show _=_;simp,rfl,Below.refl _ _⟩
 ·obtain⟨k,l,hk,rfl,own,T,X,p⟩:=hrel;by_cases aZ:k<6
  ·have bH:(k:Int)<6:=by omega
   obtain⟨A,n,c,lk,aH,aM,aF,hn⟩:=aY.o k aZ;have z0:=(F.o.below p.o).cell k aH;have bA:Hd (lk.length=n):=aF.len;have aT:=H_ (aF.below Q.o)
   have aQ:Hd (l++(lk.drop 0++(Ls.drop (k+1)).flatten)=Ls.flatten):=by
    have:=T.o;rw [iH_ aM,List.flatten_cons] at this;exact this
   have bG:=F.o.lt;have aV:=H_ aH;clear T aH aM aF
   go_wp2
   go_loopw [6,3] (fun iv v wx=> ∃ (i:Nat) (l:List Str),i<=n/\iv= .int .i64 i/\Hd (wx.ownsRow w3.heap.size 9 1 v l.length (l.flatMap strE))/\Hd (l++(lk.drop i++(Ls.drop (k+1)).flatten)=Ls.flatten)/\Hd (bG_ l=true)/\Hd (Below w3.heap.size w3 wx)) (fun iv _ _=>n-(intOf iv).toNat)
   ·exact⟨0,l,Nat.zero_le _,rfl,own,aQ,X,p⟩
   ·clear own aQ X p z0;obtain⟨i,l,hi,rfl,own,T,X,p⟩:=hrel;have z0:=(F.o.below p.o).cell (v:= .slice A n c) k aV.o;by_cases aP:i<n
    ·have bE:(i:Int)<(n:Int):=by omega
     obtain⟨b,o,x,rfl,bF,hx,g0⟩:=(aT.o.below p.o).str aP;obtain⟨As,cs,hv,aG,_⟩:=Rd.of_own ad_ rfl own.o;subst hv;have G:Hd ((l++[x])++(lk.drop (i+1)++(Ls.drop (k+1)).flatten)=Ls.flatten):=by have:=T.o;rw [iH_ hx] at this;show _=_;rw [<-this];simp
     have aR:l.length+1<=600000:=by have h1:=congrArg List.length G.o;rw [List.length_append,List.length_append] at h1;simp only [List.length_singleton] at h1;have:=aN.o;omega
     have N:=H_ (fun U=>c4_ As l.length cs l x U);have D:=H_ aG;obtain⟨L,hL⟩:=e_ l.length;rw [hL] at own N D aG aR ⊢;have aL:=H_ hL;obtain⟨pi,aE⟩:=e_ (ai_ l x);rw [aE] at N;have a:=H_ aE;clear hx aG hL aE T;go_wp2_with fail;refine(N.o _ D.o (by omega)).mono ?_;rintro e wz ⟨rfl,rfl⟩;by_cases hp:0<=pi
     ·have bB:Hd (bG_ Ls.flatten=false):=by
       show _=_;have h1:=ei_.1 (by rw [a.o];exact hp:0<=ai_ l x);rw [<-G.o];refine fX_ _ _ ?_;rw [dP_,h1];simp
      go_wp2_with fail;refine(ca_ 6 ((k:Int)+1) (i:Int) wr).mono ?_;rintro e w9 ⟨rfl,q⟩;have J:=(B3.o.below p.o).below q;obtain⟨f,z⟩:=J.row [.int .i64 6,.int .i64 ((k:Int)+1),.int .i64 (i:Int)];obtain⟨wF,R⟩:=e_ (w9.setRow bw (List.toArray [.int .i64 6,.int .i64 ((k:Int)+1),.int .i64 (i:Int)]));rw [R] at f z;have j:=b_ Q (u_ p.o q);have M:Hd (Below we.heap.size we wF):=j.trans (z.below j.size (m_ Y.o));have f:=H_ f;rename_i q1;clear q1 z j own G N D q X;go_wp2_with (with_reducible refine ac_ (.tmp 2) (.tmp 37) 81 (by with_reducible rfl) ?x1 ?x2 ?x3 J ?x4 ?x5 ?x6 R ?_)
      case x1=>rfl
      case x2=>rfl
      case x3=>rfl
      case x4=>kernel_rfl
      case x5=>rfl
      case x6=>rfl
      refine ar_ (s:=2) (t:=81) rfl rfl f.o (by kernel_rfl) (by kernel_rfl) rfl ?_;exact⟨_,_,_,rfl,by simp [bB.o],M.o⟩
     ·have bC:Hd (bG_ (l++[x])=true):=by
       show _=_;rw [dP_,X.o]
       cases h1:(l.any fun y=>sq y x) with
       |false=>rfl
       |true=>exact absurd (by rw [<-a.o];exact ei_.2 h1) hp
      have r:wr.ownsRow w3.heap.size 9 1 (.slice As L cs) l.length (l.flatMap strE):=by rw [aL.o];exact own.o
      obtain⟨v9,w9,P,S,q⟩:=bI_ (enc:=strE) Tryz.underlying22 ax_ rfl (by decide) ad_ aH_ [x] r (by rw [aL.o];simp;omega) (by decide) p.o.size;have P:(Builtin.append_ #[22,22] 22 #[.slice As L cs,.slice (some ⟨wr.heap.size,0,none⟩) 1 1]).run Tryz.prog (wr.alloc (.cells #[.string x] 9))= .ok v9 w9:=P;have q:=H_ (p.o.trans q);have S:=H_ S;rename_i q1 q2 q3;clear q1 q2 q3 r own X p N D;go_wp2_with (at_builtin;refine ap_ (.tmp 38) (.tmp 46) 22 P ?_);go_roundw
      ·exact⟨i+1,l++[x],by omega,by go_num,S,G,bC,q⟩
      ·simp [intOf];omega
    ·obtain rfl:i=n:=by omega
     have G:Hd (l++(Ls.drop (k+1)).flatten =Ls.flatten):=by have:=T.o;rw [List.drop_eq_nil_of_le (by rw [bA.o];omega),List.nil_append] at this;exact this
     clear T hi aP
     go_wp2
     go_roundw
     ·exact⟨k+1,l,by omega,by go_num,own,G,X,p⟩
     ·simp [intOf];omega
  ·obtain rfl:k=6:=by omega
   have aO:Hd (bG_ Ls.flatten=true):=by
    have h1:=T.o;rw [List.drop_eq_nil_of_le (by rw [aX.o];omega),List.flatten_nil,List.append_nil] at h1;show _=_;rw [<-h1];exact X.o
   have J:=B3.o.below p.o;obtain⟨f,z⟩:=J.row [.int .i64 0,.int .i64 0,.int .i64 0];obtain⟨wF,R⟩:=e_ (wr.setRow bw (List.toArray [.int .i64 0,.int .i64 0,.int .i64 0]));rw [R] at f z;have j:=b_ Q p.o;have M:Hd (Below we.heap.size we wF):=j.trans (z.below j.size (m_ Y.o));have f:=H_ f;rename_i q1;clear q1 z j own T X p;go_wp2_with (with_reducible refine ac_ (.tmp 2) (.tmp 48) 81 (by with_reducible rfl) ?u1 ?u2 ?u3 J ?u4 ?u5 ?u6 R ?_)
   case u1=>rfl
   case u2=>rfl
   case u3=>rfl
   case u4=>kernel_rfl
   case u5=>rfl
   case u6=>rfl
   refine ar_ (s:=2) (t:=81) rfl rfl f.o (by kernel_rfl) (by kernel_rfl) rfl ?_;exact⟨_,_,_,rfl,by simp [aO.o],M.o⟩
set_option maxRecDepth 100000 in
theorem kJ_ (M:ab_) (V:WV) (we:World) (hr:RW we M V) (hf:Few M) (hsh: ∀ r∈M.routes,r.rides.length+1=r.stops.length):Calls Tryz.prog 146 #[wVal M V] we (RetW we (a3_ M)):=by
 obtain⟨a0,a1,a2,a3,a4,a5,aP,aD,aR,aT,aH,n0,n1,n2,n3,n4,n5,nP,nD,nR,nT,nH,c0,c1,c2,c3,c4,c5,cP,cD,cR,cT,cH⟩:=V;have LP:Hd (M.paths.length=nP):=hr.rP.len;have LD:Hd (M.doors.length=nD):=hr.rD.len;have LR:Hd (M.routes.length=nR):=hr.rR.len;have LT:Hd (M.trips.length=nT):=hr.rT.len;have LH:Hd (M.hazs.length=nH):=hr.rH.len;have mP:nP<=100000:=by have:=hf.sP;have:=LP.o;omega
 have mD:nD<=100000:=by have:=hf.sD;have:=LD.o;omega
 have mR:nR<=100000:=by have:=hf.sR;have:=LR.o;omega
 have mT:nT<=100000:=by have:=hf.sT;have:=LT.o;omega
 have mH:nH<=100000:=by have:=hf.sH;have:=LH.o;omega
 have bK:=H_ hf.sr;have bL:=H_ hsh;obtain⟨hz,aU⟩:=e_ M.hz;have aJ:=H_ aU;simp only [wVal];rw [aU];obtain⟨w1,bC,aO,B1⟩:=box0 we 31 [.int .i64 hz,.slice a0 n0 c0,.slice a1 n1 c1,.slice a2 n2 c2,.slice a3 n3 c3,.slice a4 n4 c4,.slice a5 n5 c5,.slice aP nP cP,.slice aD nD cD,.slice aR nR cR,.slice aT nT cT,.slice aH nH cH];obtain⟨w2,bM,aQ,B2⟩:=box0 w1 81 [.int .i64 0,.int .i64 0,.int .i64 0];obtain⟨bn,aS⟩:=e_ we.heap.size;obtain⟨bw,bA⟩:=e_ (bn+1);have aM:w1.heap.size=bw:=by rw [<-bA, <-aS, <-bC];simp
 rw [aS] at B1;rw [aM] at B2;have S:Hd (we.heap.size<=bw):=by have:=aO.size;show _<=_;omega
 have c:Hd (Below we.heap.size we w2):=u_ aO aQ;have hR:=H_ (hr.below c.o);have B3:=H_ B2;have B:=H_ (B1.below aQ);clear B1 aO aQ B2 hr hf hsh aU;go_enter Tryz.func146,Tryz.ntmps146
 go_wp2
 clear bC bM aS bA aM;go_loopw [3] (fun iv wr=> ∃ i:Nat,i<=nP/\iv= .int .i64 i/\Hd ((M.paths.take i).all (fun p=>wayB p.1 p.2.1 p.2.2)=true)/\Hd (Below w2.heap.size w2 wr)) (fun iv _=>nP-(intOf iv).toNat)
 ·exact⟨0,Nat.zero_le _,rfl,rfl,Below.refl _ _⟩
 ·obtain⟨i,hi,rfl,z,P⟩:=hrel;have y0:=(B.o.below P.o).cell 7 rfl;by_cases T:i<nP
  ·have aE:(i:Int)<(nP:Int):=by omega
   obtain⟨b,o,⟨q0,q1,Z⟩,rfl,N,Y,L⟩:=(hR.o.below P.o).rP.get T;have f0:=L 0 _ rfl;have f1:=L 1 _ rfl;have f2:=L 2 _ rfl;simp only [Nat.add_zero] at f0;clear L;have hx:=H_ Y
   go_wp2
   refine wb_ wr.heap.size ?_;intro C hC
   repeat(go_big_quiet_step (first
    |((intro _;with_reducible rfl))
    |(intro X;have k:=b_ P X;simp only [(B.o.below k).cell 7 rfl,c_ X N f0,c_ X N f1,c_ X N f2,Result.andThen];exact⟨trivial,rfl⟩)
    |(intro X;with_reducible refine(kv_ _ _ _ _).mono ?_;rintro e aW ⟨rfl,rfl⟩;exact⟨rfl,X⟩)))
   intro w9 U;clear hC;have D:Hd (Below w2.heap.size w2 w9):=b_ P U;clear U;by_cases he:wayE q0 q1 Z=0
   ·have aA:=H_ (br_ (f:=(fun p=>wayB p.1 p.2.1 p.2.2)) z.o hx.o (dZ_.1 he))
    go_wp2
    go_roundw
    ·exact⟨i+1,by omega,by go_num,aA,D⟩
    ·simp [intOf];omega
   ·have aK:(wayE q0 q1 Z !=0)=true:=by simp [he]
    have R:Hd (a3_ M=false):=by show _=_;unfold a3_;rw [bT_ (f:=(fun p=>wayB p.1 p.2.1 p.2.2)) hx.o (Bool.eq_false_iff.2 fun h=>he (dZ_.2 h))];simp
    go_wp2_with fail;refine(ca_ (wayE q0 q1 Z) 2 (i:Int) w9).mono ?_;rintro e wv ⟨rfl,y⟩;have F:=(B3.o.below D.o).below y;obtain⟨g,n⟩:=F.row [.int .i64 (wayE q0 q1 Z),.int .i64 2,.int .i64 (i:Int)];obtain⟨wF,J⟩:=e_ (wv.setRow bw (List.toArray [.int .i64 (wayE q0 q1 Z),.int .i64 2,.int .i64 (i:Int)]));rw [J] at g n;have j:=b_ c (u_ D.o y);have G:Hd (Below we.heap.size we wF):=j.trans (n.below j.size (m_ S.o));have g:=H_ g;rename_i Q;clear Q n j y;go_wp2_with (with_reducible refine ac_ (.tmp 2) (.tmp 43) 81 (by with_reducible rfl) ?a1 ?a2 ?a3 F ?a4 ?a5 ?a6 J ?_)
    case a1=>rfl
    case a2=>rfl
    case a3=>rfl
    case a4=>kernel_rfl
    case a5=>rfl
    case a6=>rfl
    refine ar_ (s:=2) (t:=81) rfl rfl g.o (by kernel_rfl) (by kernel_rfl) rfl ?_;exact⟨_,_,_,rfl,⟨fun h=>absurd h (he),fun h=>by rw [R.o] at h;cases h⟩,G.o⟩
  ·obtain rfl:nP=i:=by omega
   have KP:=H_ (cT_ z.o LP.o);have a:=P;clear z P hi T;obtain⟨wp,aB⟩: ∃ q,q=wr:=⟨_,rfl⟩
   subst aB
   go_wp2
   go_loopw [5] (fun iv wr=> ∃ i:Nat,i<=nD/\iv= .int .i64 i/\Hd ((M.doors.take i).all (fun d=>wayB d.a d.b d.len&&bq_ d.fr d.ev d.du M.hz)=true)/\Hd (Below w2.heap.size w2 wr)) (fun iv _=>nD-(intOf iv).toNat)
   ·exact⟨0,Nat.zero_le _,rfl,rfl,a⟩
   ·clear y0;obtain⟨i,hi,rfl,z,P⟩:=hrel;have y0:=(B.o.below P.o).cell 8 rfl;by_cases T:i<nD
    ·have aE:(i:Int)<(nD:Int):=by omega
     obtain⟨b,o,⟨q0,q1,Z,q3,q4,q5⟩,rfl,N,Y,L⟩:=(hR.o.below P.o).rD.get T;have f0:=L 0 _ rfl;have f1:=L 1 _ rfl;have f2:=L 2 _ rfl;have f3:=L 3 _ rfl;have f4:=L 4 _ rfl;have f5:=L 5 _ rfl;simp only [Nat.add_zero] at f0;clear L;have hx:=H_ Y
     go_wp2
     refine wb_ wr.heap.size ?_;intro C hC
     repeat(go_big_quiet_step (first
      |((intro _;with_reducible rfl))
      |(intro X;have k:=b_ P X;simp only [(B.o.below k).cell 8 rfl,c_ X N f0,c_ X N f1,c_ X N f2,Result.andThen];exact⟨trivial,rfl⟩)
      |(intro X;with_reducible refine(kv_ _ _ _ _).mono ?_;rintro e aW ⟨rfl,rfl⟩;exact⟨rfl,X⟩)))
     intro w9 U;clear hC;have aC:=U;have D:Hd (Below w2.heap.size w2 w9):=b_ P U;clear U;by_cases he:wayE q0 q1 Z=0
     ·have aY:b<w2.heap.size∨True:= .inr trivial;clear aY;have G3:=c_ aC N f3;have G4:=c_ aC N f4;have G5:=c_ aC N f5;have aG:=Nat.lt_of_lt_of_le N aC.size;clear aC
      go_wp2
      refine wb_ w9.heap.size ?_;intro C hC
      repeat(go_big_quiet_step (first
       |((intro _;with_reducible rfl))
       |(intro X;have k:=b_ D X;simp only [(B.o.below k).cell 8 rfl,(B.o.below k).cell 0 rfl,c_ X aG G3,c_ X aG G4,c_ X aG G5,Result.andThen];exact⟨trivial,rfl⟩)
       |(intro X;with_reducible refine(ik_ _ _ _ _ _).mono ?_;rintro e aW ⟨rfl,hw⟩;exact⟨rfl,u_ X hw⟩)))
      intro w8 aX;clear hC;have aF:Hd (Below w2.heap.size w2 w8):=b_ D aX;clear aX;by_cases ht:cq_ q3 q4 q5 hz=0
      ·have aA:=H_ (br_ (f:=(fun d=>wayB d.a d.b d.len&&bq_ d.fr d.ev d.du M.hz)) z.o hx.o (by simp only [Bool.and_eq_true];exact⟨dZ_.1 he,by rw [aJ.o];exact dO_.1 ht⟩))
       go_wp2
       go_roundw
       ·exact⟨i+1,by omega,by go_num,aA,aF⟩
       ·simp [intOf];omega
      ·have aK:(cq_ q3 q4 q5 hz !=0)=true:=by simp [ht]
       have R:Hd (a3_ M=false):=by show _=_;unfold a3_;rw [bT_ (f:=(fun d=>wayB d.a d.b d.len&&bq_ d.fr d.ev d.du M.hz)) hx.o (Bool.eq_false_iff.2 fun h=>ht (dO_.2 (by simp only [Bool.and_eq_true] at h;rw [aJ.o] at h;exact h.2)))];simp
       go_wp2_with fail;refine(ca_ (cq_ q3 q4 q5 hz) 3 (i:Int) w8).mono ?_;rintro e wv ⟨rfl,y⟩;have F:=(B3.o.below aF.o).below y;obtain⟨g,n⟩:=F.row [.int .i64 (cq_ q3 q4 q5 hz),.int .i64 3,.int .i64 (i:Int)];obtain⟨wF,J⟩:=e_ (wv.setRow bw (List.toArray [.int .i64 (cq_ q3 q4 q5 hz),.int .i64 3,.int .i64 (i:Int)]));rw [J] at g n;have j:=b_ c (u_ aF.o y);have G:Hd (Below we.heap.size we wF):=j.trans (n.below j.size (m_ S.o));have g:=H_ g;rename_i Q;clear Q n j y;go_wp2_with (with_reducible refine ac_ (.tmp 2) (.tmp 85) 81 (by with_reducible rfl) ?c1 ?c2 ?c3 F ?c4 ?c5 ?c6 J ?_)
       case c1=>rfl
       case c2=>rfl
       case c3=>rfl
       case c4=>kernel_rfl
       case c5=>rfl
       case c6=>rfl
       refine ar_ (s:=2) (t:=81) rfl rfl g.o (by kernel_rfl) (by kernel_rfl) rfl ?_;exact⟨_,_,_,rfl,⟨fun h=>absurd h (ht),fun h=>by rw [R.o] at h;cases h⟩,G.o⟩
     ·have aK:(wayE q0 q1 Z !=0)=true:=by simp [he]
      have bO:(wayE q0 q1 Z==0)=false:=by simp [he]
      have R:Hd (a3_ M=false):=by show _=_;unfold a3_;rw [bT_ (f:=(fun d=>wayB d.a d.b d.len&&bq_ d.fr d.ev d.du M.hz)) hx.o (Bool.eq_false_iff.2 fun h=>he (dZ_.2 (by simp only [Bool.and_eq_true] at h;exact h.1)))];simp
      go_wp2_with fail;refine(ca_ (wayE q0 q1 Z) 3 (i:Int) w9).mono ?_;rintro e wv ⟨rfl,y⟩;have F:=(B3.o.below D.o).below y;obtain⟨g,n⟩:=F.row [.int .i64 (wayE q0 q1 Z),.int .i64 3,.int .i64 (i:Int)];obtain⟨wF,J⟩:=e_ (wv.setRow bw (List.toArray [.int .i64 (wayE q0 q1 Z),.int .i64 3,.int .i64 (i:Int)]));rw [J] at g n;have j:=b_ c (u_ D.o y);have G:Hd (Below we.heap.size we wF):=j.trans (n.below j.size (m_ S.o));have g:=H_ g;rename_i Q;clear Q n j y;go_wp2_with (with_reducible refine ac_ (.tmp 2) (.tmp 85) 81 (by with_reducible rfl) ?b1 ?b2 ?b3 F ?b4 ?b5 ?b6 J ?_)
      case b1=>rfl
      case b2=>rfl
      case b3=>rfl
      case b4=>kernel_rfl
      case b5=>rfl
      case b6=>rfl
      refine ar_ (s:=2) (t:=81) rfl rfl g.o (by kernel_rfl) (by kernel_rfl) rfl ?_;exact⟨_,_,_,rfl,⟨fun h=>absurd h (he),fun h=>by rw [R.o] at h;cases h⟩,G.o⟩
    ·obtain rfl:nD=i:=by omega
     have KD:=H_ (cT_ z.o LD.o);have a:=P;clear z P hi T;obtain⟨wp,aB⟩: ∃ q,q=wr:=⟨_,rfl⟩
     subst aB
     go_wp2
     go_loopw [7] (fun iv wr=> ∃ i:Nat,i<=nR/\iv= .int .i64 i/\Hd ((M.routes.take i).all bR_=true)/\Hd (Below w2.heap.size w2 wr)) (fun iv _=>nR-(intOf iv).toNat)
     ·exact⟨0,Nat.zero_le _,rfl,rfl,a⟩
     ·clear y0;obtain⟨i,hi,rfl,z,P⟩:=hrel;have y0:=(B.o.below P.o).cell 9 rfl;by_cases T:i<nR
      ·have aE:(i:Int)<(nR:Int):=by omega
       obtain⟨b,o,r,rfl,N,Y,⟨s1,m1,d1,f1,aL,bE,bF⟩,⟨s2,m2,d2,f2,aV,bG,bH⟩,⟨s3,m3,d3,f3,bN,bI,bJ⟩⟩:=(hR.o.below P.o).rR.get T;have hx:=H_ Y;have hl:=bK.o r (List.mem_of_getElem? Y);have hsh:=bL.o r (List.mem_of_getElem? Y);have bB:=H_ (mW_ r s1 s2 s3 m1 m2 m3 d1 d2 d3 wr aL aV (by have:=aL.len;omega) (by have:=aL.len;have:=aV.len;omega));clear aL aV bN bE bF bG bH bI bJ hl hsh Y;go_wp2_with fail;refine bB.o.mono ?_;rintro e w9 ⟨ec,rfl,aZ,U⟩;have D:Hd (Below w2.heap.size w2 w9):=b_ P U;clear U bB;have aN:=H_ aZ;clear aZ;by_cases he:ec=0
       ·subst he;have aA:=H_ (br_ (f:=bR_) z.o hx.o (aN.o.1 rfl))
        go_wp2
        go_roundw
        ·exact⟨i+1,by omega,by go_num,aA,D⟩
        ·simp [intOf];omega
       ·have aK:(ec !=0)=true:=by simp [he]
        have R:Hd (a3_ M=false):=by show _=_;unfold a3_;rw [bT_ (f:=bR_) hx.o (Bool.eq_false_iff.2 fun h=>he (aN.o.2 h))];simp
        go_wp2_with fail;refine(ca_ (ec) 4 (i:Int) w9).mono ?_;rintro e wv ⟨rfl,y⟩;have F:=(B3.o.below D.o).below y;obtain⟨g,n⟩:=F.row [.int .i64 (ec),.int .i64 4,.int .i64 (i:Int)];obtain⟨wF,J⟩:=e_ (wv.setRow bw (List.toArray [.int .i64 (ec),.int .i64 4,.int .i64 (i:Int)]));rw [J] at g n;have j:=b_ c (u_ D.o y);have G:Hd (Below we.heap.size we wF):=j.trans (n.below j.size (m_ S.o));have g:=H_ g;rename_i Q;clear Q n j y;go_wp2_with (with_reducible refine ac_ (.tmp 2) (.tmp 103) 81 (by with_reducible rfl) ?d1 ?d2 ?d3 F ?d4 ?d5 ?d6 J ?_)
        case d1=>rfl
        case d2=>rfl
        case d3=>rfl
        case d4=>kernel_rfl
        case d5=>rfl
        case d6=>rfl
        refine ar_ (s:=2) (t:=81) rfl rfl g.o (by kernel_rfl) (by kernel_rfl) rfl ?_;exact⟨_,_,_,rfl,⟨fun h=>absurd h (he),fun h=>by rw [R.o] at h;cases h⟩,G.o⟩
      ·obtain rfl:nR=i:=by omega
       have KR:=H_ (cT_ z.o LR.o);have a:=P;clear z P hi T;obtain⟨wp,aB⟩: ∃ q,q=wr:=⟨_,rfl⟩
       subst aB
       go_wp2
       go_loopw [9] (fun iv wr=> ∃ i:Nat,i<=nT/\iv= .int .i64 i/\Hd ((M.trips.take i).all (fun t=>decide (0<=t.route)&&decide (t.fr<=t.un))=true)/\Hd (Below w2.heap.size w2 wr)) (fun iv _=>nT-(intOf iv).toNat)
       ·exact⟨0,Nat.zero_le _,rfl,rfl,a⟩
       ·clear y0;obtain⟨i,hi,rfl,z,P⟩:=hrel;have y0:=(B.o.below P.o).cell 10 rfl;by_cases T:i<nT
        ·have aE:(i:Int)<(nT:Int):=by omega
         obtain⟨b,o,⟨q0,q1,Z,q3⟩,rfl,N,Y,L⟩:=(hR.o.below P.o).rT.get T;have f0:=L 0 _ rfl;have f1:=L 1 _ rfl;have f2:=L 2 _ rfl;have f3:=L 3 _ rfl;simp only [Nat.add_zero] at f0;clear L;have hx:=H_ Y;have aI:Hd (Below w2.heap.size w2 (wr.alloc (.cells #[.int .i64 q0,.int .i64 q1,.int .i64 Z,.int .i64 q3] 53))):=b_ P (ag_ wr _ _);by_cases h0:q0<0
         ·have R:Hd (a3_ M=false):=by show _=_;unfold a3_;rw [bT_ (f:=(fun t=>decide (0<=t.route)&&decide (t.fr<=t.un))) hx.o (by simp;omega)];simp
          go_wp2_with fail;refine(ca_ (5) 5 (i:Int) (wr.alloc (.cells #[.int .i64 q0,.int .i64 q1,.int .i64 Z,.int .i64 q3] 53))).mono ?_;rintro e wv ⟨rfl,y⟩;have F:=(B3.o.below aI.o).below y;obtain⟨g,n⟩:=F.row [.int .i64 (5),.int .i64 5,.int .i64 (i:Int)];obtain⟨wF,J⟩:=e_ (wv.setRow bw (List.toArray [.int .i64 (5),.int .i64 5,.int .i64 (i:Int)]));rw [J] at g n;have j:=b_ c (u_ aI.o y);have G:Hd (Below we.heap.size we wF):=j.trans (n.below j.size (m_ S.o));have g:=H_ g;rename_i Q;clear Q n j y;go_wp2_with (with_reducible refine ac_ (.tmp 2) (.tmp 120) 81 (by with_reducible rfl) ?e1 ?e2 ?e3 F ?e4 ?e5 ?e6 J ?_)
          case e1=>rfl
          case e2=>rfl
          case e3=>rfl
          case e4=>kernel_rfl
          case e5=>rfl
          case e6=>rfl
          refine ar_ (s:=2) (t:=81) rfl rfl g.o (by kernel_rfl) (by kernel_rfl) rfl ?_;exact⟨_,_,_,rfl,⟨fun h=>absurd h (by decide),fun h=>by rw [R.o] at h;cases h⟩,G.o⟩
         ·by_cases h1:q3<q1
          ·have R:Hd (a3_ M=false):=by show _=_;unfold a3_;rw [bT_ (f:=(fun t=>decide (0<=t.route)&&decide (t.fr<=t.un))) hx.o (by simp;omega)];simp
           go_wp2_with fail;refine(ca_ (2) 5 (i:Int) (wr.alloc (.cells #[.int .i64 q0,.int .i64 q1,.int .i64 Z,.int .i64 q3] 53))).mono ?_;rintro e wv ⟨rfl,y⟩;have F:=(B3.o.below aI.o).below y;obtain⟨g,n⟩:=F.row [.int .i64 (2),.int .i64 5,.int .i64 (i:Int)];obtain⟨wF,J⟩:=e_ (wv.setRow bw (List.toArray [.int .i64 (2),.int .i64 5,.int .i64 (i:Int)]));rw [J] at g n;have j:=b_ c (u_ aI.o y);have G:Hd (Below we.heap.size we wF):=j.trans (n.below j.size (m_ S.o));have g:=H_ g;rename_i Q;clear Q n j y;go_wp2_with (with_reducible refine ac_ (.tmp 2) (.tmp 127) 81 (by with_reducible rfl) ?f1 ?f2 ?f3 F ?f4 ?f5 ?f6 J ?_)
           case f1=>rfl
           case f2=>rfl
           case f3=>rfl
           case f4=>kernel_rfl
           case f5=>rfl
           case f6=>rfl
           refine ar_ (s:=2) (t:=81) rfl rfl g.o (by kernel_rfl) (by kernel_rfl) rfl ?_;exact⟨_,_,_,rfl,⟨fun h=>absurd h (by decide),fun h=>by rw [R.o] at h;cases h⟩,G.o⟩
          ·have aA:=H_ (br_ (f:=(fun t=>decide (0<=t.route)&&decide (t.fr<=t.un))) z.o hx.o (by simp;omega))
           go_wp2
           go_roundw
           ·exact⟨i+1,by omega,by go_num,aA,aI⟩
           ·simp [intOf];omega
        ·obtain rfl:nT=i:=by omega
         have KT:=H_ (cT_ z.o LT.o);have a:=P;clear z P hi T;obtain⟨wp,aB⟩: ∃ q,q=wr:=⟨_,rfl⟩
         subst aB
         go_wp2
         go_loopw [11] (fun iv wr=> ∃ i:Nat,i<=nH/\iv= .int .i64 i/\Hd ((M.hazs.take i).all (fun h=>decide (0<=h.on)&&bq_ h.fr h.ev h.du M.hz)=true)/\Hd (Below w2.heap.size w2 wr)) (fun iv _=>nH-(intOf iv).toNat)
         ·exact⟨0,Nat.zero_le _,rfl,rfl,a⟩
         ·clear y0;obtain⟨i,hi,rfl,z,P⟩:=hrel;have y0:=(B.o.below P.o).cell 11 rfl;by_cases T:i<nH
          ·have aE:(i:Int)<(nH:Int):=by omega
           obtain⟨b,o,⟨q0,q1,Z,q3,q4⟩,rfl,N,Y,L⟩:=(hR.o.below P.o).rH.get T;have f0:=L 0 _ rfl;have f1:=L 1 _ rfl;have f2:=L 2 _ rfl;have f3:=L 3 _ rfl;have f4:=L 4 _ rfl;simp only [Nat.add_zero] at f0;clear L;have hx:=H_ Y
           go_wp2
           refine wb_ wr.heap.size ?_;intro C hC
           repeat(go_big_quiet_step (first
            |((intro _;with_reducible rfl))
            |(intro X;have k:=b_ P X;simp only [(B.o.below k).cell 11 rfl,(B.o.below k).cell 0 rfl,c_ X N f2,c_ X N f3,c_ X N f4,Result.andThen];exact⟨trivial,rfl⟩)
            |(intro X;with_reducible refine(ik_ _ _ _ _ _).mono ?_;rintro e aW ⟨rfl,hw⟩;exact⟨rfl,u_ X hw⟩)))
           intro w9 U;clear hC;have G1:=c_ U N f1;have D:Hd (Below w2.heap.size w2 w9):=b_ P U;clear U;have z0:=(B.o.below D.o).cell 11 rfl;by_cases h0:q1<0
           ·have R:Hd (a3_ M=false):=by show _=_;unfold a3_;rw [bT_ (f:=(fun h=>decide (0<=h.on)&&bq_ h.fr h.ev h.du M.hz)) hx.o (Bool.eq_false_iff.2 fun h=>by simp only [Bool.and_eq_true,decide_eq_true_eq] at h;omega)];simp
            go_wp2_with fail;refine(ca_ (5) 6 (i:Int) w9).mono ?_;rintro e wv ⟨rfl,y⟩;have F:=(B3.o.below D.o).below y;obtain⟨g,n⟩:=F.row [.int .i64 (5),.int .i64 6,.int .i64 (i:Int)];obtain⟨wF,J⟩:=e_ (wv.setRow bw (List.toArray [.int .i64 (5),.int .i64 6,.int .i64 (i:Int)]));rw [J] at g n;have j:=b_ c (u_ D.o y);have G:Hd (Below we.heap.size we wF):=j.trans (n.below j.size (m_ S.o));have g:=H_ g;rename_i Q;clear Q n j y;go_wp2_with (with_reducible refine ac_ (.tmp 2) (.tmp 155) 81 (by with_reducible rfl) ?g1 ?g2 ?g3 F ?g4 ?g5 ?g6 J ?_)
            case g1=>rfl
            case g2=>rfl
            case g3=>rfl
            case g4=>kernel_rfl
            case g5=>rfl
            case g6=>rfl
            refine ar_ (s:=2) (t:=81) rfl rfl g.o (by kernel_rfl) (by kernel_rfl) rfl ?_;exact⟨_,_,_,rfl,⟨fun h=>absurd h (by decide),fun h=>by rw [R.o] at h;cases h⟩,G.o⟩
           ·by_cases ht:cq_ Z q3 q4 hz=0
            ·have aA:=H_ (br_ (f:=(fun h=>decide (0<=h.on)&&bq_ h.fr h.ev h.du M.hz)) z.o hx.o (by simp only [Bool.and_eq_true,decide_eq_true_eq];exact⟨by omega,by rw [aJ.o];exact dO_.1 ht⟩))
             go_wp2
             go_roundw
             ·exact⟨i+1,by omega,by go_num,aA,D⟩
             ·simp [intOf];omega
            ·have aK:(cq_ Z q3 q4 hz !=0)=true:=by simp [ht]
             have R:Hd (a3_ M=false):=by show _=_;unfold a3_;rw [bT_ (f:=(fun h=>decide (0<=h.on)&&bq_ h.fr h.ev h.du M.hz)) hx.o (Bool.eq_false_iff.2 fun h=>ht (dO_.2 (by simp only [Bool.and_eq_true] at h;rw [aJ.o] at h;exact h.2)))];simp
             go_wp2_with fail;refine(ca_ (cq_ Z q3 q4 hz) 6 (i:Int) w9).mono ?_;rintro e wv ⟨rfl,y⟩;have F:=(B3.o.below D.o).below y;obtain⟨g,n⟩:=F.row [.int .i64 (cq_ Z q3 q4 hz),.int .i64 6,.int .i64 (i:Int)];obtain⟨wF,J⟩:=e_ (wv.setRow bw (List.toArray [.int .i64 (cq_ Z q3 q4 hz),.int .i64 6,.int .i64 (i:Int)]));rw [J] at g n;have j:=b_ c (u_ D.o y);have G:Hd (Below we.heap.size we wF):=j.trans (n.below j.size (m_ S.o));have g:=H_ g;rename_i Q;clear Q n j y;go_wp2_with (with_reducible refine ac_ (.tmp 2) (.tmp 155) 81 (by with_reducible rfl) ?h1 ?h2 ?h3 F ?h4 ?h5 ?h6 J ?_)
             case h1=>rfl
             case h2=>rfl
             case h3=>rfl
             case h4=>kernel_rfl
             case h5=>rfl
             case h6=>rfl
             refine ar_ (s:=2) (t:=81) rfl rfl g.o (by kernel_rfl) (by kernel_rfl) rfl ?_;exact⟨_,_,_,rfl,⟨fun h=>absurd h (ht),fun h=>by rw [R.o] at h;cases h⟩,G.o⟩
          ·obtain rfl:nH=i:=by omega
           have KH:=H_ (cT_ z.o LH.o);have a:=P;clear z P hi T;obtain⟨wp,aB⟩: ∃ q,q=wr:=⟨_,rfl⟩
           subst aB;have bD:Hd (a3_ M=true):=by show _=_;unfold a3_;rw [KP.o,KD.o,KR.o,KT.o,KH.o];rfl
           have F:=B3.o.below a.o;obtain⟨g,n⟩:=F.row [.int .i64 0,.int .i64 0,.int .i64 0];obtain⟨wF,J⟩:=e_ (wp.setRow bw (List.toArray [.int .i64 0,.int .i64 0,.int .i64 0]));rw [J] at g n;have j:=b_ c a.o;have G:Hd (Below we.heap.size we wF):=j.trans (n.below j.size (m_ S.o));have g:=H_ g;clear n j;go_wp2_with (with_reducible refine ac_ (.tmp 2) (.tmp 156) 81 (by with_reducible rfl) ?y1 ?y2 ?y3 F ?y4 ?y5 ?y6 J ?_)
           case y1=>rfl
           case y2=>rfl
           case y3=>rfl
           case y4=>kernel_rfl
           case y5=>rfl
           case y6=>rfl
           refine ar_ (s:=2) (t:=81) rfl rfl g.o (by kernel_rfl) (by kernel_rfl) rfl ?_;exact⟨_,_,_,rfl,⟨fun _=>bD.o,fun _=>rfl⟩,G.o⟩
