/- Merged. -/
import Derived.Test.YtechdefolfboeaaGreatDoorPd12
import Derived.Test.YtechdefolfboeaaGreatDoorPd13
set_option linter.unusedVariables false
set_option linter.unusedSimpArgs false
set_option maxRecDepth 100000
set_option maxHeartbeats 2000000
namespace Go.Proofs.YtechdefolfboeaaGreatDoor
open Go.RowKit B K
structure KB (N:Nat) (w0:World) (b:Nat) (T:TypeId) (u:List Value) (w:World):Prop where
 lo:Below N w0 w
 bx:Bx w b T u
theorem KB.closed {N:Nat} {w0:World} {b:Nat} {T:TypeId} {u:List Value} (hN:N<=w0.heap.size) (w1 w2:World) (h1:KB N w0 b T u w1) (h2:Below w1.heap.size w1 w2):KB N w0 b T u w2:=⟨h1.lo.trans (h2.mono (Nat.le_trans hN h1.lo.size)),h1.bx.below h2⟩
theorem fh_ {α:Type} {P:Program} {enc:α ->List Value} {t e:TypeId} {z:Value} {size bytes:Nat} (ht:P.underlying t=some (.slice e)) (hi:(P.info? e).map (fun i=>(i.zero,i.size,i.bytes))=some (some z,size,bytes)) (hzs:z.cells.size=size) (hsz:0<size) (hes: ∀ x,(enc x).length =size) (h1: ∀ x, ∀ u∈enc x,u.oneCell'=true)
 {base:Nat} {w:World} {v:Value} {l r:List α} {A:Option Addr} {m:Nat} (c:Nat) (hown:w.ownsRow base e size v l.length (l.flatMap enc)) (hr:Rd w size enc A m r) (hlen:l.length+m<=1099511627776) (hby:bytes<=127) (hB:base<=w.heap.size):
 ∃ v' w1,(Builtin.append_ #[t,t] t #[v,.slice A m c]).run P w= .ok v' w1/\w1.ownsRow base e size v' (l++r).length ((l++r).flatMap enc)/\Below base w w1/\ ∀ (b:Nat) (T:TypeId) (u:List Value),T≠e ->Bx w b T u ->Bx w1 b T u:=by
 obtain⟨v',w1,j,own,f,_⟩:=a9_ ht hi hzs hsz hes h1 c hown hr hlen hby hB;exact⟨v',w1,j,by rw [List.length_append,hr.len];exact own,(Below.refl _ w).grown f hB fun g q=>(hown.lt g q).1,fun b T u p n=>n.keep (f.block b n.lt fun h=>dh_ hown n p b h.symm rfl)⟩
theorem lx_ (X:ay_) (V:SV) (we:World) (hr:RS we X V) (hf:FewS X):
 Calls Tryz.prog 164 #[sVal X V] we fun e w'=> ∃ A n c,e= .returned (.slice A n c)/\Rd w' 1 strE A n (aT_ X)/\n<=c/\c<=9223372036854775807/\Below we.heap.size we w':=by
 obtain⟨a0,aP,aD,aR,aT,aH,n0,nP,nD,nR,nT,nH,c0,cP,cD,cR,cT,cH⟩:=V;have LP:Hd (X.paths.length=nP):=hr.rP.len;have LD:Hd (X.doors.length=nD):=hr.rD.len;have LR:Hd (X.routes.length=nR):=hr.rR.len;have LT:Hd (X.trips.length=nT):=hr.rT.len;have LH:Hd (X.hazs.length=nH):=hr.rH.len;have L0:Hd (X.stops.length=n0):=hr.r0.len;have aB:=H_ (fN_ hf);have mP:nP<=100000:=by have:=hf.sP;have:=LP.o;omega
 have mD:nD<=100000:=by have:=hf.sD;have:=LD.o;omega
 have mR:nR<=100000:=by have:=hf.sR;have:=LR.o;omega
 have mT:nT<=100000:=by have:=hf.sT;have:=LT.o;omega
 have mH:nH<=100000:=by have:=hf.sH;have:=LH.o;omega
 have m0:n0<=100000:=by have:=hf.s0;have:=L0.o;omega
 obtain⟨hz,bB⟩:=e_ X.hz;simp only [sVal];rw [bB];obtain⟨w1,b1,bC,aQ,bA,aW,B1,bF⟩:=cm_ we 136 [.int .i64 hz,.slice a0 n0 c0,.slice aP nP cP,.slice aD nD cD,.slice aR nR cR,.slice aT nT cT,.slice aH nH cH];have hR:=H_ (hr.below aW.o);have p0:=B1.cell 0 rfl;have p1:=B1.cell 1 rfl;have B1:=H_ B1;rename_i gX;clear gX hr hf bA;have aS:=H_ (fz_ a0 n0 c0 X.stops w1 hR.o.r0 (by omega));go_enter Tryz.func164,Tryz.ntmps164;go_wp2_with fail;refine aS.o.mono ?_;rintro e w2 ⟨v0,rfl,own,D⟩;clear bC aQ p0 p1 aS;have F:Hd (X.stops++((X.paths.drop 0).flatMap pN++(X.doors.flatMap dN++(X.routes.flatMap rN++(X.trips.flatMap tN++(X.hazs.flatMap hN++[])))))=aT_ X):=rfl;rw [<-L0.o] at own;replace own:=H_ own;replace D:=H_ D;have y2:=(B1.o.below D.o).cell 2 rfl
 go_wp2
 clear y2;go_loopw [20,3] (fun Q v wr=> ∃ (i:Nat) (l:List Str),i<=nP/\Q= .int .i64 i/\Hd (wr.ownsRow w1.heap.size 9 1 v l.length (l.flatMap strE))/\Hd (l++((X.paths.drop i).flatMap pN++(X.doors.flatMap dN++(X.routes.flatMap rN++(X.trips.flatMap tN++(X.hazs.flatMap hN++[])))))=aT_ X)/\Hd (Below w1.heap.size w1 wr)) (fun Q _ _=>nP-(intOf Q).toNat)
 ·exact⟨0,_,Nat.zero_le _,rfl,own,F,D⟩
 ·clear own F D;obtain⟨i,l,hi,rfl,own,F,D⟩:=hrel;by_cases M:i<nP
  ·have s:(i:Int)<(nP:Int):=by omega
   obtain⟨b,o,⟨R,S,x3,x4⟩,rfl,T,hx,J⟩:=((hR.o.rP).below D.o).get M;have f0:=J 0 _ rfl;have f1:=J 1 _ rfl;have f2:=J 2 _ rfl;have f3:=J 3 _ rfl;simp only [Nat.add_zero] at f0;have y:(l++[R,S,x3])++((X.paths.drop (i+1)).flatMap pN++(X.doors.flatMap dN++(X.routes.flatMap rN++(X.trips.flatMap tN++(X.hazs.flatMap hN++[])))))=aT_ X:=by rw [<-F.o,a1_ hx];simp [pN]
   have g:Hd (l.length+3<=1099511627776):=by
    have h:=congrArg List.length y;simp only [List.length_append,List.length_cons,List.length_nil] at h;have:=aB.o;show _<=_;omega
   have y:=H_ y;rename_i N;clear N hx J F;obtain⟨Z,ba,aC,a,j,G⟩:=box1 wr 171 [.string R,.string S,.string x3,.int .i64 x4];obtain⟨q0,q1,q2,q3⟩:=c_4 G;have f:=b_ D j;obtain⟨v9,w9,z,q,L⟩:=bI_ (enc:=strE) Tryz.underlying22 ax_ rfl (by decide) ad_ aH_ [R,S,x3] (aa_ own.o j) g.o (by decide) f.size;have z:(Builtin.append_ #[22,22] 22 #[u3,.slice (some ⟨Z.heap.size,0,none⟩) 3 3]).run Tryz.prog (Z.alloc (.cells #[.string R,.string S,.string x3] 9))= .ok v9 w9:=z;have P:=H_ (f.trans L);replace q:=H_ q;clear own D G f L g j;go_wp2_with (at_builtin;refine ap_ (.tmp 24) (.tmp 31) 22 z ?_);go_roundw
   ·exact⟨i+1,_,by omega,by go_num,q,y,P⟩
   ·simp [intOf];omega
  ·obtain rfl:nP=i:=by omega
   have p:=F.o;rw [List.drop_eq_nil_of_le (by rw [LP.o];omega),List.flatMap_nil,List.nil_append] at p;replace p:=H_ p;clear F;have F:=p;clear p hi M;have y3:=(B1.o.below D.o).cell 3 rfl
   go_wp2
   clear y3;go_loopw [37,3] (fun Q v wr=> ∃ (i:Nat) (l:List Str),i<=nD/\Q= .int .i64 i/\Hd (wr.ownsRow w1.heap.size 9 1 v l.length (l.flatMap strE))/\Hd (l++((X.doors.drop i).flatMap dN++(X.routes.flatMap rN++(X.trips.flatMap tN++(X.hazs.flatMap hN++[]))))=aT_ X)/\Hd (Below w1.heap.size w1 wr)) (fun Q _ _=>nD-(intOf Q).toNat)
   ·exact⟨0,_,Nat.zero_le _,rfl,own,F,D⟩
   ·clear own F D;obtain⟨i,l,hi,rfl,own,F,D⟩:=hrel;by_cases M:i<nD
    ·have s:(i:Int)<(nD:Int):=by omega
     obtain⟨b,o,⟨R,S,x3,x4,x5,x6,x7⟩,rfl,T,hx,J⟩:=((hR.o.rD).below D.o).get M;have f0:=J 0 _ rfl;have f1:=J 1 _ rfl;have f2:=J 2 _ rfl;have f3:=J 3 _ rfl;have f4:=J 4 _ rfl;have f5:=J 5 _ rfl;have f6:=J 6 _ rfl;simp only [Nat.add_zero] at f0;have y:(l++[R,S,x3])++((X.doors.drop (i+1)).flatMap dN++(X.routes.flatMap rN++(X.trips.flatMap tN++(X.hazs.flatMap hN++[]))))=aT_ X:=by rw [<-F.o,a1_ hx];simp [dN]
     have g:Hd (l.length+3<=1099511627776):=by
      have h:=congrArg List.length y;simp only [List.length_append,List.length_cons,List.length_nil] at h;have:=aB.o;show _<=_;omega
     have y:=H_ y;rename_i N;clear N hx J F;obtain⟨Z,ba,aC,a,j,G⟩:=box1 wr 173 [.string R,.string S,.string x3,.int .i64 x4,.int .i64 x5,.int .i64 x6,.int .i64 x7];obtain⟨q0,q1,q2,q3,q4,q5,q6⟩:=c_7 G;have f:=b_ D j;obtain⟨v9,w9,z,q,L⟩:=bI_ (enc:=strE) Tryz.underlying22 ax_ rfl (by decide) ad_ aH_ [R,S,x3] (aa_ own.o j) g.o (by decide) f.size;have z:(Builtin.append_ #[22,22] 22 #[u3,.slice (some ⟨Z.heap.size,0,none⟩) 3 3]).run Tryz.prog (Z.alloc (.cells #[.string R,.string S,.string x3] 9))= .ok v9 w9:=z;have P:=H_ (f.trans L);replace q:=H_ q;clear own D G f L g j;go_wp2_with (at_builtin;refine ap_ (.tmp 41) (.tmp 48) 22 z ?_);go_roundw
     ·exact⟨i+1,_,by omega,by go_num,q,y,P⟩
     ·simp [intOf];omega
    ·obtain rfl:nD=i:=by omega
     have p:=F.o;rw [List.drop_eq_nil_of_le (by rw [LD.o];omega),List.flatMap_nil,List.nil_append] at p;replace p:=H_ p;clear F;have F:=p;clear p hi M;have y4:=(B1.o.below D.o).cell 4 rfl
     go_wp2
     clear y4;go_loopw [54,3] (fun Q v wr=> ∃ (i:Nat) (l:List Str),i<=nR/\Q= .int .i64 i/\Hd (wr.ownsRow w1.heap.size 9 1 v l.length (l.flatMap strE))/\Hd (l++((X.routes.drop i).flatMap rN++(X.trips.flatMap tN++(X.hazs.flatMap hN++[])))=aT_ X)/\Hd (Below w1.heap.size w1 wr)) (fun Q _ _=>nR-(intOf Q).toNat)
     ·exact⟨0,_,Nat.zero_le _,rfl,own,F,D⟩
     ·clear own F D;obtain⟨i,l,hi,rfl,own,F,D⟩:=hrel;by_cases M:i<nR
      ·have s:(i:Int)<(nR:Int):=by omega
       obtain⟨b,o,r,rfl,T,hx,f0,⟨s1,m1,d1,f1,aM,_,_⟩,⟨s2,m2,d2,f2,bD,_,_⟩,⟨s3,m3,d3,f3,bE,_,_⟩⟩:=hR.o.rR.get M;replace f0:=c_ D.o T f0;replace f1:=c_ D.o T f1;replace f2:=c_ D.o T f2;replace f3:=c_ D.o T f3;have y:(l++[r.name]++r.stops)++((X.routes.drop (i+1)).flatMap rN++(X.trips.flatMap tN++(X.hazs.flatMap hN++[])))=aT_ X:=by rw [<-F.o,a1_ hx];simp [rN]
       have g:Hd (l.length+1+m1<=1099511627776):=by
        have h:=congrArg List.length y;simp only [List.length_append,List.length_cons,List.length_nil] at h;have:=aB.o;have:=aM.len;show _<=_;omega
       have y:=H_ y;rename_i N;clear N hx F bD bE;obtain⟨Z,ba,aC,a,j,G⟩:=box1 wr 177 [.string r.name,.slice s1 m1 d1,.slice s2 m2 d2,.slice s3 m3 d3];obtain⟨q0,q1,q2,q3⟩:=c_4 G;have f:=b_ D j;have aX:=H_ (aa_ own.o j);have aN:=H_ G;have aI:=H_ f;have R1:=H_ aM;clear own D j aM f G
       go_wp2
       refine dS_ (KB w1.heap.size Z ba 177 [.string r.name,.slice s1 m1 d1,.slice s2 m2 d2,.slice s3 m3 d3]) [0,0,0,2,3,0,0,2,2] (by kernel_rfl) (by kernel_rfl) ⟨⟨rfl,rfl,rfl,Nat.le_refl _,fun _ _=>rfl⟩,aN.o⟩ (KB.closed aI.o.size) ?_;intro C hC;simp only [af_,aV_,Nat.reduceLeDiff,Nat.reduceEqDiff, ↓reduceIte]
       repeat(go_big_quiet_step (first
        |(intro _;with_reducible rfl)
        |(intro J;simp only [J.bx.cell 0 rfl,J.bx.cell 1 rfl,Result.andThen];exact⟨trivial,rfl⟩)))
       clear hC;intro C' aZ;clear aZ;intro wq aA;replace aA:Below Z.heap.size Z wq:=by rw [aA];exact⟨rfl,rfl,rfl,Nat.le_refl _,fun _ _=>rfl⟩
       have Bq:Bx wq ba 177 [.string r.name,.slice s1 m1 d1,.slice s2 m2 d2,.slice s3 m3 d3]:=aN.o.below aA;have aF:=aa_ aX.o aA;have d:=b_ aI aA;obtain⟨wl,aK⟩:=e_ (wq.alloc (.cells ([r.name].flatMap strE).toArray 9));have bG:wq.alloc (.cells #[.string r.name] 9)=wl:=aK;have U:=ag_ wq ([r.name].flatMap strE).toArray 9;have aL:=Rd.lit wq 1 strE ad_ 9 [r.name];rw [aK] at U aL;obtain⟨v8,w8,Y,aE,aG,aO⟩:=fh_ (enc:=strE) Tryz.underlying22 ax_ rfl (by decide) ad_ aH_ 1 (aa_ aF U) aL (by have:=g.o;simp only [List.length_cons,List.length_nil];omega) (by decide) (Nat.le_trans d.size U.size);have aY:=H_ (aO _ _ _ (by decide) (Bq.below U));have k:=(u_ d U).trans aG;obtain⟨v9,w9,aJ,q,L,_⟩:=fh_ (enc:=strE) Tryz.underlying22 ax_ rfl (by decide) ad_ aH_ d1 aE (R1.o.below k) (by have:=g.o;rw [List.length_append];simp only [List.length_cons,List.length_nil];omega) (by decide) k.size
       have Y:(Builtin.append_ #[22,22] 22 #[u3,.slice (some ⟨wq.heap.size,0,none⟩) 1 1]).run Tryz.prog wl= .ok v8 w8:=Y;have aU:=H_ (((aA.mono aI.o.size).trans (U.mono d.size)).trans aG);have P:=H_ (k.trans L);replace q:=H_ q;clear aF aE aG L aO Bq aL d k aK U g;refine as_ (by decide) ?_;go_wp2_with fail;refine⟨fun h=>absurd h (by decide),?_⟩;refine as_ (by decide) ?_;go_wp2_with (at_builtin;refine ap_ (.tmp 58) (.tmp 61) 22 Y ?_);refine⟨fun _=>⟨aU.o,aY.o⟩,?_⟩;refine aM_ _ _ _ (by simp) ?_;simp only [List.map_cons,List.map_nil];go_wp2_with (at_builtin;refine ap_ (.tmp 62) (.tmp 64) 22 aJ ?_);go_roundw
       ·exact⟨i+1,_,by omega,by go_num,q,y,P⟩
       ·simp [intOf];omega
      ·obtain rfl:nR=i:=by omega
       have p:=F.o;rw [List.drop_eq_nil_of_le (by rw [LR.o];omega),List.flatMap_nil,List.nil_append] at p;replace p:=H_ p;clear F;have F:=p;clear p hi M;have y5:=(B1.o.below D.o).cell 5 rfl
       go_wp2
       clear y5;go_loopw [70,3] (fun Q v wr=> ∃ (i:Nat) (l:List Str),i<=nT/\Q= .int .i64 i/\Hd (wr.ownsRow w1.heap.size 9 1 v l.length (l.flatMap strE))/\Hd (l++((X.trips.drop i).flatMap tN++(X.hazs.flatMap hN++[]))=aT_ X)/\Hd (Below w1.heap.size w1 wr)) (fun Q _ _=>nT-(intOf Q).toNat)
       ·exact⟨0,_,Nat.zero_le _,rfl,own,F,D⟩
       ·clear own F D;obtain⟨i,l,hi,rfl,own,F,D⟩:=hrel;by_cases M:i<nT
        ·have s:(i:Int)<(nT:Int):=by omega
         obtain⟨b,o,⟨R,S,x3,x4,x5⟩,rfl,T,hx,J⟩:=((hR.o.rT).below D.o).get M;have f0:=J 0 _ rfl;have f1:=J 1 _ rfl;have f2:=J 2 _ rfl;have f3:=J 3 _ rfl;have f4:=J 4 _ rfl;simp only [Nat.add_zero] at f0;have y:(l++[R,S])++((X.trips.drop (i+1)).flatMap tN++(X.hazs.flatMap hN++[]))=aT_ X:=by rw [<-F.o,a1_ hx];simp [tN]
         have g:Hd (l.length+2<=1099511627776):=by
          have h:=congrArg List.length y;simp only [List.length_append,List.length_cons,List.length_nil] at h;have:=aB.o;show _<=_;omega
         have y:=H_ y;rename_i N;clear N hx J F;obtain⟨Z,ba,aC,a,j,G⟩:=box1 wr 179 [.string R,.string S,.int .i64 x3,.int .i64 x4,.int .i64 x5];obtain⟨q0,q1,q2,q3,q4⟩:=c_5 G;have f:=b_ D j;obtain⟨v9,w9,z,q,L⟩:=bI_ (enc:=strE) Tryz.underlying22 ax_ rfl (by decide) ad_ aH_ [R,S] (aa_ own.o j) g.o (by decide) f.size;have z:(Builtin.append_ #[22,22] 22 #[u3,.slice (some ⟨Z.heap.size,0,none⟩) 2 2]).run Tryz.prog (Z.alloc (.cells #[.string R,.string S] 9))= .ok v9 w9:=z;have P:=H_ (f.trans L);replace q:=H_ q;clear own D G f L g j;go_wp2_with (at_builtin;refine ap_ (.tmp 74) (.tmp 79) 22 z ?_);go_roundw
         ·exact⟨i+1,_,by omega,by go_num,q,y,P⟩
         ·simp [intOf];omega
        ·obtain rfl:nT=i:=by omega
         have p:=F.o;rw [List.drop_eq_nil_of_le (by rw [LT.o];omega),List.flatMap_nil,List.nil_append] at p;replace p:=H_ p;clear F;have F:=p;clear p hi M;have y6:=(B1.o.below D.o).cell 6 rfl
         go_wp2
         clear y6;go_loopw [85,3] (fun Q v wr=> ∃ (i:Nat) (l:List Str),i<=nH/\Q= .int .i64 i/\Hd (wr.ownsRow w1.heap.size 9 1 v l.length (l.flatMap strE))/\Hd (l++((X.hazs.drop i).flatMap hN++([]))=aT_ X)/\Hd (Below w1.heap.size w1 wr)) (fun Q _ _=>nH-(intOf Q).toNat)
         ·exact⟨0,_,Nat.zero_le _,rfl,own,F,D⟩
         ·clear own F D;obtain⟨i,l,hi,rfl,own,F,D⟩:=hrel;by_cases M:i<nH
          ·have s:(i:Int)<(nH:Int):=by omega
           obtain⟨b,o,⟨R,S,x3,x4,x5⟩,rfl,T,hx,J⟩:=((hR.o.rH).below D.o).get M;have f0:=J 0 _ rfl;have f1:=J 1 _ rfl;have f2:=J 2 _ rfl;have f3:=J 3 _ rfl;have f4:=J 4 _ rfl;simp only [Nat.add_zero] at f0;have y:(l++[R,S])++((X.hazs.drop (i+1)).flatMap hN++([]))=aT_ X:=by rw [<-F.o,a1_ hx];simp [hN]
           have g:Hd (l.length+2<=1099511627776):=by
            have h:=congrArg List.length y;simp only [List.length_append,List.length_cons,List.length_nil] at h;have:=aB.o;show _<=_;omega
           have y:=H_ y;rename_i N;clear N hx J F;obtain⟨Z,ba,aC,a,j,G⟩:=box1 wr 181 [.string R,.string S,.int .i64 x3,.int .i64 x4,.int .i64 x5];obtain⟨q0,q1,q2,q3,q4⟩:=c_5 G;have f:=b_ D j;obtain⟨v9,w9,z,q,L⟩:=bI_ (enc:=strE) Tryz.underlying22 ax_ rfl (by decide) ad_ aH_ [R,S] (aa_ own.o j) g.o (by decide) f.size;have z:(Builtin.append_ #[22,22] 22 #[u3,.slice (some ⟨Z.heap.size,0,none⟩) 2 2]).run Tryz.prog (Z.alloc (.cells #[.string R,.string S] 9))= .ok v9 w9:=z;have P:=H_ (f.trans L);replace q:=H_ q;clear own D G f L g j;go_wp2_with (at_builtin;refine ap_ (.tmp 89) (.tmp 94) 22 z ?_);go_roundw
           ·exact⟨i+1,_,by omega,by go_num,q,y,P⟩
           ·simp [intOf];omega
          ·obtain rfl:nH=i:=by omega
           have p:=F.o;rw [List.drop_eq_nil_of_le (by rw [LH.o];omega),List.flatMap_nil,List.nil_append] at p;replace p:=H_ p;clear F;have F:=p;clear p hi M
           go_wp2
           go_returns;obtain⟨A,c,rfl,r1,r2,r3⟩:=Rd.of_own ad_ rfl own.o;have aV:=F.o;rw [List.append_nil] at aV;subst aV;exact⟨A,_,c,rfl,r1,r2,r3,b_ aW D.o⟩
structure KB2 (N:Nat) (w0:World) (b:Nat) (T:TypeId) (u:List Value) (b':Nat) (T':TypeId) (u':List Value) (w:World):Prop where
 lo:Below N w0 w
 bx:Bx w b T u
 by':Bx w b' T' u'
theorem KB2.closed {N:Nat} {w0:World} {b:Nat} {T:TypeId} {u:List Value} {b':Nat} {T':TypeId} {u':List Value} (hN:N<=w0.heap.size) (w1 w2:World) (h1:KB2 N w0 b T u b' T' u' w1) (h2:Below w1.heap.size w1 w2):KB2 N w0 b T u b' T' u' w2:=⟨h1.lo.trans (h2.mono (Nat.le_trans hN h1.lo.size)),h1.bx.below h2,h1.by'.below h2⟩
structure NS (w1:World) (bt:Nat) (v:Value) (l:List Int) (w:World):Prop where
 bx:Bx w bt 45 [v]
 own:w.ownsRow w1.heap.size 2 1 v l.length (l.flatMap (numE .i64))
 bel:Below w1.heap.size w1 w
 ge:w1.heap.size<=bt
theorem NS.below {w1 w w':World} {bt:Nat} {v:Value} {l:List Int} (h:NS w1 bt v l w) (k:Below w.heap.size w w'):NS w1 bt v l w':=⟨h.bx.below k,aa_ h.own k,u_ h.bel k,h.ge⟩
theorem NS.lits {w1 w:World} {bt:Nat} {v:Value} {l:List Int} (h:NS w1 bt v l w) (xs:List Int) (hl:l.length+xs.length<=1099511627776): ∃ W1 W2 W3 A c,w.alloc (.cells (xs.flatMap (numE .i64)).toArray 2)=W1/\W2.setCell ⟨bt,0,none⟩ (.slice A (l.length+xs.length) c)=W3/\Bx W2 bt 45 [v]/\
 (Builtin.append_ #[45,45] 45 #[v,.slice (some ⟨w.heap.size,0,none⟩) xs.length xs.length]).run Tryz.prog W1= .ok (.slice A (l.length+xs.length) c) W2/\NS w1 bt (.slice A (l.length+xs.length) c) (l++xs) W3/\ ∀ (b:Nat) (T':TypeId) (u:List Value),T'≠2 ->b≠bt ->Bx w b T' u ->Bx W3 b T' u:=by
 obtain⟨W1,W2,W3,va,vb,y,z,D,n,p,F,_,g,G,⟨A,c,j⟩,q⟩:=pE_ (enc:=numE .i64) Tryz.underlying45 bc_ rfl (by decide) aj_ bw_ (by decide) (f:=0) (T:=45) xs (by decide) h.bx h.own rfl hl h.bel.size h.ge;subst j z;exact⟨W1,W2,W3,A,c,y,D,n,g,⟨p,by rw [List.length_append];exact G,h.bel.trans F,h.ge⟩,q⟩
theorem hn_ (w1:World) (bt:Nat) (v:Value) (l:List Int) (f e d:Int) (w:World) (h:NS w1 bt v l w) (hl:l.length+3<=1099511627776):
 Calls Tryz.prog 233 #[.agg #[.int .i64 f,.int .i64 e,.int .i64 d],.pointer (some ⟨bt,0,none⟩)] w fun r w'=>(∃ q,r= .returned q)/\ ∃ v',NS w1 bt v' (l++[f,e,d]) w':=by
 obtain⟨J,ba,aB,aA,j,n⟩:=box1 w 102 [.int .i64 f,.int .i64 e,.int .i64 d];obtain⟨q0,q1,q2⟩:=c_3 n;have z:=h.below j;have p0:=z.bx.cell 0 rfl;obtain⟨W1,D,L,A,c,M,G,p,g,F,_⟩:=z.lits [f,e,d] hl;have y:=H_ F;have v5:=p.cell 0 rfl;have v6:=p.frozen 0;subst M;have G:D.setCell ⟨bt,0,none⟩ (.slice A (l.length+3) c)=L:=G;have g:(Builtin.append_ #[45,45] 45 #[v,.slice (some ⟨J.heap.size,0,none⟩) 3 3]).run Tryz.prog (J.alloc (.cells #[.int .i64 f,.int .i64 e,.int .i64 d] 2))= .ok (.slice A (l.length+3) c) D:=g;clear h F z p n j;go_enter Tryz.func233,Tryz.ntmps233;go_wp2_with (at_builtin;refine ap_ (.tmp 3) (.tmp 10) 45 g ?_);refine bodyPost_end (results_none rfl _ _ _) rfl ?_;exact⟨⟨_,rfl⟩,_,y.o⟩
theorem m4_ (X:ay_) (V:SV) (we:World) (hr:RS we X V) (hf:FewS X):
 Calls Tryz.prog 168 #[sVal X V] we fun e w'=> ∃ A n c,e= .returned (.slice A n c)/\Rd w' 1 (numE .i64) A n (aU_ X)/\n<=c/\c<=9223372036854775807/\Below we.heap.size we w':=by
 obtain⟨a0,aP,aD,aR,aT,aH,n0,nP,nD,nR,nT,nH,c0,cP,cD,cR,cT,cH⟩:=V;have LP:Hd (X.paths.length=nP):=hr.rP.len;have LD:Hd (X.doors.length=nD):=hr.rD.len;have LR:Hd (X.routes.length=nR):=hr.rR.len;have LT:Hd (X.trips.length=nT):=hr.rT.len;have LH:Hd (X.hazs.length=nH):=hr.rH.len;have L0:Hd (X.stops.length=n0):=hr.r0.len;have aE:=H_ (gz_ hf);have mP:nP<=100000:=by have:=hf.sP;have:=LP.o;omega
 have mD:nD<=100000:=by have:=hf.sD;have:=LD.o;omega
 have mR:nR<=100000:=by have:=hf.sR;have:=LR.o;omega
 have mT:nT<=100000:=by have:=hf.sT;have:=LT.o;omega
 have mH:nH<=100000:=by have:=hf.sH;have:=LH.o;omega
 have m0:n0<=100000:=by have:=hf.s0;have:=L0.o;omega
 obtain⟨hz,aV⟩:=e_ X.hz;simp only [sVal];rw [aV];obtain⟨w1,b1,bO,bD,bM,bI,B1,bQ⟩:=cm_ we 136 [.int .i64 hz,.slice a0 n0 c0,.slice aP nP cP,.slice aD nD cD,.slice aR nR cR,.slice aT nT cT,.slice aH nH cH];have hR:=H_ (hr.below bI.o);have p0:=B1.cell 0 rfl;have p1:=B1.cell 1 rfl;have B1:=H_ B1;rename_i gX;clear gX hr hf bM
 have aQ:Hd (NS w1 (w1.heap.size+1) (.slice (some ⟨w1.heap.size,0,none⟩) 1 1) [hz] ((w1.alloc (.cells #[.int .i64 hz] 2)).alloc (.cells #[.slice (some ⟨w1.heap.size,0,none⟩) 1 1] 45))):=by
  have h2:=Bx.new (w1.alloc (.cells #[.int .i64 hz] 2)) 45 [.slice (some ⟨w1.heap.size,0,none⟩) 1 1];have bN:(w1.alloc (.cells #[.int .i64 hz] 2)).heap.size =w1.heap.size+1:=by simp
  rw [bN] at h2;have h0:=ag_ w1 #[.int .i64 hz] 2;have h1:=ag_ (w1.alloc (.cells #[.int .i64 hz] 2)) #[.slice (some ⟨w1.heap.size,0,none⟩) 1 1] 45;exact⟨h2,aa_ (n9_ w1 w1.heap.size 2 (.int .i64 hz) (Nat.le_refl _)) h1,u_ h0 h1,Nat.le_succ _⟩
 obtain⟨U,aU⟩:=e_ (w1.heap.size+1);obtain⟨wl,aX⟩:=e_ (w1.alloc (.cells #[.int .i64 hz] 2));have bJ:wl.heap.size=U:=by rw [<-aX, <-aU];simp
 obtain⟨wt,bK⟩:=e_ (wl.alloc (.cells #[.slice (some ⟨w1.heap.size,0,none⟩) 1 1] 45));rw [aX,bK,aU] at aQ;have F:Hd ([hz]++((X.paths.drop 0).flatMap pI++(X.doors.flatMap dI++(X.routes.flatMap rI++(X.trips.flatMap tI++(X.hazs.flatMap hI++[])))))=aU_ X):=by show _=_;unfold aU_;rw [aV];rfl
 go_enter Tryz.func168,Tryz.ntmps168;have D:=aQ;go_upto_region 3 with fail;clear bO bD p0 p1 aQ aV aX bK aU bJ;have y2:=(B1.o.below D.o.bel).cell 2 rfl
 go_wp2
 clear y2;go_loopw [22] (fun T wr=> ∃ (i:Nat) (v:Value) (l:List Int),i<=nP/\T= .int .i64 i/\Hd (l++((X.paths.drop i).flatMap pI++(X.doors.flatMap dI++(X.routes.flatMap rI++(X.trips.flatMap tI++(X.hazs.flatMap hI++[])))))=aU_ X)/\Hd (NS w1 U v l wr)) (fun T _=>nP-(intOf T).toNat)
 ·exact⟨0,_,_,Nat.zero_le _,rfl,F,D⟩
 ·clear F D;obtain⟨i,v,l,hi,rfl,F,hN⟩:=hrel;have D:=H_ hN.o.bel;by_cases N:i<nP
  ·have k:(i:Int)<(nP:Int):=by omega
   obtain⟨b,o,⟨x1,x2,x3,Y⟩,rfl,Z,s,M⟩:=((hR.o.rP).below D.o).get N;have f0:=M 0 _ rfl;have f1:=M 1 _ rfl;have f2:=M 2 _ rfl;have f3:=M 3 _ rfl;simp only [Nat.add_zero] at f0;have j:(l++[Y])++((X.paths.drop (i+1)).flatMap pI++(X.doors.flatMap dI++(X.routes.flatMap rI++(X.trips.flatMap tI++(X.hazs.flatMap hI++[])))))=aU_ X:=by rw [<-F.o,a1_ s];simp [pI]
   have f:Hd (l.length+1<=1099511627776):=by
    have h:=congrArg List.length j;simp only [List.length_append,List.length_cons,List.length_nil] at h;have:=aE.o;show _<=_;omega
   have j:=H_ j;rename_i P;clear P s M F;obtain⟨wa,ba,aL,R,z,L⟩:=box1 wr 171 [.string x1,.string x2,.string x3,.int .i64 Y];obtain⟨q0,q1,q2,q3⟩:=c_4 L;have G:=hN.o.below z;have p9:=G.bx.cell 0 rfl;clear z L hN D;obtain⟨W1,W2,W3,A9,c9,k1,k3,Q,J,p,aA⟩:=G.lits [Y] (by have:=f.o;simp only [List.length_cons,List.length_nil];omega);replace p:=H_ p;have v5:=Q.cell 0 rfl;have v6:=Q.frozen 0;subst k1;have k3:W2.setCell ⟨U,0,none⟩ (.slice A9 (l.length+1) c9)=W3:=k3;have J:(Builtin.append_ #[45,45] 45 #[v,.slice (some ⟨wa.heap.size,0,none⟩) 1 1]).run Tryz.prog (wa.alloc (.cells #[.int .i64 Y] 2))= .ok (.slice A9 (l.length+1) c9) W2:=J;clear Q;clear G f aA;go_wp2_with (at_builtin;refine ap_ (.tmp 26) (.tmp 29) 45 J ?_);go_roundw
   ·exact⟨i+1,_,_,by omega,by go_num,j,p⟩
   ·simp [intOf];omega
  ·obtain rfl:nP=i:=by omega
   have g:=F.o;clear D;have D:=hN;clear hN;rw [List.drop_eq_nil_of_le (by rw [LP.o];omega),List.flatMap_nil,List.nil_append] at g;replace g:=H_ g;clear F;have F:=g;clear g hi N;have y3:=(B1.o.below D.o.bel).cell 3 rfl
   go_wp2
   clear y3;go_loopw [35] (fun T wr=> ∃ (i:Nat) (v:Value) (l:List Int),i<=nD/\T= .int .i64 i/\Hd (l++((X.doors.drop i).flatMap dI++(X.routes.flatMap rI++(X.trips.flatMap tI++(X.hazs.flatMap hI++[]))))=aU_ X)/\Hd (NS w1 U v l wr)) (fun T _=>nD-(intOf T).toNat)
   ·exact⟨0,_,_,Nat.zero_le _,rfl,F,D⟩
   ·clear F D;obtain⟨i,v,l,hi,rfl,F,hN⟩:=hrel;have D:=H_ hN.o.bel;by_cases N:i<nD
    ·have k:(i:Int)<(nD:Int):=by omega
     obtain⟨b,o,⟨x1,x2,x3,Y,x5,x6,x7⟩,rfl,Z,s,M⟩:=((hR.o.rD).below D.o).get N;have f0:=M 0 _ rfl;have f1:=M 1 _ rfl;have f2:=M 2 _ rfl;have f3:=M 3 _ rfl;have f4:=M 4 _ rfl;have f5:=M 5 _ rfl;have f6:=M 6 _ rfl;simp only [Nat.add_zero] at f0;have j:(l++[Y,x5,x6,x7])++((X.doors.drop (i+1)).flatMap dI++(X.routes.flatMap rI++(X.trips.flatMap tI++(X.hazs.flatMap hI++[]))))=aU_ X:=by rw [<-F.o,a1_ s];simp [dI]
     have f:Hd (l.length+4<=1099511627776):=by
      have h:=congrArg List.length j;simp only [List.length_append,List.length_cons,List.length_nil] at h;have:=aE.o;show _<=_;omega
     have j:=H_ j;rename_i P;clear P s M F;obtain⟨wa,ba,aL,R,z,L⟩:=box1 wr 173 [.string x1,.string x2,.string x3,.int .i64 Y,.int .i64 x5,.int .i64 x6,.int .i64 x7];obtain⟨q0,q1,q2,q3,q4,q5,q6⟩:=c_7 L;have G:=hN.o.below z;have p9:=G.bx.cell 0 rfl;have bB:=hN;clear hN D;obtain⟨W1,W2,W3,A9,c9,k1,k3,Q,J,p,aA⟩:=G.lits [Y] (by have:=f.o;simp only [List.length_cons,List.length_nil];omega);replace p:=H_ p;have v5:=Q.cell 0 rfl;have v6:=Q.frozen 0;subst k1;have k3:W2.setCell ⟨U,0,none⟩ (.slice A9 (l.length+1) c9)=W3:=k3;have J:(Builtin.append_ #[45,45] 45 #[v,.slice (some ⟨wa.heap.size,0,none⟩) 1 1]).run Tryz.prog (wa.alloc (.cells #[.int .i64 Y] 2))= .ok (.slice A9 (l.length+1) c9) W2:=J;clear Q;have S:=aA ba _ _ (by decide) (by have h1:=bB.o.bx.lt;have h2:wr.heap.size=ba:=R;omega) L;have z4:=S.cell 4 rfl;have z5:=S.cell 5 rfl;have z6:=S.cell 6 rfl;clear aA bB;clear G z L
     go_wp2_with (at_builtin;refine ap_ (.tmp 39) (.tmp 42) 45 J ?_);refine(hn_ w1 U _ _ x5 x6 x7 _ p.o (by have:=f.o;simp only [List.length_append,List.length_cons,List.length_nil];omega)).mono ?_;rintro e w5 ⟨⟨q,rfl⟩,v',aF⟩;rw [List.append_assoc] at aF;replace aF:=H_ aF;clear f S p z4 z5 z6;have p:=aF;clear aF
     go_wp2
     go_roundw
     ·exact⟨i+1,_,_,by omega,by go_num,j,p⟩
     ·simp [intOf];omega
    ·obtain rfl:nD=i:=by omega
     have g:=F.o;clear D;have D:=hN;clear hN;rw [List.drop_eq_nil_of_le (by rw [LD.o];omega),List.flatMap_nil,List.nil_append] at g;replace g:=H_ g;clear F;have F:=g;clear g hi N;have y4:=(B1.o.below D.o.bel).cell 4 rfl
     go_wp2
     clear y4;go_loopw [52] (fun T wr=> ∃ (i:Nat) (v:Value) (l:List Int),i<=nR/\T= .int .i64 i/\Hd (l++((X.routes.drop i).flatMap rI++(X.trips.flatMap tI++(X.hazs.flatMap hI++[])))=aU_ X)/\Hd (NS w1 U v l wr)) (fun T _=>nR-(intOf T).toNat)
     ·exact⟨0,_,_,Nat.zero_le _,rfl,F,D⟩
     ·clear F D;obtain⟨i,v,l,hi,rfl,F,hN⟩:=hrel;have D:=H_ hN.o.bel;by_cases N:i<nR
      ·have k:(i:Int)<(nR:Int):=by omega
       obtain⟨b,o,r,rfl,Z,s,f0,⟨s1,m1,d1,f1,bP,_,_⟩,⟨s2,m2,d2,f2,aY,_,_⟩,⟨s3,m3,d3,f3,aZ,_,_⟩⟩:=hR.o.rR.get N;replace f0:=c_ hN.o.bel Z f0;replace f1:=c_ hN.o.bel Z f1;replace f2:=c_ hN.o.bel Z f2;replace f3:=c_ hN.o.bel Z f3;have j:(l++r.rides++r.stays)++((X.routes.drop (i+1)).flatMap rI++(X.trips.flatMap tI++(X.hazs.flatMap hI++[])))=aU_ X:=by rw [<-F.o,a1_ s];simp [rI]
       have f:Hd (l.length+m2+m3<=1099511627776):=by
        have h:=congrArg List.length j;simp only [List.length_append] at h;have:=aE.o;have:=aY.len;have:=aZ.len;show _<=_;omega
       have j:=H_ j;rename_i P;clear P s F bP;obtain⟨wa,ba,aL,R,z,L⟩:=box1 wr 177 [.string r.name,.slice s1 m1 d1,.slice s2 m2 d2,.slice s3 m3 d3];obtain⟨q0,q1,q2,q3⟩:=c_4 L;have bR:Hd (ba≠U):=by have h1:=hN.o.bx.lt;have h2:wr.heap.size=ba:=R;show _≠_;omega
       have G:=hN.o.below z;have R2:=H_ aY;have R3:=H_ aZ;have aN:=H_ L;have bE:=H_ G.bel;have NH:=H_ G;clear hN D z aY aZ L G
       go_wp2
       refine dS_ (KB2 w1.heap.size wa ba 177 [.string r.name,.slice s1 m1 d1,.slice s2 m2 d2,.slice s3 m3 d3] U 45 [v]) [0,0,0,3,0,0,2,2] (by kernel_rfl) (by kernel_rfl) ⟨⟨rfl,rfl,rfl,Nat.le_refl _,fun _ _=>rfl⟩,aN.o,NH.o.bx⟩ (KB2.closed bE.o.size) ?_;intro C hC;simp only [af_,aV_,Nat.reduceLeDiff,Nat.reduceEqDiff, ↓reduceIte]
       repeat(go_big_quiet_step (first
        |(intro _;with_reducible rfl)
        |(intro M;simp only [M.bx.cell 2 rfl,M.bx.cell 3 rfl,M.by'.cell 0 rfl,Result.andThen];exact⟨trivial,rfl⟩)))
       clear hC;intro C' bL;clear bL;intro wq aG;replace aG:Below wa.heap.size wa wq:=by rw [aG];exact⟨rfl,rfl,rfl,Nat.le_refl _,fun _ _=>rfl⟩
       have aK:=NH.o.below aG;have Bq:=aN.o.below aG;have a:=aK.bel;obtain⟨v8,w8,aW,aM,aS,aO⟩:=fh_ (enc:=numE .i64) Tryz.underlying45 bc_ rfl (by decide) aj_ bw_ d2 aK.own (R2.o.below a) (by have:=f.o;omega) (by decide) a.size;have aC:=H_ (And.intro (aO _ _ _ (by decide) Bq) (aO _ _ _ (by decide) aK.bx));have d:=a.trans aS;obtain⟨v9,w9,aI,aJ,bC,bA⟩:=fh_ (enc:=numE .i64) Tryz.underlying45 bc_ rfl (by decide) aj_ bw_ d3 aM (R3.o.below d) (by have:=f.o;rw [List.length_append,R2.o.len];omega) (by decide) d.size;have aB:=bA _ _ _ (by decide) aC.o.2;obtain⟨A9,c9,e9,_⟩:=Rd.of_own aj_ rfl aJ;subst e9
       have p:Hd (NS w1 U (.slice A9 (l++r.rides++r.stays).length c9) (l++r.rides++r.stays) (w9.setCell ⟨U,0,none⟩ (.slice A9 (l++r.rides++r.stays).length c9))):=by
        have t9:But w9 (w9.setCell ⟨U,0,none⟩ (.slice A9 (l++r.rides++r.stays).length c9)) [U]:=But.of_set _ _ _ (by simp);have h9:=d.trans bC;exact⟨aB.set 0 _,ae_ aJ aB (by decide) t9,h9.trans (t9.below h9.size (fun y hy=>by simp only [List.mem_singleton] at hy;subst hy;exact NH.o.ge)),NH.o.ge⟩
       have v5:=aB.cell 0 rfl;have v6:=aB.frozen 0;obtain⟨W3,k3⟩:=e_ (w9.setCell ⟨U,0,none⟩ (.slice A9 (l++r.rides++r.stays).length c9));rw [k3] at p;obtain⟨n9,bH⟩:=e_ ((l++r.rides++r.stays).length);rw [bH] at aI k3 p;have bF:=H_ ((aG.mono bE.o.size).trans aS);clear aK aM aJ aS bC aO bA Bq a d f aB bH NH aN;refine as_ (by decide) ?_;go_wp2_with (at_builtin;refine ap_ (.tmp 56) (.tmp 58) 45 aW ?_);refine⟨fun _=>⟨bF.o,aC.o.1,aC.o.2⟩,?_⟩;refine aM_ _ _ _ (by simp) ?_;simp only [List.map_cons,List.map_nil];go_wp2_with (at_builtin;refine ap_ (.tmp 59) (.tmp 61) 45 aI ?_);go_roundw
       ·exact⟨i+1,_,_,by omega,by go_num,j,p⟩
       ·simp [intOf];omega
      ·obtain rfl:nR=i:=by omega
       have g:=F.o;clear D;have D:=hN;clear hN;rw [List.drop_eq_nil_of_le (by rw [LR.o];omega),List.flatMap_nil,List.nil_append] at g;replace g:=H_ g;clear F;have F:=g;clear g hi N;have y5:=(B1.o.below D.o.bel).cell 5 rfl
       go_wp2
       clear y5;go_loopw [67] (fun T wr=> ∃ (i:Nat) (v:Value) (l:List Int),i<=nT/\T= .int .i64 i/\Hd (l++((X.trips.drop i).flatMap tI++(X.hazs.flatMap hI++[]))=aU_ X)/\Hd (NS w1 U v l wr)) (fun T _=>nT-(intOf T).toNat)
       ·exact⟨0,_,_,Nat.zero_le _,rfl,F,D⟩
       ·clear F D;obtain⟨i,v,l,hi,rfl,F,hN⟩:=hrel;have D:=H_ hN.o.bel;by_cases N:i<nT
        ·have k:(i:Int)<(nT:Int):=by omega
         obtain⟨b,o,⟨x1,x2,x3,Y,x5⟩,rfl,Z,s,M⟩:=((hR.o.rT).below D.o).get N;have f0:=M 0 _ rfl;have f1:=M 1 _ rfl;have f2:=M 2 _ rfl;have f3:=M 3 _ rfl;have f4:=M 4 _ rfl;simp only [Nat.add_zero] at f0;have j:(l++[x3,Y,x5])++((X.trips.drop (i+1)).flatMap tI++(X.hazs.flatMap hI++[]))=aU_ X:=by rw [<-F.o,a1_ s];simp [tI]
         have f:Hd (l.length+3<=1099511627776):=by
          have h:=congrArg List.length j;simp only [List.length_append,List.length_cons,List.length_nil] at h;have:=aE.o;show _<=_;omega
         have j:=H_ j;rename_i P;clear P s M F;obtain⟨wa,ba,aL,R,z,L⟩:=box1 wr 179 [.string x1,.string x2,.int .i64 x3,.int .i64 Y,.int .i64 x5];obtain⟨q0,q1,q2,q3,q4⟩:=c_5 L;have G:=hN.o.below z;have p9:=G.bx.cell 0 rfl;clear z L hN D;obtain⟨W1,W2,W3,A9,c9,k1,k3,Q,J,p,aA⟩:=G.lits [x3,Y,x5] (by have:=f.o;simp only [List.length_cons,List.length_nil];omega);replace p:=H_ p;have v5:=Q.cell 0 rfl;have v6:=Q.frozen 0;subst k1;have k3:W2.setCell ⟨U,0,none⟩ (.slice A9 (l.length+3) c9)=W3:=k3;have J:(Builtin.append_ #[45,45] 45 #[v,.slice (some ⟨wa.heap.size,0,none⟩) 3 3]).run Tryz.prog (wa.alloc (.cells #[.int .i64 x3,.int .i64 Y,.int .i64 x5] 2))= .ok (.slice A9 (l.length+3) c9) W2:=J;clear Q;clear G f aA;go_wp2_with (at_builtin;refine ap_ (.tmp 71) (.tmp 78) 45 J ?_);go_roundw
         ·exact⟨i+1,_,_,by omega,by go_num,j,p⟩
         ·simp [intOf];omega
        ·obtain rfl:nT=i:=by omega
         have g:=F.o;clear D;have D:=hN;clear hN;rw [List.drop_eq_nil_of_le (by rw [LT.o];omega),List.flatMap_nil,List.nil_append] at g;replace g:=H_ g;clear F;have F:=g;clear g hi N;have y6:=(B1.o.below D.o.bel).cell 6 rfl
         go_wp2
         clear y6;go_loopw [84] (fun T wr=> ∃ (i:Nat) (v:Value) (l:List Int),i<=nH/\T= .int .i64 i/\Hd (l++((X.hazs.drop i).flatMap hI++([]))=aU_ X)/\Hd (NS w1 U v l wr)) (fun T _=>nH-(intOf T).toNat)
         ·exact⟨0,_,_,Nat.zero_le _,rfl,F,D⟩
         ·clear F D;obtain⟨i,v,l,hi,rfl,F,hN⟩:=hrel;have D:=H_ hN.o.bel;by_cases N:i<nH
          ·have k:(i:Int)<(nH:Int):=by omega
           obtain⟨b,o,⟨x1,x2,x3,Y,x5⟩,rfl,Z,s,M⟩:=((hR.o.rH).below D.o).get N;have f0:=M 0 _ rfl;have f1:=M 1 _ rfl;have f2:=M 2 _ rfl;have f3:=M 3 _ rfl;have f4:=M 4 _ rfl;simp only [Nat.add_zero] at f0;have j:(l++[x3,Y,x5])++((X.hazs.drop (i+1)).flatMap hI++([]))=aU_ X:=by rw [<-F.o,a1_ s];simp [hI]
           have f:Hd (l.length+3<=1099511627776):=by
            have h:=congrArg List.length j;simp only [List.length_append,List.length_cons,List.length_nil] at h;have:=aE.o;show _<=_;omega
           have j:=H_ j;rename_i P;clear P s M F;obtain⟨wa,ba,aL,R,z,L⟩:=box1 wr 181 [.string x1,.string x2,.int .i64 x3,.int .i64 Y,.int .i64 x5];obtain⟨q0,q1,q2,q3,q4⟩:=c_5 L;have G:=H_ (hN.o.below z);clear z L hN D;go_wp2_with fail;refine(hn_ w1 U v l x3 Y x5 wa G.o f.o).mono ?_;rintro e w5 ⟨⟨q,rfl⟩,v',p⟩;replace p:=H_ p;clear f G
           go_wp2
           go_roundw
           ·exact⟨i+1,_,_,by omega,by go_num,j,p⟩
           ·simp [intOf];omega
          ·obtain rfl:nH=i:=by omega
           have g:=F.o;clear D;have D:=hN;clear hN;rw [List.drop_eq_nil_of_le (by rw [LH.o];omega),List.flatMap_nil,List.nil_append] at g;replace g:=H_ g;clear F;have F:=g;clear g hi N;have hN:=D.o;obtain⟨A,c,rfl,r1,r2,r3⟩:=Rd.of_own aj_ rfl hN.own;have p9:=hN.bx.cell 0 rfl;have hN:=H_ hN;rename_i gN;clear gN D
           go_wp2
           go_returns;have bG:=F.o;rw [List.append_nil] at bG;subst bG;exact⟨A,_,c,rfl,r1,r2,r3,b_ bI hN.o.bel⟩
theorem hD_ (A:Option Addr) (n c:Nat) (x:Int) (w:World):Calls Tryz.prog 117 #[.slice A n c,.int .i64 x] w (rb_ (.bool (inB x n)) w):=by
 by_cases g:0<=x
 ·have f:Hd (inB x n=decide (x<(n:Int))):=by show _=_;unfold inB;rw [T_ g];rfl
  rw [f.o];go_enter Tryz.func117,Tryz.ntmps117
  go_wp2
  go_returns;exact⟨by simp,Below.refl _ _⟩
 ·have f:Hd (inB x n=false):=by show _=_;unfold inB;rw [F_ g];rfl
  rw [f.o];go_enter Tryz.func117,Tryz.ntmps117
  go_wp2
  go_returns;exact⟨by simp,Below.refl _ _⟩
structure WC (w:World) (b3 b4 b5:Nat) (V:WV):Prop where
 c4:w.cell? ⟨b4,0,none⟩=some (.func (.func 117) #[] #[])
 c5:w.cell? ⟨b5,0,none⟩=some (.func (.func 118) #[] #[.pointer (some ⟨b4,0,none⟩),.pointer (some ⟨b3,0,none⟩)])
 n0:w.cell? ⟨b3,0,none⟩=some (.slice V.a0 V.n0 V.c0)
 n1:w.cell? ⟨b3,1,none⟩=some (.slice V.a1 V.n1 V.c1)
 n3:w.cell? ⟨b3,3,none⟩=some (.slice V.a3 V.n3 V.c3)
theorem bo_ {w w':World} {b o:Nat} {v:Value} (k:Below w.heap.size w w') (h:w.cell? ⟨b,o,none⟩=some v):w'.cell? ⟨b,o,none⟩=some v:=(k.cell (p:=⟨b,o,none⟩) (World.block_lt_of_cell? w ⟨b,o,none⟩ h)).trans h
theorem WC.below {w w':World} {b3 b4 b5:Nat} {V:WV} (h:WC w b3 b4 b5 V) (k:Below w.heap.size w w'):WC w' b3 b4 b5 V:=⟨bo_ k h.c4,bo_ k h.c5,bo_ k h.n0,bo_ k h.n1,bo_ k h.n3⟩
theorem fj_ (b3 b4 b5:Nat) (V:WV) (x:Int) (w:World) (h:WC w b3 b4 b5 V):Calls Tryz.prog 118 #[.int .i64 x,.pointer (some ⟨b4,0,none⟩),.pointer (some ⟨b3,0,none⟩)] w (rb_ (.bool (!inB x V.n0)) w):=by
 have c4:=h.c4;have n0:=h.n0;clear h;go_enter Tryz.func118,Tryz.ntmps118;go_wp2_with fail;refine(hD_ V.a0 V.n0 V.c0 x w).mono ?_;rintro e w' ⟨rfl,g⟩;have f:=H_ g;clear g
 go_wp2
 go_returns;exact⟨rfl,f.o⟩
theorem mL_ (b3 b4 b5:Nat) (V:WV) (p:Int×Int×Int) (we:World) (h:WC we b3 b4 b5 V):Calls Tryz.prog 120 #[.agg (az_ p).toArray,.pointer (some ⟨b5,0,none⟩)] we (rb_ (.bool (!(inB p.1 V.n0&&inB p.2.1 V.n0))) we):=by
 obtain⟨J,N,Q⟩:=p;simp only [az_];obtain⟨M,ba,aC,aA,g,q⟩:=box1 we 99 [.int .i64 J,.int .i64 N,.int .i64 Q];have q0:=q.cell 0 rfl;have P:=q.cell 1 rfl;have G:=H_ (h.below g);have c5:=G.o.c5;have n:=H_ g;clear q h;have j:=H_ (fun(w:World) (x:Int) h=>fj_ b3 b4 b5 V x w h)
 cases L:inB J V.n0 with
 |false=>
  clear g;go_enter Tryz.func120,Tryz.ntmps120;go_wp2_with fail;refine(j.o M J G.o).mono ?_;rintro e w2 ⟨rfl,f⟩;rw [L];have y:=h_ n f;clear f
  go_wp2
  go_returns;exact⟨by simp,y.o⟩
 |true=>
  clear g;go_enter Tryz.func120,Tryz.ntmps120;go_wp2_with fail;refine(j.o M J G.o).mono ?_;rintro e w2 ⟨rfl,f⟩;rw [L];have z:=H_ (G.o.below f);have aB:=z.o.c5;have aD:=bo_ f P;have D:=H_ f;clear f;go_wp2_with fail;refine(j.o w2 N z.o).mono ?_;rintro e w3 ⟨rfl,F⟩;have y:=h_ n (b_ D F);clear F
  go_wp2
  go_returns;exact⟨by simp,y.o⟩
theorem mM_ (b3 b4 b5:Nat) (V:WV) (p:cc_) (we:World) (h:WC we b3 b4 b5 V):Calls Tryz.prog 122 #[.agg (aJ_ p).toArray,.pointer (some ⟨b5,0,none⟩)] we (rb_ (.bool (!(inB p.a V.n0&&inB p.b V.n0))) we):=by
 obtain⟨J,N,Q,R,S,T⟩:=p;simp only [aJ_];obtain⟨M,ba,aC,aA,g,q⟩:=box1 we 104 [.int .i64 J,.int .i64 N,.int .i64 Q,.int .i64 R,.int .i64 S,.int .i64 T];have q0:=q.cell 0 rfl;have P:=q.cell 1 rfl;have G:=H_ (h.below g);have c5:=G.o.c5;have n:=H_ g;clear q h;have j:=H_ (fun(w:World) (x:Int) h=>fj_ b3 b4 b5 V x w h)
 cases L:inB J V.n0 with
 |false=>
  clear g;go_enter Tryz.func122,Tryz.ntmps122;go_wp2_with fail;refine(j.o M J G.o).mono ?_;rintro e w2 ⟨rfl,f⟩;rw [L];have y:=h_ n f;clear f
  go_wp2
  go_returns;exact⟨by simp,y.o⟩
 |true=>
  clear g;go_enter Tryz.func122,Tryz.ntmps122;go_wp2_with fail;refine(j.o M J G.o).mono ?_;rintro e w2 ⟨rfl,f⟩;rw [L];have z:=H_ (G.o.below f);have aB:=z.o.c5;have aD:=bo_ f P;have D:=H_ f;clear f;go_wp2_with fail;refine(j.o w2 N z.o).mono ?_;rintro e w3 ⟨rfl,F⟩;have y:=h_ n (b_ D F);clear F
  go_wp2
  go_returns;exact⟨by simp,y.o⟩
theorem mN_ (b3 b4 b5:Nat) (V:WV) (r:RE3) (D:List Int) (we:World) (h:WC we b3 b4 b5 V) (hd:Rd we 1 (numE .i64) r.1.1 r.1.2.1 D) (hn:r.1.2.1<=1000000):Calls Tryz.prog 124 #[.agg (re3E r).toArray,.pointer (some ⟨b5,0,none⟩)] we (rb_ (.bool (D.any fun s=> !inB s V.n0)) we):=by
 obtain⟨⟨y,z,F⟩,⟨M,N,P⟩,⟨Q,R,S⟩⟩:=r;simp only [re3E,SlV.v] at*;obtain⟨L,ba,aB,aA,f,g⟩:=box1 we 51 [.slice y z F,.slice M N P,.slice Q R S];have q0:=g.cell 0 rfl;have q:=H_ (h.below f);have c5:=q.o.c5;have n:=H_ f;have J:=H_ (nm_ 118 #[.pointer (some ⟨b4,0,none⟩),.pointer (some ⟨b3,0,none⟩)] (enters_of Tryz.func118 (by kernel_rfl) rfl) (fun s=> !inB s V.n0) y z F D L (hd.below f) (by omega) (fun W x G _=>fj_ b3 b4 b5 V x W (q.o.below G)));clear g h hd f;go_enter Tryz.func124,Tryz.ntmps124;go_wp2_with fail;refine J.o.mono ?_;rintro e w2 ⟨rfl,j⟩;have p:=h_ n j;clear j
 go_wp2
 go_returns;exact⟨rfl,p.o⟩
theorem mO_ (b3 b4 b5:Nat) (V:WV) (p:bM_) (we:World) (h:WC we b3 b4 b5 V):Calls Tryz.prog 127 #[.agg (aL_ p).toArray,.pointer (some ⟨b4,0,none⟩),.pointer (some ⟨b3,0,none⟩)] we (rb_ (.bool (!inB p.route V.n3)) we):=by
 obtain⟨z,F,G,J⟩:=p;simp only [aL_];obtain⟨D,ba,aB,aA,f,g⟩:=box1 we 53 [.int .i64 z,.int .i64 F,.int .i64 G,.int .i64 J];have q0:=g.cell 0 rfl;have y:=H_ (h.below f);have c4:=y.o.c4;have n3:=y.o.n3;have n:=H_ f;clear g h f;go_enter Tryz.func127,Tryz.ntmps127;go_wp2_with fail;refine(hD_ V.a3 V.n3 V.c3 z D).mono ?_;rintro e w2 ⟨rfl,j⟩;have q:=h_ n j;clear j
 go_wp2
 go_returns;exact⟨rfl,q.o⟩
theorem mP_ (b3 b4 b5:Nat) (V:WV) (p:HazP) (we:World) (h:WC we b3 b4 b5 V):Calls Tryz.prog 129 #[.agg (hazE p).toArray,.pointer (some ⟨b5,0,none⟩),.pointer (some ⟨b4,0,none⟩),.pointer (some ⟨b3,0,none⟩)] we (rb_ (.bool (!inB p.on (if p.stop then V.n0 else V.n1))) we):=by
 obtain⟨J,F,L,M,N⟩:=p;simp only [hazE];obtain⟨G,ba,z,j,g,q⟩:=box1 we 108 [.bool J,.int .i64 F,.int .i64 L,.int .i64 M,.int .i64 N];have q0:=q.cell 0 rfl;have q1:=q.cell 1 rfl;have D:=H_ (h.below g);have c4:=D.o.c4;have c5:=D.o.c5;have n1:=D.o.n1;have n:=H_ g;clear q h g
 cases J with
 |true=>
  go_enter Tryz.func129,Tryz.ntmps129;go_wp2_with fail;refine(fj_ b3 b4 b5 V F G D.o).mono ?_;rintro e w2 ⟨rfl,f⟩;have y:=h_ n f;clear f z j
  go_wp2
  go_returns;exact⟨rfl,y.o⟩
 |false=>
  go_enter Tryz.func129,Tryz.ntmps129;go_wp2_with fail;refine(hD_ V.a1 V.n1 V.c1 F G).mono ?_;rintro e w2 ⟨rfl,f⟩;have y:=h_ n f;clear f z j
  go_wp2
  go_returns;exact⟨rfl,y.o⟩
theorem cI_.rows {w:World} {A:Option Addr} {n:Nat} {l:List ba_} (h:cI_ w A n l): ∃ L:List RE3,Rd w 3 re3E A n L/\aD_ (fun w e r=>Rd w 1 (numE .i64) e.1.1 e.1.2.1 r.stops/\Rd w 1 (numE .i64) e.2.1.1 e.2.1.2.1 r.rides/\Rd w 1 (numE .i64) e.2.2.1 e.2.2.2.1 r.stays/\e.1.2.1<=e.1.2.2/\e.1.2.2<=9223372036854775807/\e.2.1.2.1<=e.2.1.2.2/\e.2.1.2.2<=9223372036854775807/\e.2.2.2.1<=e.2.2.2.2/\e.2.2.2.2<=9223372036854775807) w L l:=by
 have N: ∀ k:Nat, ∃ e:RE3, ∀ r,l[k]?=some r -> ∃ b o,A=some ⟨b,o,none⟩/\b<w.heap.size/\(∀ (j:Nat) u,(re3E e)[j]?=some u ->w.cell? ⟨b,o+k*3+j,none⟩=some u)/\Rd w 1 (numE .i64) e.1.1 e.1.2.1 r.stops/\Rd w 1 (numE .i64) e.2.1.1 e.2.1.2.1 r.rides/\Rd w 1 (numE .i64) e.2.2.1 e.2.2.2.1 r.stays/\e.1.2.1<=e.1.2.2/\e.1.2.2<=9223372036854775807/\e.2.1.2.1<=e.2.1.2.2/\e.2.1.2.2<=9223372036854775807/\e.2.2.2.1<=e.2.2.2.2/\e.2.2.2.2<=9223372036854775807:=fun k=>by
  cases q:l[k]? with
  |none=>exact⟨((none,0,0),(none,0,0),(none,0,0)),fun r D=>by cases D⟩
  |some r=>
   obtain⟨b,o,e,F,⟨s1,n1,S,s,r1,X,Y⟩,⟨s2,n2,T,h2,r2,Z,a⟩,⟨s3,n3,U,h3,r3,c,d⟩⟩:=h.at_ k r q;refine⟨((s1,n1,S),(s2,n2,T),(s3,n3,U)),fun r' J=>?_⟩;cases J;refine⟨b,o,e,F,fun j u g=>?_,r1,r2,r3,X,Y,Z,a,c,d⟩
   match j,g with
   |0,g=>simp [re3E,SlV.v] at g;subst g;exact s
   |1,g=>simp [re3E,SlV.v] at g;subst g;exact h2
   |2,g=>simp [re3E,SlV.v] at g;subst g;exact h3
   |j+3,g=>simp [re3E] at g
 obtain⟨f,G⟩:=Classical.axiomOfChoice N;have p:((List.range n).map f).length =n:=by simp
 have y: ∀ k e,((List.range n).map f)[k]?=some e ->k<n/\e=f k:=fun k e z=>by
  have q:k<n:=by have:=(List.getElem?_eq_some_iff.1 z).1;rwa [p] at this
  rw [List.getElem?_map,List.getElem?_range q] at z;exact⟨q,(Option.some.inj z).symm⟩
 have R: ∀ k,k<n -> ∃ r,l[k]?=some r:=fun k q=>⟨_,List.getElem?_eq_getElem (by rw [h.len];exact q)⟩
 refine⟨(List.range n).map f,⟨p,fun hn=>?_⟩,⟨by rw [p,h.len],fun k e r z D=>?_⟩⟩
 ·obtain⟨r0,M⟩:=R 0 hn;obtain⟨b,o,e,F,_⟩:=G 0 r0 M;refine⟨b,o,e,F,fun i x hx j u g=>?_⟩;obtain⟨Q,rfl⟩:=y i x hx;obtain⟨r,D⟩:=R i Q;obtain⟨b',o',P,_,hc,_⟩:=G i r D;rw [e] at P;cases P;exact hc j u g
 ·obtain⟨Q,rfl⟩:=y k e z;obtain⟨b,o,_,_,_,hh⟩:=G k r D;exact hh
