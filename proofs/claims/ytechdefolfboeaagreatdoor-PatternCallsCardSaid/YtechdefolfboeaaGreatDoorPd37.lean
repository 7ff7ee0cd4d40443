/- Merged. -/
import Derived.Test.YtechdefolfboeaaGreatDoorPd9
import Derived.Test.YtechdefolfboeaaGreatDoorPd13
set_option linter.unusedVariables false
set_option linter.unusedSimpArgs false
set_option maxHeartbeats 4000000
namespace Go.Proofs.YtechdefolfboeaaGreatDoor
open Go.RowKit B
set_option maxRecDepth 100000 in
theorem mx_ (X:ay_) (V:SV) (we:World) (hr:RS we X V) (hf:FewS X):
 Calls Tryz.prog 212 #[sVal X V] we fun e w'=> ∃ A n c,e= .returned (.slice A n c)/\Rd w' 1 (strE) A n (aT_ X)/\n<=c/\c<=9223372036854775807/\Below we.heap.size we w':=by
 obtain⟨a0,aP,aD,aR,aT,aH,n0,nP,nD,nR,nT,nH,c0,cP,cD,cR,cT,cH⟩:=V;have LP:Hd (X.paths.length=nP):=hr.rP.len;have LD:Hd (X.doors.length=nD):=hr.rD.len;have LR:Hd (X.routes.length=nR):=hr.rR.len;have LT:Hd (X.trips.length=nT):=hr.rT.len;have LH:Hd (X.hazs.length=nH):=hr.rH.len;have l0:X.stops.length=n0:=hr.r0.len;have L0:=H_ l0;have aF:=H_ (fN_ hf);have mP:nP<=100000:=by have:=hf.sP;have:=LP.o;omega
 have mD:nD<=100000:=by have:=hf.sD;have:=LD.o;omega
 have mR:nR<=100000:=by have:=hf.sR;have:=LR.o;omega
 have mT:nT<=100000:=by have:=hf.sT;have:=LT.o;omega
 have mH:nH<=100000:=by have:=hf.sH;have:=LH.o;omega
 have m0:n0<=100000:=by have:=hf.s0;omega
 obtain⟨hz,aM⟩:=e_ X.hz;have bF:=H_ aM;simp only [sVal];rw [aM];obtain⟨w1,bC,aL,k⟩:=box0 we 136 [.int .i64 hz,.slice a0 n0 c0,.slice aP nP cP,.slice aD nD cD,.slice aR nR cR,.slice aT nT cT,.slice aH nH cH];obtain⟨bn,aN⟩:=e_ we.heap.size;rw [aN] at k;have bB:Hd (∀ U,Below w1.heap.size w1 U ->Below we.heap.size we U):=fun U hU=>u_ aL hU;have hR:=hr.below aL;have aV:Hd (Rd w1 1 strE a0 n0 X.stops):=hR.r0;have aY:Hd (Rd w1 4 aR_ aP nP X.paths):=hR.rP;have aW:Hd (Rd w1 7 aQ_ aD nD X.doors):=hR.rD;have aZ:Hd (bD_ w1 aR nR X.routes):=hR.rR;have bA:Hd (Rd w1 5 aS_ aT nT X.trips):=hR.rT;have aX:Hd (Rd w1 5 a2_ aH nH X.hazs):=hR.rH;have bG:=k.lt;have p0:=k.cell 0 rfl;have p1:=k.cell 1 rfl;have k:=H_ k;rename_i aQ;clear aQ hr hf aL aM hR l0;go_enter Tryz.func212,Tryz.ntmps212
 obtain⟨v0,w2,N,own,D⟩:=dw_ (base:=w1.heap.size) (g:=w1.heap.size) Tryz.underlying22 ax_ rfl (by decide) ad_ c0 (bW_ w1 w1.heap.size 9 1 (Nat.le_refl _)) (aV.o.below (ag_ w1 #[] 9)) (by omega) (by decide) (Nat.le_of_lt (by simp));have D:Hd (Below w1.heap.size w1 w2):=(ag_ w1 #[] 9).trans (D.mono (by simp));have L:Hd (X.stops++((X.paths.drop 0).flatMap pN++(X.doors.flatMap dN++(X.routes.flatMap rN++(X.trips.flatMap tN++(X.hazs.flatMap hN++([]))))))=aT_ X):=rfl;rw [<-L0.o] at own;have own:=H_ own;rename_i bD bE;clear bD bE;go_wp2_with (at_builtin;refine ap_ (.tmp 9) (.tmp 11) 22 N ?_);clear N p0 p1 bC aN
 go_wp2
 go_loopw [4,3] (fun iv v wr=> ∃ (i:Nat) (Z:Value) (l:List Str),i<=nP/\iv= .int .i64 i/\Z=v/\Hd (wr.ownsRow w1.heap.size 9 1 v l.length (l.flatMap (strE)))/\Hd (l++((X.paths.drop i).flatMap pN++(X.doors.flatMap dN++(X.routes.flatMap rN++(X.trips.flatMap tN++(X.hazs.flatMap hN++([]))))))=aT_ X)/\Hd (Below w1.heap.size w1 wr)) (fun iv _ _=>nP-(intOf iv).toNat)
 ·exact⟨0,_,_,Nat.zero_le _,rfl,rfl,own,L,D⟩
 ·clear own L D;obtain⟨i,Z,l,hi,rfl,Y,own,L,D⟩:=hrel;subst Y;have y0:=(k.o.below D.o).cell 2 rfl;have z0:=k.o.cell 2 rfl;have M:=D.o.size;by_cases S:i<nP
  ·have aE:(i:Int)<(nP:Int):=by omega
   obtain⟨b,o,⟨q0,q1,q2,q3⟩,rfl,P,hx,a⟩:=aY.o.get S;have f0:=a 0 _ rfl;have f1:=a 1 _ rfl;have f2:=a 2 _ rfl;simp only [Nat.add_zero] at f0 f1 f2;have z:(l++[q0,q1,q2])++((X.paths.drop (i+1)).flatMap pN++(X.doors.flatMap dN++(X.routes.flatMap rN++(X.trips.flatMap tN++(X.hazs.flatMap hN++([]))))))=aT_ X:=by rw [<-L.o,a1_ hx];simp [pN]
   have p:Hd (l.length+([q0,q1,q2]).length <=1099511627776):=by
    have h:=congrArg List.length z;rw [List.length_append,List.length_append] at h;have:=aF.o;show _<=_;omega
   have z:=H_ z;rename_i d;clear d hx a L;generalize Y:Z=Z at own
   go_wp2
   refine wl_ [0,0,0,0,0,0,0,0,0,0,0,0,0,0,0,0,0,0,0,2,2,2] ?_;intro C hC;simp only [af_,Nat.reduceEqDiff, ↓reduceIte]
   repeat(go_big_quiet_step (first
    |(intro _;with_reducible rfl)
    |(intro a;have J:=b_ D a;simp only [(k.o.below J).cell 2 rfl,c_ J P f0,c_ J P f1,c_ J P f2,Result.andThen];exact⟨trivial,rfl⟩)))
   clear hC;intro C' aA;clear aA;intro wq F;have f:=b_ D F;have Q:w1.heap.size<=wq.heap.size:=f.size;have G:wq.ownsRow w1.heap.size 9 1 Z l.length (l.flatMap strE):=aa_ own.o F;obtain⟨v9,w9,N,q,y⟩:=bI_ (enc:=strE) Tryz.underlying22 ax_ rfl (by decide) ad_ aH_ [q0,q1,q2] G p.o (by decide) Q;have y:=f.trans y;clear G Q F f;go_wp2_with (at_builtin;refine ap_ (.tmp 20) (.tmp 39) 22 N ?_);have T:=z;clear p
   try clear R
   have aB:=H_ y;have q:=H_ q;rename_i aC;clear aC y D;go_roundw
   ·exact⟨i+1,_,_,by omega,by go_num,rfl,q,T,aB⟩
   ·simp [intOf];omega
  ·obtain rfl:nP=i:=by omega
   have j:=L.o;rw [List.drop_eq_nil_of_le (by rw [LP.o];omega),List.flatMap_nil,List.nil_append] at j;have j:=H_ j;clear L;have L:=j;rename_i s;clear j s z0 M hi S
   go_wp2
   go_loopw [5,3] (fun iv v wr=> ∃ (i:Nat) (Z:Value) (l:List Str),i<=nD/\iv= .int .i64 i/\Z=v/\Hd (wr.ownsRow w1.heap.size 9 1 v l.length (l.flatMap (strE)))/\Hd (l++((X.doors.drop i).flatMap dN++(X.routes.flatMap rN++(X.trips.flatMap tN++(X.hazs.flatMap hN++([])))))=aT_ X)/\Hd (Below w1.heap.size w1 wr)) (fun iv _ _=>nD-(intOf iv).toNat)
   ·exact⟨0,_,_,Nat.zero_le _,rfl,rfl,own,L,D⟩
   ·clear own L D;obtain⟨i,Z,l,hi,rfl,Y,own,L,D⟩:=hrel;subst Y;have y0:=(k.o.below D.o).cell 3 rfl;have z0:=k.o.cell 3 rfl;have M:=D.o.size;by_cases S:i<nD
    ·have aE:(i:Int)<(nD:Int):=by omega
     obtain⟨b,o,⟨q0,q1,q2,q3,q4,q5,q6⟩,rfl,P,hx,a⟩:=aW.o.get S;have f0:=a 0 _ rfl;have f1:=a 1 _ rfl;have f2:=a 2 _ rfl;simp only [Nat.add_zero] at f0 f1 f2;have z:(l++[q0,q1,q2])++((X.doors.drop (i+1)).flatMap dN++(X.routes.flatMap rN++(X.trips.flatMap tN++(X.hazs.flatMap hN++([])))))=aT_ X:=by rw [<-L.o,a1_ hx];simp [dN]
     have p:Hd (l.length+([q0,q1,q2]).length <=1099511627776):=by
      have h:=congrArg List.length z;rw [List.length_append,List.length_append] at h;have:=aF.o;show _<=_;omega
     have z:=H_ z;rename_i d;clear d hx a L;generalize Y:Z=Z at own
     go_wp2
     refine wl_ [0,0,0,0,0,0,0,0,0,0,0,0,0,0,0,0,0,0,0,2,2,2] ?_;intro C hC;simp only [af_,Nat.reduceEqDiff, ↓reduceIte]
     repeat(go_big_quiet_step (first
      |(intro _;with_reducible rfl)
      |(intro a;have J:=b_ D a;simp only [(k.o.below J).cell 3 rfl,c_ J P f0,c_ J P f1,c_ J P f2,Result.andThen];exact⟨trivial,rfl⟩)))
     clear hC;intro C' aA;clear aA;intro wq F;have f:=b_ D F;have Q:w1.heap.size<=wq.heap.size:=f.size;have G:wq.ownsRow w1.heap.size 9 1 Z l.length (l.flatMap strE):=aa_ own.o F;obtain⟨v9,w9,N,q,y⟩:=bI_ (enc:=strE) Tryz.underlying22 ax_ rfl (by decide) ad_ aH_ [q0,q1,q2] G p.o (by decide) Q;have y:=f.trans y;clear G Q F f;go_wp2_with (at_builtin;refine ap_ (.tmp 48) (.tmp 67) 22 N ?_);have T:=z;clear p
     try clear R
     have aB:=H_ y;have q:=H_ q;rename_i aC;clear aC y D;go_roundw
     ·exact⟨i+1,_,_,by omega,by go_num,rfl,q,T,aB⟩
     ·simp [intOf];omega
    ·obtain rfl:nD=i:=by omega
     have j:=L.o;rw [List.drop_eq_nil_of_le (by rw [LD.o];omega),List.flatMap_nil,List.nil_append] at j;have j:=H_ j;clear L;have L:=j;rename_i s;clear j s z0 M hi S
     go_wp2
     go_loopw [6,3] (fun iv v wr=> ∃ (i:Nat) (Z:Value) (l:List Str),i<=nR/\iv= .int .i64 i/\Z=v/\Hd (wr.ownsRow w1.heap.size 9 1 v l.length (l.flatMap (strE)))/\Hd (l++((X.routes.drop i).flatMap rN++(X.trips.flatMap tN++(X.hazs.flatMap hN++([]))))=aT_ X)/\Hd (Below w1.heap.size w1 wr)) (fun iv _ _=>nR-(intOf iv).toNat)
     ·exact⟨0,_,_,Nat.zero_le _,rfl,rfl,own,L,D⟩
     ·clear own L D;obtain⟨i,Z,l,hi,rfl,Y,own,L,D⟩:=hrel;subst Y;have y0:=(k.o.below D.o).cell 4 rfl;have z0:=k.o.cell 4 rfl;have M:=D.o.size;by_cases S:i<nR
      ·have aE:(i:Int)<(nR:Int):=by omega
       obtain⟨b,o,r,rfl,P,hx,f0,⟨s1,m1,d1,f1,aJ,_,_⟩,_,_⟩:=aZ.o.get S;have z:(l++[r.name]++r.stops)++((X.routes.drop (i+1)).flatMap rN++(X.trips.flatMap tN++(X.hazs.flatMap hN++([]))))=aT_ X:=by rw [<-L.o,a1_ hx];simp [rN]
       have R:Hd ((l++[r.name]).length +m1<=1099511627776):=by
        have h:=congrArg List.length z;rw [List.length_append, @List.length_append _ (l++[r.name]) r.stops,aJ.len] at h;have:=aF.o;show _<=_;omega
       have p:Hd (l.length+([r.name]).length <=1099511627776):=by
        have:=R.o;rw [List.length_append] at this;show _<=_;omega
       have z:=H_ z;have aJ:=H_ aJ;rename_i aS aU;clear aS aU hx L;generalize Y:Z=Z at own
       go_wp2
       refine eL_ w1.heap.size [0,0,0,0,0,0,0,2,3,0,0,0,0,0,0,2,2] (by kernel_rfl) (by kernel_rfl) D.o.size ?_;intro C hC;simp only [af_,aV_,Nat.reduceLeDiff,Nat.reduceEqDiff, ↓reduceIte]
       repeat(go_big_quiet_step (first
        |(intro _;with_reducible rfl)
        |(intro a;have J:=D.o.trans a;simp only [(k.o.below J).cell 4 rfl,c_ J P f0,c_ J P f1,Result.andThen];exact⟨trivial,rfl⟩)))
       clear hC;intro C' aA;clear aA;intro wq F;replace F:Below wr.heap.size wr wq:=by rw [F];exact⟨rfl,rfl,rfl,Nat.le_refl _,fun _ _=>rfl⟩
       have f:=b_ D F;have Q:w1.heap.size<=wq.heap.size:=f.size;have G:wq.ownsRow w1.heap.size 9 1 Z l.length (l.flatMap strE):=aa_ own.o F;obtain⟨v8,w8,aI,aK,aG⟩:=bI_ (enc:=strE) Tryz.underlying22 ax_ rfl (by decide) ad_ aH_ [r.name] G p.o (by decide) Q;refine ht_ (wpList_plain rfl fun K hK=>?_);go_simp;refine hK _ _ ⟨(fun h=>nomatch h),?_⟩;clear hK;obtain⟨v9,w9,N,q,y⟩:=f7_ (enc:=strE) Tryz.underlying22 ax_ rfl (by decide) ad_ aH_ d1 aK (aJ.o.below (f.trans aG)) R.o (by decide) (Nat.le_trans Q aG.size);refine du_ rfl (.tmp 76) (.tmp 83) 22 rfl rfl rfl aI (fun _=>(F.mono D.o.size).trans aG) ?_;refine du_ rfl (.tmp 84) (.tmp 90) 22 rfl rfl rfl N (fun h=>nomatch h) ?_;refine dr_ _ _ _ (by simp) ?_;simp only [List.map_cons,List.map_nil];have y:=(f.trans aG).trans y;clear G Q F f aI aK aG;go_wp2_with fail;have T:=z;clear p
       try clear R
       have aB:=H_ y;have q:=H_ q;rename_i aC;clear aC y D;go_roundw
       ·exact⟨i+1,_,_,by omega,by go_num,rfl,q,T,aB⟩
       ·simp [intOf];omega
      ·obtain rfl:nR=i:=by omega
       have j:=L.o;rw [List.drop_eq_nil_of_le (by rw [LR.o];omega),List.flatMap_nil,List.nil_append] at j;have j:=H_ j;clear L;have L:=j;rename_i s;clear j s z0 M hi S
       go_wp2
       go_loopw [7,3] (fun iv v wr=> ∃ (i:Nat) (Z:Value) (l:List Str),i<=nT/\iv= .int .i64 i/\Z=v/\Hd (wr.ownsRow w1.heap.size 9 1 v l.length (l.flatMap (strE)))/\Hd (l++((X.trips.drop i).flatMap tN++(X.hazs.flatMap hN++([])))=aT_ X)/\Hd (Below w1.heap.size w1 wr)) (fun iv _ _=>nT-(intOf iv).toNat)
       ·exact⟨0,_,_,Nat.zero_le _,rfl,rfl,own,L,D⟩
       ·clear own L D;obtain⟨i,Z,l,hi,rfl,Y,own,L,D⟩:=hrel;subst Y;have y0:=(k.o.below D.o).cell 5 rfl;have z0:=k.o.cell 5 rfl;have M:=D.o.size;by_cases S:i<nT
        ·have aE:(i:Int)<(nT:Int):=by omega
         obtain⟨b,o,⟨q0,q1,q2,q3,q4⟩,rfl,P,hx,a⟩:=bA.o.get S;have f0:=a 0 _ rfl;have f1:=a 1 _ rfl;simp only [Nat.add_zero] at f0 f1;have z:(l++[q0,q1])++((X.trips.drop (i+1)).flatMap tN++(X.hazs.flatMap hN++([])))=aT_ X:=by rw [<-L.o,a1_ hx];simp [tN]
         have p:Hd (l.length+([q0,q1]).length <=1099511627776):=by
          have h:=congrArg List.length z;rw [List.length_append,List.length_append] at h;have:=aF.o;show _<=_;omega
         have z:=H_ z;rename_i d;clear d hx a L;generalize Y:Z=Z at own
         go_wp2
         refine wl_ [0,0,0,0,0,0,0,0,0,0,0,0,0,2,2,2] ?_;intro C hC;simp only [af_,Nat.reduceEqDiff, ↓reduceIte]
         repeat(go_big_quiet_step (first
          |(intro _;with_reducible rfl)
          |(intro a;have J:=b_ D a;simp only [(k.o.below J).cell 5 rfl,c_ J P f0,c_ J P f1,Result.andThen];exact⟨trivial,rfl⟩)))
         clear hC;intro C' aA;clear aA;intro wq F;have f:=b_ D F;have Q:w1.heap.size<=wq.heap.size:=f.size;have G:wq.ownsRow w1.heap.size 9 1 Z l.length (l.flatMap strE):=aa_ own.o F;obtain⟨v9,w9,N,q,y⟩:=bI_ (enc:=strE) Tryz.underlying22 ax_ rfl (by decide) ad_ aH_ [q0,q1] G p.o (by decide) Q;have y:=f.trans y;clear G Q F f;go_wp2_with (at_builtin;refine ap_ (.tmp 99) (.tmp 112) 22 N ?_);have T:=z;clear p
         try clear R
         have aB:=H_ y;have q:=H_ q;rename_i aC;clear aC y D;go_roundw
         ·exact⟨i+1,_,_,by omega,by go_num,rfl,q,T,aB⟩
         ·simp [intOf];omega
        ·obtain rfl:nT=i:=by omega
         have j:=L.o;rw [List.drop_eq_nil_of_le (by rw [LT.o];omega),List.flatMap_nil,List.nil_append] at j;have j:=H_ j;clear L;have L:=j;rename_i s;clear j s z0 M hi S
         go_wp2
         go_loopw [8,3] (fun iv v wr=> ∃ (i:Nat) (Z:Value) (l:List Str),i<=nH/\iv= .int .i64 i/\Z=v/\Hd (wr.ownsRow w1.heap.size 9 1 v l.length (l.flatMap (strE)))/\Hd (l++((X.hazs.drop i).flatMap hN++([]))=aT_ X)/\Hd (Below w1.heap.size w1 wr)) (fun iv _ _=>nH-(intOf iv).toNat)
         ·exact⟨0,_,_,Nat.zero_le _,rfl,rfl,own,L,D⟩
         ·clear own L D;obtain⟨i,Z,l,hi,rfl,Y,own,L,D⟩:=hrel;subst Y;have y0:=(k.o.below D.o).cell 6 rfl;have z0:=k.o.cell 6 rfl;have M:=D.o.size;by_cases S:i<nH
          ·have aE:(i:Int)<(nH:Int):=by omega
           obtain⟨b,o,⟨q0,q1,q2,q3,q4⟩,rfl,P,hx,a⟩:=aX.o.get S;have f0:=a 0 _ rfl;have f1:=a 1 _ rfl;simp only [Nat.add_zero] at f0 f1;have z:(l++[q0,q1])++((X.hazs.drop (i+1)).flatMap hN++([]))=aT_ X:=by rw [<-L.o,a1_ hx];simp [hN]
           have p:Hd (l.length+([q0,q1]).length <=1099511627776):=by
            have h:=congrArg List.length z;rw [List.length_append,List.length_append] at h;have:=aF.o;show _<=_;omega
           have z:=H_ z;rename_i d;clear d hx a L;generalize Y:Z=Z at own
           go_wp2
           refine wl_ [0,0,0,0,0,0,0,0,0,0,0,0,0,2,2,2] ?_;intro C hC;simp only [af_,Nat.reduceEqDiff, ↓reduceIte]
           repeat(go_big_quiet_step (first
            |(intro _;with_reducible rfl)
            |(intro a;have J:=b_ D a;simp only [(k.o.below J).cell 6 rfl,c_ J P f0,c_ J P f1,Result.andThen];exact⟨trivial,rfl⟩)))
           clear hC;intro C' aA;clear aA;intro wq F;have f:=b_ D F;have Q:w1.heap.size<=wq.heap.size:=f.size;have G:wq.ownsRow w1.heap.size 9 1 Z l.length (l.flatMap strE):=aa_ own.o F;obtain⟨v9,w9,N,q,y⟩:=bI_ (enc:=strE) Tryz.underlying22 ax_ rfl (by decide) ad_ aH_ [q0,q1] G p.o (by decide) Q;have y:=f.trans y;clear G Q F f;go_wp2_with (at_builtin;refine ap_ (.tmp 121) (.tmp 134) 22 N ?_);have T:=z;clear p
           try clear R
           have aB:=H_ y;have q:=H_ q;rename_i aC;clear aC y D;go_roundw
           ·exact⟨i+1,_,_,by omega,by go_num,rfl,q,T,aB⟩
           ·simp [intOf];omega
          ·obtain rfl:nH=i:=by omega
           have j:=L.o;rw [List.drop_eq_nil_of_le (by rw [LH.o];omega),List.flatMap_nil,List.nil_append] at j;have j:=H_ j;clear L;have L:=j;rename_i s;clear j s z0 M hi S
           go_wp2
           go_returns;obtain⟨A,c,rfl,r1,r2,r3⟩:=Rd.of_own ad_ rfl own.o;have aO:=L.o;rw [List.append_nil] at aO;subst aO;exact⟨A,_,c,rfl,r1,r2,r3,bB.o _ D.o⟩
set_option maxRecDepth 100000 in
theorem nZ_ (X:ay_) (V:SV) (we:World) (hr:RS we X V) (hf:FewS X):
 Calls Tryz.prog 214 #[sVal X V] we fun e w'=> ∃ A n c,e= .returned (.slice A n c)/\Rd w' 1 (numE .i64) A n (aU_ X)/\n<=c/\c<=9223372036854775807/\Below we.heap.size we w':=by
 obtain⟨a0,aP,aD,aR,aT,aH,n0,nP,nD,nR,nT,nH,c0,cP,cD,cR,cT,cH⟩:=V;have LP:Hd (X.paths.length=nP):=hr.rP.len;have LD:Hd (X.doors.length=nD):=hr.rD.len;have LR:Hd (X.routes.length=nR):=hr.rR.len;have LT:Hd (X.trips.length=nT):=hr.rT.len;have LH:Hd (X.hazs.length=nH):=hr.rH.len;have l0:X.stops.length=n0:=hr.r0.len;have L0:=H_ l0;have aF:=H_ (gz_ hf);have mP:nP<=100000:=by have:=hf.sP;have:=LP.o;omega
 have mD:nD<=100000:=by have:=hf.sD;have:=LD.o;omega
 have mR:nR<=100000:=by have:=hf.sR;have:=LR.o;omega
 have mT:nT<=100000:=by have:=hf.sT;have:=LT.o;omega
 have mH:nH<=100000:=by have:=hf.sH;have:=LH.o;omega
 have m0:n0<=100000:=by have:=hf.s0;omega
 obtain⟨hz,aN⟩:=e_ X.hz;have aU:=H_ aN;simp only [sVal];rw [aN];obtain⟨w1,bI,aM,s⟩:=box0 we 136 [.int .i64 hz,.slice a0 n0 c0,.slice aP nP cP,.slice aD nD cD,.slice aR nR cR,.slice aT nT cT,.slice aH nH cH];obtain⟨bn,aY⟩:=e_ we.heap.size;rw [aY] at s;have bE:Hd (∀ U,Below w1.heap.size w1 U ->Below we.heap.size we U):=fun U hU=>u_ aM hU;have hR:=hr.below aM;have bH:Hd (Rd w1 1 strE a0 n0 X.stops):=hR.r0;have bB:Hd (Rd w1 4 aR_ aP nP X.paths):=hR.rP;have aZ:Hd (Rd w1 7 aQ_ aD nD X.doors):=hR.rD;have bC:Hd (bD_ w1 aR nR X.routes):=hR.rR;have bD:Hd (Rd w1 5 aS_ aT nT X.trips):=hR.rT;have bA:Hd (Rd w1 5 a2_ aH nH X.hazs):=hR.rH;have bJ:=s.lt;have p0:=s.cell 0 rfl;have p1:=s.cell 1 rfl;have s:=H_ s;rename_i aV;clear aV hr hf aM aN hR l0;go_enter Tryz.func214,Tryz.ntmps214
 have own:=World.ownsRow_made (base:=w1.heap.size) (e:=2) (size:=1) w1 #[.int .i64 hz] 1 (Nat.le_refl _) (by rw [ce_];omega) rfl
 have own:Hd ((w1.alloc (.cells #[.int .i64 hz] 2)).ownsRow w1.heap.size 2 1 (.slice (some ⟨w1.heap.size,0,none⟩) 1 1) [X.hz].length ([X.hz].flatMap (numE .i64))):=by
  rw [aU.o];exact⟨rfl,.inr ⟨w1.heap.size,1,#[.int .i64 hz],rfl,Nat.le_refl _,heap_alloc_new w1 _,Nat.le_refl _,by rw [ce_];decide,rfl,rfl⟩⟩
 have F:Hd (Below w1.heap.size w1 (w1.alloc (.cells #[.int .i64 hz] 2))):=ag_ w1 #[.int .i64 hz] 2;have G:Hd ([X.hz]++((X.paths.drop 0).flatMap pI++(X.doors.flatMap dI++(X.routes.flatMap rI++(X.trips.flatMap tI++(X.hazs.flatMap hI++([]))))))=aU_ X):=rfl;rename_i aO;clear aO
 go_wp2
 go_loopw [4,3] (fun iv v wr=> ∃ (i:Nat) (T:Value) (l:List Int),i<=nP/\iv= .int .i64 i/\T=v/\Hd (wr.ownsRow w1.heap.size 2 1 v l.length (l.flatMap (numE .i64)))/\Hd (l++((X.paths.drop i).flatMap pI++(X.doors.flatMap dI++(X.routes.flatMap rI++(X.trips.flatMap tI++(X.hazs.flatMap hI++([]))))))=aU_ X)/\Hd (Below w1.heap.size w1 wr)) (fun iv _ _=>nP-(intOf iv).toNat)
 ·exact⟨0,_,_,Nat.zero_le _,rfl,rfl,own,G,F⟩
 ·clear own G F;obtain⟨i,T,l,hi,rfl,S,own,G,F⟩:=hrel;subst S;have y0:=(s.o.below F.o).cell 2 rfl;have z0:=s.o.cell 2 rfl;have D:=F.o.size;by_cases Q:i<nP
  ·have aE:(i:Int)<(nP:Int):=by omega
   obtain⟨b,o,⟨q0,q1,q2,q3⟩,rfl,M,hx,Y⟩:=bB.o.get Q;have f3:=Y 3 _ rfl;simp only [Nat.add_zero] at f3;have y:(l++[q3])++((X.paths.drop (i+1)).flatMap pI++(X.doors.flatMap dI++(X.routes.flatMap rI++(X.trips.flatMap tI++(X.hazs.flatMap hI++([]))))))=aU_ X:=by rw [<-G.o,a1_ hx];simp [pI]
   have j:Hd (l.length+([q3]).length <=1099511627776):=by
    have h:=congrArg List.length y;rw [List.length_append,List.length_append] at h;have:=aF.o;show _<=_;omega
   have y:=H_ y;rename_i d;clear d hx Y G;have fw:=c_ F.o M f3;obtain⟨g,c9,w9,N,p,z,_⟩:=i7_ (enc:=numE .i64) Tryz.underlying45 bc_ rfl (by decide) aj_ bw_ q3 own.o j.o (by decide) F.o D 0;have aS:l.length+1=(l++[q3]).length :=by simp
   have p:Hd (w9.ownsRow w1.heap.size 2 1 (.slice (some ⟨g,0,none⟩) (l.length+1) c9) (l++[q3]).length ((l++[q3]).flatMap (numE .i64))):=by rw [<-aS];exact p
   have z:=H_ z;have N:(Builtin.append_ #[45,45] 45 #[T,.slice (some ⟨wr.heap.size,0,none⟩) 1 1]).run Tryz.prog (wr.alloc (.cells #[.int .i64 q3] 2))= .ok (.slice (some ⟨g,0,none⟩) (l.length+1) c9) w9:=N;clear aS j;rename_i aO bF bG;clear aO bF bG;go_wp2_with (at_builtin;refine ap_ (.tmp 19) (.tmp 26) 45 N ?_);go_roundw
   ·exact⟨i+1,_,_,by omega,by go_num,rfl,p,y,z⟩
   ·simp [intOf];omega
  ·obtain rfl:nP=i:=by omega
   have f:=G.o;rw [List.drop_eq_nil_of_le (by rw [LP.o];omega),List.flatMap_nil,List.nil_append] at f;have f:=H_ f;clear G;have G:=f;rename_i a;clear f a z0 D hi Q
   go_wp2
   go_loopw [5,3] (fun iv v wr=> ∃ (i:Nat) (T:Value) (l:List Int),i<=nD/\iv= .int .i64 i/\T=v/\Hd (wr.ownsRow w1.heap.size 2 1 v l.length (l.flatMap (numE .i64)))/\Hd (l++((X.doors.drop i).flatMap dI++(X.routes.flatMap rI++(X.trips.flatMap tI++(X.hazs.flatMap hI++([])))))=aU_ X)/\Hd (Below w1.heap.size w1 wr)) (fun iv _ _=>nD-(intOf iv).toNat)
   ·exact⟨0,_,_,Nat.zero_le _,rfl,rfl,own,G,F⟩
   ·clear own G F;obtain⟨i,T,l,hi,rfl,S,own,G,F⟩:=hrel;subst S;have y0:=(s.o.below F.o).cell 3 rfl;have z0:=s.o.cell 3 rfl;have D:=F.o.size;by_cases Q:i<nD
    ·have aE:(i:Int)<(nD:Int):=by omega
     obtain⟨b,o,⟨q0,q1,q2,q3,q4,q5,q6⟩,rfl,M,hx,Y⟩:=aZ.o.get Q;have f3:=Y 3 _ rfl;have f4:=Y 4 _ rfl;have f5:=Y 5 _ rfl;have f6:=Y 6 _ rfl;simp only [Nat.add_zero] at f3 f4 f5 f6;have y:(l++[q3,q4,q5,q6])++((X.doors.drop (i+1)).flatMap dI++(X.routes.flatMap rI++(X.trips.flatMap tI++(X.hazs.flatMap hI++([])))))=aU_ X:=by rw [<-G.o,a1_ hx];simp [dI]
     have j:Hd (l.length+([q3,q4,q5,q6]).length <=1099511627776):=by
      have h:=congrArg List.length y;rw [List.length_append,List.length_append] at h;have:=aF.o;show _<=_;omega
     have y:=H_ y;rename_i d;clear d hx Y G;generalize S:T=T at own
     go_wp2
     refine wl_ [0,0,0,0,0,0,0,0,0,0,0,0,0,0,0,0,0,0,0,0,0,0,0,0,0,0,0,0,2,2,2] ?_;intro C hC;simp only [af_,Nat.reduceEqDiff, ↓reduceIte]
     repeat(go_big_quiet_step (first
      |(intro _;with_reducible rfl)
      |(intro Y;have J:=b_ F Y;simp only [(s.o.below J).cell 3 rfl,c_ J M f3,c_ J M f4,c_ J M f5,c_ J M f6,Result.andThen];exact⟨trivial,rfl⟩)))
     clear hC;intro C' aA;clear aA;intro wq L;have q:=b_ F L;have Z:w1.heap.size<=wq.heap.size:=q.size;have P:wq.ownsRow w1.heap.size 2 1 T l.length (l.flatMap (numE .i64)):=aa_ own.o L;obtain⟨v9,w9,N,p,z⟩:=bI_ (enc:=(numE .i64)) Tryz.underlying45 bc_ rfl (by decide) aj_ bw_ [q3,q4,q5,q6] P j.o (by decide) Z;have z:=q.trans z;clear P Z L q;go_wp2_with (at_builtin;refine ap_ (.tmp 35) (.tmp 63) 45 N ?_);have k:=y;clear j
     try clear R
     have aB:=H_ z;have p:=H_ p;rename_i aC;clear aC z F;go_roundw
     ·exact⟨i+1,_,_,by omega,by go_num,rfl,p,k,aB⟩
     ·simp [intOf];omega
    ·obtain rfl:nD=i:=by omega
     have f:=G.o;rw [List.drop_eq_nil_of_le (by rw [LD.o];omega),List.flatMap_nil,List.nil_append] at f;have f:=H_ f;clear G;have G:=f;rename_i a;clear f a z0 D hi Q
     go_wp2
     go_loopw [6,3] (fun iv v wr=> ∃ (i:Nat) (T:Value) (l:List Int),i<=nR/\iv= .int .i64 i/\T=v/\Hd (wr.ownsRow w1.heap.size 2 1 v l.length (l.flatMap (numE .i64)))/\Hd (l++((X.routes.drop i).flatMap rI++(X.trips.flatMap tI++(X.hazs.flatMap hI++([]))))=aU_ X)/\Hd (Below w1.heap.size w1 wr)) (fun iv _ _=>nR-(intOf iv).toNat)
     ·exact⟨0,_,_,Nat.zero_le _,rfl,rfl,own,G,F⟩
     ·clear own G F;obtain⟨i,T,l,hi,rfl,S,own,G,F⟩:=hrel;subst S;have y0:=(s.o.below F.o).cell 4 rfl;have z0:=s.o.cell 4 rfl;have D:=F.o.size;by_cases Q:i<nR
      ·have aE:(i:Int)<(nR:Int):=by omega
       obtain⟨b,o,r,rfl,M,hx,_,_,⟨s1,m1,d1,f1,aJ,_,_⟩,⟨s2,m2,d2,f2,aK,_,_⟩⟩:=bC.o.get Q;have y:(l++r.rides++r.stays)++((X.routes.drop (i+1)).flatMap rI++(X.trips.flatMap tI++(X.hazs.flatMap hI++([]))))=aU_ X:=by rw [<-G.o,a1_ hx];simp [rI]
       have R:Hd ((l++r.rides).length +m2<=1099511627776):=by
        have h:=congrArg List.length y;rw [List.length_append, @List.length_append _ (l++r.rides) r.stays,aK.len] at h;have:=aF.o;show _<=_;omega
       have j:Hd (l.length+m1<=1099511627776):=by
        have:=R.o;rw [List.length_append,aJ.len] at this;show _<=_;omega
       have y:=H_ y;have aJ:=H_ aJ;have aK:=H_ aK;rename_i aW aX a;clear aW aX a hx G;generalize S:T=T at own
       go_wp2
       refine eL_ w1.heap.size [0,0,0,0,0,0,0,3,0,0,0,0,0,0,2,2] (by kernel_rfl) (by kernel_rfl) F.o.size ?_;intro C hC;simp only [af_,aV_,Nat.reduceLeDiff,Nat.reduceEqDiff, ↓reduceIte]
       repeat(go_big_quiet_step (first
        |(intro _;with_reducible rfl)
        |(intro Y;have J:=F.o.trans Y;simp only [(s.o.below J).cell 4 rfl,c_ J M f1,c_ J M f2,Result.andThen];exact⟨trivial,rfl⟩)))
       clear hC;intro C' aA;clear aA;intro wq L;replace L:Below wr.heap.size wr wq:=by rw [L];exact⟨rfl,rfl,rfl,Nat.le_refl _,fun _ _=>rfl⟩
       have q:=b_ F L;have Z:w1.heap.size<=wq.heap.size:=q.size;have P:wq.ownsRow w1.heap.size 2 1 T l.length (l.flatMap (numE .i64)):=aa_ own.o L;obtain⟨v8,w8,aI,aL,aG⟩:=f7_ (enc:=(numE .i64)) Tryz.underlying45 bc_ rfl (by decide) aj_ bw_ d1 P (aJ.o.below q) j.o (by decide) Z;obtain⟨v9,w9,N,p,z⟩:=f7_ (enc:=(numE .i64)) Tryz.underlying45 bc_ rfl (by decide) aj_ bw_ d2 aL (aK.o.below (q.trans aG)) R.o (by decide) (Nat.le_trans Z aG.size);refine du_ rfl (.tmp 72) (.tmp 78) 45 rfl rfl rfl aI (fun _=>(L.mono F.o.size).trans aG) ?_;refine du_ rfl (.tmp 79) (.tmp 85) 45 rfl rfl rfl N (fun h=>nomatch h) ?_;refine dr_ _ _ _ (by simp) ?_;simp only [List.map_cons,List.map_nil];have z:=(q.trans aG).trans z;clear P Z L q aI aL aG;go_wp2_with fail;have k:=y;clear j
       try clear R
       have aB:=H_ z;have p:=H_ p;rename_i aC;clear aC z F;go_roundw
       ·exact⟨i+1,_,_,by omega,by go_num,rfl,p,k,aB⟩
       ·simp [intOf];omega
      ·obtain rfl:nR=i:=by omega
       have f:=G.o;rw [List.drop_eq_nil_of_le (by rw [LR.o];omega),List.flatMap_nil,List.nil_append] at f;have f:=H_ f;clear G;have G:=f;rename_i a;clear f a z0 D hi Q
       go_wp2
       go_loopw [7,3] (fun iv v wr=> ∃ (i:Nat) (T:Value) (l:List Int),i<=nT/\iv= .int .i64 i/\T=v/\Hd (wr.ownsRow w1.heap.size 2 1 v l.length (l.flatMap (numE .i64)))/\Hd (l++((X.trips.drop i).flatMap tI++(X.hazs.flatMap hI++([])))=aU_ X)/\Hd (Below w1.heap.size w1 wr)) (fun iv _ _=>nT-(intOf iv).toNat)
       ·exact⟨0,_,_,Nat.zero_le _,rfl,rfl,own,G,F⟩
       ·clear own G F;obtain⟨i,T,l,hi,rfl,S,own,G,F⟩:=hrel;subst S;have y0:=(s.o.below F.o).cell 5 rfl;have z0:=s.o.cell 5 rfl;have D:=F.o.size;by_cases Q:i<nT
        ·have aE:(i:Int)<(nT:Int):=by omega
         obtain⟨b,o,⟨q0,q1,q2,q3,q4⟩,rfl,M,hx,Y⟩:=bD.o.get Q;have f2:=Y 2 _ rfl;have f3:=Y 3 _ rfl;have f4:=Y 4 _ rfl;simp only [Nat.add_zero] at f2 f3 f4;have y:(l++[q2,q3,q4])++((X.trips.drop (i+1)).flatMap tI++(X.hazs.flatMap hI++([])))=aU_ X:=by rw [<-G.o,a1_ hx];simp [tI]
         have j:Hd (l.length+([q2,q3,q4]).length <=1099511627776):=by
          have h:=congrArg List.length y;rw [List.length_append,List.length_append] at h;have:=aF.o;show _<=_;omega
         have y:=H_ y;rename_i d;clear d hx Y G;generalize S:T=T at own
         go_wp2
         refine wl_ [0,0,0,0,0,0,0,0,0,0,0,0,0,0,0,0,0,0,0,2,2,2] ?_;intro C hC;simp only [af_,Nat.reduceEqDiff, ↓reduceIte]
         repeat(go_big_quiet_step (first
          |(intro _;with_reducible rfl)
          |(intro Y;have J:=b_ F Y;simp only [(s.o.below J).cell 5 rfl,c_ J M f2,c_ J M f3,c_ J M f4,Result.andThen];exact⟨trivial,rfl⟩)))
         clear hC;intro C' aA;clear aA;intro wq L;have q:=b_ F L;have Z:w1.heap.size<=wq.heap.size:=q.size;have P:wq.ownsRow w1.heap.size 2 1 T l.length (l.flatMap (numE .i64)):=aa_ own.o L;obtain⟨v9,w9,N,p,z⟩:=bI_ (enc:=(numE .i64)) Tryz.underlying45 bc_ rfl (by decide) aj_ bw_ [q2,q3,q4] P j.o (by decide) Z;have z:=q.trans z;clear P Z L q;go_wp2_with (at_builtin;refine ap_ (.tmp 94) (.tmp 113) 45 N ?_);have k:=y;clear j
         try clear R
         have aB:=H_ z;have p:=H_ p;rename_i aC;clear aC z F;go_roundw
         ·exact⟨i+1,_,_,by omega,by go_num,rfl,p,k,aB⟩
         ·simp [intOf];omega
        ·obtain rfl:nT=i:=by omega
         have f:=G.o;rw [List.drop_eq_nil_of_le (by rw [LT.o];omega),List.flatMap_nil,List.nil_append] at f;have f:=H_ f;clear G;have G:=f;rename_i a;clear f a z0 D hi Q
         go_wp2
         go_loopw [8,3] (fun iv v wr=> ∃ (i:Nat) (T:Value) (l:List Int),i<=nH/\iv= .int .i64 i/\T=v/\Hd (wr.ownsRow w1.heap.size 2 1 v l.length (l.flatMap (numE .i64)))/\Hd (l++((X.hazs.drop i).flatMap hI++([]))=aU_ X)/\Hd (Below w1.heap.size w1 wr)) (fun iv _ _=>nH-(intOf iv).toNat)
         ·exact⟨0,_,_,Nat.zero_le _,rfl,rfl,own,G,F⟩
         ·clear own G F;obtain⟨i,T,l,hi,rfl,S,own,G,F⟩:=hrel;subst S;have y0:=(s.o.below F.o).cell 6 rfl;have z0:=s.o.cell 6 rfl;have D:=F.o.size;by_cases Q:i<nH
          ·have aE:(i:Int)<(nH:Int):=by omega
           obtain⟨b,o,⟨q0,q1,q2,q3,q4⟩,rfl,M,hx,Y⟩:=bA.o.get Q;have f2:=Y 2 _ rfl;have f3:=Y 3 _ rfl;have f4:=Y 4 _ rfl;simp only [Nat.add_zero] at f2 f3 f4;have y:(l++[q2,q3,q4])++((X.hazs.drop (i+1)).flatMap hI++([]))=aU_ X:=by rw [<-G.o,a1_ hx];simp [hI]
           have j:Hd (l.length+([q2,q3,q4]).length <=1099511627776):=by
            have h:=congrArg List.length y;rw [List.length_append,List.length_append] at h;have:=aF.o;show _<=_;omega
           have y:=H_ y;rename_i d;clear d hx Y G;generalize S:T=T at own
           go_wp2
           refine wl_ [0,0,0,0,0,0,0,0,0,0,0,0,0,0,0,0,0,0,0,0,0,0,2,2,2] ?_;intro C hC;simp only [af_,Nat.reduceEqDiff, ↓reduceIte]
           repeat(go_big_quiet_step (first
            |(intro _;with_reducible rfl)
            |(intro Y;have J:=b_ F Y;simp only [(s.o.below J).cell 6 rfl,c_ J M f2,c_ J M f3,c_ J M f4,Result.andThen];exact⟨trivial,rfl⟩)))
           clear hC;intro C' aA;clear aA;intro wq L;have q:=b_ F L;have Z:w1.heap.size<=wq.heap.size:=q.size;have P:wq.ownsRow w1.heap.size 2 1 T l.length (l.flatMap (numE .i64)):=aa_ own.o L;obtain⟨v9,w9,N,p,z⟩:=bI_ (enc:=(numE .i64)) Tryz.underlying45 bc_ rfl (by decide) aj_ bw_ [q2,q3,q4] P j.o (by decide) Z;have z:=q.trans z;clear P Z L q;go_wp2_with (at_builtin;refine ap_ (.tmp 122) (.tmp 144) 45 N ?_);have k:=y;clear j
           try clear R
           have aB:=H_ z;have p:=H_ p;rename_i aC;clear aC z F;go_roundw
           ·exact⟨i+1,_,_,by omega,by go_num,rfl,p,k,aB⟩
           ·simp [intOf];omega
          ·obtain rfl:nH=i:=by omega
           have f:=G.o;rw [List.drop_eq_nil_of_le (by rw [LH.o];omega),List.flatMap_nil,List.nil_append] at f;have f:=H_ f;clear G;have G:=f;rename_i a;clear f a z0 D hi Q
           go_wp2
           go_returns;obtain⟨A,c,rfl,r1,r2,r3⟩:=Rd.of_own aj_ rfl own.o;have aQ:=G.o;rw [List.append_nil] at aQ;subst aQ;exact⟨A,_,c,rfl,r1,r2,r3,bE.o _ F.o⟩
