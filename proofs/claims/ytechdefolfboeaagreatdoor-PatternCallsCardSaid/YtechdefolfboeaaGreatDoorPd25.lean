/- Merged. -/
import Derived.Test.YtechdefolfboeaaGreatDoorRows
import Derived.LaidMore
import Derived.SevenTiedAt
import Derived.Test.YtechdefolfboeaaGreatDoorPd24
set_option linter.unusedVariables false
set_option linter.unusedSimpArgs false
set_option maxRecDepth 100000
namespace Go.Proofs.YtechdefolfboeaaGreatDoor.B
open Go.RowKit Go.ChangeShapes Go.WideShapes Go.Deep Go.Joins
instance:Inhabited cc_:=⟨⟨0,0,0,0,0,0⟩⟩
instance:Inhabited bM_:=⟨⟨0,0,0,0⟩⟩
instance:Inhabited HazP:=⟨⟨false,0,0,0,0⟩⟩
instance:Inhabited ba_:=⟨⟨[],[],[]⟩⟩
section
variable {H:Type} {encH:TypeId×Value ->H} {w:World} {base:Nat} {spare:Nat ->Bool} {held:Bool}
def IC (cs:List Value):Prop:= ∃ a,cs=[.int .i64 a]/\(Lit.int .i64 a).wf =true
def BC (cs:List Value):Prop:= ∃ a,cs=[.bool a]
def SC (cs:List Value):Prop:= ∃ a:Str,cs=[.string a]
def LC (w:World) (k:Nat) (R:List Value ->Prop) (cs:List Value):Prop:= ∃ A n c,cs=[.slice A n c]/\n<=c/\c<=9223372036854775807/\SlOf w k R A n
def gt_ (w:World) (cs:List Value):Prop:=cs.length=3/\IC ((cs.drop 0).take 1)/\IC ((cs.drop 1).take 1)/\IC ((cs.drop 2).take 1)
theorem hQ_:Dc encH Tryz.prog w base spare held 102 (gt_ w):=Dc.and (Dc.len Tryz.underlying102 (by kernel_rfl)) (Dc.and (Dc.fld 0 0 1 _ Tryz.underlying102 rfl rfl (by kernel_rfl) (Dc.int Tryz.underlying2)) (Dc.and (Dc.fld 1 1 1 _ Tryz.underlying102 rfl rfl (by kernel_rfl) (Dc.int Tryz.underlying2)) (Dc.fld 2 2 1 _ Tryz.underlying102 rfl rfl (by kernel_rfl) (Dc.int Tryz.underlying2))))
def hx_ (w:World) (cs:List Value):Prop:=cs.length=3/\IC ((cs.drop 0).take 1)/\IC ((cs.drop 1).take 1)/\IC ((cs.drop 2).take 1)
theorem nt_:Dc encH Tryz.prog w base spare held 99 (hx_ w):=Dc.and (Dc.len Tryz.underlying99 (by kernel_rfl)) (Dc.and (Dc.fld 0 0 1 _ Tryz.underlying99 rfl rfl (by kernel_rfl) (Dc.int Tryz.underlying3)) (Dc.and (Dc.fld 1 1 1 _ Tryz.underlying99 rfl rfl (by kernel_rfl) (Dc.int Tryz.underlying3)) (Dc.fld 2 2 1 _ Tryz.underlying99 rfl rfl (by kernel_rfl) (Dc.int Tryz.underlying2))))
def hw_ (w:World) (cs:List Value):Prop:=cs.length=6/\IC ((cs.drop 0).take 1)/\IC ((cs.drop 1).take 1)/\IC ((cs.drop 2).take 1)/\(gt_ w) ((cs.drop 3).take 3)
theorem ns_:Dc encH Tryz.prog w base spare held 104 (hw_ w):=Dc.and (Dc.len Tryz.underlying104 (by kernel_rfl)) (Dc.and (Dc.fld 0 0 1 _ Tryz.underlying104 rfl rfl (by kernel_rfl) (Dc.int Tryz.underlying3)) (Dc.and (Dc.fld 1 1 1 _ Tryz.underlying104 rfl rfl (by kernel_rfl) (Dc.int Tryz.underlying3)) (Dc.and (Dc.fld 2 2 1 _ Tryz.underlying104 rfl rfl (by kernel_rfl) (Dc.int Tryz.underlying2)) (Dc.fld 3 3 3 _ Tryz.underlying104 rfl rfl (by kernel_rfl) hQ_))))
def gs_ (w:World) (cs:List Value):Prop:=cs.length=3/\LC w 1 IC ((cs.drop 0).take 1)/\LC w 1 IC ((cs.drop 1).take 1)/\LC w 1 IC ((cs.drop 2).take 1)
theorem l6_:Dc encH Tryz.prog w base spare held 51 (gs_ w):=Dc.and (Dc.len Tryz.underlying51 (by kernel_rfl)) (Dc.and (Dc.fld 0 0 1 _ Tryz.underlying51 rfl rfl (by kernel_rfl) (Dc.sl 1 Tryz.underlying49 (by kernel_rfl) (by decide) (Dc.int Tryz.underlying3))) (Dc.and (Dc.fld 1 1 1 _ Tryz.underlying51 rfl rfl (by kernel_rfl) (Dc.sl 1 Tryz.underlying45 (by kernel_rfl) (by decide) (Dc.int Tryz.underlying2))) (Dc.fld 2 2 1 _ Tryz.underlying51 rfl rfl (by kernel_rfl) (Dc.sl 1 Tryz.underlying45 (by kernel_rfl) (by decide) (Dc.int Tryz.underlying2)))))
def hy_ (w:World) (cs:List Value):Prop:=cs.length=4/\IC ((cs.drop 0).take 1)/\IC ((cs.drop 1).take 1)/\IC ((cs.drop 2).take 1)/\IC ((cs.drop 3).take 1)
theorem nu_:Dc encH Tryz.prog w base spare held 53 (hy_ w):=Dc.and (Dc.len Tryz.underlying53 (by kernel_rfl)) (Dc.and (Dc.fld 0 0 1 _ Tryz.underlying53 rfl rfl (by kernel_rfl) (Dc.int Tryz.underlying3)) (Dc.and (Dc.fld 1 1 1 _ Tryz.underlying53 rfl rfl (by kernel_rfl) (Dc.int Tryz.underlying2)) (Dc.and (Dc.fld 2 2 1 _ Tryz.underlying53 rfl rfl (by kernel_rfl) (Dc.int Tryz.underlying2)) (Dc.fld 3 3 1 _ Tryz.underlying53 rfl rfl (by kernel_rfl) (Dc.int Tryz.underlying2)))))
def iC_ (w:World) (cs:List Value):Prop:=cs.length=5/\BC ((cs.drop 0).take 1)/\IC ((cs.drop 1).take 1)/\(gt_ w) ((cs.drop 2).take 3)
theorem oJ_:Dc encH Tryz.prog w base spare held 108 (iC_ w):=Dc.and (Dc.len Tryz.underlying108 (by kernel_rfl)) (Dc.and (Dc.fld 0 0 1 _ Tryz.underlying108 rfl rfl (by kernel_rfl) (Dc.bool Tryz.underlying4)) (Dc.and (Dc.fld 1 1 1 _ Tryz.underlying108 rfl rfl (by kernel_rfl) (Dc.int Tryz.underlying3)) (Dc.fld 2 2 3 _ Tryz.underlying108 rfl rfl (by kernel_rfl) hQ_)))
def iD_ (w:World) (cs:List Value):Prop:=cs.length=6/\LC w 1 SC ((cs.drop 0).take 1)/\LC w 1 SC ((cs.drop 1).take 1)/\LC w 1 SC ((cs.drop 2).take 1)/\LC w 1 SC ((cs.drop 3).take 1)/\LC w 1 SC ((cs.drop 4).take 1)/\LC w 1 SC ((cs.drop 5).take 1)
theorem l5_:Dc encH Tryz.prog w base spare held 24 (iD_ w):=Dc.and (Dc.len Tryz.underlying24 (by kernel_rfl)) (Dc.and (Dc.fld 0 0 1 _ Tryz.underlying24 rfl rfl (by kernel_rfl) (Dc.sl 1 Tryz.underlying22 (by kernel_rfl) (by decide) (Dc.str Tryz.underlying9))) (Dc.and (Dc.fld 1 1 1 _ Tryz.underlying24 rfl rfl (by kernel_rfl) (Dc.sl 1 Tryz.underlying22 (by kernel_rfl) (by decide) (Dc.str Tryz.underlying9))) (Dc.and (Dc.fld 2 2 1 _ Tryz.underlying24 rfl rfl (by kernel_rfl) (Dc.sl 1 Tryz.underlying22 (by kernel_rfl) (by decide) (Dc.str Tryz.underlying9))) (Dc.and (Dc.fld 3 3 1 _ Tryz.underlying24 rfl rfl (by kernel_rfl) (Dc.sl 1 Tryz.underlying22 (by kernel_rfl) (by decide) (Dc.str Tryz.underlying9))) (Dc.and (Dc.fld 4 4 1 _ Tryz.underlying24 rfl rfl (by kernel_rfl) (Dc.sl 1 Tryz.underlying22 (by kernel_rfl) (by decide) (Dc.str Tryz.underlying9))) (Dc.fld 5 5 1 _ Tryz.underlying24 rfl rfl (by kernel_rfl) (Dc.sl 1 Tryz.underlying22 (by kernel_rfl) (by decide) (Dc.str Tryz.underlying9))))))))
def nb_ (w:World) (cs:List Value):Prop:=cs.length=12/\IC ((cs.drop 0).take 1)/\(iD_ w) ((cs.drop 1).take 6)/\LC w 3 (hx_ w) ((cs.drop 7).take 1)/\LC w 6 (hw_ w) ((cs.drop 8).take 1)/\LC w 3 (gs_ w) ((cs.drop 9).take 1)/\LC w 4 (hy_ w) ((cs.drop 10).take 1)/\LC w 5 (iC_ w) ((cs.drop 11).take 1)
theorem l7_:Dc encH Tryz.prog w base spare held 31 (nb_ w):=Dc.and (Dc.len Tryz.underlying31 (by kernel_rfl)) (Dc.and (Dc.fld 0 0 1 _ Tryz.underlying31 rfl rfl (by kernel_rfl) (Dc.int Tryz.underlying2)) (Dc.and (Dc.fld 1 1 6 _ Tryz.underlying31 rfl rfl (by kernel_rfl) l5_) (Dc.and (Dc.fld 2 7 1 _ Tryz.underlying31 rfl rfl (by kernel_rfl) (Dc.sl 3 Tryz.underlying25 (by kernel_rfl) (by decide) nt_)) (Dc.and (Dc.fld 3 8 1 _ Tryz.underlying31 rfl rfl (by kernel_rfl) (Dc.sl 6 Tryz.underlying26 (by kernel_rfl) (by decide) ns_)) (Dc.and (Dc.fld 4 9 1 _ Tryz.underlying31 rfl rfl (by kernel_rfl) (Dc.sl 3 Tryz.underlying27 (by kernel_rfl) (by decide) l6_)) (Dc.and (Dc.fld 5 10 1 _ Tryz.underlying31 rfl rfl (by kernel_rfl) (Dc.sl 4 Tryz.underlying28 (by kernel_rfl) (by decide) nu_)) (Dc.fld 6 11 1 _ Tryz.underlying31 rfl rfl (by kernel_rfl) (Dc.sl 5 Tryz.underlying29 (by kernel_rfl) (by decide) oJ_))))))))
def iE_ (w:World) (cs:List Value):Prop:=cs.length=4/\IC ((cs.drop 0).take 1)/\IC ((cs.drop 1).take 1)/\LC w 1 IC ((cs.drop 2).take 1)/\LC w 1 IC ((cs.drop 3).take 1)
theorem oL_:Dc encH Tryz.prog w base spare held 47 (iE_ w):=Dc.and (Dc.len Tryz.underlying47 (by kernel_rfl)) (Dc.and (Dc.fld 0 0 1 _ Tryz.underlying47 rfl rfl (by kernel_rfl) (Dc.int Tryz.underlying3)) (Dc.and (Dc.fld 1 1 1 _ Tryz.underlying47 rfl rfl (by kernel_rfl) (Dc.int Tryz.underlying3)) (Dc.and (Dc.fld 2 2 1 _ Tryz.underlying47 rfl rfl (by kernel_rfl) (Dc.sl 1 Tryz.underlying45 (by kernel_rfl) (by decide) (Dc.int Tryz.underlying2))) (Dc.fld 3 3 1 _ Tryz.underlying47 rfl rfl (by kernel_rfl) (Dc.sl 1 Tryz.underlying45 (by kernel_rfl) (by decide) (Dc.int Tryz.underlying2))))))
def lE_ (w:World) (cs:List Value):Prop:=cs.length=2/\IC ((cs.drop 0).take 1)/\LC w 1 IC ((cs.drop 1).take 1)
theorem oK_:Dc encH Tryz.prog w base spare held 68 (lE_ w):=Dc.and (Dc.len Tryz.underlying68 (by kernel_rfl)) (Dc.and (Dc.fld 0 0 1 _ Tryz.underlying68 rfl rfl (by kernel_rfl) (Dc.int Tryz.underlying3)) (Dc.fld 1 1 1 _ Tryz.underlying68 rfl rfl (by kernel_rfl) (Dc.sl 1 Tryz.underlying49 (by kernel_rfl) (by decide) (Dc.int Tryz.underlying3))))
theorem n2_ {cs:List Value} (h:hx_ w cs): ∃ y:Int×Int×Int,cs=az_ y/\True:=by
 obtain⟨D,z⟩:=h
 obtain⟨f,g,j,rfl⟩: ∃ f g j,cs=[f,g,j]:=by
  match cs,D with
  |[f,g,j],_=>exact⟨f,g,j,rfl⟩
 obtain⟨⟨F,n,w0⟩,⟨G,p,w1⟩,⟨J,q,w2⟩⟩:=z;simp only [List.drop_zero,List.drop_succ_cons,List.take_succ_cons,List.take_zero,List.cons.injEq,and_true] at n p q;subst n p q;exact⟨(F,G,J),rfl,trivial⟩
theorem n1_ {cs:List Value} (h:hw_ w cs): ∃ y:cc_,cs=aJ_ y/\True:=by
 obtain⟨N,M⟩:=h
 obtain⟨f,g,j,n,p,q,rfl⟩: ∃ f g j n p q,cs=[f,g,j,n,p,q]:=by
  match cs,N with
  |[f,g,j,n,p,q],_=>exact⟨f,g,j,n,p,q,rfl⟩
 obtain⟨⟨Q,z,w0⟩,⟨R,D,w1⟩,⟨S,F,w2⟩,⟨_,P⟩⟩:=M;obtain⟨⟨T,G,w3⟩,⟨U,J,w4⟩,⟨X,L,w5⟩⟩:=P;simp only [List.drop_zero,List.drop_succ_cons,List.take_succ_cons,List.take_zero,List.cons.injEq,and_true] at z D F G J L;subst z D F G J L;exact⟨⟨Q,R,S,T,U,X⟩,rfl,trivial⟩
theorem n3_ {cs:List Value} (h:hy_ w cs): ∃ y:bM_,cs=aL_ y/\(Lit.int .i64 y.route).wf =true/\(Lit.int .i64 y.fr).wf =true/\(Lit.int .i64 y.ev).wf =true/\(Lit.int .i64 y.un).wf =true:=by
 obtain⟨G,F⟩:=h
 obtain⟨f,g,j,n,rfl⟩: ∃ f g j n,cs=[f,g,j,n]:=by
  match cs,G with
  |[f,g,j,n],_=>exact⟨f,g,j,n,rfl⟩
 obtain⟨⟨J,p,w0⟩,⟨L,q,w1⟩,⟨M,z,w2⟩,⟨N,D,w3⟩⟩:=F;simp only [List.drop_zero,List.drop_succ_cons,List.take_succ_cons,List.take_zero,List.cons.injEq,and_true] at p q z D;subst p q z D;exact⟨⟨J,L,M,N⟩,rfl,w0,w1,w2,w3⟩
theorem oU_ {cs:List Value} (h:iC_ w cs): ∃ y:HazP,cs=hazE y/\True:=by
 obtain⟨L,J⟩:=h
 obtain⟨f,g,j,n,p,rfl⟩: ∃ f g j n p,cs=[f,g,j,n,p]:=by
  match cs,L with
  |[f,g,j,n,p],_=>exact⟨f,g,j,n,p,rfl⟩
 obtain⟨⟨N,q⟩,⟨P,z,w1⟩,⟨_,M⟩⟩:=J;obtain⟨⟨Q,D,w2⟩,⟨R,F,w3⟩,⟨S,G,w4⟩⟩:=M;simp only [List.drop_zero,List.drop_succ_cons,List.take_succ_cons,List.take_zero,List.cons.injEq,and_true] at q z D F G;subst q z D F G;exact⟨⟨N,P,Q,R,S⟩,rfl,trivial⟩
theorem mA_ {cs:List Value} {b o:Nat} (h:gs_ w cs) (hb:b<w.heap.size) (hat: ∀ (j:Nat) (u:Value),cs[j]?=some u ->w.cell? ⟨b,o+j,none⟩=some u): ∃ y:ba_,SlAt w b o y.stops/\SlAt w b (o+1) y.rides/\SlAt w b (o+2) y.stays:=by
 obtain⟨S,R⟩:=h
 obtain⟨f,g,n,rfl⟩: ∃ f g n,cs=[f,g,n]:=by
  match cs,S with
  |[f,g,n],_=>exact⟨f,g,n,rfl⟩
 obtain⟨⟨D,c,J,p,N,T,s⟩,⟨F,d,L,q,P,U,s1⟩,⟨G,e,M,z,Q,X,s2⟩⟩:=R;simp only [List.drop_zero,List.drop_succ_cons,List.take_succ_cons,List.take_zero,List.cons.injEq,and_true] at p q z;subst p q z;obtain⟨Y,i,_⟩:=s.nums;obtain⟨Z,k,_⟩:=s1.nums;obtain⟨a,r,_⟩:=s2.nums;exact⟨⟨Y,Z,a⟩,⟨D,c,J,hat 0 _ rfl,i,N,T⟩,⟨F,d,L,hat 1 _ rfl,k,P,U⟩,⟨G,e,M,hat 2 _ rfl,r,Q,X⟩⟩
def WfM (M:ab_):Prop:= ∀ y∈M.trips,(Lit.int .i64 y.route).wf =true/\(Lit.int .i64 y.fr).wf =true/\(Lit.int .i64 y.ev).wf =true/\(Lit.int .i64 y.un).wf =true
theorem k1_ {r:Reach} {b0:Nat} {v:Value} {d:DataW H} {p:List MemPlace} (hv:Value.okWide Tryz.prog w r b0 31 v) (h:DataW.Trod encH Tryz.prog w base spare held 31 v d p): ∃ M V,v=wVal M V/\RW w M V/\WfM M:=by
 obtain⟨f,rfl,_,hl,hR⟩:=oV_ Tryz.underlying31 l7_ hv h
 obtain⟨g,j,n,q,z,D,F,G,J,L,N,P,rfl⟩: ∃ g j n q z D F G J L N P,f=[g,j,n,q,z,D,F,G,J,L,N,P]:=by
  match f,hl with
  |[g,j,n,q,z,D,F,G,J,L,N,P],_=>exact⟨g,j,n,q,z,D,F,G,J,L,N,P,rfl⟩
 obtain⟨⟨hz,T,_⟩,⟨_,⟨A0,n0,c0,c,_,_,s0⟩,⟨A1,n1,c1,e,_,_,s1⟩,⟨A2,n2,c2,i,_,_,s2⟩,⟨A3,n3,c3,k,_,_,s3⟩,⟨A4,n4,c4,s,_,_,s4⟩,⟨A5,n5,c5,f5,_,_,s5⟩⟩,
  ⟨AP,nP,cP,Y,_,_,sP⟩,⟨AD,nD,cD,U,_,_,sD⟩,⟨AR,nR,cR,Z,_,_,sR⟩,⟨AT,nT,cT,a,_,_,sT⟩,⟨AH,nH,cH,X,_,_,sH⟩⟩:=hR
 simp only [List.drop_zero,List.drop_succ_cons,List.take_succ_cons,List.take_zero,List.cons.injEq,and_true] at T c e i k s f5 Y U Z a X;subst T c e i k s f5 Y U Z a X;obtain⟨l0,r0⟩:=s0.strs;obtain⟨l1,r1⟩:=s1.strs;obtain⟨l2,r2⟩:=s2.strs;obtain⟨l3,r3⟩:=s3.strs;obtain⟨l4,r4⟩:=s4.strs;obtain⟨l5,r5⟩:=s5.strs;obtain⟨lP,rP,_⟩:=sP.rd (enc:=az_) (ok:=fun _=>True) (fun f _ h=>n2_ h);obtain⟨lD,rD,_⟩:=sD.rd (enc:=aJ_) (ok:=fun _=>True) (fun f _ h=>n1_ h);obtain⟨lT,rT,wT⟩:=sT.rd (enc:=aL_) (ok:=fun y:bM_=>(Lit.int .i64 y.route).wf =true/\(Lit.int .i64 y.fr).wf =true/\(Lit.int .i64 y.ev).wf =true/\(Lit.int .i64 y.un).wf =true) (fun f _ h=>n3_ h);obtain⟨lH,rH,_⟩:=sH.rd (enc:=hazE) (ok:=fun _=>True) (fun f _ h=>oU_ h);obtain⟨lR,S,rR⟩:=sR.each (Q:=fun w b o (y:ba_)=>SlAt w b o y.stops/\SlAt w b (o+1) y.rides/\SlAt w b (o+2) y.stays) (fun f b o _ h hb R=>mA_ h hb R)
 exact⟨⟨hz,l0,l1,l2,l3,l4,l5,lP,lD,lR,lT,lH⟩,⟨A0,A1,A2,A3,A4,A5,AP,AD,AR,AT,AH,n0,n1,n2,n3,n4,n5,nP,nD,nR,nT,nH,c0,c1,c2,c3,c4,c5,cP,cD,cR,cT,cH⟩,rfl,
  ⟨r0,r1,r2,r3,r4,r5,rP,rD,⟨S,rR⟩,rT,rH⟩,wT⟩
def WfR (L:List RunP):Prop:= ∀ y∈L,((Lit.int .i64 y.trip).wf =true/\(Lit.int .i64 y.no).wf =true)/\(∀ x∈y.arr,(Lit.int .i64 x).wf =true)/\ ∀ x∈y.dep,(Lit.int .i64 x).wf =true
theorem mz_ {cs:List Value} (h:iE_ w cs): ∃ y:RnE×RunP,cs=rnE y.1/\RunT w y.1 y.2/\((Lit.int .i64 y.2.trip).wf =true/\(Lit.int .i64 y.2.no).wf =true)/\(∀ x∈y.2.arr,(Lit.int .i64 x).wf =true)/\ ∀ x∈y.2.dep,(Lit.int .i64 x).wf =true:=by
 obtain⟨S,R⟩:=h
 obtain⟨f,g,j,n,rfl⟩: ∃ f g j n,cs=[f,g,j,n]:=by
  match cs,S with
  |[f,g,j,n],_=>exact⟨f,g,j,n,rfl⟩
 obtain⟨⟨F,p,w0⟩,⟨G,q,w1⟩,⟨J,Z,M,z,P,T,d⟩,⟨L,a,N,D,Q,U,e⟩⟩:=R;simp only [List.drop_zero,List.drop_succ_cons,List.take_succ_cons,List.take_zero,List.cons.injEq,and_true] at p q z D;subst p q z D;obtain⟨X,b,i⟩:=d.nums;obtain⟨Y,c,k⟩:=e.nums;exact⟨((F,G,(J,Z,M),(L,a,N)),⟨F,G,X,Y⟩),rfl,⟨rfl,rfl,b,⟨P,T⟩,c,⟨Q,U⟩⟩,⟨w0,w1⟩,i,k⟩
theorem o8_ {A:Option Addr} {n:Nat} (s:SlOf w 4 (iE_ w) A n): ∃ L,be_ w A n L/\WfR L:=by
 obtain⟨E,D,p⟩:=s.rd (α:=RnE×RunP) (enc:=fun y=>rnE y.1) (ok:=fun y=>RunT w y.1 y.2/\((Lit.int .i64 y.2.trip).wf =true/\(Lit.int .i64 y.2.no).wf =true)/\(∀ x∈y.2.arr,(Lit.int .i64 x).wf =true)/\ ∀ x∈y.2.dep,(Lit.int .i64 x).wf =true) (fun cs _ h=>mz_ h);refine⟨E.map (·.2),⟨E.map (·.1),D.conv (fun y:RnE×RunP=>y.1) (fun _ _=>rfl),by simp,fun k e r j g=>?_⟩,fun y f=>?_⟩
 ·rw [List.getElem?_map] at j g;obtain⟨y,f,rfl⟩:=Option.map_eq_some_iff.1 j;rw [f] at g;cases g;exact(p y (List.mem_of_getElem? f)).1
 ·obtain⟨z,q,rfl⟩:=List.mem_map.1 f;exact(p z q).2
theorem mE_ {r:Reach} {b0:Nat} {v:Value} {d:DataW H} {p:List MemPlace} (hv:Value.okWide Tryz.prog w r b0 32 v) (h:DataW.Trod encH Tryz.prog w base spare held 32 v d p): ∃ A n c L,v= .slice A n c/\be_ w A n L/\n<=c/\c<=9223372036854775807/\WfR L:=by
 obtain⟨A,n,c,rfl,f,g,s⟩:=i3_ 4 Tryz.underlying32 (by kernel_rfl) (by decide) oL_ hv h;obtain⟨L,j,q⟩:=o8_ s;exact⟨A,n,c,L,rfl,j,f,g,q⟩
end
end Go.Proofs.YtechdefolfboeaaGreatDoor.B
namespace Go.Proofs.YtechdefolfboeaaGreatDoor
open Go Go.ChangeShapes Go.WideShapes Go.ChangeAt Go.RowKit B
theorem pi_ {a b:Bool} (ha:a=true) (hb:b=true):(a&&b)=true:=by rw [ha,hb];rfl
theorem own:ownKnob Tryz.prog.godebug=none:=by kernel_rfl
theorem en_:laidOutB Tryz.prog=true:=by kernel_rfl
def gU_:List (String×DataW Unit):=[("unicode.White_Space",Rows.laid_unicode_White_Space),("strings.asciiSpace",Rows.laid_strings_asciiSpace)]
theorem mg_:Tryz.prog.globalNamed "strings.asciiSpace"=some 0:=by kernel_rfl
theorem nw_ (os:Os) (args:Array Value):laidMetH Tryz.prog gU_ ((World.doorLaid Tryz.prog 33 os).forCall (fun _ _=>0) ⟨#[],args,[]⟩).memory :=
 laidMetH_of_parts3 (fuel:=8) (laidMet_of_run' 8 (by kernel_rfl) (by kernel_rfl)) (by kernel_rfl) (by kernel_rfl)
def iB_:List Int:=(List.range 256).map fun c=>if Lib.isSp (UInt8.ofNat c) then 1 else 0
theorem on_ (c:Nat) (hc:c<256):iB_.getD c 0=if Lib.isSp (UInt8.ofNat c) then 1 else 0:=by
 unfold iB_;rw [List.getD_eq_getElem?_getD,List.getElem?_map,List.getElem?_range hc];rfl
theorem nO_:(Rows.laid_strings_asciiSpace:DataW Unit)=Lib.tabData .u8 iB_:=by kernel_rfl
theorem mn_ {P:Program} {x:String×DataW Unit} {r:List (String×DataW Unit)} {w:World} (h:laidMet P (x::r) w):laidMet P r w:=by
 obtain⟨ps,F,j,f⟩:=h;obtain⟨n,d⟩:=x;obtain⟨g,t,cs,aA,p,q,_,_,_,_,D,rfl⟩:=F;exact⟨q,D,List.Nodup.sublist (List.sublist_append_right _ _) j,fun b y z=>f b y (List.mem_append_right _ z)⟩
theorem lA_ {W:World} (h:laidMetH Tryz.prog gU_ W):Sp W:=by
 rw [MakeChecks.laidMetH_plain _ _ _ (by kernel_rfl)] at h;have f:=mn_ h;rw [nO_] at f;have j:=Lib.tabIs_of_head mg_ (by kernel_rfl:(Tryz.prog.globals[0]?).map (·.type)=some 297) Tryz.underlying297 Tryz.underlying5 (by kernel_rfl) (by kernel_rfl) f;intro c g;rw [j.cell mg_ c (by simpa [iB_] using g),on_ c g]
