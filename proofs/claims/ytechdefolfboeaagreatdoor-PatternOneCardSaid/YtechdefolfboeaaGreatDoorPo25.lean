/- Merged. -/
import Derived.Test.YtechdefolfboeaaGreatDoorRows
import Derived.LaidMore
import Derived.SevenTiedAt
import Derived.Test.YtechdefolfboeaaGreatDoorPo24
set_option linter.unusedVariables false
set_option linter.unusedSimpArgs false
set_option maxRecDepth 100000
namespace Go.Proofs.YtechdefolfboeaaGreatDoor.B
open Go.RowKit Go.ChangeShapes Go.WideShapes Go.Deep Go.Joins
instance:Inhabited DoorP:=⟨⟨0,0,0,0,0,0⟩⟩
instance:Inhabited TripP:=⟨⟨0,0,0,0⟩⟩
instance:Inhabited HazP:=⟨⟨false,0,0,0,0⟩⟩
instance:Inhabited RouteP:=⟨⟨[],[],[]⟩⟩
section
variable {H:Type} {encH:TypeId×Value→H} {w:World} {base:Nat} {spare:Nat→Bool} {held:Bool}
def R_tTimes (w:World) (cs:List Value):Prop:=cs.length=3∧(fun cs:List Value=> ∃ a,cs=[.int .i64 a]∧(Lit.int .i64 a).wf =true) ((cs.drop 0).take 1)∧(fun cs:List Value=> ∃ a,cs=[.int .i64 a]∧(Lit.int .i64 a).wf =true) ((cs.drop 1).take 1)∧(fun cs:List Value=> ∃ a,cs=[.int .i64 a]∧(Lit.int .i64 a).wf =true) ((cs.drop 2).take 1)
theorem dc_tTimes:Dc encH Tryz.prog w base spare held 102 (R_tTimes w):=Dc.and (Dc.len Tryz.underlying102 (by kernel_rfl)) (Dc.and (Dc.fld 0 0 1 _ Tryz.underlying102 rfl rfl (by kernel_rfl) (Dc.int Tryz.underlying2)) (Dc.and (Dc.fld 1 1 1 _ Tryz.underlying102 rfl rfl (by kernel_rfl) (Dc.int Tryz.underlying2)) (Dc.fld 2 2 1 _ Tryz.underlying102 rfl rfl (by kernel_rfl) (Dc.int Tryz.underlying2))))
def R_tPath (w:World) (cs:List Value):Prop:=cs.length=3∧(fun cs:List Value=> ∃ a,cs=[.int .i64 a]∧(Lit.int .i64 a).wf =true) ((cs.drop 0).take 1)∧(fun cs:List Value=> ∃ a,cs=[.int .i64 a]∧(Lit.int .i64 a).wf =true) ((cs.drop 1).take 1)∧(fun cs:List Value=> ∃ a,cs=[.int .i64 a]∧(Lit.int .i64 a).wf =true) ((cs.drop 2).take 1)
theorem dc_tPath:Dc encH Tryz.prog w base spare held 99 (R_tPath w):=Dc.and (Dc.len Tryz.underlying99 (by kernel_rfl)) (Dc.and (Dc.fld 0 0 1 _ Tryz.underlying99 rfl rfl (by kernel_rfl) (Dc.int Tryz.underlying3)) (Dc.and (Dc.fld 1 1 1 _ Tryz.underlying99 rfl rfl (by kernel_rfl) (Dc.int Tryz.underlying3)) (Dc.fld 2 2 1 _ Tryz.underlying99 rfl rfl (by kernel_rfl) (Dc.int Tryz.underlying2))))
def R_tDoor (w:World) (cs:List Value):Prop:=cs.length=6∧(fun cs:List Value=> ∃ a,cs=[.int .i64 a]∧(Lit.int .i64 a).wf =true) ((cs.drop 0).take 1)∧(fun cs:List Value=> ∃ a,cs=[.int .i64 a]∧(Lit.int .i64 a).wf =true) ((cs.drop 1).take 1)∧(fun cs:List Value=> ∃ a,cs=[.int .i64 a]∧(Lit.int .i64 a).wf =true) ((cs.drop 2).take 1)∧(R_tTimes w) ((cs.drop 3).take 3)
theorem dc_tDoor:Dc encH Tryz.prog w base spare held 104 (R_tDoor w):=Dc.and (Dc.len Tryz.underlying104 (by kernel_rfl)) (Dc.and (Dc.fld 0 0 1 _ Tryz.underlying104 rfl rfl (by kernel_rfl) (Dc.int Tryz.underlying3)) (Dc.and (Dc.fld 1 1 1 _ Tryz.underlying104 rfl rfl (by kernel_rfl) (Dc.int Tryz.underlying3)) (Dc.and (Dc.fld 2 2 1 _ Tryz.underlying104 rfl rfl (by kernel_rfl) (Dc.int Tryz.underlying2)) (Dc.fld 3 3 3 _ Tryz.underlying104 rfl rfl (by kernel_rfl) dc_tTimes))))
def R_tRoute (w:World) (cs:List Value):Prop:=cs.length=3∧(fun cs:List Value=> ∃ A n c,cs=[.slice A n c]∧n≤c∧c≤9223372036854775807∧SlOf w 1 (fun cs:List Value=> ∃ a,cs=[.int .i64 a]∧(Lit.int .i64 a).wf =true) A n) ((cs.drop 0).take 1)∧(fun cs:List Value=> ∃ A n c,cs=[.slice A n c]∧n≤c∧c≤9223372036854775807∧SlOf w 1 (fun cs:List Value=> ∃ a,cs=[.int .i64 a]∧(Lit.int .i64 a).wf =true) A n) ((cs.drop 1).take 1)∧(fun cs:List Value=> ∃ A n c,cs=[.slice A n c]∧n≤c∧c≤9223372036854775807∧SlOf w 1 (fun cs:List Value=> ∃ a,cs=[.int .i64 a]∧(Lit.int .i64 a).wf =true) A n) ((cs.drop 2).take 1)
theorem dc_tRoute:Dc encH Tryz.prog w base spare held 51 (R_tRoute w):=Dc.and (Dc.len Tryz.underlying51 (by kernel_rfl)) (Dc.and (Dc.fld 0 0 1 _ Tryz.underlying51 rfl rfl (by kernel_rfl) (Dc.sl 1 Tryz.underlying49 (by kernel_rfl) (by decide) (Dc.int Tryz.underlying3))) (Dc.and (Dc.fld 1 1 1 _ Tryz.underlying51 rfl rfl (by kernel_rfl) (Dc.sl 1 Tryz.underlying45 (by kernel_rfl) (by decide) (Dc.int Tryz.underlying2))) (Dc.fld 2 2 1 _ Tryz.underlying51 rfl rfl (by kernel_rfl) (Dc.sl 1 Tryz.underlying45 (by kernel_rfl) (by decide) (Dc.int Tryz.underlying2)))))
def R_tTrip (w:World) (cs:List Value):Prop:=cs.length=4∧(fun cs:List Value=> ∃ a,cs=[.int .i64 a]∧(Lit.int .i64 a).wf =true) ((cs.drop 0).take 1)∧(fun cs:List Value=> ∃ a,cs=[.int .i64 a]∧(Lit.int .i64 a).wf =true) ((cs.drop 1).take 1)∧(fun cs:List Value=> ∃ a,cs=[.int .i64 a]∧(Lit.int .i64 a).wf =true) ((cs.drop 2).take 1)∧(fun cs:List Value=> ∃ a,cs=[.int .i64 a]∧(Lit.int .i64 a).wf =true) ((cs.drop 3).take 1)
theorem dc_tTrip:Dc encH Tryz.prog w base spare held 53 (R_tTrip w):=Dc.and (Dc.len Tryz.underlying53 (by kernel_rfl)) (Dc.and (Dc.fld 0 0 1 _ Tryz.underlying53 rfl rfl (by kernel_rfl) (Dc.int Tryz.underlying3)) (Dc.and (Dc.fld 1 1 1 _ Tryz.underlying53 rfl rfl (by kernel_rfl) (Dc.int Tryz.underlying2)) (Dc.and (Dc.fld 2 2 1 _ Tryz.underlying53 rfl rfl (by kernel_rfl) (Dc.int Tryz.underlying2)) (Dc.fld 3 3 1 _ Tryz.underlying53 rfl rfl (by kernel_rfl) (Dc.int Tryz.underlying2)))))
def R_tHaz (w:World) (cs:List Value):Prop:=cs.length=5∧(fun cs:List Value=> ∃ a,cs=[.bool a]) ((cs.drop 0).take 1)∧(fun cs:List Value=> ∃ a,cs=[.int .i64 a]∧(Lit.int .i64 a).wf =true) ((cs.drop 1).take 1)∧(R_tTimes w) ((cs.drop 2).take 3)
theorem dc_tHaz:Dc encH Tryz.prog w base spare held 108 (R_tHaz w):=Dc.and (Dc.len Tryz.underlying108 (by kernel_rfl)) (Dc.and (Dc.fld 0 0 1 _ Tryz.underlying108 rfl rfl (by kernel_rfl) (Dc.bool Tryz.underlying4)) (Dc.and (Dc.fld 1 1 1 _ Tryz.underlying108 rfl rfl (by kernel_rfl) (Dc.int Tryz.underlying3)) (Dc.fld 2 2 3 _ Tryz.underlying108 rfl rfl (by kernel_rfl) dc_tTimes)))
def R_tNames (w:World) (cs:List Value):Prop:=cs.length=6∧(fun cs:List Value=> ∃ A n c,cs=[.slice A n c]∧n≤c∧c≤9223372036854775807∧SlOf w 1 (fun cs:List Value=> ∃ a:Str,cs=[.string a]) A n) ((cs.drop 0).take 1)∧(fun cs:List Value=> ∃ A n c,cs=[.slice A n c]∧n≤c∧c≤9223372036854775807∧SlOf w 1 (fun cs:List Value=> ∃ a:Str,cs=[.string a]) A n) ((cs.drop 1).take 1)∧(fun cs:List Value=> ∃ A n c,cs=[.slice A n c]∧n≤c∧c≤9223372036854775807∧SlOf w 1 (fun cs:List Value=> ∃ a:Str,cs=[.string a]) A n) ((cs.drop 2).take 1)∧(fun cs:List Value=> ∃ A n c,cs=[.slice A n c]∧n≤c∧c≤9223372036854775807∧SlOf w 1 (fun cs:List Value=> ∃ a:Str,cs=[.string a]) A n) ((cs.drop 3).take 1)∧(fun cs:List Value=> ∃ A n c,cs=[.slice A n c]∧n≤c∧c≤9223372036854775807∧SlOf w 1 (fun cs:List Value=> ∃ a:Str,cs=[.string a]) A n) ((cs.drop 4).take 1)∧(fun cs:List Value=> ∃ A n c,cs=[.slice A n c]∧n≤c∧c≤9223372036854775807∧SlOf w 1 (fun cs:List Value=> ∃ a:Str,cs=[.string a]) A n) ((cs.drop 5).take 1)
theorem dc_tNames:Dc encH Tryz.prog w base spare held 24 (R_tNames w):=Dc.and (Dc.len Tryz.underlying24 (by kernel_rfl)) (Dc.and (Dc.fld 0 0 1 _ Tryz.underlying24 rfl rfl (by kernel_rfl) (Dc.sl 1 Tryz.underlying22 (by kernel_rfl) (by decide) (Dc.str Tryz.underlying9))) (Dc.and (Dc.fld 1 1 1 _ Tryz.underlying24 rfl rfl (by kernel_rfl) (Dc.sl 1 Tryz.underlying22 (by kernel_rfl) (by decide) (Dc.str Tryz.underlying9))) (Dc.and (Dc.fld 2 2 1 _ Tryz.underlying24 rfl rfl (by kernel_rfl) (Dc.sl 1 Tryz.underlying22 (by kernel_rfl) (by decide) (Dc.str Tryz.underlying9))) (Dc.and (Dc.fld 3 3 1 _ Tryz.underlying24 rfl rfl (by kernel_rfl) (Dc.sl 1 Tryz.underlying22 (by kernel_rfl) (by decide) (Dc.str Tryz.underlying9))) (Dc.and (Dc.fld 4 4 1 _ Tryz.underlying24 rfl rfl (by kernel_rfl) (Dc.sl 1 Tryz.underlying22 (by kernel_rfl) (by decide) (Dc.str Tryz.underlying9))) (Dc.fld 5 5 1 _ Tryz.underlying24 rfl rfl (by kernel_rfl) (Dc.sl 1 Tryz.underlying22 (by kernel_rfl) (by decide) (Dc.str Tryz.underlying9))))))))
def R_tWorld (w:World) (cs:List Value):Prop:=cs.length=12∧(fun cs:List Value=> ∃ a,cs=[.int .i64 a]∧(Lit.int .i64 a).wf =true) ((cs.drop 0).take 1)∧(R_tNames w) ((cs.drop 1).take 6)∧(fun cs:List Value=> ∃ A n c,cs=[.slice A n c]∧n≤c∧c≤9223372036854775807∧SlOf w 3 (R_tPath w) A n) ((cs.drop 7).take 1)∧(fun cs:List Value=> ∃ A n c,cs=[.slice A n c]∧n≤c∧c≤9223372036854775807∧SlOf w 6 (R_tDoor w) A n) ((cs.drop 8).take 1)∧(fun cs:List Value=> ∃ A n c,cs=[.slice A n c]∧n≤c∧c≤9223372036854775807∧SlOf w 3 (R_tRoute w) A n) ((cs.drop 9).take 1)∧(fun cs:List Value=> ∃ A n c,cs=[.slice A n c]∧n≤c∧c≤9223372036854775807∧SlOf w 4 (R_tTrip w) A n) ((cs.drop 10).take 1)∧(fun cs:List Value=> ∃ A n c,cs=[.slice A n c]∧n≤c∧c≤9223372036854775807∧SlOf w 5 (R_tHaz w) A n) ((cs.drop 11).take 1)
theorem dc_tWorld:Dc encH Tryz.prog w base spare held 31 (R_tWorld w):=Dc.and (Dc.len Tryz.underlying31 (by kernel_rfl)) (Dc.and (Dc.fld 0 0 1 _ Tryz.underlying31 rfl rfl (by kernel_rfl) (Dc.int Tryz.underlying2)) (Dc.and (Dc.fld 1 1 6 _ Tryz.underlying31 rfl rfl (by kernel_rfl) dc_tNames) (Dc.and (Dc.fld 2 7 1 _ Tryz.underlying31 rfl rfl (by kernel_rfl) (Dc.sl 3 Tryz.underlying25 (by kernel_rfl) (by decide) dc_tPath)) (Dc.and (Dc.fld 3 8 1 _ Tryz.underlying31 rfl rfl (by kernel_rfl) (Dc.sl 6 Tryz.underlying26 (by kernel_rfl) (by decide) dc_tDoor)) (Dc.and (Dc.fld 4 9 1 _ Tryz.underlying31 rfl rfl (by kernel_rfl) (Dc.sl 3 Tryz.underlying27 (by kernel_rfl) (by decide) dc_tRoute)) (Dc.and (Dc.fld 5 10 1 _ Tryz.underlying31 rfl rfl (by kernel_rfl) (Dc.sl 4 Tryz.underlying28 (by kernel_rfl) (by decide) dc_tTrip)) (Dc.fld 6 11 1 _ Tryz.underlying31 rfl rfl (by kernel_rfl) (Dc.sl 5 Tryz.underlying29 (by kernel_rfl) (by decide) dc_tHaz))))))))
def R_tRun (w:World) (cs:List Value):Prop:=cs.length=4∧(fun cs:List Value=> ∃ a,cs=[.int .i64 a]∧(Lit.int .i64 a).wf =true) ((cs.drop 0).take 1)∧(fun cs:List Value=> ∃ a,cs=[.int .i64 a]∧(Lit.int .i64 a).wf =true) ((cs.drop 1).take 1)∧(fun cs:List Value=> ∃ A n c,cs=[.slice A n c]∧n≤c∧c≤9223372036854775807∧SlOf w 1 (fun cs:List Value=> ∃ a,cs=[.int .i64 a]∧(Lit.int .i64 a).wf =true) A n) ((cs.drop 2).take 1)∧(fun cs:List Value=> ∃ A n c,cs=[.slice A n c]∧n≤c∧c≤9223372036854775807∧SlOf w 1 (fun cs:List Value=> ∃ a,cs=[.int .i64 a]∧(Lit.int .i64 a).wf =true) A n) ((cs.drop 3).take 1)
theorem dc_tRun:Dc encH Tryz.prog w base spare held 47 (R_tRun w):=Dc.and (Dc.len Tryz.underlying47 (by kernel_rfl)) (Dc.and (Dc.fld 0 0 1 _ Tryz.underlying47 rfl rfl (by kernel_rfl) (Dc.int Tryz.underlying3)) (Dc.and (Dc.fld 1 1 1 _ Tryz.underlying47 rfl rfl (by kernel_rfl) (Dc.int Tryz.underlying3)) (Dc.and (Dc.fld 2 2 1 _ Tryz.underlying47 rfl rfl (by kernel_rfl) (Dc.sl 1 Tryz.underlying45 (by kernel_rfl) (by decide) (Dc.int Tryz.underlying2))) (Dc.fld 3 3 1 _ Tryz.underlying47 rfl rfl (by kernel_rfl) (Dc.sl 1 Tryz.underlying45 (by kernel_rfl) (by decide) (Dc.int Tryz.underlying2))))))
theorem of_tPath {cs:List Value} (h:R_tPath w cs): ∃ y:Int×Int×Int,cs=tripE y∧True:=by
 obtain⟨hl,hR⟩:=h
 obtain⟨z0,z1,z2,rfl⟩: ∃ z0 z1 z2,cs=[z0,z1,z2]:=by
  match cs,hl with
  |[z0,z1,z2],_=>exact⟨z0,z1,z2,rfl⟩
 obtain⟨⟨x0,e0,w0⟩,⟨x1,e1,w1⟩,⟨x2,e2,w2⟩⟩:=hR;simp only [List.drop_zero,List.drop_succ_cons,List.take_succ_cons,List.take_zero,List.cons.injEq,and_true] at e0 e1 e2;subst e0 e1 e2;exact⟨(x0,x1,x2),rfl,trivial⟩
theorem of_tDoor {cs:List Value} (h:R_tDoor w cs): ∃ y:DoorP,cs=doorE y∧True:=by
 obtain⟨hl,hR⟩:=h
 obtain⟨z0,z1,z2,z3,z4,z5,rfl⟩: ∃ z0 z1 z2 z3 z4 z5,cs=[z0,z1,z2,z3,z4,z5]:=by
  match cs,hl with
  |[z0,z1,z2,z3,z4,z5],_=>exact⟨z0,z1,z2,z3,z4,z5,rfl⟩
 obtain⟨⟨x0,e0,w0⟩,⟨x1,e1,w1⟩,⟨x2,e2,w2⟩,⟨_,k3⟩⟩:=hR;obtain⟨⟨x3,e3,w3⟩,⟨x4,e4,w4⟩,⟨x5,e5,w5⟩⟩:=k3;simp only [List.drop_zero,List.drop_succ_cons,List.take_succ_cons,List.take_zero,List.cons.injEq,and_true] at e0 e1 e2 e3 e4 e5;subst e0 e1 e2 e3 e4 e5;exact⟨⟨x0,x1,x2,x3,x4,x5⟩,rfl,trivial⟩
theorem of_tTrip {cs:List Value} (h:R_tTrip w cs): ∃ y:TripP,cs=tripP y∧(Lit.int .i64 y.route).wf =true∧(Lit.int .i64 y.fr).wf =true∧(Lit.int .i64 y.ev).wf =true∧(Lit.int .i64 y.un).wf =true:=by
 obtain⟨hl,hR⟩:=h
 obtain⟨z0,z1,z2,z3,rfl⟩: ∃ z0 z1 z2 z3,cs=[z0,z1,z2,z3]:=by
  match cs,hl with
  |[z0,z1,z2,z3],_=>exact⟨z0,z1,z2,z3,rfl⟩
 obtain⟨⟨x0,e0,w0⟩,⟨x1,e1,w1⟩,⟨x2,e2,w2⟩,⟨x3,e3,w3⟩⟩:=hR;simp only [List.drop_zero,List.drop_succ_cons,List.take_succ_cons,List.take_zero,List.cons.injEq,and_true] at e0 e1 e2 e3;subst e0 e1 e2 e3;exact⟨⟨x0,x1,x2,x3⟩,rfl,w0,w1,w2,w3⟩
theorem of_tHaz {cs:List Value} (h:R_tHaz w cs): ∃ y:HazP,cs=hazE y∧True:=by
 obtain⟨hl,hR⟩:=h
 obtain⟨z0,z1,z2,z3,z4,rfl⟩: ∃ z0 z1 z2 z3 z4,cs=[z0,z1,z2,z3,z4]:=by
  match cs,hl with
  |[z0,z1,z2,z3,z4],_=>exact⟨z0,z1,z2,z3,z4,rfl⟩
 obtain⟨⟨x0,e0⟩,⟨x1,e1,w1⟩,⟨_,k2⟩⟩:=hR;obtain⟨⟨x2,e2,w2⟩,⟨x3,e3,w3⟩,⟨x4,e4,w4⟩⟩:=k2;simp only [List.drop_zero,List.drop_succ_cons,List.take_succ_cons,List.take_zero,List.cons.injEq,and_true] at e0 e1 e2 e3 e4;subst e0 e1 e2 e3 e4;exact⟨⟨x0,x1,x2,x3,x4⟩,rfl,trivial⟩
theorem of_tRoute {cs:List Value} {b o:Nat} (h:R_tRoute w cs) (hb:b<w.heap.size) (hat: ∀ (j:Nat) (u:Value),cs[j]?=some u→w.cell? ⟨b,o+j,none⟩=some u): ∃ y:RouteP,SlAt w b o y.stops∧SlAt w b (o+1) y.rides∧SlAt w b (o+2) y.stays:=by
 obtain⟨hl,hR⟩:=h
 obtain⟨z0,z1,z2,rfl⟩: ∃ z0 z1 z2,cs=[z0,z1,z2]:=by
  match cs,hl with
  |[z0,z1,z2],_=>exact⟨z0,z1,z2,rfl⟩
 obtain⟨⟨A0,n0,c0,e0,h0,k0,s0⟩,⟨A1,n1,c1,e1,h1,k1,s1⟩,⟨A2,n2,c2,e2,h2,k2,s2⟩⟩:=hR;simp only [List.drop_zero,List.drop_succ_cons,List.take_succ_cons,List.take_zero,List.cons.injEq,and_true] at e0 e1 e2;subst e0 e1 e2;obtain⟨l0,r0,_⟩:=s0.nums;obtain⟨l1,r1,_⟩:=s1.nums;obtain⟨l2,r2,_⟩:=s2.nums;exact⟨⟨l0,l1,l2⟩,⟨A0,n0,c0,hat 0 _ rfl,r0,h0,k0⟩,⟨A1,n1,c1,hat 1 _ rfl,r1,h1,k1⟩,⟨A2,n2,c2,hat 2 _ rfl,r2,h2,k2⟩⟩
def WfM (M:WorldP):Prop:= ∀ y∈M.trips,(Lit.int .i64 y.route).wf =true∧(Lit.int .i64 y.fr).wf =true∧(Lit.int .i64 y.ev).wf =true∧(Lit.int .i64 y.un).wf =true
theorem open_world {r:Reach} {b0:Nat} {v:Value} {d:DataW H} {p:List MemPlace} (hv:Value.okWide Tryz.prog w r b0 31 v) (h:DataW.Trod encH Tryz.prog w base spare held 31 v d p): ∃ M V,v=wVal M V∧RW w M V∧WfM M:=by
 obtain⟨cs,rfl,_,hl,hR⟩:=open_cs Tryz.underlying31 dc_tWorld hv h
 obtain⟨z0,z1,z2,z3,z4,z5,z6,z7,z8,z9,za,zb,rfl⟩: ∃ z0 z1 z2 z3 z4 z5 z6 z7 z8 z9 za zb,cs=[z0,z1,z2,z3,z4,z5,z6,z7,z8,z9,za,zb]:=by
  match cs,hl with
  |[z0,z1,z2,z3,z4,z5,z6,z7,z8,z9,za,zb],_=>exact⟨z0,z1,z2,z3,z4,z5,z6,z7,z8,z9,za,zb,rfl⟩
 obtain⟨⟨hz,e0,_⟩,⟨_,⟨A0,n0,c0,f0,_,_,s0⟩,⟨A1,n1,c1,f1,_,_,s1⟩,⟨A2,n2,c2,f2,_,_,s2⟩,⟨A3,n3,c3,f3,_,_,s3⟩,⟨A4,n4,c4,f4,_,_,s4⟩,⟨A5,n5,c5,f5,_,_,s5⟩⟩,
  ⟨AP,nP,cP,eP,_,_,sP⟩,⟨AD,nD,cD,eD,_,_,sD⟩,⟨AR,nR,cR,eR,_,_,sR⟩,⟨AT,nT,cT,eT,_,_,sT⟩,⟨AH,nH,cH,eH,_,_,sH⟩⟩:=hR
 simp only [List.drop_zero,List.drop_succ_cons,List.take_succ_cons,List.take_zero,List.cons.injEq,and_true] at e0 f0 f1 f2 f3 f4 f5 eP eD eR eT eH;subst e0 f0 f1 f2 f3 f4 f5 eP eD eR eT eH;obtain⟨l0,r0⟩:=s0.strs;obtain⟨l1,r1⟩:=s1.strs;obtain⟨l2,r2⟩:=s2.strs;obtain⟨l3,r3⟩:=s3.strs;obtain⟨l4,r4⟩:=s4.strs;obtain⟨l5,r5⟩:=s5.strs;obtain⟨lP,rP,_⟩:=sP.rd (enc:=tripE) (ok:=fun _=>True) (fun cs _ h=>of_tPath h);obtain⟨lD,rD,_⟩:=sD.rd (enc:=doorE) (ok:=fun _=>True) (fun cs _ h=>of_tDoor h);obtain⟨lT,rT,wT⟩:=sT.rd (enc:=tripP) (ok:=fun y:TripP=>(Lit.int .i64 y.route).wf =true∧(Lit.int .i64 y.fr).wf =true∧(Lit.int .i64 y.ev).wf =true∧(Lit.int .i64 y.un).wf =true) (fun cs _ h=>of_tTrip h);obtain⟨lH,rH,_⟩:=sH.rd (enc:=hazE) (ok:=fun _=>True) (fun cs _ h=>of_tHaz h)
 obtain⟨lR,hlR,rR⟩:=sR.each (Q:=fun w b o (y:RouteP)=>SlAt w b o y.stops∧SlAt w b (o+1) y.rides∧SlAt w b (o+2) y.stays) (fun cs b o _ h hb hat=>of_tRoute h hb hat)
 exact⟨⟨hz,l0,l1,l2,l3,l4,l5,lP,lD,lR,lT,lH⟩,⟨A0,A1,A2,A3,A4,A5,AP,AD,AR,AT,AH,n0,n1,n2,n3,n4,n5,nP,nD,nR,nT,nH,c0,c1,c2,c3,c4,c5,cP,cD,cR,cT,cH⟩,rfl,
  ⟨r0,r1,r2,r3,r4,r5,rP,rD,⟨hlR,rR⟩,rT,rH⟩,wT⟩
theorem of_run_cs {cs:List Value} (h:R_tRun w cs): ∃ y:RnE×RunP,cs=rnE y.1∧RunT w y.1 y.2∧((Lit.int .i64 y.2.trip).wf =true∧(Lit.int .i64 y.2.no).wf =true)∧(∀ x∈y.2.arr,(Lit.int .i64 x).wf =true)∧ ∀ x∈y.2.dep,(Lit.int .i64 x).wf =true:=by
 obtain⟨hl,hR⟩:=h
 obtain⟨z0,z1,z2,z3,rfl⟩: ∃ z0 z1 z2 z3,cs=[z0,z1,z2,z3]:=by
  match cs,hl with
  |[z0,z1,z2,z3],_=>exact⟨z0,z1,z2,z3,rfl⟩
 obtain⟨⟨x0,e0,w0⟩,⟨x1,e1,w1⟩,⟨A0,n0,c0,e2,h0,k0,s0⟩,⟨A1,n1,c1,e3,h1,k1,s1⟩⟩:=hR;simp only [List.drop_zero,List.drop_succ_cons,List.take_succ_cons,List.take_zero,List.cons.injEq,and_true] at e0 e1 e2 e3;subst e0 e1 e2 e3;obtain⟨l0,r0,v0⟩:=s0.nums;obtain⟨l1,r1,v1⟩:=s1.nums;exact⟨((x0,x1,(A0,n0,c0),(A1,n1,c1)),⟨x0,x1,l0,l1⟩),rfl,⟨rfl,rfl,r0,⟨h0,k0⟩,r1,⟨h1,k1⟩⟩,⟨w0,w1⟩,v0,v1⟩
end
end Go.Proofs.YtechdefolfboeaaGreatDoor.B
namespace Go.Proofs.YtechdefolfboeaaGreatDoor
open Go Go.ChangeShapes Go.WideShapes Go.ChangeAt Go.RowKit B
theorem and_of {a b:Bool} (ha:a=true) (hb:b=true):(a&&b)=true:=by rw [ha,hb];rfl
theorem own:ownKnob Tryz.prog.godebug=none:=by kernel_rfl
theorem laidOut:laidOutB Tryz.prog=true:=by kernel_rfl
def laid2:List (String×DataW Unit):=[("unicode.White_Space",Rows.laid_unicode_White_Space),("strings.asciiSpace",Rows.laid_strings_asciiSpace)]
theorem gSpace:Tryz.prog.globalNamed "strings.asciiSpace"=some 0:=by kernel_rfl
theorem door_met (os:Os) (args:Array Value):laidMetH Tryz.prog laid2 ((World.doorLaid Tryz.prog 33 os).forCall (fun _ _=>0) ⟨#[],args,[]⟩).memory :=
 laidMetH_of_parts3 (fuel:=8) (laidMet_of_run' 8 (by kernel_rfl) (by kernel_rfl)) (by kernel_rfl) (by kernel_rfl)
def spTab:List Int:=(List.range 256).map fun c=>if Lib.isSp (UInt8.ofNat c) then 1 else 0
theorem spTab_at (c:Nat) (hc:c<256):spTab.getD c 0=if Lib.isSp (UInt8.ofNat c) then 1 else 0:=by
 unfold spTab;rw [List.getD_eq_getElem?_getD,List.getElem?_map,List.getElem?_range hc];rfl
theorem laid_tab:(Rows.laid_strings_asciiSpace:DataW Unit)=Lib.tabData .u8 spTab:=by kernel_rfl
theorem laid_tail {P:Program} {x:String×DataW Unit} {r:List (String×DataW Unit)} {w:World} (h:laidMet P (x::r) w):laidMet P r w:=by
 obtain⟨ps,hv,hnd,hrows⟩:=h;obtain⟨n,d⟩:=x;obtain⟨g,t,cs,fuel,p,q,_,_,_,_,hq,rfl⟩:=hv;exact⟨q,hq,List.Nodup.sublist (List.sublist_append_right _ _) hnd,fun b off hm=>hrows b off (List.mem_append_right _ hm)⟩
theorem sp_of_laid {W:World} (h:laidMetH Tryz.prog laid2 W):Sp W:=by
 rw [MakeChecks.laidMetH_plain _ _ _ (by kernel_rfl)] at h;have h2:=laid_tail h;rw [laid_tab] at h2;have ht:=Lib.tabIs_of_head gSpace (by kernel_rfl:(Tryz.prog.globals[0]?).map (·.type)=some 297) Tryz.underlying297 Tryz.underlying5 (by kernel_rfl) (by kernel_rfl) h2;intro c hc;rw [ht.cell gSpace c (by simpa [spTab] using hc),spTab_at c hc]
end Go.Proofs.YtechdefolfboeaaGreatDoor
namespace Go.Proofs.YtechdefolfboeaaGreatDoor.B
open Go.RowKit Go.ChangeShapes Go.WideShapes Go.Deep Go.Joins
theorem open_run {H:Type} {encH:TypeId×Value→H} {w:World} {base:Nat} {spare:Nat→Bool} {held:Bool} {r:Reach} {b0:Nat} {v:Value} {d:DataW H} {p:List MemPlace} (hv:Value.okWide Tryz.prog w r b0 47 v) (h:DataW.Trod encH Tryz.prog w base spare held 47 v d p):
 ∃ t no A n c A' n' c' arr dep,v= .agg #[.int .i64 t,.int .i64 no,.slice A n c,.slice A' n' c']∧Rd w 1 (numE .i64) A n arr∧Rd w 1 (numE .i64) A' n' dep∧(n≤c∧c≤9223372036854775807)∧(n'≤c'∧c'≤9223372036854775807):=by
 obtain⟨cs,rfl,_,hl,hR⟩:=open_cs Tryz.underlying47 dc_tRun hv h;obtain⟨⟨⟨t,no,⟨A,n,c⟩,⟨A',n',c'⟩⟩,y⟩,rfl,hT,_⟩:=of_run_cs ⟨hl,hR⟩;exact⟨t,no,A,n,c,A',n',c',y.arr,y.dep,rfl,hT.arr,hT.dep,hT.ca,hT.cd⟩
