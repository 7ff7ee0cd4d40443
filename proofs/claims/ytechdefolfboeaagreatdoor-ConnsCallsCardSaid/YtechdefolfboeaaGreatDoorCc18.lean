/- Texts of one chain, merged. -/
import Derived.Test.YtechdefolfboeaaGreatDoorCc1
import Derived.Test.YtechdefolfboeaaGreatDoorCc15
set_option linter.unusedVariables false
set_option linter.unusedSimpArgs false
set_option maxRecDepth 100000
set_option maxHeartbeats 2000000
namespace Go.Proofs.YtechdefolfboeaaGreatDoor
open Go.RowKit B K
theorem pin_any (A:Option Addr) (n c:Nat) (x:Int) (w:World):Calls Tryz.prog 117 #[.slice A n c,.int .i64 x] w fun e w'=>e= .returned (.bool (inB x n))∧Below w.heap.size w w':=by
 by_cases h0:0≤x
 ·have hres:Hid (inB x n=decide (x<(n:Int))):=by show _=_;unfold inB;rw [decide_eq_true h0];rfl
  rw [hres.out]
  go_enter Tryz.func117,Tryz.ntmps117
  go_wp2
  go_returns
  exact⟨by simp,Below.refl _ _⟩
 ·have hres:Hid (inB x n=false):=by show _=_;unfold inB;rw [decide_eq_false h0];rfl
  rw [hres.out]
  go_enter Tryz.func117,Tryz.ntmps117
  go_wp2
  go_returns
  exact⟨by simp,Below.refl _ _⟩
structure WC (w:World) (b3 b4 b5:Nat) (V:WV):Prop where
 c4:w.cell? ⟨b4,0,none⟩=some (.func (.func 117) #[] #[])
 c5:w.cell? ⟨b5,0,none⟩=some (.func (.func 118) #[] #[.pointer (some ⟨b4,0,none⟩),.pointer (some ⟨b3,0,none⟩)])
 n0:w.cell? ⟨b3,0,none⟩=some (.slice V.a0 V.n0 V.c0)
 n1:w.cell? ⟨b3,1,none⟩=some (.slice V.a1 V.n1 V.c1)
 n3:w.cell? ⟨b3,3,none⟩=some (.slice V.a3 V.n3 V.c3)
theorem up_cell {w w':World} {b o:Nat} {v:Value} (k:Below w.heap.size w w') (h:w.cell? ⟨b,o,none⟩=some v):w'.cell? ⟨b,o,none⟩=some v:=(k.cell (p:=⟨b,o,none⟩) (World.block_lt_of_cell? w ⟨b,o,none⟩ h)).trans h
theorem WC.below {w w':World} {b3 b4 b5:Nat} {V:WV} (h:WC w b3 b4 b5 V) (k:Below w.heap.size w w'):WC w' b3 b4 b5 V:=⟨up_cell k h.c4,up_cell k h.c5,up_cell k h.n0,up_cell k h.n1,up_cell k h.n3⟩
theorem podd_any (b3 b4 b5:Nat) (V:WV) (x:Int) (w:World) (h:WC w b3 b4 b5 V):Calls Tryz.prog 118 #[.int .i64 x,.pointer (some ⟨b4,0,none⟩),.pointer (some ⟨b3,0,none⟩)] w fun e w'=>e= .returned (.bool (!inB x V.n0))∧Below w.heap.size w w':=by
 have c4:=h.c4
 have n0:=h.n0
 clear h
 go_enter Tryz.func118,Tryz.ntmps118
 go_wp2_with fail
 refine(pin_any V.a0 V.n0 V.c0 x w).mono ?_;rintro e w' ⟨rfl,hb⟩
 have hbH:=Lib.hid hb
 clear hb
 go_wp2_with fail
 go_returns
 exact⟨rfl,hbH.out⟩
theorem podd3_any (b3 b4 b5:Nat) (V:WV) (p:Int×Int×Int) (we:World) (h:WC we b3 b4 b5 V):Calls Tryz.prog 120 #[.agg (tripE p).toArray,.pointer (some ⟨b5,0,none⟩)] we fun e w'=>e= .returned (.bool (!(inB p.1 V.n0&&inB p.2.1 V.n0)))∧Below we.heap.size we w':=by
 obtain⟨x1,x2,x3⟩:=p
 simp only [tripE]
 obtain⟨wa,ba,hwa,hbaE,hbwa,Bwa⟩:=box1 we 99 [.int .i64 x1,.int .i64 x2,.int .i64 x3]
 have q0:=Bwa.cell 0 rfl
 have q1:=Bwa.cell 1 rfl
 have hW:=Lib.hid (h.below hbwa)
 have c5:=hW.out.c5
 have hbaH:=Lib.hid hbwa
 clear Bwa h
 have hodd:=Lib.hid (fun(w:World) (x:Int) h=>podd_any b3 b4 b5 V x w h)
 cases h1:inB x1 V.n0 with
 |false=>
  clear hbwa
  go_enter Tryz.func120,Tryz.ntmps120
  go_wp2_with fail
  refine(hodd.out wa x1 hW.out).mono ?_;rintro e w2 ⟨rfl,hb2⟩
  rw [h1]
  have hbF:=h_ hbaH hb2
  clear hb2
  go_wp2_with fail
  go_returns
  exact⟨by simp,hbF.out⟩
 |true=>
  clear hbwa
  go_enter Tryz.func120,Tryz.ntmps120
  go_wp2_with fail
  refine(hodd.out wa x1 hW.out).mono ?_;rintro e w2 ⟨rfl,hb2⟩
  rw [h1]
  have hW2:=Lib.hid (hW.out.below hb2)
  have c5':=hW2.out.c5
  have q1':=up_cell hb2 q1
  have hb2H:=Lib.hid hb2
  clear hb2
  go_wp2_with fail
  refine(hodd.out w2 x2 hW2.out).mono ?_;rintro e w3 ⟨rfl,hb3⟩
  have hbF:=h_ hbaH (b_ hb2H hb3)
  clear hb3
  go_wp2_with fail
  go_returns
  exact⟨by simp,hbF.out⟩
theorem podd4_any (b3 b4 b5:Nat) (V:WV) (p:DoorP) (we:World) (h:WC we b3 b4 b5 V):Calls Tryz.prog 122 #[.agg (doorE p).toArray,.pointer (some ⟨b5,0,none⟩)] we fun e w'=>e= .returned (.bool (!(inB p.a V.n0&&inB p.b V.n0)))∧Below we.heap.size we w':=by
 obtain⟨x1,x2,x3,x4,x5,x6⟩:=p
 simp only [doorE]
 obtain⟨wa,ba,hwa,hbaE,hbwa,Bwa⟩:=box1 we 104 [.int .i64 x1,.int .i64 x2,.int .i64 x3,.int .i64 x4,.int .i64 x5,.int .i64 x6]
 have q0:=Bwa.cell 0 rfl
 have q1:=Bwa.cell 1 rfl
 have hW:=Lib.hid (h.below hbwa)
 have c5:=hW.out.c5
 have hbaH:=Lib.hid hbwa
 clear Bwa h
 have hodd:=Lib.hid (fun(w:World) (x:Int) h=>podd_any b3 b4 b5 V x w h)
 cases h1:inB x1 V.n0 with
 |false=>
  clear hbwa
  go_enter Tryz.func122,Tryz.ntmps122
  go_wp2_with fail
  refine(hodd.out wa x1 hW.out).mono ?_;rintro e w2 ⟨rfl,hb2⟩
  rw [h1]
  have hbF:=h_ hbaH hb2
  clear hb2
  go_wp2_with fail
  go_returns
  exact⟨by simp,hbF.out⟩
 |true=>
  clear hbwa
  go_enter Tryz.func122,Tryz.ntmps122
  go_wp2_with fail
  refine(hodd.out wa x1 hW.out).mono ?_;rintro e w2 ⟨rfl,hb2⟩
  rw [h1]
  have hW2:=Lib.hid (hW.out.below hb2)
  have c5':=hW2.out.c5
  have q1':=up_cell hb2 q1
  have hb2H:=Lib.hid hb2
  clear hb2
  go_wp2_with fail
  refine(hodd.out w2 x2 hW2.out).mono ?_;rintro e w3 ⟨rfl,hb3⟩
  have hbF:=h_ hbaH (b_ hb2H hb3)
  clear hb3
  go_wp2_with fail
  go_returns
  exact⟨by simp,hbF.out⟩
theorem podd5_any (b3 b4 b5:Nat) (V:WV) (r:RE3) (D:List Int) (we:World) (h:WC we b3 b4 b5 V) (hd:Rd we 1 (numE .i64) r.1.1 r.1.2.1 D) (hn:r.1.2.1≤1000000):Calls Tryz.prog 124 #[.agg (re3E r).toArray,.pointer (some ⟨b5,0,none⟩)] we fun e w'=>e= .returned (.bool (D.any fun s=> !inB s V.n0))∧Below we.heap.size we w':=by
 obtain⟨⟨x1,x2,x3⟩,⟨x4,x5,x6⟩,⟨x7,x8,x9⟩⟩:=r
 simp only [re3E,SlV.v] at*
 obtain⟨wa,ba,hwa,hbaE,hbwa,Bwa⟩:=box1 we 51 [.slice x1 x2 x3,.slice x4 x5 x6,.slice x7 x8 x9]
 have q0:=Bwa.cell 0 rfl
 have hW:=Lib.hid (h.below hbwa)
 have c5:=hW.out.c5
 have hbaH:=Lib.hid hbwa
 have hc:=Lib.hid (ctfI_any 118 #[.pointer (some ⟨b4,0,none⟩),.pointer (some ⟨b3,0,none⟩)] (enters_of Tryz.func118 (by kernel_rfl) rfl) (fun s=> !inB s V.n0) x1 x2 x3 D wa (hd.below hbwa) (by omega) (fun W x hb _=>podd_any b3 b4 b5 V x W (hW.out.below hb)))
 clear Bwa h hd hbwa
 go_enter Tryz.func124,Tryz.ntmps124
 go_wp2_with fail
 refine hc.out.mono ?_;rintro e w2 ⟨rfl,hb2⟩
 have hbF:=h_ hbaH hb2
 clear hb2
 go_wp2_with fail
 go_returns
 exact⟨rfl,hbF.out⟩
theorem podd6_any (b3 b4 b5:Nat) (V:WV) (p:TripP) (we:World) (h:WC we b3 b4 b5 V):Calls Tryz.prog 127 #[.agg (tripP p).toArray,.pointer (some ⟨b4,0,none⟩),.pointer (some ⟨b3,0,none⟩)] we fun e w'=>e= .returned (.bool (!inB p.route V.n3))∧Below we.heap.size we w':=by
 obtain⟨x1,x2,x3,x4⟩:=p
 simp only [tripP]
 obtain⟨wa,ba,hwa,hbaE,hbwa,Bwa⟩:=box1 we 53 [.int .i64 x1,.int .i64 x2,.int .i64 x3,.int .i64 x4]
 have q0:=Bwa.cell 0 rfl
 have hW:=Lib.hid (h.below hbwa)
 have c4:=hW.out.c4
 have n3:=hW.out.n3
 have hbaH:=Lib.hid hbwa
 clear Bwa h hbwa
 go_enter Tryz.func127,Tryz.ntmps127
 go_wp2_with fail
 refine(pin_any V.a3 V.n3 V.c3 x1 wa).mono ?_;rintro e w2 ⟨rfl,hb2⟩
 have hbF:=h_ hbaH hb2
 clear hb2
 go_wp2_with fail
 go_returns
 exact⟨rfl,hbF.out⟩
theorem podd7_any (b3 b4 b5:Nat) (V:WV) (p:HazP) (we:World) (h:WC we b3 b4 b5 V):Calls Tryz.prog 129 #[.agg (hazE p).toArray,.pointer (some ⟨b5,0,none⟩),.pointer (some ⟨b4,0,none⟩),.pointer (some ⟨b3,0,none⟩)] we fun e w'=>e= .returned (.bool (!inB p.on (if p.stop then V.n0 else V.n1)))∧Below we.heap.size we w':=by
 obtain⟨x1,x2,x3,x4,x5⟩:=p
 simp only [hazE]
 obtain⟨wa,ba,hwa,hbaE,hbwa,Bwa⟩:=box1 we 108 [.bool x1,.int .i64 x2,.int .i64 x3,.int .i64 x4,.int .i64 x5]
 have q0:=Bwa.cell 0 rfl
 have q1:=Bwa.cell 1 rfl
 have hW:=Lib.hid (h.below hbwa)
 have c4:=hW.out.c4
 have c5:=hW.out.c5
 have n1:=hW.out.n1
 have hbaH:=Lib.hid hbwa
 clear Bwa h hbwa
 cases x1 with
 |true=>
  go_enter Tryz.func129,Tryz.ntmps129
  go_wp2_with fail
  refine(podd_any b3 b4 b5 V x2 wa hW.out).mono ?_;rintro e w2 ⟨rfl,hb2⟩
  have hbF:=h_ hbaH hb2
  clear hb2 hwa hbaE
  go_wp2_with fail
  go_returns
  exact⟨rfl,hbF.out⟩
 |false=>
  go_enter Tryz.func129,Tryz.ntmps129
  go_wp2_with fail
  refine(pin_any V.a1 V.n1 V.c1 x2 wa).mono ?_;rintro e w2 ⟨rfl,hb2⟩
  have hbF:=h_ hbaH hb2
  clear hb2 hwa hbaE
  go_wp2_with fail
  go_returns
  exact⟨rfl,hbF.out⟩
theorem RRoutes.rows {w:World} {A:Option Addr} {n:Nat} {l:List RouteP} (h:RRoutes w A n l): ∃ L:List RE3,Rd w 3 re3E A n L∧RowsG (fun w e r=>Rd w 1 (numE .i64) e.1.1 e.1.2.1 r.stops∧Rd w 1 (numE .i64) e.2.1.1 e.2.1.2.1 r.rides∧Rd w 1 (numE .i64) e.2.2.1 e.2.2.2.1 r.stays∧e.1.2.1≤e.1.2.2∧e.1.2.2≤9223372036854775807∧e.2.1.2.1≤e.2.1.2.2∧e.2.1.2.2≤9223372036854775807∧e.2.2.2.1≤e.2.2.2.2∧e.2.2.2.2≤9223372036854775807) w L l:=by
 have key: ∀ k:Nat, ∃ e:RE3, ∀ r,l[k]?=some r→ ∃ b o,A=some ⟨b,o,none⟩∧b<w.heap.size∧(∀ (j:Nat) u,(re3E e)[j]?=some u→w.cell? ⟨b,o+k*3+j,none⟩=some u)∧Rd w 1 (numE .i64) e.1.1 e.1.2.1 r.stops∧Rd w 1 (numE .i64) e.2.1.1 e.2.1.2.1 r.rides∧Rd w 1 (numE .i64) e.2.2.1 e.2.2.2.1 r.stays∧e.1.2.1≤e.1.2.2∧e.1.2.2≤9223372036854775807∧e.2.1.2.1≤e.2.1.2.2∧e.2.1.2.2≤9223372036854775807∧e.2.2.2.1≤e.2.2.2.2∧e.2.2.2.2≤9223372036854775807:=fun k=>by
  cases hk:l[k]? with
  |none=>exact⟨((none,0,0),(none,0,0),(none,0,0)),fun r hr=>by cases hr⟩
  |some r=>
   obtain⟨b,o,e,hb,⟨s1,n1,c1,h1,r1,g1,g2⟩,⟨s2,n2,c2,h2,r2,g3,g4⟩,⟨s3,n3,c3,h3,r3,g5,g6⟩⟩:=h.at_ k r hk
   refine⟨((s1,n1,c1),(s2,n2,c2),(s3,n3,c3)),fun r' hr'=>?_⟩
   cases hr'
   refine⟨b,o,e,hb,fun j u hu=>?_,r1,r2,r3,g1,g2,g3,g4,g5,g6⟩
   match j,hu with
   |0,hu=>simp [re3E,SlV.v] at hu;subst hu;exact h1
   |1,hu=>simp [re3E,SlV.v] at hu;subst hu;exact h2
   |2,hu=>simp [re3E,SlV.v] at hu;subst hu;exact h3
   |j+3,hu=>simp [re3E] at hu
 obtain⟨f,hf⟩:=Classical.axiomOfChoice key
 have hlen:((List.range n).map f).length =n:=by simp
 have hat: ∀ k e,((List.range n).map f)[k]?=some e→k<n∧e=f k:=fun k e he=>by
  have hk:k<n:=by have:=(List.getElem?_eq_some_iff.1 he).1;rwa [hlen] at this
  rw [List.getElem?_map,List.getElem?_range hk] at he
  exact⟨hk,(Option.some.inj he).symm⟩
 have hl: ∀ k,k<n→ ∃ r,l[k]?=some r:=fun k hk=>⟨_,List.getElem?_eq_getElem (by rw [h.len];exact hk)⟩
 refine⟨(List.range n).map f,⟨hlen,fun hn=>?_⟩,⟨by rw [hlen,h.len],fun k e r he hr=>?_⟩⟩
 ·obtain⟨r0,hr0⟩:=hl 0 hn
  obtain⟨b,o,e,hb,_⟩:=hf 0 r0 hr0
  refine⟨b,o,e,hb,fun i x hx j u hu=>?_⟩
  obtain⟨hi,rfl⟩:=hat i x hx
  obtain⟨r,hr⟩:=hl i hi
  obtain⟨b',o',e',_,hc,_⟩:=hf i r hr
  rw [e] at e'
  cases e'
  exact hc j u hu
 ·obtain⟨hi,rfl⟩:=hat k e he
  obtain⟨b,o,_,_,_,hh⟩:=hf k r hr
  exact hh
end Go.Proofs.YtechdefolfboeaaGreatDoor
