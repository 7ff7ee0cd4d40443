/- Texts of one chain, merged. -/
import Derived.Laws.MakeOwn
import Derived.OwnWalk
import Derived.Test.YtechdefolfboeaaGreatDoorNb47
import Derived.Test.YtechdefolfboeaaGreatDoorNb48
namespace Go.Proofs.YtechdefolfboeaaGreatDoor
open Go.RowKit B K
set_option linter.unusedVariables false
set_option linter.unusedSimpArgs false
set_option maxRecDepth 100000
set_option maxHeartbeats 2000000
def L1:List RunP:=[⟨0,0,[5,5,12],[5,9,12]⟩,⟨1,0,[6,7,9],[6,7,9]⟩]
def MZ:WorldP:=⟨0,[],[],[],[],[],[],[],[],[],[],[]⟩
def VZ:WV:=⟨none,none,none,none,none,none,none,none,none,none,none,0,0,0,0,0,0,0,0,0,0,0,0,0,0,0,0,0,0,0,0,0,0⟩
theorem fewZ:Few MZ:=⟨by decide,by decide,by decide,by decide,by decide,by decide,by decide,by decide,by decide,by decide,by decide,fun r hr=>by simp [MZ] at hr⟩
theorem rwZ (w:World):RW w MZ VZ:=⟨Rd.nil,Rd.nil,Rd.nil,Rd.nil,Rd.nil,Rd.nil,Rd.nil,Rd.nil,⟨rfl,fun k r hk=>by simp [MZ] at hk⟩,Rd.nil,Rd.nil⟩
theorem errZ:errC MZ [⟨0,0,[],[]⟩]=2:=by kernel_rfl
theorem err1:errC M0 L1=2:=by kernel_rfl
theorem errL:errC M0 (List.replicate 16385 ⟨0,0,[],[]⟩)=3:=by unfold errC;rw [if_pos (by rw [List.length_replicate];decide)]
theorem resC_bad {M:WorldP} {L:List RunP} {e:Int} (h:errC M L=e) (h0:e≠0):resC M L=[]:=if_neg (by rw [h];exact h0)
theorem rruns_bad {w:World} {b0 b1 b2 b3 b4:Nat} (C0:Bx w b0 2 [.int .i64 5,.int .i64 5,.int .i64 12]) (C1:Bx w b1 2 [.int .i64 5,.int .i64 9,.int .i64 12]) (C2:Bx w b2 2 [.int .i64 6,.int .i64 7,.int .i64 9]) (C3:Bx w b3 2 [.int .i64 6,.int .i64 7,.int .i64 9]) (C4:Bx w b4 47 [.int .i64 0,.int .i64 0,.slice (some ⟨b0,0,none⟩) 3 3,.slice (some ⟨b1,0,none⟩) 3 3,.int .i64 1,.int .i64 0,.slice (some ⟨b2,0,none⟩) 3 3,.slice (some ⟨b3,0,none⟩) 3 3]):RRuns w (some ⟨b4,0,none⟩) 2 L1:=by
 have D0:=Rd.of_bx (enc:=numE .i64) (l:=[5,5,12]) num_len C0
 have D1:=Rd.of_bx (enc:=numE .i64) (l:=[5,9,12]) num_len C1
 have D2:=Rd.of_bx (enc:=numE .i64) (l:=[6,7,9]) num_len C2
 have D3:=Rd.of_bx (enc:=numE .i64) (l:=[6,7,9]) num_len C3
 have D4:=Rd.of_bx (enc:=rnE) (l:=[(0,0,(some ⟨b0,0,none⟩,3,3),(some ⟨b1,0,none⟩,3,3)),(1,0,(some ⟨b2,0,none⟩,3,3),(some ⟨b3,0,none⟩,3,3))]) rnE_len C4
 refine⟨_,D4,rfl,fun k e r he hr=>?_⟩
 match k,he,hr with
 |0,he,hr=>
  simp [L1] at he hr;subst he hr
  exact⟨rfl,rfl,D0,⟨Nat.le_refl _,Nat.le_of_ble_eq_true rfl⟩,D1,⟨Nat.le_refl _,Nat.le_of_ble_eq_true rfl⟩⟩
 |1,he,hr=>
  simp [L1] at he hr;subst he hr
  exact⟨rfl,rfl,D2,⟨Nat.le_refl _,Nat.le_of_ble_eq_true rfl⟩,D3,⟨Nat.le_refl _,Nat.le_of_ble_eq_true rfl⟩⟩
 |k+2,he,hr=>simp at he
theorem rruns_one {w:World} {b:Nat} (h:Bx w b 47 [.int .i64 0,.int .i64 0,.slice none 0 0,.slice none 0 0]):RRuns w (some ⟨b,0,none⟩) 1 [⟨0,0,[],[]⟩]:=by
 have D:=Rd.of_bx (enc:=rnE) (l:=[(0,0,(none,0,0),(none,0,0))]) rnE_len h
 refine⟨_,D,rfl,fun k e r he hr=>?_⟩
 match k,he,hr with
 |0,he,hr=>
  simp at he hr;subst he hr
  exact⟨rfl,rfl,Rd.nil,⟨Nat.le_refl _,Nat.le_of_ble_eq_true rfl⟩,Rd.nil,⟨Nat.le_refl _,Nat.le_of_ble_eq_true rfl⟩⟩
 |k+1,he,hr=>simp at he
theorem rruns_made {w:World} {k:Nat} (n:Nat) (h:w.heap[k]?=some (.cells (madeCells #[.int .i64 0,.int .i64 0,.slice none 0 0,.slice none 0 0] (n*4)) 47 (0,0))):RRuns w (some ⟨k,0,none⟩) n (List.replicate n ⟨0,0,[],[]⟩):=by
 refine⟨List.replicate n (0,0,(none,0,0),(none,0,0)),⟨by simp,fun _=>⟨k,0,rfl,(Array.getElem?_eq_some_iff.1 h).1,fun i x hx j u hu=>?_⟩⟩,by simp,fun i e r he hr=>?_⟩
 ·have hin:i<n:=by
   have:=(List.getElem?_eq_some_iff.1 hx).1
   simpa using this
  have hj:j<4:=(List.getElem?_eq_some_iff.1 hu).1
  rw [List.getElem?_replicate,if_pos hin] at hx
  cases hx
  rw [cell_of_row _ _ _ _ _ _ h,Nat.zero_add]
  unfold madeCells
  rw [Array.getElem?_map,Array.getElem?_eq_getElem (by simp;omega)]
  simp only [Option.map_some,Array.getElem_range]
  have hm:(i*4+j) % 4=j:=by omega
  show some (#[Value.int .i64 0,.int .i64 0,.slice none 0 0,.slice none 0 0][(i*4+j) % 4]!)=_
  rw [hm]
  match j,hj,hu with
  |0,_,hu=>exact hu
  |1,_,hu=>exact hu
  |2,_,hu=>exact hu
  |3,_,hu=>exact hu
 ·rw [List.getElem?_replicate] at he hr
  split at he
  ·rename_i hi
   rw [if_pos hi] at hr
   cases he;cases hr
   exact⟨rfl,rfl,Rd.nil,⟨Nat.le_refl _,Nat.le_of_ble_eq_true rfl⟩,Rd.nil,⟨Nat.le_refl _,Nat.le_of_ble_eq_true rfl⟩⟩
  ·cases he
theorem infoRun:(Tryz.prog.info? 47).map (fun i=>(i.zero,i.size,i.bytes))=some (some (.agg #[.int .i64 0,.int .i64 0,.slice none 0 0,.slice none 0 0]),4,64):=by kernel_rfl
theorem make_runs (n:Nat) (hn:n≤20000) (W:World):(Instr.makeSlice 32 (.int .i64 (n:Int)) (.int .i64 (n:Int))).run Tryz.prog W= .ok (.slice (some ⟨W.heap.size,0,none⟩) n n) (W.alloc (.cells (madeCells #[.int .i64 0,.int .i64 0,.slice none 0 0,.slice none 0 0] (n*4)) 47)):=by
 obtain⟨i,hi,hz,hs,hb⟩:=info_parts infoRun
 have:=run_make (P:=Tryz.prog) W 32 47 i _ Tryz.underlying32 hi hz .i64 .i64 (n:Int) (n:Int) (by omega) (Int.le_refl _) (by rw [hb];omega) (by omega)
 rw [hs] at this
 simpa [Value.cells] using this
theorem runs19_own (we:World):Calls Tryz.prog 24 #[] we fun e w'=> ∃ b0 b1 b2 b3 b4,e= .returned (.slice (some ⟨b4,0,none⟩) 2 2)∧we.heap.size≤b0∧(b0≠b1∧b0≠b2∧b0≠b3∧b0≠b4)∧
 Bx w' b0 2 [.int .i64 5,.int .i64 8,.int .i64 12]∧Bx w' b1 2 [.int .i64 5,.int .i64 9,.int .i64 12]∧Bx w' b2 2 [.int .i64 6,.int .i64 7,.int .i64 9]∧Bx w' b3 2 [.int .i64 6,.int .i64 7,.int .i64 9]∧Bx w' b4 47 [.int .i64 0,.int .i64 0,.slice (some ⟨b0,0,none⟩) 3 3,.slice (some ⟨b1,0,none⟩) 3 3,.int .i64 1,.int .i64 0,.slice (some ⟨b2,0,none⟩) 3 3,.slice (some ⟨b3,0,none⟩) 3 3]∧Below we.heap.size we w':=by
 obtain⟨v0,b0,hv0,hb0E,hb0,B0⟩:=box1 we 2 [.int .i64 5,.int .i64 8,.int .i64 12]
 obtain⟨v1,b1,hv1,hb1E,hb1,B1⟩:=box1 v0 2 [.int .i64 5,.int .i64 9,.int .i64 12]
 obtain⟨v2,b2,hv2,hb2E,hb2,B2⟩:=box1 v1 2 [.int .i64 6,.int .i64 7,.int .i64 9]
 obtain⟨v3,b3,hv3,hb3E,hb3,B3⟩:=box1 v2 2 [.int .i64 6,.int .i64 7,.int .i64 9]
 obtain⟨v4,b4,hv4,hb4E,hb4,B4⟩:=box1 v3 47 [.int .i64 0,.int .i64 0,.slice (some ⟨b0,0,none⟩) 3 3,.slice (some ⟨b1,0,none⟩) 3 3,.int .i64 1,.int .i64 0,.slice (some ⟨b2,0,none⟩) 3 3,.slice (some ⟨b3,0,none⟩) 3 3]
 have hup0:Below we.heap.size we v0:=hb0
 have hup1:Below we.heap.size we v1:=hup0.trans (hb1.mono hup0.size)
 have hup2:Below we.heap.size we v2:=hup1.trans (hb2.mono hup1.size)
 have hup3:Below we.heap.size we v3:=hup2.trans (hb3.mono hup2.size)
 have hup4:Below we.heap.size we v4:=hup3.trans (hb4.mono hup3.size)
 have C0:=Lib.hid (((((B0).below hb1).below hb2).below hb3).below hb4)
 have C1:=Lib.hid ((((B1).below hb2).below hb3).below hb4)
 have C2:=Lib.hid (((B2).below hb3).below hb4)
 have C3:=Lib.hid ((B3).below hb4)
 have C4:=Lib.hid (B4)
 have hup:=Lib.hid hup4
 have g0:we.heap.size≤b0:=by omega
 have o1:b0<b1:=by have:=B0.lt;omega
 have o2:b1<b2:=by have:=B1.lt;omega
 have o3:b2<b3:=by have:=B2.lt;omega
 have o4:b3<b4:=by have:=B3.lt;omega
 have hne:b0≠b1∧b0≠b2∧b0≠b3∧b0≠b4:=by omega
 have hneH:=Lib.hid hne
 have g0H:=Lib.hid g0
 clear B0 B1 B2 B3 B4 hup0 hup1 hup2 hup3 hup4 hne g0 o1 o2 o3 o4
 go_enter Tryz.func24,Tryz.ntmps24
 go_wp2_with fail
 clear hv0 hb0E hv1 hb1E hv2 hb2E hv3 hb3E hv4 hb4E
 go_returns
 exact⟨b0,b1,b2,b3,b4,rfl,g0H.out,hneH.out,C0.out,C1.out,C2.out,C3.out,C4.out,hup.out⟩
end Go.Proofs.YtechdefolfboeaaGreatDoor
