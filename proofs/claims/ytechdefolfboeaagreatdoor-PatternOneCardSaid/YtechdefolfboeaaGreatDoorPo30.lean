/- Merged. -/
import Derived.Test.YtechdefolfboeaaGreatDoorPo28
set_option linter.unusedVariables false
set_option linter.unusedSimpArgs false
set_option maxRecDepth 100000
set_option maxHeartbeats 2000000
namespace Go.Proofs.YtechdefolfboeaaGreatDoor
open Go.RowKit B K
theorem ixfRun_any (g:Nat) (lb:Array Value) (eg: ∀ args w,(callFunc g args).run Tryz.prog w= .ok (.enter g args) w) (p:Nat→Bool) (A:Option Addr) (n c:Nat) (l:List (RnE)) (w:World) (hr:Rd w 4 rnE A n l) (hn:n≤1099511627776)
 (hp: ∀ (W:World) (i:Nat) (x:RnE),Below w.heap.size w W→l[i]?=some x→Calls Tryz.prog g (#[.agg (rnE x).toArray]++lb) W fun e w'=>e= .returned (.bool (p i))∧Below W.heap.size W w'):
 Calls Tryz.prog 96 #[.slice A n c,.func (.func g) #[] lb] w fun e w'=>e= .returned (.int .i64 (idx p (List.range n)))∧Below w.heap.size w w':=by
 go_enter Tryz.func96,Tryz.ntmps96;go_wp2_with fail;go_loopw [8] (fun i wr=> ∃ (k:Nat),k≤n∧i= .int .i64 k∧Below w.heap.size w wr∧Hid (∀ y∈(List.range n).take k,p y=false)) (fun i _=>n-(intOf i).toNat)
 case atStart=>exact⟨0,Nat.zero_le _,rfl,Below.refl _ _,fun y hy=>by simp at hy⟩
 case round=>
  obtain⟨k,hk,rfl,hb,hno⟩:=hrel;by_cases hlt:k<n
  ·have hltI:(k:Int)<(n:Int):=by omega
   obtain⟨b,o,⟨x1,x2,⟨x4,x5,x6⟩,⟨x7,x8,x9⟩⟩,rfl,hbs,hx,hc0⟩:=(hr.below hb).get hlt;have g0:=hc0 0 _ rfl;have g1:=hc0 1 _ rfl;have g2:=hc0 2 _ rfl;have g3:=hc0 3 _ rfl;simp only [Nat.add_zero,SlV.v] at g0 g1 g2 g3;have hx:=H_ hx;rename_i hx0;clear hx0 hc0;have hrk:(List.range n)[k]?=some k:=List.getElem?_range hlt;have hcall:=hp wr k _ hb hx.out;simp only [rnE,SlV.v,Array.append_eq_append,List.append_toArray,List.cons_append,List.nil_append] at hcall;clear hp
   cases hq:p k with
   |true=>
    rw [hq] at hcall;have hi:Hid (idx p (List.range n)=k):=idx_at hrk hno.out hq;clear hrk;clear hq;go_wp2_with fail;refine hcall.mono ?_;rintro e w2 ⟨rfl,hb2⟩;go_wp2_with fail;go_returns;exact⟨ret_int hi.out.symm,u_ hb hb2⟩
   |false=>
    rw [hq] at hcall
    have hno':Hid (∀ y∈(List.range n).take (k+1),p y=false):=by
     intro y hy;rw [take_at hrk,List.mem_append] at hy;rcases hy with hy|hy
     ·exact hno.out y hy
     ·simp at hy;subst hy;exact hq
    clear hq hrk;go_wp2_with fail;refine hcall.mono ?_;rintro e w2 ⟨rfl,hb2⟩;go_wp2_with fail;go_roundw
    case rel=>exact⟨k+1,by omega,by go_num,u_ hb hb2,hno'⟩
    case measure=>simp [intOf];omega
  ·go_wp2
   go_returns;exact⟨ret_int (by rw [idx_no];intro y hy;exact hno.out y (by rwa [List.take_of_length_le (by rw [List.length_range];omega)])),hb⟩
theorem ctfRun_any (g:Nat) (lb:Array Value) (eg: ∀ args w,(callFunc g args).run Tryz.prog w= .ok (.enter g args) w) (p:Nat→Bool) (A:Option Addr) (n c:Nat) (l:List (RnE)) (w:World) (hr:Rd w 4 rnE A n l) (hn:n≤1099511627776)
 (hp: ∀ (W:World) (i:Nat) (x:RnE),Below w.heap.size w W→l[i]?=some x→Calls Tryz.prog g (#[.agg (rnE x).toArray]++lb) W fun e w'=>e= .returned (.bool (p i))∧Below W.heap.size W w'):
 Calls Tryz.prog 56 #[.slice A n c,.func (.func g) #[] lb] w fun e w'=>e= .returned (.bool ((List.range n).any p))∧Below w.heap.size w w':=by
 have h:=H_ (ixfRun_any g lb eg p A n c l w hr hn hp);clear hp hr;go_enter Tryz.func56,Tryz.ntmps56;go_wp2_with fail;refine h.out.mono ?_;rintro e w1 ⟨rfl,hb⟩;have hbH:=H_ hb;have hq:=H_ (idx_any p (List.range n));obtain⟨q,hqe⟩: ∃ q,idx p (List.range n)=q:=⟨_,rfl⟩
 rw [hqe] at hq ⊢;clear hb hqe;go_wp2_with fail;go_returns;exact⟨ret_bool hq.out,hbH.out⟩
theorem info_tConn:(Tryz.prog.info? 42).map (fun i=>(i.zero,i.size,i.bytes))=some (some (.agg #[.int .i64 0,.int .i64 0,.int .i64 0,.int .i64 0,.int .i64 0,.int .i64 0]),6,48):=by kernel_rfl
instance:DecidableEq ConnP:=fun a b=>
 if h:a.dep=b.dep∧a.arr=b.arr∧a.fr=b.fr∧a.to_=b.to_∧a.run=b.run∧a.pos=b.pos then isTrue (ConnP.ext' h.1 h.2.1 h.2.2.1 h.2.2.2.1 h.2.2.2.2.1 h.2.2.2.2.2)
 else isFalse fun e=>h (by subst e;exact⟨rfl,rfl,rfl,rfl,rfl,rfl⟩)
theorem below_drewN' {N:Nat} {w w':World} (h:Below N w w') (n:Nat):Below N w (w'.drewN n):=⟨h.os,h.tape,h.output,h.size,h.block⟩
