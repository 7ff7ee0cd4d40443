/- Merged. -/
import Derived.Test.YtechdefolfboeaaGreatDoorPd27
set_option linter.unusedVariables false
set_option linter.unusedSimpArgs false
set_option maxRecDepth 100000
set_option maxHeartbeats 2000000
namespace Go.Proofs.YtechdefolfboeaaGreatDoor
open Go.RowKit B K
theorem kP_ (g:Nat) (lb:Array Value) (eg: ∀ args w,(callFunc g args).run Tryz.prog w= .ok (.enter g args) w) (p:Nat ->Bool) (A:Option Addr) (n c:Nat) (l:List (RnE)) (w:World) (hr:Rd w 4 rnE A n l) (hn:n<=1099511627776)
 (hp: ∀ (W:World) (i:Nat) (x:RnE),Below w.heap.size w W ->l[i]?=some x ->Calls Tryz.prog g (#[.agg (rnE x).toArray]++lb) W (rb_ (.bool (p i)) W)):
 Calls Tryz.prog 96 #[.slice A n c,.func (.func g) #[] lb] w (rb_ (.int .i64 (idx p (List.range n))) w):=by
 go_enter Tryz.func96,Tryz.ntmps96
 go_wp2
 go_loopw [8] (fun i wr=> ∃ (k:Nat),k<=n/\i= .int .i64 k/\Below w.heap.size w wr/\Hd (∀ y∈(List.range n).take k,p y=false)) (fun i _=>n-(intOf i).toNat)
 ·exact⟨0,Nat.zero_le _,rfl,Below.refl _ _,fun y q=>by simp at q⟩
 ·obtain⟨k,hk,rfl,J,F⟩:=hrel;by_cases L:k<n
  ·have aA:(k:Int)<(n:Int):=by omega
   obtain⟨b,o,⟨x1,x2,⟨x4,x5,x6⟩,⟨x7,x8,x9⟩⟩,rfl,aB,N,j⟩:=(hr.below J).get L;have Q:=j 0 _ rfl;have R:=j 1 _ rfl;have S:=j 2 _ rfl;have T:=j 3 _ rfl;simp only [Nat.add_zero,SlV.v] at Q R S T;have N:=H_ N;rename_i P;clear P j;have z:(List.range n)[k]?=some k:=List.getElem?_range L;have f:=hp wr k _ J N.o;simp only [rnE,SlV.v,Array.append_eq_append,List.append_toArray,List.cons_append,List.nil_append] at f;clear hp
   cases G:p k with
   |true=>
    rw [G] at f;have U:Hd (idx p (List.range n)=k):=cn_ z F.o G;clear z;clear G;go_wp2_with fail;refine f.mono ?_;rintro e w2 ⟨rfl,D⟩
    go_wp2
    go_returns;exact⟨ah_ U.o.symm,u_ J D⟩
   |false=>
    rw [G] at f
    have M:Hd (∀ y∈(List.range n).take (k+1),p y=false):=by
     intro y q;rw [an_ z,List.mem_append] at q;rcases q with q|q
     ·exact F.o y q
     ·simp at q;subst q;exact G
    clear G z;go_wp2_with fail;refine f.mono ?_;rintro e w2 ⟨rfl,D⟩
    go_wp2
    go_roundw
    ·exact⟨k+1,by omega,by go_num,u_ J D,M⟩
    ·simp [intOf];omega
  ·go_wp2
   go_returns;exact⟨ah_ (by rw [cx_];intro y q;exact F.o y (by rwa [List.take_of_length_le (by rw [List.length_range];omega)])),J⟩
theorem kG_ (g:Nat) (lb:Array Value) (eg: ∀ args w,(callFunc g args).run Tryz.prog w= .ok (.enter g args) w) (p:Nat ->Bool) (A:Option Addr) (n c:Nat) (l:List (RnE)) (w:World) (hr:Rd w 4 rnE A n l) (hn:n<=1099511627776)
 (hp: ∀ (W:World) (i:Nat) (x:RnE),Below w.heap.size w W ->l[i]?=some x ->Calls Tryz.prog g (#[.agg (rnE x).toArray]++lb) W (rb_ (.bool (p i)) W)):
 Calls Tryz.prog 56 #[.slice A n c,.func (.func g) #[] lb] w (rb_ (.bool ((List.range n).any p)) w):=by
 have h:=H_ (kP_ g lb eg p A n c l w hr hn hp);clear hp hr;go_enter Tryz.func56,Tryz.ntmps56;go_wp2_with fail;refine h.o.mono ?_;rintro e w1 ⟨rfl,y⟩;have j:=H_ y;have z:=H_ (cK_ p (List.range n));obtain⟨q,f⟩:=e_ (idx p (List.range n));rw [f] at z ⊢;clear y f
 go_wp2
 go_returns;exact⟨am_ z.o,j.o⟩
theorem kM_:(Tryz.prog.info? 42).map (fun i=>(i.zero,i.size,i.bytes))=some (some (.agg #[.int .i64 0,.int .i64 0,.int .i64 0,.int .i64 0,.int .i64 0,.int .i64 0]),6,48):=by kernel_rfl
instance:DecidableEq aC_:=fun a b=>
 if h:a.dep=b.dep/\a.arr=b.arr/\a.fr=b.fr/\a.to_=b.to_/\a.run=b.run/\a.pos=b.pos then isTrue (aC_.ext' h.1 h.2.1 h.2.2.1 h.2.2.2.1 h.2.2.2.2.1 h.2.2.2.2.2)
 else isFalse fun e=>h (by subst e;exact⟨rfl,rfl,rfl,rfl,rfl,rfl⟩)
theorem dF_ {N:Nat} {w w':World} (h:Below N w w') (n:Nat):Below N w (w'.drewN n):=⟨h.os,h.tape,h.output,h.size,h.block⟩
