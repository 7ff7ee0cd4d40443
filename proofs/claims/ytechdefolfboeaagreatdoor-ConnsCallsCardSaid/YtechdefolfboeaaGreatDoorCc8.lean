/- Texts of one chain, merged. -/
import Derived.Test.YtechdefolfboeaaGreatDoorCc1
import Derived.Test.YtechdefolfboeaaGreatDoorCc2
import Derived.Test.YtechdefolfboeaaGreatDoorCc5
import Derived.Test.YtechdefolfboeaaGreatDoorCc6
import Derived.Test.YtechdefolfboeaaGreatDoorCc7
set_option linter.unusedVariables false
set_option linter.unusedSimpArgs false
set_option maxRecDepth 100000
set_option maxHeartbeats 2000000
namespace Go.Proofs.YtechdefolfboeaaGreatDoor
open Go.RowKit B K
theorem ixfP_any (g:Nat) (lb:Array Value) (eg: ∀ args w,(callFunc g args).run Tryz.prog w= .ok (.enter g args) w) (p:Int×Int×Int→Bool) (A:Option Addr) (n c:Nat) (l:List (Int×Int×Int)) (w:World) (hr:Rd w 3 tripE A n l) (hn:n≤1099511627776)
 (hp: ∀ (W:World) (x:Int×Int×Int),Below w.heap.size w W→x∈l→Calls Tryz.prog g (#[.agg (tripE x).toArray]++lb) W fun e w'=>e= .returned (.bool (p x))∧Below W.heap.size W w'):
 Calls Tryz.prog 157 #[.slice A n c,.func (.func g) #[] lb] w fun e w'=>e= .returned (.int .i64 (idx p l))∧Below w.heap.size w w':=by
 go_enter Tryz.func157,Tryz.ntmps157
 go_wp2_with fail
 go_loopw [8] (fun i wr=> ∃ (k:Nat),k≤n∧i= .int .i64 k∧Below w.heap.size w wr∧Hid (∀ y∈l.take k,p y=false)) (fun i _=>n-(intOf i).toNat)
 case atStart=>exact⟨0,Nat.zero_le _,rfl,Below.refl _ _,fun y hy=>by simp at hy⟩
 case round=>
  obtain⟨k,hk,rfl,hb,hno⟩:=hrel
  by_cases hlt:k<n
  ·have hltI:(k:Int)<(n:Int):=by omega
   obtain⟨b,o,⟨x1,x2,x3⟩,rfl,hbs,hx,hc0⟩:=(hr.below hb).get hlt
   have g0:=hc0 0 _ rfl
   have g1:=hc0 1 _ rfl
   have g2:=hc0 2 _ rfl
   simp only [Nat.add_zero] at g0
   have hx:=Lib.hid hx
   rename_i hx0
   clear hx0 hc0
   have hcall:=hp wr _ hb (List.mem_of_getElem? hx.out)
   simp only [tripE,Array.append_eq_append,List.append_toArray,List.cons_append,List.nil_append] at hcall
   clear hp
   cases hq:p (⟨x1,x2,x3⟩) with
   |true=>
    rw [hq] at hcall
    have hi:Hid (idx p l=k):=idx_at hx.out hno.out hq
    clear hq
    go_wp2_with fail
    refine hcall.mono ?_;rintro e w2 ⟨rfl,hb2⟩
    go_wp2_with fail
    go_returns
    exact⟨ret_int hi.out.symm,u_ hb hb2⟩
   |false=>
    rw [hq] at hcall
    have hno':Hid (∀ y∈l.take (k+1),p y=false):=by
     intro y hy
     rw [take_at hx.out,List.mem_append] at hy
     rcases hy with hy|hy
     ·exact hno.out y hy
     ·simp at hy;subst hy;exact hq
    clear hq
    go_wp2_with fail
    refine hcall.mono ?_;rintro e w2 ⟨rfl,hb2⟩
    go_wp2_with fail
    go_roundw
    case rel=>exact⟨k+1,by omega,by go_num,u_ hb hb2,hno'⟩
    case measure=>simp [intOf];omega
  ·go_wp2
   go_returns
   exact⟨ret_int (by rw [idx_no];intro y hy;exact hno.out y (by rwa [List.take_of_length_le (by rw [hr.len];omega)])),hb⟩
theorem ctfP_any (g:Nat) (lb:Array Value) (eg: ∀ args w,(callFunc g args).run Tryz.prog w= .ok (.enter g args) w) (p:Int×Int×Int→Bool) (A:Option Addr) (n c:Nat) (l:List (Int×Int×Int)) (w:World) (hr:Rd w 3 tripE A n l) (hn:n≤1099511627776)
 (hp: ∀ (W:World) (x:Int×Int×Int),Below w.heap.size w W→x∈l→Calls Tryz.prog g (#[.agg (tripE x).toArray]++lb) W fun e w'=>e= .returned (.bool (p x))∧Below W.heap.size W w'):
 Calls Tryz.prog 119 #[.slice A n c,.func (.func g) #[] lb] w fun e w'=>e= .returned (.bool (l.any p))∧Below w.heap.size w w':=by
 have h:=Lib.hid (ixfP_any g lb eg p A n c l w hr hn hp)
 clear hp hr
 go_enter Tryz.func119,Tryz.ntmps119
 go_wp2_with fail
 refine h.out.mono ?_;rintro e w1 ⟨rfl,hb⟩
 have hbH:=Lib.hid hb
 have hq:=Lib.hid (idx_any p l)
 obtain⟨q,hqe⟩: ∃ q,idx p l=q:=⟨_,rfl⟩
 rw [hqe] at hq ⊢
 clear hb hqe
 go_wp2_with fail
 go_returns
 exact⟨ret_bool hq.out,hbH.out⟩
theorem ixfD_any (g:Nat) (lb:Array Value) (eg: ∀ args w,(callFunc g args).run Tryz.prog w= .ok (.enter g args) w) (p:DoorP→Bool) (A:Option Addr) (n c:Nat) (l:List (DoorP)) (w:World) (hr:Rd w 6 doorE A n l) (hn:n≤1099511627776)
 (hp: ∀ (W:World) (x:DoorP),Below w.heap.size w W→x∈l→Calls Tryz.prog g (#[.agg (doorE x).toArray]++lb) W fun e w'=>e= .returned (.bool (p x))∧Below W.heap.size W w'):
 Calls Tryz.prog 158 #[.slice A n c,.func (.func g) #[] lb] w fun e w'=>e= .returned (.int .i64 (idx p l))∧Below w.heap.size w w':=by
 go_enter Tryz.func158,Tryz.ntmps158
 go_wp2_with fail
 go_loopw [8] (fun i wr=> ∃ (k:Nat),k≤n∧i= .int .i64 k∧Below w.heap.size w wr∧Hid (∀ y∈l.take k,p y=false)) (fun i _=>n-(intOf i).toNat)
 case atStart=>exact⟨0,Nat.zero_le _,rfl,Below.refl _ _,fun y hy=>by simp at hy⟩
 case round=>
  obtain⟨k,hk,rfl,hb,hno⟩:=hrel
  by_cases hlt:k<n
  ·have hltI:(k:Int)<(n:Int):=by omega
   obtain⟨b,o,⟨x1,x2,x3,x4,x5,x6⟩,rfl,hbs,hx,hc0⟩:=(hr.below hb).get hlt
   have g0:=hc0 0 _ rfl
   have g1:=hc0 1 _ rfl
   have g2:=hc0 2 _ rfl
   have g3:=hc0 3 _ rfl
   have g4:=hc0 4 _ rfl
   have g5:=hc0 5 _ rfl
   simp only [Nat.add_zero] at g0
   have hx:=Lib.hid hx
   rename_i hx0
   clear hx0 hc0
   have hcall:=hp wr _ hb (List.mem_of_getElem? hx.out)
   simp only [doorE,Array.append_eq_append,List.append_toArray,List.cons_append,List.nil_append] at hcall
   clear hp
   cases hq:p (⟨x1,x2,x3,x4,x5,x6⟩) with
   |true=>
    rw [hq] at hcall
    have hi:Hid (idx p l=k):=idx_at hx.out hno.out hq
    clear hq
    go_wp2_with fail
    refine hcall.mono ?_;rintro e w2 ⟨rfl,hb2⟩
    go_wp2_with fail
    go_returns
    exact⟨ret_int hi.out.symm,u_ hb hb2⟩
   |false=>
    rw [hq] at hcall
    have hno':Hid (∀ y∈l.take (k+1),p y=false):=by
     intro y hy
     rw [take_at hx.out,List.mem_append] at hy
     rcases hy with hy|hy
     ·exact hno.out y hy
     ·simp at hy;subst hy;exact hq
    clear hq
    go_wp2_with fail
    refine hcall.mono ?_;rintro e w2 ⟨rfl,hb2⟩
    go_wp2_with fail
    go_roundw
    case rel=>exact⟨k+1,by omega,by go_num,u_ hb hb2,hno'⟩
    case measure=>simp [intOf];omega
  ·go_wp2
   go_returns
   exact⟨ret_int (by rw [idx_no];intro y hy;exact hno.out y (by rwa [List.take_of_length_le (by rw [hr.len];omega)])),hb⟩
theorem ctfD_any (g:Nat) (lb:Array Value) (eg: ∀ args w,(callFunc g args).run Tryz.prog w= .ok (.enter g args) w) (p:DoorP→Bool) (A:Option Addr) (n c:Nat) (l:List (DoorP)) (w:World) (hr:Rd w 6 doorE A n l) (hn:n≤1099511627776)
 (hp: ∀ (W:World) (x:DoorP),Below w.heap.size w W→x∈l→Calls Tryz.prog g (#[.agg (doorE x).toArray]++lb) W fun e w'=>e= .returned (.bool (p x))∧Below W.heap.size W w'):
 Calls Tryz.prog 121 #[.slice A n c,.func (.func g) #[] lb] w fun e w'=>e= .returned (.bool (l.any p))∧Below w.heap.size w w':=by
 have h:=Lib.hid (ixfD_any g lb eg p A n c l w hr hn hp)
 clear hp hr
 go_enter Tryz.func121,Tryz.ntmps121
 go_wp2_with fail
 refine h.out.mono ?_;rintro e w1 ⟨rfl,hb⟩
 have hbH:=Lib.hid hb
 have hq:=Lib.hid (idx_any p l)
 obtain⟨q,hqe⟩: ∃ q,idx p l=q:=⟨_,rfl⟩
 rw [hqe] at hq ⊢
 clear hb hqe
 go_wp2_with fail
 go_returns
 exact⟨ret_bool hq.out,hbH.out⟩
theorem ixfR_any (g:Nat) (lb:Array Value) (eg: ∀ args w,(callFunc g args).run Tryz.prog w= .ok (.enter g args) w) (p:Nat→Bool) (A:Option Addr) (n c:Nat) (l:List (RE3)) (w:World) (hr:Rd w 3 re3E A n l) (hn:n≤1099511627776)
 (hp: ∀ (W:World) (i:Nat) (x:RE3),Below w.heap.size w W→l[i]?=some x→Calls Tryz.prog g (#[.agg (re3E x).toArray]++lb) W fun e w'=>e= .returned (.bool (p i))∧Below W.heap.size W w'):
 Calls Tryz.prog 159 #[.slice A n c,.func (.func g) #[] lb] w fun e w'=>e= .returned (.int .i64 (idx p (List.range n)))∧Below w.heap.size w w':=by
 go_enter Tryz.func159,Tryz.ntmps159
 go_wp2_with fail
 go_loopw [8] (fun i wr=> ∃ (k:Nat),k≤n∧i= .int .i64 k∧Below w.heap.size w wr∧Hid (∀ y∈(List.range n).take k,p y=false)) (fun i _=>n-(intOf i).toNat)
 case atStart=>exact⟨0,Nat.zero_le _,rfl,Below.refl _ _,fun y hy=>by simp at hy⟩
 case round=>
  obtain⟨k,hk,rfl,hb,hno⟩:=hrel
  by_cases hlt:k<n
  ·have hltI:(k:Int)<(n:Int):=by omega
   obtain⟨b,o,⟨⟨x1,x2,x3⟩,⟨x4,x5,x6⟩,⟨x7,x8,x9⟩⟩,rfl,hbs,hx,hc0⟩:=(hr.below hb).get hlt
   have g0:=hc0 0 _ rfl
   have g1:=hc0 1 _ rfl
   have g2:=hc0 2 _ rfl
   simp only [Nat.add_zero,SlV.v] at g0 g1 g2
   have hx:=Lib.hid hx
   rename_i hx0
   clear hx0 hc0
   have hrk:(List.range n)[k]?=some k:=List.getElem?_range hlt
   have hcall:=hp wr k _ hb hx.out
   simp only [re3E,SlV.v,Array.append_eq_append,List.append_toArray,List.cons_append,List.nil_append] at hcall
   clear hp
   cases hq:p k with
   |true=>
    rw [hq] at hcall
    have hi:Hid (idx p (List.range n)=k):=idx_at hrk hno.out hq
    clear hrk
    clear hq
    go_wp2_with fail
    refine hcall.mono ?_;rintro e w2 ⟨rfl,hb2⟩
    go_wp2_with fail
    go_returns
    exact⟨ret_int hi.out.symm,u_ hb hb2⟩
   |false=>
    rw [hq] at hcall
    have hno':Hid (∀ y∈(List.range n).take (k+1),p y=false):=by
     intro y hy
     rw [take_at hrk,List.mem_append] at hy
     rcases hy with hy|hy
     ·exact hno.out y hy
     ·simp at hy;subst hy;exact hq
    clear hq hrk
    go_wp2_with fail
    refine hcall.mono ?_;rintro e w2 ⟨rfl,hb2⟩
    go_wp2_with fail
    go_roundw
    case rel=>exact⟨k+1,by omega,by go_num,u_ hb hb2,hno'⟩
    case measure=>simp [intOf];omega
  ·go_wp2
   go_returns
   exact⟨ret_int (by rw [idx_no];intro y hy;exact hno.out y (by rwa [List.take_of_length_le (by rw [List.length_range];omega)])),hb⟩
theorem ctfR_any (g:Nat) (lb:Array Value) (eg: ∀ args w,(callFunc g args).run Tryz.prog w= .ok (.enter g args) w) (p:Nat→Bool) (A:Option Addr) (n c:Nat) (l:List (RE3)) (w:World) (hr:Rd w 3 re3E A n l) (hn:n≤1099511627776)
 (hp: ∀ (W:World) (i:Nat) (x:RE3),Below w.heap.size w W→l[i]?=some x→Calls Tryz.prog g (#[.agg (re3E x).toArray]++lb) W fun e w'=>e= .returned (.bool (p i))∧Below W.heap.size W w'):
 Calls Tryz.prog 123 #[.slice A n c,.func (.func g) #[] lb] w fun e w'=>e= .returned (.bool ((List.range n).any p))∧Below w.heap.size w w':=by
 have h:=Lib.hid (ixfR_any g lb eg p A n c l w hr hn hp)
 clear hp hr
 go_enter Tryz.func123,Tryz.ntmps123
 go_wp2_with fail
 refine h.out.mono ?_;rintro e w1 ⟨rfl,hb⟩
 have hbH:=Lib.hid hb
 have hq:=Lib.hid (idx_any p (List.range n))
 obtain⟨q,hqe⟩: ∃ q,idx p (List.range n)=q:=⟨_,rfl⟩
 rw [hqe] at hq ⊢
 clear hb hqe
 go_wp2_with fail
 go_returns
 exact⟨ret_bool hq.out,hbH.out⟩
theorem ixfI_any (g:Nat) (lb:Array Value) (eg: ∀ args w,(callFunc g args).run Tryz.prog w= .ok (.enter g args) w) (p:Int→Bool) (A:Option Addr) (n c:Nat) (l:List (Int)) (w:World) (hr:Rd w 1 (numE .i64) A n l) (hn:n≤1099511627776)
 (hp: ∀ (W:World) (x:Int),Below w.heap.size w W→x∈l→Calls Tryz.prog g (#[.int .i64 x]++lb) W fun e w'=>e= .returned (.bool (p x))∧Below W.heap.size W w'):
 Calls Tryz.prog 160 #[.slice A n c,.func (.func g) #[] lb] w fun e w'=>e= .returned (.int .i64 (idx p l))∧Below w.heap.size w w':=by
 go_enter Tryz.func160,Tryz.ntmps160
 go_wp2_with fail
 go_loopw [8] (fun i wr=> ∃ (k:Nat),k≤n∧i= .int .i64 k∧Below w.heap.size w wr∧Hid (∀ y∈l.take k,p y=false)) (fun i _=>n-(intOf i).toNat)
 case atStart=>exact⟨0,Nat.zero_le _,rfl,Below.refl _ _,fun y hy=>by simp at hy⟩
 case round=>
  obtain⟨k,hk,rfl,hb,hno⟩:=hrel
  by_cases hlt:k<n
  ·have hltI:(k:Int)<(n:Int):=by omega
   obtain⟨b,o,x1,rfl,hbs,hx,hc0⟩:=(hr.below hb).get hlt
   have g0:=hc0 0 _ rfl
   rw [Nat.mul_one,Nat.add_zero] at g0
   have hx:=Lib.hid hx
   rename_i hx0
   clear hx0 hc0
   have hcall:=hp wr _ hb (List.mem_of_getElem? hx.out)
   clear hp
   cases hq:p (x1) with
   |true=>
    rw [hq] at hcall
    have hi:Hid (idx p l=k):=idx_at hx.out hno.out hq
    clear hq
    go_wp2_with fail
    refine hcall.mono ?_;rintro e w2 ⟨rfl,hb2⟩
    go_wp2_with fail
    go_returns
    exact⟨ret_int hi.out.symm,u_ hb hb2⟩
   |false=>
    rw [hq] at hcall
    have hno':Hid (∀ y∈l.take (k+1),p y=false):=by
     intro y hy
     rw [take_at hx.out,List.mem_append] at hy
     rcases hy with hy|hy
     ·exact hno.out y hy
     ·simp at hy;subst hy;exact hq
    clear hq
    go_wp2_with fail
    refine hcall.mono ?_;rintro e w2 ⟨rfl,hb2⟩
    go_wp2_with fail
    go_roundw
    case rel=>exact⟨k+1,by omega,by go_num,u_ hb hb2,hno'⟩
    case measure=>simp [intOf];omega
  ·go_wp2
   go_returns
   exact⟨ret_int (by rw [idx_no];intro y hy;exact hno.out y (by rwa [List.take_of_length_le (by rw [hr.len];omega)])),hb⟩
theorem ctfI_any (g:Nat) (lb:Array Value) (eg: ∀ args w,(callFunc g args).run Tryz.prog w= .ok (.enter g args) w) (p:Int→Bool) (A:Option Addr) (n c:Nat) (l:List (Int)) (w:World) (hr:Rd w 1 (numE .i64) A n l) (hn:n≤1099511627776)
 (hp: ∀ (W:World) (x:Int),Below w.heap.size w W→x∈l→Calls Tryz.prog g (#[.int .i64 x]++lb) W fun e w'=>e= .returned (.bool (p x))∧Below W.heap.size W w'):
 Calls Tryz.prog 125 #[.slice A n c,.func (.func g) #[] lb] w fun e w'=>e= .returned (.bool (l.any p))∧Below w.heap.size w w':=by
 have h:=Lib.hid (ixfI_any g lb eg p A n c l w hr hn hp)
 clear hp hr
 go_enter Tryz.func125,Tryz.ntmps125
 go_wp2_with fail
 refine h.out.mono ?_;rintro e w1 ⟨rfl,hb⟩
 have hbH:=Lib.hid hb
 have hq:=Lib.hid (idx_any p l)
 obtain⟨q,hqe⟩: ∃ q,idx p l=q:=⟨_,rfl⟩
 rw [hqe] at hq ⊢
 clear hb hqe
 go_wp2_with fail
 go_returns
 exact⟨ret_bool hq.out,hbH.out⟩
theorem ixfT_any (g:Nat) (lb:Array Value) (eg: ∀ args w,(callFunc g args).run Tryz.prog w= .ok (.enter g args) w) (p:TripP→Bool) (A:Option Addr) (n c:Nat) (l:List (TripP)) (w:World) (hr:Rd w 4 tripP A n l) (hn:n≤1099511627776)
 (hp: ∀ (W:World) (x:TripP),Below w.heap.size w W→x∈l→Calls Tryz.prog g (#[.agg (tripP x).toArray]++lb) W fun e w'=>e= .returned (.bool (p x))∧Below W.heap.size W w'):
 Calls Tryz.prog 161 #[.slice A n c,.func (.func g) #[] lb] w fun e w'=>e= .returned (.int .i64 (idx p l))∧Below w.heap.size w w':=by
 go_enter Tryz.func161,Tryz.ntmps161
 go_wp2_with fail
 go_loopw [8] (fun i wr=> ∃ (k:Nat),k≤n∧i= .int .i64 k∧Below w.heap.size w wr∧Hid (∀ y∈l.take k,p y=false)) (fun i _=>n-(intOf i).toNat)
 case atStart=>exact⟨0,Nat.zero_le _,rfl,Below.refl _ _,fun y hy=>by simp at hy⟩
 case round=>
  obtain⟨k,hk,rfl,hb,hno⟩:=hrel
  by_cases hlt:k<n
  ·have hltI:(k:Int)<(n:Int):=by omega
   obtain⟨b,o,⟨x1,x2,x3,x4⟩,rfl,hbs,hx,hc0⟩:=(hr.below hb).get hlt
   have g0:=hc0 0 _ rfl
   have g1:=hc0 1 _ rfl
   have g2:=hc0 2 _ rfl
   have g3:=hc0 3 _ rfl
   simp only [Nat.add_zero] at g0
   have hx:=Lib.hid hx
   rename_i hx0
   clear hx0 hc0
   have hcall:=hp wr _ hb (List.mem_of_getElem? hx.out)
   simp only [tripP,Array.append_eq_append,List.append_toArray,List.cons_append,List.nil_append] at hcall
   clear hp
   cases hq:p (⟨x1,x2,x3,x4⟩) with
   |true=>
    rw [hq] at hcall
    have hi:Hid (idx p l=k):=idx_at hx.out hno.out hq
    clear hq
    go_wp2_with fail
    refine hcall.mono ?_;rintro e w2 ⟨rfl,hb2⟩
    go_wp2_with fail
    go_returns
    exact⟨ret_int hi.out.symm,u_ hb hb2⟩
   |false=>
    rw [hq] at hcall
    have hno':Hid (∀ y∈l.take (k+1),p y=false):=by
     intro y hy
     rw [take_at hx.out,List.mem_append] at hy
     rcases hy with hy|hy
     ·exact hno.out y hy
     ·simp at hy;subst hy;exact hq
    clear hq
    go_wp2_with fail
    refine hcall.mono ?_;rintro e w2 ⟨rfl,hb2⟩
    go_wp2_with fail
    go_roundw
    case rel=>exact⟨k+1,by omega,by go_num,u_ hb hb2,hno'⟩
    case measure=>simp [intOf];omega
  ·go_wp2
   go_returns
   exact⟨ret_int (by rw [idx_no];intro y hy;exact hno.out y (by rwa [List.take_of_length_le (by rw [hr.len];omega)])),hb⟩
theorem ctfT_any (g:Nat) (lb:Array Value) (eg: ∀ args w,(callFunc g args).run Tryz.prog w= .ok (.enter g args) w) (p:TripP→Bool) (A:Option Addr) (n c:Nat) (l:List (TripP)) (w:World) (hr:Rd w 4 tripP A n l) (hn:n≤1099511627776)
 (hp: ∀ (W:World) (x:TripP),Below w.heap.size w W→x∈l→Calls Tryz.prog g (#[.agg (tripP x).toArray]++lb) W fun e w'=>e= .returned (.bool (p x))∧Below W.heap.size W w'):
 Calls Tryz.prog 126 #[.slice A n c,.func (.func g) #[] lb] w fun e w'=>e= .returned (.bool (l.any p))∧Below w.heap.size w w':=by
 have h:=Lib.hid (ixfT_any g lb eg p A n c l w hr hn hp)
 clear hp hr
 go_enter Tryz.func126,Tryz.ntmps126
 go_wp2_with fail
 refine h.out.mono ?_;rintro e w1 ⟨rfl,hb⟩
 have hbH:=Lib.hid hb
 have hq:=Lib.hid (idx_any p l)
 obtain⟨q,hqe⟩: ∃ q,idx p l=q:=⟨_,rfl⟩
 rw [hqe] at hq ⊢
 clear hb hqe
 go_wp2_with fail
 go_returns
 exact⟨ret_bool hq.out,hbH.out⟩
theorem ixfH_any (g:Nat) (lb:Array Value) (eg: ∀ args w,(callFunc g args).run Tryz.prog w= .ok (.enter g args) w) (p:HazP→Bool) (A:Option Addr) (n c:Nat) (l:List (HazP)) (w:World) (hr:Rd w 5 hazE A n l) (hn:n≤1099511627776)
 (hp: ∀ (W:World) (x:HazP),Below w.heap.size w W→x∈l→Calls Tryz.prog g (#[.agg (hazE x).toArray]++lb) W fun e w'=>e= .returned (.bool (p x))∧Below W.heap.size W w'):
 Calls Tryz.prog 162 #[.slice A n c,.func (.func g) #[] lb] w fun e w'=>e= .returned (.int .i64 (idx p l))∧Below w.heap.size w w':=by
 go_enter Tryz.func162,Tryz.ntmps162
 go_wp2_with fail
 go_loopw [8] (fun i wr=> ∃ (k:Nat),k≤n∧i= .int .i64 k∧Below w.heap.size w wr∧Hid (∀ y∈l.take k,p y=false)) (fun i _=>n-(intOf i).toNat)
 case atStart=>exact⟨0,Nat.zero_le _,rfl,Below.refl _ _,fun y hy=>by simp at hy⟩
 case round=>
  obtain⟨k,hk,rfl,hb,hno⟩:=hrel
  by_cases hlt:k<n
  ·have hltI:(k:Int)<(n:Int):=by omega
   obtain⟨b,o,⟨x1,x2,x3,x4,x5⟩,rfl,hbs,hx,hc0⟩:=(hr.below hb).get hlt
   have g0:=hc0 0 _ rfl
   have g1:=hc0 1 _ rfl
   have g2:=hc0 2 _ rfl
   have g3:=hc0 3 _ rfl
   have g4:=hc0 4 _ rfl
   simp only [Nat.add_zero] at g0
   have hx:=Lib.hid hx
   rename_i hx0
   clear hx0 hc0
   have hcall:=hp wr _ hb (List.mem_of_getElem? hx.out)
   simp only [hazE,Array.append_eq_append,List.append_toArray,List.cons_append,List.nil_append] at hcall
   clear hp
   cases hq:p (⟨x1,x2,x3,x4,x5⟩) with
   |true=>
    rw [hq] at hcall
    have hi:Hid (idx p l=k):=idx_at hx.out hno.out hq
    clear hq
    go_wp2_with fail
    refine hcall.mono ?_;rintro e w2 ⟨rfl,hb2⟩
    go_wp2_with fail
    go_returns
    exact⟨ret_int hi.out.symm,u_ hb hb2⟩
   |false=>
    rw [hq] at hcall
    have hno':Hid (∀ y∈l.take (k+1),p y=false):=by
     intro y hy
     rw [take_at hx.out,List.mem_append] at hy
     rcases hy with hy|hy
     ·exact hno.out y hy
     ·simp at hy;subst hy;exact hq
    clear hq
    go_wp2_with fail
    refine hcall.mono ?_;rintro e w2 ⟨rfl,hb2⟩
    go_wp2_with fail
    go_roundw
    case rel=>exact⟨k+1,by omega,by go_num,u_ hb hb2,hno'⟩
    case measure=>simp [intOf];omega
  ·go_wp2
   go_returns
   exact⟨ret_int (by rw [idx_no];intro y hy;exact hno.out y (by rwa [List.take_of_length_le (by rw [hr.len];omega)])),hb⟩
theorem ctfH_any (g:Nat) (lb:Array Value) (eg: ∀ args w,(callFunc g args).run Tryz.prog w= .ok (.enter g args) w) (p:HazP→Bool) (A:Option Addr) (n c:Nat) (l:List (HazP)) (w:World) (hr:Rd w 5 hazE A n l) (hn:n≤1099511627776)
 (hp: ∀ (W:World) (x:HazP),Below w.heap.size w W→x∈l→Calls Tryz.prog g (#[.agg (hazE x).toArray]++lb) W fun e w'=>e= .returned (.bool (p x))∧Below W.heap.size W w'):
 Calls Tryz.prog 128 #[.slice A n c,.func (.func g) #[] lb] w fun e w'=>e= .returned (.bool (l.any p))∧Below w.heap.size w w':=by
 have h:=Lib.hid (ixfH_any g lb eg p A n c l w hr hn hp)
 clear hp hr
 go_enter Tryz.func128,Tryz.ntmps128
 go_wp2_with fail
 refine h.out.mono ?_;rintro e w1 ⟨rfl,hb⟩
 have hbH:=Lib.hid hb
 have hq:=Lib.hid (idx_any p l)
 obtain⟨q,hqe⟩: ∃ q,idx p l=q:=⟨_,rfl⟩
 rw [hqe] at hq ⊢
 clear hb hqe
 go_wp2_with fail
 go_returns
 exact⟨ret_bool hq.out,hbH.out⟩
theorem ixfS_any (g:Nat) (lb:Array Value) (eg: ∀ args w,(callFunc g args).run Tryz.prog w= .ok (.enter g args) w) (p:Str→Bool) (A:Option Addr) (n c:Nat) (l:List (Str)) (w:World) (hr:Rd w 1 strE A n l) (hn:n≤1099511627776)
 (hp: ∀ (W:World) (x:Str),Below w.heap.size w W→x∈l→Calls Tryz.prog g (#[.string x]++lb) W fun e w'=>e= .returned (.bool (p x))∧Below W.heap.size W w'):
 Calls Tryz.prog 227 #[.slice A n c,.func (.func g) #[] lb] w fun e w'=>e= .returned (.int .i64 (idx p l))∧Below w.heap.size w w':=by
 go_enter Tryz.func227,Tryz.ntmps227
 go_wp2_with fail
 go_loopw [8] (fun i wr=> ∃ (k:Nat),k≤n∧i= .int .i64 k∧Below w.heap.size w wr∧Hid (∀ y∈l.take k,p y=false)) (fun i _=>n-(intOf i).toNat)
 case atStart=>exact⟨0,Nat.zero_le _,rfl,Below.refl _ _,fun y hy=>by simp at hy⟩
 case round=>
  obtain⟨k,hk,rfl,hb,hno⟩:=hrel
  by_cases hlt:k<n
  ·have hltI:(k:Int)<(n:Int):=by omega
   obtain⟨b,o,x1,rfl,hbs,hx,hc0⟩:=(hr.below hb).get hlt
   have g0:=hc0 0 _ rfl
   rw [Nat.mul_one,Nat.add_zero] at g0
   have hx:=Lib.hid hx
   rename_i hx0
   clear hx0 hc0
   have hcall:=hp wr _ hb (List.mem_of_getElem? hx.out)
   clear hp
   cases hq:p (x1) with
   |true=>
    rw [hq] at hcall
    have hi:Hid (idx p l=k):=idx_at hx.out hno.out hq
    clear hq
    go_wp2_with fail
    refine hcall.mono ?_;rintro e w2 ⟨rfl,hb2⟩
    go_wp2_with fail
    go_returns
    exact⟨ret_int hi.out.symm,u_ hb hb2⟩
   |false=>
    rw [hq] at hcall
    have hno':Hid (∀ y∈l.take (k+1),p y=false):=by
     intro y hy
     rw [take_at hx.out,List.mem_append] at hy
     rcases hy with hy|hy
     ·exact hno.out y hy
     ·simp at hy;subst hy;exact hq
    clear hq
    go_wp2_with fail
    refine hcall.mono ?_;rintro e w2 ⟨rfl,hb2⟩
    go_wp2_with fail
    go_roundw
    case rel=>exact⟨k+1,by omega,by go_num,u_ hb hb2,hno'⟩
    case measure=>simp [intOf];omega
  ·go_wp2
   go_returns
   exact⟨ret_int (by rw [idx_no];intro y hy;exact hno.out y (by rwa [List.take_of_length_le (by rw [hr.len];omega)])),hb⟩
theorem ctfS_any (g:Nat) (lb:Array Value) (eg: ∀ args w,(callFunc g args).run Tryz.prog w= .ok (.enter g args) w) (p:Str→Bool) (A:Option Addr) (n c:Nat) (l:List (Str)) (w:World) (hr:Rd w 1 strE A n l) (hn:n≤1099511627776)
 (hp: ∀ (W:World) (x:Str),Below w.heap.size w W→x∈l→Calls Tryz.prog g (#[.string x]++lb) W fun e w'=>e= .returned (.bool (p x))∧Below W.heap.size W w'):
 Calls Tryz.prog 163 #[.slice A n c,.func (.func g) #[] lb] w fun e w'=>e= .returned (.bool (l.any p))∧Below w.heap.size w w':=by
 have h:=Lib.hid (ixfS_any g lb eg p A n c l w hr hn hp)
 clear hp hr
 go_enter Tryz.func163,Tryz.ntmps163
 go_wp2_with fail
 refine h.out.mono ?_;rintro e w1 ⟨rfl,hb⟩
 have hbH:=Lib.hid hb
 have hq:=Lib.hid (idx_any p l)
 obtain⟨q,hqe⟩: ∃ q,idx p l=q:=⟨_,rfl⟩
 rw [hqe] at hq ⊢
 clear hb hqe
 go_wp2_with fail
 go_returns
 exact⟨ret_bool hq.out,hbH.out⟩
theorem ixfN_any (g:Nat) (lb:Array Value) (eg: ∀ args w,(callFunc g args).run Tryz.prog w= .ok (.enter g args) w) (p:Int→Bool) (A:Option Addr) (n c:Nat) (l:List (Int)) (w:World) (hr:Rd w 1 (numE .i64) A n l) (hn:n≤1099511627776)
 (hp: ∀ (W:World) (x:Int),Below w.heap.size w W→x∈l→Calls Tryz.prog g (#[.int .i64 x]++lb) W fun e w'=>e= .returned (.bool (p x))∧Below W.heap.size W w'):
 Calls Tryz.prog 232 #[.slice A n c,.func (.func g) #[] lb] w fun e w'=>e= .returned (.int .i64 (idx p l))∧Below w.heap.size w w':=by
 go_enter Tryz.func232,Tryz.ntmps232
 go_wp2_with fail
 go_loopw [8] (fun i wr=> ∃ (k:Nat),k≤n∧i= .int .i64 k∧Below w.heap.size w wr∧Hid (∀ y∈l.take k,p y=false)) (fun i _=>n-(intOf i).toNat)
 case atStart=>exact⟨0,Nat.zero_le _,rfl,Below.refl _ _,fun y hy=>by simp at hy⟩
 case round=>
  obtain⟨k,hk,rfl,hb,hno⟩:=hrel
  by_cases hlt:k<n
  ·have hltI:(k:Int)<(n:Int):=by omega
   obtain⟨b,o,x1,rfl,hbs,hx,hc0⟩:=(hr.below hb).get hlt
   have g0:=hc0 0 _ rfl
   rw [Nat.mul_one,Nat.add_zero] at g0
   have hx:=Lib.hid hx
   rename_i hx0
   clear hx0 hc0
   have hcall:=hp wr _ hb (List.mem_of_getElem? hx.out)
   clear hp
   cases hq:p (x1) with
   |true=>
    rw [hq] at hcall
    have hi:Hid (idx p l=k):=idx_at hx.out hno.out hq
    clear hq
    go_wp2_with fail
    refine hcall.mono ?_;rintro e w2 ⟨rfl,hb2⟩
    go_wp2_with fail
    go_returns
    exact⟨ret_int hi.out.symm,u_ hb hb2⟩
   |false=>
    rw [hq] at hcall
    have hno':Hid (∀ y∈l.take (k+1),p y=false):=by
     intro y hy
     rw [take_at hx.out,List.mem_append] at hy
     rcases hy with hy|hy
     ·exact hno.out y hy
     ·simp at hy;subst hy;exact hq
    clear hq
    go_wp2_with fail
    refine hcall.mono ?_;rintro e w2 ⟨rfl,hb2⟩
    go_wp2_with fail
    go_roundw
    case rel=>exact⟨k+1,by omega,by go_num,u_ hb hb2,hno'⟩
    case measure=>simp [intOf];omega
  ·go_wp2
   go_returns
   exact⟨ret_int (by rw [idx_no];intro y hy;exact hno.out y (by rwa [List.take_of_length_le (by rw [hr.len];omega)])),hb⟩
theorem ctfN_any (g:Nat) (lb:Array Value) (eg: ∀ args w,(callFunc g args).run Tryz.prog w= .ok (.enter g args) w) (p:Int→Bool) (A:Option Addr) (n c:Nat) (l:List (Int)) (w:World) (hr:Rd w 1 (numE .i64) A n l) (hn:n≤1099511627776)
 (hp: ∀ (W:World) (x:Int),Below w.heap.size w W→x∈l→Calls Tryz.prog g (#[.int .i64 x]++lb) W fun e w'=>e= .returned (.bool (p x))∧Below W.heap.size W w'):
 Calls Tryz.prog 167 #[.slice A n c,.func (.func g) #[] lb] w fun e w'=>e= .returned (.bool (l.any p))∧Below w.heap.size w w':=by
 have h:=Lib.hid (ixfN_any g lb eg p A n c l w hr hn hp)
 clear hp hr
 go_enter Tryz.func167,Tryz.ntmps167
 go_wp2_with fail
 refine h.out.mono ?_;rintro e w1 ⟨rfl,hb⟩
 have hbH:=Lib.hid hb
 have hq:=Lib.hid (idx_any p l)
 obtain⟨q,hqe⟩: ∃ q,idx p l=q:=⟨_,rfl⟩
 rw [hqe] at hq ⊢
 clear hb hqe
 go_wp2_with fail
 go_returns
 exact⟨ret_bool hq.out,hbH.out⟩
theorem ixfSR_any (g:Nat) (lb:Array Value) (eg: ∀ args w,(callFunc g args).run Tryz.prog w= .ok (.enter g args) w) (p:REl→Bool) (A:Option Addr) (n c:Nat) (l:List (REl)) (w:World) (hr:Rd w 4 relE A n l) (hn:n≤1099511627776)
 (hp: ∀ (W:World) (x:REl),Below w.heap.size w W→x∈l→Calls Tryz.prog g (#[.agg (relE x).toArray]++lb) W fun e w'=>e= .returned (.bool (p x))∧Below W.heap.size W w'):
 Calls Tryz.prog 234 #[.slice A n c,.func (.func g) #[] lb] w fun e w'=>e= .returned (.int .i64 (idx p l))∧Below w.heap.size w w':=by
 go_enter Tryz.func234,Tryz.ntmps234
 go_wp2_with fail
 go_loopw [8] (fun i wr=> ∃ (k:Nat),k≤n∧i= .int .i64 k∧Below w.heap.size w wr∧Hid (∀ y∈l.take k,p y=false)) (fun i _=>n-(intOf i).toNat)
 case atStart=>exact⟨0,Nat.zero_le _,rfl,Below.refl _ _,fun y hy=>by simp at hy⟩
 case round=>
  obtain⟨k,hk,rfl,hb,hno⟩:=hrel
  by_cases hlt:k<n
  ·have hltI:(k:Int)<(n:Int):=by omega
   obtain⟨b,o,⟨x0,⟨x1,x2,x3⟩,⟨x4,x5,x6⟩,⟨x7,x8,x9⟩⟩,rfl,hbs,hx,hc0⟩:=(hr.below hb).get hlt
   have g0:=hc0 0 _ rfl
   have g1:=hc0 1 _ rfl
   have g2:=hc0 2 _ rfl
   have g3:=hc0 3 _ rfl
   simp only [Nat.add_zero,SlV.v] at g0 g1 g2 g3
   have hx:=Lib.hid hx
   rename_i hx0
   clear hx0 hc0
   have hcall:=hp wr _ hb (List.mem_of_getElem? hx.out)
   simp only [relE,SlV.v,Array.append_eq_append,List.append_toArray,List.cons_append,List.nil_append] at hcall
   clear hp
   cases hq:p (⟨x0,⟨x1,x2,x3⟩,⟨x4,x5,x6⟩,⟨x7,x8,x9⟩⟩) with
   |true=>
    rw [hq] at hcall
    have hi:Hid (idx p l=k):=idx_at hx.out hno.out hq
    clear hq
    go_wp2_with fail
    refine hcall.mono ?_;rintro e w2 ⟨rfl,hb2⟩
    go_wp2_with fail
    go_returns
    exact⟨ret_int hi.out.symm,u_ hb hb2⟩
   |false=>
    rw [hq] at hcall
    have hno':Hid (∀ y∈l.take (k+1),p y=false):=by
     intro y hy
     rw [take_at hx.out,List.mem_append] at hy
     rcases hy with hy|hy
     ·exact hno.out y hy
     ·simp at hy;subst hy;exact hq
    clear hq
    go_wp2_with fail
    refine hcall.mono ?_;rintro e w2 ⟨rfl,hb2⟩
    go_wp2_with fail
    go_roundw
    case rel=>exact⟨k+1,by omega,by go_num,u_ hb hb2,hno'⟩
    case measure=>simp [intOf];omega
  ·go_wp2
   go_returns
   exact⟨ret_int (by rw [idx_no];intro y hy;exact hno.out y (by rwa [List.take_of_length_le (by rw [hr.len];omega)])),hb⟩
theorem ctfSR_any (g:Nat) (lb:Array Value) (eg: ∀ args w,(callFunc g args).run Tryz.prog w= .ok (.enter g args) w) (p:REl→Bool) (A:Option Addr) (n c:Nat) (l:List (REl)) (w:World) (hr:Rd w 4 relE A n l) (hn:n≤1099511627776)
 (hp: ∀ (W:World) (x:REl),Below w.heap.size w W→x∈l→Calls Tryz.prog g (#[.agg (relE x).toArray]++lb) W fun e w'=>e= .returned (.bool (p x))∧Below W.heap.size W w'):
 Calls Tryz.prog 170 #[.slice A n c,.func (.func g) #[] lb] w fun e w'=>e= .returned (.bool (l.any p))∧Below w.heap.size w w':=by
 have h:=Lib.hid (ixfSR_any g lb eg p A n c l w hr hn hp)
 clear hp hr
 go_enter Tryz.func170,Tryz.ntmps170
 go_wp2_with fail
 refine h.out.mono ?_;rintro e w1 ⟨rfl,hb⟩
 have hbH:=Lib.hid hb
 have hq:=Lib.hid (idx_any p l)
 obtain⟨q,hqe⟩: ∃ q,idx p l=q:=⟨_,rfl⟩
 rw [hqe] at hq ⊢
 clear hb hqe
 go_wp2_with fail
 go_returns
 exact⟨ret_bool hq.out,hbH.out⟩
end Go.Proofs.YtechdefolfboeaaGreatDoor
