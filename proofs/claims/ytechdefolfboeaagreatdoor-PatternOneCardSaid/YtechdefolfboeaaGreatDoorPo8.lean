/- Merged. -/
import Derived.Test.YtechdefolfboeaaGreatDoorPo6
import Derived.Test.YtechdefolfboeaaGreatDoorPo7
set_option linter.unusedVariables false
set_option linter.unusedSimpArgs false
set_option maxRecDepth 100000
set_option maxHeartbeats 2000000
namespace Go.Proofs.YtechdefolfboeaaGreatDoor
open Go.RowKit B K
theorem ixfP_any (g:Nat) (lb:Array Value) (eg: ∀ args w,(callFunc g args).run Tryz.prog w= .ok (.enter g args) w) (p:Int×Int×Int→Bool) (A:Option Addr) (n c:Nat) (l:List (Int×Int×Int)) (w:World) (hr:Rd w 3 tripE A n l) (hn:n≤1099511627776)
 (hp: ∀ (W:World) (x:Int×Int×Int),Below w.heap.size w W→x∈l→Calls Tryz.prog g (#[.agg (tripE x).toArray]++lb) W fun e w'=>e= .returned (.bool (p x))∧Below W.heap.size W w'):
 Calls Tryz.prog 157 #[.slice A n c,.func (.func g) #[] lb] w fun e w'=>e= .returned (.int .i64 (idx p l))∧Below w.heap.size w w':=by
 go_enter Tryz.func157,Tryz.ntmps157;go_wp2_with fail;go_loopw [8] (fun i wr=> ∃ (k:Nat),k≤n∧i= .int .i64 k∧Below w.heap.size w wr∧Hid (∀ y∈l.take k,p y=false)) (fun i _=>n-(intOf i).toNat)
 case atStart=>exact⟨0,Nat.zero_le _,rfl,Below.refl _ _,fun y hy=>by simp at hy⟩
 case round=>
  obtain⟨k,hk,rfl,hb,hno⟩:=hrel;by_cases hlt:k<n
  ·have hltI:(k:Int)<(n:Int):=by omega
   obtain⟨b,o,⟨x1,x2,x3⟩,rfl,hbs,hx,hc0⟩:=(hr.below hb).get hlt;have g0:=hc0 0 _ rfl;have g1:=hc0 1 _ rfl;have g2:=hc0 2 _ rfl;simp only [Nat.add_zero] at g0;have hx:=H_ hx;rename_i hx0;clear hx0 hc0;have hcall:=hp wr _ hb (List.mem_of_getElem? hx.out);simp only [tripE,Array.append_eq_append,List.append_toArray,List.cons_append,List.nil_append] at hcall;clear hp
   cases hq:p (⟨x1,x2,x3⟩) with
   |true=>
    rw [hq] at hcall;have hi:Hid (idx p l=k):=idx_at hx.out hno.out hq;clear hq;go_wp2_with fail;refine hcall.mono ?_;rintro e w2 ⟨rfl,hb2⟩;go_wp2_with fail;go_returns;exact⟨ret_int hi.out.symm,u_ hb hb2⟩
   |false=>
    rw [hq] at hcall
    have hno':Hid (∀ y∈l.take (k+1),p y=false):=by
     intro y hy;rw [take_at hx.out,List.mem_append] at hy;rcases hy with hy|hy
     ·exact hno.out y hy
     ·simp at hy;subst hy;exact hq
    clear hq;go_wp2_with fail;refine hcall.mono ?_;rintro e w2 ⟨rfl,hb2⟩;go_wp2_with fail;go_roundw
    case rel=>exact⟨k+1,by omega,by go_num,u_ hb hb2,hno'⟩
    case measure=>simp [intOf];omega
  ·go_wp2
   go_returns;exact⟨ret_int (by rw [idx_no];intro y hy;exact hno.out y (by rwa [List.take_of_length_le (by rw [hr.len];omega)])),hb⟩
theorem ctfP_any (g:Nat) (lb:Array Value) (eg: ∀ args w,(callFunc g args).run Tryz.prog w= .ok (.enter g args) w) (p:Int×Int×Int→Bool) (A:Option Addr) (n c:Nat) (l:List (Int×Int×Int)) (w:World) (hr:Rd w 3 tripE A n l) (hn:n≤1099511627776)
 (hp: ∀ (W:World) (x:Int×Int×Int),Below w.heap.size w W→x∈l→Calls Tryz.prog g (#[.agg (tripE x).toArray]++lb) W fun e w'=>e= .returned (.bool (p x))∧Below W.heap.size W w'):
 Calls Tryz.prog 119 #[.slice A n c,.func (.func g) #[] lb] w fun e w'=>e= .returned (.bool (l.any p))∧Below w.heap.size w w':=by
 have h:=H_ (ixfP_any g lb eg p A n c l w hr hn hp);clear hp hr;go_enter Tryz.func119,Tryz.ntmps119;go_wp2_with fail;refine h.out.mono ?_;rintro e w1 ⟨rfl,hb⟩;have hbH:=H_ hb;have hq:=H_ (idx_any p l);obtain⟨q,hqe⟩: ∃ q,idx p l=q:=⟨_,rfl⟩
 rw [hqe] at hq ⊢;clear hb hqe;go_wp2_with fail;go_returns;exact⟨ret_bool hq.out,hbH.out⟩
theorem ixfD_any (g:Nat) (lb:Array Value) (eg: ∀ args w,(callFunc g args).run Tryz.prog w= .ok (.enter g args) w) (p:DoorP→Bool) (A:Option Addr) (n c:Nat) (l:List (DoorP)) (w:World) (hr:Rd w 6 doorE A n l) (hn:n≤1099511627776)
 (hp: ∀ (W:World) (x:DoorP),Below w.heap.size w W→x∈l→Calls Tryz.prog g (#[.agg (doorE x).toArray]++lb) W fun e w'=>e= .returned (.bool (p x))∧Below W.heap.size W w'):
 Calls Tryz.prog 158 #[.slice A n c,.func (.func g) #[] lb] w fun e w'=>e= .returned (.int .i64 (idx p l))∧Below w.heap.size w w':=by
 go_enter Tryz.func158,Tryz.ntmps158;go_wp2_with fail;go_loopw [8] (fun i wr=> ∃ (k:Nat),k≤n∧i= .int .i64 k∧Below w.heap.size w wr∧Hid (∀ y∈l.take k,p y=false)) (fun i _=>n-(intOf i).toNat)
 case atStart=>exact⟨0,Nat.zero_le _,rfl,Below.refl _ _,fun y hy=>by simp at hy⟩
 case round=>
  obtain⟨k,hk,rfl,hb,hno⟩:=hrel;by_cases hlt:k<n
  ·have hltI:(k:Int)<(n:Int):=by omega
   obtain⟨b,o,⟨x1,x2,x3,x4,x5,x6⟩,rfl,hbs,hx,hc0⟩:=(hr.below hb).get hlt;have g0:=hc0 0 _ rfl;have g1:=hc0 1 _ rfl;have g2:=hc0 2 _ rfl;have g3:=hc0 3 _ rfl;have g4:=hc0 4 _ rfl;have g5:=hc0 5 _ rfl;simp only [Nat.add_zero] at g0;have hx:=H_ hx;rename_i hx0;clear hx0 hc0;have hcall:=hp wr _ hb (List.mem_of_getElem? hx.out);simp only [doorE,Array.append_eq_append,List.append_toArray,List.cons_append,List.nil_append] at hcall;clear hp
   cases hq:p (⟨x1,x2,x3,x4,x5,x6⟩) with
   |true=>
    rw [hq] at hcall;have hi:Hid (idx p l=k):=idx_at hx.out hno.out hq;clear hq;go_wp2_with fail;refine hcall.mono ?_;rintro e w2 ⟨rfl,hb2⟩;go_wp2_with fail;go_returns;exact⟨ret_int hi.out.symm,u_ hb hb2⟩
   |false=>
    rw [hq] at hcall
    have hno':Hid (∀ y∈l.take (k+1),p y=false):=by
     intro y hy;rw [take_at hx.out,List.mem_append] at hy;rcases hy with hy|hy
     ·exact hno.out y hy
     ·simp at hy;subst hy;exact hq
    clear hq;go_wp2_with fail;refine hcall.mono ?_;rintro e w2 ⟨rfl,hb2⟩;go_wp2_with fail;go_roundw
    case rel=>exact⟨k+1,by omega,by go_num,u_ hb hb2,hno'⟩
    case measure=>simp [intOf];omega
  ·go_wp2
   go_returns;exact⟨ret_int (by rw [idx_no];intro y hy;exact hno.out y (by rwa [List.take_of_length_le (by rw [hr.len];omega)])),hb⟩
theorem ctfD_any (g:Nat) (lb:Array Value) (eg: ∀ args w,(callFunc g args).run Tryz.prog w= .ok (.enter g args) w) (p:DoorP→Bool) (A:Option Addr) (n c:Nat) (l:List (DoorP)) (w:World) (hr:Rd w 6 doorE A n l) (hn:n≤1099511627776)
 (hp: ∀ (W:World) (x:DoorP),Below w.heap.size w W→x∈l→Calls Tryz.prog g (#[.agg (doorE x).toArray]++lb) W fun e w'=>e= .returned (.bool (p x))∧Below W.heap.size W w'):
 Calls Tryz.prog 121 #[.slice A n c,.func (.func g) #[] lb] w fun e w'=>e= .returned (.bool (l.any p))∧Below w.heap.size w w':=by
 have h:=H_ (ixfD_any g lb eg p A n c l w hr hn hp);clear hp hr;go_enter Tryz.func121,Tryz.ntmps121;go_wp2_with fail;refine h.out.mono ?_;rintro e w1 ⟨rfl,hb⟩;have hbH:=H_ hb;have hq:=H_ (idx_any p l);obtain⟨q,hqe⟩: ∃ q,idx p l=q:=⟨_,rfl⟩
 rw [hqe] at hq ⊢;clear hb hqe;go_wp2_with fail;go_returns;exact⟨ret_bool hq.out,hbH.out⟩
theorem ixfR_any (g:Nat) (lb:Array Value) (eg: ∀ args w,(callFunc g args).run Tryz.prog w= .ok (.enter g args) w) (p:Nat→Bool) (A:Option Addr) (n c:Nat) (l:List (RE3)) (w:World) (hr:Rd w 3 re3E A n l) (hn:n≤1099511627776)
 (hp: ∀ (W:World) (i:Nat) (x:RE3),Below w.heap.size w W→l[i]?=some x→Calls Tryz.prog g (#[.agg (re3E x).toArray]++lb) W fun e w'=>e= .returned (.bool (p i))∧Below W.heap.size W w'):
 Calls Tryz.prog 159 #[.slice A n c,.func (.func g) #[] lb] w fun e w'=>e= .returned (.int .i64 (idx p (List.range n)))∧Below w.heap.size w w':=by
 go_enter Tryz.func159,Tryz.ntmps159;go_wp2_with fail;go_loopw [8] (fun i wr=> ∃ (k:Nat),k≤n∧i= .int .i64 k∧Below w.heap.size w wr∧Hid (∀ y∈(List.range n).take k,p y=false)) (fun i _=>n-(intOf i).toNat)
 case atStart=>exact⟨0,Nat.zero_le _,rfl,Below.refl _ _,fun y hy=>by simp at hy⟩
 case round=>
  obtain⟨k,hk,rfl,hb,hno⟩:=hrel;by_cases hlt:k<n
  ·have hltI:(k:Int)<(n:Int):=by omega
   obtain⟨b,o,⟨⟨x1,x2,x3⟩,⟨x4,x5,x6⟩,⟨x7,x8,x9⟩⟩,rfl,hbs,hx,hc0⟩:=(hr.below hb).get hlt;have g0:=hc0 0 _ rfl;have g1:=hc0 1 _ rfl;have g2:=hc0 2 _ rfl;simp only [Nat.add_zero,SlV.v] at g0 g1 g2;have hx:=H_ hx;rename_i hx0;clear hx0 hc0;have hrk:(List.range n)[k]?=some k:=List.getElem?_range hlt;have hcall:=hp wr k _ hb hx.out;simp only [re3E,SlV.v,Array.append_eq_append,List.append_toArray,List.cons_append,List.nil_append] at hcall;clear hp
   cases hq:p k with
   |true=>
    rw [hq] at hcall;have hi:Hid (idx p (List.range n)=k):=idx_at hrk hno.out hq;clear hrk;clear hq;go_wp2_with fail;refine hcall.mono ?_;rintro e w2 ⟨rfl,hb2⟩;go_wp2_with fail;go_returns;exact⟨ret_int hi.out.symm,u_ hb hb2⟩
   |false=>
    rw [hq] at hcall
    have hno':Hid (∀ y∈(List.range n).take (k+1),p y=false):=by
     intro y hy;rw [take_at hrk,List.mem_append] at hy;rcases hy with hy|hy
     ·exact hno.out y hy
     ·simp at hy;subst hy;exact hq
    clear hq hrk;go_wp2_with fail;refine hcall.mono ?_;rintro e w2 ⟨rfl,hb2⟩;go_wp2_with fail;go_roundw
    case rel=>exact⟨k+1,by omega,by go_num,u_ hb hb2,hno'⟩
    case measure=>simp [intOf];omega
  ·go_wp2
   go_returns;exact⟨ret_int (by rw [idx_no];intro y hy;exact hno.out y (by rwa [List.take_of_length_le (by rw [List.length_range];omega)])),hb⟩
theorem ctfR_any (g:Nat) (lb:Array Value) (eg: ∀ args w,(callFunc g args).run Tryz.prog w= .ok (.enter g args) w) (p:Nat→Bool) (A:Option Addr) (n c:Nat) (l:List (RE3)) (w:World) (hr:Rd w 3 re3E A n l) (hn:n≤1099511627776)
 (hp: ∀ (W:World) (i:Nat) (x:RE3),Below w.heap.size w W→l[i]?=some x→Calls Tryz.prog g (#[.agg (re3E x).toArray]++lb) W fun e w'=>e= .returned (.bool (p i))∧Below W.heap.size W w'):
 Calls Tryz.prog 123 #[.slice A n c,.func (.func g) #[] lb] w fun e w'=>e= .returned (.bool ((List.range n).any p))∧Below w.heap.size w w':=by
 have h:=H_ (ixfR_any g lb eg p A n c l w hr hn hp);clear hp hr;go_enter Tryz.func123,Tryz.ntmps123;go_wp2_with fail;refine h.out.mono ?_;rintro e w1 ⟨rfl,hb⟩;have hbH:=H_ hb;have hq:=H_ (idx_any p (List.range n));obtain⟨q,hqe⟩: ∃ q,idx p (List.range n)=q:=⟨_,rfl⟩
 rw [hqe] at hq ⊢;clear hb hqe;go_wp2_with fail;go_returns;exact⟨ret_bool hq.out,hbH.out⟩
theorem ixfI_any (g:Nat) (lb:Array Value) (eg: ∀ args w,(callFunc g args).run Tryz.prog w= .ok (.enter g args) w) (p:Int→Bool) (A:Option Addr) (n c:Nat) (l:List (Int)) (w:World) (hr:Rd w 1 (numE .i64) A n l) (hn:n≤1099511627776)
 (hp: ∀ (W:World) (x:Int),Below w.heap.size w W→x∈l→Calls Tryz.prog g (#[.int .i64 x]++lb) W fun e w'=>e= .returned (.bool (p x))∧Below W.heap.size W w'):
 Calls Tryz.prog 160 #[.slice A n c,.func (.func g) #[] lb] w fun e w'=>e= .returned (.int .i64 (idx p l))∧Below w.heap.size w w':=by
 go_enter Tryz.func160,Tryz.ntmps160;go_wp2_with fail;go_loopw [8] (fun i wr=> ∃ (k:Nat),k≤n∧i= .int .i64 k∧Below w.heap.size w wr∧Hid (∀ y∈l.take k,p y=false)) (fun i _=>n-(intOf i).toNat)
 case atStart=>exact⟨0,Nat.zero_le _,rfl,Below.refl _ _,fun y hy=>by simp at hy⟩
 case round=>
  obtain⟨k,hk,rfl,hb,hno⟩:=hrel;by_cases hlt:k<n
  ·have hltI:(k:Int)<(n:Int):=by omega
   obtain⟨b,o,x1,rfl,hbs,hx,hc0⟩:=(hr.below hb).get hlt;have g0:=hc0 0 _ rfl;rw [Nat.mul_one,Nat.add_zero] at g0;have hx:=H_ hx;rename_i hx0;clear hx0 hc0;have hcall:=hp wr _ hb (List.mem_of_getElem? hx.out);clear hp
   cases hq:p (x1) with
   |true=>
    rw [hq] at hcall;have hi:Hid (idx p l=k):=idx_at hx.out hno.out hq;clear hq;go_wp2_with fail;refine hcall.mono ?_;rintro e w2 ⟨rfl,hb2⟩;go_wp2_with fail;go_returns;exact⟨ret_int hi.out.symm,u_ hb hb2⟩
   |false=>
    rw [hq] at hcall
    have hno':Hid (∀ y∈l.take (k+1),p y=false):=by
     intro y hy;rw [take_at hx.out,List.mem_append] at hy;rcases hy with hy|hy
     ·exact hno.out y hy
     ·simp at hy;subst hy;exact hq
    clear hq;go_wp2_with fail;refine hcall.mono ?_;rintro e w2 ⟨rfl,hb2⟩;go_wp2_with fail;go_roundw
    case rel=>exact⟨k+1,by omega,by go_num,u_ hb hb2,hno'⟩
    case measure=>simp [intOf];omega
  ·go_wp2
   go_returns;exact⟨ret_int (by rw [idx_no];intro y hy;exact hno.out y (by rwa [List.take_of_length_le (by rw [hr.len];omega)])),hb⟩
theorem ctfI_any (g:Nat) (lb:Array Value) (eg: ∀ args w,(callFunc g args).run Tryz.prog w= .ok (.enter g args) w) (p:Int→Bool) (A:Option Addr) (n c:Nat) (l:List (Int)) (w:World) (hr:Rd w 1 (numE .i64) A n l) (hn:n≤1099511627776)
 (hp: ∀ (W:World) (x:Int),Below w.heap.size w W→x∈l→Calls Tryz.prog g (#[.int .i64 x]++lb) W fun e w'=>e= .returned (.bool (p x))∧Below W.heap.size W w'):
 Calls Tryz.prog 125 #[.slice A n c,.func (.func g) #[] lb] w fun e w'=>e= .returned (.bool (l.any p))∧Below w.heap.size w w':=by
 have h:=H_ (ixfI_any g lb eg p A n c l w hr hn hp);clear hp hr;go_enter Tryz.func125,Tryz.ntmps125;go_wp2_with fail;refine h.out.mono ?_;rintro e w1 ⟨rfl,hb⟩;have hbH:=H_ hb;have hq:=H_ (idx_any p l);obtain⟨q,hqe⟩: ∃ q,idx p l=q:=⟨_,rfl⟩
 rw [hqe] at hq ⊢;clear hb hqe;go_wp2_with fail;go_returns;exact⟨ret_bool hq.out,hbH.out⟩
theorem ixfT_any (g:Nat) (lb:Array Value) (eg: ∀ args w,(callFunc g args).run Tryz.prog w= .ok (.enter g args) w) (p:TripP→Bool) (A:Option Addr) (n c:Nat) (l:List (TripP)) (w:World) (hr:Rd w 4 tripP A n l) (hn:n≤1099511627776)
 (hp: ∀ (W:World) (x:TripP),Below w.heap.size w W→x∈l→Calls Tryz.prog g (#[.agg (tripP x).toArray]++lb) W fun e w'=>e= .returned (.bool (p x))∧Below W.heap.size W w'):
 Calls Tryz.prog 161 #[.slice A n c,.func (.func g) #[] lb] w fun e w'=>e= .returned (.int .i64 (idx p l))∧Below w.heap.size w w':=by
 go_enter Tryz.func161,Tryz.ntmps161;go_wp2_with fail;go_loopw [8] (fun i wr=> ∃ (k:Nat),k≤n∧i= .int .i64 k∧Below w.heap.size w wr∧Hid (∀ y∈l.take k,p y=false)) (fun i _=>n-(intOf i).toNat)
 case atStart=>exact⟨0,Nat.zero_le _,rfl,Below.refl _ _,fun y hy=>by simp at hy⟩
 case round=>
  obtain⟨k,hk,rfl,hb,hno⟩:=hrel;by_cases hlt:k<n
  ·have hltI:(k:Int)<(n:Int):=by omega
   obtain⟨b,o,⟨x1,x2,x3,x4⟩,rfl,hbs,hx,hc0⟩:=(hr.below hb).get hlt;have g0:=hc0 0 _ rfl;have g1:=hc0 1 _ rfl;have g2:=hc0 2 _ rfl;have g3:=hc0 3 _ rfl;simp only [Nat.add_zero] at g0;have hx:=H_ hx;rename_i hx0;clear hx0 hc0;have hcall:=hp wr _ hb (List.mem_of_getElem? hx.out);simp only [tripP,Array.append_eq_append,List.append_toArray,List.cons_append,List.nil_append] at hcall;clear hp
   cases hq:p (⟨x1,x2,x3,x4⟩) with
   |true=>
    rw [hq] at hcall;have hi:Hid (idx p l=k):=idx_at hx.out hno.out hq;clear hq;go_wp2_with fail;refine hcall.mono ?_;rintro e w2 ⟨rfl,hb2⟩;go_wp2_with fail;go_returns;exact⟨ret_int hi.out.symm,u_ hb hb2⟩
   |false=>
    rw [hq] at hcall
    have hno':Hid (∀ y∈l.take (k+1),p y=false):=by
     intro y hy;rw [take_at hx.out,List.mem_append] at hy;rcases hy with hy|hy
     ·exact hno.out y hy
     ·simp at hy;subst hy;exact hq
    clear hq;go_wp2_with fail;refine hcall.mono ?_;rintro e w2 ⟨rfl,hb2⟩;go_wp2_with fail;go_roundw
    case rel=>exact⟨k+1,by omega,by go_num,u_ hb hb2,hno'⟩
    case measure=>simp [intOf];omega
  ·go_wp2
   go_returns;exact⟨ret_int (by rw [idx_no];intro y hy;exact hno.out y (by rwa [List.take_of_length_le (by rw [hr.len];omega)])),hb⟩
theorem ctfT_any (g:Nat) (lb:Array Value) (eg: ∀ args w,(callFunc g args).run Tryz.prog w= .ok (.enter g args) w) (p:TripP→Bool) (A:Option Addr) (n c:Nat) (l:List (TripP)) (w:World) (hr:Rd w 4 tripP A n l) (hn:n≤1099511627776)
 (hp: ∀ (W:World) (x:TripP),Below w.heap.size w W→x∈l→Calls Tryz.prog g (#[.agg (tripP x).toArray]++lb) W fun e w'=>e= .returned (.bool (p x))∧Below W.heap.size W w'):
 Calls Tryz.prog 126 #[.slice A n c,.func (.func g) #[] lb] w fun e w'=>e= .returned (.bool (l.any p))∧Below w.heap.size w w':=by
 have h:=H_ (ixfT_any g lb eg p A n c l w hr hn hp);clear hp hr;go_enter Tryz.func126,Tryz.ntmps126;go_wp2_with fail;refine h.out.mono ?_;rintro e w1 ⟨rfl,hb⟩;have hbH:=H_ hb;have hq:=H_ (idx_any p l);obtain⟨q,hqe⟩: ∃ q,idx p l=q:=⟨_,rfl⟩
 rw [hqe] at hq ⊢;clear hb hqe;go_wp2_with fail;go_returns;exact⟨ret_bool hq.out,hbH.out⟩
theorem ixfH_any (g:Nat) (lb:Array Value) (eg: ∀ args w,(callFunc g args).run Tryz.prog w= .ok (.enter g args) w) (p:HazP→Bool) (A:Option Addr) (n c:Nat) (l:List (HazP)) (w:World) (hr:Rd w 5 hazE A n l) (hn:n≤1099511627776)
 (hp: ∀ (W:World) (x:HazP),Below w.heap.size w W→x∈l→Calls Tryz.prog g (#[.agg (hazE x).toArray]++lb) W fun e w'=>e= .returned (.bool (p x))∧Below W.heap.size W w'):
 Calls Tryz.prog 162 #[.slice A n c,.func (.func g) #[] lb] w fun e w'=>e= .returned (.int .i64 (idx p l))∧Below w.heap.size w w':=by
 go_enter Tryz.func162,Tryz.ntmps162;go_wp2_with fail;go_loopw [8] (fun i wr=> ∃ (k:Nat),k≤n∧i= .int .i64 k∧Below w.heap.size w wr∧Hid (∀ y∈l.take k,p y=false)) (fun i _=>n-(intOf i).toNat)
 case atStart=>exact⟨0,Nat.zero_le _,rfl,Below.refl _ _,fun y hy=>by simp at hy⟩
 case round=>
  obtain⟨k,hk,rfl,hb,hno⟩:=hrel;by_cases hlt:k<n
  ·have hltI:(k:Int)<(n:Int):=by omega
   obtain⟨b,o,⟨x1,x2,x3,x4,x5⟩,rfl,hbs,hx,hc0⟩:=(hr.below hb).get hlt;have g0:=hc0 0 _ rfl;have g1:=hc0 1 _ rfl;have g2:=hc0 2 _ rfl;have g3:=hc0 3 _ rfl;have g4:=hc0 4 _ rfl;simp only [Nat.add_zero] at g0;have hx:=H_ hx;rename_i hx0;clear hx0 hc0;have hcall:=hp wr _ hb (List.mem_of_getElem? hx.out);simp only [hazE,Array.append_eq_append,List.append_toArray,List.cons_append,List.nil_append] at hcall;clear hp
   cases hq:p (⟨x1,x2,x3,x4,x5⟩) with
   |true=>
    rw [hq] at hcall;have hi:Hid (idx p l=k):=idx_at hx.out hno.out hq;clear hq;go_wp2_with fail;refine hcall.mono ?_;rintro e w2 ⟨rfl,hb2⟩;go_wp2_with fail;go_returns;exact⟨ret_int hi.out.symm,u_ hb hb2⟩
   |false=>
    rw [hq] at hcall
    have hno':Hid (∀ y∈l.take (k+1),p y=false):=by
     intro y hy;rw [take_at hx.out,List.mem_append] at hy;rcases hy with hy|hy
     ·exact hno.out y hy
     ·simp at hy;subst hy;exact hq
    clear hq;go_wp2_with fail;refine hcall.mono ?_;rintro e w2 ⟨rfl,hb2⟩;go_wp2_with fail;go_roundw
    case rel=>exact⟨k+1,by omega,by go_num,u_ hb hb2,hno'⟩
    case measure=>simp [intOf];omega
  ·go_wp2
   go_returns;exact⟨ret_int (by rw [idx_no];intro y hy;exact hno.out y (by rwa [List.take_of_length_le (by rw [hr.len];omega)])),hb⟩
theorem ctfH_any (g:Nat) (lb:Array Value) (eg: ∀ args w,(callFunc g args).run Tryz.prog w= .ok (.enter g args) w) (p:HazP→Bool) (A:Option Addr) (n c:Nat) (l:List (HazP)) (w:World) (hr:Rd w 5 hazE A n l) (hn:n≤1099511627776)
 (hp: ∀ (W:World) (x:HazP),Below w.heap.size w W→x∈l→Calls Tryz.prog g (#[.agg (hazE x).toArray]++lb) W fun e w'=>e= .returned (.bool (p x))∧Below W.heap.size W w'):
 Calls Tryz.prog 128 #[.slice A n c,.func (.func g) #[] lb] w fun e w'=>e= .returned (.bool (l.any p))∧Below w.heap.size w w':=by
 have h:=H_ (ixfH_any g lb eg p A n c l w hr hn hp);clear hp hr;go_enter Tryz.func128,Tryz.ntmps128;go_wp2_with fail;refine h.out.mono ?_;rintro e w1 ⟨rfl,hb⟩;have hbH:=H_ hb;have hq:=H_ (idx_any p l);obtain⟨q,hqe⟩: ∃ q,idx p l=q:=⟨_,rfl⟩
 rw [hqe] at hq ⊢;clear hb hqe;go_wp2_with fail;go_returns;exact⟨ret_bool hq.out,hbH.out⟩
theorem ixfS_any (g:Nat) (lb:Array Value) (eg: ∀ args w,(callFunc g args).run Tryz.prog w= .ok (.enter g args) w) (p:Str→Bool) (A:Option Addr) (n c:Nat) (l:List (Str)) (w:World) (hr:Rd w 1 strE A n l) (hn:n≤1099511627776)
 (hp: ∀ (W:World) (x:Str),Below w.heap.size w W→x∈l→Calls Tryz.prog g (#[.string x]++lb) W fun e w'=>e= .returned (.bool (p x))∧Below W.heap.size W w'):
 Calls Tryz.prog 227 #[.slice A n c,.func (.func g) #[] lb] w fun e w'=>e= .returned (.int .i64 (idx p l))∧Below w.heap.size w w':=by
 go_enter Tryz.func227,Tryz.ntmps227;go_wp2_with fail;go_loopw [8] (fun i wr=> ∃ (k:Nat),k≤n∧i= .int .i64 k∧Below w.heap.size w wr∧Hid (∀ y∈l.take k,p y=false)) (fun i _=>n-(intOf i).toNat)
 case atStart=>exact⟨0,Nat.zero_le _,rfl,Below.refl _ _,fun y hy=>by simp at hy⟩
 case round=>
  obtain⟨k,hk,rfl,hb,hno⟩:=hrel;by_cases hlt:k<n
  ·have hltI:(k:Int)<(n:Int):=by omega
   obtain⟨b,o,x1,rfl,hbs,hx,hc0⟩:=(hr.below hb).get hlt;have g0:=hc0 0 _ rfl;rw [Nat.mul_one,Nat.add_zero] at g0;have hx:=H_ hx;rename_i hx0;clear hx0 hc0;have hcall:=hp wr _ hb (List.mem_of_getElem? hx.out);clear hp
   cases hq:p (x1) with
   |true=>
    rw [hq] at hcall;have hi:Hid (idx p l=k):=idx_at hx.out hno.out hq;clear hq;go_wp2_with fail;refine hcall.mono ?_;rintro e w2 ⟨rfl,hb2⟩;go_wp2_with fail;go_returns;exact⟨ret_int hi.out.symm,u_ hb hb2⟩
   |false=>
    rw [hq] at hcall
    have hno':Hid (∀ y∈l.take (k+1),p y=false):=by
     intro y hy;rw [take_at hx.out,List.mem_append] at hy;rcases hy with hy|hy
     ·exact hno.out y hy
     ·simp at hy;subst hy;exact hq
    clear hq;go_wp2_with fail;refine hcall.mono ?_;rintro e w2 ⟨rfl,hb2⟩;go_wp2_with fail;go_roundw
    case rel=>exact⟨k+1,by omega,by go_num,u_ hb hb2,hno'⟩
    case measure=>simp [intOf];omega
  ·go_wp2
   go_returns;exact⟨ret_int (by rw [idx_no];intro y hy;exact hno.out y (by rwa [List.take_of_length_le (by rw [hr.len];omega)])),hb⟩
theorem ctfS_any (g:Nat) (lb:Array Value) (eg: ∀ args w,(callFunc g args).run Tryz.prog w= .ok (.enter g args) w) (p:Str→Bool) (A:Option Addr) (n c:Nat) (l:List (Str)) (w:World) (hr:Rd w 1 strE A n l) (hn:n≤1099511627776)
 (hp: ∀ (W:World) (x:Str),Below w.heap.size w W→x∈l→Calls Tryz.prog g (#[.string x]++lb) W fun e w'=>e= .returned (.bool (p x))∧Below W.heap.size W w'):
 Calls Tryz.prog 163 #[.slice A n c,.func (.func g) #[] lb] w fun e w'=>e= .returned (.bool (l.any p))∧Below w.heap.size w w':=by
 have h:=H_ (ixfS_any g lb eg p A n c l w hr hn hp);clear hp hr;go_enter Tryz.func163,Tryz.ntmps163;go_wp2_with fail;refine h.out.mono ?_;rintro e w1 ⟨rfl,hb⟩;have hbH:=H_ hb;have hq:=H_ (idx_any p l);obtain⟨q,hqe⟩: ∃ q,idx p l=q:=⟨_,rfl⟩
 rw [hqe] at hq ⊢;clear hb hqe;go_wp2_with fail;go_returns;exact⟨ret_bool hq.out,hbH.out⟩
theorem ixfN_any (g:Nat) (lb:Array Value) (eg: ∀ args w,(callFunc g args).run Tryz.prog w= .ok (.enter g args) w) (p:Int→Bool) (A:Option Addr) (n c:Nat) (l:List (Int)) (w:World) (hr:Rd w 1 (numE .i64) A n l) (hn:n≤1099511627776)
 (hp: ∀ (W:World) (x:Int),Below w.heap.size w W→x∈l→Calls Tryz.prog g (#[.int .i64 x]++lb) W fun e w'=>e= .returned (.bool (p x))∧Below W.heap.size W w'):
 Calls Tryz.prog 232 #[.slice A n c,.func (.func g) #[] lb] w fun e w'=>e= .returned (.int .i64 (idx p l))∧Below w.heap.size w w':=by
 go_enter Tryz.func232,Tryz.ntmps232;go_wp2_with fail;go_loopw [8] (fun i wr=> ∃ (k:Nat),k≤n∧i= .int .i64 k∧Below w.heap.size w wr∧Hid (∀ y∈l.take k,p y=false)) (fun i _=>n-(intOf i).toNat)
 case atStart=>exact⟨0,Nat.zero_le _,rfl,Below.refl _ _,fun y hy=>by simp at hy⟩
 case round=>
  obtain⟨k,hk,rfl,hb,hno⟩:=hrel;by_cases hlt:k<n
  ·have hltI:(k:Int)<(n:Int):=by omega
   obtain⟨b,o,x1,rfl,hbs,hx,hc0⟩:=(hr.below hb).get hlt;have g0:=hc0 0 _ rfl;rw [Nat.mul_one,Nat.add_zero] at g0;have hx:=H_ hx;rename_i hx0;clear hx0 hc0;have hcall:=hp wr _ hb (List.mem_of_getElem? hx.out);clear hp
   cases hq:p (x1) with
   |true=>
    rw [hq] at hcall;have hi:Hid (idx p l=k):=idx_at hx.out hno.out hq;clear hq;go_wp2_with fail;refine hcall.mono ?_;rintro e w2 ⟨rfl,hb2⟩;go_wp2_with fail;go_returns;exact⟨ret_int hi.out.symm,u_ hb hb2⟩
   |false=>
    rw [hq] at hcall
    have hno':Hid (∀ y∈l.take (k+1),p y=false):=by
     intro y hy;rw [take_at hx.out,List.mem_append] at hy;rcases hy with hy|hy
     ·exact hno.out y hy
     ·simp at hy;subst hy;exact hq
    clear hq;go_wp2_with fail;refine hcall.mono ?_;rintro e w2 ⟨rfl,hb2⟩;go_wp2_with fail;go_roundw
    case rel=>exact⟨k+1,by omega,by go_num,u_ hb hb2,hno'⟩
    case measure=>simp [intOf];omega
  ·go_wp2
   go_returns;exact⟨ret_int (by rw [idx_no];intro y hy;exact hno.out y (by rwa [List.take_of_length_le (by rw [hr.len];omega)])),hb⟩
theorem ctfN_any (g:Nat) (lb:Array Value) (eg: ∀ args w,(callFunc g args).run Tryz.prog w= .ok (.enter g args) w) (p:Int→Bool) (A:Option Addr) (n c:Nat) (l:List (Int)) (w:World) (hr:Rd w 1 (numE .i64) A n l) (hn:n≤1099511627776)
 (hp: ∀ (W:World) (x:Int),Below w.heap.size w W→x∈l→Calls Tryz.prog g (#[.int .i64 x]++lb) W fun e w'=>e= .returned (.bool (p x))∧Below W.heap.size W w'):
 Calls Tryz.prog 167 #[.slice A n c,.func (.func g) #[] lb] w fun e w'=>e= .returned (.bool (l.any p))∧Below w.heap.size w w':=by
 have h:=H_ (ixfN_any g lb eg p A n c l w hr hn hp);clear hp hr;go_enter Tryz.func167,Tryz.ntmps167;go_wp2_with fail;refine h.out.mono ?_;rintro e w1 ⟨rfl,hb⟩;have hbH:=H_ hb;have hq:=H_ (idx_any p l);obtain⟨q,hqe⟩: ∃ q,idx p l=q:=⟨_,rfl⟩
 rw [hqe] at hq ⊢;clear hb hqe;go_wp2_with fail;go_returns;exact⟨ret_bool hq.out,hbH.out⟩
theorem ixfSR_any (g:Nat) (lb:Array Value) (eg: ∀ args w,(callFunc g args).run Tryz.prog w= .ok (.enter g args) w) (p:REl→Bool) (A:Option Addr) (n c:Nat) (l:List (REl)) (w:World) (hr:Rd w 4 relE A n l) (hn:n≤1099511627776)
 (hp: ∀ (W:World) (x:REl),Below w.heap.size w W→x∈l→Calls Tryz.prog g (#[.agg (relE x).toArray]++lb) W fun e w'=>e= .returned (.bool (p x))∧Below W.heap.size W w'):
 Calls Tryz.prog 234 #[.slice A n c,.func (.func g) #[] lb] w fun e w'=>e= .returned (.int .i64 (idx p l))∧Below w.heap.size w w':=by
 go_enter Tryz.func234,Tryz.ntmps234;go_wp2_with fail;go_loopw [8] (fun i wr=> ∃ (k:Nat),k≤n∧i= .int .i64 k∧Below w.heap.size w wr∧Hid (∀ y∈l.take k,p y=false)) (fun i _=>n-(intOf i).toNat)
 case atStart=>exact⟨0,Nat.zero_le _,rfl,Below.refl _ _,fun y hy=>by simp at hy⟩
 case round=>
  obtain⟨k,hk,rfl,hb,hno⟩:=hrel;by_cases hlt:k<n
  ·have hltI:(k:Int)<(n:Int):=by omega
   obtain⟨b,o,⟨x0,⟨x1,x2,x3⟩,⟨x4,x5,x6⟩,⟨x7,x8,x9⟩⟩,rfl,hbs,hx,hc0⟩:=(hr.below hb).get hlt;have g0:=hc0 0 _ rfl;have g1:=hc0 1 _ rfl;have g2:=hc0 2 _ rfl;have g3:=hc0 3 _ rfl;simp only [Nat.add_zero,SlV.v] at g0 g1 g2 g3;have hx:=H_ hx;rename_i hx0;clear hx0 hc0;have hcall:=hp wr _ hb (List.mem_of_getElem? hx.out);simp only [relE,SlV.v,Array.append_eq_append,List.append_toArray,List.cons_append,List.nil_append] at hcall;clear hp
   cases hq:p (⟨x0,⟨x1,x2,x3⟩,⟨x4,x5,x6⟩,⟨x7,x8,x9⟩⟩) with
   |true=>
    rw [hq] at hcall;have hi:Hid (idx p l=k):=idx_at hx.out hno.out hq;clear hq;go_wp2_with fail;refine hcall.mono ?_;rintro e w2 ⟨rfl,hb2⟩;go_wp2_with fail;go_returns;exact⟨ret_int hi.out.symm,u_ hb hb2⟩
   |false=>
    rw [hq] at hcall
    have hno':Hid (∀ y∈l.take (k+1),p y=false):=by
     intro y hy;rw [take_at hx.out,List.mem_append] at hy;rcases hy with hy|hy
     ·exact hno.out y hy
     ·simp at hy;subst hy;exact hq
    clear hq;go_wp2_with fail;refine hcall.mono ?_;rintro e w2 ⟨rfl,hb2⟩;go_wp2_with fail;go_roundw
    case rel=>exact⟨k+1,by omega,by go_num,u_ hb hb2,hno'⟩
    case measure=>simp [intOf];omega
  ·go_wp2
   go_returns;exact⟨ret_int (by rw [idx_no];intro y hy;exact hno.out y (by rwa [List.take_of_length_le (by rw [hr.len];omega)])),hb⟩
theorem ctfSR_any (g:Nat) (lb:Array Value) (eg: ∀ args w,(callFunc g args).run Tryz.prog w= .ok (.enter g args) w) (p:REl→Bool) (A:Option Addr) (n c:Nat) (l:List (REl)) (w:World) (hr:Rd w 4 relE A n l) (hn:n≤1099511627776)
 (hp: ∀ (W:World) (x:REl),Below w.heap.size w W→x∈l→Calls Tryz.prog g (#[.agg (relE x).toArray]++lb) W fun e w'=>e= .returned (.bool (p x))∧Below W.heap.size W w'):
 Calls Tryz.prog 170 #[.slice A n c,.func (.func g) #[] lb] w fun e w'=>e= .returned (.bool (l.any p))∧Below w.heap.size w w':=by
 have h:=H_ (ixfSR_any g lb eg p A n c l w hr hn hp);clear hp hr;go_enter Tryz.func170,Tryz.ntmps170;go_wp2_with fail;refine h.out.mono ?_;rintro e w1 ⟨rfl,hb⟩;have hbH:=H_ hb;have hq:=H_ (idx_any p l);obtain⟨q,hqe⟩: ∃ q,idx p l=q:=⟨_,rfl⟩
 rw [hqe] at hq ⊢;clear hb hqe;go_wp2_with fail;go_returns;exact⟨ret_bool hq.out,hbH.out⟩
theorem RouT.base {b0 b1:Nat} {w:World} {e:RE3} {r:RouteP} (h:RouT b1 w e r) (hb:b0≤b1):RouT b0 w e r:=⟨own_base h.s0 hb,own_base h.s1 hb,own_base h.s2 hb⟩
theorem allPN_any (g:Nat) (lb:Array Value) (eg: ∀ args w,(callFunc g args).run Tryz.prog w= .ok (.enter g args) w) (f:SPathP→Str) (A:Option Addr) (n c:Nat) (l:List (SPathP)) (w:World) (hr:Rd w 4 spathE A n l) (hn:n≤1000000)
 (hp: ∀ (W:World) (x:SPathP),Below w.heap.size w W→x∈l→Calls Tryz.prog g (#[.agg (spathE x).toArray]++lb) W fun e w'=>e= .returned (.string (f x))∧Below W.heap.size W w'):
 Calls Tryz.prog 172 #[.slice A n c,.func (.func g) #[] lb] w fun e w'=> ∃ v,e= .returned v∧w'.ownsRow w.heap.size 9 1 v n ((l.map f).flatMap strE)∧Below w.heap.size w w':=by
 go_enter Tryz.func172,Tryz.ntmps172;go_wp2_with fail;go_loopw [9,4] (fun iv vv wr=> ∃ (i:Nat),i≤n∧iv= .int .i64 i∧Hid (wr.ownsRow w.heap.size 9 1 vv i (((l.take i).map f).flatMap strE))∧Hid (Below w.heap.size w wr)) (fun iv _ _=>n-(intOf iv).toNat)
 case atStart=>exact⟨0,Nat.zero_le _,rfl,World.ownsRow_nil _ _ _ _,Below.refl _ _⟩
 case round=>
  obtain⟨k,hk,rfl,own,hb⟩:=hrel;by_cases hlt:k<n
  ·have hltI:(k:Int)<(n:Int):=by omega
   obtain⟨b,o,⟨x1,x2,x3,x4⟩,rfl,hbs,hx,hc0⟩:=(hr.below hb.out).get hlt;have g0:=hc0 0 _ rfl;have g1:=hc0 1 _ rfl;have g2:=hc0 2 _ rfl;have g3:=hc0 3 _ rfl;simp only [Nat.add_zero] at g0;have hx:=H_ hx;rename_i hx0;clear hx0 hc0;have hba:=below_alloc wr (spathE (⟨x1,x2,x3,x4⟩:SPathP)).toArray 171;have Ba:=Bx.new wr 171 (spathE (⟨x1,x2,x3,x4⟩:SPathP));simp only [spathE] at hba Ba;obtain⟨wa,hwa⟩: ∃ q,wr.alloc (.cells (spathE (⟨x1,x2,x3,x4⟩:SPathP)).toArray 171)=q:=⟨_,rfl⟩
   simp only [spathE] at hwa;rw [hwa] at hba Ba;obtain⟨q0,q1,q2,q3⟩:=c_4 Ba;have hbA:=b_ hb hba;have ownA:=own_below own.out hba;clear own Ba;have hcall:=hp wa _ hbA (List.mem_of_getElem? hx.out);have htk:(l.take (k+1)).map f=(l.take k).map f++[f (⟨x1,x2,x3,x4⟩)]:=by rw [take_at hx.out,List.map_append];rfl
   have hlen:((l.take k).map f).length =k:=by rw [List.length_map,List.length_take,hr.len];omega
   obtain⟨y,hy⟩: ∃ y,f (⟨x1,x2,x3,x4⟩)=y:=⟨_,rfl⟩
   rw [hy] at hcall htk;simp only [spathE,Array.append_eq_append,List.append_toArray,List.cons_append,List.nil_append] at hcall;go_wp2_with fail;refine hcall.mono ?_;rintro e w2 ⟨rfl,hb2⟩;have hbr:=u_ hba hb2;have hbw2:=b_ hb hbr;obtain⟨W1,W2,va,vb,k1,k2,lA,_,runA,oA,gA,cA,hab⟩:=stepS (enc:=strE) Tryz.underlying22 info_tStr rfl (by decide) strE_len strE_one (by decide) y (own_below ownA hb2) hlen (by omega) hbw2.size;rw [←htk] at oA;have oA:=H_ oA;have hbF:=H_ (hbw2.trans lA);subst k1 k2 hab;have runA:(Builtin.append_ #[22,22] 22 #[u4,.slice (some ⟨w2.heap.size,0,none⟩) 1 1]).run Tryz.prog (w2.alloc (.cells #[.string y] 9))= .ok (.slice (some ⟨gA,0,none⟩) (k+1) cA) W2:=runA;rename_i kX;clear kX hbw2 hbr hb2 ownA hbA htk hlen hy lA hb;go_wp2_with (at_builtin;refine wpList_append_run ?a1 (.tmp 13) (.tmp 17) 22 ?a2 ?a3 ?a4 runA ?_)
   all_goals try rfl
   go_roundw
   case rel=>exact⟨k+1,by omega,by go_num,oA,hbF⟩
   case measure=>simp [intOf];omega
  ·obtain rfl:n=k:=by omega
   have hfin:Hid (wr.ownsRow w.heap.size 9 1 u4 n ((l.map f).flatMap strE)):=by have:=own.out;rwa [List.take_of_length_le (by rw [hr.len];omega)] at this
   clear own;go_wp2_with fail;go_returns;exact⟨_,rfl,hfin.out,hb.out⟩
theorem allDN_any (g:Nat) (lb:Array Value) (eg: ∀ args w,(callFunc g args).run Tryz.prog w= .ok (.enter g args) w) (f:SDoorP→Str) (A:Option Addr) (n c:Nat) (l:List (SDoorP)) (w:World) (hr:Rd w 7 sdoorE A n l) (hn:n≤1000000)
 (hp: ∀ (W:World) (x:SDoorP),Below w.heap.size w W→x∈l→Calls Tryz.prog g (#[.agg (sdoorE x).toArray]++lb) W fun e w'=>e= .returned (.string (f x))∧Below W.heap.size W w'):
 Calls Tryz.prog 174 #[.slice A n c,.func (.func g) #[] lb] w fun e w'=> ∃ v,e= .returned v∧w'.ownsRow w.heap.size 9 1 v n ((l.map f).flatMap strE)∧Below w.heap.size w w':=by
 go_enter Tryz.func174,Tryz.ntmps174;go_wp2_with fail;go_loopw [9,4] (fun iv vv wr=> ∃ (i:Nat),i≤n∧iv= .int .i64 i∧Hid (wr.ownsRow w.heap.size 9 1 vv i (((l.take i).map f).flatMap strE))∧Hid (Below w.heap.size w wr)) (fun iv _ _=>n-(intOf iv).toNat)
 case atStart=>exact⟨0,Nat.zero_le _,rfl,World.ownsRow_nil _ _ _ _,Below.refl _ _⟩
 case round=>
  obtain⟨k,hk,rfl,own,hb⟩:=hrel;by_cases hlt:k<n
  ·have hltI:(k:Int)<(n:Int):=by omega
   obtain⟨b,o,⟨x1,x2,x3,x4,x5,x6,x7⟩,rfl,hbs,hx,hc0⟩:=(hr.below hb.out).get hlt;have g0:=hc0 0 _ rfl;have g1:=hc0 1 _ rfl;have g2:=hc0 2 _ rfl;have g3:=hc0 3 _ rfl;have g4:=hc0 4 _ rfl;have g5:=hc0 5 _ rfl;have g6:=hc0 6 _ rfl;simp only [Nat.add_zero] at g0;have hx:=H_ hx;rename_i hx0;clear hx0 hc0;have hba:=below_alloc wr (sdoorE (⟨x1,x2,x3,x4,x5,x6,x7⟩:SDoorP)).toArray 173;have Ba:=Bx.new wr 173 (sdoorE (⟨x1,x2,x3,x4,x5,x6,x7⟩:SDoorP));simp only [sdoorE] at hba Ba;obtain⟨wa,hwa⟩: ∃ q,wr.alloc (.cells (sdoorE (⟨x1,x2,x3,x4,x5,x6,x7⟩:SDoorP)).toArray 173)=q:=⟨_,rfl⟩
   simp only [sdoorE] at hwa;rw [hwa] at hba Ba;obtain⟨q0,q1,q2,q3,q4,q5,q6⟩:=c_7 Ba;have hbA:=b_ hb hba;have ownA:=own_below own.out hba;clear own Ba;have hcall:=hp wa _ hbA (List.mem_of_getElem? hx.out);have htk:(l.take (k+1)).map f=(l.take k).map f++[f (⟨x1,x2,x3,x4,x5,x6,x7⟩)]:=by rw [take_at hx.out,List.map_append];rfl
   have hlen:((l.take k).map f).length =k:=by rw [List.length_map,List.length_take,hr.len];omega
   obtain⟨y,hy⟩: ∃ y,f (⟨x1,x2,x3,x4,x5,x6,x7⟩)=y:=⟨_,rfl⟩
   rw [hy] at hcall htk;simp only [sdoorE,Array.append_eq_append,List.append_toArray,List.cons_append,List.nil_append] at hcall;go_wp2_with fail;refine hcall.mono ?_;rintro e w2 ⟨rfl,hb2⟩;have hbr:=u_ hba hb2;have hbw2:=b_ hb hbr;obtain⟨W1,W2,va,vb,k1,k2,lA,_,runA,oA,gA,cA,hab⟩:=stepS (enc:=strE) Tryz.underlying22 info_tStr rfl (by decide) strE_len strE_one (by decide) y (own_below ownA hb2) hlen (by omega) hbw2.size;rw [←htk] at oA;have oA:=H_ oA;have hbF:=H_ (hbw2.trans lA);subst k1 k2 hab;have runA:(Builtin.append_ #[22,22] 22 #[u4,.slice (some ⟨w2.heap.size,0,none⟩) 1 1]).run Tryz.prog (w2.alloc (.cells #[.string y] 9))= .ok (.slice (some ⟨gA,0,none⟩) (k+1) cA) W2:=runA;rename_i kX;clear kX hbw2 hbr hb2 ownA hbA htk hlen hy lA hb;go_wp2_with (at_builtin;refine wpList_append_run ?a1 (.tmp 13) (.tmp 17) 22 ?a2 ?a3 ?a4 runA ?_)
   all_goals try rfl
   go_roundw
   case rel=>exact⟨k+1,by omega,by go_num,oA,hbF⟩
   case measure=>simp [intOf];omega
  ·obtain rfl:n=k:=by omega
   have hfin:Hid (wr.ownsRow w.heap.size 9 1 u4 n ((l.map f).flatMap strE)):=by have:=own.out;rwa [List.take_of_length_le (by rw [hr.len];omega)] at this
   clear own;go_wp2_with fail;go_returns;exact⟨_,rfl,hfin.out,hb.out⟩
theorem allRN_any (g:Nat) (lb:Array Value) (eg: ∀ args w,(callFunc g args).run Tryz.prog w= .ok (.enter g args) w) (f:REl→Str) (A:Option Addr) (n c:Nat) (l:List (REl)) (w:World) (hr:Rd w 4 relE A n l) (hn:n≤1000000)
 (hp: ∀ (W:World) (x:REl),Below w.heap.size w W→x∈l→Calls Tryz.prog g (#[.agg (relE x).toArray]++lb) W fun e w'=>e= .returned (.string (f x))∧Below W.heap.size W w'):
 Calls Tryz.prog 176 #[.slice A n c,.func (.func g) #[] lb] w fun e w'=> ∃ v,e= .returned v∧w'.ownsRow w.heap.size 9 1 v n ((l.map f).flatMap strE)∧Below w.heap.size w w':=by
 go_enter Tryz.func176,Tryz.ntmps176;go_wp2_with fail;go_loopw [9,4] (fun iv vv wr=> ∃ (i:Nat),i≤n∧iv= .int .i64 i∧Hid (wr.ownsRow w.heap.size 9 1 vv i (((l.take i).map f).flatMap strE))∧Hid (Below w.heap.size w wr)) (fun iv _ _=>n-(intOf iv).toNat)
 case atStart=>exact⟨0,Nat.zero_le _,rfl,World.ownsRow_nil _ _ _ _,Below.refl _ _⟩
 case round=>
  obtain⟨k,hk,rfl,own,hb⟩:=hrel;by_cases hlt:k<n
  ·have hltI:(k:Int)<(n:Int):=by omega
   obtain⟨b,o,⟨x0,⟨x1,x2,x3⟩,⟨x4,x5,x6⟩,⟨x7,x8,x9⟩⟩,rfl,hbs,hx,hc0⟩:=(hr.below hb.out).get hlt;have g0:=hc0 0 _ rfl;have g1:=hc0 1 _ rfl;have g2:=hc0 2 _ rfl;have g3:=hc0 3 _ rfl;simp only [Nat.add_zero,SlV.v] at g0 g1 g2 g3;have hx:=H_ hx;rename_i hx0;clear hx0 hc0;have hba:=below_alloc wr (relE (⟨x0,⟨x1,x2,x3⟩,⟨x4,x5,x6⟩,⟨x7,x8,x9⟩⟩:REl)).toArray 177;have Ba:=Bx.new wr 177 (relE (⟨x0,⟨x1,x2,x3⟩,⟨x4,x5,x6⟩,⟨x7,x8,x9⟩⟩:REl));simp only [relE,SlV.v] at hba Ba;obtain⟨wa,hwa⟩: ∃ q,wr.alloc (.cells (relE (⟨x0,⟨x1,x2,x3⟩,⟨x4,x5,x6⟩,⟨x7,x8,x9⟩⟩:REl)).toArray 177)=q:=⟨_,rfl⟩
   simp only [relE,SlV.v] at hwa;rw [hwa] at hba Ba;obtain⟨q0,q1,q2,q3⟩:=c_4 Ba;have hbA:=b_ hb hba;have ownA:=own_below own.out hba;clear own Ba;have hcall:=hp wa _ hbA (List.mem_of_getElem? hx.out);have htk:(l.take (k+1)).map f=(l.take k).map f++[f (⟨x0,⟨x1,x2,x3⟩,⟨x4,x5,x6⟩,⟨x7,x8,x9⟩⟩)]:=by rw [take_at hx.out,List.map_append];rfl
   have hlen:((l.take k).map f).length =k:=by rw [List.length_map,List.length_take,hr.len];omega
   obtain⟨y,hy⟩: ∃ y,f (⟨x0,⟨x1,x2,x3⟩,⟨x4,x5,x6⟩,⟨x7,x8,x9⟩⟩)=y:=⟨_,rfl⟩
   rw [hy] at hcall htk;simp only [relE,SlV.v,Array.append_eq_append,List.append_toArray,List.cons_append,List.nil_append] at hcall;go_wp2_with fail;refine hcall.mono ?_;rintro e w2 ⟨rfl,hb2⟩;have hbr:=u_ hba hb2;have hbw2:=b_ hb hbr;obtain⟨W1,W2,va,vb,k1,k2,lA,_,runA,oA,gA,cA,hab⟩:=stepS (enc:=strE) Tryz.underlying22 info_tStr rfl (by decide) strE_len strE_one (by decide) y (own_below ownA hb2) hlen (by omega) hbw2.size;rw [←htk] at oA;have oA:=H_ oA;have hbF:=H_ (hbw2.trans lA);subst k1 k2 hab;have runA:(Builtin.append_ #[22,22] 22 #[u4,.slice (some ⟨w2.heap.size,0,none⟩) 1 1]).run Tryz.prog (w2.alloc (.cells #[.string y] 9))= .ok (.slice (some ⟨gA,0,none⟩) (k+1) cA) W2:=runA;rename_i kX;clear kX hbw2 hbr hb2 ownA hbA htk hlen hy lA hb;go_wp2_with (at_builtin;refine wpList_append_run ?a1 (.tmp 13) (.tmp 17) 22 ?a2 ?a3 ?a4 runA ?_)
   all_goals try rfl
   go_roundw
   case rel=>exact⟨k+1,by omega,by go_num,oA,hbF⟩
   case measure=>simp [intOf];omega
  ·obtain rfl:n=k:=by omega
   have hfin:Hid (wr.ownsRow w.heap.size 9 1 u4 n ((l.map f).flatMap strE)):=by have:=own.out;rwa [List.take_of_length_le (by rw [hr.len];omega)] at this
   clear own;go_wp2_with fail;go_returns;exact⟨_,rfl,hfin.out,hb.out⟩
theorem allTN_any (g:Nat) (lb:Array Value) (eg: ∀ args w,(callFunc g args).run Tryz.prog w= .ok (.enter g args) w) (f:STripP→Str) (A:Option Addr) (n c:Nat) (l:List (STripP)) (w:World) (hr:Rd w 5 stripE A n l) (hn:n≤1000000)
 (hp: ∀ (W:World) (x:STripP),Below w.heap.size w W→x∈l→Calls Tryz.prog g (#[.agg (stripE x).toArray]++lb) W fun e w'=>e= .returned (.string (f x))∧Below W.heap.size W w'):
 Calls Tryz.prog 178 #[.slice A n c,.func (.func g) #[] lb] w fun e w'=> ∃ v,e= .returned v∧w'.ownsRow w.heap.size 9 1 v n ((l.map f).flatMap strE)∧Below w.heap.size w w':=by
 go_enter Tryz.func178,Tryz.ntmps178;go_wp2_with fail;go_loopw [9,4] (fun iv vv wr=> ∃ (i:Nat),i≤n∧iv= .int .i64 i∧Hid (wr.ownsRow w.heap.size 9 1 vv i (((l.take i).map f).flatMap strE))∧Hid (Below w.heap.size w wr)) (fun iv _ _=>n-(intOf iv).toNat)
 case atStart=>exact⟨0,Nat.zero_le _,rfl,World.ownsRow_nil _ _ _ _,Below.refl _ _⟩
 case round=>
  obtain⟨k,hk,rfl,own,hb⟩:=hrel;by_cases hlt:k<n
  ·have hltI:(k:Int)<(n:Int):=by omega
   obtain⟨b,o,⟨x1,x2,x3,x4,x5⟩,rfl,hbs,hx,hc0⟩:=(hr.below hb.out).get hlt;have g0:=hc0 0 _ rfl;have g1:=hc0 1 _ rfl;have g2:=hc0 2 _ rfl;have g3:=hc0 3 _ rfl;have g4:=hc0 4 _ rfl;simp only [Nat.add_zero] at g0;have hx:=H_ hx;rename_i hx0;clear hx0 hc0;have hba:=below_alloc wr (stripE (⟨x1,x2,x3,x4,x5⟩:STripP)).toArray 179;have Ba:=Bx.new wr 179 (stripE (⟨x1,x2,x3,x4,x5⟩:STripP));simp only [stripE] at hba Ba;obtain⟨wa,hwa⟩: ∃ q,wr.alloc (.cells (stripE (⟨x1,x2,x3,x4,x5⟩:STripP)).toArray 179)=q:=⟨_,rfl⟩
   simp only [stripE] at hwa;rw [hwa] at hba Ba;obtain⟨q0,q1,q2,q3,q4⟩:=c_5 Ba;have hbA:=b_ hb hba;have ownA:=own_below own.out hba;clear own Ba;have hcall:=hp wa _ hbA (List.mem_of_getElem? hx.out);have htk:(l.take (k+1)).map f=(l.take k).map f++[f (⟨x1,x2,x3,x4,x5⟩)]:=by rw [take_at hx.out,List.map_append];rfl
   have hlen:((l.take k).map f).length =k:=by rw [List.length_map,List.length_take,hr.len];omega
   obtain⟨y,hy⟩: ∃ y,f (⟨x1,x2,x3,x4,x5⟩)=y:=⟨_,rfl⟩
   rw [hy] at hcall htk;simp only [stripE,Array.append_eq_append,List.append_toArray,List.cons_append,List.nil_append] at hcall;go_wp2_with fail;refine hcall.mono ?_;rintro e w2 ⟨rfl,hb2⟩;have hbr:=u_ hba hb2;have hbw2:=b_ hb hbr;obtain⟨W1,W2,va,vb,k1,k2,lA,_,runA,oA,gA,cA,hab⟩:=stepS (enc:=strE) Tryz.underlying22 info_tStr rfl (by decide) strE_len strE_one (by decide) y (own_below ownA hb2) hlen (by omega) hbw2.size;rw [←htk] at oA;have oA:=H_ oA;have hbF:=H_ (hbw2.trans lA);subst k1 k2 hab;have runA:(Builtin.append_ #[22,22] 22 #[u4,.slice (some ⟨w2.heap.size,0,none⟩) 1 1]).run Tryz.prog (w2.alloc (.cells #[.string y] 9))= .ok (.slice (some ⟨gA,0,none⟩) (k+1) cA) W2:=runA;rename_i kX;clear kX hbw2 hbr hb2 ownA hbA htk hlen hy lA hb;go_wp2_with (at_builtin;refine wpList_append_run ?a1 (.tmp 13) (.tmp 17) 22 ?a2 ?a3 ?a4 runA ?_)
   all_goals try rfl
   go_roundw
   case rel=>exact⟨k+1,by omega,by go_num,oA,hbF⟩
   case measure=>simp [intOf];omega
  ·obtain rfl:n=k:=by omega
   have hfin:Hid (wr.ownsRow w.heap.size 9 1 u4 n ((l.map f).flatMap strE)):=by have:=own.out;rwa [List.take_of_length_le (by rw [hr.len];omega)] at this
   clear own;go_wp2_with fail;go_returns;exact⟨_,rfl,hfin.out,hb.out⟩
theorem allHN_any (g:Nat) (lb:Array Value) (eg: ∀ args w,(callFunc g args).run Tryz.prog w= .ok (.enter g args) w) (f:SHazP→Str) (A:Option Addr) (n c:Nat) (l:List (SHazP)) (w:World) (hr:Rd w 5 shazE A n l) (hn:n≤1000000)
 (hp: ∀ (W:World) (x:SHazP),Below w.heap.size w W→x∈l→Calls Tryz.prog g (#[.agg (shazE x).toArray]++lb) W fun e w'=>e= .returned (.string (f x))∧Below W.heap.size W w'):
 Calls Tryz.prog 180 #[.slice A n c,.func (.func g) #[] lb] w fun e w'=> ∃ v,e= .returned v∧w'.ownsRow w.heap.size 9 1 v n ((l.map f).flatMap strE)∧Below w.heap.size w w':=by
 go_enter Tryz.func180,Tryz.ntmps180;go_wp2_with fail;go_loopw [9,4] (fun iv vv wr=> ∃ (i:Nat),i≤n∧iv= .int .i64 i∧Hid (wr.ownsRow w.heap.size 9 1 vv i (((l.take i).map f).flatMap strE))∧Hid (Below w.heap.size w wr)) (fun iv _ _=>n-(intOf iv).toNat)
 case atStart=>exact⟨0,Nat.zero_le _,rfl,World.ownsRow_nil _ _ _ _,Below.refl _ _⟩
 case round=>
  obtain⟨k,hk,rfl,own,hb⟩:=hrel;by_cases hlt:k<n
  ·have hltI:(k:Int)<(n:Int):=by omega
   obtain⟨b,o,⟨x1,x2,x3,x4,x5⟩,rfl,hbs,hx,hc0⟩:=(hr.below hb.out).get hlt;have g0:=hc0 0 _ rfl;have g1:=hc0 1 _ rfl;have g2:=hc0 2 _ rfl;have g3:=hc0 3 _ rfl;have g4:=hc0 4 _ rfl;simp only [Nat.add_zero] at g0;have hx:=H_ hx;rename_i hx0;clear hx0 hc0;have hba:=below_alloc wr (shazE (⟨x1,x2,x3,x4,x5⟩:SHazP)).toArray 181;have Ba:=Bx.new wr 181 (shazE (⟨x1,x2,x3,x4,x5⟩:SHazP));simp only [shazE] at hba Ba;obtain⟨wa,hwa⟩: ∃ q,wr.alloc (.cells (shazE (⟨x1,x2,x3,x4,x5⟩:SHazP)).toArray 181)=q:=⟨_,rfl⟩
   simp only [shazE] at hwa;rw [hwa] at hba Ba;obtain⟨q0,q1,q2,q3,q4⟩:=c_5 Ba;have hbA:=b_ hb hba;have ownA:=own_below own.out hba;clear own Ba;have hcall:=hp wa _ hbA (List.mem_of_getElem? hx.out);have htk:(l.take (k+1)).map f=(l.take k).map f++[f (⟨x1,x2,x3,x4,x5⟩)]:=by rw [take_at hx.out,List.map_append];rfl
   have hlen:((l.take k).map f).length =k:=by rw [List.length_map,List.length_take,hr.len];omega
   obtain⟨y,hy⟩: ∃ y,f (⟨x1,x2,x3,x4,x5⟩)=y:=⟨_,rfl⟩
   rw [hy] at hcall htk;simp only [shazE,Array.append_eq_append,List.append_toArray,List.cons_append,List.nil_append] at hcall;go_wp2_with fail;refine hcall.mono ?_;rintro e w2 ⟨rfl,hb2⟩;have hbr:=u_ hba hb2;have hbw2:=b_ hb hbr;obtain⟨W1,W2,va,vb,k1,k2,lA,_,runA,oA,gA,cA,hab⟩:=stepS (enc:=strE) Tryz.underlying22 info_tStr rfl (by decide) strE_len strE_one (by decide) y (own_below ownA hb2) hlen (by omega) hbw2.size;rw [←htk] at oA;have oA:=H_ oA;have hbF:=H_ (hbw2.trans lA);subst k1 k2 hab;have runA:(Builtin.append_ #[22,22] 22 #[u4,.slice (some ⟨w2.heap.size,0,none⟩) 1 1]).run Tryz.prog (w2.alloc (.cells #[.string y] 9))= .ok (.slice (some ⟨gA,0,none⟩) (k+1) cA) W2:=runA;rename_i kX;clear kX hbw2 hbr hb2 ownA hbA htk hlen hy lA hb;go_wp2_with (at_builtin;refine wpList_append_run ?a1 (.tmp 13) (.tmp 17) 22 ?a2 ?a3 ?a4 runA ?_)
   all_goals try rfl
   go_roundw
   case rel=>exact⟨k+1,by omega,by go_num,oA,hbF⟩
   case measure=>simp [intOf];omega
  ·obtain rfl:n=k:=by omega
   have hfin:Hid (wr.ownsRow w.heap.size 9 1 u4 n ((l.map f).flatMap strE)):=by have:=own.out;rwa [List.take_of_length_le (by rw [hr.len];omega)] at this
   clear own;go_wp2_with fail;go_returns;exact⟨_,rfl,hfin.out,hb.out⟩
theorem allP_any (g:Nat) (lb:Array Value) (eg: ∀ args w,(callFunc g args).run Tryz.prog w= .ok (.enter g args) w) (f:SPathP→Int×Int×Int) (A:Option Addr) (n c:Nat) (l:List (SPathP)) (w:World) (hr:Rd w 4 spathE A n l) (hn:n≤1000000)
 (hp: ∀ (W:World) (x:SPathP),Below w.heap.size w W→x∈l→Calls Tryz.prog g (#[.agg (spathE x).toArray]++lb) W fun e w'=>e= .returned (.agg (tripE (f x)).toArray)∧Below W.heap.size W w'):
 Calls Tryz.prog 184 #[.slice A n c,.func (.func g) #[] lb] w fun e w'=> ∃ v,e= .returned v∧w'.ownsRow w.heap.size 99 3 v n ((l.map f).flatMap tripE)∧Below w.heap.size w w':=by
 go_enter Tryz.func184,Tryz.ntmps184;go_wp2_with fail;go_loopw [9,4] (fun iv vv wr=> ∃ (i:Nat),i≤n∧iv= .int .i64 i∧Hid (wr.ownsRow w.heap.size 99 3 vv i (((l.take i).map f).flatMap tripE))∧Hid (Below w.heap.size w wr)) (fun iv _ _=>n-(intOf iv).toNat)
 case atStart=>exact⟨0,Nat.zero_le _,rfl,World.ownsRow_nil _ _ _ _,Below.refl _ _⟩
 case round=>
  obtain⟨k,hk,rfl,own,hb⟩:=hrel;by_cases hlt:k<n
  ·have hltI:(k:Int)<(n:Int):=by omega
   obtain⟨b,o,⟨x1,x2,x3,x4⟩,rfl,hbs,hx,hc0⟩:=(hr.below hb.out).get hlt;have g0:=hc0 0 _ rfl;have g1:=hc0 1 _ rfl;have g2:=hc0 2 _ rfl;have g3:=hc0 3 _ rfl;simp only [Nat.add_zero] at g0;have hx:=H_ hx;rename_i hx0;clear hx0 hc0;have hba:=below_alloc wr (spathE (⟨x1,x2,x3,x4⟩:SPathP)).toArray 171;have Ba:=Bx.new wr 171 (spathE (⟨x1,x2,x3,x4⟩:SPathP));simp only [spathE] at hba Ba;obtain⟨wa,hwa⟩: ∃ q,wr.alloc (.cells (spathE (⟨x1,x2,x3,x4⟩:SPathP)).toArray 171)=q:=⟨_,rfl⟩
   simp only [spathE] at hwa;rw [hwa] at hba Ba;obtain⟨q0,q1,q2,q3⟩:=c_4 Ba;have hbA:=b_ hb hba;have ownA:=own_below own.out hba;clear own Ba;have hcall:=hp wa _ hbA (List.mem_of_getElem? hx.out);have htk:(l.take (k+1)).map f=(l.take k).map f++[f (⟨x1,x2,x3,x4⟩)]:=by rw [take_at hx.out,List.map_append];rfl
   have hlen:((l.take k).map f).length =k:=by rw [List.length_map,List.length_take,hr.len];omega
   obtain⟨y,hy⟩: ∃ y,f (⟨x1,x2,x3,x4⟩)=y:=⟨_,rfl⟩
   rw [hy] at hcall htk;obtain⟨y1,y2,y3⟩:=y;simp only [spathE,tripE,Array.append_eq_append,List.append_toArray,List.cons_append,List.nil_append] at hcall;go_wp2_with fail;refine hcall.mono ?_;rintro e w2 ⟨rfl,hb2⟩;have hbr:=u_ hba hb2;have hbw2:=b_ hb hbr;obtain⟨W1,W2,va,vb,k1,k2,lA,_,runA,oA,gA,cA,hab⟩:=stepS (enc:=tripE) Tryz.underlying25 info_tPath rfl (by decide) tripE_len tripE_one (by decide) (⟨y1,y2,y3⟩:Int×Int×Int) (own_below ownA hb2) hlen (by omega) hbw2.size;rw [←htk] at oA;have oA:=H_ oA;have hbF:=H_ (hbw2.trans lA);subst k1 k2 hab;have runA:(Builtin.append_ #[25,25] 25 #[u4,.slice (some ⟨w2.heap.size,0,none⟩) 1 1]).run Tryz.prog (w2.alloc (.cells #[.int .i64 y1,.int .i64 y2,.int .i64 y3] 99))= .ok (.slice (some ⟨gA,0,none⟩) (k+1) cA) W2:=runA;rename_i kX;clear kX hbw2 hbr hb2 ownA hbA htk hlen hy lA hb
   go_wp2_with (at_builtin;refine wpList_append_run ?a1 (.tmp 13) (.tmp 17) 25 ?a2 ?a3 ?a4 runA ?_)
   all_goals try rfl
   go_roundw
   case rel=>exact⟨k+1,by omega,by go_num,oA,hbF⟩
   case measure=>simp [intOf];omega
  ·obtain rfl:n=k:=by omega
   have hfin:Hid (wr.ownsRow w.heap.size 99 3 u4 n ((l.map f).flatMap tripE)):=by have:=own.out;rwa [List.take_of_length_le (by rw [hr.len];omega)] at this
   clear own;go_wp2_with fail;go_returns;exact⟨_,rfl,hfin.out,hb.out⟩
theorem allD_any (g:Nat) (lb:Array Value) (eg: ∀ args w,(callFunc g args).run Tryz.prog w= .ok (.enter g args) w) (f:SDoorP→DoorP) (A:Option Addr) (n c:Nat) (l:List (SDoorP)) (w:World) (hr:Rd w 7 sdoorE A n l) (hn:n≤1000000)
 (hp: ∀ (W:World) (x:SDoorP),Below w.heap.size w W→x∈l→Calls Tryz.prog g (#[.agg (sdoorE x).toArray]++lb) W fun e w'=>e= .returned (.agg (doorE (f x)).toArray)∧Below W.heap.size W w'):
 Calls Tryz.prog 186 #[.slice A n c,.func (.func g) #[] lb] w fun e w'=> ∃ v,e= .returned v∧w'.ownsRow w.heap.size 104 6 v n ((l.map f).flatMap doorE)∧Below w.heap.size w w':=by
 go_enter Tryz.func186,Tryz.ntmps186;go_wp2_with fail;go_loopw [9,4] (fun iv vv wr=> ∃ (i:Nat),i≤n∧iv= .int .i64 i∧Hid (wr.ownsRow w.heap.size 104 6 vv i (((l.take i).map f).flatMap doorE))∧Hid (Below w.heap.size w wr)) (fun iv _ _=>n-(intOf iv).toNat)
 case atStart=>exact⟨0,Nat.zero_le _,rfl,World.ownsRow_nil _ _ _ _,Below.refl _ _⟩
 case round=>
  obtain⟨k,hk,rfl,own,hb⟩:=hrel;by_cases hlt:k<n
  ·have hltI:(k:Int)<(n:Int):=by omega
   obtain⟨b,o,⟨x1,x2,x3,x4,x5,x6,x7⟩,rfl,hbs,hx,hc0⟩:=(hr.below hb.out).get hlt;have g0:=hc0 0 _ rfl;have g1:=hc0 1 _ rfl;have g2:=hc0 2 _ rfl;have g3:=hc0 3 _ rfl;have g4:=hc0 4 _ rfl;have g5:=hc0 5 _ rfl;have g6:=hc0 6 _ rfl;simp only [Nat.add_zero] at g0;have hx:=H_ hx;rename_i hx0;clear hx0 hc0;have hba:=below_alloc wr (sdoorE (⟨x1,x2,x3,x4,x5,x6,x7⟩:SDoorP)).toArray 173;have Ba:=Bx.new wr 173 (sdoorE (⟨x1,x2,x3,x4,x5,x6,x7⟩:SDoorP));simp only [sdoorE] at hba Ba;obtain⟨wa,hwa⟩: ∃ q,wr.alloc (.cells (sdoorE (⟨x1,x2,x3,x4,x5,x6,x7⟩:SDoorP)).toArray 173)=q:=⟨_,rfl⟩
   simp only [sdoorE] at hwa;rw [hwa] at hba Ba;obtain⟨q0,q1,q2,q3,q4,q5,q6⟩:=c_7 Ba;have hbA:=b_ hb hba;have ownA:=own_below own.out hba;clear own Ba;have hcall:=hp wa _ hbA (List.mem_of_getElem? hx.out);have htk:(l.take (k+1)).map f=(l.take k).map f++[f (⟨x1,x2,x3,x4,x5,x6,x7⟩)]:=by rw [take_at hx.out,List.map_append];rfl
   have hlen:((l.take k).map f).length =k:=by rw [List.length_map,List.length_take,hr.len];omega
   obtain⟨y,hy⟩: ∃ y,f (⟨x1,x2,x3,x4,x5,x6,x7⟩)=y:=⟨_,rfl⟩
   rw [hy] at hcall htk;obtain⟨y1,y2,y3,y4,y5,y6⟩:=y;simp only [sdoorE,doorE,Array.append_eq_append,List.append_toArray,List.cons_append,List.nil_append] at hcall;go_wp2_with fail;refine hcall.mono ?_;rintro e w2 ⟨rfl,hb2⟩;have hbr:=u_ hba hb2;have hbw2:=b_ hb hbr;obtain⟨W1,W2,va,vb,k1,k2,lA,_,runA,oA,gA,cA,hab⟩:=stepS (enc:=doorE) Tryz.underlying26 info_tDoor rfl (by decide) doorE_len doorE_one (by decide) (⟨y1,y2,y3,y4,y5,y6⟩:DoorP) (own_below ownA hb2) hlen (by omega) hbw2.size;rw [←htk] at oA;have oA:=H_ oA;have hbF:=H_ (hbw2.trans lA);subst k1 k2 hab;have runA:(Builtin.append_ #[26,26] 26 #[u4,.slice (some ⟨w2.heap.size,0,none⟩) 1 1]).run Tryz.prog (w2.alloc (.cells #[.int .i64 y1,.int .i64 y2,.int .i64 y3,.int .i64 y4,.int .i64 y5,.int .i64 y6] 104))= .ok (.slice (some ⟨gA,0,none⟩) (k+1) cA) W2:=runA;rename_i kX;clear kX hbw2 hbr hb2 ownA hbA htk hlen hy lA hb
   go_wp2_with (at_builtin;refine wpList_append_run ?a1 (.tmp 13) (.tmp 17) 26 ?a2 ?a3 ?a4 runA ?_)
   all_goals try rfl
   go_roundw
   case rel=>exact⟨k+1,by omega,by go_num,oA,hbF⟩
   case measure=>simp [intOf];omega
  ·obtain rfl:n=k:=by omega
   have hfin:Hid (wr.ownsRow w.heap.size 104 6 u4 n ((l.map f).flatMap doorE)):=by have:=own.out;rwa [List.take_of_length_le (by rw [hr.len];omega)] at this
   clear own;go_wp2_with fail;go_returns;exact⟨_,rfl,hfin.out,hb.out⟩
theorem allSI_any (g:Nat) (lb:Array Value) (eg: ∀ args w,(callFunc g args).run Tryz.prog w= .ok (.enter g args) w) (f:Str→Int) (A:Option Addr) (n c:Nat) (l:List (Str)) (w:World) (hr:Rd w 1 strE A n l) (hn:n≤1000000)
 (hp: ∀ (W:World) (x:Str),Below w.heap.size w W→x∈l→Calls Tryz.prog g (#[.string x]++lb) W fun e w'=>e= .returned (.int .i64 (f x))∧Below W.heap.size W w'):
 Calls Tryz.prog 190 #[.slice A n c,.func (.func g) #[] lb] w fun e w'=> ∃ v,e= .returned v∧w'.ownsRow w.heap.size 3 1 v n ((l.map f).flatMap (numE .i64))∧Below w.heap.size w w':=by
 go_enter Tryz.func190,Tryz.ntmps190;go_wp2_with fail;go_loopw [9,4] (fun iv vv wr=> ∃ (i:Nat),i≤n∧iv= .int .i64 i∧Hid (wr.ownsRow w.heap.size 3 1 vv i (((l.take i).map f).flatMap (numE .i64)))∧Hid (Below w.heap.size w wr)) (fun iv _ _=>n-(intOf iv).toNat)
 case atStart=>exact⟨0,Nat.zero_le _,rfl,World.ownsRow_nil _ _ _ _,Below.refl _ _⟩
 case round=>
  obtain⟨k,hk,rfl,own,hb⟩:=hrel;by_cases hlt:k<n
  ·have hltI:(k:Int)<(n:Int):=by omega
   obtain⟨b,o,x1,rfl,hbs,hx,hc0⟩:=(hr.below hb.out).get hlt;have g0:=hc0 0 _ rfl;rw [Nat.mul_one,Nat.add_zero] at g0;have hx:=H_ hx;rename_i hx0;clear hx0 hc0;have hbA:=hb.out;have ownA:=own.out;clear own;have hcall:=hp wr _ hbA (List.mem_of_getElem? hx.out);have htk:(l.take (k+1)).map f=(l.take k).map f++[f (x1)]:=by rw [take_at hx.out,List.map_append];rfl
   have hlen:((l.take k).map f).length =k:=by rw [List.length_map,List.length_take,hr.len];omega
   obtain⟨y,hy⟩: ∃ y,f (x1)=y:=⟨_,rfl⟩
   rw [hy] at hcall htk;go_wp2_with fail;refine hcall.mono ?_;rintro e w2 ⟨rfl,hb2⟩;have hbw2:=b_ hb hb2;obtain⟨W1,W2,va,vb,k1,k2,lA,_,runA,oA,gA,cA,hab⟩:=stepS (enc:=(numE .i64)) Tryz.underlying49 info_tInt rfl (by decide) num_len num_one (by decide) y (own_below ownA hb2) hlen (by omega) hbw2.size;rw [←htk] at oA;have oA:=H_ oA;have hbF:=H_ (hbw2.trans lA);subst k1 k2 hab;have runA:(Builtin.append_ #[49,49] 49 #[u4,.slice (some ⟨w2.heap.size,0,none⟩) 1 1]).run Tryz.prog (w2.alloc (.cells #[.int .i64 y] 3))= .ok (.slice (some ⟨gA,0,none⟩) (k+1) cA) W2:=runA;rename_i kX;clear kX hbw2 hb2 ownA hbA htk hlen hy lA hb;go_wp2_with (at_builtin;refine wpList_append_run ?a1 (.tmp 13) (.tmp 17) 49 ?a2 ?a3 ?a4 runA ?_)
   all_goals try rfl
   go_roundw
   case rel=>exact⟨k+1,by omega,by go_num,oA,hbF⟩
   case measure=>simp [intOf];omega
  ·obtain rfl:n=k:=by omega
   have hfin:Hid (wr.ownsRow w.heap.size 3 1 u4 n ((l.map f).flatMap (numE .i64))):=by have:=own.out;rwa [List.take_of_length_le (by rw [hr.len];omega)] at this
   clear own;go_wp2_with fail;go_returns;exact⟨_,rfl,hfin.out,hb.out⟩
theorem allT_any (g:Nat) (lb:Array Value) (eg: ∀ args w,(callFunc g args).run Tryz.prog w= .ok (.enter g args) w) (f:STripP→TripP) (A:Option Addr) (n c:Nat) (l:List (STripP)) (w:World) (hr:Rd w 5 stripE A n l) (hn:n≤1000000)
 (hp: ∀ (W:World) (x:STripP),Below w.heap.size w W→x∈l→Calls Tryz.prog g (#[.agg (stripE x).toArray]++lb) W fun e w'=>e= .returned (.agg (tripP (f x)).toArray)∧Below W.heap.size W w'):
 Calls Tryz.prog 191 #[.slice A n c,.func (.func g) #[] lb] w fun e w'=> ∃ v,e= .returned v∧w'.ownsRow w.heap.size 53 4 v n ((l.map f).flatMap tripP)∧Below w.heap.size w w':=by
 go_enter Tryz.func191,Tryz.ntmps191;go_wp2_with fail;go_loopw [9,4] (fun iv vv wr=> ∃ (i:Nat),i≤n∧iv= .int .i64 i∧Hid (wr.ownsRow w.heap.size 53 4 vv i (((l.take i).map f).flatMap tripP))∧Hid (Below w.heap.size w wr)) (fun iv _ _=>n-(intOf iv).toNat)
 case atStart=>exact⟨0,Nat.zero_le _,rfl,World.ownsRow_nil _ _ _ _,Below.refl _ _⟩
 case round=>
  obtain⟨k,hk,rfl,own,hb⟩:=hrel;by_cases hlt:k<n
  ·have hltI:(k:Int)<(n:Int):=by omega
   obtain⟨b,o,⟨x1,x2,x3,x4,x5⟩,rfl,hbs,hx,hc0⟩:=(hr.below hb.out).get hlt;have g0:=hc0 0 _ rfl;have g1:=hc0 1 _ rfl;have g2:=hc0 2 _ rfl;have g3:=hc0 3 _ rfl;have g4:=hc0 4 _ rfl;simp only [Nat.add_zero] at g0;have hx:=H_ hx;rename_i hx0;clear hx0 hc0;have hba:=below_alloc wr (stripE (⟨x1,x2,x3,x4,x5⟩:STripP)).toArray 179;have Ba:=Bx.new wr 179 (stripE (⟨x1,x2,x3,x4,x5⟩:STripP));simp only [stripE] at hba Ba;obtain⟨wa,hwa⟩: ∃ q,wr.alloc (.cells (stripE (⟨x1,x2,x3,x4,x5⟩:STripP)).toArray 179)=q:=⟨_,rfl⟩
   simp only [stripE] at hwa;rw [hwa] at hba Ba;obtain⟨q0,q1,q2,q3,q4⟩:=c_5 Ba;have hbA:=b_ hb hba;have ownA:=own_below own.out hba;clear own Ba;have hcall:=hp wa _ hbA (List.mem_of_getElem? hx.out);have htk:(l.take (k+1)).map f=(l.take k).map f++[f (⟨x1,x2,x3,x4,x5⟩)]:=by rw [take_at hx.out,List.map_append];rfl
   have hlen:((l.take k).map f).length =k:=by rw [List.length_map,List.length_take,hr.len];omega
   obtain⟨y,hy⟩: ∃ y,f (⟨x1,x2,x3,x4,x5⟩)=y:=⟨_,rfl⟩
   rw [hy] at hcall htk;obtain⟨y1,y2,y3,y4⟩:=y;simp only [stripE,tripP,Array.append_eq_append,List.append_toArray,List.cons_append,List.nil_append] at hcall;go_wp2_with fail;refine hcall.mono ?_;rintro e w2 ⟨rfl,hb2⟩;have hbr:=u_ hba hb2;have hbw2:=b_ hb hbr;obtain⟨W1,W2,va,vb,k1,k2,lA,_,runA,oA,gA,cA,hab⟩:=stepS (enc:=tripP) Tryz.underlying28 info_tTrip rfl (by decide) tripP_len tripP_one (by decide) (⟨y1,y2,y3,y4⟩:TripP) (own_below ownA hb2) hlen (by omega) hbw2.size;rw [←htk] at oA;have oA:=H_ oA;have hbF:=H_ (hbw2.trans lA);subst k1 k2 hab;have runA:(Builtin.append_ #[28,28] 28 #[u4,.slice (some ⟨w2.heap.size,0,none⟩) 1 1]).run Tryz.prog (w2.alloc (.cells #[.int .i64 y1,.int .i64 y2,.int .i64 y3,.int .i64 y4] 53))= .ok (.slice (some ⟨gA,0,none⟩) (k+1) cA) W2:=runA;rename_i kX;clear kX hbw2 hbr hb2 ownA hbA htk hlen hy lA hb
   go_wp2_with (at_builtin;refine wpList_append_run ?a1 (.tmp 13) (.tmp 17) 28 ?a2 ?a3 ?a4 runA ?_)
   all_goals try rfl
   go_roundw
   case rel=>exact⟨k+1,by omega,by go_num,oA,hbF⟩
   case measure=>simp [intOf];omega
  ·obtain rfl:n=k:=by omega
   have hfin:Hid (wr.ownsRow w.heap.size 53 4 u4 n ((l.map f).flatMap tripP)):=by have:=own.out;rwa [List.take_of_length_le (by rw [hr.len];omega)] at this
   clear own;go_wp2_with fail;go_returns;exact⟨_,rfl,hfin.out,hb.out⟩
theorem allH_any (g:Nat) (lb:Array Value) (eg: ∀ args w,(callFunc g args).run Tryz.prog w= .ok (.enter g args) w) (f:SHazP→HazP) (A:Option Addr) (n c:Nat) (l:List (SHazP)) (w:World) (hr:Rd w 5 shazE A n l) (hn:n≤1000000)
 (hp: ∀ (W:World) (x:SHazP),Below w.heap.size w W→x∈l→Calls Tryz.prog g (#[.agg (shazE x).toArray]++lb) W fun e w'=>e= .returned (.agg (hazE (f x)).toArray)∧Below W.heap.size W w'):
 Calls Tryz.prog 193 #[.slice A n c,.func (.func g) #[] lb] w fun e w'=> ∃ v,e= .returned v∧w'.ownsRow w.heap.size 108 5 v n ((l.map f).flatMap hazE)∧Below w.heap.size w w':=by
 go_enter Tryz.func193,Tryz.ntmps193;go_wp2_with fail;go_loopw [9,4] (fun iv vv wr=> ∃ (i:Nat),i≤n∧iv= .int .i64 i∧Hid (wr.ownsRow w.heap.size 108 5 vv i (((l.take i).map f).flatMap hazE))∧Hid (Below w.heap.size w wr)) (fun iv _ _=>n-(intOf iv).toNat)
 case atStart=>exact⟨0,Nat.zero_le _,rfl,World.ownsRow_nil _ _ _ _,Below.refl _ _⟩
 case round=>
  obtain⟨k,hk,rfl,own,hb⟩:=hrel;by_cases hlt:k<n
  ·have hltI:(k:Int)<(n:Int):=by omega
   obtain⟨b,o,⟨x1,x2,x3,x4,x5⟩,rfl,hbs,hx,hc0⟩:=(hr.below hb.out).get hlt;have g0:=hc0 0 _ rfl;have g1:=hc0 1 _ rfl;have g2:=hc0 2 _ rfl;have g3:=hc0 3 _ rfl;have g4:=hc0 4 _ rfl;simp only [Nat.add_zero] at g0;have hx:=H_ hx;rename_i hx0;clear hx0 hc0;have hba:=below_alloc wr (shazE (⟨x1,x2,x3,x4,x5⟩:SHazP)).toArray 181;have Ba:=Bx.new wr 181 (shazE (⟨x1,x2,x3,x4,x5⟩:SHazP));simp only [shazE] at hba Ba;obtain⟨wa,hwa⟩: ∃ q,wr.alloc (.cells (shazE (⟨x1,x2,x3,x4,x5⟩:SHazP)).toArray 181)=q:=⟨_,rfl⟩
   simp only [shazE] at hwa;rw [hwa] at hba Ba;obtain⟨q0,q1,q2,q3,q4⟩:=c_5 Ba;have hbA:=b_ hb hba;have ownA:=own_below own.out hba;clear own Ba;have hcall:=hp wa _ hbA (List.mem_of_getElem? hx.out);have htk:(l.take (k+1)).map f=(l.take k).map f++[f (⟨x1,x2,x3,x4,x5⟩)]:=by rw [take_at hx.out,List.map_append];rfl
   have hlen:((l.take k).map f).length =k:=by rw [List.length_map,List.length_take,hr.len];omega
   obtain⟨y,hy⟩: ∃ y,f (⟨x1,x2,x3,x4,x5⟩)=y:=⟨_,rfl⟩
   rw [hy] at hcall htk;obtain⟨y1,y2,y3,y4,y5⟩:=y;simp only [shazE,hazE,Array.append_eq_append,List.append_toArray,List.cons_append,List.nil_append] at hcall;go_wp2_with fail;refine hcall.mono ?_;rintro e w2 ⟨rfl,hb2⟩;have hbr:=u_ hba hb2;have hbw2:=b_ hb hbr;obtain⟨W1,W2,va,vb,k1,k2,lA,_,runA,oA,gA,cA,hab⟩:=stepS (enc:=hazE) Tryz.underlying29 info_tHaz rfl (by decide) hazE_len hazE_one (by decide) (⟨y1,y2,y3,y4,y5⟩:HazP) (own_below ownA hb2) hlen (by omega) hbw2.size;rw [←htk] at oA;have oA:=H_ oA;have hbF:=H_ (hbw2.trans lA);subst k1 k2 hab;have runA:(Builtin.append_ #[29,29] 29 #[u4,.slice (some ⟨w2.heap.size,0,none⟩) 1 1]).run Tryz.prog (w2.alloc (.cells #[.bool y1,.int .i64 y2,.int .i64 y3,.int .i64 y4,.int .i64 y5] 108))= .ok (.slice (some ⟨gA,0,none⟩) (k+1) cA) W2:=runA;rename_i kX;clear kX hbw2 hbr hb2 ownA hbA htk hlen hy lA hb
   go_wp2_with (at_builtin;refine wpList_append_run ?a1 (.tmp 13) (.tmp 17) 29 ?a2 ?a3 ?a4 runA ?_)
   all_goals try rfl
   go_roundw
   case rel=>exact⟨k+1,by omega,by go_num,oA,hbF⟩
   case measure=>simp [intOf];omega
  ·obtain rfl:n=k:=by omega
   have hfin:Hid (wr.ownsRow w.heap.size 108 5 u4 n ((l.map f).flatMap hazE)):=by have:=own.out;rwa [List.take_of_length_le (by rw [hr.len];omega)] at this
   clear own;go_wp2_with fail;go_returns;exact⟨_,rfl,hfin.out,hb.out⟩
theorem allIS_any (g:Nat) (lb:Array Value) (eg: ∀ args w,(callFunc g args).run Tryz.prog w= .ok (.enter g args) w) (f:Int→Str) (A:Option Addr) (n c:Nat) (l:List (Int)) (w:World) (hr:Rd w 1 (numE .i64) A n l) (hn:n≤1000000)
 (hp: ∀ (W:World) (x:Int),Below w.heap.size w W→x∈l→Calls Tryz.prog g (#[.int .i64 x]++lb) W fun e w'=>e= .returned (.string (f x))∧Below W.heap.size W w'):
 Calls Tryz.prog 134 #[.slice A n c,.func (.func g) #[] lb] w fun e w'=> ∃ v,e= .returned v∧w'.ownsRow w.heap.size 9 1 v n ((l.map f).flatMap strE)∧Below w.heap.size w w':=by
 go_enter Tryz.func134,Tryz.ntmps134;go_wp2_with fail;go_loopw [9,4] (fun iv vv wr=> ∃ (i:Nat),i≤n∧iv= .int .i64 i∧Hid (wr.ownsRow w.heap.size 9 1 vv i (((l.take i).map f).flatMap strE))∧Hid (Below w.heap.size w wr)) (fun iv _ _=>n-(intOf iv).toNat)
 case atStart=>exact⟨0,Nat.zero_le _,rfl,World.ownsRow_nil _ _ _ _,Below.refl _ _⟩
 case round=>
  obtain⟨k,hk,rfl,own,hb⟩:=hrel;by_cases hlt:k<n
  ·have hltI:(k:Int)<(n:Int):=by omega
   obtain⟨b,o,x1,rfl,hbs,hx,hc0⟩:=(hr.below hb.out).get hlt;have g0:=hc0 0 _ rfl;rw [Nat.mul_one,Nat.add_zero] at g0;have hx:=H_ hx;rename_i hx0;clear hx0 hc0;have hbA:=hb.out;have ownA:=own.out;clear own;have hcall:=hp wr _ hbA (List.mem_of_getElem? hx.out);have htk:(l.take (k+1)).map f=(l.take k).map f++[f (x1)]:=by rw [take_at hx.out,List.map_append];rfl
   have hlen:((l.take k).map f).length =k:=by rw [List.length_map,List.length_take,hr.len];omega
   obtain⟨y,hy⟩: ∃ y,f (x1)=y:=⟨_,rfl⟩
   rw [hy] at hcall htk;go_wp2_with fail;refine hcall.mono ?_;rintro e w2 ⟨rfl,hb2⟩;have hbw2:=b_ hb hb2;obtain⟨W1,W2,va,vb,k1,k2,lA,_,runA,oA,gA,cA,hab⟩:=stepS (enc:=strE) Tryz.underlying22 info_tStr rfl (by decide) strE_len strE_one (by decide) y (own_below ownA hb2) hlen (by omega) hbw2.size;rw [←htk] at oA;have oA:=H_ oA;have hbF:=H_ (hbw2.trans lA);subst k1 k2 hab;have runA:(Builtin.append_ #[22,22] 22 #[u4,.slice (some ⟨w2.heap.size,0,none⟩) 1 1]).run Tryz.prog (w2.alloc (.cells #[.string y] 9))= .ok (.slice (some ⟨gA,0,none⟩) (k+1) cA) W2:=runA;rename_i kX;clear kX hbw2 hb2 ownA hbA htk hlen hy lA hb;go_wp2_with (at_builtin;refine wpList_append_run ?a1 (.tmp 13) (.tmp 17) 22 ?a2 ?a3 ?a4 runA ?_)
   all_goals try rfl
   go_roundw
   case rel=>exact⟨k+1,by omega,by go_num,oA,hbF⟩
   case measure=>simp [intOf];omega
  ·obtain rfl:n=k:=by omega
   have hfin:Hid (wr.ownsRow w.heap.size 9 1 u4 n ((l.map f).flatMap strE)):=by have:=own.out;rwa [List.take_of_length_le (by rw [hr.len];omega)] at this
   clear own;go_wp2_with fail;go_returns;exact⟨_,rfl,hfin.out,hb.out⟩
theorem allR_any (g:Nat) (lb:Array Value) (eg: ∀ args w,(callFunc g args).run Tryz.prog w= .ok (.enter g args) w) (f:Nat→RouteP) (A:Option Addr) (n c:Nat) (l:List (REl)) (w:World) (hr:Rd w 4 relE A n l) (hn:n≤1000000)
 (hp: ∀ (W:World) (i:Nat) (x:REl),Below w.heap.size w W→l[i]?=some x→Calls Tryz.prog g (#[.agg (relE x).toArray]++lb) W fun e w'=> ∃ y:RE3,e= .returned (.agg (re3E y).toArray)∧RouT W.heap.size w' y (f i)∧Below W.heap.size W w'):
 Calls Tryz.prog 188 #[.slice A n c,.func (.func g) #[] lb] w fun e w'=> ∃ v,e= .returned v∧(∃ L:List RE3,w'.ownsRow w.heap.size 51 3 v n (L.flatMap re3E)∧RowsG (RouT w.heap.size) w' L ((List.range n).map f))∧Below w.heap.size w w':=by
 go_enter Tryz.func188,Tryz.ntmps188;go_wp2_with fail;go_loopw [9,4] (fun iv vv wr=> ∃ (i:Nat) (L:List RE3),i≤n∧iv= .int .i64 i∧Hid (wr.ownsRow w.heap.size 51 3 vv i (L.flatMap re3E))∧Hid (RowsG (RouT w.heap.size) wr L ((List.range i).map f))∧Hid (Below w.heap.size w wr)) (fun iv _ _=>n-(intOf iv).toNat)
 case atStart=>exact⟨0,[],Nat.zero_le _,rfl,World.ownsRow_nil _ _ _ _,RowsG.nil,Below.refl _ _⟩
 case round=>
  obtain⟨k,L,hk,rfl,own,hT,hb⟩:=hrel;by_cases hlt:k<n
  ·have hltI:(k:Int)<(n:Int):=by omega
   obtain⟨b,o,⟨x0,⟨x1,x2,x3⟩,⟨x4,x5,x6⟩,⟨x7,x8,x9⟩⟩,rfl,hbs,hx,hc0⟩:=(hr.below hb.out).get hlt;have g0:=hc0 0 _ rfl;have g1:=hc0 1 _ rfl;have g2:=hc0 2 _ rfl;have g3:=hc0 3 _ rfl;simp only [Nat.add_zero,SlV.v] at g0 g1 g2 g3;have hx:=H_ hx;rename_i hx0;clear hx0 hc0;have hba:=below_alloc wr (relE (⟨x0,⟨x1,x2,x3⟩,⟨x4,x5,x6⟩,⟨x7,x8,x9⟩⟩:REl)).toArray 177;have Ba:=Bx.new wr 177 (relE (⟨x0,⟨x1,x2,x3⟩,⟨x4,x5,x6⟩,⟨x7,x8,x9⟩⟩:REl));simp only [relE,SlV.v] at hba Ba;obtain⟨wa,hwa⟩: ∃ q,wr.alloc (.cells (relE (⟨x0,⟨x1,x2,x3⟩,⟨x4,x5,x6⟩,⟨x7,x8,x9⟩⟩:REl)).toArray 177)=q:=⟨_,rfl⟩
   simp only [relE,SlV.v] at hwa;rw [hwa] at hba Ba;obtain⟨q0,q1,q2,q3⟩:=c_4 Ba;have hbA:=b_ hb hba;have ownA:=own_below own.out hba;have hTA:RowsG (RouT w.heap.size) wa L ((List.range k).map f):=hT.out.up fun _ _ h=>h.up fun _ _ _ _ _ _ _ _ h=>own_below h hba;clear own hT Ba;have hcall:=hp wa k _ hbA hx.out;have htk:(List.range (k+1)).map f=(List.range k).map f++[f k]:=by rw [List.range_succ,List.map_append];rfl
   have hlen:L.length=k:=by rw [hTA.len,List.length_map,List.length_range]
   simp only [relE,SlV.v,re3E,SlV.v,Array.append_eq_append,List.append_toArray,List.cons_append,List.nil_append] at hcall;go_wp2_with fail;refine hcall.mono ?_;rintro e w2 ⟨⟨⟨y1,y2,y3⟩,⟨y4,y5,y6⟩,⟨y7,y8,y9⟩⟩,rfl,hy,hb2⟩;simp only [re3E,SlV.v];have hbr:=u_ hba hb2;have hbw2:=b_ hb hbr;obtain⟨W1,W2,va,vb,k1,k2,lA,keepA,runA,oA,gA,cA,hab⟩:=stepS (enc:=re3E) Tryz.underlying27 info_tRoute rfl (by decide) re3E_len re3E_one (by decide) (⟨⟨y1,y2,y3⟩,⟨y4,y5,y6⟩,⟨y7,y8,y9⟩⟩:RE3) (own_below ownA hb2) hlen (by omega) hbw2.size
   have hTF:Hid (RowsG (RouT w.heap.size) W2 (L++[(⟨⟨y1,y2,y3⟩,⟨y4,y5,y6⟩,⟨y7,y8,y9⟩⟩:RE3)]) ((List.range (k+1)).map f)):=by
    show RowsG _ _ _ _;rw [htk];refine((hTA.up fun _ _ h=>h.up fun _ _ _ _ _ _ _ _ h=>own_below h hb2).snoc (e:=(⟨⟨y1,y2,y3⟩,⟨y4,y5,y6⟩,⟨y7,y8,y9⟩⟩:RE3)) (hy.base hbA.size)).up fun _ _ h=>h.up fun _ _ _ _ _ _ he _ h=>keepA _ _ _ _ _ _ (by rcases he with rfl|rfl<;>decide) h
   have oA:=H_ oA;have hbF:=H_ (hbw2.trans lA);subst k1 k2 hab;have runA:(Builtin.append_ #[27,27] 27 #[u4,.slice (some ⟨w2.heap.size,0,none⟩) 1 1]).run Tryz.prog (w2.alloc (.cells #[.slice y1 y2 y3,.slice y4 y5 y6,.slice y7 y8 y9] 51))= .ok (.slice (some ⟨gA,0,none⟩) (k+1) cA) W2:=runA;rename_i kX;clear kX hbw2 hbr hb2 ownA hbA htk hlen hy hTA keepA lA hb;go_wp2_with (at_builtin;refine wpList_append_run ?a1 (.tmp 13) (.tmp 17) 27 ?a2 ?a3 ?a4 runA ?_)
   all_goals try rfl
   go_roundw
   case rel=>exact⟨k+1,_,by omega,by go_num,oA,hTF,hbF⟩
   case measure=>simp [intOf];omega
  ·obtain rfl:n=k:=by omega
   have hfin:Hid (RowsG (RouT w.heap.size) wr L ((List.range n).map f)):=hT;clear hT;go_wp2_with fail;go_returns;exact⟨_,rfl,⟨L,own.out,hfin.out⟩,hb.out⟩
