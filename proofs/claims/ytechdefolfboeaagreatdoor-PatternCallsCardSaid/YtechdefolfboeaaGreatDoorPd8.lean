/- Merged. -/
import Derived.Test.YtechdefolfboeaaGreatDoorPd6
import Derived.Test.YtechdefolfboeaaGreatDoorPd7
set_option linter.unusedVariables false
set_option linter.unusedSimpArgs false
set_option maxRecDepth 100000
set_option maxHeartbeats 2000000
namespace Go.Proofs.YtechdefolfboeaaGreatDoor
open Go.RowKit B K
theorem nJ_ (g:Nat) (lb:Array Value) (eg: ∀ args w,(callFunc g args).run Tryz.prog w= .ok (.enter g args) w) (p:Int×Int×Int ->Bool) (A:Option Addr) (n c:Nat) (l:List (Int×Int×Int)) (w:World) (hr:Rd w 3 az_ A n l) (hn:n<=1099511627776)
 (hp: ∀ (W:World) (x:Int×Int×Int),Below w.heap.size w W ->x∈l ->Calls Tryz.prog g (#[.agg (az_ x).toArray]++lb) W (rb_ (.bool (p x)) W)):
 Calls Tryz.prog 157 #[.slice A n c,.func (.func g) #[] lb] w (rb_ (.int .i64 (idx p l)) w):=by
 go_enter Tryz.func157,Tryz.ntmps157
 go_wp2
 go_loopw [8] (fun i wr=> ∃ (k:Nat),k<=n/\i= .int .i64 k/\Below w.heap.size w wr/\Hd (∀ y∈l.take k,p y=false)) (fun i _=>n-(intOf i).toNat)
 ·exact⟨0,Nat.zero_le _,rfl,Below.refl _ _,fun y j=>by simp at j⟩
 ·obtain⟨k,hk,rfl,G,D⟩:=hrel;by_cases M:k<n
  ·have aA:(k:Int)<(n:Int):=by omega
   obtain⟨b,o,⟨R,S,T⟩,rfl,aB,L,q⟩:=(hr.below G).get M;have P:=q 0 _ rfl;have g1:=q 1 _ rfl;have g2:=q 2 _ rfl;simp only [Nat.add_zero] at P;have L:=H_ L;rename_i N;clear N q;have f:=hp wr _ G (List.mem_of_getElem? L.o);simp only [az_,Array.append_eq_append,List.append_toArray,List.cons_append,List.nil_append] at f;clear hp
   cases F:p (⟨R,S,T⟩) with
   |true=>
    rw [F] at f;have Q:Hd (idx p l=k):=cn_ L.o D.o F;clear F;go_wp2_with fail;refine f.mono ?_;rintro e w2 ⟨rfl,z⟩
    go_wp2
    go_returns;exact⟨ah_ Q.o.symm,u_ G z⟩
   |false=>
    rw [F] at f
    have J:Hd (∀ y∈l.take (k+1),p y=false):=by
     intro y j;rw [an_ L.o,List.mem_append] at j;rcases j with j|j
     ·exact D.o y j
     ·simp at j;subst j;exact F
    clear F;go_wp2_with fail;refine f.mono ?_;rintro e w2 ⟨rfl,z⟩
    go_wp2
    go_roundw
    ·exact⟨k+1,by omega,by go_num,u_ G z,J⟩
    ·simp [intOf];omega
  ·go_wp2
   go_returns;exact⟨ah_ (by rw [cx_];intro y j;exact D.o y (by rwa [List.take_of_length_le (by rw [hr.len];omega)])),G⟩
theorem no_ (g:Nat) (lb:Array Value) (eg: ∀ args w,(callFunc g args).run Tryz.prog w= .ok (.enter g args) w) (p:Int×Int×Int ->Bool) (A:Option Addr) (n c:Nat) (l:List (Int×Int×Int)) (w:World) (hr:Rd w 3 az_ A n l) (hn:n<=1099511627776)
 (hp: ∀ (W:World) (x:Int×Int×Int),Below w.heap.size w W ->x∈l ->Calls Tryz.prog g (#[.agg (az_ x).toArray]++lb) W (rb_ (.bool (p x)) W)):
 Calls Tryz.prog 119 #[.slice A n c,.func (.func g) #[] lb] w (rb_ (.bool (l.any p)) w):=by
 have h:=H_ (nJ_ g lb eg p A n c l w hr hn hp);clear hp hr;go_enter Tryz.func119,Tryz.ntmps119;go_wp2_with fail;refine h.o.mono ?_;rintro e w1 ⟨rfl,y⟩;have j:=H_ y;have z:=H_ (cK_ p l);obtain⟨q,f⟩:=e_ (idx p l);rw [f] at z ⊢;clear y f
 go_wp2
 go_returns;exact⟨am_ z.o,j.o⟩
theorem nF_ (g:Nat) (lb:Array Value) (eg: ∀ args w,(callFunc g args).run Tryz.prog w= .ok (.enter g args) w) (p:cc_ ->Bool) (A:Option Addr) (n c:Nat) (l:List (cc_)) (w:World) (hr:Rd w 6 aJ_ A n l) (hn:n<=1099511627776)
 (hp: ∀ (W:World) (x:cc_),Below w.heap.size w W ->x∈l ->Calls Tryz.prog g (#[.agg (aJ_ x).toArray]++lb) W (rb_ (.bool (p x)) W)):
 Calls Tryz.prog 158 #[.slice A n c,.func (.func g) #[] lb] w (rb_ (.int .i64 (idx p l)) w):=by
 go_enter Tryz.func158,Tryz.ntmps158
 go_wp2
 go_loopw [8] (fun i wr=> ∃ (k:Nat),k<=n/\i= .int .i64 k/\Below w.heap.size w wr/\Hd (∀ y∈l.take k,p y=false)) (fun i _=>n-(intOf i).toNat)
 ·exact⟨0,Nat.zero_le _,rfl,Below.refl _ _,fun y q=>by simp at q⟩
 ·obtain⟨k,hk,rfl,G,D⟩:=hrel;by_cases M:k<n
  ·have aA:(k:Int)<(n:Int):=by omega
   obtain⟨b,o,⟨R,S,T,U,X,Y⟩,rfl,aB,L,j⟩:=(hr.below G).get M;have P:=j 0 _ rfl;have g1:=j 1 _ rfl;have g2:=j 2 _ rfl;have g3:=j 3 _ rfl;have g4:=j 4 _ rfl;have g5:=j 5 _ rfl;simp only [Nat.add_zero] at P;have L:=H_ L;rename_i N;clear N j;have f:=hp wr _ G (List.mem_of_getElem? L.o);simp only [aJ_,Array.append_eq_append,List.append_toArray,List.cons_append,List.nil_append] at f;clear hp
   cases F:p (⟨R,S,T,U,X,Y⟩) with
   |true=>
    rw [F] at f;have Q:Hd (idx p l=k):=cn_ L.o D.o F;clear F;go_wp2_with fail;refine f.mono ?_;rintro e w2 ⟨rfl,z⟩
    go_wp2
    go_returns;exact⟨ah_ Q.o.symm,u_ G z⟩
   |false=>
    rw [F] at f
    have J:Hd (∀ y∈l.take (k+1),p y=false):=by
     intro y q;rw [an_ L.o,List.mem_append] at q;rcases q with q|q
     ·exact D.o y q
     ·simp at q;subst q;exact F
    clear F;go_wp2_with fail;refine f.mono ?_;rintro e w2 ⟨rfl,z⟩
    go_wp2
    go_roundw
    ·exact⟨k+1,by omega,by go_num,u_ G z,J⟩
    ·simp [intOf];omega
  ·go_wp2
   go_returns;exact⟨ah_ (by rw [cx_];intro y q;exact D.o y (by rwa [List.take_of_length_le (by rw [hr.len];omega)])),G⟩
theorem nk_ (g:Nat) (lb:Array Value) (eg: ∀ args w,(callFunc g args).run Tryz.prog w= .ok (.enter g args) w) (p:cc_ ->Bool) (A:Option Addr) (n c:Nat) (l:List (cc_)) (w:World) (hr:Rd w 6 aJ_ A n l) (hn:n<=1099511627776)
 (hp: ∀ (W:World) (x:cc_),Below w.heap.size w W ->x∈l ->Calls Tryz.prog g (#[.agg (aJ_ x).toArray]++lb) W (rb_ (.bool (p x)) W)):
 Calls Tryz.prog 121 #[.slice A n c,.func (.func g) #[] lb] w (rb_ (.bool (l.any p)) w):=by
 have h:=H_ (nF_ g lb eg p A n c l w hr hn hp);clear hp hr;go_enter Tryz.func121,Tryz.ntmps121;go_wp2_with fail;refine h.o.mono ?_;rintro e w1 ⟨rfl,y⟩;have j:=H_ y;have z:=H_ (cK_ p l);obtain⟨q,f⟩:=e_ (idx p l);rw [f] at z ⊢;clear y f
 go_wp2
 go_returns;exact⟨am_ z.o,j.o⟩
theorem nK_ (g:Nat) (lb:Array Value) (eg: ∀ args w,(callFunc g args).run Tryz.prog w= .ok (.enter g args) w) (p:Nat ->Bool) (A:Option Addr) (n c:Nat) (l:List (RE3)) (w:World) (hr:Rd w 3 re3E A n l) (hn:n<=1099511627776)
 (hp: ∀ (W:World) (i:Nat) (x:RE3),Below w.heap.size w W ->l[i]?=some x ->Calls Tryz.prog g (#[.agg (re3E x).toArray]++lb) W (rb_ (.bool (p i)) W)):
 Calls Tryz.prog 159 #[.slice A n c,.func (.func g) #[] lb] w (rb_ (.int .i64 (idx p (List.range n))) w):=by
 go_enter Tryz.func159,Tryz.ntmps159
 go_wp2
 go_loopw [8] (fun i wr=> ∃ (k:Nat),k<=n/\i= .int .i64 k/\Below w.heap.size w wr/\Hd (∀ y∈(List.range n).take k,p y=false)) (fun i _=>n-(intOf i).toNat)
 ·exact⟨0,Nat.zero_le _,rfl,Below.refl _ _,fun y j=>by simp at j⟩
 ·obtain⟨k,hk,rfl,J,F⟩:=hrel;by_cases L:k<n
  ·have aA:(k:Int)<(n:Int):=by omega
   obtain⟨b,o,⟨⟨x1,x2,x3⟩,⟨x4,x5,x6⟩,⟨x7,x8,x9⟩⟩,rfl,aB,N,q⟩:=(hr.below J).get L;have Q:=q 0 _ rfl;have R:=q 1 _ rfl;have S:=q 2 _ rfl;simp only [Nat.add_zero,SlV.v] at Q R S;have N:=H_ N;rename_i P;clear P q;have z:(List.range n)[k]?=some k:=List.getElem?_range L;have f:=hp wr k _ J N.o;simp only [re3E,SlV.v,Array.append_eq_append,List.append_toArray,List.cons_append,List.nil_append] at f;clear hp
   cases G:p k with
   |true=>
    rw [G] at f;have T:Hd (idx p (List.range n)=k):=cn_ z F.o G;clear z;clear G;go_wp2_with fail;refine f.mono ?_;rintro e w2 ⟨rfl,D⟩
    go_wp2
    go_returns;exact⟨ah_ T.o.symm,u_ J D⟩
   |false=>
    rw [G] at f
    have M:Hd (∀ y∈(List.range n).take (k+1),p y=false):=by
     intro y j;rw [an_ z,List.mem_append] at j;rcases j with j|j
     ·exact F.o y j
     ·simp at j;subst j;exact G
    clear G z;go_wp2_with fail;refine f.mono ?_;rintro e w2 ⟨rfl,D⟩
    go_wp2
    go_roundw
    ·exact⟨k+1,by omega,by go_num,u_ J D,M⟩
    ·simp [intOf];omega
  ·go_wp2
   go_returns;exact⟨ah_ (by rw [cx_];intro y j;exact F.o y (by rwa [List.take_of_length_le (by rw [List.length_range];omega)])),J⟩
theorem np_ (g:Nat) (lb:Array Value) (eg: ∀ args w,(callFunc g args).run Tryz.prog w= .ok (.enter g args) w) (p:Nat ->Bool) (A:Option Addr) (n c:Nat) (l:List (RE3)) (w:World) (hr:Rd w 3 re3E A n l) (hn:n<=1099511627776)
 (hp: ∀ (W:World) (i:Nat) (x:RE3),Below w.heap.size w W ->l[i]?=some x ->Calls Tryz.prog g (#[.agg (re3E x).toArray]++lb) W (rb_ (.bool (p i)) W)):
 Calls Tryz.prog 123 #[.slice A n c,.func (.func g) #[] lb] w (rb_ (.bool ((List.range n).any p)) w):=by
 have h:=H_ (nK_ g lb eg p A n c l w hr hn hp);clear hp hr;go_enter Tryz.func123,Tryz.ntmps123;go_wp2_with fail;refine h.o.mono ?_;rintro e w1 ⟨rfl,y⟩;have j:=H_ y;have z:=H_ (cK_ p (List.range n));obtain⟨q,f⟩:=e_ (idx p (List.range n));rw [f] at z ⊢;clear y f
 go_wp2
 go_returns;exact⟨am_ z.o,j.o⟩
theorem nH_ (g:Nat) (lb:Array Value) (eg: ∀ args w,(callFunc g args).run Tryz.prog w= .ok (.enter g args) w) (p:Int ->Bool) (A:Option Addr) (n c:Nat) (l:List (Int)) (w:World) (hr:Rd w 1 (numE .i64) A n l) (hn:n<=1099511627776)
 (hp: ∀ (W:World) (x:Int),Below w.heap.size w W ->x∈l ->Calls Tryz.prog g (#[.int .i64 x]++lb) W (rb_ (.bool (p x)) W)):
 Calls Tryz.prog 160 #[.slice A n c,.func (.func g) #[] lb] w (rb_ (.int .i64 (idx p l)) w):=by
 go_enter Tryz.func160,Tryz.ntmps160
 go_wp2
 go_loopw [8] (fun i wr=> ∃ (k:Nat),k<=n/\i= .int .i64 k/\Below w.heap.size w wr/\Hd (∀ y∈l.take k,p y=false)) (fun i _=>n-(intOf i).toNat)
 ·exact⟨0,Nat.zero_le _,rfl,Below.refl _ _,fun y j=>by simp at j⟩
 ·obtain⟨k,hk,rfl,F,z⟩:=hrel;by_cases M:k<n
  ·have aA:(k:Int)<(n:Int):=by omega
   obtain⟨b,o,R,rfl,aB,L,G⟩:=(hr.below F).get M;have P:=G 0 _ rfl;rw [Nat.mul_one,Nat.add_zero] at P;have L:=H_ L;rename_i N;clear N G;have f:=hp wr _ F (List.mem_of_getElem? L.o);clear hp
   cases D:p (R) with
   |true=>
    rw [D] at f;have Q:Hd (idx p l=k):=cn_ L.o z.o D;clear D;go_wp2_with fail;refine f.mono ?_;rintro e w2 ⟨rfl,q⟩
    go_wp2
    go_returns;exact⟨ah_ Q.o.symm,u_ F q⟩
   |false=>
    rw [D] at f
    have J:Hd (∀ y∈l.take (k+1),p y=false):=by
     intro y j;rw [an_ L.o,List.mem_append] at j;rcases j with j|j
     ·exact z.o y j
     ·simp at j;subst j;exact D
    clear D;go_wp2_with fail;refine f.mono ?_;rintro e w2 ⟨rfl,q⟩
    go_wp2
    go_roundw
    ·exact⟨k+1,by omega,by go_num,u_ F q,J⟩
    ·simp [intOf];omega
  ·go_wp2
   go_returns;exact⟨ah_ (by rw [cx_];intro y j;exact z.o y (by rwa [List.take_of_length_le (by rw [hr.len];omega)])),F⟩
theorem nm_ (g:Nat) (lb:Array Value) (eg: ∀ args w,(callFunc g args).run Tryz.prog w= .ok (.enter g args) w) (p:Int ->Bool) (A:Option Addr) (n c:Nat) (l:List (Int)) (w:World) (hr:Rd w 1 (numE .i64) A n l) (hn:n<=1099511627776)
 (hp: ∀ (W:World) (x:Int),Below w.heap.size w W ->x∈l ->Calls Tryz.prog g (#[.int .i64 x]++lb) W (rb_ (.bool (p x)) W)):
 Calls Tryz.prog 125 #[.slice A n c,.func (.func g) #[] lb] w (rb_ (.bool (l.any p)) w):=by
 have h:=H_ (nH_ g lb eg p A n c l w hr hn hp);clear hp hr;go_enter Tryz.func125,Tryz.ntmps125;go_wp2_with fail;refine h.o.mono ?_;rintro e w1 ⟨rfl,y⟩;have j:=H_ y;have z:=H_ (cK_ p l);obtain⟨q,f⟩:=e_ (idx p l);rw [f] at z ⊢;clear y f
 go_wp2
 go_returns;exact⟨am_ z.o,j.o⟩
theorem nM_ (g:Nat) (lb:Array Value) (eg: ∀ args w,(callFunc g args).run Tryz.prog w= .ok (.enter g args) w) (p:bM_ ->Bool) (A:Option Addr) (n c:Nat) (l:List (bM_)) (w:World) (hr:Rd w 4 aL_ A n l) (hn:n<=1099511627776)
 (hp: ∀ (W:World) (x:bM_),Below w.heap.size w W ->x∈l ->Calls Tryz.prog g (#[.agg (aL_ x).toArray]++lb) W (rb_ (.bool (p x)) W)):
 Calls Tryz.prog 161 #[.slice A n c,.func (.func g) #[] lb] w (rb_ (.int .i64 (idx p l)) w):=by
 go_enter Tryz.func161,Tryz.ntmps161
 go_wp2
 go_loopw [8] (fun i wr=> ∃ (k:Nat),k<=n/\i= .int .i64 k/\Below w.heap.size w wr/\Hd (∀ y∈l.take k,p y=false)) (fun i _=>n-(intOf i).toNat)
 ·exact⟨0,Nat.zero_le _,rfl,Below.refl _ _,fun y q=>by simp at q⟩
 ·obtain⟨k,hk,rfl,G,D⟩:=hrel;by_cases M:k<n
  ·have aA:(k:Int)<(n:Int):=by omega
   obtain⟨b,o,⟨R,S,T,U⟩,rfl,aB,L,j⟩:=(hr.below G).get M;have P:=j 0 _ rfl;have g1:=j 1 _ rfl;have g2:=j 2 _ rfl;have g3:=j 3 _ rfl;simp only [Nat.add_zero] at P;have L:=H_ L;rename_i N;clear N j;have f:=hp wr _ G (List.mem_of_getElem? L.o);simp only [aL_,Array.append_eq_append,List.append_toArray,List.cons_append,List.nil_append] at f;clear hp
   cases F:p (⟨R,S,T,U⟩) with
   |true=>
    rw [F] at f;have Q:Hd (idx p l=k):=cn_ L.o D.o F;clear F;go_wp2_with fail;refine f.mono ?_;rintro e w2 ⟨rfl,z⟩
    go_wp2
    go_returns;exact⟨ah_ Q.o.symm,u_ G z⟩
   |false=>
    rw [F] at f
    have J:Hd (∀ y∈l.take (k+1),p y=false):=by
     intro y q;rw [an_ L.o,List.mem_append] at q;rcases q with q|q
     ·exact D.o y q
     ·simp at q;subst q;exact F
    clear F;go_wp2_with fail;refine f.mono ?_;rintro e w2 ⟨rfl,z⟩
    go_wp2
    go_roundw
    ·exact⟨k+1,by omega,by go_num,u_ G z,J⟩
    ·simp [intOf];omega
  ·go_wp2
   go_returns;exact⟨ah_ (by rw [cx_];intro y q;exact D.o y (by rwa [List.take_of_length_le (by rw [hr.len];omega)])),G⟩
theorem nr_ (g:Nat) (lb:Array Value) (eg: ∀ args w,(callFunc g args).run Tryz.prog w= .ok (.enter g args) w) (p:bM_ ->Bool) (A:Option Addr) (n c:Nat) (l:List (bM_)) (w:World) (hr:Rd w 4 aL_ A n l) (hn:n<=1099511627776)
 (hp: ∀ (W:World) (x:bM_),Below w.heap.size w W ->x∈l ->Calls Tryz.prog g (#[.agg (aL_ x).toArray]++lb) W (rb_ (.bool (p x)) W)):
 Calls Tryz.prog 126 #[.slice A n c,.func (.func g) #[] lb] w (rb_ (.bool (l.any p)) w):=by
 have h:=H_ (nM_ g lb eg p A n c l w hr hn hp);clear hp hr;go_enter Tryz.func126,Tryz.ntmps126;go_wp2_with fail;refine h.o.mono ?_;rintro e w1 ⟨rfl,y⟩;have j:=H_ y;have z:=H_ (cK_ p l);obtain⟨q,f⟩:=e_ (idx p l);rw [f] at z ⊢;clear y f
 go_wp2
 go_returns;exact⟨am_ z.o,j.o⟩
theorem nG_ (g:Nat) (lb:Array Value) (eg: ∀ args w,(callFunc g args).run Tryz.prog w= .ok (.enter g args) w) (p:HazP ->Bool) (A:Option Addr) (n c:Nat) (l:List (HazP)) (w:World) (hr:Rd w 5 hazE A n l) (hn:n<=1099511627776)
 (hp: ∀ (W:World) (x:HazP),Below w.heap.size w W ->x∈l ->Calls Tryz.prog g (#[.agg (hazE x).toArray]++lb) W (rb_ (.bool (p x)) W)):
 Calls Tryz.prog 162 #[.slice A n c,.func (.func g) #[] lb] w (rb_ (.int .i64 (idx p l)) w):=by
 go_enter Tryz.func162,Tryz.ntmps162
 go_wp2
 go_loopw [8] (fun i wr=> ∃ (k:Nat),k<=n/\i= .int .i64 k/\Below w.heap.size w wr/\Hd (∀ y∈l.take k,p y=false)) (fun i _=>n-(intOf i).toNat)
 ·exact⟨0,Nat.zero_le _,rfl,Below.refl _ _,fun y q=>by simp at q⟩
 ·obtain⟨k,hk,rfl,G,D⟩:=hrel;by_cases M:k<n
  ·have aA:(k:Int)<(n:Int):=by omega
   obtain⟨b,o,⟨R,S,T,U,X⟩,rfl,aB,L,j⟩:=(hr.below G).get M;have P:=j 0 _ rfl;have g1:=j 1 _ rfl;have g2:=j 2 _ rfl;have g3:=j 3 _ rfl;have g4:=j 4 _ rfl;simp only [Nat.add_zero] at P;have L:=H_ L;rename_i N;clear N j;have f:=hp wr _ G (List.mem_of_getElem? L.o);simp only [hazE,Array.append_eq_append,List.append_toArray,List.cons_append,List.nil_append] at f;clear hp
   cases F:p (⟨R,S,T,U,X⟩) with
   |true=>
    rw [F] at f;have Q:Hd (idx p l=k):=cn_ L.o D.o F;clear F;go_wp2_with fail;refine f.mono ?_;rintro e w2 ⟨rfl,z⟩
    go_wp2
    go_returns;exact⟨ah_ Q.o.symm,u_ G z⟩
   |false=>
    rw [F] at f
    have J:Hd (∀ y∈l.take (k+1),p y=false):=by
     intro y q;rw [an_ L.o,List.mem_append] at q;rcases q with q|q
     ·exact D.o y q
     ·simp at q;subst q;exact F
    clear F;go_wp2_with fail;refine f.mono ?_;rintro e w2 ⟨rfl,z⟩
    go_wp2
    go_roundw
    ·exact⟨k+1,by omega,by go_num,u_ G z,J⟩
    ·simp [intOf];omega
  ·go_wp2
   go_returns;exact⟨ah_ (by rw [cx_];intro y q;exact D.o y (by rwa [List.take_of_length_le (by rw [hr.len];omega)])),G⟩
theorem nl_ (g:Nat) (lb:Array Value) (eg: ∀ args w,(callFunc g args).run Tryz.prog w= .ok (.enter g args) w) (p:HazP ->Bool) (A:Option Addr) (n c:Nat) (l:List (HazP)) (w:World) (hr:Rd w 5 hazE A n l) (hn:n<=1099511627776)
 (hp: ∀ (W:World) (x:HazP),Below w.heap.size w W ->x∈l ->Calls Tryz.prog g (#[.agg (hazE x).toArray]++lb) W (rb_ (.bool (p x)) W)):
 Calls Tryz.prog 128 #[.slice A n c,.func (.func g) #[] lb] w (rb_ (.bool (l.any p)) w):=by
 have h:=H_ (nG_ g lb eg p A n c l w hr hn hp);clear hp hr;go_enter Tryz.func128,Tryz.ntmps128;go_wp2_with fail;refine h.o.mono ?_;rintro e w1 ⟨rfl,y⟩;have j:=H_ y;have z:=H_ (cK_ p l);obtain⟨q,f⟩:=e_ (idx p l);rw [f] at z ⊢;clear y f
 go_wp2
 go_returns;exact⟨am_ z.o,j.o⟩
theorem nL_ (g:Nat) (lb:Array Value) (eg: ∀ args w,(callFunc g args).run Tryz.prog w= .ok (.enter g args) w) (p:Str ->Bool) (A:Option Addr) (n c:Nat) (l:List (Str)) (w:World) (hr:Rd w 1 strE A n l) (hn:n<=1099511627776)
 (hp: ∀ (W:World) (x:Str),Below w.heap.size w W ->x∈l ->Calls Tryz.prog g (#[.string x]++lb) W (rb_ (.bool (p x)) W)):
 Calls Tryz.prog 227 #[.slice A n c,.func (.func g) #[] lb] w (rb_ (.int .i64 (idx p l)) w):=by
 go_enter Tryz.func227,Tryz.ntmps227
 go_wp2
 go_loopw [8] (fun i wr=> ∃ (k:Nat),k<=n/\i= .int .i64 k/\Below w.heap.size w wr/\Hd (∀ y∈l.take k,p y=false)) (fun i _=>n-(intOf i).toNat)
 ·exact⟨0,Nat.zero_le _,rfl,Below.refl _ _,fun y j=>by simp at j⟩
 ·obtain⟨k,hk,rfl,F,z⟩:=hrel;by_cases M:k<n
  ·have aA:(k:Int)<(n:Int):=by omega
   obtain⟨b,o,R,rfl,aB,L,G⟩:=(hr.below F).get M;have P:=G 0 _ rfl;rw [Nat.mul_one,Nat.add_zero] at P;have L:=H_ L;rename_i N;clear N G;have f:=hp wr _ F (List.mem_of_getElem? L.o);clear hp
   cases D:p (R) with
   |true=>
    rw [D] at f;have Q:Hd (idx p l=k):=cn_ L.o z.o D;clear D;go_wp2_with fail;refine f.mono ?_;rintro e w2 ⟨rfl,q⟩
    go_wp2
    go_returns;exact⟨ah_ Q.o.symm,u_ F q⟩
   |false=>
    rw [D] at f
    have J:Hd (∀ y∈l.take (k+1),p y=false):=by
     intro y j;rw [an_ L.o,List.mem_append] at j;rcases j with j|j
     ·exact z.o y j
     ·simp at j;subst j;exact D
    clear D;go_wp2_with fail;refine f.mono ?_;rintro e w2 ⟨rfl,q⟩
    go_wp2
    go_roundw
    ·exact⟨k+1,by omega,by go_num,u_ F q,J⟩
    ·simp [intOf];omega
  ·go_wp2
   go_returns;exact⟨ah_ (by rw [cx_];intro y j;exact z.o y (by rwa [List.take_of_length_le (by rw [hr.len];omega)])),F⟩
theorem nq_ (g:Nat) (lb:Array Value) (eg: ∀ args w,(callFunc g args).run Tryz.prog w= .ok (.enter g args) w) (p:Str ->Bool) (A:Option Addr) (n c:Nat) (l:List (Str)) (w:World) (hr:Rd w 1 strE A n l) (hn:n<=1099511627776)
 (hp: ∀ (W:World) (x:Str),Below w.heap.size w W ->x∈l ->Calls Tryz.prog g (#[.string x]++lb) W (rb_ (.bool (p x)) W)):
 Calls Tryz.prog 163 #[.slice A n c,.func (.func g) #[] lb] w (rb_ (.bool (l.any p)) w):=by
 have h:=H_ (nL_ g lb eg p A n c l w hr hn hp);clear hp hr;go_enter Tryz.func163,Tryz.ntmps163;go_wp2_with fail;refine h.o.mono ?_;rintro e w1 ⟨rfl,y⟩;have j:=H_ y;have z:=H_ (cK_ p l);obtain⟨q,f⟩:=e_ (idx p l);rw [f] at z ⊢;clear y f
 go_wp2
 go_returns;exact⟨am_ z.o,j.o⟩
theorem nI_ (g:Nat) (lb:Array Value) (eg: ∀ args w,(callFunc g args).run Tryz.prog w= .ok (.enter g args) w) (p:Int ->Bool) (A:Option Addr) (n c:Nat) (l:List (Int)) (w:World) (hr:Rd w 1 (numE .i64) A n l) (hn:n<=1099511627776)
 (hp: ∀ (W:World) (x:Int),Below w.heap.size w W ->x∈l ->Calls Tryz.prog g (#[.int .i64 x]++lb) W (rb_ (.bool (p x)) W)):
 Calls Tryz.prog 232 #[.slice A n c,.func (.func g) #[] lb] w (rb_ (.int .i64 (idx p l)) w):=by
 go_enter Tryz.func232,Tryz.ntmps232
 go_wp2
 go_loopw [8] (fun i wr=> ∃ (k:Nat),k<=n/\i= .int .i64 k/\Below w.heap.size w wr/\Hd (∀ y∈l.take k,p y=false)) (fun i _=>n-(intOf i).toNat)
 ·exact⟨0,Nat.zero_le _,rfl,Below.refl _ _,fun y j=>by simp at j⟩
 ·obtain⟨k,hk,rfl,F,z⟩:=hrel;by_cases M:k<n
  ·have aA:(k:Int)<(n:Int):=by omega
   obtain⟨b,o,R,rfl,aB,L,G⟩:=(hr.below F).get M;have P:=G 0 _ rfl;rw [Nat.mul_one,Nat.add_zero] at P;have L:=H_ L;rename_i N;clear N G;have f:=hp wr _ F (List.mem_of_getElem? L.o);clear hp
   cases D:p (R) with
   |true=>
    rw [D] at f;have Q:Hd (idx p l=k):=cn_ L.o z.o D;clear D;go_wp2_with fail;refine f.mono ?_;rintro e w2 ⟨rfl,q⟩
    go_wp2
    go_returns;exact⟨ah_ Q.o.symm,u_ F q⟩
   |false=>
    rw [D] at f
    have J:Hd (∀ y∈l.take (k+1),p y=false):=by
     intro y j;rw [an_ L.o,List.mem_append] at j;rcases j with j|j
     ·exact z.o y j
     ·simp at j;subst j;exact D
    clear D;go_wp2_with fail;refine f.mono ?_;rintro e w2 ⟨rfl,q⟩
    go_wp2
    go_roundw
    ·exact⟨k+1,by omega,by go_num,u_ F q,J⟩
    ·simp [intOf];omega
  ·go_wp2
   go_returns;exact⟨ah_ (by rw [cx_];intro y j;exact z.o y (by rwa [List.take_of_length_le (by rw [hr.len];omega)])),F⟩
theorem nn_ (g:Nat) (lb:Array Value) (eg: ∀ args w,(callFunc g args).run Tryz.prog w= .ok (.enter g args) w) (p:Int ->Bool) (A:Option Addr) (n c:Nat) (l:List (Int)) (w:World) (hr:Rd w 1 (numE .i64) A n l) (hn:n<=1099511627776)
 (hp: ∀ (W:World) (x:Int),Below w.heap.size w W ->x∈l ->Calls Tryz.prog g (#[.int .i64 x]++lb) W (rb_ (.bool (p x)) W)):
 Calls Tryz.prog 167 #[.slice A n c,.func (.func g) #[] lb] w (rb_ (.bool (l.any p)) w):=by
 have h:=H_ (nI_ g lb eg p A n c l w hr hn hp);clear hp hr;go_enter Tryz.func167,Tryz.ntmps167;go_wp2_with fail;refine h.o.mono ?_;rintro e w1 ⟨rfl,y⟩;have j:=H_ y;have z:=H_ (cK_ p l);obtain⟨q,f⟩:=e_ (idx p l);rw [f] at z ⊢;clear y f
 go_wp2
 go_returns;exact⟨am_ z.o,j.o⟩
theorem mh_ (g:Nat) (lb:Array Value) (eg: ∀ args w,(callFunc g args).run Tryz.prog w= .ok (.enter g args) w) (p:REl ->Bool) (A:Option Addr) (n c:Nat) (l:List (REl)) (w:World) (hr:Rd w 4 relE A n l) (hn:n<=1099511627776)
 (hp: ∀ (W:World) (x:REl),Below w.heap.size w W ->x∈l ->Calls Tryz.prog g (#[.agg (relE x).toArray]++lb) W (rb_ (.bool (p x)) W)):
 Calls Tryz.prog 234 #[.slice A n c,.func (.func g) #[] lb] w (rb_ (.int .i64 (idx p l)) w):=by
 go_enter Tryz.func234,Tryz.ntmps234
 go_wp2
 go_loopw [8] (fun i wr=> ∃ (k:Nat),k<=n/\i= .int .i64 k/\Below w.heap.size w wr/\Hd (∀ y∈l.take k,p y=false)) (fun i _=>n-(intOf i).toNat)
 ·exact⟨0,Nat.zero_le _,rfl,Below.refl _ _,fun y q=>by simp at q⟩
 ·obtain⟨k,hk,rfl,G,D⟩:=hrel;by_cases M:k<n
  ·have aA:(k:Int)<(n:Int):=by omega
   obtain⟨b,o,⟨U,⟨X,Y,Z⟩,⟨a,d,r⟩,⟨s,x8,x9⟩⟩,rfl,aB,L,j⟩:=(hr.below G).get M;have P:=j 0 _ rfl;have Q:=j 1 _ rfl;have R:=j 2 _ rfl;have S:=j 3 _ rfl;simp only [Nat.add_zero,SlV.v] at P Q R S;have L:=H_ L;rename_i N;clear N j;have f:=hp wr _ G (List.mem_of_getElem? L.o);simp only [relE,SlV.v,Array.append_eq_append,List.append_toArray,List.cons_append,List.nil_append] at f;clear hp
   cases F:p (⟨U,⟨X,Y,Z⟩,⟨a,d,r⟩,⟨s,x8,x9⟩⟩) with
   |true=>
    rw [F] at f;have T:Hd (idx p l=k):=cn_ L.o D.o F;clear F;go_wp2_with fail;refine f.mono ?_;rintro e w2 ⟨rfl,z⟩
    go_wp2
    go_returns;exact⟨ah_ T.o.symm,u_ G z⟩
   |false=>
    rw [F] at f
    have J:Hd (∀ y∈l.take (k+1),p y=false):=by
     intro y q;rw [an_ L.o,List.mem_append] at q;rcases q with q|q
     ·exact D.o y q
     ·simp at q;subst q;exact F
    clear F;go_wp2_with fail;refine f.mono ?_;rintro e w2 ⟨rfl,z⟩
    go_wp2
    go_roundw
    ·exact⟨k+1,by omega,by go_num,u_ G z,J⟩
    ·simp [intOf];omega
  ·go_wp2
   go_returns;exact⟨ah_ (by rw [cx_];intro y q;exact D.o y (by rwa [List.take_of_length_le (by rw [hr.len];omega)])),G⟩
theorem l4_ (g:Nat) (lb:Array Value) (eg: ∀ args w,(callFunc g args).run Tryz.prog w= .ok (.enter g args) w) (p:REl ->Bool) (A:Option Addr) (n c:Nat) (l:List (REl)) (w:World) (hr:Rd w 4 relE A n l) (hn:n<=1099511627776)
 (hp: ∀ (W:World) (x:REl),Below w.heap.size w W ->x∈l ->Calls Tryz.prog g (#[.agg (relE x).toArray]++lb) W (rb_ (.bool (p x)) W)):
 Calls Tryz.prog 170 #[.slice A n c,.func (.func g) #[] lb] w (rb_ (.bool (l.any p)) w):=by
 have h:=H_ (mh_ g lb eg p A n c l w hr hn hp);clear hp hr;go_enter Tryz.func170,Tryz.ntmps170;go_wp2_with fail;refine h.o.mono ?_;rintro e w1 ⟨rfl,y⟩;have j:=H_ y;have z:=H_ (cK_ p l);obtain⟨q,f⟩:=e_ (idx p l);rw [f] at z ⊢;clear y f
 go_wp2
 go_returns;exact⟨am_ z.o,j.o⟩
theorem RouT.base {b0 b1:Nat} {w:World} {e:RE3} {r:ba_} (h:RouT b1 w e r) (hb:b0<=b1):RouT b0 w e r:=⟨aB_ h.s0 hb,aB_ h.s1 hb,aB_ h.s2 hb⟩
theorem lP_ (g:Nat) (lb:Array Value) (eg: ∀ args w,(callFunc g args).run Tryz.prog w= .ok (.enter g args) w) (f:bi_ ->Str) (A:Option Addr) (n c:Nat) (l:List (bi_)) (w:World) (hr:Rd w 4 aR_ A n l) (hn:n<=1000000)
 (hp: ∀ (W:World) (x:bi_),Below w.heap.size w W ->x∈l ->Calls Tryz.prog g (#[.agg (aR_ x).toArray]++lb) W (rb_ (.string (f x)) W)):
 Calls Tryz.prog 172 #[.slice A n c,.func (.func g) #[] lb] w fun e w'=> ∃ v,e= .returned v/\w'.ownsRow w.heap.size 9 1 v n ((l.map f).flatMap strE)/\Below w.heap.size w w':=by
 go_enter Tryz.func172,Tryz.ntmps172
 go_wp2
 go_loopw [9,4] (fun iv vv wr=> ∃ (i:Nat),i<=n/\iv= .int .i64 i/\Hd (wr.ownsRow w.heap.size 9 1 vv i (((l.take i).map f).flatMap strE))/\Hd (Below w.heap.size w wr)) (fun iv _ _=>n-(intOf iv).toNat)
 ·exact⟨0,Nat.zero_le _,rfl,World.ownsRow_nil _ _ _ _,Below.refl _ _⟩
 ·obtain⟨k,hk,rfl,own,M⟩:=hrel;by_cases s:k<n
  ·have aB:(k:Int)<(n:Int):=by omega
   obtain⟨b,o,⟨S,T,U,X⟩,rfl,aC,Z,z⟩:=(hr.below M.o).get s;have g0:=z 0 _ rfl;have g1:=z 1 _ rfl;have g2:=z 2 _ rfl;have g3:=z 3 _ rfl;simp only [Nat.add_zero] at g0;have Z:=H_ Z;rename_i aA;clear aA z;have p:=ag_ wr (aR_ (⟨S,T,U,X⟩:bi_)).toArray 171;have Y:=Bx.new wr 171 (aR_ (⟨S,T,U,X⟩:bi_));simp only [aR_] at p Y;obtain⟨wa,R⟩:=e_ (wr.alloc (.cells (aR_ (⟨S,T,U,X⟩:bi_)).toArray 171));simp only [aR_] at R;rw [R] at p Y;obtain⟨q0,q1,q2,q3⟩:=c_4 Y;have N:=b_ M p;have G:=aa_ own.o p;clear own Y;have j:=hp wa _ N (List.mem_of_getElem? Z.o);have L:(l.take (k+1)).map f=(l.take k).map f++[f (⟨S,T,U,X⟩)]:=by rw [an_ Z.o,List.map_append];rfl
   have F:((l.take k).map f).length =k:=by rw [List.length_map,List.length_take,hr.len];omega
   obtain⟨y,hy⟩:=e_ (f (⟨S,T,U,X⟩));rw [hy] at j L;simp only [aR_,Array.append_eq_append,List.append_toArray,List.cons_append,List.nil_append] at j;go_wp2_with fail;refine j.mono ?_;rintro e w2 ⟨rfl,J⟩;have P:=u_ p J;have q:=b_ M P;obtain⟨W1,W2,va,vb,k1,k2,lA,_,D,a,gA,cA,d⟩:=dt_ (enc:=strE) Tryz.underlying22 ax_ rfl (by decide) ad_ aH_ (by decide) y (aa_ G J) F (by omega) q.size;rw [<-L] at a;have a:=H_ a;have r:=H_ (q.trans lA);subst k1 k2 d;have D:(Builtin.append_ #[22,22] 22 #[u4,.slice (some ⟨w2.heap.size,0,none⟩) 1 1]).run Tryz.prog (w2.alloc (.cells #[.string y] 9))= .ok (.slice (some ⟨gA,0,none⟩) (k+1) cA) W2:=D;rename_i kX;clear kX q P J G N L F hy lA M;go_wp2_with (at_builtin;refine ap_ (.tmp 13) (.tmp 17) 22 D ?_);go_roundw
   ·exact⟨k+1,by omega,by go_num,a,r⟩
   ·simp [intOf];omega
  ·obtain rfl:n=k:=by omega
   have Q:Hd (wr.ownsRow w.heap.size 9 1 u4 n ((l.map f).flatMap strE)):=by have:=own.o;rwa [List.take_of_length_le (by rw [hr.len];omega)] at this
   clear own
   go_wp2
   go_returns;exact⟨_,rfl,Q.o,M.o⟩
theorem lL_ (g:Nat) (lb:Array Value) (eg: ∀ args w,(callFunc g args).run Tryz.prog w= .ok (.enter g args) w) (f:bh_ ->Str) (A:Option Addr) (n c:Nat) (l:List (bh_)) (w:World) (hr:Rd w 7 aQ_ A n l) (hn:n<=1000000)
 (hp: ∀ (W:World) (x:bh_),Below w.heap.size w W ->x∈l ->Calls Tryz.prog g (#[.agg (aQ_ x).toArray]++lb) W (rb_ (.string (f x)) W)):
 Calls Tryz.prog 174 #[.slice A n c,.func (.func g) #[] lb] w fun e w'=> ∃ v,e= .returned v/\w'.ownsRow w.heap.size 9 1 v n ((l.map f).flatMap strE)/\Below w.heap.size w w':=by
 go_enter Tryz.func174,Tryz.ntmps174
 go_wp2
 go_loopw [9,4] (fun iv vv wr=> ∃ (i:Nat),i<=n/\iv= .int .i64 i/\Hd (wr.ownsRow w.heap.size 9 1 vv i (((l.take i).map f).flatMap strE))/\Hd (Below w.heap.size w wr)) (fun iv _ _=>n-(intOf iv).toNat)
 ·exact⟨0,Nat.zero_le _,rfl,World.ownsRow_nil _ _ _ _,Below.refl _ _⟩
 ·obtain⟨k,hk,rfl,own,M⟩:=hrel;by_cases aC:k<n
  ·have aE:(k:Int)<(n:Int):=by omega
   obtain⟨b,o,⟨S,T,U,X,Y,Z,a⟩,rfl,aF,r,j⟩:=(hr.below M.o).get aC;have g0:=j 0 _ rfl;have g1:=j 1 _ rfl;have g2:=j 2 _ rfl;have g3:=j 3 _ rfl;have g4:=j 4 _ rfl;have g5:=j 5 _ rfl;have g6:=j 6 _ rfl;simp only [Nat.add_zero] at g0;have r:=H_ r;rename_i aD;clear aD j;have q:=ag_ wr (aQ_ (⟨S,T,U,X,Y,Z,a⟩:bh_)).toArray 173;have d:=Bx.new wr 173 (aQ_ (⟨S,T,U,X,Y,Z,a⟩:bh_));simp only [aQ_] at q d;obtain⟨wa,R⟩:=e_ (wr.alloc (.cells (aQ_ (⟨S,T,U,X,Y,Z,a⟩:bh_)).toArray 173));simp only [aQ_] at R;rw [R] at q d;obtain⟨q0,q1,q2,q3,q4,q5,q6⟩:=c_7 d;have N:=b_ M q;have G:=aa_ own.o q;clear own d;have p:=hp wa _ N (List.mem_of_getElem? r.o);have L:(l.take (k+1)).map f=(l.take k).map f++[f (⟨S,T,U,X,Y,Z,a⟩)]:=by rw [an_ r.o,List.map_append];rfl
   have F:((l.take k).map f).length =k:=by rw [List.length_map,List.length_take,hr.len];omega
   obtain⟨y,hy⟩:=e_ (f (⟨S,T,U,X,Y,Z,a⟩));rw [hy] at p L;simp only [aQ_,Array.append_eq_append,List.append_toArray,List.cons_append,List.nil_append] at p;go_wp2_with fail;refine p.mono ?_;rintro e w2 ⟨rfl,J⟩;have P:=u_ q J;have z:=b_ M P;obtain⟨W1,W2,va,vb,k1,k2,lA,_,D,s,gA,cA,aA⟩:=dt_ (enc:=strE) Tryz.underlying22 ax_ rfl (by decide) ad_ aH_ (by decide) y (aa_ G J) F (by omega) z.size;rw [<-L] at s;have s:=H_ s;have aB:=H_ (z.trans lA);subst k1 k2 aA;have D:(Builtin.append_ #[22,22] 22 #[u4,.slice (some ⟨w2.heap.size,0,none⟩) 1 1]).run Tryz.prog (w2.alloc (.cells #[.string y] 9))= .ok (.slice (some ⟨gA,0,none⟩) (k+1) cA) W2:=D;rename_i kX;clear kX z P J G N L F hy lA M;go_wp2_with (at_builtin;refine ap_ (.tmp 13) (.tmp 17) 22 D ?_);go_roundw
   ·exact⟨k+1,by omega,by go_num,s,aB⟩
   ·simp [intOf];omega
  ·obtain rfl:n=k:=by omega
   have Q:Hd (wr.ownsRow w.heap.size 9 1 u4 n ((l.map f).flatMap strE)):=by have:=own.o;rwa [List.take_of_length_le (by rw [hr.len];omega)] at this
   clear own
   go_wp2
   go_returns;exact⟨_,rfl,Q.o,M.o⟩
theorem lQ_ (g:Nat) (lb:Array Value) (eg: ∀ args w,(callFunc g args).run Tryz.prog w= .ok (.enter g args) w) (f:REl ->Str) (A:Option Addr) (n c:Nat) (l:List (REl)) (w:World) (hr:Rd w 4 relE A n l) (hn:n<=1000000)
 (hp: ∀ (W:World) (x:REl),Below w.heap.size w W ->x∈l ->Calls Tryz.prog g (#[.agg (relE x).toArray]++lb) W (rb_ (.string (f x)) W)):
 Calls Tryz.prog 176 #[.slice A n c,.func (.func g) #[] lb] w fun e w'=> ∃ v,e= .returned v/\w'.ownsRow w.heap.size 9 1 v n ((l.map f).flatMap strE)/\Below w.heap.size w w':=by
 go_enter Tryz.func176,Tryz.ntmps176
 go_wp2
 go_loopw [9,4] (fun iv vv wr=> ∃ (i:Nat),i<=n/\iv= .int .i64 i/\Hd (wr.ownsRow w.heap.size 9 1 vv i (((l.take i).map f).flatMap strE))/\Hd (Below w.heap.size w wr)) (fun iv _ _=>n-(intOf iv).toNat)
 ·exact⟨0,Nat.zero_le _,rfl,World.ownsRow_nil _ _ _ _,Below.refl _ _⟩
 ·obtain⟨k,hk,rfl,own,M⟩:=hrel;by_cases aC:k<n
  ·have aE:(k:Int)<(n:Int):=by omega
   obtain⟨b,o,⟨S,⟨T,U,X⟩,⟨Y,Z,a⟩,⟨d,r,s⟩⟩,rfl,aF,hx,z⟩:=(hr.below M.o).get aC;have g0:=z 0 _ rfl;have g1:=z 1 _ rfl;have g2:=z 2 _ rfl;have g3:=z 3 _ rfl;simp only [Nat.add_zero,SlV.v] at g0 g1 g2 g3;have hx:=H_ hx;rename_i aD;clear aD z;have p:=ag_ wr (relE (⟨S,⟨T,U,X⟩,⟨Y,Z,a⟩,⟨d,r,s⟩⟩:REl)).toArray 177;have Ba:=Bx.new wr 177 (relE (⟨S,⟨T,U,X⟩,⟨Y,Z,a⟩,⟨d,r,s⟩⟩:REl));simp only [relE,SlV.v] at p Ba;obtain⟨wa,R⟩:=e_ (wr.alloc (.cells (relE (⟨S,⟨T,U,X⟩,⟨Y,Z,a⟩,⟨d,r,s⟩⟩:REl)).toArray 177));simp only [relE,SlV.v] at R;rw [R] at p Ba;obtain⟨q0,q1,q2,q3⟩:=c_4 Ba;have N:=b_ M p;have G:=aa_ own.o p;clear own Ba;have j:=hp wa _ N (List.mem_of_getElem? hx.o);have L:(l.take (k+1)).map f=(l.take k).map f++[f (⟨S,⟨T,U,X⟩,⟨Y,Z,a⟩,⟨d,r,s⟩⟩)]:=by rw [an_ hx.o,List.map_append];rfl
   have F:((l.take k).map f).length =k:=by rw [List.length_map,List.length_take,hr.len];omega
   obtain⟨y,hy⟩:=e_ (f (⟨S,⟨T,U,X⟩,⟨Y,Z,a⟩,⟨d,r,s⟩⟩));rw [hy] at j L;simp only [relE,SlV.v,Array.append_eq_append,List.append_toArray,List.cons_append,List.nil_append] at j;go_wp2_with fail;refine j.mono ?_;rintro e w2 ⟨rfl,J⟩;have P:=u_ p J;have q:=b_ M P;obtain⟨W1,W2,va,vb,k1,k2,lA,_,D,oA,gA,cA,aA⟩:=dt_ (enc:=strE) Tryz.underlying22 ax_ rfl (by decide) ad_ aH_ (by decide) y (aa_ G J) F (by omega) q.size;rw [<-L] at oA;have oA:=H_ oA;have aB:=H_ (q.trans lA);subst k1 k2 aA;have D:(Builtin.append_ #[22,22] 22 #[u4,.slice (some ⟨w2.heap.size,0,none⟩) 1 1]).run Tryz.prog (w2.alloc (.cells #[.string y] 9))= .ok (.slice (some ⟨gA,0,none⟩) (k+1) cA) W2:=D;rename_i kX;clear kX q P J G N L F hy lA M;go_wp2_with (at_builtin;refine ap_ (.tmp 13) (.tmp 17) 22 D ?_);go_roundw
   ·exact⟨k+1,by omega,by go_num,oA,aB⟩
   ·simp [intOf];omega
  ·obtain rfl:n=k:=by omega
   have Q:Hd (wr.ownsRow w.heap.size 9 1 u4 n ((l.map f).flatMap strE)):=by have:=own.o;rwa [List.take_of_length_le (by rw [hr.len];omega)] at this
   clear own
   go_wp2
   go_returns;exact⟨_,rfl,Q.o,M.o⟩
theorem lS_ (g:Nat) (lb:Array Value) (eg: ∀ args w,(callFunc g args).run Tryz.prog w= .ok (.enter g args) w) (f:bj_ ->Str) (A:Option Addr) (n c:Nat) (l:List (bj_)) (w:World) (hr:Rd w 5 aS_ A n l) (hn:n<=1000000)
 (hp: ∀ (W:World) (x:bj_),Below w.heap.size w W ->x∈l ->Calls Tryz.prog g (#[.agg (aS_ x).toArray]++lb) W (rb_ (.string (f x)) W)):
 Calls Tryz.prog 178 #[.slice A n c,.func (.func g) #[] lb] w fun e w'=> ∃ v,e= .returned v/\w'.ownsRow w.heap.size 9 1 v n ((l.map f).flatMap strE)/\Below w.heap.size w w':=by
 go_enter Tryz.func178,Tryz.ntmps178
 go_wp2
 go_loopw [9,4] (fun iv vv wr=> ∃ (i:Nat),i<=n/\iv= .int .i64 i/\Hd (wr.ownsRow w.heap.size 9 1 vv i (((l.take i).map f).flatMap strE))/\Hd (Below w.heap.size w wr)) (fun iv _ _=>n-(intOf iv).toNat)
 ·exact⟨0,Nat.zero_le _,rfl,World.ownsRow_nil _ _ _ _,Below.refl _ _⟩
 ·obtain⟨k,hk,rfl,own,M⟩:=hrel;by_cases aA:k<n
  ·have aC:(k:Int)<(n:Int):=by omega
   obtain⟨b,o,⟨S,T,U,X,Y⟩,rfl,aD,a,p⟩:=(hr.below M.o).get aA;have g0:=p 0 _ rfl;have g1:=p 1 _ rfl;have g2:=p 2 _ rfl;have g3:=p 3 _ rfl;have g4:=p 4 _ rfl;simp only [Nat.add_zero] at g0;have a:=H_ a;rename_i aB;clear aB p;have q:=ag_ wr (aS_ (⟨S,T,U,X,Y⟩:bj_)).toArray 179;have Z:=Bx.new wr 179 (aS_ (⟨S,T,U,X,Y⟩:bj_));simp only [aS_] at q Z;obtain⟨wa,R⟩:=e_ (wr.alloc (.cells (aS_ (⟨S,T,U,X,Y⟩:bj_)).toArray 179));simp only [aS_] at R;rw [R] at q Z;obtain⟨q0,q1,q2,q3,q4⟩:=c_5 Z;have N:=b_ M q;have G:=aa_ own.o q;clear own Z;have j:=hp wa _ N (List.mem_of_getElem? a.o);have L:(l.take (k+1)).map f=(l.take k).map f++[f (⟨S,T,U,X,Y⟩)]:=by rw [an_ a.o,List.map_append];rfl
   have F:((l.take k).map f).length =k:=by rw [List.length_map,List.length_take,hr.len];omega
   obtain⟨y,hy⟩:=e_ (f (⟨S,T,U,X,Y⟩));rw [hy] at j L;simp only [aS_,Array.append_eq_append,List.append_toArray,List.cons_append,List.nil_append] at j;go_wp2_with fail;refine j.mono ?_;rintro e w2 ⟨rfl,J⟩;have P:=u_ q J;have z:=b_ M P;obtain⟨W1,W2,va,vb,k1,k2,lA,_,D,d,gA,cA,r⟩:=dt_ (enc:=strE) Tryz.underlying22 ax_ rfl (by decide) ad_ aH_ (by decide) y (aa_ G J) F (by omega) z.size;rw [<-L] at d;have d:=H_ d;have s:=H_ (z.trans lA);subst k1 k2 r;have D:(Builtin.append_ #[22,22] 22 #[u4,.slice (some ⟨w2.heap.size,0,none⟩) 1 1]).run Tryz.prog (w2.alloc (.cells #[.string y] 9))= .ok (.slice (some ⟨gA,0,none⟩) (k+1) cA) W2:=D;rename_i kX;clear kX z P J G N L F hy lA M;go_wp2_with (at_builtin;refine ap_ (.tmp 13) (.tmp 17) 22 D ?_);go_roundw
   ·exact⟨k+1,by omega,by go_num,d,s⟩
   ·simp [intOf];omega
  ·obtain rfl:n=k:=by omega
   have Q:Hd (wr.ownsRow w.heap.size 9 1 u4 n ((l.map f).flatMap strE)):=by have:=own.o;rwa [List.take_of_length_le (by rw [hr.len];omega)] at this
   clear own
   go_wp2
   go_returns;exact⟨_,rfl,Q.o,M.o⟩
theorem lM_ (g:Nat) (lb:Array Value) (eg: ∀ args w,(callFunc g args).run Tryz.prog w= .ok (.enter g args) w) (f:bs_ ->Str) (A:Option Addr) (n c:Nat) (l:List (bs_)) (w:World) (hr:Rd w 5 a2_ A n l) (hn:n<=1000000)
 (hp: ∀ (W:World) (x:bs_),Below w.heap.size w W ->x∈l ->Calls Tryz.prog g (#[.agg (a2_ x).toArray]++lb) W (rb_ (.string (f x)) W)):
 Calls Tryz.prog 180 #[.slice A n c,.func (.func g) #[] lb] w fun e w'=> ∃ v,e= .returned v/\w'.ownsRow w.heap.size 9 1 v n ((l.map f).flatMap strE)/\Below w.heap.size w w':=by
 go_enter Tryz.func180,Tryz.ntmps180
 go_wp2
 go_loopw [9,4] (fun iv vv wr=> ∃ (i:Nat),i<=n/\iv= .int .i64 i/\Hd (wr.ownsRow w.heap.size 9 1 vv i (((l.take i).map f).flatMap strE))/\Hd (Below w.heap.size w wr)) (fun iv _ _=>n-(intOf iv).toNat)
 ·exact⟨0,Nat.zero_le _,rfl,World.ownsRow_nil _ _ _ _,Below.refl _ _⟩
 ·obtain⟨k,hk,rfl,own,M⟩:=hrel;by_cases aA:k<n
  ·have aC:(k:Int)<(n:Int):=by omega
   obtain⟨b,o,⟨S,T,U,X,Y⟩,rfl,aD,a,p⟩:=(hr.below M.o).get aA;have g0:=p 0 _ rfl;have g1:=p 1 _ rfl;have g2:=p 2 _ rfl;have g3:=p 3 _ rfl;have g4:=p 4 _ rfl;simp only [Nat.add_zero] at g0;have a:=H_ a;rename_i aB;clear aB p;have q:=ag_ wr (a2_ (⟨S,T,U,X,Y⟩:bs_)).toArray 181;have Z:=Bx.new wr 181 (a2_ (⟨S,T,U,X,Y⟩:bs_));simp only [a2_] at q Z;obtain⟨wa,R⟩:=e_ (wr.alloc (.cells (a2_ (⟨S,T,U,X,Y⟩:bs_)).toArray 181));simp only [a2_] at R;rw [R] at q Z;obtain⟨q0,q1,q2,q3,q4⟩:=c_5 Z;have N:=b_ M q;have G:=aa_ own.o q;clear own Z;have j:=hp wa _ N (List.mem_of_getElem? a.o);have L:(l.take (k+1)).map f=(l.take k).map f++[f (⟨S,T,U,X,Y⟩)]:=by rw [an_ a.o,List.map_append];rfl
   have F:((l.take k).map f).length =k:=by rw [List.length_map,List.length_take,hr.len];omega
   obtain⟨y,hy⟩:=e_ (f (⟨S,T,U,X,Y⟩));rw [hy] at j L;simp only [a2_,Array.append_eq_append,List.append_toArray,List.cons_append,List.nil_append] at j;go_wp2_with fail;refine j.mono ?_;rintro e w2 ⟨rfl,J⟩;have P:=u_ q J;have z:=b_ M P;obtain⟨W1,W2,va,vb,k1,k2,lA,_,D,d,gA,cA,r⟩:=dt_ (enc:=strE) Tryz.underlying22 ax_ rfl (by decide) ad_ aH_ (by decide) y (aa_ G J) F (by omega) z.size;rw [<-L] at d;have d:=H_ d;have s:=H_ (z.trans lA);subst k1 k2 r;have D:(Builtin.append_ #[22,22] 22 #[u4,.slice (some ⟨w2.heap.size,0,none⟩) 1 1]).run Tryz.prog (w2.alloc (.cells #[.string y] 9))= .ok (.slice (some ⟨gA,0,none⟩) (k+1) cA) W2:=D;rename_i kX;clear kX z P J G N L F hy lA M;go_wp2_with (at_builtin;refine ap_ (.tmp 13) (.tmp 17) 22 D ?_);go_roundw
   ·exact⟨k+1,by omega,by go_num,d,s⟩
   ·simp [intOf];omega
  ·obtain rfl:n=k:=by omega
   have Q:Hd (wr.ownsRow w.heap.size 9 1 u4 n ((l.map f).flatMap strE)):=by have:=own.o;rwa [List.take_of_length_le (by rw [hr.len];omega)] at this
   clear own
   go_wp2
   go_returns;exact⟨_,rfl,Q.o,M.o⟩
theorem nf_ (g:Nat) (lb:Array Value) (eg: ∀ args w,(callFunc g args).run Tryz.prog w= .ok (.enter g args) w) (f:bi_ ->Int×Int×Int) (A:Option Addr) (n c:Nat) (l:List (bi_)) (w:World) (hr:Rd w 4 aR_ A n l) (hn:n<=1000000)
 (hp: ∀ (W:World) (x:bi_),Below w.heap.size w W ->x∈l ->Calls Tryz.prog g (#[.agg (aR_ x).toArray]++lb) W (rb_ (.agg (az_ (f x)).toArray) W)):
 Calls Tryz.prog 184 #[.slice A n c,.func (.func g) #[] lb] w fun e w'=> ∃ v,e= .returned v/\w'.ownsRow w.heap.size 99 3 v n ((l.map f).flatMap az_)/\Below w.heap.size w w':=by
 go_enter Tryz.func184,Tryz.ntmps184
 go_wp2
 go_loopw [9,4] (fun iv vv wr=> ∃ (i:Nat),i<=n/\iv= .int .i64 i/\Hd (wr.ownsRow w.heap.size 99 3 vv i (((l.take i).map f).flatMap az_))/\Hd (Below w.heap.size w wr)) (fun iv _ _=>n-(intOf iv).toNat)
 ·exact⟨0,Nat.zero_le _,rfl,World.ownsRow_nil _ _ _ _,Below.refl _ _⟩
 ·obtain⟨k,hk,rfl,own,M⟩:=hrel;by_cases s:k<n
  ·have aB:(k:Int)<(n:Int):=by omega
   obtain⟨b,o,⟨S,T,U,X⟩,rfl,aC,Z,z⟩:=(hr.below M.o).get s;have g0:=z 0 _ rfl;have g1:=z 1 _ rfl;have g2:=z 2 _ rfl;have g3:=z 3 _ rfl;simp only [Nat.add_zero] at g0;have Z:=H_ Z;rename_i aA;clear aA z;have p:=ag_ wr (aR_ (⟨S,T,U,X⟩:bi_)).toArray 171;have Y:=Bx.new wr 171 (aR_ (⟨S,T,U,X⟩:bi_));simp only [aR_] at p Y;obtain⟨wa,R⟩:=e_ (wr.alloc (.cells (aR_ (⟨S,T,U,X⟩:bi_)).toArray 171));simp only [aR_] at R;rw [R] at p Y;obtain⟨q0,q1,q2,q3⟩:=c_4 Y;have N:=b_ M p;have G:=aa_ own.o p;clear own Y;have j:=hp wa _ N (List.mem_of_getElem? Z.o);have L:(l.take (k+1)).map f=(l.take k).map f++[f (⟨S,T,U,X⟩)]:=by rw [an_ Z.o,List.map_append];rfl
   have F:((l.take k).map f).length =k:=by rw [List.length_map,List.length_take,hr.len];omega
   obtain⟨y,hy⟩:=e_ (f (⟨S,T,U,X⟩));rw [hy] at j L;obtain⟨y1,y2,y3⟩:=y;simp only [aR_,az_,Array.append_eq_append,List.append_toArray,List.cons_append,List.nil_append] at j;go_wp2_with fail;refine j.mono ?_;rintro e w2 ⟨rfl,J⟩;have P:=u_ p J;have q:=b_ M P;obtain⟨W1,W2,va,vb,k1,k2,lA,_,D,a,gA,cA,d⟩:=dt_ (enc:=az_) Tryz.underlying25 fb_ rfl (by decide) b9_ eI_ (by decide) (⟨y1,y2,y3⟩:Int×Int×Int) (aa_ G J) F (by omega) q.size;rw [<-L] at a;have a:=H_ a;have r:=H_ (q.trans lA);subst k1 k2 d;have D:(Builtin.append_ #[25,25] 25 #[u4,.slice (some ⟨w2.heap.size,0,none⟩) 1 1]).run Tryz.prog (w2.alloc (.cells #[.int .i64 y1,.int .i64 y2,.int .i64 y3] 99))= .ok (.slice (some ⟨gA,0,none⟩) (k+1) cA) W2:=D;rename_i kX;clear kX q P J G N L F hy lA M;go_wp2_with (at_builtin;refine ap_ (.tmp 13) (.tmp 17) 25 D ?_);go_roundw
   ·exact⟨k+1,by omega,by go_num,a,r⟩
   ·simp [intOf];omega
  ·obtain rfl:n=k:=by omega
   have Q:Hd (wr.ownsRow w.heap.size 99 3 u4 n ((l.map f).flatMap az_)):=by have:=own.o;rwa [List.take_of_length_le (by rw [hr.len];omega)] at this
   clear own
   go_wp2
   go_returns;exact⟨_,rfl,Q.o,M.o⟩
theorem nd_ (g:Nat) (lb:Array Value) (eg: ∀ args w,(callFunc g args).run Tryz.prog w= .ok (.enter g args) w) (f:bh_ ->cc_) (A:Option Addr) (n c:Nat) (l:List (bh_)) (w:World) (hr:Rd w 7 aQ_ A n l) (hn:n<=1000000)
 (hp: ∀ (W:World) (x:bh_),Below w.heap.size w W ->x∈l ->Calls Tryz.prog g (#[.agg (aQ_ x).toArray]++lb) W (rb_ (.agg (aJ_ (f x)).toArray) W)):
 Calls Tryz.prog 186 #[.slice A n c,.func (.func g) #[] lb] w fun e w'=> ∃ v,e= .returned v/\w'.ownsRow w.heap.size 104 6 v n ((l.map f).flatMap aJ_)/\Below w.heap.size w w':=by
 go_enter Tryz.func186,Tryz.ntmps186
 go_wp2
 go_loopw [9,4] (fun iv vv wr=> ∃ (i:Nat),i<=n/\iv= .int .i64 i/\Hd (wr.ownsRow w.heap.size 104 6 vv i (((l.take i).map f).flatMap aJ_))/\Hd (Below w.heap.size w wr)) (fun iv _ _=>n-(intOf iv).toNat)
 ·exact⟨0,Nat.zero_le _,rfl,World.ownsRow_nil _ _ _ _,Below.refl _ _⟩
 ·obtain⟨k,hk,rfl,own,M⟩:=hrel;by_cases aC:k<n
  ·have aE:(k:Int)<(n:Int):=by omega
   obtain⟨b,o,⟨S,T,U,X,Y,Z,a⟩,rfl,aF,r,j⟩:=(hr.below M.o).get aC;have g0:=j 0 _ rfl;have g1:=j 1 _ rfl;have g2:=j 2 _ rfl;have g3:=j 3 _ rfl;have g4:=j 4 _ rfl;have g5:=j 5 _ rfl;have g6:=j 6 _ rfl;simp only [Nat.add_zero] at g0;have r:=H_ r;rename_i aD;clear aD j;have q:=ag_ wr (aQ_ (⟨S,T,U,X,Y,Z,a⟩:bh_)).toArray 173;have d:=Bx.new wr 173 (aQ_ (⟨S,T,U,X,Y,Z,a⟩:bh_));simp only [aQ_] at q d;obtain⟨wa,R⟩:=e_ (wr.alloc (.cells (aQ_ (⟨S,T,U,X,Y,Z,a⟩:bh_)).toArray 173));simp only [aQ_] at R;rw [R] at q d;obtain⟨q0,q1,q2,q3,q4,q5,q6⟩:=c_7 d;have N:=b_ M q;have G:=aa_ own.o q;clear own d;have p:=hp wa _ N (List.mem_of_getElem? r.o);have L:(l.take (k+1)).map f=(l.take k).map f++[f (⟨S,T,U,X,Y,Z,a⟩)]:=by rw [an_ r.o,List.map_append];rfl
   have F:((l.take k).map f).length =k:=by rw [List.length_map,List.length_take,hr.len];omega
   obtain⟨y,hy⟩:=e_ (f (⟨S,T,U,X,Y,Z,a⟩));rw [hy] at p L;obtain⟨y1,y2,y3,y4,y5,y6⟩:=y;simp only [aQ_,aJ_,Array.append_eq_append,List.append_toArray,List.cons_append,List.nil_append] at p;go_wp2_with fail;refine p.mono ?_;rintro e w2 ⟨rfl,J⟩;have P:=u_ q J;have z:=b_ M P;obtain⟨W1,W2,va,vb,k1,k2,lA,_,D,s,gA,cA,aA⟩:=dt_ (enc:=aJ_) Tryz.underlying26 fa_ rfl (by decide) bL_ fD_ (by decide) (⟨y1,y2,y3,y4,y5,y6⟩:cc_) (aa_ G J) F (by omega) z.size;rw [<-L] at s;have s:=H_ s;have aB:=H_ (z.trans lA);subst k1 k2 aA;have D:(Builtin.append_ #[26,26] 26 #[u4,.slice (some ⟨w2.heap.size,0,none⟩) 1 1]).run Tryz.prog (w2.alloc (.cells #[.int .i64 y1,.int .i64 y2,.int .i64 y3,.int .i64 y4,.int .i64 y5,.int .i64 y6] 104))= .ok (.slice (some ⟨gA,0,none⟩) (k+1) cA) W2:=D;rename_i kX;clear kX z P J G N L F hy lA M;go_wp2_with (at_builtin;refine ap_ (.tmp 13) (.tmp 17) 26 D ?_);go_roundw
   ·exact⟨k+1,by omega,by go_num,s,aB⟩
   ·simp [intOf];omega
  ·obtain rfl:n=k:=by omega
   have Q:Hd (wr.ownsRow w.heap.size 104 6 u4 n ((l.map f).flatMap aJ_)):=by have:=own.o;rwa [List.take_of_length_le (by rw [hr.len];omega)] at this
   clear own
   go_wp2
   go_returns;exact⟨_,rfl,Q.o,M.o⟩
theorem lR_ (g:Nat) (lb:Array Value) (eg: ∀ args w,(callFunc g args).run Tryz.prog w= .ok (.enter g args) w) (f:Str ->Int) (A:Option Addr) (n c:Nat) (l:List (Str)) (w:World) (hr:Rd w 1 strE A n l) (hn:n<=1000000)
 (hp: ∀ (W:World) (x:Str),Below w.heap.size w W ->x∈l ->Calls Tryz.prog g (#[.string x]++lb) W (rb_ (.int .i64 (f x)) W)):
 Calls Tryz.prog 190 #[.slice A n c,.func (.func g) #[] lb] w fun e w'=> ∃ v,e= .returned v/\w'.ownsRow w.heap.size 3 1 v n ((l.map f).flatMap (numE .i64))/\Below w.heap.size w w':=by
 go_enter Tryz.func190,Tryz.ntmps190
 go_wp2
 go_loopw [9,4] (fun X vv wr=> ∃ (i:Nat),i<=n/\X= .int .i64 i/\Hd (wr.ownsRow w.heap.size 3 1 vv i (((l.take i).map f).flatMap (numE .i64)))/\Hd (Below w.heap.size w wr)) (fun X _ _=>n-(intOf X).toNat)
 ·exact⟨0,Nat.zero_le _,rfl,World.ownsRow_nil _ _ _ _,Below.refl _ _⟩
 ·obtain⟨k,hk,rfl,own,J⟩:=hrel;by_cases T:k<n
  ·have aA:(k:Int)<(n:Int):=by omega
   obtain⟨b,o,a,rfl,aB,P,M⟩:=(hr.below J.o).get T;have s:=M 0 _ rfl;rw [Nat.mul_one,Nat.add_zero] at s;have P:=H_ P;rename_i U;clear U M;have L:=J.o;have D:=own.o;clear own;have p:=hp wr _ L (List.mem_of_getElem? P.o);have G:(l.take (k+1)).map f=(l.take k).map f++[f (a)]:=by rw [an_ P.o,List.map_append];rfl
   have z:((l.take k).map f).length =k:=by rw [List.length_map,List.length_take,hr.len];omega
   obtain⟨y,Y⟩:=e_ (f (a));rw [Y] at p G;go_wp2_with fail;refine p.mono ?_;rintro e w2 ⟨rfl,F⟩;have j:=b_ J F;obtain⟨W1,d,va,vb,k1,k2,Z,_,q,Q,gA,r,R⟩:=dt_ (enc:=(numE .i64)) Tryz.underlying49 eb_ rfl (by decide) aj_ bw_ (by decide) y (aa_ D F) z (by omega) j.size;rw [<-G] at Q;have Q:=H_ Q;have S:=H_ (j.trans Z);subst k1 k2 R;have q:(Builtin.append_ #[49,49] 49 #[u4,.slice (some ⟨w2.heap.size,0,none⟩) 1 1]).run Tryz.prog (w2.alloc (.cells #[.int .i64 y] 3))= .ok (.slice (some ⟨gA,0,none⟩) (k+1) r) d:=q;rename_i kX;clear kX j F D L G z Y Z J;go_wp2_with (at_builtin;refine ap_ (.tmp 13) (.tmp 17) 49 q ?_);go_roundw
   ·exact⟨k+1,by omega,by go_num,Q,S⟩
   ·simp [intOf];omega
  ·obtain rfl:n=k:=by omega
   have N:Hd (wr.ownsRow w.heap.size 3 1 u4 n ((l.map f).flatMap (numE .i64))):=by have:=own.o;rwa [List.take_of_length_le (by rw [hr.len];omega)] at this
   clear own
   go_wp2
   go_returns;exact⟨_,rfl,N.o,J.o⟩
theorem nh_ (g:Nat) (lb:Array Value) (eg: ∀ args w,(callFunc g args).run Tryz.prog w= .ok (.enter g args) w) (f:bj_ ->bM_) (A:Option Addr) (n c:Nat) (l:List (bj_)) (w:World) (hr:Rd w 5 aS_ A n l) (hn:n<=1000000)
 (hp: ∀ (W:World) (x:bj_),Below w.heap.size w W ->x∈l ->Calls Tryz.prog g (#[.agg (aS_ x).toArray]++lb) W (rb_ (.agg (aL_ (f x)).toArray) W)):
 Calls Tryz.prog 191 #[.slice A n c,.func (.func g) #[] lb] w fun e w'=> ∃ v,e= .returned v/\w'.ownsRow w.heap.size 53 4 v n ((l.map f).flatMap aL_)/\Below w.heap.size w w':=by
 go_enter Tryz.func191,Tryz.ntmps191
 go_wp2
 go_loopw [9,4] (fun iv vv wr=> ∃ (i:Nat),i<=n/\iv= .int .i64 i/\Hd (wr.ownsRow w.heap.size 53 4 vv i (((l.take i).map f).flatMap aL_))/\Hd (Below w.heap.size w wr)) (fun iv _ _=>n-(intOf iv).toNat)
 ·exact⟨0,Nat.zero_le _,rfl,World.ownsRow_nil _ _ _ _,Below.refl _ _⟩
 ·obtain⟨k,hk,rfl,own,M⟩:=hrel;by_cases aA:k<n
  ·have aC:(k:Int)<(n:Int):=by omega
   obtain⟨b,o,⟨S,T,U,X,Y⟩,rfl,aD,a,p⟩:=(hr.below M.o).get aA;have g0:=p 0 _ rfl;have g1:=p 1 _ rfl;have g2:=p 2 _ rfl;have g3:=p 3 _ rfl;have g4:=p 4 _ rfl;simp only [Nat.add_zero] at g0;have a:=H_ a;rename_i aB;clear aB p;have q:=ag_ wr (aS_ (⟨S,T,U,X,Y⟩:bj_)).toArray 179;have Z:=Bx.new wr 179 (aS_ (⟨S,T,U,X,Y⟩:bj_));simp only [aS_] at q Z;obtain⟨wa,R⟩:=e_ (wr.alloc (.cells (aS_ (⟨S,T,U,X,Y⟩:bj_)).toArray 179));simp only [aS_] at R;rw [R] at q Z;obtain⟨q0,q1,q2,q3,q4⟩:=c_5 Z;have N:=b_ M q;have G:=aa_ own.o q;clear own Z;have j:=hp wa _ N (List.mem_of_getElem? a.o);have L:(l.take (k+1)).map f=(l.take k).map f++[f (⟨S,T,U,X,Y⟩)]:=by rw [an_ a.o,List.map_append];rfl
   have F:((l.take k).map f).length =k:=by rw [List.length_map,List.length_take,hr.len];omega
   obtain⟨y,hy⟩:=e_ (f (⟨S,T,U,X,Y⟩));rw [hy] at j L;obtain⟨y1,y2,y3,y4⟩:=y;simp only [aS_,aL_,Array.append_eq_append,List.append_toArray,List.cons_append,List.nil_append] at j;go_wp2_with fail;refine j.mono ?_;rintro e w2 ⟨rfl,J⟩;have P:=u_ q J;have z:=b_ M P;obtain⟨W1,W2,va,vb,k1,k2,lA,_,D,d,gA,cA,r⟩:=dt_ (enc:=aL_) Tryz.underlying28 fd_ rfl (by decide) bF_ fW_ (by decide) (⟨y1,y2,y3,y4⟩:bM_) (aa_ G J) F (by omega) z.size;rw [<-L] at d;have d:=H_ d;have s:=H_ (z.trans lA);subst k1 k2 r;have D:(Builtin.append_ #[28,28] 28 #[u4,.slice (some ⟨w2.heap.size,0,none⟩) 1 1]).run Tryz.prog (w2.alloc (.cells #[.int .i64 y1,.int .i64 y2,.int .i64 y3,.int .i64 y4] 53))= .ok (.slice (some ⟨gA,0,none⟩) (k+1) cA) W2:=D;rename_i kX;clear kX z P J G N L F hy lA M;go_wp2_with (at_builtin;refine ap_ (.tmp 13) (.tmp 17) 28 D ?_);go_roundw
   ·exact⟨k+1,by omega,by go_num,d,s⟩
   ·simp [intOf];omega
  ·obtain rfl:n=k:=by omega
   have Q:Hd (wr.ownsRow w.heap.size 53 4 u4 n ((l.map f).flatMap aL_)):=by have:=own.o;rwa [List.take_of_length_le (by rw [hr.len];omega)] at this
   clear own
   go_wp2
   go_returns;exact⟨_,rfl,Q.o,M.o⟩
theorem ne_ (g:Nat) (lb:Array Value) (eg: ∀ args w,(callFunc g args).run Tryz.prog w= .ok (.enter g args) w) (f:bs_ ->HazP) (A:Option Addr) (n c:Nat) (l:List (bs_)) (w:World) (hr:Rd w 5 a2_ A n l) (hn:n<=1000000)
 (hp: ∀ (W:World) (x:bs_),Below w.heap.size w W ->x∈l ->Calls Tryz.prog g (#[.agg (a2_ x).toArray]++lb) W (rb_ (.agg (hazE (f x)).toArray) W)):
 Calls Tryz.prog 193 #[.slice A n c,.func (.func g) #[] lb] w fun e w'=> ∃ v,e= .returned v/\w'.ownsRow w.heap.size 108 5 v n ((l.map f).flatMap hazE)/\Below w.heap.size w w':=by
 go_enter Tryz.func193,Tryz.ntmps193
 go_wp2
 go_loopw [9,4] (fun iv vv wr=> ∃ (i:Nat),i<=n/\iv= .int .i64 i/\Hd (wr.ownsRow w.heap.size 108 5 vv i (((l.take i).map f).flatMap hazE))/\Hd (Below w.heap.size w wr)) (fun iv _ _=>n-(intOf iv).toNat)
 ·exact⟨0,Nat.zero_le _,rfl,World.ownsRow_nil _ _ _ _,Below.refl _ _⟩
 ·obtain⟨k,hk,rfl,own,M⟩:=hrel;by_cases aA:k<n
  ·have aC:(k:Int)<(n:Int):=by omega
   obtain⟨b,o,⟨S,T,U,X,Y⟩,rfl,aD,a,p⟩:=(hr.below M.o).get aA;have g0:=p 0 _ rfl;have g1:=p 1 _ rfl;have g2:=p 2 _ rfl;have g3:=p 3 _ rfl;have g4:=p 4 _ rfl;simp only [Nat.add_zero] at g0;have a:=H_ a;rename_i aB;clear aB p;have q:=ag_ wr (a2_ (⟨S,T,U,X,Y⟩:bs_)).toArray 181;have Z:=Bx.new wr 181 (a2_ (⟨S,T,U,X,Y⟩:bs_));simp only [a2_] at q Z;obtain⟨wa,R⟩:=e_ (wr.alloc (.cells (a2_ (⟨S,T,U,X,Y⟩:bs_)).toArray 181));simp only [a2_] at R;rw [R] at q Z;obtain⟨q0,q1,q2,q3,q4⟩:=c_5 Z;have N:=b_ M q;have G:=aa_ own.o q;clear own Z;have j:=hp wa _ N (List.mem_of_getElem? a.o);have L:(l.take (k+1)).map f=(l.take k).map f++[f (⟨S,T,U,X,Y⟩)]:=by rw [an_ a.o,List.map_append];rfl
   have F:((l.take k).map f).length =k:=by rw [List.length_map,List.length_take,hr.len];omega
   obtain⟨y,hy⟩:=e_ (f (⟨S,T,U,X,Y⟩));rw [hy] at j L;obtain⟨y1,y2,y3,y4,y5⟩:=y;simp only [a2_,hazE,Array.append_eq_append,List.append_toArray,List.cons_append,List.nil_append] at j;go_wp2_with fail;refine j.mono ?_;rintro e w2 ⟨rfl,J⟩;have P:=u_ q J;have z:=b_ M P;obtain⟨W1,W2,va,vb,k1,k2,lA,_,D,d,gA,cA,r⟩:=dt_ (enc:=hazE) Tryz.underlying29 eC_ rfl (by decide) bU_ e8_ (by decide) (⟨y1,y2,y3,y4,y5⟩:HazP) (aa_ G J) F (by omega) z.size;rw [<-L] at d;have d:=H_ d;have s:=H_ (z.trans lA);subst k1 k2 r;have D:(Builtin.append_ #[29,29] 29 #[u4,.slice (some ⟨w2.heap.size,0,none⟩) 1 1]).run Tryz.prog (w2.alloc (.cells #[.bool y1,.int .i64 y2,.int .i64 y3,.int .i64 y4,.int .i64 y5] 108))= .ok (.slice (some ⟨gA,0,none⟩) (k+1) cA) W2:=D;rename_i kX;clear kX z P J G N L F hy lA M;go_wp2_with (at_builtin;refine ap_ (.tmp 13) (.tmp 17) 29 D ?_);go_roundw
   ·exact⟨k+1,by omega,by go_num,d,s⟩
   ·simp [intOf];omega
  ·obtain rfl:n=k:=by omega
   have Q:Hd (wr.ownsRow w.heap.size 108 5 u4 n ((l.map f).flatMap hazE)):=by have:=own.o;rwa [List.take_of_length_le (by rw [hr.len];omega)] at this
   clear own
   go_wp2
   go_returns;exact⟨_,rfl,Q.o,M.o⟩
theorem lN_ (g:Nat) (lb:Array Value) (eg: ∀ args w,(callFunc g args).run Tryz.prog w= .ok (.enter g args) w) (f:Int ->Str) (A:Option Addr) (n c:Nat) (l:List (Int)) (w:World) (hr:Rd w 1 (numE .i64) A n l) (hn:n<=1000000)
 (hp: ∀ (W:World) (x:Int),Below w.heap.size w W ->x∈l ->Calls Tryz.prog g (#[.int .i64 x]++lb) W (rb_ (.string (f x)) W)):
 Calls Tryz.prog 134 #[.slice A n c,.func (.func g) #[] lb] w fun e w'=> ∃ v,e= .returned v/\w'.ownsRow w.heap.size 9 1 v n ((l.map f).flatMap strE)/\Below w.heap.size w w':=by
 go_enter Tryz.func134,Tryz.ntmps134
 go_wp2
 go_loopw [9,4] (fun X vv wr=> ∃ (i:Nat),i<=n/\X= .int .i64 i/\Hd (wr.ownsRow w.heap.size 9 1 vv i (((l.take i).map f).flatMap strE))/\Hd (Below w.heap.size w wr)) (fun X _ _=>n-(intOf X).toNat)
 ·exact⟨0,Nat.zero_le _,rfl,World.ownsRow_nil _ _ _ _,Below.refl _ _⟩
 ·obtain⟨k,hk,rfl,own,J⟩:=hrel;by_cases T:k<n
  ·have aA:(k:Int)<(n:Int):=by omega
   obtain⟨b,o,a,rfl,aB,P,M⟩:=(hr.below J.o).get T;have s:=M 0 _ rfl;rw [Nat.mul_one,Nat.add_zero] at s;have P:=H_ P;rename_i U;clear U M;have L:=J.o;have D:=own.o;clear own;have p:=hp wr _ L (List.mem_of_getElem? P.o);have G:(l.take (k+1)).map f=(l.take k).map f++[f (a)]:=by rw [an_ P.o,List.map_append];rfl
   have z:((l.take k).map f).length =k:=by rw [List.length_map,List.length_take,hr.len];omega
   obtain⟨y,Y⟩:=e_ (f (a));rw [Y] at p G;go_wp2_with fail;refine p.mono ?_;rintro e w2 ⟨rfl,F⟩;have j:=b_ J F;obtain⟨W1,d,va,vb,k1,k2,Z,_,q,Q,gA,r,R⟩:=dt_ (enc:=strE) Tryz.underlying22 ax_ rfl (by decide) ad_ aH_ (by decide) y (aa_ D F) z (by omega) j.size;rw [<-G] at Q;have Q:=H_ Q;have S:=H_ (j.trans Z);subst k1 k2 R;have q:(Builtin.append_ #[22,22] 22 #[u4,.slice (some ⟨w2.heap.size,0,none⟩) 1 1]).run Tryz.prog (w2.alloc (.cells #[.string y] 9))= .ok (.slice (some ⟨gA,0,none⟩) (k+1) r) d:=q;rename_i kX;clear kX j F D L G z Y Z J;go_wp2_with (at_builtin;refine ap_ (.tmp 13) (.tmp 17) 22 q ?_);go_roundw
   ·exact⟨k+1,by omega,by go_num,Q,S⟩
   ·simp [intOf];omega
  ·obtain rfl:n=k:=by omega
   have N:Hd (wr.ownsRow w.heap.size 9 1 u4 n ((l.map f).flatMap strE)):=by have:=own.o;rwa [List.take_of_length_le (by rw [hr.len];omega)] at this
   clear own
   go_wp2
   go_returns;exact⟨_,rfl,N.o,J.o⟩
theorem ng_ (g:Nat) (lb:Array Value) (eg: ∀ args w,(callFunc g args).run Tryz.prog w= .ok (.enter g args) w) (f:Nat ->ba_) (A:Option Addr) (n c:Nat) (l:List (REl)) (w:World) (hr:Rd w 4 relE A n l) (hn:n<=1000000)
 (hp: ∀ (W:World) (i:Nat) (x:REl),Below w.heap.size w W ->l[i]?=some x ->Calls Tryz.prog g (#[.agg (relE x).toArray]++lb) W fun e w'=> ∃ y:RE3,e= .returned (.agg (re3E y).toArray)/\RouT W.heap.size w' y (f i)/\Below W.heap.size W w'):
 Calls Tryz.prog 188 #[.slice A n c,.func (.func g) #[] lb] w fun e w'=> ∃ v,e= .returned v/\(∃ L:List RE3,w'.ownsRow w.heap.size 51 3 v n (L.flatMap re3E)/\aD_ (RouT w.heap.size) w' L ((List.range n).map f))/\Below w.heap.size w w':=by
 go_enter Tryz.func188,Tryz.ntmps188
 go_wp2
 go_loopw [9,4] (fun iv vv wr=> ∃ (i:Nat) (L:List RE3),i<=n/\iv= .int .i64 i/\Hd (wr.ownsRow w.heap.size 51 3 vv i (L.flatMap re3E))/\Hd (aD_ (RouT w.heap.size) wr L ((List.range i).map f))/\Hd (Below w.heap.size w wr)) (fun iv _ _=>n-(intOf iv).toNat)
 ·exact⟨0,[],Nat.zero_le _,rfl,World.ownsRow_nil _ _ _ _,aD_.nil,Below.refl _ _⟩
 ·obtain⟨k,L,hk,rfl,own,Y,Q⟩:=hrel;by_cases aD:k<n
  ·have aF:(k:Int)<(n:Int):=by omega
   obtain⟨b,o,⟨x0,⟨x1,x2,x3⟩,⟨x4,x5,x6⟩,⟨x7,x8,x9⟩⟩,rfl,aG,hx,q⟩:=(hr.below Q.o).get aD;have g0:=q 0 _ rfl;have g1:=q 1 _ rfl;have g2:=q 2 _ rfl;have g3:=q 3 _ rfl;simp only [Nat.add_zero,SlV.v] at g0 g1 g2 g3;have hx:=H_ hx;rename_i aE;clear aE q;have j:=ag_ wr (relE (⟨x0,⟨x1,x2,x3⟩,⟨x4,x5,x6⟩,⟨x7,x8,x9⟩⟩:REl)).toArray 177;have X:=Bx.new wr 177 (relE (⟨x0,⟨x1,x2,x3⟩,⟨x4,x5,x6⟩,⟨x7,x8,x9⟩⟩:REl));simp only [relE,SlV.v] at j X;obtain⟨wa,U⟩:=e_ (wr.alloc (.cells (relE (⟨x0,⟨x1,x2,x3⟩,⟨x4,x5,x6⟩,⟨x7,x8,x9⟩⟩:REl)).toArray 177));simp only [relE,SlV.v] at U;rw [U] at j X;obtain⟨q0,q1,q2,q3⟩:=c_4 X;have P:=b_ Q j;have M:=aa_ own.o j;have N:aD_ (RouT w.heap.size) wa L ((List.range k).map f):=Y.o.up fun _ _ h=>h.up fun _ _ _ _ _ _ _ _ h=>aa_ h j;clear own Y X;have z:=hp wa k _ P hx.o;have T:(List.range (k+1)).map f=(List.range k).map f++[f k]:=by rw [List.range_succ,List.map_append];rfl
   have J:L.length=k:=by rw [N.len,List.length_map,List.length_range]
   simp only [relE,SlV.v,re3E,SlV.v,Array.append_eq_append,List.append_toArray,List.cons_append,List.nil_append] at z;go_wp2_with fail;refine z.mono ?_;rintro e w2 ⟨⟨⟨Z,a,d⟩,⟨r,s,y6⟩,⟨y7,y8,y9⟩⟩,rfl,hy,G⟩;simp only [re3E,SlV.v];have R:=u_ j G;have p:=b_ Q R;obtain⟨W1,W2,va,vb,k1,k2,lA,D,F,oA,gA,cA,aB⟩:=dt_ (enc:=re3E) Tryz.underlying27 eN_ rfl (by decide) c7_ gD_ (by decide) (⟨⟨Z,a,d⟩,⟨r,s,y6⟩,⟨y7,y8,y9⟩⟩:RE3) (aa_ M G) J (by omega) p.size
   have aA:Hd (aD_ (RouT w.heap.size) W2 (L++[(⟨⟨Z,a,d⟩,⟨r,s,y6⟩,⟨y7,y8,y9⟩⟩:RE3)]) ((List.range (k+1)).map f)):=by
    show aD_ _ _ _ _;rw [T];refine((N.up fun _ _ h=>h.up fun _ _ _ _ _ _ _ _ h=>aa_ h G).snoc (e:=(⟨⟨Z,a,d⟩,⟨r,s,y6⟩,⟨y7,y8,y9⟩⟩:RE3)) (hy.base P.size)).up fun _ _ h=>h.up fun _ _ _ _ _ _ he _ h=>D _ _ _ _ _ _ (by rcases he with rfl|rfl<;>decide) h
   have oA:=H_ oA;have aC:=H_ (p.trans lA);subst k1 k2 aB;have F:(Builtin.append_ #[27,27] 27 #[u4,.slice (some ⟨w2.heap.size,0,none⟩) 1 1]).run Tryz.prog (w2.alloc (.cells #[.slice Z a d,.slice r s y6,.slice y7 y8 y9] 51))= .ok (.slice (some ⟨gA,0,none⟩) (k+1) cA) W2:=F;rename_i kX;clear kX p R G M P T J hy N D lA Q;go_wp2_with (at_builtin;refine ap_ (.tmp 13) (.tmp 17) 27 F ?_);go_roundw
   ·exact⟨k+1,_,by omega,by go_num,oA,aA,aC⟩
   ·simp [intOf];omega
  ·obtain rfl:n=k:=by omega
   have S:Hd (aD_ (RouT w.heap.size) wr L ((List.range n).map f)):=Y;clear Y
   go_wp2
   go_returns;exact⟨_,rfl,⟨L,own.o,S.o⟩,Q.o⟩
