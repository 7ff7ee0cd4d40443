/- Texts of one chain, merged. -/
import Derived.Deep.QuietTactic
import Derived.Test.YtechdefolfboeaaGreatDoorCc1
import Derived.Test.YtechdefolfboeaaGreatDoorCc8
import Derived.Test.YtechdefolfboeaaGreatDoorCc15
import Derived.Test.YtechdefolfboeaaGreatDoorCc28
import Derived.Test.YtechdefolfboeaaGreatDoorCc42
set_option linter.unusedVariables false
set_option linter.unusedSimpArgs false
set_option maxRecDepth 100000
set_option maxHeartbeats 2000000
namespace Go.Proofs.YtechdefolfboeaaGreatDoor
open Go.RowKit B K
theorem ixfRun_any (g:Nat) (lb:Array Value) (eg: ∀ args w,(callFunc g args).run Tryz.prog w= .ok (.enter g args) w) (p:Nat→Bool) (A:Option Addr) (n c:Nat) (l:List (RnE)) (w:World) (hr:Rd w 4 rnE A n l) (hn:n≤1099511627776)
 (hp: ∀ (W:World) (i:Nat) (x:RnE),Below w.heap.size w W→l[i]?=some x→Calls Tryz.prog g (#[.agg (rnE x).toArray]++lb) W fun e w'=>e= .returned (.bool (p i))∧Below W.heap.size W w'):
 Calls Tryz.prog 96 #[.slice A n c,.func (.func g) #[] lb] w fun e w'=>e= .returned (.int .i64 (idx p (List.range n)))∧Below w.heap.size w w':=by
 go_enter Tryz.func96,Tryz.ntmps96
 go_wp2_with fail
 go_loopw [8] (fun i wr=> ∃ (k:Nat),k≤n∧i= .int .i64 k∧Below w.heap.size w wr∧Hid (∀ y∈(List.range n).take k,p y=false)) (fun i _=>n-(intOf i).toNat)
 case atStart=>exact⟨0,Nat.zero_le _,rfl,Below.refl _ _,fun y hy=>by simp at hy⟩
 case round=>
  obtain⟨k,hk,rfl,hb,hno⟩:=hrel
  by_cases hlt:k<n
  ·have hltI:(k:Int)<(n:Int):=by omega
   obtain⟨b,o,⟨x1,x2,⟨x4,x5,x6⟩,⟨x7,x8,x9⟩⟩,rfl,hbs,hx,hc0⟩:=(hr.below hb).get hlt
   have g0:=hc0 0 _ rfl
   have g1:=hc0 1 _ rfl
   have g2:=hc0 2 _ rfl
   have g3:=hc0 3 _ rfl
   simp only [Nat.add_zero,SlV.v] at g0 g1 g2 g3
   have hx:=Lib.hid hx
   rename_i hx0
   clear hx0 hc0
   have hrk:(List.range n)[k]?=some k:=List.getElem?_range hlt
   have hcall:=hp wr k _ hb hx.out
   simp only [rnE,SlV.v,Array.append_eq_append,List.append_toArray,List.cons_append,List.nil_append] at hcall
   clear hp
   cases hq:p k with
   |true=>
    rw [hq] at hcall
    have hi:Hid (idx p (List.range n)=k):=idx_at hrk hno.out hq
    clear hrk
    clear hq
    go_wp2_with fail
    refine hcall.mono ?_;rintro e w2 ⟨rfl,hb2⟩
    go_wp2_with fail
    go_returns
    exact⟨ret_int hi.out.symm,u_ hb hb2⟩
   |false=>
    rw [hq] at hcall
    have hno':Hid (∀ y∈(List.range n).take (k+1),p y=false):=by
     intro y hy
     rw [take_at hrk,List.mem_append] at hy
     rcases hy with hy|hy
     ·exact hno.out y hy
     ·simp at hy;subst hy;exact hq
    clear hq hrk
    go_wp2_with fail
    refine hcall.mono ?_;rintro e w2 ⟨rfl,hb2⟩
    go_wp2_with fail
    go_roundw
    case rel=>exact⟨k+1,by omega,by go_num,u_ hb hb2,hno'⟩
    case measure=>simp [intOf];omega
  ·go_wp2
   go_returns
   exact⟨ret_int (by rw [idx_no];intro y hy;exact hno.out y (by rwa [List.take_of_length_le (by rw [List.length_range];omega)])),hb⟩
theorem ctfRun_any (g:Nat) (lb:Array Value) (eg: ∀ args w,(callFunc g args).run Tryz.prog w= .ok (.enter g args) w) (p:Nat→Bool) (A:Option Addr) (n c:Nat) (l:List (RnE)) (w:World) (hr:Rd w 4 rnE A n l) (hn:n≤1099511627776)
 (hp: ∀ (W:World) (i:Nat) (x:RnE),Below w.heap.size w W→l[i]?=some x→Calls Tryz.prog g (#[.agg (rnE x).toArray]++lb) W fun e w'=>e= .returned (.bool (p i))∧Below W.heap.size W w'):
 Calls Tryz.prog 56 #[.slice A n c,.func (.func g) #[] lb] w fun e w'=>e= .returned (.bool ((List.range n).any p))∧Below w.heap.size w w':=by
 have h:=Lib.hid (ixfRun_any g lb eg p A n c l w hr hn hp)
 clear hp hr
 go_enter Tryz.func56,Tryz.ntmps56
 go_wp2_with fail
 refine h.out.mono ?_;rintro e w1 ⟨rfl,hb⟩
 have hbH:=Lib.hid hb
 have hq:=Lib.hid (idx_any p (List.range n))
 obtain⟨q,hqe⟩: ∃ q,idx p (List.range n)=q:=⟨_,rfl⟩
 rw [hqe] at hq ⊢
 clear hb hqe
 go_wp2_with fail
 go_returns
 exact⟨ret_bool hq.out,hbH.out⟩
theorem ixfC_any (g:Nat) (lb:Array Value) (eg: ∀ args w,(callFunc g args).run Tryz.prog w= .ok (.enter g args) w) (p:ConnP→Bool) (A:Option Addr) (n c:Nat) (l:List (ConnP)) (w:World) (hr:Rd w 6 connE A n l) (hn:n≤1099511627776)
 (hp: ∀ (W:World) (x:ConnP),Below w.heap.size w W→x∈l→Calls Tryz.prog g (#[.agg (connE x).toArray]++lb) W fun e w'=>e= .returned (.bool (p x))∧Below W.heap.size W w'):
 Calls Tryz.prog 62 #[.slice A n c,.func (.func g) #[] lb] w fun e w'=>e= .returned (.int .i64 (idx p l))∧Below w.heap.size w w':=by
 go_enter Tryz.func62,Tryz.ntmps62
 go_wp2_with fail
 go_loopw [8] (fun i wr=> ∃ (k:Nat),k≤n∧i= .int .i64 k∧Below w.heap.size w wr∧Hid (∀ y∈l.take k,p y=false)) (fun i _=>n-(intOf i).toNat)
 case atStart=>exact⟨0,Nat.zero_le _,rfl,Below.refl _ _,fun y hy=>by simp at hy⟩
 case round=>
  obtain⟨k,hk,rfl,hb,hno⟩:=hrel
  by_cases hlt:k<n
  ·have hltI:(k:Int)<(n:Int):=by omega
   obtain⟨b,o,⟨x1,x2,x3,x4,x5,x6⟩,rfl,hbs,hx,hc0⟩:=(hr.below hb).get hlt
   have g0:=hc0 0 _ rfl
   have g1:=hc0 1 _ rfl
   have g2:=hc0 2 _ rfl
   have g3:=hc0 3 _ rfl
   have g4:=hc0 4 _ rfl
   have g5:=hc0 5 _ rfl
   simp only [Nat.add_zero] at g0
   have hx:=Lib.hid hx
   rename_i hx0
   clear hx0 hc0
   have hcall:=hp wr _ hb (List.mem_of_getElem? hx.out)
   simp only [connE,Array.append_eq_append,List.append_toArray,List.cons_append,List.nil_append] at hcall
   clear hp
   cases hq:p (⟨x1,x2,x3,x4,x5,x6⟩) with
   |true=>
    rw [hq] at hcall
    have hi:Hid (idx p l=k):=idx_at hx.out hno.out hq
    clear hq
    go_wp2_with fail
    refine hcall.mono ?_;rintro e w2 ⟨rfl,hb2⟩
    go_wp2_with fail
    go_returns
    exact⟨ret_int hi.out.symm,u_ hb hb2⟩
   |false=>
    rw [hq] at hcall
    have hno':Hid (∀ y∈l.take (k+1),p y=false):=by
     intro y hy
     rw [take_at hx.out,List.mem_append] at hy
     rcases hy with hy|hy
     ·exact hno.out y hy
     ·simp at hy;subst hy;exact hq
    clear hq
    go_wp2_with fail
    refine hcall.mono ?_;rintro e w2 ⟨rfl,hb2⟩
    go_wp2_with fail
    go_roundw
    case rel=>exact⟨k+1,by omega,by go_num,u_ hb hb2,hno'⟩
    case measure=>simp [intOf];omega
  ·go_wp2
   go_returns
   exact⟨ret_int (by rw [idx_no];intro y hy;exact hno.out y (by rwa [List.take_of_length_le (by rw [hr.len];omega)])),hb⟩
theorem info_tConn:(Tryz.prog.info? 42).map (fun i=>(i.zero,i.size,i.bytes))=some (some (.agg #[.int .i64 0,.int .i64 0,.int .i64 0,.int .i64 0,.int .i64 0,.int .i64 0]),6,48):=by kernel_rfl
theorem clConn_any (A:Option Addr) (n c:Nat) (l:List (ConnP)) (w:World) (hr:Rd w 6 connE A n l) (hn:n≤1099511627776):
 Calls Tryz.prog 107 #[.slice A n c] w fun e w'=> ∃ v,e= .returned v∧w'.ownsRow w.heap.size 42 6 v n (l.flatMap connE)∧Below w.heap.size w w':=by
 have qT: ∀ (w:World) (a:Option Addr) (n c n' c':Nat),(binOp .eql 37 (.slice a n c) (.slice none n' c')).run Tryz.prog w= .ok (.bool a.isNone) w:=fun w a n c n' c'=>Lib.run_eql_slice_nil w _ _ a n c n' c' Tryz.underlying37
 cases A with
 |none=>
  have hn0:n=0:=by
   rcases Nat.eq_zero_or_pos n with h|h
   ·exact h
   ·obtain⟨_,_,e,_⟩:=hr.cells h;cases e
  subst hn0
  obtain rfl:l=[]:=List.eq_nil_of_length_eq_zero hr.len
  go_enter Tryz.func107,Tryz.ntmps107
  go_wp2
  go_returns
  exact⟨_,rfl,World.ownsRow_nil _ _ _ _,Below.refl _ _⟩
 |some a=>
  obtain⟨v,w1,hrun,own,hg,_⟩:=own_append (enc:=connE) Tryz.underlying37 info_tConn rfl (by decide) connE_len connE_one c (l:=[]) (own_lit0 w w.heap.size 42 6 (Nat.le_refl _)) (hr.below ((Below.refl _ w).alloc (Nat.le_refl _) _)) (by simpa using hn) (by decide) (by simp)
  have hb:Hid (Below w.heap.size w w1):=((Below.refl _ w).alloc (Nat.le_refl _) _).grown hg (by simp) (fun k hk=>by simp [Value.ownBlock] at hk;omega)
  have hl:=Lib.hid hr.len
  simp only [List.length_nil,Nat.zero_add,List.nil_append] at hrun own
  have own:=Lib.hid own
  rename_i own0;clear own0 hg
  go_enter Tryz.func107,Tryz.ntmps107
  go_wp2_with (at_builtin;refine wpList_append_run ?b1 (.tmp 5) (.tmp 6) 37 ?b2 ?b3 ?b4 hrun ?_)
  case b1=>rfl
  case b2=>rfl
  try(case b3=>rfl)
  try(case b4=>rfl)
  go_returns
  exact⟨v,rfl,own.out,hb.out⟩
theorem flat_set_conn: ∀ (l:List ConnP) (i:Nat) (c:ConnP),i<l.length→(((((((l.flatMap connE).set (i*6) (.int .i64 c.dep)).set (i*6+1) (.int .i64 c.arr)).set (i*6+2) (.int .i64 c.fr)).set (i*6+3) (.int .i64 c.to_)).set (i*6+4) (.int .i64 c.run)).set (i*6+5) (.int .i64 c.pos))=(l.set i c).flatMap connE
 |[],_,_,h=>absurd h (by simp)
 |p::r,0,c,_=>rfl
 |p::r,i+1,c,h=>by
  have ih:=flat_set_conn r i c (by simpa using h)
  rw [List.set_cons_succ,List.flatMap_cons,List.flatMap_cons,←ih]
  have e1:(i+1)*6=6+i*6:=by omega
  have q0:(connE p).length =6:=rfl
  rw [e1,List.set_append_right _ _ (by rw [q0];omega),List.set_append_right _ _ (by rw [q0];omega),List.set_append_right _ _ (by rw [q0];omega),List.set_append_right _ _ (by rw [q0];omega),List.set_append_right _ _ (by rw [q0];omega),List.set_append_right _ _ (by rw [q0];omega),q0,
   show 6+i*6-6=i*6 by omega,show 6+i*6+1-6=i*6+1 by omega,show 6+i*6+2-6=i*6+2 by omega,show 6+i*6+3-6=i*6+3 by omega,show 6+i*6+4-6=i*6+4 by omega,show 6+i*6+5-6=i*6+5 by omega]
def RetO {α:Type} (base:Nat) (t:TypeId) (size:Nat) (enc:α→List Value) (w:World) (v:Value) (l:List α) (e:Ending) (w':World):Prop:=
 ∃ v',e= .returned v'∧w'.ownsRow base t size v' l.length (l.flatMap enc)∧w.grownBy w' v.ownBlock∧v'.ownBlock=v.ownBlock
theorem delC_any (g:Nat) (lb:Array Value) (eg: ∀ args w,(callFunc g args).run Tryz.prog w= .ok (.enter g args) w) (p:ConnP→Bool) (base:Nat) (v:Value) (l:List ConnP) (w:World) (hown:w.ownsRow base 42 6 v l.length (l.flatMap connE)) (hn:l.length≤1099511627776)
 (hp: ∀ (W:World) (x:ConnP),w.grownBy W v.ownBlock→Calls Tryz.prog g (#[.agg (connE x).toArray]++lb) W fun e w'=>e= .returned (.bool (p x))∧Below W.heap.size W w'):
 Calls Tryz.prog 106 #[v,.func (.func g) #[] lb] w fun e w'=>RetO base 42 6 connE w v (l.filter fun x=> !p x) e w':=by
 obtain⟨A,c,rfl,hr,hnc,hcm⟩:=Rd.of_own connE_len rfl hown
 have hidx:=ixfC_any g lb eg p A l.length c l w hr hn (fun W x hb _=>hp W x (grown_below hb _))
 cases hany:l.any p with
 |false=>
  have hno: ∀ y∈l,p y=false:=fun y hy=>by
   cases hq:p y with
   |false=>rfl
   |true=>rw [List.any_eq_true.2 ⟨y,hy,hq⟩] at hany;cases hany
  have hfl:Hid (l.filter (fun x=> !p x)=l):=by show _=_;rw [List.filter_eq_self];intro y hy;rw [hno y hy];rfl
  rw [idx_no hno] at hidx
  have hown':=Lib.hid hown
  clear hp hno hr hown hany
  go_enter Tryz.func106,Tryz.ntmps106
  go_wp2_with fail
  refine hidx.mono ?_;rintro e w1 ⟨rfl,hb⟩
  clear hidx
  go_wp2_with fail
  go_returns
  exact⟨_,rfl,by rw [hfl.out];exact own_up hown'.out hb,grown_below hb _,rfl⟩
 |true=>
  have hpos:0<l.length:=by
   rcases Nat.eq_zero_or_pos l.length with h0|h0
   ·rw [List.eq_nil_of_length_eq_zero h0] at hany;cases hany
   ·exact h0
  obtain⟨i0,hi0⟩: ∃ k,l.findIdx p=k:=⟨_,rfl⟩
  have hlt0:i0<l.length:=by rw [←hi0];exact List.findIdx_lt_length_of_exists (List.any_eq_true.1 hany)
  have hat0:p l[i0]=true:=by
   have:=List.findIdx_getElem (p:=p) (xs:=l) (w:=by rw [hi0];exact hlt0)
   simpa [hi0] using this
  have hbef: ∀ y∈l.take i0,p y=false:=by
   intro y hy
   rw [List.mem_take_iff_getElem] at hy
   obtain⟨j,hj,rfl⟩:=hy
   have:=List.not_of_lt_findIdx (p:=p) (xs:=l) (i:=j) (by rw [hi0];omega)
   simpa using this
  have hstart:Hid (l.take i0=(l.take (i0+1)).filter fun x=> !p x):=by
   show _=_
   rw [take_at (List.getElem?_eq_getElem hlt0),List.filter_append,List.filter_eq_self.2 (fun y hy=>by rw [hbef y hy];rfl)]
   simp [hat0]
  have hix:idx p l=i0:=by unfold idx;rw [if_pos hany,hi0]
  rw [hix] at hidx
  obtain⟨n,hnn⟩: ∃ n,l.length=n:=⟨_,rfl⟩
  rw [hnn] at hown hn hidx hr hnc hpos hlt0 hp ⊢
  have hnn':=Lib.hid hnn
  obtain⟨q,hq⟩: ∃ q,n=q+1:=⟨n-1,by omega⟩
  have hA: ∃ g0,A=some ⟨g0,0,none⟩:=by
   subst hq
   obtain⟨g0,cap,e⟩:=ownsRow_succ hown
   injection e with e1
   exact⟨g0,e1⟩
  obtain⟨g0,rfl⟩:=hA
  have hown':=Lib.hid hown
  clear hat0 hbef hany hix hi0 hnn hq hown
  have hgb:base≤g0:=(hown'.out.lt g0 rfl).1
  go_enter Tryz.func106,Tryz.ntmps106
  go_wp2_with fail
  refine hidx.mono ?_;rintro e w1 ⟨rfl,hb⟩
  clear hidx
  have hne:((i0:Int)== -1)=false:=by simp
  go_wp2_with fail
  clear hne
  go_loopw [5,6] (fun vi vj wr=> ∃ (i j:Nat) (cur:List ConnP),j≤n∧i<j∧vi= .int .i64 i∧vj= .int .i64 j∧Hid (wr.ownsRow base 42 6 (.slice (some ⟨g0,0,none⟩) n c) n (cur.flatMap connE))∧w.grownBy wr (some g0)∧Hid (cur.length=n∧cur.take i=(l.take j).filter (fun x=> !p x)∧cur.drop j=l.drop j)) (fun _ vj _=>n-(intOf vj).toNat)
  case atStart=>exact⟨i0,i0+1,l,by omega,by omega,rfl,by go_num,own_up hown'.out hb,grown_below hb _,hnn'.out,hstart.out,rfl⟩
  case round=>
   obtain⟨i,j,cur,hj,hij,rfl,rfl,own,hgr,hcur⟩:=hrel
   by_cases hlt:j<n
   ·have r:=(Rd.of_own connE_len hcur.out.1 own.out)
    obtain⟨A2,c2,e2,r,_,_⟩:=r
    cases e2
    obtain⟨b,o,⟨x1,x2,x3,x4,x5,x6⟩,hA,hbs,hx,hc0⟩:=r.get hlt
    cases hA
    have h1:=hc0 0 _ rfl
    have h2:=hc0 1 _ rfl
    have h3:=hc0 2 _ rfl
    have h4:=hc0 3 _ rfl
    have h5:=hc0 4 _ rfl
    have h6:=hc0 5 _ rfl
    simp only [Nat.zero_add,Nat.add_zero] at h1 h2 h3 h4 h5 h6
    have hx:=Lib.hid hx
    rename_i hx0;clear hx0 hc0
    have hgr1:w.grownBy (wr.alloc (.cells #[.int .i64 x1,.int .i64 x2,.int .i64 x3,.int .i64 x4,.int .i64 x5,.int .i64 x6] 42)) (some g0):=grown_trans hgr (World.grownBy_alloc _ _ _)
    have hcall:=hp _ ⟨x1,x2,x3,x4,x5,x6⟩ hgr1
    simp only [connE,Array.append_eq_append,List.append_toArray,List.cons_append,List.nil_append] at hcall
    have own1:Hid ((wr.alloc (.cells #[.int .i64 x1,.int .i64 x2,.int .i64 x3,.int .i64 x4,.int .i64 x5,.int .i64 x6] 42)).ownsRow base 42 6 (.slice (some ⟨g0,0,none⟩) n c) n (cur.flatMap connE)):=own.out.alloc _
    have bx1:=Bx.new wr 42 [.int .i64 x1,.int .i64 x2,.int .i64 x3,.int .i64 x4,.int .i64 x5,.int .i64 x6]
    have hlx:Hid (l[j]?=some ⟨x1,x2,x3,x4,x5,x6⟩):=by
     have h4:=hcur.out.2.2
     have h5:(cur.drop j)[0]?=some ⟨x1,x2,x3,x4,x5,x6⟩:=by rw [List.getElem?_drop];exact hx.out
     rw [h4,List.getElem?_drop] at h5
     exact h5
    clear hp r
    cases hq:p ⟨x1,x2,x3,x4,x5,x6⟩ with
    |true=>
     rw [hq] at hcall
     have hnext:Hid (cur.length=n∧cur.take i=(l.take (j+1)).filter (fun x=> !p x)∧cur.drop (j+1)=l.drop (j+1)):=by
      refine⟨hcur.out.1,?_,?_⟩
      ·rw [take_at hlx.out,List.filter_append,←hcur.out.2.1];simp [hq]
      ·have:=hcur.out.2.2
       rw [←List.drop_drop,←List.drop_drop,this]
     clear hq bx1
     go_wp2_with fail
     refine hcall.mono ?_;rintro e w2 ⟨rfl,hb2⟩
     clear hcall
     go_wp2_with fail
     go_roundw
     case rel=>exact⟨i,j+1,cur,by omega,by omega,rfl,by go_num,own_up own1.out hb2,grown_trans hgr1 (grown_below hb2 _),hnext⟩
     case measure=>simp [intOf];omega
    |false=>
     rw [hq] at hcall
     have hnext:Hid ((cur.set i ⟨x1,x2,x3,x4,x5,x6⟩).length =n∧(cur.set i ⟨x1,x2,x3,x4,x5,x6⟩).take (i+1)=(l.take (j+1)).filter (fun x=> !p x)∧(cur.set i ⟨x1,x2,x3,x4,x5,x6⟩).drop (j+1)=l.drop (j+1)):=by
      refine⟨by rw [List.length_set];exact hcur.out.1,?_,?_⟩
      ·rw [take_at (show(cur.set i ⟨x1,x2,x3,x4,x5,x6⟩)[i]?=some ⟨x1,x2,x3,x4,x5,x6⟩ by rw [List.getElem?_set_self (by rw [hcur.out.1];omega)]),List.take_set_of_le (Nat.le_refl _),hcur.out.2.1,take_at hlx.out,List.filter_append]
       simp [hq]
      ·rw [List.drop_set_of_lt (by omega),←List.drop_drop,hcur.out.2.2,List.drop_drop]
     clear hq
     have bx1H:=Lib.hid bx1
     clear bx1
     go_wp2_with fail
     refine hcall.mono ?_;rintro e w2 ⟨rfl,hb2⟩
     clear hcall h1 h2 h3 h4 h5 h6 hbs
     have own2':Hid (w2.ownsRow base 42 6 (.slice (some ⟨g0,0,none⟩) n c) n (cur.flatMap connE)):=own_up own1.out hb2
     have own2:=own2'.out
     have bx:Bx w2 wr.heap.size 42 [.int .i64 x1,.int .i64 x2,.int .i64 x3,.int .i64 x4,.int .i64 x5,.int .i64 x6]:=bx1H.out.below hb2
     obtain⟨b0,b1,b2,b3,b4,b5⟩:=c_6 bx
     obtain⟨A3,c3,e3,r3,_,_⟩:=Rd.of_own connE_len hcur.out.1 own2
     cases e3
     obtain⟨bb,o3,uc,hA3,_,_,sc⟩:=r3.get (k:=i) (by omega)
     cases hA3
     have s0:=sc 0 _ rfl
     have s1:=sc 1 _ rfl
     have s2:=sc 2 _ rfl
     have s3:=sc 3 _ rfl
     have s4:=sc 4 _ rfl
     have s5:=sc 5 _ rfl
     simp only [Nat.zero_add,Nat.add_zero] at s0 s1 s2 s3 s4 s5
     have m0:=own2.frozenAt (i*6)
     have m1:=own2.frozenAt (i*6+1)
     have m2:=own2.frozenAt (i*6+2)
     have m3:=own2.frozenAt (i*6+3)
     have m4:=own2.frozenAt (i*6+4)
     have m5:=own2.frozenAt (i*6+5)
     have own3:Hid (((((((w2.setCell ⟨g0,i*6,none⟩ (.int .i64 x1)).setCell ⟨g0,i*6+1,none⟩ (.int .i64 x2)).setCell ⟨g0,i*6+2,none⟩ (.int .i64 x3)).setCell ⟨g0,i*6+3,none⟩ (.int .i64 x4)).setCell ⟨g0,i*6+4,none⟩ (.int .i64 x5)).setCell ⟨g0,i*6+5,none⟩ (.int .i64 x6)).ownsRow base 42 6 (.slice (some ⟨g0,0,none⟩) n c) n ((cur.set i ⟨x1,x2,x3,x4,x5,x6⟩).flatMap connE)):=by
      have h9:=(((((((own2.stored (i*6) (.int .i64 x1)).1.stored (i*6+1) (.int .i64 x2)).1.stored (i*6+2) (.int .i64 x3)).1.stored (i*6+3) (.int .i64 x4)).1.stored (i*6+4) (.int .i64 x5)).1.stored (i*6+5) (.int .i64 x6)).1)
      rwa [flat_set_conn cur i ⟨x1,x2,x3,x4,x5,x6⟩ (by rw [hcur.out.1];omega)] at h9
     have gr3:Hid (w.grownBy ((((((w2.setCell ⟨g0,i*6,none⟩ (.int .i64 x1)).setCell ⟨g0,i*6+1,none⟩ (.int .i64 x2)).setCell ⟨g0,i*6+2,none⟩ (.int .i64 x3)).setCell ⟨g0,i*6+3,none⟩ (.int .i64 x4)).setCell ⟨g0,i*6+4,none⟩ (.int .i64 x5)).setCell ⟨g0,i*6+5,none⟩ (.int .i64 x6)) (some g0)):=grown_trans (grown_trans hgr1 (grown_below hb2 _)) (grown_trans ((own2.stored (i*6) (.int .i64 x1)).2) (grown_trans (((own2.stored (i*6) (.int .i64 x1)).1.stored (i*6+1) (.int .i64 x2)).2) (grown_trans ((((own2.stored (i*6) (.int .i64 x1)).1.stored (i*6+1) (.int .i64 x2)).1.stored (i*6+2) (.int .i64 x3)).2) (grown_trans (((((own2.stored (i*6) (.int .i64 x1)).1.stored (i*6+1) (.int .i64 x2)).1.stored (i*6+2) (.int .i64 x3)).1.stored (i*6+3) (.int .i64 x4)).2) (grown_trans ((((((own2.stored (i*6) (.int .i64 x1)).1.stored (i*6+1) (.int .i64 x2)).1.stored (i*6+2) (.int .i64 x3)).1.stored (i*6+3) (.int .i64 x4)).1.stored (i*6+4) (.int .i64 x5)).2) ((((((own2.stored (i*6) (.int .i64 x1)).1.stored (i*6+1) (.int .i64 x2)).1.stored (i*6+2) (.int .i64 x3)).1.stored (i*6+3) (.int .i64 x4)).1.stored (i*6+4) (.int .i64 x5)).1.stored (i*6+5) (.int .i64 x6)).2)))))
     have hin:(i:Int)<(n:Int):=by omega
     clear own own1 own2 own2' r3 bx bx1H sc
     go_wp2_with fail
     go_roundw
     case rel=>exact⟨i+1,j+1,_,by omega,by omega,by go_num,by go_num,own3.out,gr3.out,hnext⟩
     case measure=>simp [intOf];omega
   ·obtain rfl:j=n:=by omega
    have hcut:=fun W=>run_cut (P:=Tryz.prog) (t:=37) (e:=42) (s:=6) Tryz.underlying37 (by kernel_rfl) (fun W=>by simp [go_sem]) (some ⟨g0,0,none⟩) j c i (by omega) .i64 W
    obtain⟨w5,hclr,own5,hgr5⟩:=own_clear (ty:=0) Tryz.underlying37 info_tConn rfl (by decide) (by decide) own.out hnc (m:=i) (by omega)
    have hfin:Hid (l.filter (fun x=> !p x)=cur.take i):=by show _=_;rw [hcur.out.2.1,List.take_of_length_le (by rw [hnn'.out];omega)]
    have hlen:Hid ((l.filter (fun x=> !p x)).length =i):=by show _=_;rw [hfin.out,List.length_take,hcur.out.1];omega
    rw [flat_take connE_len] at own5
    have own5:=Lib.hid own5
    rename_i own50;clear own50
    go_wp2_with fail
    go_returns
    exact⟨_,rfl,by rw [hlen.out,hfin.out];exact own5.out,grown_trans hgr hgr5,rfl⟩
theorem clipC_any (A:Option Addr) (n c:Nat) (w:World) (h:n≤c) (hA:A=none→c=0):
 Calls Tryz.prog 105 #[.slice A n c] w fun e w'=>e= .returned (.slice A n n)∧w=w':=by
 go_enter Tryz.func105,Tryz.ntmps105
 go_wp2
 go_returns
 exact⟨rfl,rfl⟩
theorem firstC_idx (l:List ConnP) (t:Int):(idx (fun c=>decide (c.dep≥t)) l<0→(firstC l t:Int)=l.length)∧(0≤idx (fun c=>decide (c.dep≥t)) l→(firstC l t:Int)=idx (fun c=>decide (c.dep≥t)) l):=by
 have key: ∀ (l:List ConnP),firstC l t=l.findIdx fun c=>decide (c.dep≥t):=by
  intro l
  induction l with
  |nil=>rfl
  |cons c l ih=>
   unfold firstC
   rw [List.findIdx_cons]
   by_cases h:c.dep<t
   ·rw [if_pos h,decide_eq_false (by omega),ih];rfl
   ·rw [if_neg h,decide_eq_true (by omega)];rfl
 rw [key l]
 unfold idx
 split
 ·rename_i h
  exact⟨fun h2=>by omega,fun _=>rfl⟩
 ·rename_i h
  refine⟨fun _=>?_,fun h2=>by omega⟩
  rw [List.findIdx_eq_length_of_false (fun x hx=>?_)]
  cases hq:decide (x.dep≥t) with
  |false=>rfl
  |true=>exact absurd (List.any_eq_true.2 ⟨x,hx,hq⟩) h
def RetC (l:List ConnP) (we:World) (e:Ending) (w':World):Prop:= ∃ A c,e= .returned (.slice A l.length c)∧Rd w' 6 connE A l.length l∧l.length≤c∧c≤9223372036854775807∧Below we.heap.size we w'
theorem cfirst1_any (c:ConnP) (t:Int) (bt:Nat) (we:World) (ht:we.cell? ⟨bt,0,none⟩=some (.int .i64 t)):Calls Tryz.prog 63 #[.agg (connE c).toArray,.pointer (some ⟨bt,0,none⟩)] we fun e w'=>e= .returned (.bool (decide (c.dep≥t)))∧Below we.heap.size we w':=by
 obtain⟨x1,x2,x3,x4,x5,x6⟩:=c
 simp only [connE]
 obtain⟨w1,b1,hw1,hbE1,hb1,hup,B1,hge1⟩:=enter1 we 42 [.int .i64 x1,.int .i64 x2,.int .i64 x3,.int .i64 x4,.int .i64 x5,.int .i64 x6]
 have ht1:=hup.out.cell (p:=⟨bt,0,none⟩) (World.block_lt_of_cell? we ⟨bt,0,none⟩ ht)
 rw [ht] at ht1
 have p0:=B1.cell 0 rfl
 clear B1 ht hge1
 go_enter Tryz.func63,Tryz.ntmps63
 go_wp2_with fail
 clear hw1 hbE1
 go_returns
 exact⟨rfl,hup.out⟩
theorem cfrom1_any (c:ConnP) (t:Int) (bt:Nat) (we:World) (ht:we.cell? ⟨bt,0,none⟩=some (.int .i64 t)):Calls Tryz.prog 66 #[.agg (connE c).toArray,.pointer (some ⟨bt,0,none⟩)] we fun e w'=>e= .returned (.bool (c.fr==t))∧Below we.heap.size we w':=by
 obtain⟨x1,x2,x3,x4,x5,x6⟩:=c
 simp only [connE]
 obtain⟨w1,b1,hw1,hbE1,hb1,hup,B1,hge1⟩:=enter1 we 42 [.int .i64 x1,.int .i64 x2,.int .i64 x3,.int .i64 x4,.int .i64 x5,.int .i64 x6]
 have ht1:=hup.out.cell (p:=⟨bt,0,none⟩) (World.block_lt_of_cell? we ⟨bt,0,none⟩ ht)
 rw [ht] at ht1
 have p0:=B1.cell 2 rfl
 clear B1 ht hge1
 go_enter Tryz.func66,Tryz.ntmps66
 go_wp2_with fail
 clear hw1 hbE1
 go_returns
 exact⟨rfl,hup.out⟩
theorem cto1_any (c:ConnP) (t:Int) (bt:Nat) (we:World) (ht:we.cell? ⟨bt,0,none⟩=some (.int .i64 t)):Calls Tryz.prog 67 #[.agg (connE c).toArray,.pointer (some ⟨bt,0,none⟩)] we fun e w'=>e= .returned (.bool (c.to_==t))∧Below we.heap.size we w':=by
 obtain⟨x1,x2,x3,x4,x5,x6⟩:=c
 simp only [connE]
 obtain⟨w1,b1,hw1,hbE1,hb1,hup,B1,hge1⟩:=enter1 we 42 [.int .i64 x1,.int .i64 x2,.int .i64 x3,.int .i64 x4,.int .i64 x5,.int .i64 x6]
 have ht1:=hup.out.cell (p:=⟨bt,0,none⟩) (World.block_lt_of_cell? we ⟨bt,0,none⟩ ht)
 rw [ht] at ht1
 have p0:=B1.cell 3 rfl
 clear B1 ht hge1
 go_enter Tryz.func67,Tryz.ntmps67
 go_wp2_with fail
 clear hw1 hbE1
 go_returns
 exact⟨rfl,hup.out⟩
theorem cof1_any (c:ConnP) (t:Int) (bt:Nat) (we:World) (ht:we.cell? ⟨bt,0,none⟩=some (.int .i64 t)):Calls Tryz.prog 65 #[.agg (connE c).toArray,.pointer (some ⟨bt,0,none⟩)] we fun e w'=>e= .returned (.bool (c.run==t))∧Below we.heap.size we w':=by
 obtain⟨x1,x2,x3,x4,x5,x6⟩:=c
 simp only [connE]
 obtain⟨w1,b1,hw1,hbE1,hb1,hup,B1,hge1⟩:=enter1 we 42 [.int .i64 x1,.int .i64 x2,.int .i64 x3,.int .i64 x4,.int .i64 x5,.int .i64 x6]
 have ht1:=hup.out.cell (p:=⟨bt,0,none⟩) (World.block_lt_of_cell? we ⟨bt,0,none⟩ ht)
 rw [ht] at ht1
 have p0:=B1.cell 4 rfl
 clear B1 ht hge1
 go_enter Tryz.func65,Tryz.ntmps65
 go_wp2_with fail
 clear hw1 hbE1
 go_returns
 exact⟨rfl,hup.out⟩
theorem conly1_any (g:Nat) (lb:Array Value) (eg: ∀ args w,(callFunc g args).run Tryz.prog w= .ok (.enter g args) w) (p:ConnP→Bool) (c:ConnP) (bt:Nat) (we:World) (ht:we.cell? ⟨bt,0,none⟩=some (.func (.func g) #[] lb))
 (hp: ∀ W:World,Below we.heap.size we W→Calls Tryz.prog g (#[.agg (connE c).toArray]++lb) W fun e w'=>e= .returned (.bool (p c))∧Below W.heap.size W w'):
 Calls Tryz.prog 108 #[.agg (connE c).toArray,.pointer (some ⟨bt,0,none⟩)] we fun e w'=>e= .returned (.bool (!p c))∧Below we.heap.size we w':=by
 obtain⟨q,hq⟩: ∃ q,p c=q:=⟨_,rfl⟩
 rw [hq] at hp ⊢
 clear hq
 obtain⟨x1,x2,x3,x4,x5,x6⟩:=c
 simp only [connE,Array.append_eq_append,List.append_toArray,List.cons_append,List.nil_append] at hp ⊢
 obtain⟨w1,b1,hw1,hbE1,hb1,hup,B1,hge1⟩:=enter1 we 42 [.int .i64 x1,.int .i64 x2,.int .i64 x3,.int .i64 x4,.int .i64 x5,.int .i64 x6]
 have ht1:=hup.out.cell (p:=⟨bt,0,none⟩) (World.block_lt_of_cell? we ⟨bt,0,none⟩ ht)
 rw [ht] at ht1
 obtain⟨p0,p1,p2,p3,p4,p5⟩:=c_6 B1
 have hcall:=hp w1 hup.out
 clear B1 ht hge1 hp
 go_enter Tryz.func108,Tryz.ntmps108
 go_wp2_with fail
 refine hcall.mono ?_;rintro e w2 ⟨rfl,hb2⟩
 have hfin:=h_ hup hb2
 clear hcall hb2
 go_wp2_with fail
 clear hw1 hbE1
 go_returns
 exact⟨rfl,hfin.out⟩
theorem conly_any (g:Nat) (lb:Array Value) (eg: ∀ args w,(callFunc g args).run Tryz.prog w= .ok (.enter g args) w) (p:ConnP→Bool) (A:Option Addr) (n c:Nat) (l:List ConnP) (we:World) (hr:Rd we 6 connE A n l) (hn:n≤1099511627776)
 (hp: ∀ (W:World) (x:ConnP),Below we.heap.size we W→Calls Tryz.prog g (#[.agg (connE x).toArray]++lb) W fun e w'=>e= .returned (.bool (p x))∧Below W.heap.size W w'):
 Calls Tryz.prog 64 #[.slice A n c,.func (.func g) #[] lb] we (RetC (l.filter p) we):=by
 obtain⟨w1,b1,hw1,hbE1,hb1,hup,B1,hge1⟩:=enter1 we 95 [.func (.func g) #[] lb]
 have hrH:=Lib.hid (hr.below hup.out)
 have hpH:=Lib.hid hp
 have p0:=B1.cell 0 rfl
 have B1H:=Lib.hid B1
 have hcl:=Lib.hid (clConn_any A n c l w1 hrH.out hn)
 have hlt1:=B1.lt
 have hlen:=Lib.hid hr.len
 clear B1 hr hp
 go_enter Tryz.func64,Tryz.ntmps64
 go_wp2_with fail
 refine hcl.out.mono ?_;rintro e w2 ⟨v,rfl,own,hb2⟩
 have own':w2.ownsRow w1.heap.size 42 6 v l.length (l.flatMap connE):=by rw [hlen.out];exact own
 have hdel:=Lib.hid (delC_any 108 #[.pointer (some ⟨b1,0,none⟩)] (enters_of Tryz.func108 (by kernel_rfl) rfl) (fun x=> !p x) w1.heap.size v l w2 own' (by rw [hlen.out];exact hn) (fun W x hg=>by
  have hbW:Below w1.heap.size w1 W:=hb2.grown hg hb2.size (fun g hg=>(own.lt g hg).1)
  exact conly1_any g lb eg p x b1 W ((hbW.cell (p:=⟨b1,0,none⟩) hlt1).trans p0) (fun U hU=>hpH.out U x (b_ hup (u_ hbW hU)))))
 have hb2H:=Lib.hid hb2
 have ownH:=Lib.hid own
 clear hb2 own own'
 go_wp2_with fail
 refine hdel.out.mono ?_;rintro e w3 ⟨v',rfl,own3,hg3,hv3⟩
 have hb3:=h_ hup (hb2H.out.grown hg3 hb2H.out.size (fun g hg=>(ownH.out.lt g hg).1))
 have hfl:Hid (l.filter (fun x=> !!p x)=l.filter p):=by show _=_;congr 1;funext x;simp
 rw [hfl.out] at own3
 have hA0: ∀ A' m c',v'= .slice A' m c'→A'=none→c'=0:=by
  rintro A' m c' rfl rfl
  rcases own3.2 with⟨h,_⟩|⟨g0,cap,cur,h,_⟩
  ·simp at h;exact h.2
  ·simp at h
 obtain⟨A',c',rfl,r3,hc3,hm3⟩:=Rd.of_own connE_len rfl own3
 have hA0:=Lib.hid (hA0 _ _ _ rfl)
 have r3H:=Lib.hid r3
 obtain⟨m,hm⟩: ∃ m,(l.filter p).length =m:=⟨_,rfl⟩
 rw [hm] at r3H hc3
 have hmH:=Lib.hid hm
 have hm9:Hid (m≤9223372036854775807):=by show _≤_;omega
 rw [hm]
 rename_i z1 z2 z3 z4
 clear own3 hg3 hv3 r3 hm
 have hclip:=Lib.hid (clipC_any A' m c' w3 hc3 hA0.out)
 go_wp2_with fail
 refine hclip.out.mono ?_;rintro e w4 ⟨rfl,rfl⟩
 go_wp2_with fail
 clear hw1 hbE1
 go_returns
 refine⟨A',m,by rw [hmH.out];rfl,by rw [hmH.out];exact r3H.out,by rw [hmH.out];exact Nat.le_refl _,hm9.out,hb3.out⟩
theorem cfrom_any (A:Option Addr) (n c:Nat) (l:List ConnP) (t:Int) (we:World) (hr:Rd we 6 connE A n l) (hn:n≤1099511627776):Calls Tryz.prog 21 #[.slice A n c,.int .i64 t] we (RetC (l.filter fun c=>c.fr==t) we):=by
 obtain⟨w1,b1,hw1,hbE1,hb1,hup,B1,hge1⟩:=enter1 we 3 [.int .i64 t]
 have p0:=B1.cell 0 rfl
 have hlt1:=B1.lt
 have hon:=Lib.hid (conly_any 66 #[.pointer (some ⟨b1,0,none⟩)] (enters_of Tryz.func66 (by kernel_rfl) rfl) (fun c=>c.fr==t) A n c l w1 (hr.below hup.out) hn (fun W x hb=>cfrom1_any x t b1 W ((hb.cell (p:=⟨b1,0,none⟩) hlt1).trans p0)))
 obtain⟨L,hL⟩: ∃ L,l.filter (fun c=>c.fr==t)=L:=⟨_,rfl⟩
 rw [hL] at hon ⊢
 clear B1 hr hL
 go_enter Tryz.func21,Tryz.ntmps21
 go_wp2_with fail
 refine hon.out.mono ?_;rintro e w2 ⟨A',c',rfl,r,h1,h2,hb⟩
 have rH:=Lib.hid r
 have h1H:=Lib.hid h1
 have h2H:=Lib.hid h2
 have hbz:=h_ hup hb
 clear r h1 h2 hb
 go_wp2_with fail
 clear hw1 hbE1
 go_returns
 exact⟨A',c',rfl,rH.out,h1H.out,h2H.out,hbz.out⟩
theorem cto_any (A:Option Addr) (n c:Nat) (l:List ConnP) (t:Int) (we:World) (hr:Rd we 6 connE A n l) (hn:n≤1099511627776):Calls Tryz.prog 22 #[.slice A n c,.int .i64 t] we (RetC (l.filter fun c=>c.to_==t) we):=by
 obtain⟨w1,b1,hw1,hbE1,hb1,hup,B1,hge1⟩:=enter1 we 3 [.int .i64 t]
 have p0:=B1.cell 0 rfl
 have hlt1:=B1.lt
 have hon:=Lib.hid (conly_any 67 #[.pointer (some ⟨b1,0,none⟩)] (enters_of Tryz.func67 (by kernel_rfl) rfl) (fun c=>c.to_==t) A n c l w1 (hr.below hup.out) hn (fun W x hb=>cto1_any x t b1 W ((hb.cell (p:=⟨b1,0,none⟩) hlt1).trans p0)))
 obtain⟨L,hL⟩: ∃ L,l.filter (fun c=>c.to_==t)=L:=⟨_,rfl⟩
 rw [hL] at hon ⊢
 clear B1 hr hL
 go_enter Tryz.func22,Tryz.ntmps22
 go_wp2_with fail
 refine hon.out.mono ?_;rintro e w2 ⟨A',c',rfl,r,h1,h2,hb⟩
 have rH:=Lib.hid r
 have h1H:=Lib.hid h1
 have h2H:=Lib.hid h2
 have hbz:=h_ hup hb
 clear r h1 h2 hb
 go_wp2_with fail
 clear hw1 hbE1
 go_returns
 exact⟨A',c',rfl,rH.out,h1H.out,h2H.out,hbz.out⟩
theorem cof_any (A:Option Addr) (n c:Nat) (l:List ConnP) (t:Int) (we:World) (hr:Rd we 6 connE A n l) (hn:n≤1099511627776):Calls Tryz.prog 19 #[.slice A n c,.int .i64 t] we (RetC (l.filter fun c=>c.run==t) we):=by
 obtain⟨w1,b1,hw1,hbE1,hb1,hup,B1,hge1⟩:=enter1 we 3 [.int .i64 t]
 have p0:=B1.cell 0 rfl
 have hlt1:=B1.lt
 have hon:=Lib.hid (conly_any 65 #[.pointer (some ⟨b1,0,none⟩)] (enters_of Tryz.func65 (by kernel_rfl) rfl) (fun c=>c.run==t) A n c l w1 (hr.below hup.out) hn (fun W x hb=>cof1_any x t b1 W ((hb.cell (p:=⟨b1,0,none⟩) hlt1).trans p0)))
 obtain⟨L,hL⟩: ∃ L,l.filter (fun c=>c.run==t)=L:=⟨_,rfl⟩
 rw [hL] at hon ⊢
 clear B1 hr hL
 go_enter Tryz.func19,Tryz.ntmps19
 go_wp2_with fail
 refine hon.out.mono ?_;rintro e w2 ⟨A',c',rfl,r,h1,h2,hb⟩
 have rH:=Lib.hid r
 have h1H:=Lib.hid h1
 have h2H:=Lib.hid h2
 have hbz:=h_ hup hb
 clear r h1 h2 hb
 go_wp2_with fail
 clear hw1 hbE1
 go_returns
 exact⟨A',c',rfl,rH.out,h1H.out,h2H.out,hbz.out⟩
theorem cfirst_any (A:Option Addr) (n c:Nat) (l:List ConnP) (t:Int) (we:World) (hr:Rd we 6 connE A n l) (hn:n≤1099511627776):Calls Tryz.prog 18 #[.slice A n c,.int .i64 t] we fun e w'=>e= .returned (.int .i64 (firstC l t))∧Below we.heap.size we w':=by
 obtain⟨w1,b1,hw1,hbE1,hb1,hup,B1,hge1⟩:=enter1 we 2 [.int .i64 t]
 have p0:=B1.cell 0 rfl
 have hlt1:=B1.lt
 have hix:=Lib.hid (ixfC_any 63 #[.pointer (some ⟨b1,0,none⟩)] (enters_of Tryz.func63 (by kernel_rfl) rfl) (fun c=>decide (c.dep≥t)) A n c l w1 (hr.below hup.out) hn (fun W x hb _=>cfirst1_any x t b1 W ((hb.cell (p:=⟨b1,0,none⟩) hlt1).trans p0)))
 have hfi:=Lib.hid (firstC_idx l t)
 have hlen:Hid ((l.length:Int)=n):=by show _=_;rw [hr.len]
 obtain⟨q,hq⟩: ∃ q,idx (fun c=>decide (c.dep≥t)) l=q:=⟨_,rfl⟩
 rw [hq] at hix hfi
 clear B1 hr hq
 by_cases h0:q<0
 ·have hr:Hid ((firstC l t:Int)=n):=by show _=_;rw [hfi.out.1 h0,hlen.out]
  rw [hr.out]
  clear hfi hlen hr
  go_enter Tryz.func18,Tryz.ntmps18
  go_wp2_with fail
  refine hix.out.mono ?_;rintro e w2 ⟨rfl,hb⟩
  have hbz:=h_ hup hb
  clear hb
  go_wp2_with fail
  clear hw1 hbE1
  go_returns
  exact⟨rfl,hbz.out⟩
 ·have hr:Hid ((firstC l t:Int)=q):=hfi.out.2 (by omega)
  rw [hr.out]
  clear hfi hlen hr
  go_enter Tryz.func18,Tryz.ntmps18
  go_wp2_with fail
  refine hix.out.mono ?_;rintro e w2 ⟨rfl,hb⟩
  have hbz:=h_ hup hb
  clear hb
  go_wp2_with fail
  clear hw1 hbE1
  go_returns
  exact⟨rfl,hbz.out⟩
instance:DecidableEq ConnP:=fun a b=>
 if h:a.dep=b.dep∧a.arr=b.arr∧a.fr=b.fr∧a.to_=b.to_∧a.run=b.run∧a.pos=b.pos then isTrue (ConnP.ext' h.1 h.2.1 h.2.2.1 h.2.2.2.1 h.2.2.2.2.1 h.2.2.2.2.2)
 else isFalse fun e=>h (by subst e;exact⟨rfl,rfl,rfl,rfl,rfl,rfl⟩)
theorem below_drewN' {N:Nat} {w w':World} (h:Below N w w') (n:Nat):Below N w (w'.drewN n):=⟨h.os,h.tape,h.output,h.size,h.block⟩
theorem eqC_any (A:Option Addr) (n c:Nat) (l:List ConnP) (A':Option Addr) (n' c':Nat) (l':List ConnP) (w:World) (hr:Rd w 6 connE A n l) (hr':Rd w 6 connE A' n' l') (hn:n≤1099511627776) (hn':n'≤1099511627776):
 Calls Tryz.prog 68 #[.slice A n c,.slice A' n' c'] w fun e w'=>e= .returned (.bool (decide (l=l')))∧Below w.heap.size w w':=by
 go_enter Tryz.func68,Tryz.ntmps68
 by_cases hnn:n=n'
 ·subst hnn
  go_wp2
  go_loopw [13] (fun i wr=> ∃ (k:Nat),k≤n∧i= .int .i64 k∧Below w.heap.size w wr∧Hid (l.take k=l'.take k)) (fun i _=>n-(intOf i).toNat)
  case atStart=>exact⟨0,Nat.zero_le _,rfl,Below.refl _ _,rfl⟩
  case round=>
   obtain⟨k,hk,rfl,hb,heq⟩:=hrel
   by_cases hlt:k<n
   ·obtain⟨b,o,⟨x1,x2,x3,x4,x5,x6⟩,rfl,hbs,hl,hc⟩:=(hr.below hb).get hlt
    obtain⟨b',o',⟨y1,y2,y3,y4,y5,y6⟩,rfl,hbs',hl',hc'⟩:=(hr'.below hb).get hlt
    have g0:=hc 0 _ rfl
    have f0:=hc' 0 _ rfl
    have g1:=hc 1 _ rfl
    have f1:=hc' 1 _ rfl
    have g2:=hc 2 _ rfl
    have f2:=hc' 2 _ rfl
    have g3:=hc 3 _ rfl
    have f3:=hc' 3 _ rfl
    have g4:=hc 4 _ rfl
    have f4:=hc' 4 _ rfl
    have g5:=hc 5 _ rfl
    have f5:=hc' 5 _ rfl
    simp only [Nat.add_zero] at g0 f0
    have hl:=Lib.hid hl
    have hl':=Lib.hid hl'
    rename_i hx1 hx2;clear hx1 hx2 hc hc'
    have hlt2:(k:Int)<(n:Int):=by omega
    by_cases e1:x1=y1
    ·subst e1
     by_cases e2:x2=y2
     ·subst e2
      by_cases e3:x3=y3
      ·subst e3
       by_cases e4:x4=y4
       ·subst e4
        by_cases e5:x5=y5
        ·subst e5
         by_cases e6:x6=y6
         ·subst e6
          go_wp2
          go_quiet (fail)
          go_wp2
          go_roundw
          case rel=>exact⟨k+1,by omega,by go_num,below_drewN' hb _,by show _=_;rw [take_at hl.out,take_at hl'.out,heq.out]⟩
          case measure=>simp [intOf];omega
         ·have hn:(x6==y6)=false:=by simp [e6]
          have hll:Hid (l≠l'):=by
           intro e
           have:=hl.out;rw [e,hl'.out] at this
           have:=congrArg ConnP.pos (Option.some.inj this)
           exact e6 this.symm
          clear e6
          go_wp2
          go_quiet (fail)
          go_wp2
          go_returns
          exact⟨ret_bool (by symm;rw [decide_eq_false_iff_not];exact hll.out),below_drewN' hb _⟩
        ·have hn:(x5==y5)=false:=by simp [e5]
         have hll:Hid (l≠l'):=by
          intro e
          have:=hl.out;rw [e,hl'.out] at this
          have:=congrArg ConnP.run (Option.some.inj this)
          exact e5 this.symm
         clear e5
         go_wp2
         go_quiet (fail)
         go_wp2
         go_returns
         exact⟨ret_bool (by symm;rw [decide_eq_false_iff_not];exact hll.out),below_drewN' hb _⟩
       ·have hn:(x4==y4)=false:=by simp [e4]
        have hll:Hid (l≠l'):=by
         intro e
         have:=hl.out;rw [e,hl'.out] at this
         have:=congrArg ConnP.to_ (Option.some.inj this)
         exact e4 this.symm
        clear e4
        go_wp2
        go_quiet (fail)
        go_wp2
        go_returns
        exact⟨ret_bool (by symm;rw [decide_eq_false_iff_not];exact hll.out),below_drewN' hb _⟩
      ·have hn:(x3==y3)=false:=by simp [e3]
       have hll:Hid (l≠l'):=by
        intro e
        have:=hl.out;rw [e,hl'.out] at this
        have:=congrArg ConnP.fr (Option.some.inj this)
        exact e3 this.symm
       clear e3
       go_wp2
       go_quiet (fail)
       go_wp2
       go_returns
       exact⟨ret_bool (by symm;rw [decide_eq_false_iff_not];exact hll.out),below_drewN' hb _⟩
     ·have hn:(x2==y2)=false:=by simp [e2]
      have hll:Hid (l≠l'):=by
       intro e
       have:=hl.out;rw [e,hl'.out] at this
       have:=congrArg ConnP.arr (Option.some.inj this)
       exact e2 this.symm
      clear e2
      go_wp2
      go_quiet (fail)
      go_wp2
      go_returns
      exact⟨ret_bool (by symm;rw [decide_eq_false_iff_not];exact hll.out),below_drewN' hb _⟩
    ·have hn:(x1==y1)=false:=by simp [e1]
     have hll:Hid (l≠l'):=by
      intro e
      have:=hl.out;rw [e,hl'.out] at this
      have:=congrArg ConnP.dep (Option.some.inj this)
      exact e1 this.symm
     clear e1
     go_wp2
     go_quiet (fail)
     go_wp2
     go_returns
     exact⟨ret_bool (by symm;rw [decide_eq_false_iff_not];exact hll.out),below_drewN' hb _⟩
   ·go_wp2
    go_returns
    exact⟨ret_bool (by symm;rw [decide_eq_true_eq];have:=heq.out;rwa [List.take_of_length_le (by rw [hr.len];omega),List.take_of_length_le (by rw [hr'.len];omega)] at this),hb⟩
 ·have hne:((n:Int) !=(n':Int))=true:=by simp;omega
  go_wp2
  go_returns
  exact⟨ret_bool (by symm;rw [decide_eq_false_iff_not];intro e;exact hnn (by rw [←hr.len,←hr'.len,e])),Below.refl _ _⟩
theorem kSameC_any (A:Option Addr) (n c:Nat) (l:List ConnP) (A':Option Addr) (n' c':Nat) (l':List ConnP) (w:World) (hr:Rd w 6 connE A n l) (hr':Rd w 6 connE A' n' l') (hn:n≤1099511627776) (hn':n'≤1099511627776):
 Calls Tryz.prog 30 #[.slice A n c,.slice A' n' c'] w fun e w'=>e= .returned (.bool (decide (l=l')))∧Below w.heap.size w w':=by
 go_enter Tryz.func30,Tryz.ntmps30
 by_cases hnn:n=n'
 ·subst hnn
  go_wp2
  go_loopw [5] (fun i wr=> ∃ (k:Nat),k≤n∧i= .int .i64 k∧Below w.heap.size w wr∧Hid (l.take k=l'.take k)) (fun i _=>n-(intOf i).toNat)
  case atStart=>exact⟨0,Nat.zero_le _,rfl,Below.refl _ _,rfl⟩
  case round=>
   obtain⟨k,hk,rfl,hb,heq⟩:=hrel
   by_cases hlt:k<n
   ·obtain⟨b,o,⟨x1,x2,x3,x4,x5,x6⟩,rfl,hbs,hl,hc⟩:=(hr.below hb).get hlt
    obtain⟨b',o',⟨y1,y2,y3,y4,y5,y6⟩,rfl,hbs',hl',hc'⟩:=(hr'.below hb).get hlt
    have g0:=hc 0 _ rfl
    have f0:=hc' 0 _ rfl
    have g1:=hc 1 _ rfl
    have f1:=hc' 1 _ rfl
    have g2:=hc 2 _ rfl
    have f2:=hc' 2 _ rfl
    have g3:=hc 3 _ rfl
    have f3:=hc' 3 _ rfl
    have g4:=hc 4 _ rfl
    have f4:=hc' 4 _ rfl
    have g5:=hc 5 _ rfl
    have f5:=hc' 5 _ rfl
    simp only [Nat.add_zero] at g0 f0
    have hl:=Lib.hid hl
    have hl':=Lib.hid hl'
    rename_i hx1 hx2;clear hx1 hx2 hc hc'
    have hlt2:(k:Int)<(n:Int):=by omega
    by_cases e1:x1=y1
    ·subst e1
     by_cases e2:x2=y2
     ·subst e2
      by_cases e3:x3=y3
      ·subst e3
       by_cases e4:x4=y4
       ·subst e4
        by_cases e5:x5=y5
        ·subst e5
         by_cases e6:x6=y6
         ·subst e6
          go_wp2
          go_quiet (fail)
          go_wp2
          go_roundw
          case rel=>exact⟨k+1,by omega,by go_num,below_drewN' hb _,by show _=_;rw [take_at hl.out,take_at hl'.out,heq.out]⟩
          case measure=>simp [intOf];omega
         ·have hn:(x6==y6)=false:=by simp [e6]
          have hll:Hid (l≠l'):=by
           intro e
           have:=hl.out;rw [e,hl'.out] at this
           have:=congrArg ConnP.pos (Option.some.inj this)
           exact e6 this.symm
          clear e6
          go_wp2
          go_quiet (fail)
          go_wp2
          go_returns
          exact⟨ret_bool (by symm;rw [decide_eq_false_iff_not];exact hll.out),below_drewN' hb _⟩
        ·have hn:(x5==y5)=false:=by simp [e5]
         have hll:Hid (l≠l'):=by
          intro e
          have:=hl.out;rw [e,hl'.out] at this
          have:=congrArg ConnP.run (Option.some.inj this)
          exact e5 this.symm
         clear e5
         go_wp2
         go_quiet (fail)
         go_wp2
         go_returns
         exact⟨ret_bool (by symm;rw [decide_eq_false_iff_not];exact hll.out),below_drewN' hb _⟩
       ·have hn:(x4==y4)=false:=by simp [e4]
        have hll:Hid (l≠l'):=by
         intro e
         have:=hl.out;rw [e,hl'.out] at this
         have:=congrArg ConnP.to_ (Option.some.inj this)
         exact e4 this.symm
        clear e4
        go_wp2
        go_quiet (fail)
        go_wp2
        go_returns
        exact⟨ret_bool (by symm;rw [decide_eq_false_iff_not];exact hll.out),below_drewN' hb _⟩
      ·have hn:(x3==y3)=false:=by simp [e3]
       have hll:Hid (l≠l'):=by
        intro e
        have:=hl.out;rw [e,hl'.out] at this
        have:=congrArg ConnP.fr (Option.some.inj this)
        exact e3 this.symm
       clear e3
       go_wp2
       go_quiet (fail)
       go_wp2
       go_returns
       exact⟨ret_bool (by symm;rw [decide_eq_false_iff_not];exact hll.out),below_drewN' hb _⟩
     ·have hn:(x2==y2)=false:=by simp [e2]
      have hll:Hid (l≠l'):=by
       intro e
       have:=hl.out;rw [e,hl'.out] at this
       have:=congrArg ConnP.arr (Option.some.inj this)
       exact e2 this.symm
      clear e2
      go_wp2
      go_quiet (fail)
      go_wp2
      go_returns
      exact⟨ret_bool (by symm;rw [decide_eq_false_iff_not];exact hll.out),below_drewN' hb _⟩
    ·have hn:(x1==y1)=false:=by simp [e1]
     have hll:Hid (l≠l'):=by
      intro e
      have:=hl.out;rw [e,hl'.out] at this
      have:=congrArg ConnP.dep (Option.some.inj this)
      exact e1 this.symm
     clear e1
     go_wp2
     go_quiet (fail)
     go_wp2
     go_returns
     exact⟨ret_bool (by symm;rw [decide_eq_false_iff_not];exact hll.out),below_drewN' hb _⟩
   ·go_wp2
    go_returns
    exact⟨ret_bool (by symm;rw [decide_eq_true_eq];have:=heq.out;rwa [List.take_of_length_le (by rw [hr.len];omega),List.take_of_length_le (by rw [hr'.len];omega)] at this),hb⟩
 ·have hne:((n:Int) !=(n':Int))=true:=by simp;omega
  go_wp2
  go_returns
  exact⟨ret_bool (by symm;rw [decide_eq_false_iff_not];intro e;exact hnn (by rw [←hr.len,←hr'.len,e])),Below.refl _ _⟩
theorem csame_any (A:Option Addr) (n c:Nat) (l:List ConnP) (A':Option Addr) (n' c':Nat) (l':List ConnP) (w:World) (hr:Rd w 6 connE A n l) (hr':Rd w 6 connE A' n' l') (hn:n≤1099511627776) (hn':n'≤1099511627776):
 Calls Tryz.prog 26 #[.slice A n c,.slice A' n' c'] w fun e w'=>e= .returned (.bool (decide (l=l')))∧Below w.heap.size w w':=by
 have h:=Lib.hid (eqC_any A n c l A' n' c' l' w hr hr' hn hn')
 clear hr hr'
 go_enter Tryz.func26,Tryz.ntmps26
 go_wp2_with fail
 refine h.out.mono ?_;rintro e w2 ⟨rfl,hb⟩
 have hbH:=Lib.hid hb
 clear hb
 go_wp2_with fail
 go_returns
 exact⟨rfl,hbH.out⟩
end Go.Proofs.YtechdefolfboeaaGreatDoor
