/- Merged. -/
import Derived.Shelf.GgSortFunc.InsertionK
import Derived.Test.YtechdefolfboeaaGreatDoorPd24
set_option linter.unusedVariables false
set_option linter.unusedSimpArgs false
set_option maxHeartbeats 4000000
namespace Go.Proofs.YtechdefolfboeaaGreatDoor
open Go.RowKit B K
theorem gx_ (x:Int) (w:World):Calls Tryz.prog 141 #[.int .i64 x] w fun e w'=>e= .returned (.bool false)/\w=w':=by
 go_enter Tryz.func141,Tryz.ntmps141
 go_wp2
 go_returns;exact⟨rfl,rfl⟩
theorem gy_ (x:Int) (w:World):Calls Tryz.prog 140 #[.int .i64 x] w fun e w'=>e= .returned (.bool false)/\w=w':=by
 go_enter Tryz.func140,Tryz.ntmps140
 go_wp2
 go_returns;exact⟨rfl,rfl⟩
theorem ep_ (x y:Int) (w:World):Calls Tryz.prog 104 #[.int .i64 x,.int .i64 y] w fun e w'=>e= .returned (.int .i64 (cmpI x y))/\w'=w:=by
 go_enter Tryz.func104,Tryz.ntmps104;by_cases f:x<y
 ·go_wp2_with (go_at_call 141;refine(gx_ _ _).mono ?_;rintro e w' ⟨rfl,rfl⟩);go_returns;exact⟨ah_ (by unfold K.cmpI;rw [if_pos f]),rfl⟩
 ·by_cases g:y<x
  ·go_wp2_with (go_at_call 141;refine(gx_ _ _).mono ?_;rintro e w' ⟨rfl,rfl⟩);go_returns;exact⟨ah_ (by unfold K.cmpI;rw [if_neg (by omega),if_pos g]),rfl⟩
  ·go_wp2_with (go_at_call 141;refine(gx_ _ _).mono ?_;rintro e w' ⟨rfl,rfl⟩);go_returns;exact⟨ah_ (by unfold K.cmpI;rw [if_neg (by omega),if_neg (by omega)]),rfl⟩
theorem gv_ (x y:Int) (w:World):Calls Tryz.prog 103 #[.int .i64 x,.int .i64 y] w fun e w'=>e= .returned (.int .i64 (cmpI x y))/\w'=w:=by
 go_enter Tryz.func103,Tryz.ntmps103;by_cases f:x<y
 ·go_wp2_with (go_at_call 140;refine(gy_ _ _).mono ?_;rintro e w' ⟨rfl,rfl⟩);go_returns;exact⟨ah_ (by unfold K.cmpI;rw [if_pos f]),rfl⟩
 ·by_cases g:y<x
  ·go_wp2_with (go_at_call 140;refine(gy_ _ _).mono ?_;rintro e w' ⟨rfl,rfl⟩);go_returns;exact⟨ah_ (by unfold K.cmpI;rw [if_neg (by omega),if_pos g]),rfl⟩
  ·go_wp2_with (go_at_call 140;refine(gy_ _ _).mono ?_;rintro e w' ⟨rfl,rfl⟩);go_returns;exact⟨ah_ (by unfold K.cmpI;rw [if_neg (by omega),if_neg (by omega)]),rfl⟩
def bQ_:List Int ->Int
 |[]=>0
 |x::l=>or2 x (bQ_ l)
theorem me_ {l:List Int} {i:Nat} {x:Int} (h:l[i]?=some x) (hx:x=0):bQ_ (l.drop i)=bQ_ (l.drop (i+1)):=by
 rw [a1_ h,bQ_,hx];unfold or2;simp
theorem md_ {l:List Int} {i:Nat} {x:Int} (h:l[i]?=some x) (hx:x≠0):bQ_ (l.drop i)=x:=by
 rw [a1_ h,bQ_];unfold or2;rw [if_pos hx]
theorem px_ (l:List Int) (A:Option Addr) (n c:Nat) (w:World) (hr:Rd w 1 (numE .i64) A n l) (hn:n<=1099511627776):
 Calls Tryz.prog 102 #[.slice A n c] w fun e w'=>e= .returned (.int .i64 (bQ_ l))/\w'=w:=by
 have J:=H_ hr.len;have D:=H_ hr;clear hr;go_enter Tryz.func102,Tryz.ntmps102
 go_wp2
 go_loopw [8] (fun G wr=> ∃ i:Nat,i<=n/\G= .int .i64 i/\Hd (bQ_ (l.drop i)=bQ_ l)/\wr=w) (fun G _=>n-(intOf G).toNat)
 ·exact⟨0,Nat.zero_le _,rfl,rfl,rfl⟩
 ·obtain⟨i,hi,rfl,g,rfl⟩:=hrel;by_cases q:i<n
  ·have aA:(i:Int)<(n:Int):=by omega
   obtain⟨b,o,y,rfl,aB,p,g0⟩:=D.o.num q;by_cases j:y=0
   ·have F:(y !=0)=false:=by simp [j]
    have z:Hd (bQ_ (l.drop (i+1))=bQ_ l):=by show _=_;rw [<-me_ p j];exact g.o
    clear p g j
    go_wp2
    go_roundw
    ·exact⟨i+1,by omega,by go_num,z,trivial⟩
    ·simp [intOf];omega
   ·have F:(y !=0)=true:=by simp [j]
    have f:Hd (bQ_ l=y):=by show _=_;rw [<-g.o];exact md_ p j
    clear p g j
    go_wp2
    go_returns;exact⟨by rw [f.o];rfl,rfl⟩
  ·have f:Hd (bQ_ l=0):=by show _=_;rw [<-g.o,List.drop_eq_nil_of_le (by rw [J.o];omega)];rfl
   clear g
   go_wp2
   go_returns;exact⟨by rw [f.o];rfl,rfl⟩
theorem k2_ (a b:aC_):ordC a b=bQ_ [cmpI a.dep b.dep,cmpI a.arr b.arr,cmpI a.run b.run,cmpI a.pos b.pos]:=by
 simp only [bQ_,i4_];rfl
theorem kq_ (a b c d:Int) (bk:Nat) (w:World) (h0:w.cell? ⟨bk,0,none⟩=some (.int .i64 a)) (h1:w.cell? ⟨bk,1,none⟩=some (.int .i64 b)) (h2:w.cell? ⟨bk,2,none⟩=some (.int .i64 c)) (h3:w.cell? ⟨bk,3,none⟩=some (.int .i64 d)):
 Calls Tryz.prog 102 #[.slice (some ⟨bk,0,none⟩) 4 4] w fun e w'=>e= .returned (.int .i64 (bQ_ [a,b,c,d]))/\w'=w:=by
 refine px_ [a,b,c,d] _ 4 4 w ⟨rfl,fun _=>⟨bk,0,rfl,World.block_lt_of_cell? w ⟨bk,0,none⟩ h0,fun i x f j u g=>?_⟩⟩ (by omega);have n:=(List.getElem?_eq_some_iff.1 g).1;obtain rfl:j=0:=by simp [numE] at n;omega
 simp [numE] at g;subst g
 match i,f with
 |0,f=>simp at f;subst f;exact h0
 |1,f=>simp at f;subst f;exact h1
 |2,f=>simp at f;subst f;exact h2
 |3,f=>simp at f;subst f;exact h3
 |i+4,f=>simp at f
set_option maxRecDepth 100000 in
theorem nj_ (a b:aC_) (w:World):Calls Tryz.prog 61 #[.agg (bt_ a).toArray,.agg (bt_ b).toArray] w fun e w'=>e= .returned (.int .i64 (ordC a b))/\Grew w w':=by
 have D:=H_ (k2_ a b);obtain⟨f,g,a3,a4,j,n⟩:=a;obtain⟨p,q,b3,b4,y,z⟩:=b;simp only [bt_];go_enter Tryz.func61,Tryz.ntmps61;go_wp2_with fail;refine ju_ 20 (by kernel_rfl) (by kernel_rfl) ?_;simp only [List.take_succ_cons,List.take_zero,List.drop_succ_cons,List.drop_zero]
 iterate 4 still_step
 still_call (gv_ _ _ _)
 iterate 4 still_step
 still_call (gv_ _ _ _)
 iterate 4 still_step
 still_call (ep_ _ _ _)
 iterate 4 still_step
 still_call (ep_ _ _ _)
 refine wpStill_nil ?_;go_wp2_with (go_at_call 102;refine(kq_ (K.cmpI f p) (K.cmpI g q) (K.cmpI j y) (K.cmpI n z) _ _ (by simp [go_sem]) (by simp [go_sem]) (by simp [go_sem]) (by simp [go_sem])).mono ?_;rintro e w' ⟨rfl,rfl⟩);go_returns;exact⟨by rw [D.o];rfl,((((Grew.refl w).alloc _).alloc _).alloc _).drewN 1⟩
end Go.Proofs.YtechdefolfboeaaGreatDoor
namespace Go.Proofs.YtechdefolfboeaaGreatDoor
namespace B
open Go.RowKit Go.Sort
theorem ge_ {α:Type} [Inhabited α] {enc:α ->List Value} {k:Nat} (hk: ∀ x,(enc x).length =k) (k0:0<k) {l:List α} {j:Nat} (hj:j<l.length*k):(l.flatMap enc)[j]?=some ((enc (l.toArray[j / k]!))[j % k]!):=by
 have g:j / k<l.length:=Nat.div_lt_of_lt_mul (by rw [Nat.mul_comm];exact hj);have f:j % k<k:=Nat.mod_lt _ k0;have p:l[j / k]?=some l[j / k]:=List.getElem?_eq_getElem g;have q:(enc l[j / k])[j % k]?=some ((enc l[j / k])[j % k]'(by rw [hk];exact f)):=List.getElem?_eq_getElem (by rw [hk];exact f);have:=a8_ hk l _ _ p _ _ q;rw [show j / k*k+j % k=j by rw [Nat.mul_comm];exact Nat.div_add_mod j k] at this;rw [this];have n:l.toArray[j / k]! =l[j / k]:=by rw [getElem!_pos _ _ (by simpa using g)];simp
 rw [n,getElem!_pos _ _ (by rw [hk];exact f)]
theorem il_ {α:Type} [Inhabited α] {enc:α ->List Value} {k:Nat} (hk: ∀ x,(enc x).length =k) (k0:0<k) {w:World} {base:Nat} {e:TypeId} {g c:Nat} {l:List α} (h:w.ownsRow base e k (.slice (some ⟨g,0,none⟩) l.length c) l.length (l.flatMap enc)):
 HoldsK enc k w g 0 l.toArray:=by
 intro j n;rw [size_flatK] at n;have f:j<l.length*k:=by simpa using n
 rw [get_flatK _ _ _ _ n,Nat.zero_add];refine⟨?_,h.frozenAt j⟩;rw [h.cellAt j f,ge_ hk k0 f];rfl
theorem k4_ {α:Type} [Inhabited α] {enc:α ->List Value} {k:Nat} (hk: ∀ x,(enc x).length =k) (k0:0<k) {w:World} {base:Nat} {e:TypeId} {g c n:Nat} {xs:List Value} (h:w.ownsRow base e k (.slice (some ⟨g,0,none⟩) n c) n xs) (m:Nat) (d:List α) (hd:d.length=n) (os:Array Obj):
 (sortWorldK enc k w g 0 m d.toArray os).ownsRow base e k (.slice (some ⟨g,0,none⟩) n c) n (d.flatMap enc)/\w.grownBy (sortWorldK enc k w g 0 m d.toArray os) (some g):=by
 have J:=(h.lt g rfl).2
 have f:(d.flatMap enc).length =n*k:=by
  rw [<-hd];clear hd h
  induction d with
  |nil=>simp
  |cons x r ih=>rw [List.flatMap_cons,List.length_append,hk,ih,List.length_cons,Nat.succ_mul];omega
 have aA:(putRowK enc k (Sort.ahead w m) g 0 d.toArray).heap.size =w.heap.size:=by
  show(Array.modify w.heap g _).size =_;simp
 constructor
 ·rcases h.2 with⟨D,_⟩|⟨g',aC,q,D,M,N,z,F,y,aB⟩
  ·simp at D
  ·simp only [Value.slice.injEq,Option.some.injEq,Addr.mk.injEq,and_true,true_and] at D;obtain⟨rfl,rfl⟩:=D;refine⟨f,.inr ⟨g,c,putCells id 0 (flatK enc k d.toArray) q,rfl,M,?_,z,F,?_,?_⟩⟩
   ·show(Array.modify w.heap g _++os)[g]?=_;rw [Array.getElem?_append_left (by simpa using J),Array.getElem?_modify,if_pos rfl,N];rfl
   ·unfold putCells;simpa using y
   ·refine List.ext_getElem? fun j=>?_;rw [List.getElem?_take];by_cases p:j<n*k
    ·rw [if_pos p,ge_ hk k0 (by rw [hd];exact p)];have G:j<q.size:=by rw [y];exact Nat.lt_of_lt_of_le p (Nat.mul_le_mul_right _ z)
     unfold putCells;rw [Array.getElem?_toList,Array.getElem?_mapIdx,Array.getElem?_eq_getElem G];simp only [Option.map_some];rw [if_pos ⟨Nat.zero_le _,by rw [size_flatK];simpa [hd] using p⟩,Nat.sub_zero,get_flatK _ _ _ _ (by simpa [hd] using p)];rfl
    ·rw [if_neg p,List.getElem?_eq_none (by rw [f];omega)]
 ·refine⟨rfl,rfl,rfl,?_,fun i P L=>?_⟩
  ·show w.heap.size<=(Array.modify w.heap g _++os).size;simp
  ·show(Array.modify w.heap g _++os)[i]?=_;rw [Array.getElem?_append_left (by simpa using P),Array.getElem?_modify,if_neg (fun e=>L (by rw [e]))]
end B
