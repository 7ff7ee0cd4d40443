/- Merged. -/
import Derived.Shelf.GgSortFunc.InsertionK
import Derived.Test.YtechdefolfboeaaGreatDoorPo24
set_option linter.unusedVariables false
set_option linter.unusedSimpArgs false
set_option maxHeartbeats 4000000
namespace Go.Proofs.YtechdefolfboeaaGreatDoor
open Go.RowKit B K
theorem nanI_any (x:Int) (w:World):Calls Tryz.prog 141 #[.int .i64 x] w fun e w'=>e= .returned (.bool false)∧w=w':=by
 go_enter Tryz.func141,Tryz.ntmps141
 go_wp2
 go_returns;exact⟨rfl,rfl⟩
theorem nanL_any (x:Int) (w:World):Calls Tryz.prog 140 #[.int .i64 x] w fun e w'=>e= .returned (.bool false)∧w=w':=by
 go_enter Tryz.func140,Tryz.ntmps140
 go_wp2
 go_returns;exact⟨rfl,rfl⟩
theorem cmpI_any (x y:Int) (w:World):Calls Tryz.prog 104 #[.int .i64 x,.int .i64 y] w fun e w'=>e= .returned (.int .i64 (cmpI x y))∧w'=w:=by
 go_enter Tryz.func104,Tryz.ntmps104;by_cases h1:x<y
 ·go_wp2_with (go_at_call 141;refine(nanI_any _ _).mono ?_;rintro e w' ⟨rfl,rfl⟩);go_returns;exact⟨ret_int (by unfold K.cmpI;rw [if_pos h1]),rfl⟩
 ·by_cases h2:y<x
  ·go_wp2_with (go_at_call 141;refine(nanI_any _ _).mono ?_;rintro e w' ⟨rfl,rfl⟩);go_returns;exact⟨ret_int (by unfold K.cmpI;rw [if_neg (by omega),if_pos h2]),rfl⟩
  ·go_wp2_with (go_at_call 141;refine(nanI_any _ _).mono ?_;rintro e w' ⟨rfl,rfl⟩);go_returns;exact⟨ret_int (by unfold K.cmpI;rw [if_neg (by omega),if_neg (by omega)]),rfl⟩
theorem cmpL_any (x y:Int) (w:World):Calls Tryz.prog 103 #[.int .i64 x,.int .i64 y] w fun e w'=>e= .returned (.int .i64 (cmpI x y))∧w'=w:=by
 go_enter Tryz.func103,Tryz.ntmps103;by_cases h1:x<y
 ·go_wp2_with (go_at_call 140;refine(nanL_any _ _).mono ?_;rintro e w' ⟨rfl,rfl⟩);go_returns;exact⟨ret_int (by unfold K.cmpI;rw [if_pos h1]),rfl⟩
 ·by_cases h2:y<x
  ·go_wp2_with (go_at_call 140;refine(nanL_any _ _).mono ?_;rintro e w' ⟨rfl,rfl⟩);go_returns;exact⟨ret_int (by unfold K.cmpI;rw [if_neg (by omega),if_pos h2]),rfl⟩
  ·go_wp2_with (go_at_call 140;refine(nanL_any _ _).mono ?_;rintro e w' ⟨rfl,rfl⟩);go_returns;exact⟨ret_int (by unfold K.cmpI;rw [if_neg (by omega),if_neg (by omega)]),rfl⟩
def firstN:List Int→Int
 |[]=>0
 |x::l=>or2 x (firstN l)
theorem firstN_go {l:List Int} {i:Nat} {x:Int} (h:l[i]?=some x) (hx:x=0):firstN (l.drop i)=firstN (l.drop (i+1)):=by
 rw [drop_at h,firstN,hx];unfold or2;simp
theorem firstN_at {l:List Int} {i:Nat} {x:Int} (h:l[i]?=some x) (hx:x≠0):firstN (l.drop i)=x:=by
 rw [drop_at h,firstN];unfold or2;rw [if_pos hx]
theorem or_any (l:List Int) (A:Option Addr) (n c:Nat) (w:World) (hr:Rd w 1 (numE .i64) A n l) (hn:n≤1099511627776):
 Calls Tryz.prog 102 #[.slice A n c] w fun e w'=>e= .returned (.int .i64 (firstN l))∧w'=w:=by
 have hl:=H_ hr.len;have hrH:=H_ hr;clear hr;go_enter Tryz.func102,Tryz.ntmps102;go_wp2_with fail;go_loopw [8] (fun iv wr=> ∃ i:Nat,i≤n∧iv= .int .i64 i∧Hid (firstN (l.drop i)=firstN l)∧wr=w) (fun iv _=>n-(intOf iv).toNat)
 case atStart=>exact⟨0,Nat.zero_le _,rfl,rfl,rfl⟩
 case round=>
  obtain⟨i,hi,rfl,hp,rfl⟩:=hrel;by_cases hin:i<n
  ·have hinI:(i:Int)<(n:Int):=by omega
   obtain⟨b,o,y,rfl,hb0,hx,g0⟩:=hrH.out.num hin;by_cases hy:y=0
   ·have hy':(y !=0)=false:=by simp [hy]
    have hnx:Hid (firstN (l.drop (i+1))=firstN l):=by show _=_;rw [←firstN_go hx hy];exact hp.out
    clear hx hp hy;go_wp2_with fail;go_roundw
    case rel=>exact⟨i+1,by omega,by go_num,hnx,trivial⟩
    case measure=>simp [intOf];omega
   ·have hy':(y !=0)=true:=by simp [hy]
    have hres:Hid (firstN l=y):=by show _=_;rw [←hp.out];exact firstN_at hx hy
    clear hx hp hy;go_wp2_with fail;go_returns;exact⟨by rw [hres.out];rfl,rfl⟩
  ·have hres:Hid (firstN l=0):=by show _=_;rw [←hp.out,List.drop_eq_nil_of_le (by rw [hl.out];omega)];rfl
   clear hp;go_wp2_with fail;go_returns;exact⟨by rw [hres.out];rfl,rfl⟩
theorem ordC_first (a b:ConnP):ordC a b=firstN [cmpI a.dep b.dep,cmpI a.arr b.arr,cmpI a.run b.run,cmpI a.pos b.pos]:=by
 simp only [firstN,or2_zero];rfl
theorem or4_any (a b c d:Int) (bk:Nat) (w:World) (h0:w.cell? ⟨bk,0,none⟩=some (.int .i64 a)) (h1:w.cell? ⟨bk,1,none⟩=some (.int .i64 b)) (h2:w.cell? ⟨bk,2,none⟩=some (.int .i64 c)) (h3:w.cell? ⟨bk,3,none⟩=some (.int .i64 d)):
 Calls Tryz.prog 102 #[.slice (some ⟨bk,0,none⟩) 4 4] w fun e w'=>e= .returned (.int .i64 (firstN [a,b,c,d]))∧w'=w:=by
 refine or_any [a,b,c,d] _ 4 4 w ⟨rfl,fun _=>⟨bk,0,rfl,World.block_lt_of_cell? w ⟨bk,0,none⟩ h0,fun i x hx j u hu=>?_⟩⟩ (by omega);have hj:=(List.getElem?_eq_some_iff.1 hu).1;obtain rfl:j=0:=by simp [numE] at hj;omega
 simp [numE] at hu;subst hu
 match i,hx with
 |0,hx=>simp at hx;subst hx;exact h0
 |1,hx=>simp at hx;subst hx;exact h1
 |2,hx=>simp at hx;subst hx;exact h2
 |3,hx=>simp at hx;subst hx;exact h3
 |i+4,hx=>simp at hx
set_option maxRecDepth 100000 in
theorem ccmp_any (a b:ConnP) (w:World):Calls Tryz.prog 61 #[.agg (connE a).toArray,.agg (connE b).toArray] w fun e w'=>e= .returned (.int .i64 (ordC a b))∧Grew w w':=by
 have ho:=H_ (ordC_first a b);obtain⟨a1,a2,a3,a4,a5,a6⟩:=a;obtain⟨b1,b2,b3,b4,b5,b6⟩:=b;simp only [connE];go_enter Tryz.func61,Tryz.ntmps61;go_wp2_with fail;refine wp_tail0 20 (by kernel_rfl) (by kernel_rfl) ?_;simp only [List.take_succ_cons,List.take_zero,List.drop_succ_cons,List.drop_zero]
 iterate 4 still_step
 still_call (cmpL_any _ _ _)
 iterate 4 still_step
 still_call (cmpL_any _ _ _)
 iterate 4 still_step
 still_call (cmpI_any _ _ _)
 iterate 4 still_step
 still_call (cmpI_any _ _ _)
 refine wpStill_nil ?_;go_wp2_with (go_at_call 102;refine(or4_any (K.cmpI a1 b1) (K.cmpI a2 b2) (K.cmpI a5 b5) (K.cmpI a6 b6) _ _ (by simp [go_sem]) (by simp [go_sem]) (by simp [go_sem]) (by simp [go_sem])).mono ?_;rintro e w' ⟨rfl,rfl⟩);go_returns;exact⟨by rw [ho.out];rfl,((((Grew.refl w).alloc _).alloc _).alloc _).drewN 1⟩
end Go.Proofs.YtechdefolfboeaaGreatDoor
namespace Go.Proofs.YtechdefolfboeaaGreatDoor.B
open Go.RowKit Go.Sort
theorem flatMap_get {α:Type} [Inhabited α] {enc:α→List Value} {k:Nat} (hk: ∀ x,(enc x).length =k) (k0:0<k) {l:List α} {j:Nat} (hj:j<l.length*k):(l.flatMap enc)[j]?=some ((enc (l.toArray[j / k]!))[j % k]!):=by
 have hl:j / k<l.length:=Nat.div_lt_of_lt_mul (by rw [Nat.mul_comm];exact hj);have hm:j % k<k:=Nat.mod_lt _ k0;have hx:l[j / k]?=some l[j / k]:=List.getElem?_eq_getElem hl;have hy:(enc l[j / k])[j % k]?=some ((enc l[j / k])[j % k]'(by rw [hk];exact hm)):=List.getElem?_eq_getElem (by rw [hk];exact hm);have:=flatMap_at hk l _ _ hx _ _ hy;rw [show j / k*k+j % k=j by rw [Nat.mul_comm];exact Nat.div_add_mod j k] at this;rw [this];have e1:l.toArray[j / k]! =l[j / k]:=by rw [getElem!_pos _ _ (by simpa using hl)];simp
 rw [e1,getElem!_pos _ _ (by rw [hk];exact hm)]
theorem holdsK_of_own {α:Type} [Inhabited α] {enc:α→List Value} {k:Nat} (hk: ∀ x,(enc x).length =k) (k0:0<k) {w:World} {base:Nat} {e:TypeId} {g c:Nat} {l:List α} (h:w.ownsRow base e k (.slice (some ⟨g,0,none⟩) l.length c) l.length (l.flatMap enc)):
 HoldsK enc k w g 0 l.toArray:=by
 intro j hj;rw [size_flatK] at hj;have hj':j<l.length*k:=by simpa using hj
 rw [get_flatK _ _ _ _ hj,Nat.zero_add];refine⟨?_,h.frozenAt j⟩;rw [h.cellAt j hj',flatMap_get hk k0 hj'];rfl
theorem own_sorted {α:Type} [Inhabited α] {enc:α→List Value} {k:Nat} (hk: ∀ x,(enc x).length =k) (k0:0<k) {w:World} {base:Nat} {e:TypeId} {g c n:Nat} {xs:List Value} (h:w.ownsRow base e k (.slice (some ⟨g,0,none⟩) n c) n xs) (m:Nat) (d:List α) (hd:d.length=n) (os:Array Obj):
 (sortWorldK enc k w g 0 m d.toArray os).ownsRow base e k (.slice (some ⟨g,0,none⟩) n c) n (d.flatMap enc)∧w.grownBy (sortWorldK enc k w g 0 m d.toArray os) (some g):=by
 have hlt:=(h.lt g rfl).2
 have hflat:(d.flatMap enc).length =n*k:=by
  rw [←hd];clear hd h
  induction d with
  |nil=>simp
  |cons x r ih=>rw [List.flatMap_cons,List.length_append,hk,ih,List.length_cons,Nat.succ_mul];omega
 have hsize:(putRowK enc k (Sort.ahead w m) g 0 d.toArray).heap.size =w.heap.size:=by
  show(Array.modify w.heap g _).size =_;simp
 constructor
 ·rcases h.2 with⟨h',_⟩|⟨g',cap',cur,h',hb,hg,hnc,hcm,hcs,htake⟩
  ·simp at h'
  ·simp only [Value.slice.injEq,Option.some.injEq,Addr.mk.injEq,and_true,true_and] at h';obtain⟨rfl,rfl⟩:=h';refine⟨hflat,.inr ⟨g,c,putCells id 0 (flatK enc k d.toArray) cur,rfl,hb,?_,hnc,hcm,?_,?_⟩⟩
   ·show(Array.modify w.heap g _++os)[g]?=_;rw [Array.getElem?_append_left (by simpa using hlt),Array.getElem?_modify,if_pos rfl,hg];rfl
   ·unfold putCells;simpa using hcs
   ·refine List.ext_getElem? fun j=>?_;rw [List.getElem?_take];by_cases hj:j<n*k
    ·rw [if_pos hj,flatMap_get hk k0 (by rw [hd];exact hj)];have hjc:j<cur.size:=by rw [hcs];exact Nat.lt_of_lt_of_le hj (Nat.mul_le_mul_right _ hnc)
     unfold putCells;rw [Array.getElem?_toList,Array.getElem?_mapIdx,Array.getElem?_eq_getElem hjc];simp only [Option.map_some];rw [if_pos ⟨Nat.zero_le _,by rw [size_flatK];simpa [hd] using hj⟩,Nat.sub_zero,get_flatK _ _ _ _ (by simpa [hd] using hj)];rfl
    ·rw [if_neg hj,List.getElem?_eq_none (by rw [hflat];omega)]
 ·refine⟨rfl,rfl,rfl,?_,fun i hi hne=>?_⟩
  ·show w.heap.size≤(Array.modify w.heap g _++os).size;simp
  ·show(Array.modify w.heap g _++os)[i]?=_;rw [Array.getElem?_append_left (by simpa using hi),Array.getElem?_modify,if_neg (fun e=>hne (by rw [e]))]
