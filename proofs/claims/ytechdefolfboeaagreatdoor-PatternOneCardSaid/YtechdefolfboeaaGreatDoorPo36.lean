/- Merged. -/
import Derived.Test.YtechdefolfboeaaGreatDoorPo33
set_option linter.unusedVariables false
set_option linter.unusedSimpArgs false
set_option maxRecDepth 100000
set_option maxHeartbeats 2000000
namespace Go.Proofs.YtechdefolfboeaaGreatDoor
open Go.RowKit B K
structure SW (w0:World) (A:Option Addr) (n:Nat) (L:List RunP) (wS:World) (g m c:Nat) (d:Array Int) (w:World):Prop where
 own:w.ownsRow g 3 1 (.slice (some ⟨g,0,none⟩) m c) m (d.toList.flatMap (numE .i64))
 sz:d.size=m
 b0:Below w0.heap.size w0 w
 low:w0.heap.size≤g
 rk:RunsK w0 A n L
 dl:DepsL L
 inn: ∀ i,i<m→d[i]! ∈natI L.length
 gr:wS.grownBy w (some g)
section
variable {w0 wS w w':World} {A:Option Addr} {n g m c:Nat} {L:List RunP} {d:Array Int}
theorem SW.below (h:SW w0 A n L wS g m c d w) (hb:Below w.heap.size w w'):SW w0 A n L wS g m c d w':=
 ⟨own_below h.own hb,h.sz,u_ h.b0 hb,h.low,h.rk,h.dl,h.inn,⟨hb.os.trans h.gr.os,hb.tape.trans h.gr.tape,hb.output.trans h.gr.output,Nat.le_trans h.gr.size hb.size,fun k hk hne=>(hb.block k (Nat.lt_of_lt_of_le hk h.gr.size)).trans (h.gr.block k hk hne)⟩⟩
theorem SW.lt (h:SW w0 A n L wS g m c d w):g<w.heap.size:=(h.own.lt g rfl).2
theorem SW.cell (h:SW w0 A n L wS g m c d w) {j:Nat} (hj:j<m):w.cell? ⟨g,j,none⟩=some (.int .i64 d[j]!):=by
 refine(h.own.cellAt j (by omega)).trans ?_
 have hx:d.toList[j]?=some d[j]! :=by
  have hs:=h.sz;rw [getElem!_pos d j (by omega),Array.getElem?_toList,Array.getElem?_eq_getElem (by omega)]
 have:=flatMap_at (enc:=numE .i64) num_len d.toList j _ hx 0 _ rfl;rw [Nat.mul_one,Nat.add_zero] at this;exact this
theorem SW.frozen (h:SW w0 A n L wS g m c d w) (j:Nat):w.frozen? ⟨g,j,none⟩=false:=h.own.frozenAt j
theorem SW.cmp (cA:Nat) (h:SW w0 A n L wS g m c d w) {i j:Nat} (hi:i<m) (hj:j<m) (hw:Below w.heap.size w w'):Calls Tryz.prog 82 #[.slice A n cA,.int .i64 d[i]!,.int .i64 d[j]!] w' fun e w2=>e= .returned (.int .i64 (ordR L d[i]! d[j]!))∧Below w'.heap.size w' w2:=by
 have h1:=h.rk.below (h.below hw).b0;exact pcmp_any A n cA L w' h1.rr h1.n5 h.dl _ _ (h.inn i hi) (h.inn j hj)
theorem set_one (h:SW w0 A n L wS g m c d w) {j:Nat} (hj:j<m) (x:Int) (hx:x∈natI L.length):SW w0 A n L wS g m c (d.setIfInBounds j x) (w.setCell ⟨g,j,none⟩ (.int .i64 x)):=by
 have hs:=h.sz;have h1:=h.own.stored j (.int .i64 x);have hB:Below g w (w.setCell ⟨g,j,none⟩ (.int .i64 x)):=((Below.refl w.heap.size w).mono (Nat.le_of_lt h.lt)).setCell (Nat.le_refl _) _;refine⟨?_,by simpa using hs,h.b0.trans (hB.mono h.low),h.low,h.rk,h.dl,fun i hi=>?_,⟨h1.2.os.trans h.gr.os,h1.2.tape.trans h.gr.tape,h1.2.output.trans h.gr.output,Nat.le_trans h.gr.size h1.2.size,fun k hk hne=>(h1.2.block k (Nat.lt_of_lt_of_le hk h.gr.size) hne).trans (h.gr.block k hk hne)⟩⟩
 ·have e:(d.setIfInBounds j x).toList.flatMap (numE .i64)=(d.toList.flatMap (numE .i64)).set j (.int .i64 x):=by
   rw [Array.toList_setIfInBounds,numFlat,numFlat,List.map_set]
  rw [e];exact h1.1
 ·by_cases e:i=j
  ·subst e;rw [getElem!_pos _ i (by simpa [hs] using hi)];simpa using hx
  ·rw [getElem!_pos _ i (by simpa [hs] using hi),Array.getElem_setIfInBounds_ne (by omega) (Ne.symm e),←getElem!_pos d i (by omega)];exact h.inn i hi
theorem SW.swap (h:SW w0 A n L wS g m c d w) {i j:Nat} (hi:i<m) (hj:j<m): ∃ W1 W2,w.cell? ⟨g,i,none⟩=some (.int .i64 d[i]!)∧w.frozen? ⟨g,i,none⟩=false∧w.setCell ⟨g,i,none⟩ (.int .i64 d[j]!)=W1∧
 (∃ y,W1.cell? ⟨g,j,none⟩=some (.int .i64 y))∧W1.frozen? ⟨g,j,none⟩=false∧W1.setCell ⟨g,j,none⟩ (.int .i64 d[i]!)=W2∧SW w0 A n L wS g m c (Sort.swp d i j) W2:=by
 have h1:=set_one h hi _ (h.inn j hj);exact⟨_,_,h.cell hi,h.frozen i,rfl,⟨_,h1.cell hj⟩,h1.frozen j,rfl,set_one h1 hj _ (h.inn i hi)⟩
end
theorem swoR (L:List RunP):Sort.SWO (ltR L) where
 irrefl x:=ltR_irr x
 trans x y z h1 h2:=ltR_tr h1 h2
 ntrans x y z h1 h2:=ltR_ntr h1 h2
theorem insInner_stop {lt:Int→Int→Bool} {a j:Nat} {d:Array Int} (h:j≤a):Sort.insInner lt a j d=d:=by
 cases j with
 |zero=>rfl
 |succ j=>rw [Sort.insInner,show decide (j+1>a)=false from F_ (by omega)];rfl
theorem insInner_no {lt:Int→Int→Bool} {a j:Nat} {d:Array Int} (h:lt d[j+1]! d[j]! =false):Sort.insInner lt a (j+1) d=d:=by
 rw [Sort.insInner,h];simp
theorem insInner_yes {lt:Int→Int→Bool} {a j:Nat} {d:Array Int} (h1:a<j+1) (h:lt d[j+1]! d[j]! =true):Sort.insInner lt a (j+1) d=Sort.insInner lt a j (Sort.swp d (j+1) j):=by
 rw [Sort.insInner,h,show decide (j+1>a)=true from T_ h1];simp
theorem insOuter_stop {lt:Int→Int→Bool} {a b i:Nat} {d:Array Int} (h: ¬ i<b):Sort.insOuter lt a b i d=d:=by rw [Sort.insOuter,if_neg h]
theorem insOuter_go {lt:Int→Int→Bool} {a b i:Nat} {d:Array Int} (h:i<b):Sort.insOuter lt a b i d=Sort.insOuter lt a b (i+1) (Sort.insInner lt a i d):=by rw [Sort.insOuter,if_pos h]
theorem ins_any {w0 wS w:World} {A:Option Addr} {n g m c:Nat} {L:List RunP} {d:Array Int} (cA:Nat) (hS:SW w0 A n L wS g m c d w) (hm:m≤100000) (a b:Nat) (hb:b≤m) (ha:a≤m):
 Calls Tryz.prog 147 #[.slice (some ⟨g,0,none⟩) m c,.int .i64 (a:Int),.int .i64 (b:Int),.func (.func 82) #[.slice A n cA] #[]] w fun e w'=>e= .returned (.tuple #[])∧SW w0 A n L wS g m c (Sort.insertionSort (ltR L) d a b) w':=by
 have hS0:=H_ hS;obtain⟨R,hR⟩: ∃ R,Sort.insertionSort (ltR L) d a b=R:=⟨_,rfl⟩
 rw [hR];have hR0:Hid (Sort.insOuter (ltR L) a b (a+1) d=R):=hR;clear hS hR;go_enter Tryz.func147,Tryz.ntmps147;go_wp2_with fail;go_loopw [8] (fun iv wr=> ∃ (i:Nat) (d:Array Int),a<i∧i≤m+1∧iv= .int .i64 i∧Hid (SW w0 A n L wS g m c d wr)∧Hid (Sort.insOuter (ltR L) a b i d=R)) (fun iv _=>m+1-(intOf iv).toNat)
 case atStart=>exact⟨a+1,d,by omega,by omega,by go_num,hS0,hR0⟩
 case round=>
  clear hS0 hR0;obtain⟨i,d,hai,him,rfl,hS,hR⟩:=hrel;by_cases hib:i<b
  ·have hibI:(i:Int)<(b:Int):=by omega
   obtain⟨wo,rfl⟩: ∃ wo:World,wo=wr:=⟨_,rfl⟩
   have hR2:Hid (Sort.insOuter (ltR L) a b (i+1) (Sort.insInner (ltR L) a i d)=R):=by show _=_;rw [←hR.out];exact(insOuter_go hib).symm
   obtain⟨R2,hR3⟩: ∃ q,Sort.insInner (ltR L) a i d=q:=⟨_,rfl⟩
   rw [hR3] at hR2;have hR4:Hid (Sort.insInner (ltR L) a i d=R2):=hR3;clear hR hR3;go_wp2_with fail;go_loopw [9] (fun jv wr=> ∃ (j:Nat) (d:Array Int),a≤j∧j≤i∧jv= .int .i64 j∧Hid (SW w0 A n L wS g m c d wr)∧Hid (Sort.insInner (ltR L) a j d=R2)) (fun jv _=>(intOf jv).toNat)
   case atStart=>exact⟨i,d,by omega,Nat.le_refl _,rfl,hS,hR4⟩
   case round=>
    clear hS hR4;obtain⟨j,d,haj,hji,rfl,hS,hR⟩:=hrel;by_cases hja:a<j
    ·obtain⟨j,rfl⟩: ∃ k,j=k+1:=⟨j-1,by omega⟩
     have hjaI:(a:Int)<(j:Int)+1:=by omega
     have hj1:j+1<m:=by omega
     have hj0:j<m:=by omega
     have hj1I:(j:Int)+1<(m:Int):=by omega
     have hj0I:(j:Int)<(m:Int):=by omega
     have hs1:IntKind.i64.wrap ((j:Int)+1-1)=j:=by rw [IntWalk.i64_in _ (by omega)];omega
     obtain⟨o,ho⟩: ∃ o,ordR L d[j+1]! d[j]! =o:=⟨_,rfl⟩
     have hcmp:Hid (∀ {U:World},Below wr.heap.size wr U→Calls Tryz.prog 82 #[.slice A n cA,.int .i64 d[j+1]!,.int .i64 d[j]!] U fun e w'=>e= .returned (.int .i64 o)∧Below U.heap.size U w'):=fun hU=>by rw [←ho];exact hS.out.cmp cA hj1 hj0 hU
     have hlt:ltR L d[j+1]! d[j]! =decide (o<0):=by rw [←ho];rfl
     by_cases hod:o<0
     ·have hod':decide (o<0)=true:=T_ hod;have hRn:Hid (Sort.insInner (ltR L) a j (Sort.swp d (j+1) j)=R2):=by show _=_;rw [←hR.out];exact(insInner_yes hja (by rw [hlt];exact hod')).symm
      clear hR ho hlt;go_wp2_with fail;have hbW:Hid (Below wr.heap.size wr wr):=Below.refl _ _;go_upto_region 4 with fail;refine wb_ wr.heap.size ?_;intro C hC
      repeat(go_big_quiet_step (first
       |((intro _;with_reducible rfl))
       |(intro hc;have hcw:=b_ hbW hc;have m0:=(hS.out.below hcw).cell hj1;have m1:=(hS.out.below hcw).cell hj0;simp only [m0,m1,Result.andThen];exact⟨trivial,rfl⟩)
       |(intro hc;have hcw:=b_ hbW hc;(with_reducible refine(hcmp.out hcw).mono ?_);rintro e w'' ⟨rfl,hw⟩;exact⟨rfl,u_ hc hw⟩)))
      refine wpQuiet_nil ?_;intro w9 hb9;clear hC;have hS9:=H_ (hS.out.below hb9);clear hb9 hS hbW;go_wp2_with fail;go_upto_region 6 with fail;refine wp_region_late [0,0,1,1,1,0,0,0,0,0,0,0,0,0,0,2,2,2] (by kernel_rfl) (by kernel_rfl) ?_;intro C hC;simp only [pickK,Nat.reduceEqDiff, ↓reduceIte]
      repeat(go_big_quiet_step (first
       |(intro _;with_reducible rfl)
       |(intro hc;have m0:=(hS9.out.below hc).cell hj1;have m1:=(hS9.out.below hc).cell hj0;simp only [m0,m1,Result.andThen];exact⟨trivial,rfl⟩)))
      refine wpQuiet_nil ?_;clear hC;intro C' hC'
      repeat(go_big_quiet_step (first|(intro _;with_reducible rfl)))
      refine wpQuiet_nil ?_;clear hC';intro wq hbq;obtain⟨W1,W2,c1,f1,k1,⟨y9,c2⟩,f2,k2,hS2⟩:=(hS9.out.below hbq).swap hj1 hj0;replace hS2:=H_ hS2;clear hbq;go_wp2_with fail;go_roundw
      case rel=>exact⟨j,_,by omega,by omega,by go_num,hS2,hRn⟩
      case measure=>simp [intOf]<;>omega
     ·have hod':decide (o<0)=false:=F_ hod;have hRn:Hid (d=R2):=by show _=_;rw [←hR.out];exact(insInner_no (by rw [hlt];exact hod')).symm
      clear hR ho hlt;go_wp2_with fail;have hbW:Hid (Below wr.heap.size wr wr):=Below.refl _ _;go_upto_region 4 with fail;refine wb_ wr.heap.size ?_;intro C hC
      repeat(go_big_quiet_step (first
       |((intro _;with_reducible rfl))
       |(intro hc;have hcw:=b_ hbW hc;have m0:=(hS.out.below hcw).cell hj1;have m1:=(hS.out.below hcw).cell hj0;simp only [m0,m1,Result.andThen];exact⟨trivial,rfl⟩)
       |(intro hc;have hcw:=b_ hbW hc;(with_reducible refine(hcmp.out hcw).mono ?_);rintro e w'' ⟨rfl,hw⟩;exact⟨rfl,u_ hc hw⟩)))
      refine wpQuiet_nil ?_;intro w9 hb9;clear hC;have hS9:=H_ (hS.out.below hb9);clear hb9 hS hbW;rw [hRn.out] at hS9;go_wp2_with fail;go_roundw
      case rel=>exact⟨i+1,R2,by omega,by omega,by go_num,hS9,hR2⟩
      case measure=>simp [intOf]<;>omega
    ·obtain rfl:a=j:=by omega
     have hRn:Hid (d=R2):=by show _=_;rw [←hR.out];exact(insInner_stop (Nat.le_refl _)).symm
     have hjaF:decide ((a:Int)<(a:Int))=false:=F_ (by omega);clear hR;go_wp2_with fail;go_upto_region 4 with fail;refine wb_ wr.heap.size ?_;intro C hC
     repeat(go_big_quiet_step (first
      |((intro _;with_reducible rfl))
     ))
     refine wpQuiet_nil ?_;intro w9 hb9;clear hC;have hS9:=H_ (hS.out.below hb9);clear hb9 hS;rw [hRn.out] at hS9;go_wp2_with fail;go_roundw
     case rel=>exact⟨i+1,R2,by omega,by omega,by go_num,hS9,hR2⟩
     case measure=>simp [intOf]<;>omega
  ·have hRn:Hid (d=R):=by show _=_;rw [←hR.out];exact(insOuter_stop hib).symm
   have hibI: ¬ (i:Int)<(b:Int):=by omega
   go_wp2_with fail;go_returns;exact⟨rfl,by rw [←hRn.out];exact hS.out⟩
theorem SW.but {w0 wS w w':World} {A:Option Addr} {n g m c b:Nat} {L:List RunP} {d:Array Int} (h:SW w0 A n L wS g m c d w) (hb:But w w' [b]) (h1:b≠g) (h2:wS.heap.size≤b) (h3:w0.heap.size≤b):SW w0 A n L wS g m c d w':=
 ⟨own_keep h.own fun k hk=>hb.keep k (h.own.lt k hk).2 (by cases hk;simpa using Ne.symm h1),h.sz,h.b0.trans (hb.below h.b0.size (fun x hx=>by simp only [List.mem_singleton] at hx;omega)),h.low,h.rk,h.dl,h.inn,
   ⟨hb.os.trans h.gr.os,hb.tape.trans h.gr.tape,hb.output.trans h.gr.output,Nat.le_trans h.gr.size hb.size,fun k hk hne=>(hb.keep k (Nat.lt_of_lt_of_le hk h.gr.size) (by simp only [List.mem_singleton];omega)).trans (h.gr.block k hk hne)⟩⟩
theorem reverse_go {i j:Nat} {d:Array Int} (h:i<j):Sort.reverseLoop i j d=Sort.reverseLoop (i+1) (j-1) (Sort.swp d i j):=by rw [Sort.reverseLoop,if_pos h]
theorem reverse_stop {i j:Nat} {d:Array Int} (h: ¬ i<j):Sort.reverseLoop i j d=d:=by rw [Sort.reverseLoop,if_neg h]
theorem rev_any {w0 wS w:World} {A:Option Addr} {n g m c:Nat} {L:List RunP} {d:Array Int} (cA:Nat) (hS:SW w0 A n L wS g m c d w) (hm:m≤100000) (a b:Nat) (hb:b+1≤m):
 Calls Tryz.prog 151 #[.slice (some ⟨g,0,none⟩) m c,.int .i64 (a:Int),.int .i64 ((b:Int)+1),.func (.func 82) #[.slice A n cA] #[]] w fun e w'=>e= .returned (.tuple #[])∧SW w0 A n L wS g m c (Sort.reverseRange d a (b+1)) w':=by
 have hS0:=H_ hS;obtain⟨R,hR⟩: ∃ R,Sort.reverseRange d a (b+1)=R:=⟨_,rfl⟩
 rw [hR];have hR0:Hid (Sort.reverseLoop a b d=R):=by show _=_;rw [←hR];rfl
 clear hS hR;go_enter Tryz.func151,Tryz.ntmps151;go_wp2_with fail;go_loopw [8,9] (fun iv jv wr=> ∃ (i j:Nat) (d:Array Int),j<m∧iv= .int .i64 i∧jv= .int .i64 j∧Hid (SW w0 A n L wS g m c d wr)∧Hid (Sort.reverseLoop i j d=R)) (fun iv jv _=>(intOf jv).toNat -(intOf iv).toNat)
 case atStart=>exact⟨a,b,d,by omega,rfl,by go_num,hS0,hR0⟩
 case round=>
  clear hS0 hR0;obtain⟨i,j,d,hjm,rfl,rfl,hS,hR⟩:=hrel;by_cases hij:i<j
  ·have hijI:(i:Int)<(j:Int):=by omega
   obtain⟨k,rfl⟩: ∃ k,j=k+1:=⟨j-1,by omega⟩
   have him:i<m:=by omega
   have himI:(i:Int)<(m:Int):=by omega
   have hjmI:(k:Int)+1<(m:Int):=by omega
   have hRn:Hid (Sort.reverseLoop (i+1) k (Sort.swp d i (k+1))=R):=by show _=_;rw [←hR.out,reverse_go hij];rfl
   clear hR;go_wp2_with fail;go_upto_region 3 with fail;refine wp_region_late [0,0,1,1,0,0,0,0,0,0,0,0,0,2,2,2] (by kernel_rfl) (by kernel_rfl) ?_;intro C hC;simp only [pickK,Nat.reduceEqDiff, ↓reduceIte]
   repeat(go_big_quiet_step (first
    |(intro _;with_reducible rfl)
    |(intro hc;have m0:=(hS.out.below hc).cell him;have m1:=(hS.out.below hc).cell hjm;simp only [m0,m1,Result.andThen];exact⟨trivial,rfl⟩)))
   refine wpQuiet_nil ?_;clear hC;intro C' hC'
   repeat(go_big_quiet_step (first|(intro _;with_reducible rfl)))
   refine wpQuiet_nil ?_;clear hC';intro wq hbq;obtain⟨W1,W2,c1,f1,k1,⟨y9,c2⟩,f2,k2,hS2⟩:=(hS.out.below hbq).swap him hjm;replace hS2:=H_ hS2;clear hbq;go_wp2_with fail;go_roundw
   case rel=>exact⟨i+1,k,_,by omega,by go_num,by go_num,hS2,hRn⟩
   case measure=>simp [intOf]<;>omega
  ·have hijI: ¬ (i:Int)<(j:Int):=by omega
   have hRn:Hid (d=R):=by show _=_;rw [←hR.out];exact(reverse_stop hij).symm
   go_wp2_with fail;go_returns;exact⟨rfl,by rw [←hRn.out];exact hS.out⟩
def RetO2 (P:World→Prop) (bs:Nat) (r:Nat×Nat×Nat) (w:World) (e:Ending) (w':World):Prop:=e= .returned (.tuple #[.int .i64 (r.1:Int),.int .i64 (r.2.1:Int)])∧P w'∧Bx w' bs 3 [.int .i64 (r.2.2:Int)]∧w.heap.size≤w'.heap.size
def RetMd (P:World→Prop) (bs:Nat) (r:Nat×Nat) (w:World) (e:Ending) (w':World):Prop:=e= .returned (.int .i64 (r.1:Int))∧P w'∧Bx w' bs 3 [.int .i64 (r.2:Int)]∧w.heap.size≤w'.heap.size
theorem order2_lt {lt:Int→Int→Bool} {d:Array Int} {a b s m:Nat} (ha:a<m) (hb:b<m):(Sort.order2 lt d a b s).1<m∧(Sort.order2 lt d a b s).2.1<m∧(Sort.order2 lt d a b s).2.2≤s+1:=by
 unfold Sort.order2;split<;>simp<;>omega
theorem o2_any {w0 wS w:World} {A:Option Addr} {n g m c:Nat} {L:List RunP} {d:Array Int} (cA:Nat) (hS:SW w0 A n L wS g m c d w) (hm:m≤100000) (a b s bs:Nat) (ha:a<m) (hb:b<m) (hs:s≤100) (hB:Bx w bs 3 [.int .i64 (s:Int)]) (h1:bs≠g) (h2:wS.heap.size≤bs) (h3:w0.heap.size≤bs):
 Calls Tryz.prog 245 #[.slice (some ⟨g,0,none⟩) m c,.int .i64 (a:Int),.int .i64 (b:Int),.pointer (some ⟨bs,0,none⟩),.func (.func 82) #[.slice A n cA] #[]] w (RetO2 (SW w0 A n L wS g m c d) bs (Sort.order2 (ltR L) d a b s) w):=by
 obtain⟨r,hr⟩: ∃ r,Sort.order2 (ltR L) d a b s=r:=⟨_,rfl⟩
 rw [hr];have hS':=H_ hS;clear hS;have hS:=hS';clear hS';have haI:(a:Int)<(m:Int):=by omega
 have hbI:(b:Int)<(m:Int):=by omega
 have hBH:=H_ hB;obtain⟨o,ho⟩: ∃ o,ordR L d[b]! d[a]! =o:=⟨_,rfl⟩
 have hcmp:Hid (∀ {U:World},Below w.heap.size w U→Calls Tryz.prog 82 #[.slice A n cA,.int .i64 d[b]!,.int .i64 d[a]!] U fun e w'=>e= .returned (.int .i64 o)∧Below U.heap.size U w'):=fun hU=>by rw [←ho];exact hS.out.cmp cA hb ha hU
 have hlt:ltR L d[b]! d[a]! =decide (o<0):=by rw [←ho];rfl
 clear ho;unfold Sort.order2 at hr;rw [hlt] at hr;clear hB hlt;by_cases hod:o<0
 ·have hod':decide (o<0)=true:=T_ hod;rw [if_pos hod'] at hr;subst hr;go_enter Tryz.func245,Tryz.ntmps245;go_wp2_with fail;have hbW:Hid (Below w.heap.size w w):=Below.refl _ _;go_upto_region 1 with fail;refine wb_ w.heap.size ?_;intro C hC
  repeat(go_big_quiet_step (first
   |((intro _;with_reducible rfl))
   |(intro hc;have hcw:=b_ hbW hc;have m0:=(hS.out.below hcw).cell hb;have m1:=(hS.out.below hcw).cell ha;simp only [m0,m1,Result.andThen];exact⟨trivial,rfl⟩)
   |(intro hc;have hcw:=b_ hbW hc;(with_reducible refine(hcmp.out hcw).mono ?_);rintro e w'' ⟨rfl,hw⟩;exact⟨rfl,u_ hc hw⟩)))
  refine wpQuiet_nil ?_;intro w9 hb9;clear hC;have hS9:=H_ (hS.out.below hb9);have hB9:=hBH.out.below hb9;have hsz:=hb9.size;have k0:=hB9.cell 0 rfl;have kf:=hB9.frozen 0;have hB10:=hB9.set 0 (.int .i64 ((s:Int)+1));have hbut:=But.of_set w9 ⟨bs,0,none⟩ (.int .i64 ((s:Int)+1)) (X:=[bs]) (by simp);have hz10:=hbut.size;obtain⟨w10,hw10⟩: ∃ q,w9.setCell ⟨bs,0,none⟩ (.int .i64 ((s:Int)+1))=q:=⟨_,rfl⟩
  rw [hw10] at hB10 hbut hz10;have hS10:=H_ (hS9.out.but hbut h1 h2 h3);have hB10H:=H_ hB10;have hzz:Hid (w.heap.size≤w10.heap.size):=Nat.le_trans hsz hz10;clear hb9 hB9 hB10 hbut hbW hsz hz10 h1 h2 h3;go_wp2_with fail;go_returns;exact⟨rfl,hS10.out,hB10H.out,hzz.out⟩
 ·have hod':decide (o<0)=false:=F_ hod;rw [if_neg (by rw [hod'];simp)] at hr;subst hr;go_enter Tryz.func245,Tryz.ntmps245;go_wp2_with fail;have hbW:Hid (Below w.heap.size w w):=Below.refl _ _;go_upto_region 1 with fail;refine wb_ w.heap.size ?_;intro C hC
  repeat(go_big_quiet_step (first
   |((intro _;with_reducible rfl))
   |(intro hc;have hcw:=b_ hbW hc;have m0:=(hS.out.below hcw).cell hb;have m1:=(hS.out.below hcw).cell ha;simp only [m0,m1,Result.andThen];exact⟨trivial,rfl⟩)
   |(intro hc;have hcw:=b_ hbW hc;(with_reducible refine(hcmp.out hcw).mono ?_);rintro e w'' ⟨rfl,hw⟩;exact⟨rfl,u_ hc hw⟩)))
  refine wpQuiet_nil ?_;intro w9 hb9;clear hC;have hS9:=H_ (hS.out.below hb9);have hB9:=H_ (hBH.out.below hb9);have hsz:=H_ hb9.size;clear hb9 hbW h1 h2 h3;go_wp2_with fail;go_returns;exact⟨rfl,hS9.out,hB9.out,hsz.out⟩
theorem md_any {w0 wS w:World} {A:Option Addr} {n g m c:Nat} {L:List RunP} {d:Array Int} (cA:Nat) (hS:SW w0 A n L wS g m c d w) (hm:m≤100000) (a b k s bs:Nat) (ha:a<m) (hb:b<m) (hk:k<m) (hs:s≤90) (hB:Bx w bs 3 [.int .i64 (s:Int)]) (h1:bs≠g) (h2:wS.heap.size≤bs) (h3:w0.heap.size≤bs):
 Calls Tryz.prog 226 #[.slice (some ⟨g,0,none⟩) m c,.int .i64 (a:Int),.int .i64 (b:Int),.int .i64 (k:Int),.pointer (some ⟨bs,0,none⟩),.func (.func 82) #[.slice A n cA] #[]] w (RetMd (SW w0 A n L wS g m c d) bs (Sort.median (ltR L) d a b k s) w):=by
 have l1:=order2_lt (lt:=ltR L) (d:=d) (s:=s) ha hb;have c1:=H_ (o2_any cA hS hm a b s bs ha hb (by omega) hB h1 h2 h3);have hr:Hid (Sort.median (ltR L) d a b k s=((Sort.order2 (ltR L) d (Sort.order2 (ltR L) d a b s).1 (Sort.order2 (ltR L) d (Sort.order2 (ltR L) d a b s).2.1 k (Sort.order2 (ltR L) d a b s).2.2).1 (Sort.order2 (ltR L) d (Sort.order2 (ltR L) d a b s).2.1 k (Sort.order2 (ltR L) d a b s).2.2).2.2).2.1,(Sort.order2 (ltR L) d (Sort.order2 (ltR L) d a b s).1 (Sort.order2 (ltR L) d (Sort.order2 (ltR L) d a b s).2.1 k (Sort.order2 (ltR L) d a b s).2.2).1 (Sort.order2 (ltR L) d (Sort.order2 (ltR L) d a b s).2.1 k (Sort.order2 (ltR L) d a b s).2.2).2.2).2.2)):=rfl;rw [hr.out];clear hr;obtain⟨⟨x1,y1,s1⟩,hr1⟩: ∃ r,Sort.order2 (ltR L) d a b s=r:=⟨_,rfl⟩
 rw [hr1] at l1 c1 ⊢;simp only at l1 ⊢;have l2:=order2_lt (lt:=ltR L) (d:=d) (s:=s1) l1.2.1 hk;have c2:=H_ (fun W (hS:SW w0 A n L wS g m c d W) (hB:Bx W bs 3 [.int .i64 (s1:Int)])=>o2_any cA hS hm y1 k s1 bs l1.2.1 hk (by omega) hB h1 h2 h3);obtain⟨⟨x2,y2,s2⟩,hr2⟩: ∃ r,Sort.order2 (ltR L) d y1 k s1=r:=⟨_,rfl⟩
 rw [hr2] at l2 c2 ⊢;simp only at l2 ⊢;have c3:=H_ (fun W (hS:SW w0 A n L wS g m c d W) (hB:Bx W bs 3 [.int .i64 (s2:Int)])=>o2_any cA hS hm x1 x2 s2 bs l1.1 l2.1 (by omega) hB h1 h2 h3);obtain⟨⟨x3,y3,s3⟩,hr3⟩: ∃ r,Sort.order2 (ltR L) d x1 x2 s2=r:=⟨_,rfl⟩
 rw [hr3] at c3 ⊢;clear hr1 hr2 hr3 hS hB h1 h2 h3 l1 l2;go_enter Tryz.func226,Tryz.ntmps226;go_wp2_with fail;refine c1.out.mono ?_;rintro e w1 ⟨rfl,hS1,hB1,hz1⟩;have d2:=H_ (c2.out w1 hS1 hB1);have hz1:=H_ hz1;clear hS1 hB1 c1 c2;go_wp2_with fail;refine d2.out.mono ?_;rintro e w2 ⟨rfl,hS2,hB2,hz2⟩;have d3:=H_ (c3.out w2 hS2 hB2);have hz2:=H_ (Nat.le_trans hz1.out hz2);rename_i z9;clear z9 hS2 hB2 c3 d2;go_wp2_with fail;refine d3.out.mono ?_;rintro e w3 ⟨rfl,hS3,hB3,hz3⟩;have hS3:=H_ hS3;have hB3:=H_ hB3;have hz3:=H_ (Nat.le_trans hz2.out hz3);rename_i z7 z8 z9;clear z7 z8 z9 d3;go_wp2_with fail;go_returns;exact⟨rfl,hS3.out,hB3.out,hz3.out⟩
theorem ma_any {w0 wS w:World} {A:Option Addr} {n g m c:Nat} {L:List RunP} {d:Array Int} (cA:Nat) (hS:SW w0 A n L wS g m c d w) (hm:m≤100000) (a k k2 s bs:Nat) (hk:a=k+1) (hk2:k2=a+1) (ha:k2<m) (hs:s≤90) (hB:Bx w bs 3 [.int .i64 (s:Int)]) (h1:bs≠g) (h2:wS.heap.size≤bs) (h3:w0.heap.size≤bs):
 Calls Tryz.prog 225 #[.slice (some ⟨g,0,none⟩) m c,.int .i64 (a:Int),.pointer (some ⟨bs,0,none⟩),.func (.func 82) #[.slice A n cA] #[]] w (RetMd (SW w0 A n L wS g m c d) bs (Sort.medianAdjacent (ltR L) d a s) w):=by
 have c1:=H_ (md_any cA hS hm k a k2 s bs (by omega) (by omega) ha hs hB h1 h2 h3);have hr:Hid (Sort.medianAdjacent (ltR L) d a s=Sort.median (ltR L) d k a k2 s):=by show _=_;unfold Sort.medianAdjacent;rw [hk2,show a-1=k by omega]
 rw [hr.out];obtain⟨r,hr1⟩: ∃ r,Sort.median (ltR L) d k a k2 s=r:=⟨_,rfl⟩
 rw [hr1] at c1 ⊢;have e1:(a:Int)-1=(k:Int):=by omega
 have e2:(a:Int)+1=(k2:Int):=by omega
 have hb:a≤100000:=by omega
 have hb1:1≤a:=by omega
 clear hr hr1 hS hB h1 h2 h3 hk hk2;go_enter Tryz.func225,Tryz.ntmps225;go_wp2_with fail;refine c1.out.mono ?_;rintro e w1 ⟨rfl,hS1,hB1,hz1⟩;have hS1:=H_ hS1;have hB1:=H_ hB1;have hz1:=H_ hz1;rename_i z1 z2 z3;clear z1 z2 z3 c1;go_wp2_with fail;go_returns;exact⟨rfl,hS1.out,hB1.out,hz1.out⟩
theorem median_in {lt:Int→Int→Bool} {d:Array Int} {a b k s m:Nat} (ha:a<m) (hb:b<m) (hk:k<m):(Sort.median lt d a b k s).1<m∧(Sort.median lt d a b k s).2≤s+3:=by
 unfold Sort.median;have l1:=order2_lt (lt:=lt) (d:=d) (s:=s) ha hb;have l2:=order2_lt (lt:=lt) (d:=d) (s:=(Sort.order2 lt d a b s).2.2) l1.2.1 hk;have l3:=order2_lt (lt:=lt) (d:=d) (s:=(Sort.order2 lt d (Sort.order2 lt d a b s).2.1 k (Sort.order2 lt d a b s).2.2).2.2) l1.1 l2.1;exact⟨l3.2.1,by have:=l3.2.2;have:=l2.2.2;have:=l1.2.2;show(Sort.order2 lt d _ _ _).2.2≤_;omega⟩
def hintI:Sort.Hint→Int
 | .unknown =>0
 | .increasing =>1
 | .decreasing =>2
def RetCp (P:World→Prop) (r:Nat×Sort.Hint) (e:Ending) (w':World):Prop:=e= .returned (.tuple #[.int .i64 (r.1:Int),.int .i64 (hintI r.2)])∧P w'
theorem cp_any {w0 wS w:World} {A:Option Addr} {n g m c:Nat} {L:List RunP} {d:Array Int} (cA:Nat) (hS:SW w0 A n L wS g m c d w) (hm:m≤100000) (a b:Nat) (hab:a+12<b) (hb:b≤m):
 Calls Tryz.prog 150 #[.slice (some ⟨g,0,none⟩) m c,.int .i64 (a:Int),.int .i64 (b:Int),.func (.func 82) #[.slice A n cA] #[]] w (RetCp (SW w0 A n L wS g m c d) (Sort.choosePivot (ltR L) d a b)):=by
 obtain⟨l,hl⟩: ∃ l,b-a=l:=⟨_,rfl⟩
 obtain⟨q,hq⟩: ∃ q,l / 4=q:=⟨_,rfl⟩
 obtain⟨i0,hi0⟩: ∃ i,a+q*1=i:=⟨_,rfl⟩
 obtain⟨j0,hj0⟩: ∃ i,a+q*2=i:=⟨_,rfl⟩
 obtain⟨k0,hk0⟩: ∃ i,a+q*3=i:=⟨_,rfl⟩
 have x1:(b:Int)-(a:Int)=(l:Int):=by omega
 have x2:(l:Int) / 4=(q:Int):=by omega
 have x3:(a:Int)+(q:Int)=(i0:Int):=by omega
 have x4:(a:Int)+(q:Int)*2=(j0:Int):=by omega
 have x5:(a:Int)+(q:Int)*3=(k0:Int):=by omega
 have bb:b≤100000:=by omega
 have ba:a≤100000:=by omega
 have bl:l≤100000:=by omega
 have bq:q≤100000:=by omega
 have bi:1≤i0∧i0+1<m:=by omega
 have bj:1≤j0∧j0+1<m:=by omega
 have bk:1≤k0∧k0+1<m:=by omega
 have l8:(8:Int)≤(l:Int):=by omega
 have hbi:=H_ bi;have hbj:=H_ bj;have hbk:=H_ bk;obtain⟨r,hr⟩: ∃ r,Sort.choosePivot (ltR L) d a b=r:=⟨_,rfl⟩
 rw [hr];unfold Sort.choosePivot at hr;simp only [hl,hq,hi0,hj0,hk0] at hr;rw [if_pos (show l≥8 by omega)] at hr;have g1:Hid (w.heap.size≠g):=by have:=hS.lt;show _≠_;omega
 have g2:Hid (wS.heap.size≤w.heap.size):=hS.gr.size;have g3:Hid (w0.heap.size≤w.heap.size):=hS.b0.size;obtain⟨w1,b1,hw1,hbE1,hb1,B1⟩:=box1 w 3 [.int .i64 0];rw [hbE1] at g1 g2 g3;have hS1:=H_ (hS.below hb1);have hB1:=H_ B1;have hm1:=H_ hm;clear bi bj bk hS hb1 B1 hi0 hj0 hk0 hq hl hab;by_cases h50:50≤l
 ·have l50:(50:Int)≤(l:Int):=by omega
  rw [if_pos h50] at hr;have ri:=median_in (lt:=ltR L) (d:=d) (s:=0) (m:=m) (show i0-1<m by have:=hbi.out;omega) (show i0<m by have:=hbi.out;omega) hbi.out.2;change(Sort.medianAdjacent (ltR L) d i0 0).1<m∧_ at ri;have ci:=H_ (ma_any cA hS1.out hm i0 (i0-1) (i0+1) 0 b1 (by have:=hbi.out;omega) rfl hbi.out.2 (by omega) hB1.out g1.out g2.out g3.out);obtain⟨⟨i1,s1⟩,hi1⟩: ∃ r,Sort.medianAdjacent (ltR L) d i0 0=r:=⟨_,rfl⟩
  change _∧(Sort.medianAdjacent (ltR L) d i0 0).2≤_ at ri;rw [hi1] at ri ci hr;simp only at hr ri;have rj:=median_in (lt:=ltR L) (d:=d) (s:=s1) (m:=m) (show j0-1<m by have:=hbj.out;omega) (show j0<m by have:=hbj.out;omega) hbj.out.2;have cj:=H_ (fun W (hS:SW w0 A n L wS g m c d W) (hB:Bx W b1 3 [.int .i64 (s1:Int)])=>ma_any cA hS hm j0 (j0-1) (j0+1) s1 b1 (by have:=hbj.out;omega) rfl hbj.out.2 (by omega) hB g1.out g2.out g3.out);obtain⟨⟨j1,s2⟩,hj1⟩: ∃ r,Sort.medianAdjacent (ltR L) d j0 s1=r:=⟨_,rfl⟩
  change(Sort.medianAdjacent (ltR L) d j0 s1).1<m∧(Sort.medianAdjacent (ltR L) d j0 s1).2≤_ at rj;rw [hj1] at rj cj hr;simp only at hr rj;have rk:=median_in (lt:=ltR L) (d:=d) (s:=s2) (m:=m) (show k0-1<m by have:=hbk.out;omega) (show k0<m by have:=hbk.out;omega) hbk.out.2;have ck:=H_ (fun W (hS:SW w0 A n L wS g m c d W) (hB:Bx W b1 3 [.int .i64 (s2:Int)])=>ma_any cA hS hm k0 (k0-1) (k0+1) s2 b1 (by have:=hbk.out;omega) rfl hbk.out.2 (by omega) hB g1.out g2.out g3.out);obtain⟨⟨k1,s3⟩,hk1⟩: ∃ r,Sort.medianAdjacent (ltR L) d k0 s2=r:=⟨_,rfl⟩
  change(Sort.medianAdjacent (ltR L) d k0 s2).1<m∧(Sort.medianAdjacent (ltR L) d k0 s2).2≤_ at rk;rw [hk1] at rk ck hr;simp only at hr rk;have cm:=H_ (fun W (hS:SW w0 A n L wS g m c d W) (hB:Bx W b1 3 [.int .i64 (s3:Int)])=>md_any cA hS hm i1 j1 k1 s3 b1 ri.1 rj.1 rk.1 (by omega) hB g1.out g2.out g3.out);obtain⟨⟨j9,s9⟩,hm9⟩: ∃ r,Sort.median (ltR L) d i1 j1 k1 s3=r:=⟨_,rfl⟩
  rw [hm9] at cm hr;have hse:=H_ hr;clear hi1 hj1 hk1 hm9 hr ri rj rk h50;go_enter Tryz.func150,Tryz.ntmps150;go_wp2_with fail;refine ci.out.mono ?_;rintro e w2 ⟨rfl,hS2,hB2,_⟩;have cj2:=H_ (cj.out w2 hS2 hB2);clear hS2 hB2;go_wp2_with fail;refine cj2.out.mono ?_;rintro e w3 ⟨rfl,hS2,hB2,_⟩;have ck2:=H_ (ck.out w3 hS2 hB2);clear hS2 hB2 cj2;go_wp2_with fail;refine ck2.out.mono ?_;rintro e w4 ⟨rfl,hS2,hB2,_⟩;have cm2:=H_ (cm.out w4 hS2 hB2);clear hS2 hB2 ck2;go_wp2_with fail;refine cm2.out.mono ?_;rintro e w5 ⟨rfl,hS2,hB2,_⟩;have hS9:=H_ hS2;have kb:=hB2.cell 0 rfl;have hse:=hse.out;clear hS2 hB2 cm2 ci cj ck cm hS1 hB1;have hse:=H_ hse;by_cases hs0:s9=0
  ·have hsI:((s9:Int)==0)=true:=by simp [hs0]
   have hr:Hid ((j9,Sort.Hint.increasing)=r):=by show _=_;rw [←hse.out,if_pos hs0]
   clear hse hs0;go_wp2_with fail;clear hw1 hbE1;go_returns;exact⟨by rw [←hr.out];rfl,hS9.out⟩
  ·have hsI:((s9:Int)==0)=false:=by simp [hs0]
   by_cases hs12:s9=12
   ·have hsJ:((s9:Int)==12)=true:=by simp [hs12]
    have hr:Hid ((j9,Sort.Hint.decreasing)=r):=by show _=_;rw [←hse.out,if_neg hs0,if_pos hs12]
    clear hse hs0 hs12;go_wp2_with fail;clear hw1 hbE1;go_returns;exact⟨by rw [←hr.out];rfl,hS9.out⟩
   ·have hsJ:((s9:Int)==12)=false:=beq_eq_false_iff_ne.2 (by omega);have hr:Hid ((j9,Sort.Hint.unknown)=r):=by show _=_;rw [←hse.out,if_neg hs0,if_neg hs12]
    clear hse hs0 hs12;go_wp2_with fail;clear hw1 hbE1;go_returns;exact⟨by rw [←hr.out];rfl,hS9.out⟩
 ·have l50: ¬ (50:Int)≤(l:Int):=by omega
  rw [if_neg h50] at hr;have cm:=H_ (md_any cA hS1.out hm i0 j0 k0 0 b1 (by have:=hbi.out;omega) (by have:=hbj.out;omega) (by have:=hbk.out;omega) (by omega) hB1.out g1.out g2.out g3.out);obtain⟨⟨j9,s9⟩,hm9⟩: ∃ r,Sort.median (ltR L) d i0 j0 k0 0=r:=⟨_,rfl⟩
  rw [hm9] at cm hr;have hse:=H_ hr;clear hm9 hr h50;go_enter Tryz.func150,Tryz.ntmps150;go_wp2_with fail;refine cm.out.mono ?_;rintro e w5 ⟨rfl,hS2,hB2,_⟩;have hS9:=H_ hS2;have kb:=hB2.cell 0 rfl;have hse:=hse.out;clear hS2 hB2 cm hS1 hB1;have hse:=H_ hse;by_cases hs0:s9=0
  ·have hsI:((s9:Int)==0)=true:=by simp [hs0]
   have hr:Hid ((j9,Sort.Hint.increasing)=r):=by show _=_;rw [←hse.out,if_pos hs0]
   clear hse hs0;go_wp2_with fail;clear hw1 hbE1;go_returns;exact⟨by rw [←hr.out];rfl,hS9.out⟩
  ·have hsI:((s9:Int)==0)=false:=by simp [hs0]
   by_cases hs12:s9=12
   ·have hsJ:((s9:Int)==12)=true:=by simp [hs12]
    have hr:Hid ((j9,Sort.Hint.decreasing)=r):=by show _=_;rw [←hse.out,if_neg hs0,if_pos hs12]
    clear hse hs0 hs12;go_wp2_with fail;clear hw1 hbE1;go_returns;exact⟨by rw [←hr.out];rfl,hS9.out⟩
   ·have hsJ:((s9:Int)==12)=false:=beq_eq_false_iff_ne.2 (by omega);have hr:Hid ((j9,Sort.Hint.unknown)=r):=by show _=_;rw [←hse.out,if_neg hs0,if_neg hs12]
    clear hse hs0 hs12;go_wp2_with fail;clear hw1 hbE1;go_returns;exact⟨by rw [←hr.out];rfl,hS9.out⟩
