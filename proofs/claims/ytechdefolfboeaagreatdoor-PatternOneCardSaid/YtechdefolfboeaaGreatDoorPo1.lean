/- Merged. -/
import Derived.WalkSpells
import Derived.WalkSmall
import Derived.Lib.Hide
import Derived.StillTailTactics
import Derived.BigQuiet
import Derived.RangeFuncNested
import Derived.RangeFuncBound
import Derived.OwnWalkIn
import Derived.Lib.SmallJoins
set_option linter.unusedVariables false
set_option linter.unusedSimpArgs false
namespace Go.Proofs.YtechdefolfboeaaGreatDoor.B
open Go.RowKit
def cutA (A:Option Addr) (c k s:Nat):Option Addr:=if c=k then A else A.map (·.add (k*s))
structure Rd {α:Type} (w:World) (size:Nat) (enc:α→List Value) (A:Option Addr) (n:Nat) (l:List α):Prop where
 len:l.length=n
 cells:0<n→ ∃ b o,A=some ⟨b,o,none⟩∧b<w.heap.size∧ ∀ i x,l[i]?=some x→ ∀ j u,(enc x)[j]?=some u→w.cell? ⟨b,o+i*size+j,none⟩=some u
section
variable {α:Type} {w w':World} {size n B:Nat} {enc:α→List Value} {A:Option Addr} {l:List α}
theorem Rd.nil:Rd w size enc A 0 ([]:List α):=⟨rfl,fun h=>absurd h (by omega)⟩
theorem Rd.keep (h:Rd w size enc A n l) (hs:w.heap.size≤w'.heap.size) (hk: ∀ b o,b<w.heap.size→w'.cell? ⟨b,o,none⟩=w.cell? ⟨b,o,none⟩):Rd w' size enc A n l:=
 ⟨h.len,fun hn=>by
   obtain⟨b,o,e,hb,hc⟩:=h.cells hn;exact⟨b,o,e,by omega,fun i x hx j u hu=>(hk _ _ hb).trans (hc i x hx j u hu)⟩⟩
theorem Rd.below (h:Rd w size enc A n l) (hb:Below w.heap.size w w'):Rd w' size enc A n l:=h.keep hb.size fun b o hlt=>hb.cell (p:=⟨b,o,none⟩) hlt
theorem Rd.drop {k c:Nat} (h:Rd w size enc A n l) (hk:k≤n) (hc:n≤c):
 Rd w size enc (cutA A c k size) (n-k) (l.drop k):=by
 unfold cutA;refine⟨by rw [List.length_drop,h.len],fun hn=>?_⟩;obtain⟨b,o,rfl,hb,hcell⟩:=h.cells (by omega);rw [if_neg (by omega)];refine⟨b,o+k*size,by simp [Addr.add],hb,fun i x hx j u hu=>?_⟩;have:=hcell (k+i) x (by rw [←hx,List.getElem?_drop]) j u hu;rw [←this,Nat.add_mul,Nat.add_assoc o]
end
theorem maxLen_num:maxLen=9223372036854775807:=by unfold maxLen;rfl
theorem flatMap_at {α:Type} {enc:α→List Value} {size:Nat} (hs: ∀ x,(enc x).length =size): ∀ (l:List α) (i:Nat) (x:α),l[i]?=some x→ ∀ (j:Nat) (u:Value),(enc x)[j]?=some u→(l.flatMap enc)[i*size+j]?=some u:=by
 intro l
 induction l with
 |nil=>intro i x h;simp at h
 |cons y r ih=>
  intro i x h j u hu
  cases i with
  |zero=>
   simp at h;subst h;rw [List.flatMap_cons,Nat.zero_mul,Nat.zero_add,List.getElem?_append_left (by obtain⟨h,_⟩:=List.getElem?_eq_some_iff.1 hu;exact h)];exact hu
  |succ i=>
   rw [List.flatMap_cons,List.getElem?_append_right (by rw [hs,Nat.succ_mul];omega),hs,show(i+1)*size+j-size=i*size+j by rw [Nat.succ_mul];omega];exact ih i x (by simpa using h) j u hu
theorem flatMap_len {α:Type} {enc:α→List Value} {size:Nat} (hs: ∀ x,(enc x).length =size) (l:List α):(l.flatMap enc).length =l.length*size:=by
 induction l with
 |nil=>simp
 |cons y r ih=>rw [List.flatMap_cons,List.length_append,ih,hs,List.length_cons,Nat.succ_mul];omega
theorem Rd.of_own {α:Type} {enc:α→List Value} {w:World} {base size n:Nat} {e:TypeId} {v:Value} {l:List α} (hs: ∀ x,(enc x).length =size) (hl:l.length=n)
 (h:w.ownsRow base e size v n (l.flatMap enc)): ∃ A c,v= .slice A n c∧Rd w size enc A n l∧n≤c∧c≤9223372036854775807:=by
 rcases h.2 with⟨rfl,rfl⟩|⟨g,cap,cur,rfl,hb,hh,hn,hc,hsz,ht⟩
 ·exact⟨none,0,rfl,⟨hl,fun h=>absurd h (by omega)⟩,Nat.le_refl _,by omega⟩
 ·refine⟨_,cap,rfl,⟨hl,fun _=>⟨g,0,rfl,(Array.getElem?_eq_some_iff.1 hh).1,fun i x hx j u hu=>?_⟩⟩,hn,by rw [←maxLen_num];exact hc⟩;have:=flatMap_at hs l i x hx j u hu;rw [←ht] at this
  have h2:cur.toList[i*size+j]?=some u:=by
   rw [List.getElem?_take] at this;split at this
   ·exact this
   ·cases this
  simp [World.cell?,hh];simpa using h2
theorem Rd.lit {α:Type} (w:World) (size:Nat) (enc:α→List Value) (hs: ∀ x,(enc x).length =size) (e:TypeId) (l:List α):Rd (w.alloc (.cells (l.flatMap enc).toArray e)) size enc (some ⟨w.heap.size,0,none⟩) l.length l:=
 ⟨rfl,fun _=>⟨w.heap.size,0,rfl,by simp,fun i x hx j u hu=>by
   rw [cell_of_row _ _ _ _ _ _ (heap_alloc_new w _),Nat.zero_add];simpa using flatMap_at hs l i x hx j u hu⟩⟩
theorem own_keep {w w':World} {base size n:Nat} {e:TypeId} {v:Value} {xs:List Value} (h:w.ownsRow base e size v n xs) (hk: ∀ k,v.ownBlock=some k→w'.heap[k]?=w.heap[k]?):w'.ownsRow base e size v n xs:=by
 refine⟨h.1,?_⟩;rcases h.2 with h2|⟨g,cap,cur,rfl,hb,hh,r⟩
 ·exact .inl h2
 ·exact .inr ⟨g,cap,cur,rfl,hb,(hk g rfl).trans hh,r⟩
theorem alloc_one (w:World) (v:Value) (t:TypeId):(w.alloc (.cells #[v] t)).heap[w.heap.size]?=some (.cells #[v] t (0,0)):=heap_alloc_new w _
theorem drop_at {α:Type} {l:List α} {k:Nat} {x:α} (h:l[k]?=some x):l.drop k=x::l.drop (k+1):=by
 obtain⟨hlt,rfl⟩:=List.getElem?_eq_some_iff.1 h;exact List.drop_eq_getElem_cons hlt
theorem take_at {α:Type} {l:List α} {k:Nat} {x:α} (h:l[k]?=some x):l.take (k+1)=l.take k++[x]:=by
 obtain⟨hlt,rfl⟩:=List.getElem?_eq_some_iff.1 h;rw [List.take_succ_eq_append_getElem hlt]
theorem ret_int {k:IntKind} {a b:Int} (h:a=b):Ending.returned (.int k a)= .returned (.int k b):=by rw [h]
theorem ret_bool {a b:Bool} (h:a=b):Ending.returned (.bool a)= .returned (.bool b):=by rw [h]
def pairE (p:Int×Int):List Value:=[.int .i64 p.1,.int .i64 p.2]
section
variable {w:World} {n k:Nat} {A:Option Addr} {l:List (Int×Int)}
theorem Rd.pair (h:Rd w 2 pairE A n l) (hk:k<n): ∃ b o x y,A=some ⟨b,o,none⟩∧b<w.heap.size∧l[k]?=some (x,y)∧
 w.cell? ⟨b,o+k*2,none⟩=some (.int .i64 x)∧w.cell? ⟨b,o+k*2+1,none⟩=some (.int .i64 y):=by
 obtain⟨b,o,rfl,hb,hc⟩:=h.cells (by omega);have hl:k<l.length:=by rw [h.len];exact hk
 have hx:l[k]?=some l[k]:=List.getElem?_eq_getElem hl;exact⟨b,o,l[k].1,l[k].2,rfl,hb,hx,hc k _ hx 0 _ rfl,hc k _ hx 1 _ rfl⟩
end
def RetRow1 (w:World) (l:List (Int×Int)) (e:Ending) (w':World):Prop:=
 ∃ A c,e= .returned (.slice A l.length c)∧Rd w' 2 pairE A l.length l∧l.length≤c∧c≤9223372036854775807∧Below w.heap.size w w'
def RetRow2 (w:World) (l:List (Int×Int)) (x:Int) (e:Ending) (w':World):Prop:=
 ∃ A c,e= .returned (.tuple #[.slice A l.length c,.int .i64 x])∧Rd w' 2 pairE A l.length l∧l.length≤c∧c≤9223372036854775807∧Below w.heap.size w w'
theorem RetRow1.mk {w w':World} {l:List (Int×Int)} {e:Ending} (A:Option Addr) (c:Nat) (h:e= .returned (.slice A l.length c)) (r:Rd w' 2 pairE A l.length l) (hc:l.length≤c) (hc2:c≤9223372036854775807) (hb:Below w.heap.size w w'):
 RetRow1 w l e w':=⟨A,c,h,r,hc,hc2,hb⟩
theorem RetRow2.mk {w w':World} {l:List (Int×Int)} {x:Int} {e:Ending} (A:Option Addr) (c:Nat) (h:e= .returned (.tuple #[.slice A l.length c,.int .i64 x])) (r:Rd w' 2 pairE A l.length l) (hc:l.length≤c) (hc2:c≤9223372036854775807) (hb:Below w.heap.size w w'):
 RetRow2 w l x e w':=⟨A,c,h,r,hc,hc2,hb⟩
theorem wp_tailN {P:Program} {id:Nat} {Q:Exit→Act→World→Prop} {a:Act} {w:World} {l:List Oper} (n:Nat) {k:Nat} (hm:P.follows .mixedOrders =true) (hB:Region.lexTailB .any l.toArray n=true)
 (h:wpStill P l.toArray (w.drewN (k+1)) (fun a'=>wpList P l.toArray Q (l.drop n) a' (w.drewN (k+1))) (l.take n) a):(Code.region id l.toArray true).wp P Q a (w.drewN k):=wp_region_still_tail n hm hB h
theorem wp_tail0 {P:Program} {id:Nat} {Q:Exit→Act→World→Prop} {a:Act} {w:World} {l:List Oper} (n:Nat) (hm:P.follows .mixedOrders =true) (hB:Region.lexTailB .any l.toArray n=true)
 (h:wpStill P l.toArray (w.drewN 1) (fun a'=>wpList P l.toArray Q (l.drop n) a' (w.drewN 1)) (l.take n) a):(Code.region id l.toArray true).wp P Q a w:=wp_region_still_tail n hm hB h
open Go.Sort
structure Grew (w w':World):Prop where
 below:Below w.heap.size w w'
 drawn:w.drawn≤w'.drawn
theorem drewN_drawn (w:World): ∀ n,(w.drewN n).drawn =w.drawn+n
 |0=>rfl
 |n+1=>by
  show(w.drewN n).drew.drawn =_;show(w.drewN n).drawn +1=_;rw [drewN_drawn w n];omega
theorem Grew.refl (w:World):Grew w w:=⟨Below.refl _ _,Nat.le_refl _⟩
theorem Grew.trans {a b c:World} (h:Grew a b) (k:Grew b c):Grew a c:=⟨h.below.trans (k.below.mono h.below.size),Nat.le_trans h.drawn k.drawn⟩
theorem Grew.alloc {a w:World} (h:Grew a w) (o:Obj):Grew a (w.alloc o):=⟨h.below.alloc h.below.size o,h.drawn⟩
theorem Grew.drewN {a w:World} (h:Grew a w) (n:Nat):Grew a (w.drewN n):=⟨⟨h.below.os,h.below.tape,h.below.output,h.below.size,h.below.block⟩,Nat.le_trans h.drawn (by rw [drewN_drawn];omega)⟩
theorem Grew.drew {a w:World} (h:Grew a w):Grew a w.drew:=h.drewN 1
theorem Grew.grow {w w':World} (h:Grew w w'): ∃ q os,w'=Sort.grow (w.drewN q) os:=by
 obtain⟨hb,hd⟩:=h;refine⟨w'.drawn-w.drawn,w'.heap.extract w.heap.size w'.heap.size,?_⟩
 have hh:w'.heap=w.heap++w'.heap.extract w.heap.size w'.heap.size:=by
  refine Array.ext_getElem? fun i=>?_;rw [Array.getElem?_append];split
  ·rename_i hi;exact hb.block i hi
  ·rename_i hi;rw [Array.getElem?_extract];by_cases h2:i<w'.heap.size
   ·rw [if_pos (by omega)];congr 1;omega
   ·rw [if_neg (by omega),Array.getElem?_eq_none (by omega)]
 have e:(Sort.grow (w.drewN (w'.drawn-w.drawn)) (w'.heap.extract w.heap.size w'.heap.size))=⟨w.heap++w'.heap.extract w.heap.size w'.heap.size,w.tape,w.drawn+(w'.drawn-w.drawn),w.os,w.output⟩:=by
  unfold Sort.grow;have h1:=drewN_drawn w (w'.drawn-w.drawn);have h2:(w.drewN (w'.drawn-w.drawn)).heap =w.heap:=World.heap_drewN _ _
  have h3: ∀ n,(w.drewN n).tape =w.tape∧(w.drewN n).os =w.os∧(w.drewN n).output =w.output:=by
   intro n
   induction n with
   |zero=>exact⟨rfl,rfl,rfl⟩
   |succ n ih=>exact ih
  obtain⟨h4,h5,h6⟩:=h3 (w'.drawn-w.drawn);rw [h1,h2,h4,h5,h6]
 rw [e,←hh,show w.drawn+(w'.drawn-w.drawn)=w'.drawn by omega,←hb.tape,←hb.os,←hb.output]
end Go.Proofs.YtechdefolfboeaaGreatDoor.B
namespace Go.Proofs.YtechdefolfboeaaGreatDoor
namespace B
open Go.RowKit
structure But (w w':World) (X:List Nat):Prop where
 os:w'.os=w.os
 tape:w'.tape=w.tape
 output:w'.output=w.output
 size:w.heap.size≤w'.heap.size
 keep: ∀ b,b<w.heap.size→b ∉ X→w'.heap[b]?=w.heap[b]?
theorem But.refl (w:World) (X:List Nat):But w w X:=⟨rfl,rfl,rfl,Nat.le_refl _,fun _ _ _=>rfl⟩
theorem But.trans {a b c:World} {X:List Nat} (h:But a b X) (k:But b c X):But a c X:=
 ⟨k.os.trans h.os,k.tape.trans h.tape,k.output.trans h.output,Nat.le_trans h.size k.size,fun i hi hx=>(k.keep i (Nat.lt_of_lt_of_le hi h.size) hx).trans (h.keep i hi hx)⟩
theorem But.mono {a b:World} {X Y:List Nat} (h:But a b X) (hY: ∀ x∈X,x∈Y):But a b Y:=⟨h.os,h.tape,h.output,h.size,fun i hi hx=>h.keep i hi (fun hh=>hx (hY i hh))⟩
theorem But.of_below {a b:World} (h:Below a.heap.size a b) (X:List Nat):But a b X:=⟨h.os,h.tape,h.output,h.size,fun i hi _=>h.block i hi⟩
theorem But.below {a b:World} {X:List Nat} {n:Nat} (h:But a b X) (hn:n≤a.heap.size) (hX: ∀ x∈X,n≤x):Below n a b:=⟨h.os,h.tape,h.output,h.size,fun i hi=>h.keep i (by omega) (fun hx=>by have:=hX i hx;omega)⟩
theorem But.of_set (w:World) (a:Addr) (u:Value) {X:List Nat} (hX:a.block∈X):But w (w.setCell a u) X:=
 ⟨rfl,rfl,rfl,by simp,fun i _ hx=>Below.heap_setCell _ _ _ _ (fun e=>hx (e ▸ hX))⟩
theorem But.cell {w w':World} {X:List Nat} (h:But w w' X) {p:Addr} (hp:p.block<w.heap.size) (hX:p.block ∉ X):w'.cell? p=w.cell? p:=World.cell?_of_block (h.keep _ hp hX)
variable {P:Program} {k e:TypeId}
def MapI (P:Program) (k e:TypeId) (w:World) (m:Nat) (f:Int→Option Int) (N:Nat):Prop:=
 ∃ D:DataW Nat,w.ownsMap P k (plainElem P e) m N D∧Maps.size D=N∧ ∀ a,Maps.has D (.int .i64 a)=(f a).isSome ∧ ∀ v,f a=some v→ ∀ z,D.atKey (.int .i64 a) z= .lit (.int .i64 v)
theorem MapI.lt {w:World} {m N:Nat} {f:Int→Option Int} (h:MapI P k e w m f N):m<w.heap.size:=by obtain⟨D,h,_⟩:=h;exact h.lt
theorem MapI.keep {w w':World} {m N:Nat} {f:Int→Option Int} (h:MapI P k e w m f N) (hk:w'.heap[m]?=w.heap[m]?):MapI P k e w' m f N:=by
 obtain⟨D,⟨es,cl,hb,r⟩,h2⟩:=h;exact⟨D,⟨es,cl,hk.trans hb,r⟩,h2⟩
theorem MapI.below {w w':World} {m N:Nat} {f:Int→Option Int} (h:MapI P k e w m f N) (hb:Below w.heap.size w w'):MapI P k e w' m f N:=h.keep (hb.block m h.lt)
theorem MapI.but {w w':World} {m N:Nat} {f:Int→Option Int} {X:List Nat} (h:MapI P k e w m f N) (hb:But w w' X) (hX:m ∉ X):MapI P k e w' m f N:=h.keep (hb.keep m h.lt hX)
theorem MapI.new (w:World):MapI P k e (w.alloc (.map #[] 0)) w.heap.size (fun _=>none) 0:=
 ⟨.map [],World.ownsMap_made w P k _,rfl,fun a=>⟨rfl,fun v h=>by cases h⟩⟩
theorem wf64 {a:Int} (h1: -9223372036854775808≤a) (h2:a≤9223372036854775807):(Lit.int .i64 a).wf =true:=by
 simp only [Lit.wf,Bool.and_eq_true,decide_eq_true_eq];exact⟨h1,h2⟩
theorem MapI.look {w:World} {m N:Nat} {f:Int→Option Int} (h:MapI P k e w m f N) {t:TypeId} (ht:P.underlying t=some (.map k e)) (hk:P.underlying k=some (.int .i64)) (he:P.underlying e=some (.int .i64))
 (hz:(zeroValue e).run P w= .ok (.int .i64 0) w) {a:Int} (ha:(Lit.int .i64 a).wf =true):
 (Instr.lookup t (.map (some m)) (.int .i64 a) true).run P w= .ok (.tuple #[.int .i64 ((f a).getD 0),.bool (f a).isSome]) w∧
 (Instr.lookup t (.map (some m)) (.int .i64 a) false).run P w= .ok (.int .i64 ((f a).getD 0)) w:=by
 obtain⟨D,hD,hs,hf⟩:=h;have hkey:=Maps.keyOf_int_mk hk ha;have K:=Maps.int_keyed hk
 have hat: ∀ c:Int,D.atKey (.int .i64 a) (.lit (.int .i64 0))= .lit (.int .i64 c)→c=(f a).getD 0:=fun c hc=>by
  cases hfa:f a with
  |none=>
   have h0:Maps.has D (.int .i64 a)=false:=by rw [(hf a).1,hfa];rfl
   rw [Maps.atKey_of_not_has h0] at hc;cases hc;rfl
  |some v=>
   rw [(hf a).2 v hfa] at hc;cases hc;rfl
 constructor
 ·obtain⟨v,ps,hrun,hv⟩:=hD.look_ok K ht hz (plainElem_int he (by decide)) hkey;obtain⟨c,rfl,hc,_⟩:=plainElem_int_inv he hv;rw [hrun,(hf a).1,hat c (by simpa using (congrArg Prod.fst hc))]
 ·obtain⟨c,hrun,hc,_⟩:=hD.lookup_int K ht he hz hkey;rw [hrun,hat c hc]
def updI (f:Int→Option Int) (a v:Int):Int→Option Int:=fun x=>if x=a then some v else f x
def delI (f:Int→Option Int) (a:Int):Int→Option Int:=fun x=>if x=a then none else f x
theorem key_isKey {a:Int}:WideAt.IsKeyLit (.int .i64 a):=by simp [WideAt.IsKeyLit]
theorem lit_ne {a b:Int} (h:a≠b):(Lit.int .i64 a)≠Lit.int .i64 b:=fun e=>h (by cases e;rfl)
theorem MapI.store {w:World} {m N:Nat} {f:Int→Option Int} (h:MapI P k e w m f N) {t:TypeId} (ht:P.underlying t=some (.map k e)) (hk:P.underlying k=some (.int .i64)) (he:P.underlying e=some (.int .i64))
 (hN:N<9223372036854775807) {a v:Int} (ha:(Lit.int .i64 a).wf =true) (hv:(Lit.int .i64 v).wf =true):
 ∃ w',(Instr.mapUpdate t (.map (some m)) (.int .i64 a) (.int .i64 v)).run P w= .ok () w'∧MapI P k e w' m (updI f a v) (if(f a).isSome then N else N+1)∧w.mapTurned w' m:=by
 obtain⟨D,hD,hs,hf⟩:=h;have hkey:=Maps.keyOf_int_mk hk ha;have K:=Maps.int_keyed hk;have T:=hD.tidy K;obtain⟨w',hrun,hD',hturn⟩:=hD.store K ht (by rw [maxLen_num];exact hN) hkey (plainElem_int he hv);have hsz:Maps.size (D.put (.int .i64 a) (.lit (.int .i64 v)))=if(f a).isSome then N else N+1:=by rw [Maps.size_put T,(hf a).1,hs]
 refine⟨w',hrun,⟨D.put (.int .i64 a) (.lit (.int .i64 v)),?_,hsz,fun x=>?_⟩,hturn⟩
 ·obtain⟨es,cl,hb,F,_,hd⟩:=hD';refine⟨es,cl,hb,F,?_,hd⟩;rw [←hsz,hd];simp [Maps.size,length_sorted]
 ·by_cases hx:x=a
  ·subst hx;refine⟨by rw [Maps.has_put_same T.isMap key_isKey];simp [updI],fun v' hv' z=>?_⟩;rw [Maps.atKey_put_same T.isMap key_isKey];simp [updI] at hv';rw [hv']
  ·refine⟨by rw [Maps.has_put_other (lit_ne hx),(hf x).1];simp [updI,hx],fun v' hv' z=>?_⟩;rw [Maps.atKey_put_other (lit_ne hx)];exact(hf x).2 v' (by simpa [updI,hx] using hv') z
theorem MapI.drop {w:World} {m N:Nat} {f:Int→Option Int} (h:MapI P k e w m f N) {t:TypeId} (ht:P.underlying t=some (.map k e)) (hk:P.underlying k=some (.int .i64))
 {a:Int} (ha:(Lit.int .i64 a).wf =true) (ty:TypeId):
 ∃ w',(Builtin.delete_ #[t,k] ty #[.map (some m),.int .i64 a]).run P w= .ok (.tuple #[]) w'∧MapI P k e w' m (delI f a) (if(f a).isSome then N-1 else N)∧w.mapTurned w' m:=by
 obtain⟨D,hD,hs,hf⟩:=h;have hkey:=Maps.keyOf_int_mk hk ha;have K:=Maps.int_keyed hk;have T:=hD.tidy K;obtain⟨w',hrun,hD',hturn⟩:=hD.drop K ht hkey ty
 have hsz:Maps.size (D.del (.int .i64 a))=if(f a).isSome then N-1 else N:=by
  have:=Maps.size_del (k:= .int .i64 a) T;rw [(hf a).1,hs] at this;split<;>simp_all<;>omega
 refine⟨w',hrun,⟨D.del (.int .i64 a),?_,hsz,fun x=>?_⟩,hturn⟩
 ·obtain⟨es,cl,hb,F,_,hd⟩:=hD';refine⟨es,cl,hb,F,?_,hd⟩;rw [←hsz,hd];simp [Maps.size,length_sorted]
 ·by_cases hx:x=a
  ·subst hx;exact⟨by rw [Maps.has_del_same];simp [delI],fun v' hv' z=>by simp [delI] at hv'⟩
  ·refine⟨by rw [Maps.has_del_other (lit_ne hx),(hf x).1];simp [delI,hx],fun v' hv' z=>?_⟩;rw [Maps.atKey_del_other (lit_ne hx)];exact(hf x).2 v' (by simpa [delI,hx] using hv') z
end B
end Go.Proofs.YtechdefolfboeaaGreatDoor
namespace Go.Proofs.YtechdefolfboeaaGreatDoor.B
open Go.RowKit
structure Turn (S:Nat→Prop) (w w':World):Prop where
 os:w'.os=w.os
 tape:w'.tape=w.tape
 output:w'.output=w.output
 size:w.heap.size≤w'.heap.size
 block: ∀ k,k<w.heap.size→ ¬ S k→w'.heap[k]?=w.heap[k]?
section
variable {S S':Nat→Prop} {w w' w1 w2:World}
theorem Turn.refl (S:Nat→Prop) (w:World):Turn S w w:=⟨rfl,rfl,rfl,Nat.le_refl _,fun _ _ _=>rfl⟩
theorem Turn.mono (h:Turn S w w') (hs: ∀ k,k<w.heap.size→S k→S' k):Turn S' w w':=⟨h.os,h.tape,h.output,h.size,fun k hk hn=>h.block k hk fun hS=>hn (hs k hk hS)⟩
theorem Turn.trans (h:Turn S w w1) (k:Turn S' w1 w2) (hs: ∀ k,k<w.heap.size→S' k→S k):Turn S w w2:=
 ⟨k.os.trans h.os,k.tape.trans h.tape,k.output.trans h.output,Nat.le_trans h.size k.size,fun i hi hn=>(k.block i (Nat.lt_of_lt_of_le hi h.size) fun hS=>hn (hs i hi hS)).trans (h.block i hi hn)⟩
theorem Turn.drew (h:Turn S w w1):Turn S w w1.drew:=⟨h.os,h.tape,h.output,h.size,h.block⟩
theorem Turn.drewN (h:Turn S w w1) (n:Nat):Turn S w (w1.drewN n):=⟨h.os,h.tape,h.output,h.size,h.block⟩
theorem Turn.alloc (h:Turn S w w1) (o:Obj):Turn S w (w1.alloc o):=
 ⟨h.os,h.tape,h.output,Nat.le_trans h.size (by simp),fun k hk hn=>(Below.heap_alloc w1 o k (Nat.lt_of_lt_of_le hk h.size)).trans (h.block k hk hn)⟩
theorem Turn.setCell (h:Turn S w w1) {p:Addr} (hp:p.block<w.heap.size→S p.block) (u:Value):Turn S w (w1.setCell p u):=
 ⟨h.os,h.tape,h.output,Nat.le_trans h.size (by simp [World.setCell]),fun k hk hn=>(Below.heap_setCell w1 p u k (fun e=>by subst e;exact hn (hp hk))).trans (h.block k hk hn)⟩
theorem Turn.putObj (h:Turn S w w1) {r:Nat} (hp:r<w.heap.size→S r) (o:Obj):Turn S w (w1.putObj r o):=
 ⟨h.os,h.tape,h.output,Nat.le_trans h.size (by simp),fun k hk hn=>(World.putObj_heap_other (fun e=>by subst e;exact hn (hp hk))).trans (h.block k hk hn)⟩
theorem Turn.below (h:Turn S w w1) {C:Nat} (hb:Below C w1 w2) (hs: ∀ k,k<w.heap.size→C≤k→S k):Turn S w w2:=
 ⟨hb.os.trans h.os,hb.tape.trans h.tape,hb.output.trans h.output,Nat.le_trans h.size hb.size,fun k hk hn=>(hb.block k (Nat.lt_of_not_le fun hle=>hn (hs k hk hle))).trans (h.block k hk hn)⟩
theorem Turn.grown (h:Turn S w w1) {row:Option Nat} (hg:w1.grownBy w2 row) (hr: ∀ k,row=some k→k<w.heap.size→S k):Turn S w w2:=
 ⟨hg.os.trans h.os,hg.tape.trans h.tape,hg.output.trans h.output,Nat.le_trans h.size hg.size,fun k hk hn=>(hg.block k (Nat.lt_of_lt_of_le hk h.size) (fun e=>hn (hr k e.symm hk))).trans (h.block k hk hn)⟩
theorem Turn.toBelow (h:Turn S w w') {C:Nat} (hC:C≤w.heap.size) (hs: ∀ k,k<C→ ¬ S k):Below C w w':=
 ⟨h.os,h.tape,h.output,h.size,fun k hk=>h.block k (by omega) (hs k hk)⟩
theorem Below.toTurn {C:Nat} (h:Below C w w') (hs: ∀ k,C≤k→k<w.heap.size→S k):Turn S w w':=
 ⟨h.os,h.tape,h.output,h.size,fun k hk hn=>h.block k (Nat.lt_of_not_le fun hle=>hn (hs k hle hk))⟩
theorem Turn.cell (h:Turn S w w') {b o:Nat} (hb:b<w.heap.size) (hn: ¬ S b):w'.cell? ⟨b,o,none⟩=w.cell? ⟨b,o,none⟩:=World.cell?_of_block (w:=w) (h.block b hb hn)
end
structure Step (S S':Nat→Prop) (w w':World):Prop where
 turn:Turn S w w'
 sub: ∀ k,S k→S' k
 new: ∀ k,S' k→S k∨(w.heap.size≤k∧k<w'.heap.size)
theorem Step.same {S:Nat→Prop} {w w':World} (h:Turn S w w'):Step S S w w':=⟨h,fun _ h=>h,fun _ h=> .inl h⟩
theorem Step.refl (S:Nat→Prop) (w:World):Step S S w w:= .same (Turn.refl S w)
theorem Step.trans {S S' S'':Nat→Prop} {w w1 w2:World} (h:Step S S' w w1) (k:Step S' S'' w1 w2):Step S S'' w w2:=
 ⟨h.turn.trans k.turn (fun i hi hS=>(h.new i hS).resolve_right (by omega)),fun i hi=>k.sub i (h.sub i hi),fun i hi=>by
   rcases k.new i hi with h1|h1
   ·rcases h.new i h1 with h2|h2
    ·exact .inl h2
    ·exact .inr ⟨h2.1,Nat.lt_of_lt_of_le h2.2 k.turn.size⟩
   ·exact .inr ⟨Nat.le_trans h.turn.size h1.1,h1.2⟩⟩
def Iter {α:Type} (P:Program) (g:Nat) (lb:Array Value) (encs:α→Value) (xs:List α) (K T:Nat→Prop) (w:World):Prop:=
 ∀ (l:Nat) (J Jx:List α→(Nat→Prop)→World→Prop) (W:World),Below w.heap.size w W→J [] T W→
   (∀ pre S S' W W',J pre S W→Step S S' W W'→J pre S' W')→(∀ pre S S' W W',Jx pre S W→Step S S' W W'→Jx pre S' W')→
   (∀ pre S x W,J pre S W→pre++[x]<+:xs→YieldAt Fence.wide 0 P l #[encs x] W fun e W'=>
     (e= .returned (.bool true)∧J (pre++[x]) S W'∧Turn (fun k=> ¬ K k∧ ¬ S k) W W')∨(e= .returned (.bool false)∧Jx (pre++[x]) S W'∧Turn (fun k=> ¬ K k∧ ¬ S k) W W'))→
   CallsIn Fence.wide 0 P g (#[.func (.yield l) #[] #[]]++lb) W fun e W'=>(∃ v,e= .returned v)∧ ∃ S',J xs S' W'∨ ∃ pre,pre<+:xs∧Jx pre S' W'
def iterPost {α:Type} (I:List α→(Nat→Prop)→World→Prop) (Ix:Code→List α→(Nat→Prop)→World→Prop) (K:Nat→Prop) (S:Nat→Prop) (xs:List α) (W:World):Exit→Act→World→Prop
 | .normal,_,W'=>I xs S W'∧Turn (fun k=> ¬ K k∧ ¬ S k) W W'
 | .ret,_,W'=>Ix .ret xs S W'∧Turn (fun k=> ¬ K k∧ ¬ S k) W W'
 | .exit id,_,W'=>Ix (.exit id) xs S W'∧Turn (fun k=> ¬ K k∧ ¬ S k) W W'
 | .goto t,_,W'=>Ix (.goto t) xs S W'∧Turn (fun k=> ¬ K k∧ ¬ S k) W W'
 | .panic _,_,_=>False
 | .outgrown,_,_=>False
theorem wpIn_rangeFunc_iter {α:Type} {P:Program} {g:Operand} {p:Tmp} {assign body:Code} {Q:Exit→Act→World→Prop} {a:Act} {w:World}
 {gf:Nat} {lb:Array Value} (hg:a.eval g= .func (.func gf) #[] lb) (eg: ∀ args w,(callFunc gf args).run P w= .ok (.enter gf args) w)
 {encs:α→Value} {xs:List α} {K T:Nat→Prop} {w0:World} (hit:Iter P gf lb encs xs K T w0) (hb0:Below w0.heap.size w0 w) (hK: ∀ k,K k→k<w.heap.size) (hT: ∀ k,T k→k<w.heap.size)
 (I:List α→(Nat→Prop)→World→Prop) (Ix:Code→List α→(Nat→Prop)→World→Prop)
 (hI: ∀ pre S S' W W',I pre S W→Step S S' W W'→I pre S' W') (hIx: ∀ c pre S S' W W',Ix c pre S W→Step S S' W W'→Ix c pre S' W')
 (h0:I [] T w)
 (hbody: ∀ (l:Nat) (pre:List α) (x:α) (S:Nat→Prop) (W:World),pre++[x]<+:xs→I pre S W→w.heap.size≤W.heap.size→(∀ k,S k→k<W.heap.size)→
   assign.wpIn (Fence.wide.inRound l) 0 P (Exit.then (fun a1 W1=>Turn (fun k=> ¬ K k∧ ¬ S k) W W1∧ ∀ W2,Turn S W1 W2→W1.heap.size=W2.heap.size→body.wpIn (Fence.wide.inRound l) 0 P (iterPost I Ix K S (pre++[x]) W2) a1 W2) (fun _ _ _=>False))
    {tmps:=a.tmps.setIfInBounds p (encs x),defers:=[]} W)
 (hdone: ∀ (D:Nat) (S:Nat→Prop) (W:World),S D→w.heap.size≤D→I xs S W→W.heap[D]?=some (.deferred (some []))→Q .normal {a with defers:={target:= .collected D,args:=#[]}::a.defers} W)
 (hstop: ∀ (D:Nat) (S:Nat→Prop) (c:Code) (pre:List α) (W:World),S D→w.heap.size≤D→pre<+:xs→Ix c pre S W→W.heap[D]?=some (.deferred (some []))→c.wpIn Fence.wide 0 P Q {a with defers:={target:= .collected D,args:=#[]}::a.defers} W):
 (Code.rangeFunc g #[p] assign body).wpIn Fence.wide 0 P Q a w:=by
 refine wpIn_rangeFunc ?_;intro fn hfn;obtain⟨rec,hrec⟩: ∃ rec:LoopState→Option Code→Loop,rec=fun st pe=>{state:=st,pending:=pe,fn,tmps:=a.tmps,params:=#[p],assign,body,defers:=w.heap.size}:=⟨_,rfl⟩
 obtain⟨D,hD⟩: ∃ D,D=w.heap.size:=⟨_,rfl⟩
 obtain⟨L,hL⟩: ∃ L,L=w.heap.size+1:=⟨_,rfl⟩
 obtain⟨W1,hW1⟩: ∃ W1,(w.alloc (.deferred (some []))).alloc (.loop (rec .ready none))=W1:=⟨_,rfl⟩
 have hs1:W1.heap.size=w.heap.size+2:=by rw [←hW1];simp
 have hL1:W1.heap[L]?=some (.loop (rec .ready none)):=by
  rw [←hW1,hL];have:=World.alloc_heap_new (w.alloc (.deferred (some []))) (.loop (rec .ready none));rwa [World.size_alloc] at this
 have hK1:W1.heap[D]?=some (.deferred (some [])):=by
  rw [←hW1,hD];exact(Below.heap_alloc _ _ _ (by simp)).trans (World.alloc_heap_new w _)
 have ht1:Turn T w W1:=by rw [←hW1];exact((Turn.refl _ w).alloc _).alloc _
 have hst1:Step T (fun k=>T k∨k=D∨k=L) w W1:=⟨ht1,fun _ h=> .inl h,fun k hk=>hk.imp id fun hk=>(by omega)⟩
 have hI1:I [] (fun k=>T k∨k=D∨k=L) W1:=hI _ _ _ _ _ h0 hst1;have hb1:Below w0.heap.size w0 W1:=hb0.trans ((by rw [←hW1];exact((Below.refl _ w).alloc hb0.size _).alloc (by simp;have:=hb0.size;omega) _:Below w0.heap.size w W1))
 refine⟨L,[{target:= .collected D,args:=#[]}],W1,{target:= .fn (.func gf) lb,args:=#[.func (.yield L) #[] #[]]},W1,gf,
  #[.func (.yield L) #[] #[]]++lb,W1,?_,?_,?_,?_,fun h=>by simp [Fence.wide] at h,?_⟩
 ·rw [←hW1,hrec,hD,hL];exact run_enterLoop_outer _ _ _ _ _
 ·simp only [resolve,hg];simp [go_sem]
 ·intro f' _;trivial
 ·simp [invoke,go_sem,eg]
 ·refine(hit L
   (fun pre S W=>I pre (fun k=>S k∨k=D∨k=L) W∧W.heap[L]?=some (.loop (rec .ready none))∧W.heap[D]?=some (.deferred (some []))∧ ¬ S D∧ ¬ S L∧ ∀ k,S k→k<W.heap.size)
   (fun pre S W=> ∃ c,Ix c pre (fun k=>S k∨k=D∨k=L) W∧W.heap[L]?=some (.loop (rec .done (some c)))∧W.heap[D]?=some (.deferred (some []))∧ ¬ S D∧ ¬ S L)
   W1 hb1 ⟨hI1,hL1,hK1,fun h=>by have:=hT _ h;omega,fun h=>by have:=hT _ h;omega,fun k h=>by have:=hT _ h;omega⟩ ?_ ?_ ?_).mono ?_
  ·rintro pre S S' W W' ⟨hi,hl,hd,hnd,hnl,hS⟩ hst;have hlL:=(Array.getElem?_eq_some_iff.1 hl).1;have hlD:=(Array.getElem?_eq_some_iff.1 hd).1;refine⟨hI _ _ _ _ _ hi ⟨hst.turn.mono fun k _ h=> .inl h,fun k h=>h.imp (hst.sub k) id,fun k h=>?_⟩,(hst.turn.block L hlL hnl).trans hl,(hst.turn.block D hlD hnd).trans hd,fun h=>?_,fun h=>?_,fun k hk=>?_⟩
   ·rcases h with h|h
    ·rcases hst.new k h with h|h
     ·exact .inl (.inl h)
     ·exact .inr h
    ·exact .inl (.inr h)
   ·rcases hst.new D h with h|h
    ·exact hnd h
    ·omega
   ·rcases hst.new L h with h|h
    ·exact hnl h
    ·omega
   ·rcases hst.new k hk with h|h
    ·have:=hS k h;have:=hst.turn.size;omega
    ·exact h.2
  ·rintro pre S S' W W' ⟨c,hi,hl,hd,hnd,hnl⟩ hst;have hlL:=(Array.getElem?_eq_some_iff.1 hl).1;have hlD:=(Array.getElem?_eq_some_iff.1 hd).1;refine⟨c,hIx _ _ _ _ _ _ hi ⟨hst.turn.mono fun k _ h=> .inl h,fun k h=>h.imp (hst.sub k) id,fun k h=>?_⟩,(hst.turn.block L hlL hnl).trans hl,(hst.turn.block D hlD hnd).trans hd,fun h=>?_,fun h=>?_⟩
   ·rcases h with h|h
    ·rcases hst.new k h with h|h
     ·exact .inl (.inl h)
     ·exact .inr h
    ·exact .inl (.inr h)
   ·rcases hst.new D h with h|h
    ·exact hnd h
    ·omega
   ·rcases hst.new L h with h|h
    ·exact hnl h
    ·omega
  ·
   rintro pre S x W ⟨hi,hl,hd,hnd,hnl,hS⟩ hpre;have hlL:=(Array.getElem?_eq_some_iff.1 hl).1;have hlD:=(Array.getElem?_eq_some_iff.1 hd).1;have hNW:w.heap.size≤W.heap.size:=by omega
   have hKL: ¬ K L:=fun h=>by have:=hK _ h;omega
   have hy:=run_yield (P:=P) (args:=#[encs x]) hl (by rw [hrec];rfl);rw [hrec] at hy;have hy':(Instr.yield L #[encs x]).run P W= .ok (.round L fn (a.tmps.setIfInBounds p (encs x)) assign body) W:=by rw [hy];simp
   refine⟨fn,_,assign,body,hy',roundIn_of_wpIn hfn (wpIn_mono (hbody L pre x _ W hpre hi hNW (fun k h=>h.elim (hS k) fun h=>h.elim (fun h=>h ▸ hlD) fun h=>h ▸ hlL)) ?_)⟩;rintro e a1 W2 hq
   cases e with
   |normal=>
    obtain⟨hT2,hbd⟩:=hq;have e2: ∀ k,k<W.heap.size→(S k∨k=D∨k=L)→W2.heap[k]?=W.heap[k]?:=fun k hk h=>hT2.block k hk fun h'=>h'.2 h;have hl2:=(e2 L hlL (.inr (.inr rfl))).trans hl;have hd2:=(e2 D hlD (.inr (.inl rfl))).trans hd;refine⟨_,run_beginRound hl2 (by rw [hrec]),?_⟩;have hsz2:L<W2.heap.size:=(Array.getElem?_eq_some_iff.1 hl2).1;have hl3:(W2.putObj L (.loop {rec .ready none with state:= .busy})).heap[L]?=some (.loop {rec .ready none with state:= .busy}):=World.putObj_heap_same hsz2;have hd3:(W2.putObj L (.loop {rec .ready none with state:= .busy})).heap[D]?=some (.deferred (some [])):=(World.putObj_heap_other (by omega)).trans hd2;obtain⟨W3,hW3⟩: ∃ W3,W2.putObj L (.loop {rec .ready none with state:= .busy})=W3:=⟨_,rfl⟩
    rw [hW3] at hl3 hd3 ⊢
    have hT3:Turn (fun k=> ¬ K k∧ ¬ S k) W W3:=by
     rw [←hW3];exact(hT2.mono (fun k _ h=>⟨h.1,fun hs=>h.2 (.inl hs)⟩)).putObj (fun _=>⟨hKL,hnl⟩) _
    have fin: ∀ (jump:Option Code) (W4:World),Turn (fun k=> ¬ K k∧ ¬ (S k∨k=D∨k=L)) W3 W4→
     (Instr.endRound L jump).run P W4= .ok (.bool jump.isNone) (W4.putObj L (.loop (rec (if jump.isNone then .ready else .done) jump)))∧
     (W4.putObj L (.loop (rec (if jump.isNone then .ready else .done) jump))).heap[L]?=some (.loop (rec (if jump.isNone then .ready else .done) jump))∧
     (W4.putObj L (.loop (rec (if jump.isNone then .ready else .done) jump))).heap[D]?=some (.deferred (some []))∧
     Turn (fun k=> ¬ K k∧ ¬ S k) W (W4.putObj L (.loop (rec (if jump.isNone then .ready else .done) jump)))∧
     Step (fun k=>S k∨k=D∨k=L) (fun k=>S k∨k=D∨k=L) W4 (W4.putObj L (.loop (rec (if jump.isNone then .ready else .done) jump))):=fun jump W4 hT=>by
     have hl4:=(hT.block L (Array.getElem?_eq_some_iff.1 hl3).1 (fun h'=>h'.2 (.inr (.inr rfl)))).trans hl3;have hd4:=(hT.block D (Array.getElem?_eq_some_iff.1 hd3).1 (fun h'=>h'.2 (.inr (.inl rfl)))).trans hd3;have:=run_endRound (P:=P) jump hl4;rw [hrec] at this ⊢
     exact⟨this,World.putObj_heap_same (Array.getElem?_eq_some_iff.1 hl4).1,(World.putObj_heap_other (by omega)).trans hd4,
      (hT3.trans hT (fun k _ h=>⟨h.1,fun hs=>h.2 (.inl hs)⟩)).putObj (fun _=>⟨hKL,hnl⟩) _,.same ((Turn.refl _ W4).putObj (fun _=> .inr (.inr rfl)) _)⟩
    refine wpIn_mono (hbd W3 (by rw [←hW3];exact(Turn.refl _ W2).putObj (fun _=> .inr (.inr rfl)) _) (by rw [←hW3];simp)) ?_;rintro e a3 W4 hp
    cases e with
    |normal=>
     obtain⟨hi4,hT⟩:=hp;obtain⟨hr,hl4,hd4,hT5,hst5⟩:=fin none W4 hT;exact⟨_,_,hr,.inl ⟨rfl,⟨hI _ _ _ _ _ hi4 hst5,hl4,hd4,hnd,hnl,fun k hk=>Nat.lt_of_lt_of_le (hS k hk) hT5.size⟩,hT5⟩⟩
    |ret=>
     obtain⟨hi4,hT⟩:=hp;obtain⟨hr,hl4,hd4,hT5,hst5⟩:=fin (some .ret) W4 hT;exact⟨_,_,hr,.inr ⟨rfl,⟨_,hIx _ _ _ _ _ _ hi4 hst5,hl4,hd4,hnd,hnl⟩,hT5⟩⟩
    |exit id=>
     obtain⟨hi4,hT⟩:=hp;obtain⟨hr,hl4,hd4,hT5,hst5⟩:=fin (some (.exit id)) W4 hT;exact⟨_,_,hr,.inr ⟨rfl,⟨_,hIx _ _ _ _ _ _ hi4 hst5,hl4,hd4,hnd,hnl⟩,hT5⟩⟩
    |goto t=>
     obtain⟨hi4,hT⟩:=hp;obtain⟨hr,hl4,hd4,hT5,hst5⟩:=fin (some (.goto t)) W4 hT;exact⟨_,_,hr,.inr ⟨rfl,⟨_,hIx _ _ _ _ _ _ hi4 hst5,hl4,hd4,hnd,hnl⟩,hT5⟩⟩
    |panic ch=>exact hp.elim
    |outgrown=>exact hp.elim
   |exit id=>exact hq.elim
   |goto t=>exact hq.elim
   |ret=>exact hq.elim
   |panic ch=>exact hq.elim
   |outgrown=>exact hq.elim
  ·
   rintro e W2 ⟨⟨v,rfl⟩,S',(⟨hi,hl,hd,hnd,hnl,_⟩|⟨pre,hpre,c,hi,hl,hd,hnd,hnl⟩)⟩
   ·have he:=run_endLoop (P:=P) hl (by rw [hrec];simp);rw [hrec] at he;exact⟨none,_,he,hdone D _ _ (.inr (.inl rfl)) (by omega) (hI _ _ _ _ _ hi (.same ((Turn.refl _ W2).putObj (fun _=> .inr (.inr rfl)) _))) ((World.putObj_heap_other (by omega)).trans hd)⟩
   ·have he:=run_endLoop (P:=P) hl (by rw [hrec];simp);rw [hrec] at he;exact⟨some c,_,he,hstop D _ c pre _ (.inr (.inl rfl)) (by omega) hpre (hIx _ _ _ _ _ _ hi (.same ((Turn.refl _ W2).putObj (fun _=> .inr (.inr rfl)) _))) ((World.putObj_heap_other (by omega)).trans hd)⟩
theorem cells_new (w:World) (cs:List Value) (t:TypeId): ∀ j u,cs[j]?=some u→(w.alloc (.cells cs.toArray t)).cell? ((⟨w.heap.size,0,none⟩:Addr).add j)=some u:=by
 intro j u h;have e:(⟨w.heap.size,0,none⟩:Addr).add j=⟨w.heap.size,j,none⟩:=by unfold Addr.add;split<;>simp_all
 rw [e,cell_of_row _ _ _ _ _ _ (heap_alloc_new w _)];simpa using h
theorem append_one {α:Type} {P:Program} {enc:α→List Value} {t e:TypeId} {z:Value} {size bytes:Nat} (ht:P.underlying t=some (.slice e))
 (hi:(P.info? e).map (fun i=>(i.zero,i.size,i.bytes))=some (some z,size,bytes)) (hzs:z.cells.size=size) (hsz:0<size) (hes: ∀ x,(enc x).length =size) (h1: ∀ x, ∀ u∈enc x,u.oneCell'=true)
 (w:World) (base:Nat) (v:Value) (l:List α) (x:α) (hown:w.ownsRow base e size v l.length (l.flatMap enc)) (hlen:l.length+1≤1099511627776) (hb:bytes≤127) (hbase:base≤w.heap.size):
 ∃ g c w',(Builtin.append_ #[t,t] t #[v,.slice (some ⟨w.heap.size,0,none⟩) 1 1]).run P (w.alloc (.cells (enc x).toArray e))= .ok (.slice (some ⟨g,0,none⟩) (l.length+1) c) w'∧
   w'.ownsRow base e size (.slice (some ⟨g,0,none⟩) (l.length+1) c) (l++[x]).length ((l++[x]).flatMap enc)∧(w.alloc (.cells (enc x).toArray e)).grownBy w' v.ownBlock∧(v.ownBlock=some g∨g=w.heap.size+1):=by
 obtain⟨i,hi,hz0,hz1,hz2⟩:=info_parts hi
 obtain⟨v',w',hr,h2,h3,_,h5⟩:=run_append_own_at (P:=P) (w.alloc (.cells (enc x).toArray e)) base t t e i z size bytes ht hi hz0 hz1 hz2 hzs hsz v l.length _ (hown.alloc _)
  ⟨w.heap.size,0,none⟩ 1 1 (enc x) (by rw [hes,Nat.one_mul]) (cells_new w (enc x) e) (h1 x) (by rw [maxLen_num];omega)
  (Nat.le_trans (Nat.mul_le_mul hlen hb) (by decide)) (by simp;omega)
 rcases h2.2 with⟨_,h0⟩|⟨g,cap,cur,rfl,hg⟩
 ·omega
 ·refine⟨g,cap,w',hr,by simpa [List.flatMap_append] using h2,h3,?_⟩;rcases h5 with h5|h5
  ·exact .inl h5.symm
  ·simp [Value.ownBlock] at h5;exact .inr h5
theorem wpListIn_append_run {F:Fence} {n:Nat} {P:Program} {w:World} {ops:Array Oper} {rest:List Oper} {o:Oper} {a:Act} {Q:Exit→Act→World→Prop}
 (hg:o.guard=none) (s x:Operand) (t:TypeId) (hop:o.op=Op.call {callee:=Callee.builtin Builtin.append,args:=#[s,x],argTypes:=#[t,t]}) {v u v':Value} {w':World}
 (hs:a.eval s=v) (hx:a.eval x=u) (hrun:(Builtin.append_ #[t,t] o.type #[v,u]).run P w= .ok v' w') (hK:wpListIn F n P ops Q rest (a.put o.dst v') w'):wpListIn F n P ops Q (o::rest) a w:=by
 refine wpListIn_plain hg fun K hK'=>?_;unfold Oper.wpIn;refine⟨?_,?_⟩
 ·simp [Oper.about,hop,resolve,Target.leads,Sem.run_pure]
 ·rw [Oper.semAt_plain F _ _ (by rw [hop];intro c hc';cases hc')];simp [execOp,hop,resolve,invoke,builtin,hs,hx,hrun,Result.andThen];exact hK' _ _ hK
theorem wpList_append_run {P:Program} {w:World} {ops:Array Oper} {rest:List Oper} {o:Oper} {a:Act} {Q:Exit→Act→World→Prop}
 (hg:o.guard=none) (s x:Operand) (t:TypeId) (hop:o.op=Op.call {callee:=Callee.builtin Builtin.append,args:=#[s,x],argTypes:=#[t,t]}) {v u v':Value} {w':World}
 (hs:a.eval s=v) (hx:a.eval x=u) (hrun:(Builtin.append_ #[t,t] o.type #[v,u]).run P w= .ok v' w') (hK:wpList P ops Q rest (a.put o.dst v') w'):wpList P ops Q (o::rest) a w:=by
 refine wpList_plain hg fun K hK'=>?_;unfold Oper.wp execOp;simp only [hop,resolve,invoke,builtin,Sem.run_bind,Sem.run_pure,Result.andThen_ok,List.map_toArray,List.map_cons,List.map_nil,hs,hx,hrun];exact hK' _ _ hK
theorem own_push {α:Type} {P:Program} {enc:α→List Value} {t e:TypeId} {z:Value} {size bytes:Nat} (ht:P.underlying t=some (.slice e))
 (hi:(P.info? e).map (fun i=>(i.zero,i.size,i.bytes))=some (some z,size,bytes)) (hzs:z.cells.size=size) (hsz:0<size) (hes: ∀ x,(enc x).length =size) (h1: ∀ x, ∀ u∈enc x,u.oneCell'=true)
 {B:Nat} {w wr:World} {v:Value} {l:List α} (x:α) (hown:wr.ownsRow B e size v l.length (l.flatMap enc)) (hlen:l.length+1≤1099511627776) (hby:bytes≤127) (hb:Below B w wr) (hB:B≤wr.heap.size) (nq:Nat):
 ∃ g c w1,(Builtin.append_ #[t,t] t #[v,.slice (some ⟨wr.heap.size,0,none⟩) 1 1]).run P ((wr.drewN nq).alloc (.cells (enc x).toArray e))= .ok (.slice (some ⟨g,0,none⟩) (l.length+1) c) w1∧
   w1.ownsRow B e size (.slice (some ⟨g,0,none⟩) (l.length+1) c) (l.length+1) ((l++[x]).flatMap enc)∧Below B w w1∧wr.heap.size<w1.heap.size∧((wr.drewN nq).alloc (.cells (enc x).toArray e)).grownBy w1 v.ownBlock∧(v.ownBlock=some g∨g=wr.heap.size+1):=by
 obtain⟨g,c,w1,hrun,own1,hgr,hg⟩:=append_one (enc:=enc) ht hi hzs hsz hes h1 (wr.drewN nq) B v l x hown hlen hby hB;have hb2:Below B w ((wr.drewN nq).alloc (.cells (enc x).toArray e)):=Below.alloc (w:=wr.drewN nq) ⟨hb.os,hb.tape,hb.output,hb.size,hb.block⟩ hB _;refine⟨g,c,w1,hrun,by simpa using own1,hb2.grown hgr (by simp;omega) (fun k hk=>(hown.lt k hk).1),?_,hgr,hg⟩;have:=hgr.size;simp at this;omega
theorem Rd.src {α:Type} {w:World} {size n:Nat} {enc:α→List Value} {A:Option Addr} {l:List α} (h:Rd w size enc A n l) (hes: ∀ x,(enc x).length =size) (hsz:0<size) {a:Addr} (hA:A=some a):
 ∀ j u,(l.flatMap enc)[j]?=some u→w.cell? (a.add j)=some u:=by
 intro j u hu
 have hlen:(l.flatMap enc).length =l.length*size:=by
  clear h hu
  induction l with
  |nil=>simp
  |cons x r ih=>rw [List.flatMap_cons,List.length_append,hes,ih,List.length_cons,Nat.succ_mul];omega
 have hj:j<l.length*size:=by
  obtain⟨hj,_⟩:=List.getElem?_eq_some_iff.1 hu;omega
 have hl:j / size<l.length:=Nat.div_lt_of_lt_mul (by rw [Nat.mul_comm];exact hj);have hn:0<n:=by have:=h.len;have:=Nat.zero_le (j / size);rw [←h.len];exact Nat.lt_of_le_of_lt this hl
 obtain⟨b,o,e,hb,hc⟩:=h.cells hn;rw [hA] at e;cases e;have hmod:j % size<size:=Nat.mod_lt _ hsz;have hx:=List.getElem?_eq_getElem hl;have hy:(enc l[j / size])[j % size]?=some ((enc l[j / size])[j % size]'(by rw [hes];exact hmod)):=List.getElem?_eq_getElem (by rw [hes];exact hmod);have e1:=flatMap_at hes l _ _ hx _ _ hy;have hdm:j / size*size+j % size=j:=by rw [Nat.mul_comm];exact Nat.div_add_mod j size
 rw [hdm,hu] at e1;cases e1;have:=hc _ _ hx _ _ hy;rw [show o+j / size*size+j % size=o+j by omega] at this;unfold Addr.add;split
 ·rename_i h0;subst h0;simpa using this
 ·exact this
theorem run_append_none {P:Program} {t e:TypeId} {i:TypeInfo} {base size:Nat} (ht:P.underlying t=some (.slice e)) (hi:P.info? e=some i) (w:World)
 (v:Value) (n:Nat) (xs:List Value) (hown:w.ownsRow base e size v n xs) (c:Nat):(Builtin.append_ #[t,t] t #[v,.slice none 0 c]).run P w= .ok v w:=by
 rcases hown.2 with⟨rfl,rfl⟩|⟨g,cap,cur,rfl,_,_,hnc,_⟩
 ·simp [Builtin.append_,run_underlying ht,sizeOf,typeInfo,hi,Builtin.lenOf,Builtin.firstCells]
 ·simp [Builtin.append_,run_underlying ht,sizeOf,typeInfo,hi,Builtin.lenOf,Builtin.firstCells,hnc,storeCells]
theorem own_append {α:Type} {P:Program} {enc:α→List Value} {t e:TypeId} {z:Value} {size bytes:Nat} (ht:P.underlying t=some (.slice e))
 (hi:(P.info? e).map (fun i=>(i.zero,i.size,i.bytes))=some (some z,size,bytes)) (hzs:z.cells.size=size) (hsz:0<size) (hes: ∀ x,(enc x).length =size) (h1: ∀ x, ∀ u∈enc x,u.oneCell'=true)
 {base:Nat} {w:World} {v:Value} {l r:List α} {A:Option Addr} {m:Nat} (c:Nat) (hown:w.ownsRow base e size v l.length (l.flatMap enc)) (hr:Rd w size enc A m r) (hlen:l.length+m≤1099511627776) (hby:bytes≤127) (hB:base≤w.heap.size):
 ∃ v' w1,(Builtin.append_ #[t,t] t #[v,.slice A m c]).run P w= .ok v' w1∧w1.ownsRow base e size v' (l.length+m) ((l++r).flatMap enc)∧w.grownBy w1 v.ownBlock∧(v'.ownBlock=v.ownBlock∨v'.ownBlock=some w.heap.size):=by
 obtain⟨i,hi,hz0,hz1,hz2⟩:=info_parts hi
 have hflat:(r.flatMap enc).length =m*size:=by
  rw [←hr.len];clear hr hlen
  induction r with
  |nil=>simp
  |cons x r ih=>rw [List.flatMap_cons,List.length_append,hes,ih,List.length_cons,Nat.succ_mul];omega
 rcases A with _|a
 ·have hm:m=0:=by
   rcases Nat.eq_zero_or_pos m with h0|h0
   ·exact h0
   ·obtain⟨b,o,h,_⟩:=hr.cells h0;cases h
  subst hm;obtain rfl:r=[]:=List.eq_nil_of_length_eq_zero hr.len;exact⟨v,w,run_append_none ht hi w v _ _ hown c,by simpa using hown,World.grownBy.refl w _,.inl rfl⟩
 ·obtain⟨v',w',hrun,h2,h3,_,h5⟩:=run_append_own_at (P:=P) w base t t e i z size bytes ht hi hz0 hz1 hz2 hzs hsz v l.length _ hown a m c (r.flatMap enc) hflat (hr.src hes hsz rfl)
   (fun u hu=>by obtain⟨x,_,hx⟩:=List.mem_flatMap.1 hu;exact h1 x u hx) (by rw [maxLen_num];omega) (Nat.le_trans (Nat.mul_le_mul hlen hby) (by decide)) hB
  exact⟨v',w',hrun,by rw [List.flatMap_append];exact h2,h3,h5⟩
theorem own_lit0 (w:World) (base:Nat) (e:TypeId) (size:Nat) (hb:base≤w.heap.size):(w.alloc (.cells #[] e)).ownsRow base e size (.slice (some ⟨w.heap.size,0,none⟩) 0 0) 0 []:=
 World.ownsRow_made w #[] 0 hb (Nat.zero_le _) (by simp)
def RetR {α:Type} (size:Nat) (enc:α→List Value) (w:World) (l:List α) (e:Ending) (w':World):Prop:=
 ∃ A c,e= .returned (.slice A l.length c)∧Rd w' size enc A l.length l∧l.length≤c∧c≤9223372036854775807∧Below w.heap.size w w'
theorem RetR.mk {α:Type} {size:Nat} {enc:α→List Value} {w w':World} {l:List α} {e:Ending} (A:Option Addr) (c:Nat) (h:e= .returned (.slice A l.length c)) (r:Rd w' size enc A l.length l) (hc:l.length≤c) (hc2:c≤9223372036854775807) (hb:Below w.heap.size w w'):
 RetR size enc w l e w':=⟨A,c,h,r,hc,hc2,hb⟩
def tripE (t:Int×Int×Int):List Value:=[.int .i64 t.1,.int .i64 t.2.1,.int .i64 t.2.2]
theorem tripE_len (t:Int×Int×Int):(tripE t).length =3:=rfl
theorem tripE_one (x:Int×Int×Int): ∀ u∈tripE x,u.oneCell'=true:=fun u hu=>by simp [tripE] at hu;rcases hu with rfl|rfl|rfl<;>rfl
theorem Rd.trip {w:World} {n k:Nat} {A:Option Addr} {l:List (Int×Int×Int)} (h:Rd w 3 tripE A n l) (hk:k<n): ∃ b o x y z,A=some ⟨b,o,none⟩∧b<w.heap.size∧l[k]?=some (x,y,z)∧
 w.cell? ⟨b,o+k*3,none⟩=some (.int .i64 x)∧w.cell? ⟨b,o+k*3+1,none⟩=some (.int .i64 y)∧w.cell? ⟨b,o+k*3+2,none⟩=some (.int .i64 z):=by
 obtain⟨b,o,rfl,hb,hc⟩:=h.cells (by omega);have hl:k<l.length:=by rw [h.len];exact hk
 have hx:l[k]?=some l[k]:=List.getElem?_eq_getElem hl;exact⟨b,o,l[k].1,l[k].2.1,l[k].2.2,rfl,hb,hx,hc k _ hx 0 _ rfl,hc k _ hx 1 _ rfl,hc k _ hx 2 _ rfl⟩
theorem wp_region_below {P:Program} {id:Nat} {Q:Exit→Act→World→Prop} {a:Act} {w:World} {l:List Oper} (N:Nat) (hm:P.follows .mixedOrders =true) (hB:Region.lexB .any l.toArray=true)
 (h: ∀ C:World→Prop,(C=fun w'=>Below N w w')→wpQuiet P l.toArray C (fun a'=> ∀ w',Below N w w'→Q .normal a' w') l a):(Code.region id l.toArray true).wp P Q a w:=
 wp_region_quiet (C:=fun w'=>Below N w w') hm hB ⟨rfl,rfl,rfl,Nat.le_refl _,fun _ _=>rfl⟩ (by simpa using h _ rfl)
structure Box3 (w:World) (b:Nat) (f v n:Int):Prop where
 lt:b<w.heap.size
 c0:w.cell? ⟨b,0,none⟩=some (.int .i64 f)
 c1:w.cell? ⟨b,1,none⟩=some (.int .i64 v)
 c2:w.cell? ⟨b,2,none⟩=some (.int .i64 n)
theorem Box3.below {w w':World} {b N:Nat} {f v n:Int} (h:Box3 w b f v n) (hb:Below N w w') (hN:b<N):Box3 w' b f v n:=
 ⟨Nat.lt_of_lt_of_le h.lt hb.size,(hb.cell (p:=⟨b,0,none⟩) hN).trans h.c0,(hb.cell (p:=⟨b,1,none⟩) hN).trans h.c1,(hb.cell (p:=⟨b,2,none⟩) hN).trans h.c2⟩
structure Rel (R:World→World→Prop):Prop where
 refl: ∀ w,R w w
 trans: ∀ a b c,R a b→R b c→R a c
 draw: ∀ w:World,R w {w with drawn:=w.drawn+1}
section
variable {P:Program} {R:World→World→Prop}
def Deps (I:List (Value→World→Prop)) (es:List Edge) (x:Nat→Value) (w:World):Prop:= ∀ e∈es,Region.binds .any e=true→ ∀ J,I[e.on]?=some J→J (x e.on) w
def upd (x:Nat→Value) (i:Nat) (v:Value):Nat→Value:=fun k=>if k=i then v else x k
def unlisted (ops:Array Oper) (listed:Array Bool):List Nat:=(List.range ops.size).filter fun i=> !listed.getD i true
theorem unlisted_set {ops:Array Oper} {listed:Array Bool} {i:Nat} (hi:i<ops.size) (hu:listed.getD i true=false):(unlisted ops (listed.setIfInBounds i true)).length <(unlisted ops listed).length :=by
 have hsub:(unlisted ops (listed.setIfInBounds i true)).Sublist (unlisted ops listed):=by
  have e:unlisted ops (listed.setIfInBounds i true)=(unlisted ops listed).filter fun k=> !(listed.setIfInBounds i true).getD k true:=by
   unfold unlisted;rw [List.filter_filter];refine List.filter_congr fun k _=>?_;by_cases e:i=k
   ·subst e;simp [hu]
   ·rw [getD_set_ne true e];simp
  rw [e];exact List.filter_sublist
 refine Nat.lt_of_le_of_ne hsub.length_le fun e=>?_;have e2:=hsub.eq_of_length e;have m:i∈unlisted ops listed:=by unfold unlisted;rw [List.mem_filter,List.mem_range];exact⟨hi,by simp [hu]⟩
 rw [←e2] at m;unfold unlisted at m;rw [List.mem_filter] at m
 have hs:i<listed.size:=by
  rcases Nat.lt_or_ge i listed.size with h|h
  ·exact h
  ·simp [Array.getElem?_eq_none h] at hu
 simp [hs] at m
def setAll (x:Nat→Value):Nat→List Oper→Array Value→Array Value
 |_,[],t=>t
 |i,o::r,t=>setAll x (i+1) r (match o.dst with|some d=>t.setIfInBounds d (x i)|none=>t)
def dstsB:List Oper→Bool
 |[]=>true
 |o::r=>(match o.dst with|some d=>r.all fun p=>p.dst !=some d|none=>true)&&dstsB r
theorem setAll_set {x:Nat→Value} {d:Nat} {v:Value}: ∀ (l:List Oper) (i:Nat) (t:Array Value),(∀ p∈l,p.dst≠some d)→(setAll x i l t).setIfInBounds d v=setAll x i l (t.setIfInBounds d v)
 |[],_,_,_=>rfl
 |o::r,i,t,h=>by
  unfold setAll;rw [setAll_set r (i+1) _ fun p hp=>h p (List.mem_cons_of_mem _ hp)]
  cases hd:o.dst with
  |none=>rfl
  |some e=>
   have:e≠d:=fun h'=>h o List.mem_cons_self (by rw [hd,h']);simp only;rw [Array.setIfInBounds_comm _ _ this]
theorem setAll_upd {x:Nat→Value} {v:Value} {i:Nat}: ∀ (l:List Oper) (k:Nat) (t:Array Value),(∀ j,k≤j→j<k+l.length→j≠i)→setAll (upd x i v) k l t=setAll x k l t
 |[],_,_,_=>rfl
 |o::r,k,t,h=>by
  unfold setAll;have e:upd x i v k=x k:=if_neg (h k (Nat.le_refl _) (by simp));rw [e];exact setAll_upd r (k+1) _ fun j h1 h2=>h j (by omega) (by simp at h2 ⊢;omega)
theorem setAll_put {x:Nat→Value} {v:Value} {o:Oper}: ∀ (l:List Oper) (k i:Nat) (t:Array Value),dstsB l=true→l[i]?=some o→
 (match o.dst with|some d=>(setAll x k l t).setIfInBounds d v|none=>setAll x k l t)=setAll (upd x (k+i) v) k l t
 |[],_,i,_,_,ho=>by simp at ho
 |p::r,k,i,t,hd,ho=>by
  unfold dstsB at hd;rw [Bool.and_eq_true] at hd
  cases i with
  |zero=>
   simp at ho;subst ho;unfold setAll;rw [setAll_upd r (k+1) _ fun j h1 h2=>by omega]
   cases hp:p.dst with
   |none=>rfl
   |some d=>
    simp only
    rw [setAll_set r _ _ fun q hq=>by
     have h1:=hd.1;rw [hp] at h1;have:=(List.all_eq_true.1 h1) q hq;simpa using this]
    simp [upd]
  |succ i=>
   have h2:=setAll_put (x:=x) (v:=v) r (k+1) i (match p.dst with|some d=>t.setIfInBounds d (x k)|none=>t) hd.2 (by simpa using ho);unfold setAll;rw [h2,show k+1+i=k+(i+1) by omega];have e:upd x (k+(i+1)) v k=x k:=if_neg (by omega);rw [e]
theorem setAll_own: ∀ (l:List Oper) (k:Nat) (t t0:Array Value) (x:Nat→Value),(∀ i o d,l[i]?=some o→o.dst=some d→x (k+i)=t.getD d undef)→setAll x k l t=t
 |[],_,_,_,_,_=>rfl
 |o::r,k,t,t0,x,h=>by
  unfold setAll
  have e:(match o.dst with|some d=>t.setIfInBounds d (x k)|none=>t)=t:=by
   cases hd:o.dst with
   |none=>rfl
   |some d=>
    simp only;have:=h 0 o d rfl hd;rw [Nat.add_zero] at this;rw [this];refine Array.ext_getElem? fun i=>?_;rw [Array.getElem?_setIfInBounds];split
    ·rename_i hdi;subst hdi;by_cases hs:d<t.size
     ·rw [if_pos hs];simp [Array.getD,hs]
     ·rw [if_neg hs,Array.getElem?_eq_none (Nat.le_of_not_lt hs)]
    ·rfl
  rw [e];exact setAll_own r (k+1) t t0 x fun i p d hp hd=>by have:=h (i+1) p d (by simpa using hp) hd;rwa [show k+(i+1)=k+1+i by omega] at this
theorem Deps.at_ {I:List (Value→World→Prop)} {es:List Edge} {x:Nat→Value} {w:World} (h:Deps I es x w) (k:Nat) {J:Value→World→Prop} (he:(es.any fun e=>e.on==k&&Region.binds .any e)=true) (hJ:I[k]?=some J):J (x k) w:=by
 obtain⟨e,hm,h2⟩:=List.any_eq_true.1 he;rw [Bool.and_eq_true] at h2;obtain⟨h3,h4⟩:=h2;have h3:e.on=k:=by simpa using h3
 subst h3;exact h e hm h4 J hJ
def dstIx (d:Nat):Nat→List Oper→Option Nat
 |_,[]=>none
 |i,o::r=>if o.dst=some d then some i else dstIx d (i+1) r
theorem setAll_size {x:Nat→Value}: ∀ (l:List Oper) (i:Nat) (t:Array Value),(setAll x i l t).size =t.size
 |[],_,_=>rfl
 |o::r,i,t=>by
  unfold setAll;rw [setAll_size r];cases o.dst<;>simp
def dstsIn (n:Nat) (l:List Oper):Bool:=l.all fun o=>match o.dst with|some d=>decide (d<n)|none=>true
theorem setAll_getD {x:Nat→Value} {d:Nat}: ∀ (l:List Oper) (i:Nat) (t:Array Value),dstsB l=true→dstsIn t.size l=true→
 (setAll x i l t).getD d undef=match dstIx d i l with|some k=>x k|none=>t.getD d undef
 |[],_,_,_,_=>rfl
 |o::r,i,t,h,hn=>by
  unfold dstsB at h;unfold dstsIn at hn;rw [Bool.and_eq_true] at h;rw [List.all_cons,Bool.and_eq_true] at hn;unfold setAll dstIx;by_cases e:o.dst=some d
  ·rw [if_pos e];simp only [e];have h1:=h.1;rw [e] at h1;rw [←setAll_set r _ _ fun p hp=>by have:=List.all_eq_true.1 h1 p hp;simpa using this];have h2:=hn.1;rw [e] at h2;have h2:d<t.size:=of_decide_eq_true h2;have h3:d<((setAll x (i+1) r t).setIfInBounds d (x i)).size :=by rw [Array.size_setIfInBounds,setAll_size];exact h2
   unfold Array.getD;rw [dif_pos h3];simp
  ·rw [if_neg e]
   have h4:dstsIn (match o.dst with|some d=>t.setIfInBounds d (x i)|none=>t).size r=true:=by
    have:(match o.dst with|some d=>t.setIfInBounds d (x i)|none=>t).size =t.size:=by cases o.dst<;>simp
    rw [this];exact hn.2
   rw [setAll_getD r (i+1) _ h.2 h4]
   cases dstIx d (i+1) r with
   |some k=>rfl
   |none=>
    simp only
    cases ho:o.dst with
    |none=>rfl
    |some d'=>
     have hne:d'≠d:=fun h'=>e (by rw [ho,h']);simp only [Array.getD_eq_getD_getElem?];rw [Array.getElem?_setIfInBounds_ne hne]
def evX (base:Act) (ops:List Oper) (x:Nat→Value):Operand→Value
 | .tmp d=>match dstIx d 0 ops with|some k=>x k|none=>base.tmps.getD d undef
 |t=>base.eval t
def wantedX (o:Oper) (x:Nat→Value):Bool:=Region.wanted o fun j=>match x j with| .bool b=>some b|_=>none
def guardsB (n:Nat) (ops:List Oper):Bool:=ops.all fun o=>match o.guard with|none=>true|some (g,_)=>(match(ops[g]?).bind (·.dst) with|some d=>decide (d<n)&&(dstIx d 0 ops==some g)|none=>false)
def Outcome (P:Program) (K:Value→World→Prop):Result Next→Prop
 | .ok (.value v) w'=>K v w'
 | .ok .skip w'=>K undef w'
 | .ok (.enter f args) w'=>Calls P f args w' fun e w''=> ∃ v,e= .returned v∧K v w''
 |_=>False
theorem Outcome.wp {P:Program} {o:Oper} {a:Act} {w:World} {K:Act→World→Prop} {Q:Exit→Act→World→Prop} (h:Outcome P (fun v w'=>K (a.put o.dst v) w') ((execOp a.eval o).run P w)):o.wp P a w K Q:=by
 unfold Oper.wp;generalize (execOp a.eval o).run P w=r at*
 cases r with
 |ok n w'=>
  cases n<;>simp only [Outcome] at h<;>simp only [Oper.upon]
  case value=>exact h
  case skip=>exact h
  case enter=>exact h.mono fun e w'' ⟨v,he,hk⟩=>by subst he;exact hk
 |halt x w'=>simp only [Outcome] at h
def look {α:Type} (k:Nat):List (Nat×α)→Option α
 |[]=>none
 |(i,J)::r=>if i=k then some J else look k r
def Deps4 (I:List (Nat×(Value→World→Prop))) (es:List Edge) (x:Nat→Value) (w:World):Prop:= ∀ e∈es,Region.binds .any e=true→ ∀ J,look e.on I=some J→J (x e.on) w
theorem Deps4.at_ {I:List (Nat×(Value→World→Prop))} {es:List Edge} {x:Nat→Value} {w:World} (h:Deps4 I es x w) (k:Nat) {J:Value→World→Prop} (he:(es.any fun e=>e.on==k&&Region.binds .any e)=true) (hJ:look k I=some J):J (x k) w:=by
 obtain⟨e,hm,h2⟩:=List.any_eq_true.1 he;rw [Bool.and_eq_true] at h2;obtain⟨h3,h4⟩:=h2;have h3:e.on=k:=by simpa using h3
 subst h3;exact h e hm h4 J hJ
section
variable {w0:World} {base:Act} {ops:List Oper} {F:(Nat→Value)→World→Prop} {n:Nat} {I:List (Nat×(Value→World→Prop))} {o:Oper} {rest:List Oper}
theorem wantedX_none {x:Nat→Value} (h:o.guard=none):wantedX o x=true:=by unfold wantedX Region.wanted;rw [h]
end
end
section
variable {P:Program} {G:(Nat→Bool)→(Nat→Value)→World→Prop}
def updB (l:Nat→Bool) (i:Nat):Nat→Bool:=fun k=>if k=i then true else l k
def DutyG (G:(Nat→Bool)→(Nat→Value)→World→Prop) (P:Program) (base:Act) (ops:List Oper) (n:Nat) (o:Oper) (D:(Nat→Value)→Prop) (J:Value→Prop):Prop:=
 ∀ (l:Nat→Bool) (x:Nat→Value) (w:World) (ev:Operand→Value),G l x w→D x→l n=false→(∀ e∈o.after.toList,Region.binds .any e=true→l e.on=true)→(∀ t,ev t=evX base ops x t)→
   ∀ K:Value→World→Prop,(∀ v w',J v→G (updB l n) (upd x n v) w'→K v w')→if wantedX o x then Outcome P K ((execOp ev o).run P w) else K undef w
def DepsG (I:List (Nat×(Value→Prop))) (es:List Edge) (x:Nat→Value):Prop:= ∀ e∈es,Region.binds .any e=true→ ∀ J,look e.on I=some J→J (x e.on)
def OpsOkG (G:(Nat→Bool)→(Nat→Value)→World→Prop) (P:Program) (base:Act) (ops:List Oper) (F:(Nat→Value)→World→Prop):Nat→List (Nat×(Value→Prop))→List Oper→Prop
 |_,I,[]=> ∀ x w,G (fun _=>true) x w→(∀ (i:Nat) (J:Value→Prop),look i I=some J→J (x i))→F x w
 |n,I,o::rest=> ∃ J:Value→Prop,DutyG G P base ops n o (DepsG I o.after.toList) J∧OpsOkG G P base ops F (n+1) ((n,J)::I) rest
theorem opsOkG_all {base:Act} {ops:List Oper} {F:(Nat→Value)→World→Prop}: ∀ (l:List Oper) (n:Nat) (I:List (Nat×(Value→Prop))),(∀ i J,look i I=some J→i<n)→OpsOkG G P base ops F n I l→
 ∃ Jf:Nat→Value→Prop,(∀ i J,look i I=some J→Jf i=J)∧(∀ (k:Nat) (o:Oper),l[k]?=some o→DutyG G P base ops (n+k) o (fun x=> ∀ e∈o.after.toList,Region.binds .any e=true→e.on<n+k→Jf e.on (x e.on)) (Jf (n+k)))∧
   (∀ x w,G (fun _=>true) x w→(∀ i,i<n+l.length→Jf i (x i))→F x w)
 |[],n,I,hI,h=>⟨fun i=>(look i I).getD fun _=>True,fun i J hJ=>by show(look i I).getD _=J;rw [hJ];rfl,fun k o ho=>by simp at ho,fun x w hG hx=>h x w hG fun i J hJ=>by
    have:=hx i (by have:=hI i J hJ;simp;omega);simp only [hJ,Option.getD_some] at this;exact this⟩
 |o::r,n,I,hI,⟨J,h1,h2⟩=>by
  have hne: ∀ i J',look i I=some J'→look i ((n,J)::I)=some J':=fun i J' h=>by
   have:=hI i J' h;unfold look;rw [if_neg (by omega)];exact h
  obtain⟨Jf,e1,e2,e3⟩:=opsOkG_all r (n+1) ((n,J)::I) (fun i J' hJ'=>by
   unfold look at hJ';split at hJ'
   ·omega
   ·have:=hI i J' hJ';omega) h2
  have en:Jf n=J:=e1 n J (by unfold look;rw [if_pos rfl]);refine⟨Jf,fun i J' hJ'=>e1 i J' (hne i J' hJ'),fun k o' ho=>?_,fun x w hG hx=>e3 x w hG fun i hi=>hx i (by simp at hi ⊢;omega)⟩
  cases k with
  |zero=>
   simp at ho;subst ho;rw [Nat.add_zero,en];intro l x w ev hG hD
   exact h1 l x w ev hG fun e he hb J' hJ'=>by
    have:=hD e he hb (hI _ _ hJ');rw [e1 _ _ (hne _ _ hJ')] at this;exact this
  |succ k=>
   have:=e2 k o' (by simpa using ho);rw [show n+1+k=n+(k+1) by omega] at this;exact this
def edgesC (ops:Array Oper):Bool:=ops.toList.zipIdx.all fun p=>p.1.after.toList.all fun e=> !Region.binds .any e||decide (e.on<p.2)
theorem edgesC_at {ops:Array Oper} (h:edgesC ops=true) {i:Nat} {o:Oper} (ho:ops[i]?=some o): ∀ e∈o.after.toList,Region.binds .any e=true→e.on<i:=by
 intro e he hb;unfold edgesC at h;rw [List.all_eq_true] at h;have h1:=h (o,i) (by rw [List.mem_zipIdx_iff_getElem?];simpa using ho);rw [List.all_eq_true] at h1;have h2:=h1 e he;rw [hb] at h2;simpa using h2
theorem anyGhost {ops:List Oper} {a:Act} {Q:Exit→Act→World→Prop} (hE:edgesC ops.toArray=true) (hD:dstsB ops=true) (hn:dstsIn a.tmps.size ops=true) (hg:guardsB a.tmps.size ops=true) (Jf:Nat→Value→Prop)
 (hop: ∀ (k:Nat) (o:Oper),ops[k]?=some o→DutyG G P a ops k o (fun x=> ∀ e∈o.after.toList,Region.binds .any e=true→e.on<k→Jf e.on (x e.on)) (Jf k))
 (hQ: ∀ x w,G (fun _=>true) x w→(∀ i,i<ops.length→Jf i (x i))→Q .normal {tmps:=setAll x 0 ops a.tmps,defers:=a.defers} w): ∀ (fuel:Nat) (listed:Array Bool) (x:Nat→Value) (w:World),listed.size=ops.length→G (fun i=>listed.getD i true) x w→
   (∀ i,i<ops.length→listed.getD i true=true→Jf i (x i))→(unlisted ops.toArray listed).length ≤fuel→wpAny P .any ops.toArray Q fuel listed {tmps:=setAll x 0 ops a.tmps,defers:=a.defers} w:=by
 have stuck: ∀ (listed:Array Bool),listed.size=ops.length→Region.ready .any ops.toArray listed=[]→ ∀ i,i<ops.length→listed.getD i true=true:=by
  intro listed hs hr i
  induction i using Nat.strongRecOn with
  |_ i ih=>
   intro hi
   cases hg:listed.getD i true with
   |true=>rfl
   |false=>
    exfalso;have ho:ops.toArray[i]?=some ops[i]:=by simp [hi]
    have:i∈Region.ready .any ops.toArray listed:=mem_ready.2 ⟨hg,_,ho,fun e he hb=>by
     have h1:=edgesC_at hE ho e (by simpa using he) hb;have h2:=ih e.on h1 (by omega);have h3:e.on<listed.size:=by omega
     simp [h3] at h2 ⊢;exact h2⟩
    rw [hr] at this;cases this
 have full: ∀ (listed:Array Bool),listed.size=ops.length→(∀ i,i<ops.length→listed.getD i true=true)→(fun i=>listed.getD i true)=fun _=>true:=by
  intro listed hs h
  funext i
  by_cases hi:i<ops.length
  ·exact h i hi
  ·unfold Array.getD;rw [dif_neg (by omega)]
 intro fuel
 induction fuel with
 |zero=>
  intro listed x w hs hG hI hu;have hnil:unlisted ops.toArray listed=[]:=List.eq_nil_of_length_eq_zero (by omega)
  have hall: ∀ i,i<ops.length→listed.getD i true=true:=by
   intro i hi
   cases hg:listed.getD i true with
   |true=>rfl
   |false=>
    have:i∈unlisted ops.toArray listed:=by unfold unlisted;rw [List.mem_filter,List.mem_range];exact⟨by simpa using hi,by simp [hg]⟩
    rw [hnil] at this;cases this
  rw [full listed hs hall] at hG;refine⟨?_,hQ x w hG fun i hi=>hI i hi (hall i hi)⟩
  cases hr:Region.ready .any ops.toArray listed with
  |nil=>rfl
  |cons j js=>
   obtain⟨h1,o,h2,_⟩:=mem_ready.1 (show j∈Region.ready .any ops.toArray listed by rw [hr];exact List.mem_cons_self);rw [hall j (by simpa using (Array.getElem?_eq_some_iff.1 h2).1)] at h1;cases h1
 |succ fuel ih=>
  intro listed x w hs hG hI hu;refine⟨fun hr=>by have hall:=stuck listed hs hr;rw [full listed hs hall] at hG;exact hQ x w hG fun i hi=>hI i hi (hall i hi),fun i hi=>?_⟩;obtain⟨hun,o,ho,hdeps⟩:=mem_ready.1 hi;have hilt:i<ops.length:=by simpa using (Array.getElem?_eq_some_iff.1 ho).1
  have ho':ops[i]?=some o:=by simpa using ho
  have hdl: ∀ e∈o.after.toList,Region.binds .any e=true→listed.getD e.on true=true:=by
   intro e he hbd;have hlt:=edgesC_at hE ho e he hbd;have h2:=hdeps e (by simpa using he) hbd;have h3:e.on<listed.size:=by omega
   simp [h3] at h2 ⊢;exact h2
  unfold wpOp;simp only [ho]
  have hgo: ∀ v w',Jf i v→G (updB (fun i=>listed.getD i true) i) (upd x i v) w'→wpAny P .any ops.toArray Q fuel (listed.setIfInBounds i true) (Act.put {tmps:=setAll x 0 ops a.tmps,defers:=a.defers} o.dst v) w':=by
   intro v w' hJv hG'
   have hput:Act.put {tmps:=setAll x 0 ops a.tmps,defers:=a.defers} o.dst v=({tmps:=setAll (upd x i v) 0 ops a.tmps,defers:=a.defers}:Act):=by
    have:=setAll_put (x:=x) (v:=v) ops 0 i a.tmps hD ho';rw [Nat.zero_add] at this;rw [←this];unfold Act.put;cases o.dst<;>rfl
   rw [hput]
   have hl:(fun j=>(listed.setIfInBounds i true).getD j true)=updB (fun i=>listed.getD i true) i:=by
    funext j
    unfold updB;by_cases e:j=i
    ·subst e;rw [if_pos rfl];unfold Array.getD;split
     ·simp
     ·rfl
    ·rw [if_neg e,getD_set_ne true (fun h=>e h.symm)]
   refine ih (listed.setIfInBounds i true) (upd x i v) w' (by simpa using hs) (by rw [hl];exact hG') (fun j hj hlj=>?_) (by have:=unlisted_set (ops:=ops.toArray) (by simpa using hilt) hun;omega);by_cases e:j=i
   ·subst e;simpa [upd] using hJv
   ·rw [getD_set_ne true (fun h=>e h.symm)] at hlj;simpa [upd,e] using hI j hj hlj
  have hev: ∀ t,Act.eval {tmps:=setAll x 0 ops a.tmps,defers:=a.defers} t=evX a ops x t:=by
   intro t
   cases t with
   |tmp d=>exact setAll_getD ops 0 a.tmps hD hn
   |_=>rfl
  have hw:Region.wanted o (yielded ops.toArray (setAll x 0 ops a.tmps))=wantedX o x:=by
   unfold wantedX Region.wanted
   cases hgo:o.guard with
   |none=>rfl
   |some q=>
    obtain⟨g,b⟩:=q;have h4:=List.all_eq_true.1 hg o (List.mem_of_getElem? ho');rw [hgo] at h4;simp only at h4 ⊢
    congr 1
    unfold yielded;rw [List.getElem?_toArray]
    cases hdd:(ops[g]?).bind (·.dst) with
    |none=>rw [hdd] at h4;cases h4
    |some d=>
     rw [hdd] at h4;simp only [Bool.and_eq_true,decide_eq_true_eq,beq_iff_eq] at h4;have h5:=setAll_getD (x:=x) (d:=d) ops 0 a.tmps hD hn;rw [h4.2] at h5;simp only at h5;have h6:d<(setAll x 0 ops a.tmps).size :=by rw [setAll_size];exact h4.1
     unfold Array.getD at h5;rw [dif_pos h6] at h5;simp only [Option.bind_some];have h7:(setAll x 0 ops a.tmps)[d]=x g:=h5;rw [Array.getElem?_eq_getElem h6,h7];cases x g<;>rfl
  have h3:=hop i o ho' (fun i=>listed.getD i true) x w _ hG (fun e he hb hlt=>hI e.on (by omega) (hdl e he hb)) hun hdl hev _ hgo;show(if Region.wanted o (yielded ops.toArray (setAll x 0 ops a.tmps))=true then _ else _);rw [hw];split
  ·rename_i hw';rw [if_pos hw'] at h3;exact .inl (Outcome.wp h3)
  ·rename_i hw';rw [if_neg hw'] at h3;exact h3
theorem wp_region_ghost (G:(Nat→Bool)→(Nat→Value)→World→Prop) {id:Nat} {ops:List Oper} {a:Act} {w:World} {Q:Exit→Act→World→Prop} (hm:P.follows .mixedOrders =true)
 (hE:edgesC ops.toArray=true) (hD:dstsB ops=true) (hn:dstsIn a.tmps.size ops=true) (hg:guardsB a.tmps.size ops=true) (h0: ∀ x,G (fun i=>decide (ops.length≤i)) x {w with drawn:=w.drawn+1})
 (h: ∀ base O,base=a→O=ops→OpsOkG G P base O (fun x w'=>Q .normal {tmps:=setAll x 0 ops a.tmps,defers:=a.defers} w') 0 [] ops):(Code.region id ops.toArray true).wp P Q a w:=by
 refine wp_region_any hm ?_;obtain⟨Jf,_,e2,e3⟩:=opsOkG_all ops 0 [] (fun i J h=>by cases h) (h a ops rfl rfl)
 have hA:({tmps:=setAll (fun i=>match(ops[i]?).bind (·.dst) with|some d=>a.tmps.getD d undef|none=>undef) 0 ops a.tmps,defers:=a.defers}:Act)=a:=by
  rw [setAll_own ops 0 a.tmps a.tmps];intro i o d ho hd;simp [ho,hd]
 have key:=anyGhost (P:=P) (G:=G) (Q:=Q) (a:=a) hE hD hn hg Jf (fun k o ho=>by simpa using e2 k o ho) (fun x w' hG hx=>e3 x w' hG fun i hi=>hx i (by omega))
  ops.toArray.size (Array.replicate ops.toArray.size false) (fun i=>match(ops[i]?).bind (·.dst) with|some d=>a.tmps.getD d undef|none=>undef) {w with drawn:=w.drawn+1} (by simp) ?_ ?_ ?_
 ·rw [hA] at key;exact key
 ·have e:(fun i=>(Array.replicate ops.toArray.size false).getD i true)=fun i=>decide (ops.length≤i):=by
   funext i
   unfold Array.getD;split
   ·rename_i h1;have h1:i<ops.length:=by simpa using h1
    rw [decide_eq_false (by omega)];simp
   ·rename_i h1;have h1: ¬ i<ops.length:=by simpa using h1
    rw [decide_eq_true (by omega)]
  rw [e];exact h0 _
 ·intro i hi hl
  have e:(Array.replicate ops.toArray.size false).getD i true=false:=by
   unfold Array.getD;rw [dif_pos (by simpa using hi)];simp
  rw [e] at hl;cases hl
 ·exact Nat.le_trans (List.length_filter_le _ _) (by simp)
section
variable {base:Act} {ops:List Oper} {F:(Nat→Value)→World→Prop} {n:Nat} {I:List (Nat×(Value→Prop))} {o:Oper} {rest:List Oper}
theorem gh_det (c:Value) (h:DutyG G P base ops n o (DepsG I o.after.toList) (fun v=>v=c)) (h2:OpsOkG G P base ops F (n+1) ((n,fun v=>v=c)::I) rest):OpsOkG G P base ops F n I (o::rest):=⟨_,h,h2⟩
theorem gh_any (J:Value→Prop) (h:DutyG G P base ops n o (DepsG I o.after.toList) J) (h2:OpsOkG G P base ops F (n+1) ((n,J)::I) rest):OpsOkG G P base ops F n I (o::rest):=⟨J,h,h2⟩
theorem DepsG.at_ {es:List Edge} {x:Nat→Value} (h:DepsG I es x) (k:Nat) {J:Value→Prop} (he:(es.any fun e=>e.on==k&&Region.binds .any e)=true) (hJ:look k I=some J):J (x k):=by
 obtain⟨e,hm,h2⟩:=List.any_eq_true.1 he;rw [Bool.and_eq_true] at h2;obtain⟨h3,h4⟩:=h2;have h3:e.on=k:=by simpa using h3
 subst h3;exact h e hm h4 J hJ
theorem done_of {es:List Edge} {l:Nat→Bool} (h: ∀ e∈es,Region.binds .any e=true→l e.on=true) (k:Nat) (he:(es.any fun e=>e.on==k&&Region.binds .any e)=true):l k=true:=by
 obtain⟨e,hm,h2⟩:=List.any_eq_true.1 he;rw [Bool.and_eq_true] at h2;obtain⟨h3,h4⟩:=h2;have h3:e.on=k:=by simpa using h3
 subst h3;exact h e hm h4
theorem outcome_append {P:Program} {o:Oper} {ev:Operand→Value} {w:World} {K:Value→World→Prop} (s x:Operand) (t:TypeId) (hop:o.op=Op.call {callee:=Callee.builtin Builtin.append,args:=#[s,x],argTypes:=#[t,t]}) {v u v':Value} {w':World}
 (hs:ev s=v) (hx:ev x=u) (hrun:(Builtin.append_ #[t,t] o.type #[v,u]).run P w= .ok v' w') (hK:K v' w'):Outcome P K ((execOp ev o).run P w):=by
 unfold execOp;simp only [hop,resolve,invoke,builtin,Sem.run_bind,Sem.run_pure,Result.andThen_ok,List.map_toArray,List.map_cons,List.map_nil,hs,hx,hrun];exact hK
end
end
section
variable {P:Program} {G:(Nat→Bool)→(Nat→Value)→World→Prop}
end
structure Bx3 (w:World) (b:Nat) (f v n:Int):Prop where
 lt:b<w.heap.size
 c0:w.cell? ⟨b,0,none⟩=some (.int .i64 f)
 c1:w.cell? ⟨b,1,none⟩=some (.int .i64 v)
 c2:w.cell? ⟨b,2,none⟩=some (.int .i64 n)
theorem Bx3.below {w w':World} {b:Nat} {f v n:Int} (h:Bx3 w b f v n) (hb:Below w.heap.size w w'):Bx3 w' b f v n:=
 ⟨Nat.lt_of_lt_of_le h.lt hb.size,(hb.cell (p:=⟨b,0,none⟩) h.lt).trans h.c0,(hb.cell (p:=⟨b,1,none⟩) h.lt).trans h.c1,(hb.cell (p:=⟨b,2,none⟩) h.lt).trans h.c2⟩
structure Bx2 (w:World) (b:Nat) (f v:Int):Prop where
 lt:b<w.heap.size
 c0:w.cell? ⟨b,0,none⟩=some (.int .i64 f)
 c1:w.cell? ⟨b,1,none⟩=some (.int .i64 v)
theorem Bx2.below {w w':World} {b:Nat} {f v:Int} (h:Bx2 w b f v) (hb:Below w.heap.size w w'):Bx2 w' b f v:=
 ⟨Nat.lt_of_lt_of_le h.lt hb.size,(hb.cell (p:=⟨b,0,none⟩) h.lt).trans h.c0,(hb.cell (p:=⟨b,1,none⟩) h.lt).trans h.c1⟩
theorem Bx3.new (w:World) (t:TypeId) (f v n:Int):Bx3 (w.alloc (.cells #[.int .i64 f,.int .i64 v,.int .i64 n] t)) w.heap.size f v n:=by
 have h:=heap_alloc_new w (.cells #[.int .i64 f,.int .i64 v,.int .i64 n] t);exact⟨by simp,by rw [cell_of_row _ _ _ _ _ _ h];rfl,by rw [cell_of_row _ _ _ _ _ _ h];rfl,by rw [cell_of_row _ _ _ _ _ _ h];rfl⟩
theorem Bx2.new (w:World) (t:TypeId) (f v:Int):Bx2 (w.alloc (.cells #[.int .i64 f,.int .i64 v] t)) w.heap.size f v:=by
 have h:=heap_alloc_new w (.cells #[.int .i64 f,.int .i64 v] t);exact⟨by simp,by rw [cell_of_row _ _ _ _ _ _ h];rfl,by rw [cell_of_row _ _ _ _ _ _ h];rfl⟩
theorem Rd.take {α:Type} {w:World} {size n k:Nat} {enc:α→List Value} {A:Option Addr} {l:List α} (h:Rd w size enc A n l) (hk:k≤n):Rd w size enc A k (l.take k):=by
 refine⟨by rw [List.length_take,h.len];omega,fun hn=>?_⟩;obtain⟨b,o,e,hb,hc⟩:=h.cells (by omega);refine⟨b,o,e,hb,fun i x hx=>hc i x ?_⟩;rw [List.getElem?_take] at hx;split at hx
 ·exact hx
 ·cases hx
theorem bne2 {p q:Bool} (h:p=true→q=true) (hq:q=false):p=false:=by
 cases p with
 |false=>rfl
 |true=>rw [h rfl] at hq;cases hq
theorem rd_one {α:Type} {enc:α→List Value} {size:Nat} (w:World) (hs: ∀ x,(enc x).length =size) (t:TypeId) (e:α):Rd (w.alloc (.cells (enc e).toArray t)) size enc (some ⟨w.heap.size,0,none⟩) 1 [e]:=by
 have:=Rd.lit w size enc hs t [e];simpa using this
structure GB1 {α:Type} (enc:α→List Value) (t:TypeId) (size:Nat) (w0:World) (base:Nat) (v0:Value) (a:List α) (e:α) (rd li ap sg:Bool) (xl xa xs:Value) (w:World):Prop where
 bel:Below base w0 w
 apr:ap=true→rd=true
 apl:ap=true→li=true
 asp:sg=true→ap=true
 ini:sg=false→xs=v0
 lit:li=true→ap=false→ ∃ k c,xl= .slice (some ⟨k,0,none⟩) 1 c∧Rd w size enc (some ⟨k,0,none⟩) 1 [e]
 own:ap=false→w.ownsRow base t size v0 a.length (a.flatMap enc)
 app:ap=true→w.ownsRow base t size xa (a++[e]).length ((a++[e]).flatMap enc)
 asg:sg=true→xs=xa
section
variable {α:Type} {enc:α→List Value} {t:TypeId} {size:Nat} {w0 w w':World} {base:Nat} {v0 xl xa xs v:Value} {a:List α} {e:α} {rd li ap sg:Bool}
theorem GB1.start (h2:li=false) (h3:ap=false) (h4:sg=false) (hx:xs=v0) (own:w0.ownsRow base t size v0 a.length (a.flatMap enc)):GB1 enc t size w0 base v0 a e rd li ap sg xl xa xs {w0 with drawn:=w0.drawn+1}:=by
 subst h2 h3 h4;exact⟨⟨rfl,rfl,rfl,Nat.le_refl _,fun _ _=>rfl⟩,fun h=>(by cases h),fun h=>(by cases h),fun h=>(by cases h),fun _=>hx,fun h=>(by cases h),fun _=>own,fun h=>(by cases h),fun h=>(by cases h)⟩
theorem GB1.litS {c:Nat} (h:GB1 enc t size w0 base v0 a e rd li ap sg xl xa xs w) (hl:li=false) (hbase:base≤w0.heap.size) (hs: ∀ x,(enc x).length =size):GB1 enc t size w0 base v0 a e rd true ap sg (.slice (some ⟨w.heap.size,0,none⟩) 1 c) xa xs (w.alloc (.cells (enc e).toArray t)):=by
 have hap:=bne2 h.apl hl;have hb:Below w.heap.size w (w.alloc (.cells (enc e).toArray t)):=(Below.refl _ w).alloc (Nat.le_refl _) _;exact⟨h.bel.trans (hb.mono (Nat.le_trans hbase h.bel.size)),h.apr,fun _=>rfl,h.asp,h.ini,fun _ _=>⟨_,_,rfl,rd_one w hs t e⟩,fun h1=>(h.own h1).alloc _,fun h1=>(by rw [hap] at h1;cases h1),h.asg⟩
end
structure GT3 {α:Type} (enc:α→List Value) (t:TypeId) (size:Nat) (w0:World) (v0:Value) (L1 L2 L3:List α) (y:α) (f0 f1 f2 f3 fs li r1 r2:Bool) (x0 x1 x2 x3 xl xs:Value) (w:World):Prop where
 bel:Below w0.heap.size w0 w
 c01:f1=true→f0=true
 c12:f2=true→f1=true
 c23:f3=true→f2=true
 c3s:fs=true→f3=true
 cli:f2=true→li=true
 cr1:f1=true→r1=true
 cr2:f3=true→r2=true
 ini:fs=false→xs=v0
 o0:f0=true→f1=false→w.ownsRow w0.heap.size t size x0 0 []
 o1:f1=true→f2=false→w.ownsRow w0.heap.size t size x1 L1.length (L1.flatMap enc)
 ol:li=true→f2=false→ ∃ g c,xl= .slice (some ⟨g,0,none⟩) 1 c∧Rd w size enc (some ⟨g,0,none⟩) 1 [y]∧g<w.heap.size∧(f0=true→f1=false→x0.ownBlock≠some g)∧(f1=true→x1.ownBlock≠some g)
 o2:f2=true→f3=false→w.ownsRow w0.heap.size t size x2 L2.length (L2.flatMap enc)
 o3:f3=true→w.ownsRow w0.heap.size t size x3 L3.length (L3.flatMap enc)
 sg:fs=true→xs=x3
section
variable {α:Type} {enc:α→List Value} {t:TypeId} {size:Nat} {w0 w w':World} {v0 x0 x1 x2 x3 xl xs v:Value} {L1 L2 L3:List α} {y:α} {f0 f1 f2 f3 fs li r1 r2:Bool}
theorem GT3.start (e0:f0=false) (e1:f1=false) (e2:f2=false) (e3:f3=false) (es:fs=false) (el:li=false) (hx:xs=v0):GT3 enc t size w0 v0 L1 L2 L3 y f0 f1 f2 f3 fs li r1 r2 x0 x1 x2 x3 xl xs {w0 with drawn:=w0.drawn+1}:=by
 subst e0 e1 e2 e3 es el;exact⟨⟨rfl,rfl,rfl,Nat.le_refl _,fun _ _=>rfl⟩,fun h=>(by cases h),fun h=>(by cases h),fun h=>(by cases h),fun h=>(by cases h),fun h=>(by cases h),fun h=>(by cases h),fun h=>(by cases h),fun _=>hx,fun h=>(by cases h),fun h=>(by cases h),fun h=>(by cases h),fun h=>(by cases h),fun h=>(by cases h),fun h=>(by cases h)⟩
theorem GT3.litS {c:Nat} (h:GT3 enc t size w0 v0 L1 L2 L3 y f0 f1 f2 f3 fs li r1 r2 x0 x1 x2 x3 xl xs w) (hl:li=false) (hs: ∀ x,(enc x).length =size):GT3 enc t size w0 v0 L1 L2 L3 y f0 f1 f2 f3 fs true r1 r2 x0 x1 x2 x3 (.slice (some ⟨w.heap.size,0,none⟩) 1 c) xs (w.alloc (.cells (enc y).toArray t)):=by
 have e2:=bne2 h.cli hl;have e3:=bne2 h.c23 e2;have hb:Below w.heap.size w (w.alloc (.cells (enc y).toArray t)):=(Below.refl _ w).alloc (Nat.le_refl _) _;subst e2 e3;exact⟨h.bel.trans (hb.mono h.bel.size),h.c01,h.c12,h.c23,h.c3s,fun _=>rfl,h.cr1,h.cr2,h.ini,fun h1 h2=>(h.o0 h1 h2).alloc _,fun h1 h2=>(h.o1 h1 h2).alloc _,fun _ _=>⟨_,_,rfl,rd_one w hs t y,by simp,fun h1 h2 e=>Nat.lt_irrefl _ ((h.o0 h1 h2).lt _ e).2,fun h1 e=>Nat.lt_irrefl _ ((h.o1 h1 rfl).lt _ e).2⟩,fun h1=>(by cases h1),fun h1=>(by cases h1),h.sg⟩
theorem GT3.grown {x:Value} {n:Nat} {l:List Value} (h:GT3 enc t size w0 v0 L1 L2 L3 y f0 f1 f2 f3 fs li r1 r2 x0 x1 x2 x3 xl xs w) (own:w.ownsRow w0.heap.size t size x n l) (hg:w.grownBy w' x.ownBlock):Below w0.heap.size w0 w':=
 h.bel.grown hg h.bel.size fun k hk=>(own.lt k hk).1
end
open Go.ChangeShapes Go.WideShapes Go.Deep
theorem wf_bounds {u:Int} (h:(Lit.int .i64 u).wf =true): -9223372036854775808≤u∧u≤9223372036854775807:=by
 exact bounds_i64 h
section
variable {H:Type} {enc:TypeId×Value→H} {P:Program} {w:World} {base:Nat} {spare:Nat→Bool} {held:Bool}
end
open Go.Joins
def numE (k:IntKind) (x:Int):List Value:=[.int k x]
section
variable {H:Type} {enc:TypeId×Value→H} {P:Program} {w:World} {base:Nat} {spare:Nat→Bool} {held:Bool}
theorem open_nums {r:Reach} {b0:Nat} {t e:TypeId} {k:IntKind} {v:Value} {d:DataW H} {p:List MemPlace} (ht:P.underlying t=some (.slice e)) (he:P.underlying e=some (.int k)) (hC:P.cellsOf e=1)
 (hv:Value.okWide P w r b0 t v) (h:DataW.Trod enc P w base spare held t v d p):
 ∃ A n c l,v= .slice A n c∧Rd w 1 (numE k) A n l∧n≤c∧c≤9223372036854775807∧ ∀ x∈l,(Lit.int k x).wf =true:=by
 obtain⟨A0,n0,c0,rfl⟩:=okWide_slice ht hv;obtain⟨fuel,hf⟩:=h;rcases open_ints ht he hC hf with⟨hcs,_⟩|⟨a,len,cap,zs,hcs,hb,hl,hm,hlen,_,hcell,hwf⟩
 ·simp [Value.cells] at hcs;obtain⟨rfl,rfl,rfl⟩:=hcs;exact⟨none,0,0,[],rfl,⟨rfl,fun h=>absurd h (by omega)⟩,Nat.le_refl _,by omega,fun xs h=>by cases h⟩
 ·simp [Value.cells] at hcs;obtain⟨rfl,rfl,rfl⟩:=hcs;have hlm:n0≤zs.length:=by rw [hlen];split<;>omega
  refine⟨some a,n0,c0,zs.take n0,rfl,⟨by simp;omega,fun hn=>?_⟩,hl,by rw [←maxLen_num];exact hm,fun x hx=>hwf x (List.mem_of_mem_take hx)⟩;obtain⟨b,o,sp⟩:=a;have hc0:=hcell 0 (by omega);have hsp:sp=none:=by simpa [Addr.add] using World.cell?_spot hc0
  subst hsp;refine⟨b,o,rfl,by simpa using block_lt_of_cell (by simpa [Addr.add] using hc0),fun i x hx j u hu=>?_⟩
  cases j with
  |succ j=>simp [numE] at hu
  |zero=>
   simp [numE] at hu;subst hu;rw [List.getElem?_take] at hx;split at hx
   ·rename_i hi;have:=hcell i (by omega);rw [List.getD_eq_getElem?_getD,hx] at this;rw [←show(⟨b,o,none⟩:Addr).add i=⟨b,o+i*1+0,none⟩ from by unfold Addr.add;split<;>simp_all];exact this
   ·cases hx
end
end Go.Proofs.YtechdefolfboeaaGreatDoor.B
namespace Go.Proofs.YtechdefolfboeaaGreatDoor.B
open Go.RowKit
structure GCh (W0 W1 W2 W3:World) (va vb:Value) (f1 fa fb fc:Bool) (xa xb:Value) (w:World):Prop where
 c0:fb=true→f1=true
 c1:fb=true→fa=true
 c2:fc=true→fb=true
 s0:fa=false→w=W0
 s1:fa=true→fb=false→w=W1
 s2:fb=true→fc=false→w=W2
 s3:fc=true→w=W3
 e1:fa=true→xa=va
 e2:fb=true→xb=vb
section
variable {W0 W1 W2 W3 w w':World} {va vb xa xb v:Value} {f1 fa fb fc:Bool}
theorem GCh.start (h1:f1=false) (ha:fa=false) (hb:fb=false) (hc:fc=false):GCh W0 W1 W2 W3 va vb f1 fa fb fc xa xb W0:=by
 subst h1 ha hb hc;exact⟨fun h=>(by cases h),fun h=>(by cases h),fun h=>(by cases h),fun _=>rfl,fun h=>(by cases h),fun h=>(by cases h),fun h=>(by cases h),fun h=>(by cases h),fun h=>(by cases h)⟩
theorem GCh.rd (h:GCh W0 W1 W2 W3 va vb f1 fa fb fc xa xb w):GCh W0 W1 W2 W3 va vb true fa fb fc xa xb w:=⟨fun _=>rfl,h.c1,h.c2,h.s0,h.s1,h.s2,h.s3,h.e1,h.e2⟩
theorem GCh.lit (h:GCh W0 W1 W2 W3 va vb f1 fa fb fc xa xb w) (hl:fa=false) (hw:w'=W1) (hv:v=va):GCh W0 W1 W2 W3 va vb f1 true fb fc v xb w':=by
 have hb:=bne2 h.c1 hl;have hc:=bne2 h.c2 hb;subst hb hc;exact⟨fun h=>(by cases h),fun _=>rfl,fun h=>(by cases h),fun h=>(by cases h),fun _ _=>hw,fun h=>(by cases h),fun h=>(by cases h),fun _=>hv,fun h=>(by cases h)⟩
theorem GCh.app (h:GCh W0 W1 W2 W3 va vb f1 fa fb fc xa xb w) (hl:fb=false) (h1:f1=true) (ha:fa=true) (hw:w'=W2) (hv:v=vb):GCh W0 W1 W2 W3 va vb f1 fa true fc xa v w':=by
 have hc:=bne2 h.c2 hl;subst hc;exact⟨fun _=>h1,fun _=>ha,fun h=>(by cases h),fun h=>(by rw [ha] at h;cases h),fun _ h=>(by cases h),fun _ _=>hw,fun h=>(by cases h),h.e1,fun _=>hv⟩
theorem GCh.put (h:GCh W0 W1 W2 W3 va vb f1 fa fb fc xa xb w) (hb:fb=true) (hw:w'=W3):GCh W0 W1 W2 W3 va vb f1 fa fb true xa xb w':=
 ⟨h.c0,h.c1,fun _=>hb,fun h1=>(by rw [h.c1 hb] at h1;cases h1),fun _ h2=>(by rw [hb] at h2;cases h2),fun _ h2=>(by cases h2),fun _=>hw,h.e1,h.e2⟩
theorem GCh.cases (h:GCh W0 W1 W2 W3 va vb f1 fa fb fc xa xb w):w=W0∨w=W1∨w=W2∨w=W3:=by
 cases ha:fa with
 |false=>exact .inl (h.s0 ha)
 |true=>
  cases hb:fb with
  |false=>exact .inr (.inl (h.s1 ha hb))
  |true=>
   cases hc:fc with
   |false=>exact .inr (.inr (.inl (h.s2 hb hc)))
   |true=>exact .inr (.inr (.inr (h.s3 hc)))
theorem GCh.bel {base:Nat} (h:GCh W0 W1 W2 W3 va vb f1 fa fb fc xa xb w) (b1:Below base W0 W1) (b2:Below base W0 W2) (b3:Below base W0 W3):Below base W0 w:=by
 rcases h.cases with rfl|rfl|rfl|rfl
 ·exact Below.refl _ _
 ·exact b1
 ·exact b2
 ·exact b3
theorem GCh.ahead (h:GCh W0 W1 W2 W3 va vb f1 fa fb fc xa xb w) (h1:f1=false):w=W0∨w=W1:=by
 have hb:=bne2 h.c0 h1
 cases ha:fa with
 |false=>exact .inl (h.s0 ha)
 |true=>exact .inr (h.s1 ha hb)
end
def Bx (w:World) (b:Nat) (t:TypeId) (vs:List Value):Prop:=w.heap[b]?=some (.cells vs.toArray t (0,0))
section
variable {w w':World} {b:Nat} {t:TypeId} {vs:List Value}
theorem Bx.lt (h:Bx w b t vs):b<w.heap.size:=(Array.getElem?_eq_some_iff.1 h).1
theorem Bx.cell (h:Bx w b t vs) (i:Nat) {v:Value} (hv:vs[i]?=some v):w.cell? ⟨b,i,none⟩=some v:=by
 rw [cell_of_row _ _ _ _ _ _ h];simpa using hv
theorem Bx.frozen (h:Bx w b t vs) (i:Nat):w.frozen? ⟨b,i,none⟩=false:=by
 have h':w.heap[b]?=some (.cells vs.toArray t (0,0)):=h;simp [World.frozen?,h']
theorem Bx.set (h:Bx w b t vs) (i:Nat) (v:Value):Bx (w.setCell ⟨b,i,none⟩ v) b t (vs.set i v):=by
 have h':w.heap[b]?=some (.cells vs.toArray t (0,0)):=h;have hb:=(Array.getElem?_eq_some_iff.1 h').1;have e:w.heap[b]= .cells vs.toArray t (0,0):=by rw [Array.getElem?_eq_getElem hb] at h';exact Option.some.inj h'
 show(w.setCell ⟨b,i,none⟩ v).heap[b]?=_;simp [World.setCell,hb,Array.getElem_modify,e]
theorem Bx.keep (h:Bx w b t vs) (hk:w'.heap[b]?=w.heap[b]?):Bx w' b t vs:=hk.trans h
theorem Bx.below (h:Bx w b t vs) (hb:Below w.heap.size w w'):Bx w' b t vs:=h.keep (hb.block b h.lt)
theorem Bx.new (w:World) (t:TypeId) (vs:List Value):Bx (w.alloc (.cells vs.toArray t)) w.heap.size t vs:=heap_alloc_new w _
theorem But.drawn (w:World) (X:List Nat):But w {w with drawn:=w.drawn+1} X:=⟨rfl,rfl,rfl,Nat.le_refl _,fun _ _ _=>rfl⟩
theorem own_but {w w':World} {base size n:Nat} {e:TypeId} {v:Value} {xs:List Value} {X:List Nat} (h:w.ownsRow base e size v n xs) (hb:But w w' X) (hX: ∀ x∈X,x<base):w'.ownsRow base e size v n xs:=by
 refine own_keep h fun k hk=>?_;have h1:=h.lt k hk;exact hb.keep k h1.2 fun hm=>by have:=hX k hm;omega
theorem Rd.but {α:Type} {size n:Nat} {enc:α→List Value} {A:Option Addr} {l:List α} {lo:Nat} {X:List Nat} {w0:World} (h:Rd w0 size enc A n l) (h0:Below w0.heap.size w0 w) (hb:But w w' X) (hX: ∀ x∈X,w0.heap.size≤x):Rd w' size enc A n l:=
 h.below (h0.trans (hb.below h0.size hX))
end
theorem own_box {w w':World} {base size n b:Nat} {e T:TypeId} {v:Value} {xs u:List Value} (h:w.ownsRow base e size v n xs) (hB:Bx w b T u) (hT:T≠e) (hb:But w w' [b]):w'.ownsRow base e size v n xs:=by
 refine own_keep h fun k hk=>?_;have h1:=h.lt k hk;refine hb.keep k h1.2 fun hm=>?_;simp only [List.mem_singleton] at hm;subst hm;rcases h.2 with⟨rfl,rfl⟩|⟨g,cap,cur,rfl,_,hh,_⟩
 ·cases hk
 ·have:g=k:=by simpa [Value.ownBlock] using hk
  subst this;rw [show w.heap[g]?=_ from hB] at hh;cases hh;exact hT rfl
theorem own_ne {w:World} {base size n base' size' n':Nat} {e e':TypeId} {v v':Value} {xs xs':List Value} (h:w.ownsRow base e size v n xs) (h':w.ownsRow base' e' size' v' n' xs') (he:e'≠e) {k:Nat} (hk:v'.ownBlock=some k):some k≠v.ownBlock:=by
 intro hv;rcases h.2 with⟨rfl,rfl⟩|⟨g,cap,cur,rfl,_,hh,_⟩
 ·cases hv
 ·rcases h'.2 with⟨rfl,rfl⟩|⟨g',cap',cur',rfl,_,hh',_⟩
  ·cases hk
  ·have e1:g'=k:=by simpa [Value.ownBlock] using hk
   have e2:k=g:=by simpa [Value.ownBlock] using hv
   subst e1 e2;rw [hh] at hh';cases hh';exact he rfl
structure StepF (wi wr:World) (bo f:Nat) (T e:TypeId) (cs:List Value) (base size:Nat) (xs:List Value) (k:Nat) (v1:Value) (lit:List Value) (W0 W1 W2 W3:World) (va vb:Value):Prop where
 w0:({wr with drawn:=wr.drawn+1}:World)=W0
 w1:W0.alloc (.cells lit.toArray e)=W1
 va:Value.slice (some ⟨W0.heap.size,0,none⟩) 1 1=va
 w3:W2.setCell ⟨bo,f,none⟩ vb=W3
 b0:Bx W0 bo T cs
 b1:Bx W1 bo T cs
 b2:Bx W2 bo T cs
 b3:Bx W3 bo T (cs.set f vb)
 t0:But wi W0 [bo]
 t1:But wi W1 [bo]
 t2:But wi W2 [bo]
 t3:But wi W3 [bo]
 own:W3.ownsRow base e size vb (k+1) (xs++lit)
 form: ∃ g c,vb= .slice (some ⟨g,0,none⟩) (k+1) c
theorem stepW {α:Type} {P:Program} {enc:α→List Value} {t e:TypeId} {z:Value} {size bytes:Nat} (ht:P.underlying t=some (.slice e)) (hi:(P.info? e).map (fun i=>(i.zero,i.size,i.bytes))=some (some z,size,bytes)) (hz:z.cells.size=size) (hsz:0<size)
 (hes: ∀ x,(enc x).length =size) (hone: ∀ x, ∀ u∈enc x,u.oneCell'=true) (hby:bytes≤127) {wi W0:World} {bo f k:Nat} {T:TypeId} {cs:List Value} {v:Value} {lv:List α} (x:α) (b0:Bx W0 bo T cs)
 (own:W0.ownsRow wi.heap.size e size v k (lv.flatMap enc)) (hk:lv.length=k) (hlen:k+1≤1099511627776) (hbo:bo<wi.heap.size) (t0:But wi W0 [bo]):
 ∃ W1 W2 W3 va vb,W0.alloc (.cells (enc x).toArray e)=W1∧Value.slice (some ⟨W0.heap.size,0,none⟩) 1 1=va∧W2.setCell ⟨bo,f,none⟩ vb=W3∧(Bx W1 bo T cs∧Bx W2 bo T cs∧Bx W3 bo T (cs.set f vb))∧(But wi W1 [bo]∧But wi W2 [bo]∧But wi W3 [bo])∧
   (∀ (base':Nat) (e':TypeId) (size':Nat) (v':Value) (n':Nat) (xs':List Value),e'≠e→bo<base'→W0.ownsRow base' e' size' v' n' xs'→W3.ownsRow base' e' size' v' n' xs')∧
   (Builtin.append_ #[t,t] t #[v,va]).run P W1= .ok vb W2∧W3.ownsRow wi.heap.size e size vb (k+1) ((lv++[x]).flatMap enc)∧ ∃ g c,vb= .slice (some ⟨g,0,none⟩) (k+1) c:=by
 have own0:W0.ownsRow wi.heap.size e size v lv.length (lv.flatMap enc):=by rw [hk];exact own
 obtain⟨g,cc,W2,hrun,own2,hgr,_⟩:=append_one (enc:=enc) ht hi hz hsz hes hone W0 wi.heap.size v lv x own0 (by omega) (by omega) t0.size;obtain⟨W1,hW1⟩: ∃ W1,W0.alloc (.cells (enc x).toArray e)=W1:=⟨_,rfl⟩
 have a1:Below W0.heap.size W0 W1:=by rw [←hW1];exact(Below.refl _ W0).alloc (Nat.le_refl _) _
 have own01:=own0.alloc (.cells (enc x).toArray e);rw [hW1] at hrun hgr own01;rw [hk] at hrun own2;have t01:But W0 W1 [bo]:=But.of_below a1 _;have t1:But wi W1 [bo]:=t0.trans t01;have b1:Bx W1 bo T cs:=b0.below a1;have hne: ∀ q,v.ownBlock=some q→q≠bo:=fun q hq=>by have:=(own01.lt q hq).1;omega
 have t2:But wi W2 [bo]:=⟨hgr.os.trans t1.os,hgr.tape.trans t1.tape,hgr.output.trans t1.output,Nat.le_trans t1.size hgr.size,fun i hi hx=>by
  refine(hgr.block i (Nat.lt_of_lt_of_le hi t1.size) fun h=>?_).trans (t1.keep i hi hx);have:=(own01.lt i h.symm).1;omega⟩
 have b2:Bx W2 bo T cs:=b1.keep (hgr.block bo b1.lt fun h=>hne bo h.symm rfl);have hll:(lv++[x]).length =k+1:=by simp [hk]
 rw [hll] at own2;have b3:=b2.set f (.slice (some ⟨g,0,none⟩) (k+1) cc);have t23:But W2 (W2.setCell ⟨bo,f,none⟩ (.slice (some ⟨g,0,none⟩) (k+1) cc)) [bo]:=But.of_set _ _ _ (by simp)
 have own3:(W2.setCell ⟨bo,f,none⟩ (.slice (some ⟨g,0,none⟩) (k+1) cc)).ownsRow wi.heap.size e size (.slice (some ⟨g,0,none⟩) (k+1) cc) (k+1) ((lv++[x]).flatMap enc):=
  own_but own2 (But.of_set (X:=[bo]) _ _ _ (by simp)) (fun y hy=>by simp only [List.mem_singleton] at hy;omega)
 refine⟨W1,W2,_,_,_,hW1,rfl,rfl,⟨b1,b2,b3⟩,⟨t1,t2,t2.trans t23⟩,fun base' e' size' v' n' xs' he hb h'=>?_,hrun,own3,g,cc,rfl⟩;have h1:W1.ownsRow base' e' size' v' n' xs':=own_keep h' fun k hk=>a1.block k (h'.lt k hk).2;have h2:W2.ownsRow base' e' size' v' n' xs':=own_keep h1 fun k hk=>hgr.block k (h1.lt k hk).2 (own_ne own01 h1 he hk);exact own_but h2 (But.of_set (X:=[bo]) _ _ _ (by simp)) (fun y hy=>by simp only [List.mem_singleton] at hy;omega)
section
variable {wi wr W0 W1 W2 W3 w:World} {bo f:Nat} {T e:TypeId} {cs:List Value} {base size k:Nat} {xs lit:List Value} {v1 va vb xa xb:Value} {f1 fa fb fc:Bool}
theorem GCh.but (h:GCh W0 W1 W2 W3 va vb f1 fa fb fc xa xb w) (s:StepF wi wr bo f T e cs base size xs k v1 lit W0 W1 W2 W3 va vb):But wi w [bo]:=by
 rcases h.cases with rfl|rfl|rfl|rfl
 ·exact s.t0
 ·exact s.t1
 ·exact s.t2
 ·exact s.t3
theorem GCh.fld (h:GCh W0 W1 W2 W3 va vb f1 fa fb fc xa xb w) (s:StepF wi wr bo f T e cs base size xs k v1 lit W0 W1 W2 W3 va vb) (h1:f1=false) {v:Value} (hv:cs[f]?=some v):w.cell? ⟨bo,f,none⟩=some v:=by
 rcases h.ahead h1 with rfl|rfl
 ·exact s.b0.cell f hv
 ·exact s.b1.cell f hv
end
theorem h_ {a b c:World} (h:Hid (Below a.heap.size a b)) (k:Below b.heap.size b c):Hid (Below a.heap.size a c):=h.out.trans (k.mono h.out.size)
theorem b_ {a b c:World} (h:Hid (Below a.heap.size a b)) (k:Below b.heap.size b c):Below a.heap.size a c:=h.out.trans (k.mono h.out.size)
theorem u_ {a b c:World} (h:Below a.heap.size a b) (k:Below b.heap.size b c):Below a.heap.size a c:=h.trans (k.mono h.size)
theorem c_ {n q i:Nat} {a b:World} {v:Value} (h:Below n a b) (l:q<n) (y:a.cell? ⟨q,i,none⟩=some v):b.cell? ⟨q,i,none⟩=some v:=(h.cell (p:=⟨q,_,none⟩) l).trans y
theorem c_3 {w:World} {b:Nat} {T:TypeId} {v0 v1 v2:Value} {r:List Value} (h:Bx w b T (v0::v1::v2::r)):w.cell? ⟨b,0,none⟩=some v0∧w.cell? ⟨b,1,none⟩=some v1∧w.cell? ⟨b,2,none⟩=some v2:=⟨h.cell 0 rfl,h.cell 1 rfl,h.cell 2 rfl⟩
theorem c_4 {w:World} {b:Nat} {T:TypeId} {v0 v1 v2 v3:Value} {r:List Value} (h:Bx w b T (v0::v1::v2::v3::r)):w.cell? ⟨b,0,none⟩=some v0∧w.cell? ⟨b,1,none⟩=some v1∧w.cell? ⟨b,2,none⟩=some v2∧w.cell? ⟨b,3,none⟩=some v3:=⟨h.cell 0 rfl,h.cell 1 rfl,h.cell 2 rfl,h.cell 3 rfl⟩
theorem c_5 {w:World} {b:Nat} {T:TypeId} {v0 v1 v2 v3 v4:Value} {r:List Value} (h:Bx w b T (v0::v1::v2::v3::v4::r)):w.cell? ⟨b,0,none⟩=some v0∧w.cell? ⟨b,1,none⟩=some v1∧w.cell? ⟨b,2,none⟩=some v2∧w.cell? ⟨b,3,none⟩=some v3∧w.cell? ⟨b,4,none⟩=some v4:=⟨h.cell 0 rfl,h.cell 1 rfl,h.cell 2 rfl,h.cell 3 rfl,h.cell 4 rfl⟩
theorem d_5 {n b:Nat} {a w:World} {T:TypeId} {v0 v1 v2 v3 v4:Value} {r:List Value} (g:Below n a w) (l:b<n) (h:Bx a b T (v0::v1::v2::v3::v4::r)):w.cell? ⟨b,0,none⟩=some v0∧w.cell? ⟨b,1,none⟩=some v1∧w.cell? ⟨b,2,none⟩=some v2∧w.cell? ⟨b,3,none⟩=some v3∧w.cell? ⟨b,4,none⟩=some v4:=⟨c_ g l (h.cell 0 rfl),c_ g l (h.cell 1 rfl),c_ g l (h.cell 2 rfl),c_ g l (h.cell 3 rfl),c_ g l (h.cell 4 rfl)⟩
theorem c_6 {w:World} {b:Nat} {T:TypeId} {v0 v1 v2 v3 v4 v5:Value} {r:List Value} (h:Bx w b T (v0::v1::v2::v3::v4::v5::r)):w.cell? ⟨b,0,none⟩=some v0∧w.cell? ⟨b,1,none⟩=some v1∧w.cell? ⟨b,2,none⟩=some v2∧w.cell? ⟨b,3,none⟩=some v3∧w.cell? ⟨b,4,none⟩=some v4∧w.cell? ⟨b,5,none⟩=some v5:=⟨h.cell 0 rfl,h.cell 1 rfl,h.cell 2 rfl,h.cell 3 rfl,h.cell 4 rfl,h.cell 5 rfl⟩
theorem c_7 {w:World} {b:Nat} {T:TypeId} {v0 v1 v2 v3 v4 v5 v6:Value} {r:List Value} (h:Bx w b T (v0::v1::v2::v3::v4::v5::v6::r)):w.cell? ⟨b,0,none⟩=some v0∧w.cell? ⟨b,1,none⟩=some v1∧w.cell? ⟨b,2,none⟩=some v2∧w.cell? ⟨b,3,none⟩=some v3∧w.cell? ⟨b,4,none⟩=some v4∧w.cell? ⟨b,5,none⟩=some v5∧w.cell? ⟨b,6,none⟩=some v6:=⟨h.cell 0 rfl,h.cell 1 rfl,h.cell 2 rfl,h.cell 3 rfl,h.cell 4 rfl,h.cell 5 rfl,h.cell 6 rfl⟩
theorem c_12 {w:World} {b:Nat} {T:TypeId} {v0 v1 v2 v3 v4 v5 v6 v7 v8 v9 v10 v11:Value} {r:List Value} (h:Bx w b T (v0::v1::v2::v3::v4::v5::v6::v7::v8::v9::v10::v11::r)):w.cell? ⟨b,0,none⟩=some v0∧w.cell? ⟨b,1,none⟩=some v1∧w.cell? ⟨b,2,none⟩=some v2∧w.cell? ⟨b,3,none⟩=some v3∧w.cell? ⟨b,4,none⟩=some v4∧w.cell? ⟨b,5,none⟩=some v5∧w.cell? ⟨b,6,none⟩=some v6∧w.cell? ⟨b,7,none⟩=some v7∧w.cell? ⟨b,8,none⟩=some v8∧w.cell? ⟨b,9,none⟩=some v9∧w.cell? ⟨b,10,none⟩=some v10∧w.cell? ⟨b,11,none⟩=some v11:=⟨h.cell 0 rfl,h.cell 1 rfl,h.cell 2 rfl,h.cell 3 rfl,h.cell 4 rfl,h.cell 5 rfl,h.cell 6 rfl,h.cell 7 rfl,h.cell 8 rfl,h.cell 9 rfl,h.cell 10 rfl,h.cell 11 rfl⟩
theorem d_12 {n b:Nat} {a w:World} {T:TypeId} {v0 v1 v2 v3 v4 v5 v6 v7 v8 v9 v10 v11:Value} {r:List Value} (g:Below n a w) (l:b<n) (h:Bx a b T (v0::v1::v2::v3::v4::v5::v6::v7::v8::v9::v10::v11::r)):w.cell? ⟨b,0,none⟩=some v0∧w.cell? ⟨b,1,none⟩=some v1∧w.cell? ⟨b,2,none⟩=some v2∧w.cell? ⟨b,3,none⟩=some v3∧w.cell? ⟨b,4,none⟩=some v4∧w.cell? ⟨b,5,none⟩=some v5∧w.cell? ⟨b,6,none⟩=some v6∧w.cell? ⟨b,7,none⟩=some v7∧w.cell? ⟨b,8,none⟩=some v8∧w.cell? ⟨b,9,none⟩=some v9∧w.cell? ⟨b,10,none⟩=some v10∧w.cell? ⟨b,11,none⟩=some v11:=⟨c_ g l (h.cell 0 rfl),c_ g l (h.cell 1 rfl),c_ g l (h.cell 2 rfl),c_ g l (h.cell 3 rfl),c_ g l (h.cell 4 rfl),c_ g l (h.cell 5 rfl),c_ g l (h.cell 6 rfl),c_ g l (h.cell 7 rfl),c_ g l (h.cell 8 rfl),c_ g l (h.cell 9 rfl),c_ g l (h.cell 10 rfl),c_ g l (h.cell 11 rfl)⟩
theorem H_ {p:Prop} (h:p):Hid p:=Lib.hid h
theorem F_ {p:Prop} [Decidable p] (h: ¬ p):decide p=false:=decide_eq_false h
theorem T_ {p:Prop} [Decidable p] (h:p):decide p=true:=decide_eq_true h
theorem m_ {α:Type} {P:α→Prop} {a:α} (h:P a): ∀ x∈[a],P x:=fun x hx=>by simp only [List.mem_singleton] at hx;subst hx;exact h
section
variable {P:Program} {G:(Nat→Bool)→(Nat→Value)→World→Prop} {base:Act} {ops:List Oper} {F:(Nat→Value)→World→Prop} {n:Nat} {I:List (Nat×(Value→Prop))} {o:Oper} {rest:List Oper}
def DutyN (G:(Nat→Bool)→(Nat→Value)→World→Prop) (P:Program) (base:Act) (ops:List Oper) (n:Nat) (o:Oper) (D:(Nat→Value)→Prop) (J:Value→Prop):Prop:=
 ∀ (l:Nat→Bool) (x:Nat→Value) (w:World) (ev:Operand→Value),G l x w→D x→l n=false→(∀ e∈o.after.toList,Region.binds .any e=true→l e.on=true)→(∀ t,ev t=evX base ops x t)→(∀ f,ev (.func f)= .func (.func f) #[] #[])→
   ∀ K:Value→World→Prop,(∀ v w',J v→G (updB l n) (upd x n v) w'→K v w')→Outcome P K ((execOp ev o).run P w)
theorem DutyN.of {D:(Nat→Value)→Prop} {J:Value→Prop} (hg:o.guard=none) (h:DutyN G P base ops n o D J):DutyG G P base ops n o D J:=
 fun l x w ev h1 h2 h3 h4 h5 K hK=>by rw [if_pos (wantedX_none hg)];exact h l x w ev h1 h2 h3 h4 h5 (fun f=>(h5 _).trans rfl) K hK
theorem gd_ (c:Value) (hg:o.guard=none) (h:DutyN G P base ops n o (DepsG I o.after.toList) (fun v=>v=c)) (h2:OpsOkG G P base ops F (n+1) ((n,fun v=>v=c)::I) rest):OpsOkG G P base ops F n I (o::rest):=gh_det c (h.of hg) h2
theorem ga_ (J:Value→Prop) (h:DutyN G P base ops n o (DepsG I o.after.toList) J) (h2:OpsOkG G P base ops F (n+1) ((n,J)::I) rest) (hg:o.guard=none:=by rfl):OpsOkG G P base ops F n I (o::rest):=gh_any J (h.of hg) h2
end
theorem wb_ {P:Program} {id:Nat} {Q:Exit→Act→World→Prop} {a:Act} {w:World} {l:List Oper} (N:Nat)
 (h: ∀ C:World→Prop,(C=fun w'=>Below N w w')→wpQuiet P l.toArray C (fun a'=> ∀ w',Below N w w'→Q .normal a' w') l a) (hm:P.follows .mixedOrders =true:=by kernel_rfl) (hB:Region.lexB .any l.toArray=true:=by kernel_rfl):(Code.region id l.toArray true).wp P Q a w:=
 wp_region_below N hm hB h
end Go.Proofs.YtechdefolfboeaaGreatDoor.B
namespace Go.Proofs.YtechdefolfboeaaGreatDoor
open Go.RowKit B
namespace B
theorem Rd.get {α:Type} {w:World} {size n k:Nat} {enc:α→List Value} {A:Option Addr} {l:List α} (h:Rd w size enc A n l) (hk:k<n):
 ∃ b o x,A=some ⟨b,o,none⟩∧b<w.heap.size∧l[k]?=some x∧ ∀ (j:Nat) (u:Value),(enc x)[j]?=some u→w.cell? ⟨b,o+k*size+j,none⟩=some u:=by
 obtain⟨b,o,e,hb,hc⟩:=h.cells (by omega);have hl:k<l.length:=by rw [h.len];exact hk
 exact⟨b,o,l[k],e,hb,List.getElem?_eq_getElem hl,fun j u hu=>hc k _ (List.getElem?_eq_getElem hl) j u hu⟩
end B
abbrev Str:=ByteArray
def strE (s:Str):List Value:=[.string s]
theorem strE_len (s:Str):(strE s).length =1:=rfl
theorem strE_one (s:Str): ∀ u∈strE s,u.oneCell'=true:=fun u hu=>by simp [strE] at hu;subst hu;rfl
namespace B
theorem Rd.str {w:World} {n k:Nat} {A:Option Addr} {l:List Str} (h:Rd w 1 strE A n l) (hk:k<n): ∃ b o s,A=some ⟨b,o,none⟩∧b<w.heap.size∧l[k]?=some s∧w.cell? ⟨b,o+k,none⟩=some (.string s):=by
 obtain⟨b,o,x,e,hb,hx,hc⟩:=h.get hk;have:=hc 0 _ rfl;rw [Nat.mul_one,Nat.add_zero] at this;exact⟨b,o,x,e,hb,hx,this⟩
theorem Rd.num {w:World} {n k:Nat} {A:Option Addr} {l:List Int} (h:Rd w 1 (numE .i64) A n l) (hk:k<n): ∃ b o x,A=some ⟨b,o,none⟩∧b<w.heap.size∧l[k]?=some x∧w.cell? ⟨b,o+k,none⟩=some (.int .i64 x):=by
 obtain⟨b,o,x,e,hb,hx,hc⟩:=h.get hk;have:=hc 0 _ rfl;rw [Nat.mul_one,Nat.add_zero] at this;exact⟨b,o,x,e,hb,hx,this⟩
end B
structure DoorP where
 (a b len fr ev du:Int)
structure TripP where
 (route fr ev un:Int)
structure HazP where
 (stop:Bool) (on fr ev du:Int)
structure RouteP where
 (stops rides stays:List Int)
def doorE (d:DoorP):List Value:=[.int .i64 d.a,.int .i64 d.b,.int .i64 d.len,.int .i64 d.fr,.int .i64 d.ev,.int .i64 d.du]
def tripP (t:TripP):List Value:=[.int .i64 t.route,.int .i64 t.fr,.int .i64 t.ev,.int .i64 t.un]
def hazE (h:HazP):List Value:=[.bool h.stop,.int .i64 h.on,.int .i64 h.fr,.int .i64 h.ev,.int .i64 h.du]
structure WorldP where
 hz:Int
 (stops nPaths nDoors nRoutes nTrips nHazs:List Str)
 paths:List (Int×Int×Int)
 doors:List DoorP
 routes:List RouteP
 trips:List TripP
 hazs:List HazP
structure WV where
 (a0 a1 a2 a3 a4 a5 aP aD aR aT aH:Option Addr)
 (n0 n1 n2 n3 n4 n5 nP nD nR nT nH:Nat)
 (c0 c1 c2 c3 c4 c5 cP cD cR cT cH:Nat)
def SlAt (w:World) (b o:Nat) (l:List Int):Prop:= ∃ s n c,w.cell? ⟨b,o,none⟩=some (.slice s n c)∧Rd w 1 (numE .i64) s n l∧n≤c∧c≤9223372036854775807
structure RRoutes (w:World) (A:Option Addr) (n:Nat) (l:List RouteP):Prop where
 len:l.length=n
 at_: ∀ (k:Nat) (r:RouteP),l[k]?=some r→ ∃ b o,A=some ⟨b,o,none⟩∧b<w.heap.size∧SlAt w b (o+k*3) r.stops∧SlAt w b (o+k*3+1) r.rides∧SlAt w b (o+k*3+2) r.stays
structure RW (w:World) (W:WorldP) (V:WV):Prop where
 r0:Rd w 1 strE V.a0 V.n0 W.stops
 r1:Rd w 1 strE V.a1 V.n1 W.nPaths
 r2:Rd w 1 strE V.a2 V.n2 W.nDoors
 r3:Rd w 1 strE V.a3 V.n3 W.nRoutes
 r4:Rd w 1 strE V.a4 V.n4 W.nTrips
 r5:Rd w 1 strE V.a5 V.n5 W.nHazs
 rP:Rd w 3 tripE V.aP V.nP W.paths
 rD:Rd w 6 doorE V.aD V.nD W.doors
 rR:RRoutes w V.aR V.nR W.routes
 rT:Rd w 4 tripP V.aT V.nT W.trips
 rH:Rd w 5 hazE V.aH V.nH W.hazs
section
variable {w w':World} {A:Option Addr} {n b o:Nat} {l:List Int} {W:WorldP} {V:WV}
theorem SlAt.below (h:SlAt w b o l) (hb:b<w.heap.size) (k:Below w.heap.size w w'):SlAt w' b o l:=by
 obtain⟨s,n,c,h1,h2,h3⟩:=h;exact⟨s,n,c,(k.cell (p:=⟨b,o,none⟩) hb).trans h1,h2.below k,h3⟩
theorem RRoutes.below {l:List RouteP} (h:RRoutes w A n l) (k:Below w.heap.size w w'):RRoutes w' A n l:=by
 refine⟨h.len,fun i r hr=>?_⟩;obtain⟨b,o,e,hb,s1,s2,s3⟩:=h.at_ i r hr;exact⟨b,o,e,Nat.lt_of_lt_of_le hb k.size,s1.below hb k,s2.below hb k,s3.below hb k⟩
theorem RRoutes.get {l:List RouteP} (h:RRoutes w A n l) {k:Nat} (hk:k<n): ∃ b o r,A=some ⟨b,o,none⟩∧b<w.heap.size∧l[k]?=some r∧SlAt w b (o+k*3) r.stops∧SlAt w b (o+k*3+1) r.rides∧SlAt w b (o+k*3+2) r.stays:=by
 have hl:k<l.length:=by rw [h.len];exact hk
 obtain⟨b,o,e,hb,s⟩:=h.at_ k _ (List.getElem?_eq_getElem hl);exact⟨b,o,_,e,hb,List.getElem?_eq_getElem hl,s⟩
theorem RW.below (h:RW w W V) (k:Below w.heap.size w w'):RW w' W V:=
 ⟨h.r0.below k,h.r1.below k,h.r2.below k,h.r3.below k,h.r4.below k,h.r5.below k,h.rP.below k,h.rD.below k,h.rR.below k,h.rT.below k,h.rH.below k⟩
end
abbrev wVal (W:WorldP) (V:WV):Value:= .agg #[.int .i64 W.hz,.slice V.a0 V.n0 V.c0,.slice V.a1 V.n1 V.c1,.slice V.a2 V.n2 V.c2,.slice V.a3 V.n3 V.c3,.slice V.a4 V.n4 V.c4,.slice V.a5 V.n5 V.c5,.slice V.aP V.nP V.cP,.slice V.aD V.nD V.cD,.slice V.aR V.nR V.cR,.slice V.aT V.nT V.cT,.slice V.aH V.nH V.cH]
structure Few (W:WorldP):Prop where
 s0:W.stops.length≤100000
 s1:W.nPaths.length≤100000
 s2:W.nDoors.length≤100000
 s3:W.nRoutes.length≤100000
 s4:W.nTrips.length≤100000
 s5:W.nHazs.length≤100000
 sP:W.paths.length≤100000
 sD:W.doors.length≤100000
 sR:W.routes.length≤100000
 sT:W.trips.length≤100000
 sH:W.hazs.length≤100000
 sr: ∀ r∈W.routes,r.stops.length≤100000∧r.rides.length≤100000∧r.stays.length≤100000
structure SPathP where
 (name a b:Str) (len:Int)
structure SDoorP where
 (name a b:Str) (len fr ev du:Int)
structure SRouteP where
 (name:Str) (stops:List Str) (rides stays:List Int)
structure STripP where
 (name route:Str) (fr ev un:Int)
structure SHazP where
 (name on:Str) (fr ev du:Int)
structure SheetP where
 hz:Int
 stops:List Str
 paths:List SPathP
 doors:List SDoorP
 routes:List SRouteP
 trips:List STripP
 hazs:List SHazP
def spathE (p:SPathP):List Value:=[.string p.name,.string p.a,.string p.b,.int .i64 p.len]
def sdoorE (d:SDoorP):List Value:=[.string d.name,.string d.a,.string d.b,.int .i64 d.len,.int .i64 d.fr,.int .i64 d.ev,.int .i64 d.du]
def stripE (t:STripP):List Value:=[.string t.name,.string t.route,.int .i64 t.fr,.int .i64 t.ev,.int .i64 t.un]
def shazE (h:SHazP):List Value:=[.string h.name,.string h.on,.int .i64 h.fr,.int .i64 h.ev,.int .i64 h.du]
theorem spathE_len (p:SPathP):(spathE p).length =4:=rfl
theorem sdoorE_len (p:SDoorP):(sdoorE p).length =7:=rfl
theorem stripE_len (p:STripP):(stripE p).length =5:=rfl
theorem shazE_len (p:SHazP):(shazE p).length =5:=rfl
theorem spathE_one (p:SPathP): ∀ u∈spathE p,u.oneCell'=true:=fun u hu=>by simp [spathE] at hu;rcases hu with rfl|rfl|rfl|rfl<;>rfl
theorem sdoorE_one (p:SDoorP): ∀ u∈sdoorE p,u.oneCell'=true:=fun u hu=>by simp [sdoorE] at hu;rcases hu with rfl|rfl|rfl|rfl|rfl|rfl|rfl<;>rfl
theorem stripE_one (p:STripP): ∀ u∈stripE p,u.oneCell'=true:=fun u hu=>by simp [stripE] at hu;rcases hu with rfl|rfl|rfl|rfl|rfl<;>rfl
theorem shazE_one (p:SHazP): ∀ u∈shazE p,u.oneCell'=true:=fun u hu=>by simp [shazE] at hu;rcases hu with rfl|rfl|rfl|rfl|rfl<;>rfl
def SlS (w:World) (b o:Nat) (l:List Str):Prop:= ∃ s n c,w.cell? ⟨b,o,none⟩=some (.slice s n c)∧Rd w 1 strE s n l∧n≤c∧c≤9223372036854775807
structure RSRoutes (w:World) (A:Option Addr) (n:Nat) (l:List SRouteP):Prop where
 len:l.length=n
 at_: ∀ (k:Nat) (r:SRouteP),l[k]?=some r→ ∃ b o,A=some ⟨b,o,none⟩∧b<w.heap.size∧w.cell? ⟨b,o+k*4,none⟩=some (.string r.name)∧SlS w b (o+k*4+1) r.stops∧SlAt w b (o+k*4+2) r.rides∧SlAt w b (o+k*4+3) r.stays
structure SV where
 (a0 aP aD aR aT aH:Option Addr)
 (n0 nP nD nR nT nH:Nat)
 (c0 cP cD cR cT cH:Nat)
structure RS (w:World) (X:SheetP) (V:SV):Prop where
 r0:Rd w 1 strE V.a0 V.n0 X.stops
 rP:Rd w 4 spathE V.aP V.nP X.paths
 rD:Rd w 7 sdoorE V.aD V.nD X.doors
 rR:RSRoutes w V.aR V.nR X.routes
 rT:Rd w 5 stripE V.aT V.nT X.trips
 rH:Rd w 5 shazE V.aH V.nH X.hazs
section
variable {w w':World} {A:Option Addr} {n b o:Nat} {X:SheetP} {V:SV}
theorem SlS.below {l:List Str} (h:SlS w b o l) (hb:b<w.heap.size) (k:Below w.heap.size w w'):SlS w' b o l:=by
 obtain⟨s,n,c,h1,h2,h3⟩:=h;exact⟨s,n,c,(k.cell (p:=⟨b,o,none⟩) hb).trans h1,h2.below k,h3⟩
theorem RSRoutes.below {l:List SRouteP} (h:RSRoutes w A n l) (k:Below w.heap.size w w'):RSRoutes w' A n l:=by
 refine⟨h.len,fun i r hr=>?_⟩;obtain⟨b,o,e,hb,s0,s1,s2,s3⟩:=h.at_ i r hr;exact⟨b,o,e,Nat.lt_of_lt_of_le hb k.size,c_ k hb s0,s1.below hb k,s2.below hb k,s3.below hb k⟩
theorem RSRoutes.get {l:List SRouteP} (h:RSRoutes w A n l) {k:Nat} (hk:k<n): ∃ b o r,A=some ⟨b,o,none⟩∧b<w.heap.size∧l[k]?=some r∧w.cell? ⟨b,o+k*4,none⟩=some (.string r.name)∧SlS w b (o+k*4+1) r.stops∧SlAt w b (o+k*4+2) r.rides∧SlAt w b (o+k*4+3) r.stays:=by
 have hl:k<l.length:=by rw [h.len];exact hk
 obtain⟨b,o,e,hb,s⟩:=h.at_ k _ (List.getElem?_eq_getElem hl);exact⟨b,o,_,e,hb,List.getElem?_eq_getElem hl,s⟩
theorem RS.below (h:RS w X V) (k:Below w.heap.size w w'):RS w' X V:=
 ⟨h.r0.below k,h.rP.below k,h.rD.below k,h.rR.below k,h.rT.below k,h.rH.below k⟩
end
abbrev sVal (X:SheetP) (V:SV):Value:= .agg #[.int .i64 X.hz,.slice V.a0 V.n0 V.c0,.slice V.aP V.nP V.cP,.slice V.aD V.nD V.cD,.slice V.aR V.nR V.cR,.slice V.aT V.nT V.cT,.slice V.aH V.nH V.cH]
def strAt (l:List Str) (i:Int):Str:=(l[i.toNat]?).getD ByteArray.empty
def toldP (W:WorldP) (i:Nat):Option SPathP:=match W.paths[i]? with|some p=>some ⟨strAt W.nPaths i,strAt W.stops p.1,strAt W.stops p.2.1,p.2.2⟩|none=>none
def toldD (W:WorldP) (i:Nat):Option SDoorP:=match W.doors[i]? with|some d=>some ⟨strAt W.nDoors i,strAt W.stops d.a,strAt W.stops d.b,d.len,d.fr,d.ev,d.du⟩|none=>none
def toldR (W:WorldP) (i:Nat):Option SRouteP:=match W.routes[i]? with|some r=>some ⟨strAt W.nRoutes i,r.stops.map (strAt W.stops),r.rides,r.stays⟩|none=>none
def toldT (W:WorldP) (i:Nat):Option STripP:=match W.trips[i]? with|some t=>some ⟨strAt W.nTrips i,strAt W.nRoutes t.route,t.fr,t.ev,t.un⟩|none=>none
def toldH (W:WorldP) (i:Nat):Option SHazP:=match W.hazs[i]? with|some h=>some ⟨strAt W.nHazs i,strAt (if h.stop then W.stops else W.nPaths) h.on,h.fr,h.ev,h.du⟩|none=>none
def upTo2 {β:Type} (f:Nat→Option β) (k:Nat):List β:=(List.range k).filterMap f
theorem upTo2_snoc {β:Type} {f:Nat→Option β} {k:Nat} {x:β} (h:f k=some x):upTo2 f (k+1)=upTo2 f k++[x]:=by
 unfold upTo2;rw [List.range_succ,List.filterMap_append];simp [h]
theorem upTo2_len {β:Type} {f:Nat→Option β} {n:Nat} (h: ∀ i,i<n→(f i).isSome): ∀ k,k≤n→(upTo2 f k).length =k
 |0,_=>rfl
 |k+1,hk=>by
  obtain⟨x,hx⟩:=Option.isSome_iff_exists.1 (h k (by omega));rw [upTo2_snoc hx,List.length_append,upTo2_len h k (by omega)];rfl
def toldS (W:WorldP):SheetP:=⟨W.hz,W.stops,upTo2 (toldP W) W.paths.length,upTo2 (toldD W) W.doors.length,upTo2 (toldR W) W.routes.length,upTo2 (toldT W) W.trips.length,upTo2 (toldH W) W.hazs.length⟩
end Go.Proofs.YtechdefolfboeaaGreatDoor
namespace Go.Proofs.YtechdefolfboeaaGreatDoor.W
abbrev Row:=List (Int×Int)
def chk (x:Int):Int:=if 0≤x∧x≤1099511627776 then 0 else 9
theorem chk_ok {x:Int} (h:0≤x∧x≤1099511627776):chk x=0:=if_pos h
theorem chk_no {x:Int} (h: ¬ (0≤x∧x≤1099511627776)):chk x=9:=if_neg h
theorem chk_zero {x:Int} (h:chk x=0):0≤x∧x≤1099511627776:=by
 unfold chk at h;split at h
 ·assumption
 ·omega
theorem chk_cases (x:Int):chk x=0∨chk x=9:=by unfold chk;split<;>simp
def inf:Int:=4611686018427387904
def goodF:Int→Row→Bool
 |_,[]=>true
 |p,(a,b)::r=>if a≤p∨b≤a∨2199023255552<b then false else goodF b r
def good (l:Row):Bool:=goodF (-1) l
def bh:Row→Int→Nat
 |[],_=>0
 |(_,b)::r,x=>if b≤x then bh r x+1 else 0
def asked (l:Row) (x:Int):Bool:=decide (chk x=0)&&good l
def nextF (l:Row) (x:Int):Int:=match l.drop (bh l x) with|[]=>inf|p::_=>max x p.1
def next (l:Row) (x:Int):Int:=if asked l x then nextF l x else inf
def has (l:Row) (x:Int):Bool:=asked l x&&decide (next l x=x)
def gapF (n:Int):Int→Row→Int
 |x,[]=>x
 |x,(a,b)::r=>if x+n≤a then x else gapF n b r
def gap (l:Row) (x n:Int):Int:=if asked l x=true∧chk n=0 then(if n=0 then x else gapF n x (l.drop (bh l x))) else inf
def free (l:Row) (x:Int):Int:=gap l x 1
def count (f e u:Int):Int:=if chk f=0∧chk e=0∧chk u=0∧f≤u then(if e=0 then 1 else(u-f) / e+1) else 0
def chkT (f e n:Int):Int:=if chk f≠0∨n<1∨1099511627776<n∨(e≠0∧(e<n∨1099511627776<e)) then 2 else 0
def joinStep (acc:Row) (w:Int×Int):Row:=match acc.getLast? with|some q=>if w.1≤q.2 then acc.dropLast++[(q.1,max q.2 w.2)] else acc++[w]|none=>[w]
def joinL (l:Row):Row:=l.foldl joinStep []
theorem joinStep_in (i:Row) (q w:Int×Int) (h:w.1≤q.2):joinStep (i++[q]) w=i++[(q.1,max q.2 w.2)]:=by simp [joinStep,h]
theorem joinStep_out (i:Row) (q w:Int×Int) (h:q.2<w.1):joinStep (i++[q]) w=i++[q]++[w]:=by
 have: ¬ w.1≤q.2:=by omega
 simp [joinStep,this]
theorem joinStep_len (acc:Row) (w:Int×Int):(joinStep acc w).length ≤acc.length+1:=by
 rcases List.eq_nil_or_concat acc with rfl|⟨i,q,rfl⟩
 ·simp [joinStep]
 ·rw [List.concat_eq_append];by_cases h:w.1≤q.2
  ·rw [joinStep_in _ _ _ h];simp
  ·rw [joinStep_out _ _ _ (by omega)];simp
theorem joinL_snoc (l:Row) (w:Int×Int):joinL (l++[w])=joinStep (joinL l) w:=by simp [joinL]
theorem joinF_len: ∀ (l acc:Row),(l.foldl joinStep acc).length ≤acc.length+l.length:=by
 intro l
 induction l with
 |nil=>intro acc;simp
 |cons w r ih=>intro acc;have:=ih (joinStep acc w);have:=joinStep_len acc w;simp only [List.foldl_cons,List.length_cons];omega
theorem joinL_len (l:Row):(joinL l).length ≤l.length:=by have:=joinF_len l [];simpa [joinL] using this
def ownF (y m:Int) (l:Row):Bool:=l.any fun p=>decide (p.1<y+m)&&decide (y<p.2)
end Go.Proofs.YtechdefolfboeaaGreatDoor.W
namespace Go.Proofs.YtechdefolfboeaaGreatDoor
open Go.RowKit B
def sq (x s:Str):Bool:=x.toList==s.toList
def placeN (s:Str):List Str→Nat
 |[]=>0
 |x::l=>if sq x s then 0 else placeN s l+1
def placeI (l:List Str) (s:Str):Int:=if placeN s l<l.length then(placeN s l:Int) else-1
theorem placeN_le (s:Str): ∀ l:List Str,placeN s l≤l.length
 |[]=>Nat.le_refl _
 |x::l=>by have:=placeN_le s l;unfold placeN;split<;>simp;omega
theorem placeN_stop (s:Str): ∀ (l:List Str) (i:Nat) (x:Str),l[i]?=some x→i≤placeN s l→sq x s=true→placeN s l=i
 |[],i,x,h,_,_=>by simp at h
 |y::l,0,x,h,hi,hx=>by
  simp at h;subst h;unfold placeN;rw [if_pos hx]
 |y::l,i+1,x,h,hi,hx=>by
  unfold placeN at hi ⊢;split
  ·rename_i h1;rw [if_pos h1] at hi;omega
  ·rename_i h1;rw [if_neg h1] at hi;rw [placeN_stop s l i x (by simpa using h) (by omega) hx]
theorem placeN_go (s:Str): ∀ (l:List Str) (i:Nat) (x:Str),l[i]?=some x→i≤placeN s l→sq x s=false→i+1≤placeN s l
 |[],i,x,h,_,_=>by simp at h
 |y::l,0,x,h,hi,hx=>by
  simp at h;subst h;unfold placeN;rw [if_neg (by rw [hx];simp)];omega
 |y::l,i+1,x,h,hi,hx=>by
  unfold placeN at hi ⊢;split
  ·rename_i h1;rw [if_pos h1] at hi;omega
  ·rename_i h1;rw [if_neg h1] at hi;have:=placeN_go s l i x (by simpa using h) (by omega) hx;omega
theorem placeN_at (s:Str): ∀ (l:List Str),placeN s l<l.length→ ∃ x,l[placeN s l]?=some x∧sq x s=true
 |[],h=>by simp at h
 |y::l,h=>by
  unfold placeN at h ⊢;split
  ·rename_i h1;exact⟨y,rfl,h1⟩
  ·rename_i h1;rw [if_neg h1] at h;obtain⟨x,h2,h3⟩:=placeN_at s l (by simpa using h);exact⟨x,by simpa using h2,h3⟩
theorem placeI_nonneg {l:List Str} {s:Str}:0≤placeI l s↔l.any (sq · s)=true:=by
 unfold placeI;constructor
 ·intro h;split at h
  ·rename_i h1;obtain⟨x,h2,h3⟩:=placeN_at s l h1;exact List.any_eq_true.2 ⟨x,List.mem_of_getElem? h2,h3⟩
  ·omega
 ·intro h;obtain⟨x,hx,h2⟩:=List.any_eq_true.1 h;obtain⟨i,hi⟩:=List.getElem?_of_mem hx;have hil:=(List.getElem?_eq_some_iff.1 hi).1;rw [if_pos]
  ·omega
  ·rcases Nat.lt_or_ge (placeN s l) l.length with h3|h3
   ·exact h3
   ·have:=placeN_stop s l i x hi (by omega) h2;omega
def numP (X:SheetP) (p:SPathP):Int×Int×Int:=(placeI X.stops p.a,placeI X.stops p.b,p.len)
def numD (X:SheetP) (d:SDoorP):DoorP:=⟨placeI X.stops d.a,placeI X.stops d.b,d.len,d.fr,d.ev,d.du⟩
def numR (X:SheetP) (r:SRouteP):RouteP:=⟨r.stops.map (placeI X.stops),r.rides,r.stays⟩
def numT (X:SheetP) (t:STripP):TripP:=⟨placeI (X.routes.map (·.name)) t.route,t.fr,t.ev,t.un⟩
def numH (X:SheetP) (h:SHazP):HazP:=if placeI X.stops h.on<0 then⟨false,placeI (X.paths.map (·.name)) h.on,h.fr,h.ev,h.du⟩ else⟨true,placeI X.stops h.on,h.fr,h.ev,h.du⟩
def numS (X:SheetP):WorldP:=⟨X.hz,X.stops,X.paths.map (·.name),X.doors.map (·.name),X.routes.map (·.name),X.trips.map (·.name),X.hazs.map (·.name),
 X.paths.map (numP X),X.doors.map (numD X),X.routes.map (numR X),X.trips.map (numT X),X.hazs.map (numH X)⟩
def allN (W:WorldP):List Str:=W.stops++W.nPaths++W.nDoors++W.nRoutes++W.nTrips++W.nHazs
def uniqB:List Str→Bool
 |[]=>true
 |x::l=> !(l.any fun y=>sq x y)&&uniqB l
def wayB (a b n:Int):Bool:=decide (0≤a)&&(decide (0≤b)&&(decide (a≠b)&&decide (1≤n)))
def timesB (f v n h:Int):Bool:=decide (W.chkT f v n=0)&&(decide (W.chk h=0)&&decide (W.count f v h≤256))
def legsB:List Int→List Int→Bool
 |a::b::l,r::rs=>decide (a≠b)&&(decide (1≤r)&&legsB (b::l) rs)
 |_::_::_,[]=>false
 |_,_=>true
def routeB (r:RouteP):Bool:=(r.stops.all fun s=>decide (0≤s))&&legsB r.stops r.rides
def firstB (W:WorldP):Bool:=(W.paths.all fun p=>wayB p.1 p.2.1 p.2.2)&&((W.doors.all fun d=>wayB d.a d.b d.len&&timesB d.fr d.ev d.du W.hz)&&(W.routes.all routeB&&((W.trips.all fun t=>decide (0≤t.route)&&decide (t.fr≤t.un))&&W.hazs.all fun h=>decide (0≤h.on)&&timesB h.fr h.ev h.du W.hz)))
def pN (p:SPathP):List Str:=[p.name,p.a,p.b]
def dN (d:SDoorP):List Str:=[d.name,d.a,d.b]
def rN (r:SRouteP):List Str:=[r.name]++r.stops
def tN (t:STripP):List Str:=[t.name,t.route]
def hN (h:SHazP):List Str:=[h.name,h.on]
def namesL (X:SheetP):List Str:=X.stops++(X.paths.flatMap pN++(X.doors.flatMap dN++(X.routes.flatMap rN++(X.trips.flatMap tN++(X.hazs.flatMap hN++[])))))
def pI (p:SPathP):List Int:=[p.len]
def dI (d:SDoorP):List Int:=[d.len,d.fr,d.ev,d.du]
def rI (r:SRouteP):List Int:=r.rides++r.stays
def tI (t:STripP):List Int:=[t.fr,t.ev,t.un]
def hI (h:SHazP):List Int:=[h.fr,h.ev,h.du]
def numsL (X:SheetP):List Int:=[X.hz]++(X.paths.flatMap pI++(X.doors.flatMap dI++(X.routes.flatMap rI++(X.trips.flatMap tI++(X.hazs.flatMap hI++[])))))
def shapeB (r:SRouteP):Bool:=decide (2≤r.stops.length)&&(decide (r.stops.length≤32)&&(decide (r.rides.length+1=r.stops.length)&&decide (r.stays.length+2=r.stops.length)))
def lensS (X:SheetP):Bool:=decide (X.stops.length≤256)&&(decide (X.paths.length≤1024)&&(decide (X.doors.length≤256)&&(decide (X.routes.length≤256)&&(decide (X.trips.length≤1024)&&decide (X.hazs.length≤256)))))
def sheetB (nm:Str→Bool) (X:SheetP):Bool:=lensS X&&((namesL X).all nm&&((numsL X).all (fun x=>decide (W.chk x=0))&&X.routes.all shapeB))
def inB (n:Int) (len:Nat):Bool:=decide (0≤n)&&decide (n<(len:Int))
theorem inB_iff {n:Int} {len:Nat}:inB n len=true↔0≤n∧n<(len:Int):=by unfold inB;simp
def okP (W:WorldP) (p:Int×Int×Int):Bool:=inB p.1 W.stops.length&&inB p.2.1 W.stops.length
def okD (W:WorldP) (d:DoorP):Bool:=inB d.a W.stops.length&&inB d.b W.stops.length
def okR (W:WorldP) (r:RouteP):Bool:=r.stops.all fun s=>inB s W.stops.length
def okT (W:WorldP) (t:TripP):Bool:=inB t.route W.nRoutes.length
def okH (W:WorldP) (h:HazP):Bool:=inB h.on (if h.stop then W.stops.length else W.nPaths.length)
def lensB (W:WorldP):Bool:=decide (W.nPaths.length=W.paths.length)&&(decide (W.nDoors.length=W.doors.length)&&(decide (W.nRoutes.length=W.routes.length)&&(decide (W.nTrips.length=W.trips.length)&&decide (W.nHazs.length=W.hazs.length))))
def wholeB (W:WorldP):Bool:=((((lensB W&&W.paths.all (okP W))&&W.doors.all (okD W))&&W.routes.all (okR W))&&W.trips.all (okT W))&&W.hazs.all (okH W)
def goodB (nm:Str→Bool) (W:WorldP):Bool:=wholeB W&&(sheetB nm (toldS W)&&(uniqB (allN (toldS W|>numS))&&firstB (numS (toldS W))))
def Tk (x:Int):Prop:=0≤x∧x≤1099511627776
structure GoodW (W:WorldP):Prop where
 hz:Tk W.hz
 ns:W.stops.length≤256
 np:W.paths.length≤1024
 nd:W.doors.length≤256
 nr:W.routes.length≤256
 nt:W.trips.length≤1024
 nh:W.hazs.length≤256
 lp:W.nPaths.length=W.paths.length
 ld:W.nDoors.length=W.doors.length
 lr:W.nRoutes.length=W.routes.length
 lt:W.nTrips.length=W.trips.length
 lh:W.nHazs.length=W.hazs.length
 paths: ∀ p∈W.paths,(0≤p.1∧p.1<W.stops.length)∧(0≤p.2.1∧p.2.1<W.stops.length)∧p.1≠p.2.1∧1≤p.2.2∧p.2.2≤1099511627776
 doors: ∀ d∈W.doors,(0≤d.a∧d.a<W.stops.length)∧(0≤d.b∧d.b<W.stops.length)∧d.a≠d.b∧(1≤d.len∧d.len≤1099511627776)∧timesB d.fr d.ev d.du W.hz=true
 routes: ∀ r∈W.routes,(2≤r.stops.length∧r.stops.length≤32)∧r.rides.length+1=r.stops.length∧r.stays.length+2=r.stops.length∧(∀ s∈r.stops,0≤s∧s<W.stops.length)∧(∀ x∈r.rides,1≤x∧x≤1099511627776)∧(∀ x∈r.stays,0≤x∧x≤1099511627776)∧ ∀ (k:Nat) a b,r.stops[k]?=some a→r.stops[k+1]?=some b→a≠b
 trips: ∀ t∈W.trips,(0≤t.route∧t.route<W.routes.length)∧Tk t.fr∧Tk t.ev∧Tk t.un∧t.fr≤t.un
 hazs: ∀ h∈W.hazs,(0≤h.on∧h.on<(if h.stop then W.stops.length else W.paths.length:Nat))∧timesB h.fr h.ev h.du W.hz=true
theorem upTo2_get {β:Type} {f:Nat→Option β} {n k:Nat} (h: ∀ i,i<n→(f i).isSome) (hk:k<n):(upTo2 f n)[k]?=f k:=by
 obtain⟨x,hx⟩:=Option.isSome_iff_exists.1 (h k hk);rw [hx]
 induction n with
 |zero=>omega
 |succ m ih=>
  obtain⟨y,hy⟩:=Option.isSome_iff_exists.1 (h m (by omega));rw [upTo2_snoc hy];have hl:=upTo2_len (n:=m) (fun i hi=>h i (by omega)) m (Nat.le_refl _);rcases Nat.lt_or_ge k m with hkm|hkm
  ·rw [List.getElem?_append_left (by rw [hl];exact hkm)];exact ih (fun i hi=>h i (by omega)) hkm
  ·obtain rfl:k=m:=by omega
   rw [List.getElem?_append_right (by rw [hl];omega),hl];rw [hx] at hy;cases hy;simp
theorem toldP_some (W:WorldP) {i:Nat} (h:i<W.paths.length):(toldP W i).isSome :=by unfold toldP;rw [List.getElem?_eq_getElem h];rfl
theorem toldD_some (W:WorldP) {i:Nat} (h:i<W.doors.length):(toldD W i).isSome :=by unfold toldD;rw [List.getElem?_eq_getElem h];rfl
theorem toldR_some (W:WorldP) {i:Nat} (h:i<W.routes.length):(toldR W i).isSome :=by unfold toldR;rw [List.getElem?_eq_getElem h];rfl
theorem toldT_some (W:WorldP) {i:Nat} (h:i<W.trips.length):(toldT W i).isSome :=by unfold toldT;rw [List.getElem?_eq_getElem h];rfl
theorem toldH_some (W:WorldP) {i:Nat} (h:i<W.hazs.length):(toldH W i).isSome :=by unfold toldH;rw [List.getElem?_eq_getElem h];rfl
theorem told_mem {α β:Type} {l:List α} {f:Nat→Option β} {x:α} {y:α→Nat→β} (hx:x∈l) (h: ∀ i a,l[i]?=some a→f i=some (y a i)): ∃ i,l[i]?=some x∧y x i∈upTo2 f l.length:=by
 obtain⟨i,hi⟩:=List.getElem?_of_mem hx;have hil:=(List.getElem?_eq_some_iff.1 hi).1;refine⟨i,hi,?_⟩;have hall: ∀ k,k<l.length→(f k).isSome :=fun k hk=>by rw [h k l[k] (List.getElem?_eq_getElem hk)];rfl
 have:=upTo2_get hall hil;rw [h i x hi] at this;exact List.mem_of_getElem? this
theorem legsB_ok: ∀ (l rs:List Int),legsB l rs=true→rs.length+1=l.length→(∀ x∈rs,1≤x)∧ ∀ (k:Nat) a b,l[k]?=some a→l[k+1]?=some b→a≠b
 |[],rs,h,hl=>by simp at hl
 |[a],rs,h,hl=>by
  obtain rfl:rs=[]:=List.eq_nil_of_length_eq_zero (by simpa using hl);exact⟨fun x hx=>(by simp at hx),fun k x y h1 h2=>(by simp at h2)⟩
 |a::b::l,[],h,hl=>by simp at hl
 |a::b::l,r::rs,h,hl=>by
  unfold legsB at h;simp only [Bool.and_eq_true,decide_eq_true_eq] at h;obtain⟨h1,h2,h3⟩:=h;obtain⟨i1,i2⟩:=legsB_ok (b::l) rs h3 (by simp at hl ⊢;omega);refine⟨fun x hx=>?_,fun k x y hx hy=>?_⟩
  ·rcases List.mem_cons.1 hx with rfl|hx
   ·exact h2
   ·exact i1 x hx
  ·cases k with
   |zero=>simp at hx hy;subst hx hy;exact h1
   |succ k=>exact i2 k x y (by simpa using hx) (by simpa using hy)
theorem map_legs {f:Int→Str} {g:Str→Int}: ∀ (l rs:List Int),legsB ((l.map f).map g) rs=true→legsB l rs=true
 |[],rs,h=>rfl
 |[a],rs,h=>by cases rs<;>rfl
 |a::b::l,[],h=>by simp [legsB] at h
 |a::b::l,r::rs,h=>by
  simp only [List.map_cons,legsB,Bool.and_eq_true,decide_eq_true_eq] at h ⊢;exact⟨fun e=>h.1 (by rw [e]),h.2.1,map_legs (b::l) rs h.2.2⟩
theorem numH_t (X:SheetP) (h:SHazP):(numH X h).fr =h.fr∧(numH X h).ev =h.ev∧(numH X h).du =h.du:=by unfold numH;split<;>exact⟨rfl,rfl,rfl⟩
theorem goodW_of {nm:Str→Bool} {W:WorldP} (h:goodB nm W=true):GoodW W:=by
 unfold goodB at h;simp only [Bool.and_eq_true] at h;obtain⟨hw,hs,hu,hf⟩:=h;unfold wholeB at hw;simp only [Bool.and_eq_true] at hw;obtain⟨⟨⟨⟨⟨hl,hP⟩,hD⟩,hR⟩,hT⟩,hH⟩:=hw;unfold lensB at hl;simp only [Bool.and_eq_true,decide_eq_true_eq] at hl;obtain⟨l1,l2,l3,l4,l5⟩:=hl;unfold sheetB at hs;simp only [Bool.and_eq_true] at hs;obtain⟨hlen,_,hn,hsh⟩:=hs;have eP:=upTo2_len (f:=toldP W) (fun i hi=>toldP_some W hi) _ (Nat.le_refl _);have eD:=upTo2_len (f:=toldD W) (fun i hi=>toldD_some W hi) _ (Nat.le_refl _);have eR:=upTo2_len (f:=toldR W) (fun i hi=>toldR_some W hi) _ (Nat.le_refl _);have eT:=upTo2_len (f:=toldT W) (fun i hi=>toldT_some W hi) _ (Nat.le_refl _);have eH:=upTo2_len (f:=toldH W) (fun i hi=>toldH_some W hi) _ (Nat.le_refl _);unfold lensS toldS at hlen;simp only [Bool.and_eq_true,decide_eq_true_eq,eP,eD,eR,eT,eH] at hlen;obtain⟨n1,n2,n3,n4,n5,n6⟩:=hlen
 have hnum: ∀ x∈numsL (toldS W),Tk x:=fun x hx=>Go.Proofs.YtechdefolfboeaaGreatDoor.W.chk_zero (by simpa using List.all_eq_true.1 hn x hx);unfold firstB at hf;simp only [Bool.and_eq_true] at hf;obtain⟨fP,fD,fR,fT,fH⟩:=hf;have mem1: ∀ x∈(toldS W).paths,Tk x.len:=fun x hx=>hnum _ (by unfold numsL;simp only [List.mem_append,List.mem_flatMap];exact .inr (.inl ⟨x,hx,by simp [pI]⟩));have mem2: ∀ x∈(toldS W).doors,Tk x.len:=fun x hx=>hnum _ (by unfold numsL;simp only [List.mem_append,List.mem_flatMap];exact .inr (.inr (.inl ⟨x,hx,by simp [dI]⟩)));have mem3: ∀ x∈(toldS W).routes, ∀ y∈x.rides++x.stays,Tk y:=fun x hx y hy=>hnum _ (by unfold numsL;simp only [List.mem_append,List.mem_flatMap];exact .inr (.inr (.inr (.inl ⟨x,hx,by simpa [rI] using hy⟩))))
 have mem4: ∀ x∈(toldS W).trips,Tk x.fr∧Tk x.ev∧Tk x.un:=fun x hx=>by
  have: ∀ y∈tI x,Tk y:=fun y hy=>hnum _ (by unfold numsL;simp only [List.mem_append,List.mem_flatMap];exact .inr (.inr (.inr (.inr (.inl ⟨x,hx,hy⟩)))));exact⟨this _ (by simp [tI]),this _ (by simp [tI]),this _ (by simp [tI])⟩
 refine⟨hnum _ (by unfold numsL toldS;simp),n1,n2,n3,n4,n5,n6,l1,l2,l3,l4,l5,fun p hp=>?_,fun d hd=>?_,fun r hr=>?_,fun t ht=>?_,fun x hx=>?_⟩
 ·have h1:=List.all_eq_true.1 hP p hp;unfold okP at h1;rw [Bool.and_eq_true,inB_iff,inB_iff] at h1;obtain⟨i,hi,hm⟩:=told_mem (f:=toldP W) (y:=fun p i=>⟨strAt W.nPaths i,strAt W.stops p.1,strAt W.stops p.2.1,p.2.2⟩) hp (fun i a ha=>by unfold toldP;rw [ha]);have h2:=List.all_eq_true.1 fP _ (List.mem_map_of_mem hm);unfold wayB numP at h2;simp only [Bool.and_eq_true,decide_eq_true_eq] at h2;have h3:=mem1 _ hm;exact⟨h1.1,h1.2,fun e=>h2.2.2.1 (by rw [e]),h2.2.2.2,h3.2⟩
 ·have h1:=List.all_eq_true.1 hD d hd;unfold okD at h1;rw [Bool.and_eq_true,inB_iff,inB_iff] at h1;obtain⟨i,hi,hm⟩:=told_mem (f:=toldD W) (y:=fun d i=>⟨strAt W.nDoors i,strAt W.stops d.a,strAt W.stops d.b,d.len,d.fr,d.ev,d.du⟩) hd (fun i a ha=>by unfold toldD;rw [ha]);have h2:=List.all_eq_true.1 fD _ (List.mem_map_of_mem hm);unfold wayB numD at h2;simp only [Bool.and_eq_true,decide_eq_true_eq] at h2;have h3:=mem2 _ hm;exact⟨h1.1,h1.2,fun e=>h2.1.2.2.1 (by rw [e]),⟨h2.1.2.2.2,h3.2⟩,h2.2⟩
 ·have h1:=List.all_eq_true.1 hR r hr;unfold okR at h1;obtain⟨i,hi,hm⟩:=told_mem (f:=toldR W) (y:=fun r i=>⟨strAt W.nRoutes i,r.stops.map (strAt W.stops),r.rides,r.stays⟩) hr (fun i a ha=>by unfold toldR;rw [ha]);have h2:=List.all_eq_true.1 fR _ (List.mem_map_of_mem hm);unfold routeB numR at h2;simp only [Bool.and_eq_true] at h2;have h3:=mem3 _ hm;have h4:=List.all_eq_true.1 hsh _ hm;unfold shapeB at h4;simp only [Bool.and_eq_true,decide_eq_true_eq,List.length_map] at h4;obtain⟨s1,s2,s3,s4⟩:=h4;obtain⟨q1,q2⟩:=legsB_ok r.stops r.rides (map_legs r.stops r.rides h2.2) s3;refine⟨⟨s1,s2⟩,s3,s4,fun s hs=>inB_iff.1 (List.all_eq_true.1 h1 s hs),fun x hx=>⟨q1 x hx,(h3 x (by simp [hx])).2⟩,fun x hx=>h3 x (by simp [hx]),q2⟩
 ·have h1:=List.all_eq_true.1 hT t ht;unfold okT at h1;rw [inB_iff,l3] at h1;obtain⟨i,hi,hm⟩:=told_mem (f:=toldT W) (y:=fun t i=>⟨strAt W.nTrips i,strAt W.nRoutes t.route,t.fr,t.ev,t.un⟩) ht (fun i a ha=>by unfold toldT;rw [ha]);have h2:=List.all_eq_true.1 fT _ (List.mem_map_of_mem hm);rw [Bool.and_eq_true] at h2;have h3:=mem4 _ hm;exact⟨h1,h3.1,h3.2.1,h3.2.2,of_decide_eq_true h2.2⟩
 ·have h1:=List.all_eq_true.1 hH x hx;unfold okH at h1;rw [inB_iff,l1] at h1;obtain⟨i,hi,hm⟩:=told_mem (f:=toldH W) (y:=fun h i=>⟨strAt W.nHazs i,strAt (if h.stop then W.stops else W.nPaths) h.on,h.fr,h.ev,h.du⟩) hx (fun i a ha=>by unfold toldH;rw [ha]);have h2:=List.all_eq_true.1 fH _ (List.mem_map_of_mem hm)
  have h3:timesB x.fr x.ev x.du W.hz=true:=by
   rw [Bool.and_eq_true] at h2;have h4:=h2.2;obtain⟨e1,e2,e3⟩:=numH_t (toldS W) ⟨strAt W.nHazs i,strAt (if x.stop then W.stops else W.nPaths) x.on,x.fr,x.ev,x.du⟩;rw [e1,e2,e3] at h4;exact h4
  exact⟨h1,h3⟩
