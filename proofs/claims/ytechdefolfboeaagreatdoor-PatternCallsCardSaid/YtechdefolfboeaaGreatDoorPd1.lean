/- Merged. -/
import Derived.WalkSpells
import Derived.WalkSmall
import Derived.Lib.Hide
import Derived.StillTailTactics
import Derived.BigQuiet
import Derived.RangeFuncNested
import Derived.RangeFuncBound
import Derived.OwnWalkIn
import Derived.Lib.SmallJoins
set_option linter.unusedVariables false
set_option linter.unusedSimpArgs false
namespace Go.Proofs.YtechdefolfboeaaGreatDoor
def Hd (p:Prop):Prop:=p
theorem Hd.o {p:Prop} (h:Hd p):p:=h
theorem H_ {p:Prop} (h:p):Hd p:=h
theorem q4_ {a b c d e:Prop} (h:a/\b/\c/\d/\e):e:=h.2.2.2.2
theorem e_ {α:Sort _} (x:α): ∃ q,x=q:=⟨_,rfl⟩
end Go.Proofs.YtechdefolfboeaaGreatDoor
namespace Go.Proofs.YtechdefolfboeaaGreatDoor.B
open Go.RowKit
def cutA (A:Option Addr) (c k s:Nat):Option Addr:=if c=k then A else A.map (·.add (k*s))
theorem o7_ {P:Program} {t e:TypeId} {s:Nat} (ht:P.underlying t=some (.slice e)) (he:P.elem t=e) (hs: ∀ W,(sizeOf e).run P W= .ok s W) (A:Option Addr) (n c k:Nat) (hk:k<=n) (kl:IntKind) (W:World):
 (Instr.slice t (.slice A n c) (some (.int kl (k:Int))) none none).run P W= .ok (.slice (cutA A c k s) (n-k) (c-k)) W:=by
 subst he;rw [run_slice_l W t A n c ht kl (k:Int) (by omega) (by omega),hs];simp [Result.andThen,sliced,cutA]
structure Rd {α:Type} (w:World) (size:Nat) (enc:α ->List Value) (A:Option Addr) (n:Nat) (l:List α):Prop where
 len:l.length=n
 cells:0<n -> ∃ b o,A=some ⟨b,o,none⟩/\b<w.heap.size/\ ∀ i x,l[i]?=some x -> ∀ j u,(enc x)[j]?=some u ->w.cell? ⟨b,o+i*size+j,none⟩=some u
section
variable {α:Type} {w w':World} {size n B:Nat} {enc:α ->List Value} {A:Option Addr} {l:List α}
theorem Rd.nil:Rd w size enc A 0 ([]:List α):=⟨rfl,fun h=>absurd h (by omega)⟩
theorem Rd.keep (h:Rd w size enc A n l) (hs:w.heap.size<=w'.heap.size) (hk: ∀ b o,b<w.heap.size ->w'.cell? ⟨b,o,none⟩=w.cell? ⟨b,o,none⟩):Rd w' size enc A n l:=
 ⟨h.len,fun p=>by
   obtain⟨b,o,e,f,g⟩:=h.cells p;exact⟨b,o,e,by omega,fun i x y j u q=>(hk _ _ f).trans (g i x y j u q)⟩⟩
theorem Rd.below (h:Rd w size enc A n l) (hb:Below w.heap.size w w'):Rd w' size enc A n l:=h.keep hb.size fun b o f=>hb.cell (p:=⟨b,o,none⟩) f
end
theorem ce_:maxLen=9223372036854775807:=by unfold maxLen;rfl
theorem a8_ {α:Type} {enc:α ->List Value} {size:Nat} (hs: ∀ x,(enc x).length =size): ∀ (l:List α) (i:Nat) (x:α),l[i]?=some x -> ∀ (j:Nat) (u:Value),(enc x)[j]?=some u ->(l.flatMap enc)[i*size+j]?=some u:=by
 intro l
 induction l with
 |nil=>intro i x h;simp at h
 |cons y r ih=>
  intro i x h j u f
  cases i with
  |zero=>
   simp at h;subst h;rw [List.flatMap_cons,Nat.zero_mul,Nat.zero_add,List.getElem?_append_left (by obtain⟨h,_⟩:=List.getElem?_eq_some_iff.1 f;exact h)];exact f
  |succ i=>
   rw [List.flatMap_cons,List.getElem?_append_right (by rw [hs,Nat.succ_mul];omega),hs,show(i+1)*size+j-size=i*size+j by rw [Nat.succ_mul];omega];exact ih i x (by simpa using h) j u f
theorem cz_ {α:Type} {enc:α ->List Value} {size:Nat} (hs: ∀ x,(enc x).length =size) (l:List α):(l.flatMap enc).length =l.length*size:=by
 induction l with
 |nil=>simp
 |cons y r ih=>rw [List.flatMap_cons,List.length_append,ih,hs,List.length_cons,Nat.succ_mul];omega
theorem Rd.of_own {α:Type} {enc:α ->List Value} {w:World} {base size n:Nat} {e:TypeId} {v:Value} {l:List α} (hs: ∀ x,(enc x).length =size) (hl:l.length=n)
 (h:w.ownsRow base e size v n (l.flatMap enc)): ∃ A c,v= .slice A n c/\Rd w size enc A n l/\n<=c/\c<=9223372036854775807:=by
 rcases h.2 with⟨rfl,rfl⟩|⟨g,f,p,rfl,hb,q,D,z,aA,F⟩
 ·exact⟨none,0,rfl,⟨hl,fun h=>absurd h (by omega)⟩,Nat.le_refl _,by omega⟩
 ·refine⟨_,f,rfl,⟨hl,fun _=>⟨g,0,rfl,(Array.getElem?_eq_some_iff.1 q).1,fun i x J j u G=>?_⟩⟩,D,by rw [<-ce_];exact z⟩;have:=a8_ hs l i x J j u G;rw [<-F] at this
  have y:p.toList[i*size+j]?=some u:=by
   rw [List.getElem?_take] at this;split at this
   ·exact this
   ·cases this
  simp [World.cell?,q];simpa using y
theorem Rd.lit {α:Type} (w:World) (size:Nat) (enc:α ->List Value) (hs: ∀ x,(enc x).length =size) (e:TypeId) (l:List α):Rd (w.alloc (.cells (l.flatMap enc).toArray e)) size enc (some ⟨w.heap.size,0,none⟩) l.length l:=
 ⟨rfl,fun _=>⟨w.heap.size,0,rfl,by simp,fun i x g j u f=>by
   rw [cell_of_row _ _ _ _ _ _ (heap_alloc_new w _),Nat.zero_add];simpa using a8_ hs l i x g j u f⟩⟩
theorem bd_ {w w':World} {base size n:Nat} {e:TypeId} {v:Value} {xs:List Value} (h:w.ownsRow base e size v n xs) (hk: ∀ k,v.ownBlock=some k ->w'.heap[k]?=w.heap[k]?):w'.ownsRow base e size v n xs:=by
 refine⟨h.1,?_⟩;rcases h.2 with p|⟨g,f,j,rfl,q,y,r⟩
 ·exact .inl p
 ·exact .inr ⟨g,f,j,rfl,q,(hk g rfl).trans y,r⟩
theorem hL_ (w:World) (v:Value) (t:TypeId):(w.alloc (.cells #[v] t)).heap[w.heap.size]?=some (.cells #[v] t (0,0)):=heap_alloc_new w _
theorem a1_ {α:Type} {l:List α} {k:Nat} {x:α} (h:l[k]?=some x):l.drop k=x::l.drop (k+1):=by
 obtain⟨f,rfl⟩:=List.getElem?_eq_some_iff.1 h;exact List.drop_eq_getElem_cons f
theorem an_ {α:Type} {l:List α} {k:Nat} {x:α} (h:l[k]?=some x):l.take (k+1)=l.take k++[x]:=by
 obtain⟨f,rfl⟩:=List.getElem?_eq_some_iff.1 h;rw [List.take_succ_eq_append_getElem f]
theorem ah_ {k:IntKind} {a b:Int} (h:a=b):Ending.returned (.int k a)= .returned (.int k b):=by rw [h]
theorem am_ {a b:Bool} (h:a=b):Ending.returned (.bool a)= .returned (.bool b):=by rw [h]
def aZ_ (p:Int×Int):List Value:=[.int .i64 p.1,.int .i64 p.2]
section
variable {w:World} {n k:Nat} {A:Option Addr} {l:List (Int×Int)}
theorem Rd.pair (h:Rd w 2 aZ_ A n l) (hk:k<n): ∃ b o x y,A=some ⟨b,o,none⟩/\b<w.heap.size/\l[k]?=some (x,y)/\
 w.cell? ⟨b,o+k*2,none⟩=some (.int .i64 x)/\w.cell? ⟨b,o+k*2+1,none⟩=some (.int .i64 y):=by
 obtain⟨b,o,rfl,j,g⟩:=h.cells (by omega);have p:k<l.length:=by rw [h.len];exact hk
 have f:l[k]?=some l[k]:=List.getElem?_eq_getElem p;exact⟨b,o,l[k].1,l[k].2,rfl,j,f,g k _ f 0 _ rfl,g k _ f 1 _ rfl⟩
end
def f3_ (w:World) (l:List (Int×Int)) (e:Ending) (w':World):Prop:=
 ∃ A c,e= .returned (.slice A l.length c)/\Rd w' 2 aZ_ A l.length l/\l.length<=c/\c<=9223372036854775807/\Below w.heap.size w w'
def f4_ (w:World) (l:List (Int×Int)) (x:Int) (e:Ending) (w':World):Prop:=
 ∃ A c,e= .returned (.tuple #[.slice A l.length c,.int .i64 x])/\Rd w' 2 aZ_ A l.length l/\l.length<=c/\c<=9223372036854775807/\Below w.heap.size w w'
theorem f3_.mk {w w':World} {l:List (Int×Int)} {e:Ending} (A:Option Addr) (c:Nat) (h:e= .returned (.slice A l.length c)) (r:Rd w' 2 aZ_ A l.length l) (hc:l.length<=c) (hc2:c<=9223372036854775807) (hb:Below w.heap.size w w'):
 f3_ w l e w':=⟨A,c,h,r,hc,hc2,hb⟩
theorem f4_.mk {w w':World} {l:List (Int×Int)} {x:Int} {e:Ending} (A:Option Addr) (c:Nat) (h:e= .returned (.tuple #[.slice A l.length c,.int .i64 x])) (r:Rd w' 2 aZ_ A l.length l) (hc:l.length<=c) (hc2:c<=9223372036854775807) (hb:Below w.heap.size w w'):
 f4_ w l x e w':=⟨A,c,h,r,hc,hc2,hb⟩
theorem ov_ {P:Program} {id:Nat} {Q:Exit ->Act ->World ->Prop} {a:Act} {w:World} {l:List Oper} (n:Nat) {k:Nat} (hm:P.follows .mixedOrders =true) (hB:Region.lexTailB .any l.toArray n=true)
 (h:wpStill P l.toArray (w.drewN (k+1)) (fun a'=>wpList P l.toArray Q (l.drop n) a' (w.drewN (k+1))) (l.take n) a):(Code.region id l.toArray true).wp P Q a (w.drewN k):=wp_region_still_tail n hm hB h
theorem ju_ {P:Program} {id:Nat} {Q:Exit ->Act ->World ->Prop} {a:Act} {w:World} {l:List Oper} (n:Nat) (hm:P.follows .mixedOrders =true) (hB:Region.lexTailB .any l.toArray n=true)
 (h:wpStill P l.toArray (w.drewN 1) (fun a'=>wpList P l.toArray Q (l.drop n) a' (w.drewN 1)) (l.take n) a):(Code.region id l.toArray true).wp P Q a w:=wp_region_still_tail n hm hB h
open Go.Sort
structure Grew (w w':World):Prop where
 below:Below w.heap.size w w'
 drawn:w.drawn<=w'.drawn
theorem eM_ (w:World): ∀ n,(w.drewN n).drawn =w.drawn+n
 |0=>rfl
 |n+1=>by
  show(w.drewN n).drew.drawn =_;show(w.drewN n).drawn +1=_;rw [eM_ w n];omega
theorem Grew.refl (w:World):Grew w w:=⟨Below.refl _ _,Nat.le_refl _⟩
theorem Grew.alloc {a w:World} (h:Grew a w) (o:Obj):Grew a (w.alloc o):=⟨h.below.alloc h.below.size o,h.drawn⟩
theorem Grew.drewN {a w:World} (h:Grew a w) (n:Nat):Grew a (w.drewN n):=⟨⟨h.below.os,h.below.tape,h.below.output,h.below.size,h.below.block⟩,Nat.le_trans h.drawn (by rw [eM_];omega)⟩
theorem Grew.grow {w w':World} (h:Grew w w'): ∃ q os,w'=Sort.grow (w.drewN q) os:=by
 obtain⟨f,hd⟩:=h;refine⟨w'.drawn-w.drawn,w'.heap.extract w.heap.size w'.heap.size,?_⟩
 have G:w'.heap=w.heap++w'.heap.extract w.heap.size w'.heap.size:=by
  refine Array.ext_getElem? fun i=>?_;rw [Array.getElem?_append];split
  ·rename_i j;exact f.block i j
  ·rename_i j;rw [Array.getElem?_extract];by_cases g:i<w'.heap.size
   ·rw [if_pos (by omega)];congr 1;omega
   ·rw [if_neg (by omega),Array.getElem?_eq_none (by omega)]
 have e:(Sort.grow (w.drewN (w'.drawn-w.drawn)) (w'.heap.extract w.heap.size w'.heap.size))=⟨w.heap++w'.heap.extract w.heap.size w'.heap.size,w.tape,w.drawn+(w'.drawn-w.drawn),w.os,w.output⟩:=by
  unfold Sort.grow;have p:=eM_ w (w'.drawn-w.drawn);have g:(w.drewN (w'.drawn-w.drawn)).heap =w.heap:=World.heap_drewN _ _
  have y: ∀ n,(w.drewN n).tape =w.tape/\(w.drewN n).os =w.os/\(w.drewN n).output =w.output:=by
   intro n
   induction n with
   |zero=>exact⟨rfl,rfl,rfl⟩
   |succ n ih=>exact ih
  obtain⟨z,D,F⟩:=y (w'.drawn-w.drawn);rw [p,g,z,D,F]
 rw [e, <-G,show w.drawn+(w'.drawn-w.drawn)=w'.drawn by omega, <-f.tape, <-f.os, <-f.output]
end Go.Proofs.YtechdefolfboeaaGreatDoor.B
namespace Go.Proofs.YtechdefolfboeaaGreatDoor
namespace B
open Go.RowKit
structure But (w w':World) (X:List Nat):Prop where
 os:w'.os=w.os
 tape:w'.tape=w.tape
 output:w'.output=w.output
 size:w.heap.size<=w'.heap.size
 keep: ∀ b,b<w.heap.size ->b ∉ X ->w'.heap[b]?=w.heap[b]?
theorem But.refl (w:World) (X:List Nat):But w w X:=⟨rfl,rfl,rfl,Nat.le_refl _,fun _ _ _=>rfl⟩
theorem But.trans {a b c:World} {X:List Nat} (h:But a b X) (k:But b c X):But a c X:=
 ⟨k.os.trans h.os,k.tape.trans h.tape,k.output.trans h.output,Nat.le_trans h.size k.size,fun i f g=>(k.keep i (Nat.lt_of_lt_of_le f h.size) g).trans (h.keep i f g)⟩
theorem But.mono {a b:World} {X Y:List Nat} (h:But a b X) (hY: ∀ x∈X,x∈Y):But a b Y:=⟨h.os,h.tape,h.output,h.size,fun i g j=>h.keep i g (fun f=>j (hY i f))⟩
theorem But.of_below {a b:World} (h:Below a.heap.size a b) (X:List Nat):But a b X:=⟨h.os,h.tape,h.output,h.size,fun i f _=>h.block i f⟩
theorem But.below {a b:World} {X:List Nat} {n:Nat} (h:But a b X) (hn:n<=a.heap.size) (hX: ∀ x∈X,n<=x):Below n a b:=⟨h.os,h.tape,h.output,h.size,fun i hi=>h.keep i (by omega) (fun f=>by have:=hX i f;omega)⟩
theorem But.of_grown {a b:World} {row:Nat} (h:a.grownBy b (some row)) {X:List Nat} (hX:row∈X):But a b X:=⟨h.os,h.tape,h.output,h.size,fun i f g=>h.block i f (fun e=>g (by cases e;exact hX))⟩
theorem But.of_set (w:World) (a:Addr) (u:Value) {X:List Nat} (hX:a.block∈X):But w (w.setCell a u) X:=
 ⟨rfl,rfl,rfl,by simp,fun i _ f=>Below.heap_setCell _ _ _ _ (fun e=>f (e ▸ hX))⟩
theorem But.cell {w w':World} {X:List Nat} (h:But w w' X) {p:Addr} (hp:p.block<w.heap.size) (hX:p.block ∉ X):w'.cell? p=w.cell? p:=World.cell?_of_block (h.keep _ hp hX)
variable {P:Program} {k e:TypeId}
def MapI (P:Program) (k e:TypeId) (w:World) (m:Nat) (f:Int ->Option Int) (N:Nat):Prop:=
 ∃ D:DataW Nat,w.ownsMap P k (plainElem P e) m N D/\Maps.size D=N/\ ∀ a,Maps.has D (.int .i64 a)=(f a).isSome /\ ∀ v,f a=some v -> ∀ z,D.atKey (.int .i64 a) z= .lit (.int .i64 v)
theorem MapI.lt {w:World} {m N:Nat} {f:Int ->Option Int} (h:MapI P k e w m f N):m<w.heap.size:=by obtain⟨D,h,_⟩:=h;exact h.lt
theorem MapI.keep {w w':World} {m N:Nat} {f:Int ->Option Int} (h:MapI P k e w m f N) (hk:w'.heap[m]?=w.heap[m]?):MapI P k e w' m f N:=by
 obtain⟨D,⟨j,g,p,r⟩,n⟩:=h;exact⟨D,⟨j,g,hk.trans p,r⟩,n⟩
theorem MapI.below {w w':World} {m N:Nat} {f:Int ->Option Int} (h:MapI P k e w m f N) (hb:Below w.heap.size w w'):MapI P k e w' m f N:=h.keep (hb.block m h.lt)
theorem MapI.new (w:World):MapI P k e (w.alloc (.map #[] 0)) w.heap.size (fun _=>none) 0:=
 ⟨.map [],World.ownsMap_made w P k _,rfl,fun a=>⟨rfl,fun v h=>by cases h⟩⟩
theorem wf64 {a:Int} (h1: -9223372036854775808<=a) (h2:a<=9223372036854775807):(Lit.int .i64 a).wf =true:=by
 simp only [Lit.wf,Bool.and_eq_true,decide_eq_true_eq];exact⟨h1,h2⟩
theorem MapI.look {w:World} {m N:Nat} {f:Int ->Option Int} (h:MapI P k e w m f N) {t:TypeId} (ht:P.underlying t=some (.map k e)) (hk:P.underlying k=some (.int .i64)) (he:P.underlying e=some (.int .i64))
 (hz:(zeroValue e).run P w= .ok (.int .i64 0) w) {a:Int} (ha:(Lit.int .i64 a).wf =true):
 (Instr.lookup t (.map (some m)) (.int .i64 a) true).run P w= .ok (.tuple #[.int .i64 ((f a).getD 0),.bool (f a).isSome]) w/\
 (Instr.lookup t (.map (some m)) (.int .i64 a) false).run P w= .ok (.int .i64 ((f a).getD 0)) w:=by
 obtain⟨D,z,hs,y⟩:=h;have n:=Maps.keyOf_int_mk hk ha;have K:=Maps.int_keyed hk
 have p: ∀ c:Int,D.atKey (.int .i64 a) (.lit (.int .i64 0))= .lit (.int .i64 c) ->c=(f a).getD 0:=fun c j=>by
  cases q:f a with
  |none=>
   have F:Maps.has D (.int .i64 a)=false:=by rw [(y a).1,q];rfl
   rw [Maps.atKey_of_not_has F] at j;cases j;rfl
  |some v=>
   rw [(y a).2 v q] at j;cases j;rfl
 constructor
 ·obtain⟨v,ps,g,G⟩:=z.look_ok K ht hz (plainElem_int he (by decide)) n;obtain⟨c,rfl,j,_⟩:=plainElem_int_inv he G;rw [g,(y a).1,p c (by simpa using (congrArg Prod.fst j))]
 ·obtain⟨c,g,j,_⟩:=z.lookup_int K ht he hz n;rw [g,p c j]
def updI (f:Int ->Option Int) (a v:Int):Int ->Option Int:=fun x=>if x=a then some v else f x
theorem h0_ {a:Int}:WideAt.IsKeyLit (.int .i64 a):=by simp [WideAt.IsKeyLit]
theorem mp_ {a b:Int} (h:a≠b):(Lit.int .i64 a)≠Lit.int .i64 b:=fun e=>h (by cases e;rfl)
theorem MapI.store {w:World} {m N:Nat} {f:Int ->Option Int} (h:MapI P k e w m f N) {t:TypeId} (ht:P.underlying t=some (.map k e)) (hk:P.underlying k=some (.int .i64)) (he:P.underlying e=some (.int .i64))
 (hN:N<9223372036854775807) {a v:Int} (ha:(Lit.int .i64 a).wf =true) (hv:(Lit.int .i64 v).wf =true):
 ∃ w',(Instr.mapUpdate t (.map (some m)) (.int .i64 a) (.int .i64 v)).run P w= .ok () w'/\MapI P k e w' m (updI f a v) (if(f a).isSome then N else N+1)/\w.mapTurned w' m:=by
 obtain⟨D,L,X,J⟩:=h;have n:=Maps.keyOf_int_mk hk ha;have K:=Maps.int_keyed hk;have T:=L.tidy K;obtain⟨w',p,G,j⟩:=L.store K ht (by rw [ce_];exact hN) n (plainElem_int he hv);have q:Maps.size (D.put (.int .i64 a) (.lit (.int .i64 v)))=if(f a).isSome then N else N+1:=by rw [Maps.size_put T,(J a).1,X]
 refine⟨w',p,⟨D.put (.int .i64 a) (.lit (.int .i64 v)),?_,q,fun x=>?_⟩,j⟩
 ·obtain⟨S,R,U,F,_,M⟩:=G;refine⟨S,R,U,F,?_,M⟩;rw [<-q,M];simp [Maps.size,length_sorted]
 ·by_cases y:x=a
  ·subst y;refine⟨by rw [Maps.has_put_same T.isMap h0_];simp [updI],fun Q g z=>?_⟩;rw [Maps.atKey_put_same T.isMap h0_];simp [updI] at g;rw [g]
  ·refine⟨by rw [Maps.has_put_other (mp_ y),(J x).1];simp [updI,y],fun Q g z=>?_⟩;rw [Maps.atKey_put_other (mp_ y)];exact(J x).2 Q (by simpa [updI,y] using g) z
end B
end Go.Proofs.YtechdefolfboeaaGreatDoor
namespace Go.Proofs.YtechdefolfboeaaGreatDoor.B
open Go.RowKit
structure Turn (S:Nat ->Prop) (w w':World):Prop where
 os:w'.os=w.os
 tape:w'.tape=w.tape
 output:w'.output=w.output
 size:w.heap.size<=w'.heap.size
 block: ∀ k,k<w.heap.size -> ¬ S k ->w'.heap[k]?=w.heap[k]?
section
variable {S S':Nat ->Prop} {w w' w1 w2:World}
theorem Turn.refl (S:Nat ->Prop) (w:World):Turn S w w:=⟨rfl,rfl,rfl,Nat.le_refl _,fun _ _ _=>rfl⟩
theorem Turn.mono (h:Turn S w w') (hs: ∀ k,k<w.heap.size ->S k ->S' k):Turn S' w w':=⟨h.os,h.tape,h.output,h.size,fun k f j=>h.block k f fun g=>j (hs k f g)⟩
theorem Turn.trans (h:Turn S w w1) (k:Turn S' w1 w2) (hs: ∀ k,k<w.heap.size ->S' k ->S k):Turn S w w2:=
 ⟨k.os.trans h.os,k.tape.trans h.tape,k.output.trans h.output,Nat.le_trans h.size k.size,fun i f g=>(k.block i (Nat.lt_of_lt_of_le f h.size) fun j=>g (hs i f j)).trans (h.block i f g)⟩
theorem Turn.drew (h:Turn S w w1):Turn S w w1.drew:=⟨h.os,h.tape,h.output,h.size,h.block⟩
theorem Turn.drewN (h:Turn S w w1) (n:Nat):Turn S w (w1.drewN n):=⟨h.os,h.tape,h.output,h.size,h.block⟩
theorem Turn.alloc (h:Turn S w w1) (o:Obj):Turn S w (w1.alloc o):=
 ⟨h.os,h.tape,h.output,Nat.le_trans h.size (by simp),fun k f g=>(Below.heap_alloc w1 o k (Nat.lt_of_lt_of_le f h.size)).trans (h.block k f g)⟩
theorem Turn.setCell (h:Turn S w w1) {p:Addr} (hp:p.block<w.heap.size ->S p.block) (u:Value):Turn S w (w1.setCell p u):=
 ⟨h.os,h.tape,h.output,Nat.le_trans h.size (by simp [World.setCell]),fun k f g=>(Below.heap_setCell w1 p u k (fun e=>by subst e;exact g (hp f))).trans (h.block k f g)⟩
theorem Turn.putObj (h:Turn S w w1) {r:Nat} (hp:r<w.heap.size ->S r) (o:Obj):Turn S w (w1.putObj r o):=
 ⟨h.os,h.tape,h.output,Nat.le_trans h.size (by simp),fun k f g=>(World.putObj_heap_other (fun e=>by subst e;exact g (hp f))).trans (h.block k f g)⟩
theorem Turn.grown (h:Turn S w w1) {row:Option Nat} (hg:w1.grownBy w2 row) (hr: ∀ k,row=some k ->k<w.heap.size ->S k):Turn S w w2:=
 ⟨hg.os.trans h.os,hg.tape.trans h.tape,hg.output.trans h.output,Nat.le_trans h.size hg.size,fun k f g=>(hg.block k (Nat.lt_of_lt_of_le f h.size) (fun e=>g (hr k e.symm f))).trans (h.block k f g)⟩
theorem Turn.toBelow (h:Turn S w w') {C:Nat} (hC:C<=w.heap.size) (hs: ∀ k,k<C -> ¬ S k):Below C w w':=
 ⟨h.os,h.tape,h.output,h.size,fun k f=>h.block k (by omega) (hs k f)⟩
theorem Below.toTurn {C:Nat} (h:Below C w w') (hs: ∀ k,C<=k ->k<w.heap.size ->S k):Turn S w w':=
 ⟨h.os,h.tape,h.output,h.size,fun k g j=>h.block k (Nat.lt_of_not_le fun f=>j (hs k f g))⟩
end
structure Step (S S':Nat ->Prop) (w w':World):Prop where
 turn:Turn S w w'
 sub: ∀ k,S k ->S' k
 new: ∀ k,S' k ->S k∨(w.heap.size<=k/\k<w'.heap.size)
theorem Step.same {S:Nat ->Prop} {w w':World} (h:Turn S w w'):Step S S w w':=⟨h,fun _ h=>h,fun _ h=> .inl h⟩
theorem Step.trans {S S' S'':Nat ->Prop} {w w1 w2:World} (h:Step S S' w w1) (k:Step S' S'' w1 w2):Step S S'' w w2:=
 ⟨h.turn.trans k.turn (fun i j n=>(h.new i n).resolve_right (by omega)),fun i j=>k.sub i (h.sub i j),fun i j=>by
   rcases k.new i j with f|f
   ·rcases h.new i f with g|g
    ·exact .inl g
    ·exact .inr ⟨g.1,Nat.lt_of_lt_of_le g.2 k.turn.size⟩
   ·exact .inr ⟨Nat.le_trans h.turn.size f.1,f.2⟩⟩
def Iter {α:Type} (P:Program) (g:Nat) (lb:Array Value) (encs:α ->Value) (xs:List α) (K T:Nat ->Prop) (w:World):Prop:=
 ∀ (l:Nat) (J Jx:List α ->(Nat ->Prop) ->World ->Prop) (W:World),Below w.heap.size w W ->J [] T W ->
   (∀ pre S S' W W',J pre S W ->Step S S' W W' ->J pre S' W') ->(∀ pre S S' W W',Jx pre S W ->Step S S' W W' ->Jx pre S' W') ->
   (∀ pre S x W,J pre S W ->pre++[x]<+:xs ->YieldAt Fence.wide 0 P l #[encs x] W fun e W'=>
     (e= .returned (.bool true)/\J (pre++[x]) S W'/\Turn (fun k=> ¬ K k/\ ¬ S k) W W')∨(e= .returned (.bool false)/\Jx (pre++[x]) S W'/\Turn (fun k=> ¬ K k/\ ¬ S k) W W')) ->
   CallsIn Fence.wide 0 P g (#[.func (.yield l) #[] #[]]++lb) W fun e W'=>(∃ v,e= .returned v)/\ ∃ S',J xs S' W'∨ ∃ pre,pre<+:xs/\Jx pre S' W'
def nE_ {α:Type} (I:List α ->(Nat ->Prop) ->World ->Prop) (Ix:Code ->List α ->(Nat ->Prop) ->World ->Prop) (K:Nat ->Prop) (S:Nat ->Prop) (xs:List α) (W:World):Exit ->Act ->World ->Prop
 | .normal,_,W'=>I xs S W'/\Turn (fun k=> ¬ K k/\ ¬ S k) W W'
 | .ret,_,W'=>Ix .ret xs S W'/\Turn (fun k=> ¬ K k/\ ¬ S k) W W'
 | .exit id,_,W'=>Ix (.exit id) xs S W'/\Turn (fun k=> ¬ K k/\ ¬ S k) W W'
 | .goto t,_,W'=>Ix (.goto t) xs S W'/\Turn (fun k=> ¬ K k/\ ¬ S k) W W'
 | .panic _,_,_=>False
 | .outgrown,_,_=>False
theorem dT_ {α:Type} {P:Program} {g:Operand} {p:Tmp} {assign body:Code} {Q:Exit ->Act ->World ->Prop} {a:Act} {w:World}
 {gf:Nat} {lb:Array Value} (hg:a.eval g= .func (.func gf) #[] lb) (eg: ∀ args w,(callFunc gf args).run P w= .ok (.enter gf args) w)
 {encs:α ->Value} {xs:List α} {K T:Nat ->Prop} {w0:World} (hit:Iter P gf lb encs xs K T w0) (hb0:Below w0.heap.size w0 w) (hK: ∀ k,K k ->k<w.heap.size) (hT: ∀ k,T k ->k<w.heap.size)
 (I:List α ->(Nat ->Prop) ->World ->Prop) (Ix:Code ->List α ->(Nat ->Prop) ->World ->Prop)
 (hI: ∀ pre S S' W W',I pre S W ->Step S S' W W' ->I pre S' W') (hIx: ∀ c pre S S' W W',Ix c pre S W ->Step S S' W W' ->Ix c pre S' W')
 (h0:I [] T w)
 (hbody: ∀ (l:Nat) (pre:List α) (x:α) (S:Nat ->Prop) (W:World),pre++[x]<+:xs ->I pre S W ->w.heap.size<=W.heap.size ->(∀ k,S k ->k<W.heap.size) ->
   assign.wpIn (Fence.wide.inRound l) 0 P (Exit.then (fun a1 W1=>Turn (fun k=> ¬ K k/\ ¬ S k) W W1/\ ∀ W2,Turn S W1 W2 ->W1.heap.size=W2.heap.size ->body.wpIn (Fence.wide.inRound l) 0 P (nE_ I Ix K S (pre++[x]) W2) a1 W2) (fun _ _ _=>False))
    {tmps:=a.tmps.setIfInBounds p (encs x),defers:=[]} W)
 (hdone: ∀ (D:Nat) (S:Nat ->Prop) (W:World),S D ->w.heap.size<=D ->I xs S W ->W.heap[D]?=some (.deferred (some [])) ->Q .normal {a with defers:={target:= .collected D,args:=#[]}::a.defers} W)
 (hstop: ∀ (D:Nat) (S:Nat ->Prop) (c:Code) (pre:List α) (W:World),S D ->w.heap.size<=D ->pre<+:xs ->Ix c pre S W ->W.heap[D]?=some (.deferred (some [])) ->c.wpIn Fence.wide 0 P Q {a with defers:={target:= .collected D,args:=#[]}::a.defers} W):
 (Code.rangeFunc g #[p] assign body).wpIn Fence.wide 0 P Q a w:=by
 refine wpIn_rangeFunc ?_;intro fn aP;obtain⟨n,y⟩: ∃ n:LoopState ->Option Code ->Loop,n=fun st pe=>{state:=st,pending:=pe,fn,tmps:=a.tmps,params:=#[p],assign,body,defers:=w.heap.size}:=⟨_,rfl⟩
 obtain⟨D,hD⟩: ∃ D,D=w.heap.size:=⟨_,rfl⟩
 obtain⟨L,hL⟩: ∃ L,L=w.heap.size+1:=⟨_,rfl⟩
 obtain⟨W1,U⟩:=e_ ((w.alloc (.deferred (some []))).alloc (.loop (n .ready none)));have aS:W1.heap.size=w.heap.size+2:=by rw [<-U];simp
 have aJ:W1.heap[L]?=some (.loop (n .ready none)):=by
  rw [<-U,hL];have:=World.alloc_heap_new (w.alloc (.deferred (some []))) (.loop (n .ready none));rwa [World.size_alloc] at this
 have aI:W1.heap[D]?=some (.deferred (some [])):=by
  rw [<-U,hD];exact(Below.heap_alloc _ _ _ (by simp)).trans (World.alloc_heap_new w _)
 have aQ:Turn T w W1:=by rw [<-U];exact((Turn.refl _ w).alloc _).alloc _
 have aF:Step T (fun k=>T k∨k=D∨k=L) w W1:=⟨aQ,fun _ h=> .inl h,fun k hk=>hk.imp id fun hk=>(by omega)⟩
 have aH:I [] (fun k=>T k∨k=D∨k=L) W1:=hI _ _ _ _ _ h0 aF;have aM:Below w0.heap.size w0 W1:=hb0.trans ((by rw [<-U];exact((Below.refl _ w).alloc hb0.size _).alloc (by simp;have:=hb0.size;omega) _:Below w0.heap.size w W1))
 refine⟨L,[{target:= .collected D,args:=#[]}],W1,{target:= .fn (.func gf) lb,args:=#[.func (.yield L) #[] #[]]},W1,gf,
  #[.func (.yield L) #[] #[]]++lb,W1,?_,?_,?_,?_,fun h=>by simp [Fence.wide] at h,?_⟩
 ·rw [<-U,y,hD,hL];exact run_enterLoop_outer _ _ _ _ _
 ·simp only [resolve,hg];simp [go_sem]
 ·intro f' _;trivial
 ·simp [invoke,go_sem,eg]
 ·refine(hit L
   (fun pre S W=>I pre (fun k=>S k∨k=D∨k=L) W/\W.heap[L]?=some (.loop (n .ready none))/\W.heap[D]?=some (.deferred (some []))/\ ¬ S D/\ ¬ S L/\ ∀ k,S k ->k<W.heap.size)
   (fun pre S W=> ∃ c,Ix c pre (fun k=>S k∨k=D∨k=L) W/\W.heap[L]?=some (.loop (n .done (some c)))/\W.heap[D]?=some (.deferred (some []))/\ ¬ S D/\ ¬ S L)
   W1 aM ⟨aH,aJ,aI,fun h=>by have:=hT _ h;omega,fun h=>by have:=hT _ h;omega,fun k h=>by have:=hT _ h;omega⟩ ?_ ?_ ?_).mono ?_
  ·rintro pre S S' W W' ⟨s,X,b,z,q,hS⟩ j;have Z:=(Array.getElem?_eq_some_iff.1 X).1;have Y:=(Array.getElem?_eq_some_iff.1 b).1;refine⟨hI _ _ _ _ _ s ⟨j.turn.mono fun k _ h=> .inl h,fun k h=>h.imp (j.sub k) id,fun k h=>?_⟩,(j.turn.block L Z q).trans X,(j.turn.block D Y z).trans b,fun h=>?_,fun h=>?_,fun k hk=>?_⟩
   ·rcases h with h|h
    ·rcases j.new k h with h|h
     ·exact .inl (.inl h)
     ·exact .inr h
    ·exact .inl (.inr h)
   ·rcases j.new D h with h|h
    ·exact z h
    ·omega
   ·rcases j.new L h with h|h
    ·exact q h
    ·omega
   ·rcases j.new k hk with h|h
    ·have:=hS k h;have:=j.turn.size;omega
    ·exact h.2
  ·rintro pre S S' W W' ⟨c,s,X,b,z,q⟩ j;have Z:=(Array.getElem?_eq_some_iff.1 X).1;have Y:=(Array.getElem?_eq_some_iff.1 b).1;refine⟨c,hIx _ _ _ _ _ _ s ⟨j.turn.mono fun k _ h=> .inl h,fun k h=>h.imp (j.sub k) id,fun k h=>?_⟩,(j.turn.block L Z q).trans X,(j.turn.block D Y z).trans b,fun h=>?_,fun h=>?_⟩
   ·rcases h with h|h
    ·rcases j.new k h with h|h
     ·exact .inl (.inl h)
     ·exact .inr h
    ·exact .inl (.inr h)
   ·rcases j.new D h with h|h
    ·exact z h
    ·omega
   ·rcases j.new L h with h|h
    ·exact q h
    ·omega
  ·
   rintro pre S x W ⟨s,X,b,z,q,hS⟩ d;have Z:=(Array.getElem?_eq_some_iff.1 X).1;have Y:=(Array.getElem?_eq_some_iff.1 b).1;have aK:w.heap.size<=W.heap.size:=by omega
   have aC: ¬ K L:=fun h=>by have:=hK _ h;omega
   have hy:=run_yield (P:=P) (args:=#[encs x]) X (by rw [y];rfl);rw [y] at hy;have aR:(Instr.yield L #[encs x]).run P W= .ok (.round L fn (a.tmps.setIfInBounds p (encs x)) assign body) W:=by rw [hy];simp
   refine⟨fn,_,assign,body,aR,roundIn_of_wpIn aP (wpIn_mono (hbody L pre x _ W d s aK (fun k h=>h.elim (hS k) fun h=>h.elim (fun h=>h ▸ Y) fun h=>h ▸ Z)) ?_)⟩;rintro e a1 W2 hq
   cases e with
   |normal=>
    obtain⟨aD,aN⟩:=hq;have e2: ∀ k,k<W.heap.size ->(S k∨k=D∨k=L) ->W2.heap[k]?=W.heap[k]?:=fun k hk h=>aD.block k hk fun h'=>h'.2 h;have aE:=(e2 L Z (.inr (.inr rfl))).trans X;have aO:=(e2 D Y (.inr (.inl rfl))).trans b;refine⟨_,run_beginRound aE (by rw [y]),?_⟩;have aG:L<W2.heap.size:=(Array.getElem?_eq_some_iff.1 aE).1;have aB:(W2.putObj L (.loop {n .ready none with state:= .busy})).heap[L]?=some (.loop {n .ready none with state:= .busy}):=World.putObj_heap_same aG;have aA:(W2.putObj L (.loop {n .ready none with state:= .busy})).heap[D]?=some (.deferred (some [])):=(World.putObj_heap_other (by omega)).trans aO;obtain⟨W3,r⟩:=e_ (W2.putObj L (.loop {n .ready none with state:= .busy}));rw [r] at aB aA ⊢
    have aL:Turn (fun k=> ¬ K k/\ ¬ S k) W W3:=by
     rw [<-r];exact(aD.mono (fun k _ h=>⟨h.1,fun hs=>h.2 (.inl hs)⟩)).putObj (fun _=>⟨aC,q⟩) _
    have i: ∀ (f:Option Code) (N:World),Turn (fun k=> ¬ K k/\ ¬ (S k∨k=D∨k=L)) W3 N ->
     (Instr.endRound L f).run P N= .ok (.bool f.isNone) (N.putObj L (.loop (n (if f.isNone then .ready else .done) f)))/\
     (N.putObj L (.loop (n (if f.isNone then .ready else .done) f))).heap[L]?=some (.loop (n (if f.isNone then .ready else .done) f))/\
     (N.putObj L (.loop (n (if f.isNone then .ready else .done) f))).heap[D]?=some (.deferred (some []))/\
     Turn (fun k=> ¬ K k/\ ¬ S k) W (N.putObj L (.loop (n (if f.isNone then .ready else .done) f)))/\
     Step (fun k=>S k∨k=D∨k=L) (fun k=>S k∨k=D∨k=L) N (N.putObj L (.loop (n (if f.isNone then .ready else .done) f))):=fun f N hT=>by
     have G:=(hT.block L (Array.getElem?_eq_some_iff.1 aB).1 (fun h'=>h'.2 (.inr (.inr rfl)))).trans aB;have J:=(hT.block D (Array.getElem?_eq_some_iff.1 aA).1 (fun h'=>h'.2 (.inr (.inl rfl)))).trans aA;have:=run_endRound (P:=P) f G;rw [y] at this ⊢
     exact⟨this,World.putObj_heap_same (Array.getElem?_eq_some_iff.1 G).1,(World.putObj_heap_other (by omega)).trans J,
      (aL.trans hT (fun k _ h=>⟨h.1,fun hs=>h.2 (.inl hs)⟩)).putObj (fun _=>⟨aC,q⟩) _,.same ((Turn.refl _ N).putObj (fun _=> .inr (.inr rfl)) _)⟩
    refine wpIn_mono (aN W3 (by rw [<-r];exact(Turn.refl _ W2).putObj (fun _=> .inr (.inr rfl)) _) (by rw [<-r];simp)) ?_;rintro e a3 N hp
    cases e with
    |normal=>
     obtain⟨R,hT⟩:=hp;obtain⟨hr,G,J,M,F⟩:=i none N hT;exact⟨_,_,hr,.inl ⟨rfl,⟨hI _ _ _ _ _ R F,G,J,z,q,fun k hk=>Nat.lt_of_lt_of_le (hS k hk) M.size⟩,M⟩⟩
    |ret=>
     obtain⟨R,hT⟩:=hp;obtain⟨hr,G,J,M,F⟩:=i (some .ret) N hT;exact⟨_,_,hr,.inr ⟨rfl,⟨_,hIx _ _ _ _ _ _ R F,G,J,z,q⟩,M⟩⟩
    |exit id=>
     obtain⟨R,hT⟩:=hp;obtain⟨hr,G,J,M,F⟩:=i (some (.exit id)) N hT;exact⟨_,_,hr,.inr ⟨rfl,⟨_,hIx _ _ _ _ _ _ R F,G,J,z,q⟩,M⟩⟩
    |goto t=>
     obtain⟨R,hT⟩:=hp;obtain⟨hr,G,J,M,F⟩:=i (some (.goto t)) N hT;exact⟨_,_,hr,.inr ⟨rfl,⟨_,hIx _ _ _ _ _ _ R F,G,J,z,q⟩,M⟩⟩
    |panic ch=>exact hp.elim
    |outgrown=>exact hp.elim
   |exit id=>exact hq.elim
   |goto t=>exact hq.elim
   |ret=>exact hq.elim
   |panic ch=>exact hq.elim
   |outgrown=>exact hq.elim
  ·
   rintro e W2 ⟨⟨v,rfl⟩,S',(⟨s,X,b,z,q,_⟩|⟨pre,d,c,s,X,b,z,q⟩)⟩
   ·have he:=run_endLoop (P:=P) X (by rw [y];simp);rw [y] at he;exact⟨none,_,he,hdone D _ _ (.inr (.inl rfl)) (by omega) (hI _ _ _ _ _ s (.same ((Turn.refl _ W2).putObj (fun _=> .inr (.inr rfl)) _))) ((World.putObj_heap_other (by omega)).trans b)⟩
   ·have he:=run_endLoop (P:=P) X (by rw [y];simp);rw [y] at he;exact⟨some c,_,he,hstop D _ c pre _ (.inr (.inl rfl)) (by omega) d (hIx _ _ _ _ _ _ s (.same ((Turn.refl _ W2).putObj (fun _=> .inr (.inr rfl)) _))) ((World.putObj_heap_other (by omega)).trans b)⟩
theorem lV_ (w:World) (cs:List Value) (t:TypeId): ∀ j u,cs[j]?=some u ->(w.alloc (.cells cs.toArray t)).cell? ((⟨w.heap.size,0,none⟩:Addr).add j)=some u:=by
 intro j u h;have e:(⟨w.heap.size,0,none⟩:Addr).add j=⟨w.heap.size,j,none⟩:=by unfold Addr.add;split<;>simp_all
 rw [e,cell_of_row _ _ _ _ _ _ (heap_alloc_new w _)];simpa using h
theorem a7_ {α:Type} {P:Program} {enc:α ->List Value} {t e:TypeId} {z:Value} {size bytes:Nat} (ht:P.underlying t=some (.slice e))
 (hi:(P.info? e).map (fun i=>(i.zero,i.size,i.bytes))=some (some z,size,bytes)) (hzs:z.cells.size=size) (hsz:0<size) (hes: ∀ x,(enc x).length =size) (h1: ∀ x, ∀ u∈enc x,u.oneCell'=true)
 (w:World) (base:Nat) (v:Value) (l:List α) (x:α) (hown:w.ownsRow base e size v l.length (l.flatMap enc)) (hlen:l.length+1<=1099511627776) (hb:bytes<=127) (hbase:base<=w.heap.size):
 ∃ g c w',(Builtin.append_ #[t,t] t #[v,.slice (some ⟨w.heap.size,0,none⟩) 1 1]).run P (w.alloc (.cells (enc x).toArray e))= .ok (.slice (some ⟨g,0,none⟩) (l.length+1) c) w'/\
   w'.ownsRow base e size (.slice (some ⟨g,0,none⟩) (l.length+1) c) (l++[x]).length ((l++[x]).flatMap enc)/\(w.alloc (.cells (enc x).toArray e)).grownBy w' v.ownBlock/\(v.ownBlock=some g∨g=w.heap.size+1):=by
 obtain⟨i,hi,n,p,q⟩:=info_parts hi
 obtain⟨v',w',F,y,D,_,f⟩:=run_append_own_at (P:=P) (w.alloc (.cells (enc x).toArray e)) base t t e i z size bytes ht hi n p q hzs hsz v l.length _ (hown.alloc _)
  ⟨w.heap.size,0,none⟩ 1 1 (enc x) (by rw [hes,Nat.one_mul]) (lV_ w (enc x) e) (h1 x) (by rw [ce_];omega)
  (Nat.le_trans (Nat.mul_le_mul hlen hb) (by decide)) (by simp;omega)
 rcases y.2 with⟨_,h0⟩|⟨g,j,aA,rfl,hg⟩
 ·omega
 ·refine⟨g,j,w',F,by simpa [List.flatMap_append] using y,D,?_⟩;rcases f with f|f
  ·exact .inl f.symm
  ·simp [Value.ownBlock] at f;exact .inr f
theorem cZ_ {F:Fence} {n:Nat} {P:Program} {w:World} {ops:Array Oper} {rest:List Oper} {o:Oper} {a:Act} {Q:Exit ->Act ->World ->Prop}
 (hg:o.guard=none) (s x:Operand) (t:TypeId) (hop:o.op=Op.call {callee:=Callee.builtin Builtin.append,args:=#[s,x],argTypes:=#[t,t]}) {v u v':Value} {w':World}
 (hs:a.eval s=v) (hx:a.eval x=u) (hrun:(Builtin.append_ #[t,t] o.type #[v,u]).run P w= .ok v' w') (hK:wpListIn F n P ops Q rest (a.put o.dst v') w'):wpListIn F n P ops Q (o::rest) a w:=by
 refine wpListIn_plain hg fun K f=>?_;unfold Oper.wpIn;refine⟨?_,?_⟩
 ·simp [Oper.about,hop,resolve,Target.leads,Sem.run_pure]
 ·rw [Oper.semAt_plain F _ _ (by rw [hop];intro c g;cases g)];simp [execOp,hop,resolve,invoke,builtin,hs,hx,hrun,Result.andThen];exact f _ _ hK
theorem cH_ {P:Program} {w:World} {ops:Array Oper} {rest:List Oper} {o:Oper} {a:Act} {Q:Exit ->Act ->World ->Prop}
 (hg:o.guard=none) (s x:Operand) (t:TypeId) (hop:o.op=Op.call {callee:=Callee.builtin Builtin.append,args:=#[s,x],argTypes:=#[t,t]}) {v u v':Value} {w':World}
 (hs:a.eval s=v) (hx:a.eval x=u) (hrun:(Builtin.append_ #[t,t] o.type #[v,u]).run P w= .ok v' w') (hK:wpList P ops Q rest (a.put o.dst v') w'):wpList P ops Q (o::rest) a w:=by
 refine wpList_plain hg fun K f=>?_;unfold Oper.wp execOp;simp only [hop,resolve,invoke,builtin,Sem.run_bind,Sem.run_pure,Result.andThen_ok,List.map_toArray,List.map_cons,List.map_nil,hs,hx,hrun];exact f _ _ hK
theorem ap_ {P:Program} {w:World} {ops:Array Oper} {rest:List Oper} {o:Oper} {a:Act} {Q:Exit ->Act ->World ->Prop} (s x:Operand) (t:TypeId) {v u v':Value} {w':World} (hrun:(Builtin.append_ #[t,t] o.type #[v,u]).run P w= .ok v' w') (hK:wpList P ops Q rest (a.put o.dst v') w') (hg:o.guard=none:=by rfl) (hop:o.op=Op.call {callee:=Callee.builtin Builtin.append,args:=#[s,x],argTypes:=#[t,t]}:=by rfl) (hs:a.eval s=v:=by rfl) (hx:a.eval x=u:=by rfl):wpList P ops Q (o::rest) a w:=cH_ hg s x t hop hs hx hrun hK
theorem i7_ {α:Type} {P:Program} {enc:α ->List Value} {t e:TypeId} {z:Value} {size bytes:Nat} (ht:P.underlying t=some (.slice e))
 (hi:(P.info? e).map (fun i=>(i.zero,i.size,i.bytes))=some (some z,size,bytes)) (hzs:z.cells.size=size) (hsz:0<size) (hes: ∀ x,(enc x).length =size) (h1: ∀ x, ∀ u∈enc x,u.oneCell'=true)
 {B:Nat} {w wr:World} {v:Value} {l:List α} (x:α) (hown:wr.ownsRow B e size v l.length (l.flatMap enc)) (hlen:l.length+1<=1099511627776) (hby:bytes<=127) (hb:Below B w wr) (hB:B<=wr.heap.size) (nq:Nat):
 ∃ g c w1,(Builtin.append_ #[t,t] t #[v,.slice (some ⟨wr.heap.size,0,none⟩) 1 1]).run P ((wr.drewN nq).alloc (.cells (enc x).toArray e))= .ok (.slice (some ⟨g,0,none⟩) (l.length+1) c) w1/\
   w1.ownsRow B e size (.slice (some ⟨g,0,none⟩) (l.length+1) c) (l.length+1) ((l++[x]).flatMap enc)/\Below B w w1/\wr.heap.size<w1.heap.size/\((wr.drewN nq).alloc (.cells (enc x).toArray e)).grownBy w1 v.ownBlock/\(v.ownBlock=some g∨g=wr.heap.size+1):=by
 obtain⟨g,c,w1,j,n,f,q⟩:=a7_ (enc:=enc) ht hi hzs hsz hes h1 (wr.drewN nq) B v l x hown hlen hby hB;have p:Below B w ((wr.drewN nq).alloc (.cells (enc x).toArray e)):=Below.alloc (w:=wr.drewN nq) ⟨hb.os,hb.tape,hb.output,hb.size,hb.block⟩ hB _;refine⟨g,c,w1,j,by simpa using n,p.grown f (by simp;omega) (fun k y=>(hown.lt k y).1),?_,f,q⟩;have:=f.size;simp at this;omega
theorem Rd.src {α:Type} {w:World} {size n:Nat} {enc:α ->List Value} {A:Option Addr} {l:List α} (h:Rd w size enc A n l) (hes: ∀ x,(enc x).length =size) (hsz:0<size) {a:Addr} (hA:A=some a):
 ∀ j u,(l.flatMap enc)[j]?=some u ->w.cell? (a.add j)=some u:=by
 intro j u p
 have aA:(l.flatMap enc).length =l.length*size:=by
  clear h p
  induction l with
  |nil=>simp
  |cons x r ih=>rw [List.flatMap_cons,List.length_append,hes,ih,List.length_cons,Nat.succ_mul];omega
 have y:j<l.length*size:=by
  obtain⟨y,_⟩:=List.getElem?_eq_some_iff.1 p;omega
 have z:j / size<l.length:=Nat.div_lt_of_lt_mul (by rw [Nat.mul_comm];exact y);have L:0<n:=by have:=h.len;have:=Nat.zero_le (j / size);rw [<-h.len];exact Nat.lt_of_le_of_lt this z
 obtain⟨b,o,e,hb,J⟩:=h.cells L;rw [hA] at e;cases e;have f:j % size<size:=Nat.mod_lt _ hsz;have D:=List.getElem?_eq_getElem z;have F:(enc l[j / size])[j % size]?=some ((enc l[j / size])[j % size]'(by rw [hes];exact f)):=List.getElem?_eq_getElem (by rw [hes];exact f);have q:=a8_ hes l _ _ D _ _ F;have g:j / size*size+j % size=j:=by rw [Nat.mul_comm];exact Nat.div_add_mod j size
 rw [g,p] at q;cases q;have:=J _ _ D _ _ F;rw [show o+j / size*size+j % size=o+j by omega] at this;unfold Addr.add;split
 ·rename_i G;subst G;simpa using this
 ·exact this
theorem hf_ {P:Program} {t e:TypeId} {i:TypeInfo} {base size:Nat} (ht:P.underlying t=some (.slice e)) (hi:P.info? e=some i) (w:World)
 (v:Value) (n:Nat) (xs:List Value) (hown:w.ownsRow base e size v n xs) (c:Nat):(Builtin.append_ #[t,t] t #[v,.slice none 0 c]).run P w= .ok v w:=by
 rcases hown.2 with⟨rfl,rfl⟩|⟨g,aA,aB,rfl,_,_,f,_⟩
 ·simp [Builtin.append_,run_underlying ht,sizeOf,typeInfo,hi,Builtin.lenOf,Builtin.firstCells]
 ·simp [Builtin.append_,run_underlying ht,sizeOf,typeInfo,hi,Builtin.lenOf,Builtin.firstCells,f,storeCells]
theorem a9_ {α:Type} {P:Program} {enc:α ->List Value} {t e:TypeId} {z:Value} {size bytes:Nat} (ht:P.underlying t=some (.slice e))
 (hi:(P.info? e).map (fun i=>(i.zero,i.size,i.bytes))=some (some z,size,bytes)) (hzs:z.cells.size=size) (hsz:0<size) (hes: ∀ x,(enc x).length =size) (h1: ∀ x, ∀ u∈enc x,u.oneCell'=true)
 {base:Nat} {w:World} {v:Value} {l r:List α} {A:Option Addr} {m:Nat} (c:Nat) (hown:w.ownsRow base e size v l.length (l.flatMap enc)) (hr:Rd w size enc A m r) (hlen:l.length+m<=1099511627776) (hby:bytes<=127) (hB:base<=w.heap.size):
 ∃ v' w1,(Builtin.append_ #[t,t] t #[v,.slice A m c]).run P w= .ok v' w1/\w1.ownsRow base e size v' (l.length+m) ((l++r).flatMap enc)/\w.grownBy w1 v.ownBlock/\(v'.ownBlock=v.ownBlock∨v'.ownBlock=some w.heap.size):=by
 obtain⟨i,hi,n,p,q⟩:=info_parts hi
 have f:(r.flatMap enc).length =m*size:=by
  rw [<-hr.len];clear hr hlen
  induction r with
  |nil=>simp
  |cons x r ih=>rw [List.flatMap_cons,List.length_append,hes,ih,List.length_cons,Nat.succ_mul];omega
 rcases A with _|a
 ·have G:m=0:=by
   rcases Nat.eq_zero_or_pos m with j|j
   ·exact j
   ·obtain⟨b,o,h,_⟩:=hr.cells j;cases h
  subst G;obtain rfl:r=[]:=List.eq_nil_of_length_eq_zero hr.len;exact⟨v,w,hf_ ht hi w v _ _ hown c,by simpa using hown,World.grownBy.refl w _,.inl rfl⟩
 ·obtain⟨v',M,g,y,D,_,F⟩:=run_append_own_at (P:=P) w base t t e i z size bytes ht hi n p q hzs hsz v l.length _ hown a m c (r.flatMap enc) f (hr.src hes hsz rfl)
   (fun u J=>by obtain⟨x,_,L⟩:=List.mem_flatMap.1 J;exact h1 x u L) (by rw [ce_];omega) (Nat.le_trans (Nat.mul_le_mul hlen hby) (by decide)) hB
  exact⟨v',M,g,by rw [List.flatMap_append];exact y,D,F⟩
theorem bW_ (w:World) (base:Nat) (e:TypeId) (size:Nat) (hb:base<=w.heap.size):(w.alloc (.cells #[] e)).ownsRow base e size (.slice (some ⟨w.heap.size,0,none⟩) 0 0) 0 []:=
 World.ownsRow_made w #[] 0 hb (Nat.zero_le _) (by simp)
def az_ (t:Int×Int×Int):List Value:=[.int .i64 t.1,.int .i64 t.2.1,.int .i64 t.2.2]
theorem b9_ (t:Int×Int×Int):(az_ t).length =3:=rfl
theorem eI_ (x:Int×Int×Int): ∀ u∈az_ x,u.oneCell'=true:=fun u f=>by simp [az_] at f;rcases f with rfl|rfl|rfl<;>rfl
theorem Rd.trip {w:World} {n k:Nat} {A:Option Addr} {l:List (Int×Int×Int)} (h:Rd w 3 az_ A n l) (hk:k<n): ∃ b o x y z,A=some ⟨b,o,none⟩/\b<w.heap.size/\l[k]?=some (x,y,z)/\
 w.cell? ⟨b,o+k*3,none⟩=some (.int .i64 x)/\w.cell? ⟨b,o+k*3+1,none⟩=some (.int .i64 y)/\w.cell? ⟨b,o+k*3+2,none⟩=some (.int .i64 z):=by
 obtain⟨b,o,rfl,j,g⟩:=h.cells (by omega);have p:k<l.length:=by rw [h.len];exact hk
 have f:l[k]?=some l[k]:=List.getElem?_eq_getElem p;exact⟨b,o,l[k].1,l[k].2.1,l[k].2.2,rfl,j,f,g k _ f 0 _ rfl,g k _ f 1 _ rfl,g k _ f 2 _ rfl⟩
theorem hu_ {P:Program} {id:Nat} {Q:Exit ->Act ->World ->Prop} {a:Act} {w:World} {l:List Oper} (N:Nat) (hm:P.follows .mixedOrders =true) (hB:Region.lexB .any l.toArray=true)
 (h: ∀ C:World ->Prop,(C=fun w'=>Below N w w') ->wpQuiet P l.toArray C (fun a'=> ∀ w',Below N w w' ->Q .normal a' w') l a):(Code.region id l.toArray true).wp P Q a w:=
 wp_region_quiet (C:=fun w'=>Below N w w') hm hB ⟨rfl,rfl,rfl,Nat.le_refl _,fun _ _=>rfl⟩ (by simpa using h _ rfl)
structure Box3 (w:World) (b:Nat) (f v n:Int):Prop where
 lt:b<w.heap.size
 c0:w.cell? ⟨b,0,none⟩=some (.int .i64 f)
 c1:w.cell? ⟨b,1,none⟩=some (.int .i64 v)
 c2:w.cell? ⟨b,2,none⟩=some (.int .i64 n)
structure Rel (R:World ->World ->Prop):Prop where
 refl: ∀ w,R w w
 trans: ∀ a b c,R a b ->R b c ->R a c
 draw: ∀ w:World,R w {w with drawn:=w.drawn+1}
section
variable {P:Program} {R:World ->World ->Prop}
def upd (x:Nat ->Value) (i:Nat) (v:Value):Nat ->Value:=fun k=>if k=i then v else x k
def bK_ (ops:Array Oper) (listed:Array Bool):List Nat:=(List.range ops.size).filter fun i=> !listed.getD i true
theorem jr_ {ops:Array Oper} {listed:Array Bool} {i:Nat} (hi:i<ops.size) (hu:listed.getD i true=false):(bK_ ops (listed.setIfInBounds i true)).length <(bK_ ops listed).length :=by
 have f:(bK_ ops (listed.setIfInBounds i true)).Sublist (bK_ ops listed):=by
  have e:bK_ ops (listed.setIfInBounds i true)=(bK_ ops listed).filter fun k=> !(listed.setIfInBounds i true).getD k true:=by
   unfold bK_;rw [List.filter_filter];refine List.filter_congr fun k _=>?_;by_cases e:i=k
   ·subst e;simp [hu]
   ·rw [getD_set_ne true e];simp
  rw [e];exact List.filter_sublist
 refine Nat.lt_of_le_of_ne f.length_le fun e=>?_;have g:=f.eq_of_length e;have m:i∈bK_ ops listed:=by unfold bK_;rw [List.mem_filter,List.mem_range];exact⟨hi,by simp [hu]⟩
 rw [<-g] at m;unfold bK_ at m;rw [List.mem_filter] at m
 have j:i<listed.size:=by
  rcases Nat.lt_or_ge i listed.size with h|h
  ·exact h
  ·simp [Array.getElem?_eq_none h] at hu
 simp [j] at m
def aA_ (x:Nat ->Value):Nat ->List Oper ->Array Value ->Array Value
 |_,[],t=>t
 |i,o::r,t=>aA_ x (i+1) r (match o.dst with|some d=>t.setIfInBounds d (x i)|none=>t)
def e4_:List Oper ->Bool
 |[]=>true
 |o::r=>(match o.dst with|some d=>r.all fun p=>p.dst !=some d|none=>true)&&e4_ r
theorem fo_ {x:Nat ->Value} {d:Nat} {v:Value}: ∀ (l:List Oper) (i:Nat) (t:Array Value),(∀ p∈l,p.dst≠some d) ->(aA_ x i l t).setIfInBounds d v=aA_ x i l (t.setIfInBounds d v)
 |[],_,_,_=>rfl
 |o::r,i,t,h=>by
  unfold aA_;rw [fo_ r (i+1) _ fun p hp=>h p (List.mem_cons_of_mem _ hp)]
  cases hd:o.dst with
  |none=>rfl
  |some e=>
   have:e≠d:=fun f=>h o List.mem_cons_self (by rw [hd,f]);simp only;rw [Array.setIfInBounds_comm _ _ this]
theorem hk_ {x:Nat ->Value} {v:Value} {i:Nat}: ∀ (l:List Oper) (k:Nat) (t:Array Value),(∀ j,k<=j ->j<k+l.length ->j≠i) ->aA_ (upd x i v) k l t=aA_ x k l t
 |[],_,_,_=>rfl
 |o::r,k,t,h=>by
  unfold aA_;have e:upd x i v k=x k:=if_neg (h k (Nat.le_refl _) (by simp));rw [e];exact hk_ r (k+1) _ fun j h1 f=>h j (by omega) (by simp at f ⊢;omega)
theorem hj_ {x:Nat ->Value} {v:Value} {o:Oper}: ∀ (l:List Oper) (k i:Nat) (t:Array Value),e4_ l=true ->l[i]?=some o ->
 (match o.dst with|some d=>(aA_ x k l t).setIfInBounds d v|none=>aA_ x k l t)=aA_ (upd x (k+i) v) k l t
 |[],_,i,_,_,ho=>by simp at ho
 |p::r,k,i,t,hd,ho=>by
  unfold e4_ at hd;rw [Bool.and_eq_true] at hd
  cases i with
  |zero=>
   simp at ho;subst ho;unfold aA_;rw [hk_ r (k+1) _ fun j h1 h2=>by omega]
   cases hp:p.dst with
   |none=>rfl
   |some d=>
    simp only
    rw [fo_ r _ _ fun q hq=>by
     have h1:=hd.1;rw [hp] at h1;have:=(List.all_eq_true.1 h1) q hq;simpa using this]
    simp [upd]
  |succ i=>
   have h2:=hj_ (x:=x) (v:=v) r (k+1) i (match p.dst with|some d=>t.setIfInBounds d (x k)|none=>t) hd.2 (by simpa using ho);unfold aA_;rw [h2,show k+1+i=k+(i+1) by omega];have e:upd x (k+(i+1)) v k=x k:=if_neg (by omega);rw [e]
theorem hi_: ∀ (l:List Oper) (k:Nat) (t t0:Array Value) (x:Nat ->Value),(∀ i o d,l[i]?=some o ->o.dst=some d ->x (k+i)=t.getD d undef) ->aA_ x k l t=t
 |[],_,_,_,_,_=>rfl
 |o::r,k,t,t0,x,h=>by
  unfold aA_
  have e:(match o.dst with|some d=>t.setIfInBounds d (x k)|none=>t)=t:=by
   cases g:o.dst with
   |none=>rfl
   |some d=>
    simp only;have:=h 0 o d rfl g;rw [Nat.add_zero] at this;rw [this];refine Array.ext_getElem? fun i=>?_;rw [Array.getElem?_setIfInBounds];split
    ·rename_i j;subst j;by_cases f:d<t.size
     ·rw [if_pos f];simp [Array.getD,f]
     ·rw [if_neg f,Array.getElem?_eq_none (Nat.le_of_not_lt f)]
    ·rfl
  rw [e];exact hi_ r (k+1) t t0 x fun i p d n g=>by have:=h (i+1) p d (by simpa using n) g;rwa [show k+(i+1)=k+1+i by omega] at this
def f5_ (d:Nat):Nat ->List Oper ->Option Nat
 |_,[]=>none
 |i,o::r=>if o.dst=some d then some i else f5_ d (i+1) r
theorem eR_ {x:Nat ->Value}: ∀ (l:List Oper) (i:Nat) (t:Array Value),(aA_ x i l t).size =t.size
 |[],_,_=>rfl
 |o::r,i,t=>by
  unfold aA_;rw [eR_ r];cases o.dst<;>simp
def fE_ (n:Nat) (l:List Oper):Bool:=l.all fun o=>match o.dst with|some d=>decide (d<n)|none=>true
theorem eQ_ {x:Nat ->Value} {d:Nat}: ∀ (l:List Oper) (i:Nat) (t:Array Value),e4_ l=true ->fE_ t.size l=true ->
 (aA_ x i l t).getD d undef=match f5_ d i l with|some k=>x k|none=>t.getD d undef
 |[],_,_,_,_=>rfl
 |o::r,i,t,h,hn=>by
  unfold e4_ at h;unfold fE_ at hn;rw [Bool.and_eq_true] at h;rw [List.all_cons,Bool.and_eq_true] at hn;unfold aA_ f5_;by_cases e:o.dst=some d
  ·rw [if_pos e];simp only [e];have h1:=h.1;rw [e] at h1;rw [<-fo_ r _ _ fun p z=>by have:=List.all_eq_true.1 h1 p z;simpa using this];have f:=hn.1;rw [e] at f;have f:d<t.size:=of_decide_eq_true f;have n:d<((aA_ x (i+1) r t).setIfInBounds d (x i)).size :=by rw [Array.size_setIfInBounds,eR_];exact f
   unfold Array.getD;rw [dif_pos n];simp
  ·rw [if_neg e]
   have q:fE_ (match o.dst with|some d=>t.setIfInBounds d (x i)|none=>t).size r=true:=by
    have:(match o.dst with|some d=>t.setIfInBounds d (x i)|none=>t).size =t.size:=by cases o.dst<;>simp
    rw [this];exact hn.2
   rw [eQ_ r (i+1) _ h.2 q]
   cases f5_ d (i+1) r with
   |some k=>rfl
   |none=>
    simp only
    cases y:o.dst with
    |none=>rfl
    |some d'=>
     have g:d'≠d:=fun j=>e (by rw [y,j]);simp only [Array.getD_eq_getD_getElem?];rw [Array.getElem?_setIfInBounds_ne g]
def evX (base:Act) (ops:List Oper) (x:Nat ->Value):Operand ->Value
 | .tmp d=>match f5_ d 0 ops with|some k=>x k|none=>base.tmps.getD d undef
 |t=>base.eval t
def e0_ (o:Oper) (x:Nat ->Value):Bool:=Region.wanted o fun j=>match x j with| .bool b=>some b|_=>none
def kk_ (n:Nat) (ops:List Oper):Bool:=ops.all fun o=>match o.guard with|none=>true|some (g,_)=>(match(ops[g]?).bind (·.dst) with|some d=>decide (d<n)&&(f5_ d 0 ops==some g)|none=>false)
def dc_ (P:Program) (K:Value ->World ->Prop):Result Next ->Prop
 | .ok (.value v) w'=>K v w'
 | .ok .skip w'=>K undef w'
 | .ok (.enter f args) w'=>Calls P f args w' fun e w''=> ∃ v,e= .returned v/\K v w''
 |_=>False
theorem dc_.wp {P:Program} {o:Oper} {a:Act} {w:World} {K:Act ->World ->Prop} {Q:Exit ->Act ->World ->Prop} (h:dc_ P (fun v w'=>K (a.put o.dst v) w') ((execOp a.eval o).run P w)):o.wp P a w K Q:=by
 unfold Oper.wp;generalize (execOp a.eval o).run P w=r at*
 cases r with
 |ok n w'=>
  cases n<;>simp only [dc_] at h<;>simp only [Oper.upon]
  case value=>exact h
  case skip=>exact h
  case enter=>exact h.mono fun e aA ⟨v,f,g⟩=>by subst f;exact g
 |halt x w'=>simp only [dc_] at h
def look {α:Type} (k:Nat):List (Nat×α) ->Option α
 |[]=>none
 |(i,J)::r=>if i=k then some J else look k r
section
variable {w0:World} {base:Act} {ops:List Oper} {F:(Nat ->Value) ->World ->Prop} {n:Nat} {I:List (Nat×(Value ->World ->Prop))} {o:Oper} {rest:List Oper}
theorem js_ {x:Nat ->Value} (h:o.guard=none):e0_ o x=true:=by unfold e0_ Region.wanted;rw [h]
end
end
section
variable {P:Program} {G:(Nat ->Bool) ->(Nat ->Value) ->World ->Prop}
def updB (l:Nat ->Bool) (i:Nat):Nat ->Bool:=fun k=>if k=i then true else l k
def f2_ (G:(Nat ->Bool) ->(Nat ->Value) ->World ->Prop) (P:Program) (base:Act) (ops:List Oper) (n:Nat) (o:Oper) (D:(Nat ->Value) ->Prop) (J:Value ->Prop):Prop:=
 ∀ (l:Nat ->Bool) (x:Nat ->Value) (w:World) (ev:Operand ->Value),G l x w ->D x ->l n=false ->(∀ e∈o.after.toList,Region.binds .any e=true ->l e.on=true) ->(∀ t,ev t=evX base ops x t) ->
   ∀ K:Value ->World ->Prop,(∀ v w',J v ->G (updB l n) (upd x n v) w' ->K v w') ->if e0_ o x then dc_ P K ((execOp ev o).run P w) else K undef w
def e2_ (I:List (Nat×(Value ->Prop))) (es:List Edge) (x:Nat ->Value):Prop:= ∀ e∈es,Region.binds .any e=true -> ∀ J,look e.on I=some J ->J (x e.on)
def c1_ (G:(Nat ->Bool) ->(Nat ->Value) ->World ->Prop) (P:Program) (base:Act) (ops:List Oper) (F:(Nat ->Value) ->World ->Prop):Nat ->List (Nat×(Value ->Prop)) ->List Oper ->Prop
 |_,I,[]=> ∀ x w,G (fun _=>true) x w ->(∀ (i:Nat) (J:Value ->Prop),look i I=some J ->J (x i)) ->F x w
 |n,I,o::rest=> ∃ J:Value ->Prop,f2_ G P base ops n o (e2_ I o.after.toList) J/\c1_ G P base ops F (n+1) ((n,J)::I) rest
theorem g5_ {base:Act} {ops:List Oper} {F:(Nat ->Value) ->World ->Prop}: ∀ (l:List Oper) (n:Nat) (I:List (Nat×(Value ->Prop))),(∀ i J,look i I=some J ->i<n) ->c1_ G P base ops F n I l ->
 ∃ Jf:Nat ->Value ->Prop,(∀ i J,look i I=some J ->Jf i=J)/\(∀ (k:Nat) (o:Oper),l[k]?=some o ->f2_ G P base ops (n+k) o (fun x=> ∀ e∈o.after.toList,Region.binds .any e=true ->e.on<n+k ->Jf e.on (x e.on)) (Jf (n+k)))/\
   (∀ x w,G (fun _=>true) x w ->(∀ i,i<n+l.length ->Jf i (x i)) ->F x w)
 |[],n,I,hI,h=>⟨fun i=>(look i I).getD fun _=>True,fun i J hJ=>by show(look i I).getD _=J;rw [hJ];rfl,fun k o ho=>by simp at ho,fun x w hG hx=>h x w hG fun i J hJ=>by
    have:=hx i (by have:=hI i J hJ;simp;omega);simp only [hJ,Option.getD_some] at this;exact this⟩
 |o::r,n,I,hI,⟨J,h1,h2⟩=>by
  have hne: ∀ i J',look i I=some J' ->look i ((n,J)::I)=some J':=fun i J' h=>by
   have:=hI i J' h;unfold look;rw [if_neg (by omega)];exact h
  obtain⟨Jf,g,j,p⟩:=g5_ r (n+1) ((n,J)::I) (fun i J' f=>by
   unfold look at f;split at f
   ·omega
   ·have:=hI i J' f;omega) h2
  have q:Jf n=J:=g n J (by unfold look;rw [if_pos rfl]);refine⟨Jf,fun i J' f=>g i J' (hne i J' f),fun k N ho=>?_,fun x w hG hx=>p x w hG fun i M=>hx i (by simp at M ⊢;omega)⟩
  cases k with
  |zero=>
   simp at ho;subst ho;rw [Nat.add_zero,q];intro l x w y hG z
   exact h1 l x w y hG fun e L D J' f=>by
    have:=z e L D (hI _ _ f);rw [g _ _ (hne _ _ f)] at this;exact this
  |succ k=>
   have:=j k N (by simpa using ho);rw [show n+1+k=n+(k+1) by omega] at this;exact this
def gO_ (ops:Array Oper):Bool:=ops.toList.zipIdx.all fun p=>p.1.after.toList.all fun e=> !Region.binds .any e||decide (e.on<p.2)
theorem hT_ {ops:Array Oper} (h:gO_ ops=true) {i:Nat} {o:Oper} (ho:ops[i]?=some o): ∀ e∈o.after.toList,Region.binds .any e=true ->e.on<i:=by
 intro e n j;unfold gO_ at h;rw [List.all_eq_true] at h;have f:=h (o,i) (by rw [List.mem_zipIdx_iff_getElem?];simpa using ho);rw [List.all_eq_true] at f;have g:=f e n;rw [j] at g;simpa using g
theorem ni_ {ops:List Oper} {a:Act} {Q:Exit ->Act ->World ->Prop} (hE:gO_ ops.toArray=true) (hD:e4_ ops=true) (hn:fE_ a.tmps.size ops=true) (hg:kk_ a.tmps.size ops=true) (Jf:Nat ->Value ->Prop)
 (hop: ∀ (k:Nat) (o:Oper),ops[k]?=some o ->f2_ G P a ops k o (fun x=> ∀ e∈o.after.toList,Region.binds .any e=true ->e.on<k ->Jf e.on (x e.on)) (Jf k))
 (hQ: ∀ x w,G (fun _=>true) x w ->(∀ i,i<ops.length ->Jf i (x i)) ->Q .normal {tmps:=aA_ x 0 ops a.tmps,defers:=a.defers} w): ∀ (fuel:Nat) (listed:Array Bool) (x:Nat ->Value) (w:World),listed.size=ops.length ->G (fun i=>listed.getD i true) x w ->
   (∀ i,i<ops.length ->listed.getD i true=true ->Jf i (x i)) ->(bK_ ops.toArray listed).length <=fuel ->wpAny P .any ops.toArray Q fuel listed {tmps:=aA_ x 0 ops a.tmps,defers:=a.defers} w:=by
 have S: ∀ (listed:Array Bool),listed.size=ops.length ->Region.ready .any ops.toArray listed=[] -> ∀ i,i<ops.length ->listed.getD i true=true:=by
  intro listed N hr i
  induction i using Nat.strongRecOn with
  |_ i ih=>
   intro n
   cases hg:listed.getD i true with
   |true=>rfl
   |false=>
    exfalso;have L:ops.toArray[i]?=some ops[i]:=by simp [n]
    have:i∈Region.ready .any ops.toArray listed:=mem_ready.2 ⟨hg,_,L,fun e U hb=>by
     have h1:=hT_ hE L e (by simpa using U) hb;have D:=ih e.on h1 (by omega);have y:e.on<listed.size:=by omega
     simp [y] at D ⊢;exact D⟩
    rw [hr] at this;cases this
 have p: ∀ (listed:Array Bool),listed.size=ops.length ->(∀ i,i<ops.length ->listed.getD i true=true) ->(fun i=>listed.getD i true)=fun _=>true:=by
  intro listed N h
  funext i
  by_cases n:i<ops.length
  ·exact h i n
  ·unfold Array.getD;rw [dif_neg (by omega)]
 intro fuel
 induction fuel with
 |zero=>
  intro listed x w N T hI hu;have aA:bK_ ops.toArray listed=[]:=List.eq_nil_of_length_eq_zero (by omega)
  have f: ∀ i,i<ops.length ->listed.getD i true=true:=by
   intro i n
   cases hg:listed.getD i true with
   |true=>rfl
   |false=>
    have:i∈bK_ ops.toArray listed:=by unfold bK_;rw [List.mem_filter,List.mem_range];exact⟨by simpa using n,by simp [hg]⟩
    rw [aA] at this;cases this
  rw [p listed N f] at T;refine⟨?_,hQ x w T fun i n=>hI i n (f i n)⟩
  cases hr:Region.ready .any ops.toArray listed with
  |nil=>rfl
  |cons j js=>
   obtain⟨h1,o,D,_⟩:=mem_ready.1 (show j∈Region.ready .any ops.toArray listed by rw [hr];exact List.mem_cons_self);rw [f j (by simpa using (Array.getElem?_eq_some_iff.1 D).1)] at h1;cases h1
 |succ fuel ih=>
  intro listed x w N T hI hu;refine⟨fun hr=>by have f:=S listed N hr;rw [p listed N f] at T;exact hQ x w T fun i n=>hI i n (f i n),fun i n=>?_⟩;obtain⟨aC,o,L,F⟩:=mem_ready.1 n;have r:i<ops.length:=by simpa using (Array.getElem?_eq_some_iff.1 L).1
  have M:ops[i]?=some o:=by simpa using L
  have c: ∀ e∈o.after.toList,Region.binds .any e=true ->listed.getD e.on true=true:=by
   intro e U Y;have aG:=hT_ hE L e U Y;have D:=F e (by simpa using U) Y;have y:e.on<listed.size:=by omega
   simp [y] at D ⊢;exact D
  unfold wpOp;simp only [L]
  have J: ∀ v w',Jf i v ->G (updB (fun i=>listed.getD i true) i) (upd x i v) w' ->wpAny P .any ops.toArray Q fuel (listed.setIfInBounds i true) (Act.put {tmps:=aA_ x 0 ops a.tmps,defers:=a.defers} o.dst v) w':=by
   intro v w' aE aD
   have aB:Act.put {tmps:=aA_ x 0 ops a.tmps,defers:=a.defers} o.dst v=({tmps:=aA_ (upd x i v) 0 ops a.tmps,defers:=a.defers}:Act):=by
    have:=hj_ (x:=x) (v:=v) ops 0 i a.tmps hD M;rw [Nat.zero_add] at this;rw [<-this];unfold Act.put;cases o.dst<;>rfl
   rw [aB]
   have hl:(fun j=>(listed.setIfInBounds i true).getD j true)=updB (fun i=>listed.getD i true) i:=by
    funext j
    unfold updB;by_cases e:j=i
    ·subst e;rw [if_pos rfl];unfold Array.getD;split
     ·simp
     ·rfl
    ·rw [if_neg e,getD_set_ne true (fun h=>e h.symm)]
   refine ih (listed.setIfInBounds i true) (upd x i v) w' (by simpa using N) (by rw [hl];exact aD) (fun j hj s=>?_) (by have:=jr_ (ops:=ops.toArray) (by simpa using r) aC;omega);by_cases e:j=i
   ·subst e;simpa [upd] using aE
   ·rw [getD_set_ne true (fun h=>e h.symm)] at s;simpa [upd,e] using hI j hj s
  have aF: ∀ t,Act.eval {tmps:=aA_ x 0 ops a.tmps,defers:=a.defers} t=evX a ops x t:=by
   intro t
   cases t with
   |tmp d=>exact eQ_ ops 0 a.tmps hD hn
   |_=>rfl
  have hw:Region.wanted o (yielded ops.toArray (aA_ x 0 ops a.tmps))=e0_ o x:=by
   unfold e0_ Region.wanted
   cases J:o.guard with
   |none=>rfl
   |some q=>
    obtain⟨g,b⟩:=q;have z:=List.all_eq_true.1 hg o (List.mem_of_getElem? M);rw [J] at z;simp only at z ⊢
    congr 1
    unfold yielded;rw [List.getElem?_toArray]
    cases Z:(ops[g]?).bind (·.dst) with
    |none=>rw [Z] at z;cases z
    |some d=>
     rw [Z] at z;simp only [Bool.and_eq_true,decide_eq_true_eq,beq_iff_eq] at z;have X:=eQ_ (x:=x) (d:=d) ops 0 a.tmps hD hn;rw [z.2] at X;simp only at X;have h6:d<(aA_ x 0 ops a.tmps).size :=by rw [eR_];exact z.1
     unfold Array.getD at X;rw [dif_pos h6] at X;simp only [Option.bind_some];have h7:(aA_ x 0 ops a.tmps)[d]=x g:=X;rw [Array.getElem?_eq_getElem h6,h7];cases x g<;>rfl
  have y:=hop i o M (fun i=>listed.getD i true) x w _ T (fun e U hb aG=>hI e.on (by omega) (c e U hb)) aC c aF _ J;show(if Region.wanted o (yielded ops.toArray (aA_ x 0 ops a.tmps))=true then _ else _);rw [hw];split
  ·rename_i R;rw [if_pos R] at y;exact .inl (dc_.wp y)
  ·rename_i R;rw [if_neg R] at y;exact y
theorem a0_ (G:(Nat ->Bool) ->(Nat ->Value) ->World ->Prop) {id:Nat} {ops:List Oper} {a:Act} {w:World} {Q:Exit ->Act ->World ->Prop} (hm:P.follows .mixedOrders =true)
 (hE:gO_ ops.toArray=true) (hD:e4_ ops=true) (hn:fE_ a.tmps.size ops=true) (hg:kk_ a.tmps.size ops=true) (h0: ∀ x,G (fun i=>decide (ops.length<=i)) x {w with drawn:=w.drawn+1})
 (h: ∀ base O,base=a ->O=ops ->c1_ G P base O (fun x w'=>Q .normal {tmps:=aA_ x 0 ops a.tmps,defers:=a.defers} w') 0 [] ops):(Code.region id ops.toArray true).wp P Q a w:=by
 refine wp_region_any hm ?_;obtain⟨q,_,y,z⟩:=g5_ ops 0 [] (fun i J h=>by cases h) (h a ops rfl rfl)
 have D:({tmps:=aA_ (fun i=>match(ops[i]?).bind (·.dst) with|some d=>a.tmps.getD d undef|none=>undef) 0 ops a.tmps,defers:=a.defers}:Act)=a:=by
  rw [hi_ ops 0 a.tmps a.tmps];intro i o d j L;simp [j,L]
 have g:=ni_ (P:=P) (G:=G) (Q:=Q) (a:=a) hE hD hn hg q (fun k o j=>by simpa using y k o j) (fun x w' F M=>z x w' F fun i n=>M i (by omega))
  ops.toArray.size (Array.replicate ops.toArray.size false) (fun i=>match(ops[i]?).bind (·.dst) with|some d=>a.tmps.getD d undef|none=>undef) {w with drawn:=w.drawn+1} (by simp) ?_ ?_ ?_
 ·rw [D] at g;exact g
 ·have e:(fun i=>(Array.replicate ops.toArray.size false).getD i true)=fun i=>decide (ops.length<=i):=by
   funext i
   unfold Array.getD;split
   ·rename_i f;have f:i<ops.length:=by simpa using f
    rw [decide_eq_false (by omega)];simp
   ·rename_i f;have f: ¬ i<ops.length:=by simpa using f
    rw [decide_eq_true (by omega)]
  rw [e];exact h0 _
 ·intro i n p
  have e:(Array.replicate ops.toArray.size false).getD i true=false:=by
   unfold Array.getD;rw [dif_pos (by simpa using n)];simp
  rw [e] at p;cases p
 ·exact Nat.le_trans (List.length_filter_le _ _) (by simp)
section
variable {base:Act} {ops:List Oper} {F:(Nat ->Value) ->World ->Prop} {n:Nat} {I:List (Nat×(Value ->Prop))} {o:Oper} {rest:List Oper}
theorem pp_ (c:Value) (h:f2_ G P base ops n o (e2_ I o.after.toList) (fun v=>v=c)) (h2:c1_ G P base ops F (n+1) ((n,fun v=>v=c)::I) rest):c1_ G P base ops F n I (o::rest):=⟨_,h,h2⟩
theorem po_ (J:Value ->Prop) (h:f2_ G P base ops n o (e2_ I o.after.toList) J) (h2:c1_ G P base ops F (n+1) ((n,J)::I) rest):c1_ G P base ops F n I (o::rest):=⟨J,h,h2⟩
theorem e2_.at_ {es:List Edge} {x:Nat ->Value} (h:e2_ I es x) (k:Nat) {J:Value ->Prop} (he:(es.any fun e=>e.on==k&&Region.binds .any e)=true) (hJ:look k I=some J):J (x k):=by
 obtain⟨e,n,g⟩:=List.any_eq_true.1 he;rw [Bool.and_eq_true] at g;obtain⟨f,j⟩:=g;have f:e.on=k:=by simpa using f
 subst f;exact h e n j J hJ
theorem al_ {es:List Edge} {l:Nat ->Bool} (h: ∀ e∈es,Region.binds .any e=true ->l e.on=true) (k:Nat) (he:(es.any fun e=>e.on==k&&Region.binds .any e)=true):l k=true:=by
 obtain⟨e,n,g⟩:=List.any_eq_true.1 he;rw [Bool.and_eq_true] at g;obtain⟨f,j⟩:=g;have f:e.on=k:=by simpa using f
 subst f;exact h e n j
theorem cN_ {P:Program} {o:Oper} {ev:Operand ->Value} {w:World} {K:Value ->World ->Prop} (s x:Operand) (t:TypeId) (hop:o.op=Op.call {callee:=Callee.builtin Builtin.append,args:=#[s,x],argTypes:=#[t,t]}) {v u v':Value} {w':World}
 (hs:ev s=v) (hx:ev x=u) (hrun:(Builtin.append_ #[t,t] o.type #[v,u]).run P w= .ok v' w') (hK:K v' w'):dc_ P K ((execOp ev o).run P w):=by
 unfold execOp;simp only [hop,resolve,invoke,builtin,Sem.run_bind,Sem.run_pure,Result.andThen_ok,List.map_toArray,List.map_cons,List.map_nil,hs,hx,hrun];exact hK
end
end
section
variable {P:Program} {G:(Nat ->Bool) ->(Nat ->Value) ->World ->Prop}
end
structure Bx3 (w:World) (b:Nat) (f v n:Int):Prop where
 lt:b<w.heap.size
 c0:w.cell? ⟨b,0,none⟩=some (.int .i64 f)
 c1:w.cell? ⟨b,1,none⟩=some (.int .i64 v)
 c2:w.cell? ⟨b,2,none⟩=some (.int .i64 n)
structure Bx2 (w:World) (b:Nat) (f v:Int):Prop where
 lt:b<w.heap.size
 c0:w.cell? ⟨b,0,none⟩=some (.int .i64 f)
 c1:w.cell? ⟨b,1,none⟩=some (.int .i64 v)
structure GB1 {α:Type} (enc:α ->List Value) (t:TypeId) (size:Nat) (w0:World) (base:Nat) (v0:Value) (a:List α) (e:α) (rd li ap sg:Bool) (xl xa xs:Value) (w:World):Prop where
 bel:Below base w0 w
 apr:ap=true ->rd=true
 apl:ap=true ->li=true
 asp:sg=true ->ap=true
 ini:sg=false ->xs=v0
 lit:li=true ->ap=false -> ∃ k c,xl= .slice (some ⟨k,0,none⟩) 1 c/\Rd w size enc (some ⟨k,0,none⟩) 1 [e]
 own:ap=false ->w.ownsRow base t size v0 a.length (a.flatMap enc)
 app:ap=true ->w.ownsRow base t size xa (a++[e]).length ((a++[e]).flatMap enc)
 asg:sg=true ->xs=xa
section
variable {α:Type} {enc:α ->List Value} {t:TypeId} {size:Nat} {w0 w w':World} {base:Nat} {v0 xl xa xs v:Value} {a:List α} {e:α} {rd li ap sg:Bool}
end
structure GT3 {α:Type} (enc:α ->List Value) (t:TypeId) (size:Nat) (w0:World) (v0:Value) (L1 L2 L3:List α) (y:α) (f0 f1 f2 f3 fs li r1 r2:Bool) (x0 x1 x2 x3 xl xs:Value) (w:World):Prop where
 bel:Below w0.heap.size w0 w
 c01:f1=true ->f0=true
 c12:f2=true ->f1=true
 c23:f3=true ->f2=true
 c3s:fs=true ->f3=true
 cli:f2=true ->li=true
 cr1:f1=true ->r1=true
 cr2:f3=true ->r2=true
 ini:fs=false ->xs=v0
 o0:f0=true ->f1=false ->w.ownsRow w0.heap.size t size x0 0 []
 o1:f1=true ->f2=false ->w.ownsRow w0.heap.size t size x1 L1.length (L1.flatMap enc)
 ol:li=true ->f2=false -> ∃ g c,xl= .slice (some ⟨g,0,none⟩) 1 c/\Rd w size enc (some ⟨g,0,none⟩) 1 [y]/\g<w.heap.size/\(f0=true ->f1=false ->x0.ownBlock≠some g)/\(f1=true ->x1.ownBlock≠some g)
 o2:f2=true ->f3=false ->w.ownsRow w0.heap.size t size x2 L2.length (L2.flatMap enc)
 o3:f3=true ->w.ownsRow w0.heap.size t size x3 L3.length (L3.flatMap enc)
 sg:fs=true ->xs=x3
section
variable {α:Type} {enc:α ->List Value} {t:TypeId} {size:Nat} {w0 w w':World} {v0 x0 x1 x2 x3 xl xs v:Value} {L1 L2 L3:List α} {y:α} {f0 f1 f2 f3 fs li r1 r2:Bool}
end
open Go.ChangeShapes Go.WideShapes Go.Deep
theorem dA_ {u:Int} (h:(Lit.int .i64 u).wf =true): -9223372036854775808<=u/\u<=9223372036854775807:=by
 exact bounds_i64 h
theorem Rd.conv {α β:Type} {w:World} {size n:Nat} {enc:α ->List Value} {enc':β ->List Value} {A:Option Addr} {l:List α} (f:α ->β) (hf: ∀ x∈l,enc' (f x)=enc x) (h:Rd w size enc A n l):Rd w size enc' A n (l.map f):=
 ⟨by rw [List.length_map,h.len],fun D=>by
   obtain⟨b,o,e,q,z⟩:=h.cells D;refine⟨b,o,e,q,fun i x g j u F=>?_⟩;rw [List.getElem?_map] at g;obtain⟨y,p,rfl⟩:=Option.map_eq_some_iff.1 g;exact z i y p j u (by rw [<-hf y (List.mem_of_getElem? p)];exact F)⟩
section
variable {H:Type} {enc:TypeId×Value ->H} {P:Program} {w:World} {base:Nat} {spare:Nat ->Bool} {held:Bool}
end
open Go.Joins
def numE (k:IntKind) (x:Int):List Value:=[.int k x]
section
variable {H:Type} {enc:TypeId×Value ->H} {P:Program} {w:World} {base:Nat} {spare:Nat ->Bool} {held:Bool}
end
end Go.Proofs.YtechdefolfboeaaGreatDoor.B
namespace Go.Proofs.YtechdefolfboeaaGreatDoor.B
open Go.RowKit
structure GCh (W0 W1 W2 W3:World) (va vb:Value) (f1 fa fb fc:Bool) (xa xb:Value) (w:World):Prop where
 c0:fb=true ->f1=true
 c1:fb=true ->fa=true
 c2:fc=true ->fb=true
 s0:fa=false ->w=W0
 s1:fa=true ->fb=false ->w=W1
 s2:fb=true ->fc=false ->w=W2
 s3:fc=true ->w=W3
 e1:fa=true ->xa=va
 e2:fb=true ->xb=vb
section
variable {W0 W1 W2 W3 w w':World} {va vb xa xb v:Value} {f1 fa fb fc:Bool}
end
def Bx (w:World) (b:Nat) (t:TypeId) (vs:List Value):Prop:=w.heap[b]?=some (.cells vs.toArray t (0,0))
section
variable {w w':World} {b:Nat} {t:TypeId} {vs:List Value}
theorem Bx.lt (h:Bx w b t vs):b<w.heap.size:=(Array.getElem?_eq_some_iff.1 h).1
theorem Bx.cell (h:Bx w b t vs) (i:Nat) {v:Value} (hv:vs[i]?=some v):w.cell? ⟨b,i,none⟩=some v:=by
 rw [cell_of_row _ _ _ _ _ _ h];simpa using hv
theorem Bx.frozen (h:Bx w b t vs) (i:Nat):w.frozen? ⟨b,i,none⟩=false:=by
 have f:w.heap[b]?=some (.cells vs.toArray t (0,0)):=h;simp [World.frozen?,f]
theorem Bx.set (h:Bx w b t vs) (i:Nat) (v:Value):Bx (w.setCell ⟨b,i,none⟩ v) b t (vs.set i v):=by
 have f:w.heap[b]?=some (.cells vs.toArray t (0,0)):=h;have g:=(Array.getElem?_eq_some_iff.1 f).1;have e:w.heap[b]= .cells vs.toArray t (0,0):=by rw [Array.getElem?_eq_getElem g] at f;exact Option.some.inj f
 show(w.setCell ⟨b,i,none⟩ v).heap[b]?=_;simp [World.setCell,g,Array.getElem_modify,e]
theorem Bx.keep (h:Bx w b t vs) (hk:w'.heap[b]?=w.heap[b]?):Bx w' b t vs:=hk.trans h
theorem Bx.below (h:Bx w b t vs) (hb:Below w.heap.size w w'):Bx w' b t vs:=h.keep (hb.block b h.lt)
theorem Bx.new (w:World) (t:TypeId) (vs:List Value):Bx (w.alloc (.cells vs.toArray t)) w.heap.size t vs:=heap_alloc_new w _
abbrev rb_ (v:Value) (w:World) (e:Ending) (w':World):Prop:=e= .returned v/\Below w.heap.size w w'
theorem box0 (w:World) (T:TypeId) (cs:List Value): ∃ q,w.alloc (.cells cs.toArray T)=q/\Below w.heap.size w q/\Bx q w.heap.size T cs:=⟨_,rfl,(Below.refl _ w).alloc (Nat.le_refl _) _,Bx.new w T cs⟩
theorem But.drawn (w:World) (X:List Nat):But w {w with drawn:=w.drawn+1} X:=⟨rfl,rfl,rfl,Nat.le_refl _,fun _ _ _=>rfl⟩
theorem f6_ {w w':World} {base size n:Nat} {e:TypeId} {v:Value} {xs:List Value} {X:List Nat} (h:w.ownsRow base e size v n xs) (hb:But w w' X) (hX: ∀ x∈X,x<base):w'.ownsRow base e size v n xs:=by
 refine bd_ h fun k g=>?_;have f:=h.lt k g;exact hb.keep k f.2 fun j=>by have:=hX k j;omega
end
theorem ae_ {w w':World} {base size n b:Nat} {e T:TypeId} {v:Value} {xs u:List Value} (h:w.ownsRow base e size v n xs) (hB:Bx w b T u) (hT:T≠e) (hb:But w w' [b]):w'.ownsRow base e size v n xs:=by
 refine bd_ h fun k f=>?_;have q:=h.lt k f;refine hb.keep k q.2 fun p=>?_;simp only [List.mem_singleton] at p;subst p;rcases h.2 with⟨rfl,rfl⟩|⟨g,aA,aB,rfl,_,j,_⟩
 ·cases f
 ·have:g=k:=by simpa [Value.ownBlock] using f
  subst this;rw [show w.heap[g]?=_ from hB] at j;cases j;exact hT rfl
theorem b7_ {w:World} {base size n base' size' n':Nat} {e e':TypeId} {v v':Value} {xs xs':List Value} (h:w.ownsRow base e size v n xs) (h':w.ownsRow base' e' size' v' n' xs') (he:e'≠e) {k:Nat} (hk:v'.ownBlock=some k):some k≠v.ownBlock:=by
 intro j;rcases h.2 with⟨rfl,rfl⟩|⟨g,aC,aD,rfl,_,z,_⟩
 ·cases j
 ·rcases h'.2 with⟨rfl,rfl⟩|⟨y,aA,aB,rfl,_,f,_⟩
  ·cases hk
  ·have p:y=k:=by simpa [Value.ownBlock] using hk
   have q:k=g:=by simpa [Value.ownBlock] using j
   subst p q;rw [z] at f;cases f;exact he rfl
structure pS_ (wi wr:World) (bo f:Nat) (T e:TypeId) (cs:List Value) (base size:Nat) (xs:List Value) (k:Nat) (v1:Value) (lit:List Value) (W0 W1 W2 W3:World) (va vb:Value):Prop where
 w0:({wr with drawn:=wr.drawn+1}:World)=W0
 w1:W0.alloc (.cells lit.toArray e)=W1
 va:Value.slice (some ⟨W0.heap.size,0,none⟩) 1 1=va
 w3:W2.setCell ⟨bo,f,none⟩ vb=W3
 b0:Bx W0 bo T cs
 b1:Bx W1 bo T cs
 b2:Bx W2 bo T cs
 b3:Bx W3 bo T (cs.set f vb)
 t0:But wi W0 [bo]
 t1:But wi W1 [bo]
 t2:But wi W2 [bo]
 t3:But wi W3 [bo]
 own:W3.ownsRow base e size vb (k+1) (xs++lit)
 form: ∃ g c,vb= .slice (some ⟨g,0,none⟩) (k+1) c
theorem ci_ {α:Type} {P:Program} {enc:α ->List Value} {t e:TypeId} {z:Value} {size bytes:Nat} (ht:P.underlying t=some (.slice e)) (hi:(P.info? e).map (fun i=>(i.zero,i.size,i.bytes))=some (some z,size,bytes)) (hz:z.cells.size=size) (hsz:0<size)
 (hes: ∀ x,(enc x).length =size) (hone: ∀ x, ∀ u∈enc x,u.oneCell'=true) (hby:bytes<=127) {wi W0:World} {bo f k:Nat} {T:TypeId} {cs:List Value} {v:Value} {lv:List α} (x:α) (b0:Bx W0 bo T cs)
 (own:W0.ownsRow wi.heap.size e size v k (lv.flatMap enc)) (hk:lv.length=k) (hlen:k+1<=1099511627776) (hbo:bo<wi.heap.size) (t0:But wi W0 [bo]):
 ∃ W1 W2 W3 va vb,W0.alloc (.cells (enc x).toArray e)=W1/\Value.slice (some ⟨W0.heap.size,0,none⟩) 1 1=va/\W2.setCell ⟨bo,f,none⟩ vb=W3/\(Bx W1 bo T cs/\Bx W2 bo T cs/\Bx W3 bo T (cs.set f vb))/\(But wi W1 [bo]/\But wi W2 [bo]/\But wi W3 [bo])/\
   (∀ (base':Nat) (e':TypeId) (size':Nat) (v':Value) (n':Nat) (xs':List Value),e'≠e ->bo<base' ->W0.ownsRow base' e' size' v' n' xs' ->W3.ownsRow base' e' size' v' n' xs')/\
   (Builtin.append_ #[t,t] t #[v,va]).run P W1= .ok vb W2/\W3.ownsRow wi.heap.size e size vb (k+1) ((lv++[x]).flatMap enc)/\ ∃ g c,vb= .slice (some ⟨g,0,none⟩) (k+1) c:=by
 have F:W0.ownsRow wi.heap.size e size v lv.length (lv.flatMap enc):=by rw [hk];exact own
 obtain⟨g,L,W2,p,D,n,_⟩:=a7_ (enc:=enc) ht hi hz hsz hes hone W0 wi.heap.size v lv x F (by omega) (by omega) t0.size;obtain⟨W1,G⟩:=e_ (W0.alloc (.cells (enc x).toArray e));have N:Below W0.heap.size W0 W1:=by rw [<-G];exact(Below.refl _ W0).alloc (Nat.le_refl _) _
 have j:=F.alloc (.cells (enc x).toArray e);rw [G] at p n j;rw [hk] at p D;have Z:But W0 W1 [bo]:=But.of_below N _;have J:But wi W1 [bo]:=t0.trans Z;have Q:Bx W1 bo T cs:=b0.below N;have U: ∀ q,v.ownBlock=some q ->q≠bo:=fun q hq=>by have:=(j.lt q hq).1;omega
 have r:But wi W2 [bo]:=⟨n.os.trans J.os,n.tape.trans J.tape,n.output.trans J.output,Nat.le_trans J.size n.size,fun i hi hx=>by
  refine(n.block i (Nat.lt_of_lt_of_le hi J.size) fun h=>?_).trans (J.keep i hi hx);have:=(j.lt i h.symm).1;omega⟩
 have b:Bx W2 bo T cs:=Q.keep (n.block bo Q.lt fun h=>U bo h.symm rfl);have S:(lv++[x]).length =k+1:=by simp [hk]
 rw [S] at D;have s:=b.set f (.slice (some ⟨g,0,none⟩) (k+1) L);have a:But W2 (W2.setCell ⟨bo,f,none⟩ (.slice (some ⟨g,0,none⟩) (k+1) L)) [bo]:=But.of_set _ _ _ (by simp)
 have M:(W2.setCell ⟨bo,f,none⟩ (.slice (some ⟨g,0,none⟩) (k+1) L)).ownsRow wi.heap.size e size (.slice (some ⟨g,0,none⟩) (k+1) L) (k+1) ((lv++[x]).flatMap enc):=
  f6_ D (But.of_set (X:=[bo]) _ _ _ (by simp)) (fun y Y=>by simp only [List.mem_singleton] at Y;omega)
 refine⟨W1,W2,_,_,_,G,rfl,rfl,⟨Q,b,s⟩,⟨J,r,r.trans a⟩,fun base' e' size' v' n' xs' he hb d=>?_,p,M,g,L,rfl⟩;have R:W1.ownsRow base' e' size' v' n' xs':=bd_ d fun k hk=>N.block k (d.lt k hk).2;have h2:W2.ownsRow base' e' size' v' n' xs':=bd_ R fun k hk=>n.block k (R.lt k hk).2 (b7_ j R he hk);exact f6_ h2 (But.of_set (X:=[bo]) _ _ _ (by simp)) (fun y Y=>by simp only [List.mem_singleton] at Y;omega)
section
variable {wi wr W0 W1 W2 W3 w:World} {bo f:Nat} {T e:TypeId} {cs:List Value} {base size k:Nat} {xs lit:List Value} {v1 va vb xa xb:Value} {f1 fa fb fc:Bool}
end
theorem h_ {a b c:World} (h:Hd (Below a.heap.size a b)) (k:Below b.heap.size b c):Hd (Below a.heap.size a c):=h.o.trans (k.mono h.o.size)
theorem b_ {a b c:World} (h:Hd (Below a.heap.size a b)) (k:Below b.heap.size b c):Below a.heap.size a c:=h.o.trans (k.mono h.o.size)
theorem u_ {a b c:World} (h:Below a.heap.size a b) (k:Below b.heap.size b c):Below a.heap.size a c:=h.trans (k.mono h.size)
theorem c_ {n q i:Nat} {a b:World} {v:Value} (h:Below n a b) (l:q<n) (y:a.cell? ⟨q,i,none⟩=some v):b.cell? ⟨q,i,none⟩=some v:=(h.cell (p:=⟨q,_,none⟩) l).trans y
theorem c_3 {w:World} {b:Nat} {T:TypeId} {v0 v1 v2:Value} {r:List Value} (h:Bx w b T (v0::v1::v2::r)):w.cell? ⟨b,0,none⟩=some v0/\w.cell? ⟨b,1,none⟩=some v1/\w.cell? ⟨b,2,none⟩=some v2:=⟨h.cell 0 rfl,h.cell 1 rfl,h.cell 2 rfl⟩
theorem c_4 {w:World} {b:Nat} {T:TypeId} {v0 v1 v2 v3:Value} {r:List Value} (h:Bx w b T (v0::v1::v2::v3::r)):w.cell? ⟨b,0,none⟩=some v0/\w.cell? ⟨b,1,none⟩=some v1/\w.cell? ⟨b,2,none⟩=some v2/\w.cell? ⟨b,3,none⟩=some v3:=⟨h.cell 0 rfl,h.cell 1 rfl,h.cell 2 rfl,h.cell 3 rfl⟩
theorem c_5 {w:World} {b:Nat} {T:TypeId} {v0 v1 v2 v3 v4:Value} {r:List Value} (h:Bx w b T (v0::v1::v2::v3::v4::r)):w.cell? ⟨b,0,none⟩=some v0/\w.cell? ⟨b,1,none⟩=some v1/\w.cell? ⟨b,2,none⟩=some v2/\w.cell? ⟨b,3,none⟩=some v3/\w.cell? ⟨b,4,none⟩=some v4:=⟨h.cell 0 rfl,h.cell 1 rfl,h.cell 2 rfl,h.cell 3 rfl,h.cell 4 rfl⟩
theorem d_5 {n b:Nat} {a w:World} {T:TypeId} {v0 v1 v2 v3 v4:Value} {r:List Value} (g:Below n a w) (l:b<n) (h:Bx a b T (v0::v1::v2::v3::v4::r)):w.cell? ⟨b,0,none⟩=some v0/\w.cell? ⟨b,1,none⟩=some v1/\w.cell? ⟨b,2,none⟩=some v2/\w.cell? ⟨b,3,none⟩=some v3/\w.cell? ⟨b,4,none⟩=some v4:=⟨c_ g l (h.cell 0 rfl),c_ g l (h.cell 1 rfl),c_ g l (h.cell 2 rfl),c_ g l (h.cell 3 rfl),c_ g l (h.cell 4 rfl)⟩
theorem c_6 {w:World} {b:Nat} {T:TypeId} {v0 v1 v2 v3 v4 v5:Value} {r:List Value} (h:Bx w b T (v0::v1::v2::v3::v4::v5::r)):w.cell? ⟨b,0,none⟩=some v0/\w.cell? ⟨b,1,none⟩=some v1/\w.cell? ⟨b,2,none⟩=some v2/\w.cell? ⟨b,3,none⟩=some v3/\w.cell? ⟨b,4,none⟩=some v4/\w.cell? ⟨b,5,none⟩=some v5:=⟨h.cell 0 rfl,h.cell 1 rfl,h.cell 2 rfl,h.cell 3 rfl,h.cell 4 rfl,h.cell 5 rfl⟩
theorem c_7 {w:World} {b:Nat} {T:TypeId} {v0 v1 v2 v3 v4 v5 v6:Value} {r:List Value} (h:Bx w b T (v0::v1::v2::v3::v4::v5::v6::r)):w.cell? ⟨b,0,none⟩=some v0/\w.cell? ⟨b,1,none⟩=some v1/\w.cell? ⟨b,2,none⟩=some v2/\w.cell? ⟨b,3,none⟩=some v3/\w.cell? ⟨b,4,none⟩=some v4/\w.cell? ⟨b,5,none⟩=some v5/\w.cell? ⟨b,6,none⟩=some v6:=⟨h.cell 0 rfl,h.cell 1 rfl,h.cell 2 rfl,h.cell 3 rfl,h.cell 4 rfl,h.cell 5 rfl,h.cell 6 rfl⟩
theorem c_12 {w:World} {b:Nat} {T:TypeId} {v0 v1 v2 v3 v4 v5 v6 v7 v8 v9 v10 v11:Value} {r:List Value} (h:Bx w b T (v0::v1::v2::v3::v4::v5::v6::v7::v8::v9::v10::v11::r)):w.cell? ⟨b,0,none⟩=some v0/\w.cell? ⟨b,1,none⟩=some v1/\w.cell? ⟨b,2,none⟩=some v2/\w.cell? ⟨b,3,none⟩=some v3/\w.cell? ⟨b,4,none⟩=some v4/\w.cell? ⟨b,5,none⟩=some v5/\w.cell? ⟨b,6,none⟩=some v6/\w.cell? ⟨b,7,none⟩=some v7/\w.cell? ⟨b,8,none⟩=some v8/\w.cell? ⟨b,9,none⟩=some v9/\w.cell? ⟨b,10,none⟩=some v10/\w.cell? ⟨b,11,none⟩=some v11:=⟨h.cell 0 rfl,h.cell 1 rfl,h.cell 2 rfl,h.cell 3 rfl,h.cell 4 rfl,h.cell 5 rfl,h.cell 6 rfl,h.cell 7 rfl,h.cell 8 rfl,h.cell 9 rfl,h.cell 10 rfl,h.cell 11 rfl⟩
theorem d_12 {n b:Nat} {a w:World} {T:TypeId} {v0 v1 v2 v3 v4 v5 v6 v7 v8 v9 v10 v11:Value} {r:List Value} (g:Below n a w) (l:b<n) (h:Bx a b T (v0::v1::v2::v3::v4::v5::v6::v7::v8::v9::v10::v11::r)):w.cell? ⟨b,0,none⟩=some v0/\w.cell? ⟨b,1,none⟩=some v1/\w.cell? ⟨b,2,none⟩=some v2/\w.cell? ⟨b,3,none⟩=some v3/\w.cell? ⟨b,4,none⟩=some v4/\w.cell? ⟨b,5,none⟩=some v5/\w.cell? ⟨b,6,none⟩=some v6/\w.cell? ⟨b,7,none⟩=some v7/\w.cell? ⟨b,8,none⟩=some v8/\w.cell? ⟨b,9,none⟩=some v9/\w.cell? ⟨b,10,none⟩=some v10/\w.cell? ⟨b,11,none⟩=some v11:=⟨c_ g l (h.cell 0 rfl),c_ g l (h.cell 1 rfl),c_ g l (h.cell 2 rfl),c_ g l (h.cell 3 rfl),c_ g l (h.cell 4 rfl),c_ g l (h.cell 5 rfl),c_ g l (h.cell 6 rfl),c_ g l (h.cell 7 rfl),c_ g l (h.cell 8 rfl),c_ g l (h.cell 9 rfl),c_ g l (h.cell 10 rfl),c_ g l (h.cell 11 rfl)⟩
theorem F_ {p:Prop} [Decidable p] (h: ¬ p):decide p=false:=decide_eq_false h
theorem T_ {p:Prop} [Decidable p] (h:p):decide p=true:=decide_eq_true h
theorem m_ {α:Type} {P:α ->Prop} {a:α} (h:P a): ∀ x∈[a],P x:=fun x f=>by simp only [List.mem_singleton] at f;subst f;exact h
section
variable {P:Program} {G:(Nat ->Bool) ->(Nat ->Value) ->World ->Prop} {base:Act} {ops:List Oper} {F:(Nat ->Value) ->World ->Prop} {n:Nat} {I:List (Nat×(Value ->Prop))} {o:Oper} {rest:List Oper}
def ix_ (G:(Nat ->Bool) ->(Nat ->Value) ->World ->Prop) (P:Program) (base:Act) (ops:List Oper) (n:Nat) (o:Oper) (D:(Nat ->Value) ->Prop) (J:Value ->Prop):Prop:=
 ∀ (l:Nat ->Bool) (x:Nat ->Value) (w:World) (ev:Operand ->Value),G l x w ->D x ->l n=false ->(∀ e∈o.after.toList,Region.binds .any e=true ->l e.on=true) ->(∀ t,ev t=evX base ops x t) ->(∀ f,ev (.func f)= .func (.func f) #[] #[]) ->
   ∀ K:Value ->World ->Prop,(∀ v w',J v ->G (updB l n) (upd x n v) w' ->K v w') ->dc_ P K ((execOp ev o).run P w)
theorem ix_.of {D:(Nat ->Value) ->Prop} {J:Value ->Prop} (hg:o.guard=none) (h:ix_ G P base ops n o D J):f2_ G P base ops n o D J:=
 fun l x w j p q y z g K F=>by rw [if_pos (js_ hg)];exact h l x w j p q y z g (fun f=>(g _).trans rfl) K F
theorem gd_ (c:Value) (hg:o.guard=none) (h:ix_ G P base ops n o (e2_ I o.after.toList) (fun v=>v=c)) (h2:c1_ G P base ops F (n+1) ((n,fun v=>v=c)::I) rest):c1_ G P base ops F n I (o::rest):=pp_ c (h.of hg) h2
theorem ga_ (J:Value ->Prop) (h:ix_ G P base ops n o (e2_ I o.after.toList) J) (h2:c1_ G P base ops F (n+1) ((n,J)::I) rest) (hg:o.guard=none:=by rfl):c1_ G P base ops F n I (o::rest):=po_ J (h.of hg) h2
end
theorem wb_ {P:Program} {id:Nat} {Q:Exit ->Act ->World ->Prop} {a:Act} {w:World} {l:List Oper} (N:Nat)
 (h: ∀ C:World ->Prop,(C=fun w'=>Below N w w') ->wpQuiet P l.toArray C (fun a'=> ∀ w',Below N w w' ->Q .normal a' w') l a) (hm:P.follows .mixedOrders =true:=by kernel_rfl) (hB:Region.lexB .any l.toArray=true:=by kernel_rfl):(Code.region id l.toArray true).wp P Q a w:=
 hu_ N hm hB h
end Go.Proofs.YtechdefolfboeaaGreatDoor.B
namespace Go.Proofs.YtechdefolfboeaaGreatDoor
open Go.RowKit B
namespace B
theorem Rd.get {α:Type} {w:World} {size n k:Nat} {enc:α ->List Value} {A:Option Addr} {l:List α} (h:Rd w size enc A n l) (hk:k<n):
 ∃ b o x,A=some ⟨b,o,none⟩/\b<w.heap.size/\l[k]?=some x/\ ∀ (j:Nat) (u:Value),(enc x)[j]?=some u ->w.cell? ⟨b,o+k*size+j,none⟩=some u:=by
 obtain⟨b,o,e,g,p⟩:=h.cells (by omega);have f:k<l.length:=by rw [h.len];exact hk
 exact⟨b,o,l[k],e,g,List.getElem?_eq_getElem f,fun j u q=>p k _ (List.getElem?_eq_getElem f) j u q⟩
end B
abbrev Str:=ByteArray
def strE (s:Str):List Value:=[.string s]
theorem ad_ (s:Str):(strE s).length =1:=rfl
theorem aH_ (s:Str): ∀ u∈strE s,u.oneCell'=true:=fun u f=>by simp [strE] at f;subst f;rfl
namespace B
theorem Rd.str {w:World} {n k:Nat} {A:Option Addr} {l:List Str} (h:Rd w 1 strE A n l) (hk:k<n): ∃ b o s,A=some ⟨b,o,none⟩/\b<w.heap.size/\l[k]?=some s/\w.cell? ⟨b,o+k,none⟩=some (.string s):=by
 obtain⟨b,o,x,e,f,j,g⟩:=h.get hk;have:=g 0 _ rfl;rw [Nat.mul_one,Nat.add_zero] at this;exact⟨b,o,x,e,f,j,this⟩
theorem Rd.num {w:World} {n k:Nat} {A:Option Addr} {l:List Int} (h:Rd w 1 (numE .i64) A n l) (hk:k<n): ∃ b o x,A=some ⟨b,o,none⟩/\b<w.heap.size/\l[k]?=some x/\w.cell? ⟨b,o+k,none⟩=some (.int .i64 x):=by
 obtain⟨b,o,x,e,f,j,g⟩:=h.get hk;have:=g 0 _ rfl;rw [Nat.mul_one,Nat.add_zero] at this;exact⟨b,o,x,e,f,j,this⟩
end B
structure cc_ where
 (a b len fr ev du:Int)
structure bM_ where
 (route fr ev un:Int)
structure HazP where
 (stop:Bool) (on fr ev du:Int)
structure ba_ where
 (stops rides stays:List Int)
def aJ_ (d:cc_):List Value:=[.int .i64 d.a,.int .i64 d.b,.int .i64 d.len,.int .i64 d.fr,.int .i64 d.ev,.int .i64 d.du]
def aL_ (t:bM_):List Value:=[.int .i64 t.route,.int .i64 t.fr,.int .i64 t.ev,.int .i64 t.un]
def hazE (h:HazP):List Value:=[.bool h.stop,.int .i64 h.on,.int .i64 h.fr,.int .i64 h.ev,.int .i64 h.du]
structure ab_ where
 hz:Int
 (stops nPaths nDoors nRoutes nTrips nHazs:List Str)
 paths:List (Int×Int×Int)
 doors:List cc_
 routes:List ba_
 trips:List bM_
 hazs:List HazP
structure WV where
 (a0 a1 a2 a3 a4 a5 aP aD aR aT aH:Option Addr)
 (n0 n1 n2 n3 n4 n5 nP nD nR nT nH:Nat)
 (c0 c1 c2 c3 c4 c5 cP cD cR cT cH:Nat)
def SlAt (w:World) (b o:Nat) (l:List Int):Prop:= ∃ s n c,w.cell? ⟨b,o,none⟩=some (.slice s n c)/\Rd w 1 (numE .i64) s n l/\n<=c/\c<=9223372036854775807
structure cI_ (w:World) (A:Option Addr) (n:Nat) (l:List ba_):Prop where
 len:l.length=n
 at_: ∀ (k:Nat) (r:ba_),l[k]?=some r -> ∃ b o,A=some ⟨b,o,none⟩/\b<w.heap.size/\SlAt w b (o+k*3) r.stops/\SlAt w b (o+k*3+1) r.rides/\SlAt w b (o+k*3+2) r.stays
structure RW (w:World) (W:ab_) (V:WV):Prop where
 r0:Rd w 1 strE V.a0 V.n0 W.stops
 r1:Rd w 1 strE V.a1 V.n1 W.nPaths
 r2:Rd w 1 strE V.a2 V.n2 W.nDoors
 r3:Rd w 1 strE V.a3 V.n3 W.nRoutes
 r4:Rd w 1 strE V.a4 V.n4 W.nTrips
 r5:Rd w 1 strE V.a5 V.n5 W.nHazs
 rP:Rd w 3 az_ V.aP V.nP W.paths
 rD:Rd w 6 aJ_ V.aD V.nD W.doors
 rR:cI_ w V.aR V.nR W.routes
 rT:Rd w 4 aL_ V.aT V.nT W.trips
 rH:Rd w 5 hazE V.aH V.nH W.hazs
section
variable {w w':World} {A:Option Addr} {n b o:Nat} {l:List Int} {W:ab_} {V:WV}
theorem SlAt.below (h:SlAt w b o l) (hb:b<w.heap.size) (k:Below w.heap.size w w'):SlAt w' b o l:=by
 obtain⟨s,n,c,f,g,j⟩:=h;exact⟨s,n,c,(k.cell (p:=⟨b,o,none⟩) hb).trans f,g.below k,j⟩
theorem cI_.below {l:List ba_} (h:cI_ w A n l) (k:Below w.heap.size w w'):cI_ w' A n l:=by
 refine⟨h.len,fun i r g=>?_⟩;obtain⟨b,o,e,f,j,p,q⟩:=h.at_ i r g;exact⟨b,o,e,Nat.lt_of_lt_of_le f k.size,j.below f k,p.below f k,q.below f k⟩
theorem cI_.get {l:List ba_} (h:cI_ w A n l) {k:Nat} (hk:k<n): ∃ b o r,A=some ⟨b,o,none⟩/\b<w.heap.size/\l[k]?=some r/\SlAt w b (o+k*3) r.stops/\SlAt w b (o+k*3+1) r.rides/\SlAt w b (o+k*3+2) r.stays:=by
 have f:k<l.length:=by rw [h.len];exact hk
 obtain⟨b,o,e,g,s⟩:=h.at_ k _ (List.getElem?_eq_getElem f);exact⟨b,o,_,e,g,List.getElem?_eq_getElem f,s⟩
theorem RW.below (h:RW w W V) (k:Below w.heap.size w w'):RW w' W V:=
 ⟨h.r0.below k,h.r1.below k,h.r2.below k,h.r3.below k,h.r4.below k,h.r5.below k,h.rP.below k,h.rD.below k,h.rR.below k,h.rT.below k,h.rH.below k⟩
end
abbrev wVal (W:ab_) (V:WV):Value:= .agg #[.int .i64 W.hz,.slice V.a0 V.n0 V.c0,.slice V.a1 V.n1 V.c1,.slice V.a2 V.n2 V.c2,.slice V.a3 V.n3 V.c3,.slice V.a4 V.n4 V.c4,.slice V.a5 V.n5 V.c5,.slice V.aP V.nP V.cP,.slice V.aD V.nD V.cD,.slice V.aR V.nR V.cR,.slice V.aT V.nT V.cT,.slice V.aH V.nH V.cH]
structure Few (W:ab_):Prop where
 s0:W.stops.length<=100000
 s1:W.nPaths.length<=100000
 s2:W.nDoors.length<=100000
 s3:W.nRoutes.length<=100000
 s4:W.nTrips.length<=100000
 s5:W.nHazs.length<=100000
 sP:W.paths.length<=100000
 sD:W.doors.length<=100000
 sR:W.routes.length<=100000
 sT:W.trips.length<=100000
 sH:W.hazs.length<=100000
 sr: ∀ r∈W.routes,r.stops.length<=100000/\r.rides.length<=100000/\r.stays.length<=100000
structure bi_ where
 (name a b:Str) (len:Int)
structure bh_ where
 (name a b:Str) (len fr ev du:Int)
structure bn_ where
 (name:Str) (stops:List Str) (rides stays:List Int)
structure bj_ where
 (name route:Str) (fr ev un:Int)
structure bs_ where
 (name on:Str) (fr ev du:Int)
structure ay_ where
 hz:Int
 stops:List Str
 paths:List bi_
 doors:List bh_
 routes:List bn_
 trips:List bj_
 hazs:List bs_
def aR_ (p:bi_):List Value:=[.string p.name,.string p.a,.string p.b,.int .i64 p.len]
def aQ_ (d:bh_):List Value:=[.string d.name,.string d.a,.string d.b,.int .i64 d.len,.int .i64 d.fr,.int .i64 d.ev,.int .i64 d.du]
def aS_ (t:bj_):List Value:=[.string t.name,.string t.route,.int .i64 t.fr,.int .i64 t.ev,.int .i64 t.un]
def a2_ (h:bs_):List Value:=[.string h.name,.string h.on,.int .i64 h.fr,.int .i64 h.ev,.int .i64 h.du]
theorem dk_ (p:bi_):(aR_ p).length =4:=rfl
theorem di_ (p:bh_):(aQ_ p).length =7:=rfl
theorem dl_ (p:bj_):(aS_ p).length =5:=rfl
theorem da_ (p:bs_):(a2_ p).length =5:=rfl
theorem ho_ (p:bi_): ∀ u∈aR_ p,u.oneCell'=true:=fun u f=>by simp [aR_] at f;rcases f with rfl|rfl|rfl|rfl<;>rfl
theorem hg_ (p:bh_): ∀ u∈aQ_ p,u.oneCell'=true:=fun u f=>by simp [aQ_] at f;rcases f with rfl|rfl|rfl|rfl|rfl|rfl|rfl<;>rfl
theorem hq_ (p:bj_): ∀ u∈aS_ p,u.oneCell'=true:=fun u f=>by simp [aS_] at f;rcases f with rfl|rfl|rfl|rfl|rfl<;>rfl
theorem fT_ (p:bs_): ∀ u∈a2_ p,u.oneCell'=true:=fun u f=>by simp [a2_] at f;rcases f with rfl|rfl|rfl|rfl|rfl<;>rfl
def SlS (w:World) (b o:Nat) (l:List Str):Prop:= ∃ s n c,w.cell? ⟨b,o,none⟩=some (.slice s n c)/\Rd w 1 strE s n l/\n<=c/\c<=9223372036854775807
structure bD_ (w:World) (A:Option Addr) (n:Nat) (l:List bn_):Prop where
 len:l.length=n
 at_: ∀ (k:Nat) (r:bn_),l[k]?=some r -> ∃ b o,A=some ⟨b,o,none⟩/\b<w.heap.size/\w.cell? ⟨b,o+k*4,none⟩=some (.string r.name)/\SlS w b (o+k*4+1) r.stops/\SlAt w b (o+k*4+2) r.rides/\SlAt w b (o+k*4+3) r.stays
structure SV where
 (a0 aP aD aR aT aH:Option Addr)
 (n0 nP nD nR nT nH:Nat)
 (c0 cP cD cR cT cH:Nat)
structure RS (w:World) (X:ay_) (V:SV):Prop where
 r0:Rd w 1 strE V.a0 V.n0 X.stops
 rP:Rd w 4 aR_ V.aP V.nP X.paths
 rD:Rd w 7 aQ_ V.aD V.nD X.doors
 rR:bD_ w V.aR V.nR X.routes
 rT:Rd w 5 aS_ V.aT V.nT X.trips
 rH:Rd w 5 a2_ V.aH V.nH X.hazs
section
variable {w w':World} {A:Option Addr} {n b o:Nat} {X:ay_} {V:SV}
theorem SlS.below {l:List Str} (h:SlS w b o l) (hb:b<w.heap.size) (k:Below w.heap.size w w'):SlS w' b o l:=by
 obtain⟨s,n,c,f,g,j⟩:=h;exact⟨s,n,c,(k.cell (p:=⟨b,o,none⟩) hb).trans f,g.below k,j⟩
theorem bD_.below {l:List bn_} (h:bD_ w A n l) (k:Below w.heap.size w w'):bD_ w' A n l:=by
 refine⟨h.len,fun i r g=>?_⟩;obtain⟨b,o,e,f,j,p,q,y⟩:=h.at_ i r g;exact⟨b,o,e,Nat.lt_of_lt_of_le f k.size,c_ k f j,p.below f k,q.below f k,y.below f k⟩
theorem bD_.get {l:List bn_} (h:bD_ w A n l) {k:Nat} (hk:k<n): ∃ b o r,A=some ⟨b,o,none⟩/\b<w.heap.size/\l[k]?=some r/\w.cell? ⟨b,o+k*4,none⟩=some (.string r.name)/\SlS w b (o+k*4+1) r.stops/\SlAt w b (o+k*4+2) r.rides/\SlAt w b (o+k*4+3) r.stays:=by
 have f:k<l.length:=by rw [h.len];exact hk
 obtain⟨b,o,e,g,s⟩:=h.at_ k _ (List.getElem?_eq_getElem f);exact⟨b,o,_,e,g,List.getElem?_eq_getElem f,s⟩
theorem RS.below (h:RS w X V) (k:Below w.heap.size w w'):RS w' X V:=
 ⟨h.r0.below k,h.rP.below k,h.rD.below k,h.rR.below k,h.rT.below k,h.rH.below k⟩
end
abbrev sVal (X:ay_) (V:SV):Value:= .agg #[.int .i64 X.hz,.slice V.a0 V.n0 V.c0,.slice V.aP V.nP V.cP,.slice V.aD V.nD V.cD,.slice V.aR V.nR V.cR,.slice V.aT V.nT V.cT,.slice V.aH V.nH V.cH]
def aO_ (l:List Str) (i:Int):Str:=(l[i.toNat]?).getD ByteArray.empty
def bO_ (W:ab_) (i:Nat):Option bi_:=match W.paths[i]? with|some p=>some ⟨aO_ W.nPaths i,aO_ W.stops p.1,aO_ W.stops p.2.1,p.2.2⟩|none=>none
def bN_ (W:ab_) (i:Nat):Option bh_:=match W.doors[i]? with|some d=>some ⟨aO_ W.nDoors i,aO_ W.stops d.a,aO_ W.stops d.b,d.len,d.fr,d.ev,d.du⟩|none=>none
def bJ_ (W:ab_) (i:Nat):Option bn_:=match W.routes[i]? with|some r=>some ⟨aO_ W.nRoutes i,r.stops.map (aO_ W.stops),r.rides,r.stays⟩|none=>none
def bP_ (W:ab_) (i:Nat):Option bj_:=match W.trips[i]? with|some t=>some ⟨aO_ W.nTrips i,aO_ W.nRoutes t.route,t.fr,t.ev,t.un⟩|none=>none
def bv_ (W:ab_) (i:Nat):Option bs_:=match W.hazs[i]? with|some h=>some ⟨aO_ W.nHazs i,aO_ (if h.stop then W.stops else W.nPaths) h.on,h.fr,h.ev,h.du⟩|none=>none
def aI_ {β:Type} (f:Nat ->Option β) (k:Nat):List β:=(List.range k).filterMap f
theorem bC_ {β:Type} {f:Nat ->Option β} {k:Nat} {x:β} (h:f k=some x):aI_ f (k+1)=aI_ f k++[x]:=by
 unfold aI_;rw [List.range_succ,List.filterMap_append];simp [h]
theorem aw_ {β:Type} {f:Nat ->Option β} {n:Nat} (h: ∀ i,i<n ->(f i).isSome): ∀ k,k<=n ->(aI_ f k).length =k
 |0,_=>rfl
 |k+1,hk=>by
  obtain⟨x,hx⟩:=Option.isSome_iff_exists.1 (h k (by omega));rw [bC_ hx,List.length_append,aw_ h k (by omega)];rfl
def b4_ (W:ab_):ay_:=⟨W.hz,W.stops,aI_ (bO_ W) W.paths.length,aI_ (bN_ W) W.doors.length,aI_ (bJ_ W) W.routes.length,aI_ (bP_ W) W.trips.length,aI_ (bv_ W) W.hazs.length⟩
end Go.Proofs.YtechdefolfboeaaGreatDoor
namespace Go.Proofs.YtechdefolfboeaaGreatDoor.W
abbrev Row:=List (Int×Int)
def chk (x:Int):Int:=if 0<=x/\x<=1099511627776 then 0 else 9
theorem chk_ok {x:Int} (h:0<=x/\x<=1099511627776):chk x=0:=if_pos h
theorem chk_no {x:Int} (h: ¬ (0<=x/\x<=1099511627776)):chk x=9:=if_neg h
theorem chk_zero {x:Int} (h:chk x=0):0<=x/\x<=1099511627776:=by
 unfold chk at h;split at h
 ·assumption
 ·omega
theorem chk_cases (x:Int):chk x=0∨chk x=9:=by unfold chk;split<;>simp
def inf:Int:=4611686018427387904
def oB_:Int ->Row ->Bool
 |_,[]=>true
 |p,(a,b)::r=>if a<=p∨b<=a∨2199023255552<b then false else oB_ b r
def good (l:Row):Bool:=oB_ (-1) l
def bh:Row ->Int ->Nat
 |[],_=>0
 |(_,b)::r,x=>if b<=x then bh r x+1 else 0
def iy_ (l:Row) (x:Int):Bool:=decide (chk x=0)&&good l
def pQ_ (l:Row) (x:Int):Int:=match l.drop (bh l x) with|[]=>inf|p::_=>max x p.1
def next (l:Row) (x:Int):Int:=if iy_ l x then pQ_ l x else inf
def has (l:Row) (x:Int):Bool:=iy_ l x&&decide (next l x=x)
def gapF (n:Int):Int ->Row ->Int
 |x,[]=>x
 |x,(a,b)::r=>if x+n<=a then x else gapF n b r
def gap (l:Row) (x n:Int):Int:=if iy_ l x=true/\chk n=0 then(if n=0 then x else gapF n x (l.drop (bh l x))) else inf
def free (l:Row) (x:Int):Int:=gap l x 1
def count (f e u:Int):Int:=if chk f=0/\chk e=0/\chk u=0/\f<=u then(if e=0 then 1 else(u-f) / e+1) else 0
def chkT (f e n:Int):Int:=if chk f≠0∨n<1∨1099511627776<n∨(e≠0/\(e<n∨1099511627776<e)) then 2 else 0
def cA_ (acc:Row) (w:Int×Int):Row:=match acc.getLast? with|some q=>if w.1<=q.2 then acc.dropLast++[(q.1,max q.2 w.2)] else acc++[w]|none=>[w]
def joinL (l:Row):Row:=l.foldl cA_ []
theorem joinStep_in (i:Row) (q w:Int×Int) (h:w.1<=q.2):cA_ (i++[q]) w=i++[(q.1,max q.2 w.2)]:=by simp [cA_,h]
theorem joinStep_out (i:Row) (q w:Int×Int) (h:q.2<w.1):cA_ (i++[q]) w=i++[q]++[w]:=by
 have: ¬ w.1<=q.2:=by omega
 simp [cA_,this]
theorem iS_ (acc:Row) (w:Int×Int):(cA_ acc w).length <=acc.length+1:=by
 rcases List.eq_nil_or_concat acc with rfl|⟨i,q,rfl⟩
 ·simp [cA_]
 ·rw [List.concat_eq_append];by_cases h:w.1<=q.2
  ·rw [joinStep_in _ _ _ h];simp
  ·rw [joinStep_out _ _ _ (by omega)];simp
theorem joinL_snoc (l:Row) (w:Int×Int):joinL (l++[w])=cA_ (joinL l) w:=by simp [joinL]
theorem mi_: ∀ (l acc:Row),(l.foldl cA_ acc).length <=acc.length+l.length:=by
 intro l
 induction l with
 |nil=>intro acc;simp
 |cons w r ih=>intro acc;have:=ih (cA_ acc w);have:=iS_ acc w;simp only [List.foldl_cons,List.length_cons];omega
theorem joinL_len (l:Row):(joinL l).length <=l.length:=by have:=mi_ l [];simpa [joinL] using this
def ownF (y m:Int) (l:Row):Bool:=l.any fun p=>decide (p.1<y+m)&&decide (y<p.2)
end Go.Proofs.YtechdefolfboeaaGreatDoor.W
namespace Go.Proofs.YtechdefolfboeaaGreatDoor
open Go.RowKit B
def sq (x s:Str):Bool:=x.toList==s.toList
def bz_ (s:Str):List Str ->Nat
 |[]=>0
 |x::l=>if sq x s then 0 else bz_ s l+1
def ai_ (l:List Str) (s:Str):Int:=if bz_ s l<l.length then(bz_ s l:Int) else-1
theorem fP_ (s:Str): ∀ l:List Str,bz_ s l<=l.length
 |[]=>Nat.le_refl _
 |x::l=>by have:=fP_ s l;unfold bz_;split<;>simp;omega
theorem d1_ (s:Str): ∀ (l:List Str) (i:Nat) (x:Str),l[i]?=some x ->i<=bz_ s l ->sq x s=true ->bz_ s l=i
 |[],i,x,h,_,_=>by simp at h
 |y::l,0,x,h,hi,hx=>by
  simp at h;subst h;unfold bz_;rw [if_pos hx]
 |y::l,i+1,x,h,hi,hx=>by
  unfold bz_ at hi ⊢;split
  ·rename_i h1;rw [if_pos h1] at hi;omega
  ·rename_i h1;rw [if_neg h1] at hi;rw [d1_ s l i x (by simpa using h) (by omega) hx]
theorem fO_ (s:Str): ∀ (l:List Str) (i:Nat) (x:Str),l[i]?=some x ->i<=bz_ s l ->sq x s=false ->i+1<=bz_ s l
 |[],i,x,h,_,_=>by simp at h
 |y::l,0,x,h,hi,hx=>by
  simp at h;subst h;unfold bz_;rw [if_neg (by rw [hx];simp)];omega
 |y::l,i+1,x,h,hi,hx=>by
  unfold bz_ at hi ⊢;split
  ·rename_i h1;rw [if_pos h1] at hi;omega
  ·rename_i h1;rw [if_neg h1] at hi;have:=fO_ s l i x (by simpa using h) (by omega) hx;omega
theorem ib_ (s:Str): ∀ (l:List Str),bz_ s l<l.length -> ∃ x,l[bz_ s l]?=some x/\sq x s=true
 |[],h=>by simp at h
 |y::l,h=>by
  unfold bz_ at h ⊢;split
  ·rename_i h1;exact⟨y,rfl,h1⟩
  ·rename_i h1;rw [if_neg h1] at h;obtain⟨x,h2,h3⟩:=ib_ s l (by simpa using h);exact⟨x,by simpa using h2,h3⟩
theorem ei_ {l:List Str} {s:Str}:0<=ai_ l s↔l.any (sq · s)=true:=by
 unfold ai_;constructor
 ·intro h;split at h
  ·rename_i n;obtain⟨x,g,f⟩:=ib_ s l n;exact List.any_eq_true.2 ⟨x,List.mem_of_getElem? g,f⟩
  ·omega
 ·intro h;obtain⟨x,p,g⟩:=List.any_eq_true.1 h;obtain⟨i,j⟩:=List.getElem?_of_mem p;have aA:=(List.getElem?_eq_some_iff.1 j).1;rw [if_pos]
  ·omega
  ·rcases Nat.lt_or_ge (bz_ s l) l.length with f|f
   ·exact f
   ·have:=d1_ s l i x j (by omega) g;omega
def numP (X:ay_) (p:bi_):Int×Int×Int:=(ai_ X.stops p.a,ai_ X.stops p.b,p.len)
def numD (X:ay_) (d:bh_):cc_:=⟨ai_ X.stops d.a,ai_ X.stops d.b,d.len,d.fr,d.ev,d.du⟩
def numR (X:ay_) (r:bn_):ba_:=⟨r.stops.map (ai_ X.stops),r.rides,r.stays⟩
def numT (X:ay_) (t:bj_):bM_:=⟨ai_ (X.routes.map (·.name)) t.route,t.fr,t.ev,t.un⟩
def numH (X:ay_) (h:bs_):HazP:=if ai_ X.stops h.on<0 then⟨false,ai_ (X.paths.map (·.name)) h.on,h.fr,h.ev,h.du⟩ else⟨true,ai_ X.stops h.on,h.fr,h.ev,h.du⟩
def numS (X:ay_):ab_:=⟨X.hz,X.stops,X.paths.map (·.name),X.doors.map (·.name),X.routes.map (·.name),X.trips.map (·.name),X.hazs.map (·.name),
 X.paths.map (numP X),X.doors.map (numD X),X.routes.map (numR X),X.trips.map (numT X),X.hazs.map (numH X)⟩
def allN (W:ab_):List Str:=W.stops++W.nPaths++W.nDoors++W.nRoutes++W.nTrips++W.nHazs
def bG_:List Str ->Bool
 |[]=>true
 |x::l=> !(l.any fun y=>sq x y)&&bG_ l
def wayB (a b n:Int):Bool:=decide (0<=a)&&(decide (0<=b)&&(decide (a≠b)&&decide (1<=n)))
def bq_ (f v n h:Int):Bool:=decide (W.chkT f v n=0)&&(decide (W.chk h=0)&&decide (W.count f v h<=256))
def cF_:List Int ->List Int ->Bool
 |a::b::l,r::rs=>decide (a≠b)&&(decide (1<=r)&&cF_ (b::l) rs)
 |_::_::_,[]=>false
 |_,_=>true
def bR_ (r:ba_):Bool:=(r.stops.all fun s=>decide (0<=s))&&cF_ r.stops r.rides
def a3_ (W:ab_):Bool:=(W.paths.all fun p=>wayB p.1 p.2.1 p.2.2)&&((W.doors.all fun d=>wayB d.a d.b d.len&&bq_ d.fr d.ev d.du W.hz)&&(W.routes.all bR_&&((W.trips.all fun t=>decide (0<=t.route)&&decide (t.fr<=t.un))&&W.hazs.all fun h=>decide (0<=h.on)&&bq_ h.fr h.ev h.du W.hz)))
def pN (p:bi_):List Str:=[p.name,p.a,p.b]
def dN (d:bh_):List Str:=[d.name,d.a,d.b]
def rN (r:bn_):List Str:=[r.name]++r.stops
def tN (t:bj_):List Str:=[t.name,t.route]
def hN (h:bs_):List Str:=[h.name,h.on]
def aT_ (X:ay_):List Str:=X.stops++(X.paths.flatMap pN++(X.doors.flatMap dN++(X.routes.flatMap rN++(X.trips.flatMap tN++(X.hazs.flatMap hN++[])))))
def pI (p:bi_):List Int:=[p.len]
def dI (d:bh_):List Int:=[d.len,d.fr,d.ev,d.du]
def rI (r:bn_):List Int:=r.rides++r.stays
def tI (t:bj_):List Int:=[t.fr,t.ev,t.un]
def hI (h:bs_):List Int:=[h.fr,h.ev,h.du]
def aU_ (X:ay_):List Int:=[X.hz]++(X.paths.flatMap pI++(X.doors.flatMap dI++(X.routes.flatMap rI++(X.trips.flatMap tI++(X.hazs.flatMap hI++[])))))
def cX_ (r:bn_):Bool:=decide (2<=r.stops.length)&&(decide (r.stops.length<=32)&&(decide (r.rides.length+1=r.stops.length)&&decide (r.stays.length+2=r.stops.length)))
def cG_ (X:ay_):Bool:=decide (X.stops.length<=256)&&(decide (X.paths.length<=1024)&&(decide (X.doors.length<=256)&&(decide (X.routes.length<=256)&&(decide (X.trips.length<=1024)&&decide (X.hazs.length<=256)))))
def bb_ (nm:Str ->Bool) (X:ay_):Bool:=cG_ X&&((aT_ X).all nm&&((aU_ X).all (fun x=>decide (W.chk x=0))&&X.routes.all cX_))
def inB (n:Int) (len:Nat):Bool:=decide (0<=n)&&decide (n<(len:Int))
theorem a5_ {n:Int} {len:Nat}:inB n len=true↔0<=n/\n<(len:Int):=by unfold inB;simp
def okP (W:ab_) (p:Int×Int×Int):Bool:=inB p.1 W.stops.length&&inB p.2.1 W.stops.length
def okD (W:ab_) (d:cc_):Bool:=inB d.a W.stops.length&&inB d.b W.stops.length
def okR (W:ab_) (r:ba_):Bool:=r.stops.all fun s=>inB s W.stops.length
def okT (W:ab_) (t:bM_):Bool:=inB t.route W.nRoutes.length
def okH (W:ab_) (h:HazP):Bool:=inB h.on (if h.stop then W.stops.length else W.nPaths.length)
def b2_ (W:ab_):Bool:=decide (W.nPaths.length=W.paths.length)&&(decide (W.nDoors.length=W.doors.length)&&(decide (W.nRoutes.length=W.routes.length)&&(decide (W.nTrips.length=W.trips.length)&&decide (W.nHazs.length=W.hazs.length))))
def bS_ (W:ab_):Bool:=((((b2_ W&&W.paths.all (okP W))&&W.doors.all (okD W))&&W.routes.all (okR W))&&W.trips.all (okT W))&&W.hazs.all (okH W)
def cu_ (nm:Str ->Bool) (W:ab_):Bool:=bS_ W&&(bb_ nm (b4_ W)&&(bG_ (allN (b4_ W|>numS))&&a3_ (numS (b4_ W))))
def Tk (x:Int):Prop:=0<=x/\x<=1099511627776
structure gJ_ (W:ab_):Prop where
 hz:Tk W.hz
 ns:W.stops.length<=256
 np:W.paths.length<=1024
 nd:W.doors.length<=256
 nr:W.routes.length<=256
 nt:W.trips.length<=1024
 nh:W.hazs.length<=256
 lp:W.nPaths.length=W.paths.length
 ld:W.nDoors.length=W.doors.length
 lr:W.nRoutes.length=W.routes.length
 lt:W.nTrips.length=W.trips.length
 lh:W.nHazs.length=W.hazs.length
 paths: ∀ p∈W.paths,(0<=p.1/\p.1<W.stops.length)/\(0<=p.2.1/\p.2.1<W.stops.length)/\p.1≠p.2.1/\1<=p.2.2/\p.2.2<=1099511627776
 doors: ∀ d∈W.doors,(0<=d.a/\d.a<W.stops.length)/\(0<=d.b/\d.b<W.stops.length)/\d.a≠d.b/\(1<=d.len/\d.len<=1099511627776)/\bq_ d.fr d.ev d.du W.hz=true
 routes: ∀ r∈W.routes,(2<=r.stops.length/\r.stops.length<=32)/\r.rides.length+1=r.stops.length/\r.stays.length+2=r.stops.length/\(∀ s∈r.stops,0<=s/\s<W.stops.length)/\(∀ x∈r.rides,1<=x/\x<=1099511627776)/\(∀ x∈r.stays,0<=x/\x<=1099511627776)/\ ∀ (k:Nat) a b,r.stops[k]?=some a ->r.stops[k+1]?=some b ->a≠b
 trips: ∀ t∈W.trips,(0<=t.route/\t.route<W.routes.length)/\Tk t.fr/\Tk t.ev/\Tk t.un/\t.fr<=t.un
 hazs: ∀ h∈W.hazs,(0<=h.on/\h.on<(if h.stop then W.stops.length else W.paths.length:Nat))/\bq_ h.fr h.ev h.du W.hz=true
theorem m9_ {β:Type} {f:Nat ->Option β} {n k:Nat} (h: ∀ i,i<n ->(f i).isSome) (hk:k<n):(aI_ f n)[k]?=f k:=by
 obtain⟨x,q⟩:=Option.isSome_iff_exists.1 (h k hk);rw [q]
 induction n with
 |zero=>omega
 |succ m ih=>
  obtain⟨y,p⟩:=Option.isSome_iff_exists.1 (h m (by omega));rw [bC_ p];have j:=aw_ (n:=m) (fun i z=>h i (by omega)) m (Nat.le_refl _);rcases Nat.lt_or_ge k m with g|g
  ·rw [List.getElem?_append_left (by rw [j];exact g)];exact ih (fun i z=>h i (by omega)) g
  ·obtain rfl:k=m:=by omega
   rw [List.getElem?_append_right (by rw [j];omega),j];rw [q] at p;cases p;simp
theorem fs_ (W:ab_) {i:Nat} (h:i<W.paths.length):(bO_ W i).isSome :=by unfold bO_;rw [List.getElem?_eq_getElem h];rfl
theorem fq_ (W:ab_) {i:Nat} (h:i<W.doors.length):(bN_ W i).isSome :=by unfold bN_;rw [List.getElem?_eq_getElem h];rfl
theorem ft_ (W:ab_) {i:Nat} (h:i<W.routes.length):(bJ_ W i).isSome :=by unfold bJ_;rw [List.getElem?_eq_getElem h];rfl
theorem fu_ (W:ab_) {i:Nat} (h:i<W.trips.length):(bP_ W i).isSome :=by unfold bP_;rw [List.getElem?_eq_getElem h];rfl
theorem fr_ (W:ab_) {i:Nat} (h:i<W.hazs.length):(bv_ W i).isSome :=by unfold bv_;rw [List.getElem?_eq_getElem h];rfl
theorem et_ {α β:Type} {l:List α} {f:Nat ->Option β} {x:α} {y:α ->Nat ->β} (hx:x∈l) (h: ∀ i a,l[i]?=some a ->f i=some (y a i)): ∃ i,l[i]?=some x/\y x i∈aI_ f l.length:=by
 obtain⟨i,j⟩:=List.getElem?_of_mem hx;have n:=(List.getElem?_eq_some_iff.1 j).1;refine⟨i,j,?_⟩;have g: ∀ k,k<l.length ->(f k).isSome :=fun k p=>by rw [h k l[k] (List.getElem?_eq_getElem p)];rfl
 have:=m9_ g n;rw [h i x j] at this;exact List.mem_of_getElem? this
theorem iT_: ∀ (l rs:List Int),cF_ l rs=true ->rs.length+1=l.length ->(∀ x∈rs,1<=x)/\ ∀ (k:Nat) a b,l[k]?=some a ->l[k+1]?=some b ->a≠b
 |[],rs,h,hl=>by simp at hl
 |[a],rs,h,hl=>by
  obtain rfl:rs=[]:=List.eq_nil_of_length_eq_zero (by simpa using hl);exact⟨fun x f=>(by simp at f),fun k x y n g=>(by simp at g)⟩
 |a::b::l,[],h,hl=>by simp at hl
 |a::b::l,r::rs,h,hl=>by
  unfold cF_ at h;simp only [Bool.and_eq_true,decide_eq_true_eq] at h;obtain⟨n,g,p⟩:=h;obtain⟨q,z⟩:=iT_ (b::l) rs p (by simp at hl ⊢;omega);refine⟨fun x f=>?_,fun k x y f j=>?_⟩
  ·rcases List.mem_cons.1 f with rfl|f
   ·exact g
   ·exact q x f
  ·cases k with
   |zero=>simp at f j;subst f j;exact n
   |succ k=>exact z k x y (by simpa using f) (by simpa using j)
theorem iW_ {f:Int ->Str} {g:Str ->Int}: ∀ (l rs:List Int),cF_ ((l.map f).map g) rs=true ->cF_ l rs=true
 |[],rs,h=>rfl
 |[a],rs,h=>by cases rs<;>rfl
 |a::b::l,[],h=>by simp [cF_] at h
 |a::b::l,r::rs,h=>by
  simp only [List.map_cons,cF_,Bool.and_eq_true,decide_eq_true_eq] at h ⊢;exact⟨fun e=>h.1 (by rw [e]),h.2.1,iW_ (b::l) rs h.2.2⟩
theorem pw_ (X:ay_) (h:bs_):(numH X h).fr =h.fr/\(numH X h).ev =h.ev/\(numH X h).du =h.du:=by unfold numH;split<;>exact⟨rfl,rfl,rfl⟩
theorem gw_ {nm:Str ->Bool} {W:ab_} (h:cu_ nm W=true):gJ_ W:=by
 unfold cu_ at h;simp only [Bool.and_eq_true] at h;obtain⟨X,M,hu,S⟩:=h;unfold bS_ at X;simp only [Bool.and_eq_true] at X;obtain⟨⟨⟨⟨⟨T,hP⟩,hD⟩,hR⟩,hT⟩,hH⟩:=X;unfold b2_ at T;simp only [Bool.and_eq_true,decide_eq_true_eq] at T;obtain⟨l1,l2,l3,l4,l5⟩:=T;unfold bb_ at M;simp only [Bool.and_eq_true] at M;obtain⟨G,_,hn,U⟩:=M;have eP:=aw_ (f:=bO_ W) (fun i z=>fs_ W z) _ (Nat.le_refl _);have eD:=aw_ (f:=bN_ W) (fun i z=>fq_ W z) _ (Nat.le_refl _);have eR:=aw_ (f:=bJ_ W) (fun i z=>ft_ W z) _ (Nat.le_refl _);have eT:=aw_ (f:=bP_ W) (fun i z=>fu_ W z) _ (Nat.le_refl _);have eH:=aw_ (f:=bv_ W) (fun i z=>fr_ W z) _ (Nat.le_refl _);unfold cG_ b4_ at G;simp only [Bool.and_eq_true,decide_eq_true_eq,eP,eD,eR,eT,eH] at G;obtain⟨n1,n2,n3,n4,n5,n6⟩:=G;have n: ∀ x∈aU_ (b4_ W),Tk x:=fun x q=>Go.Proofs.YtechdefolfboeaaGreatDoor.W.chk_zero (by simpa using List.all_eq_true.1 hn x q);unfold a3_ at S
 simp only [Bool.and_eq_true] at S;obtain⟨fP,fD,fR,fT,fH⟩:=S;have N: ∀ x∈(b4_ W).paths,Tk x.len:=fun x q=>n _ (by unfold aU_;simp only [List.mem_append,List.mem_flatMap];exact .inr (.inl ⟨x,q,by simp [pI]⟩));have P: ∀ x∈(b4_ W).doors,Tk x.len:=fun x q=>n _ (by unfold aU_;simp only [List.mem_append,List.mem_flatMap];exact .inr (.inr (.inl ⟨x,q,by simp [dI]⟩)));have Q: ∀ x∈(b4_ W).routes, ∀ y∈x.rides++x.stays,Tk y:=fun x q y Y=>n _ (by unfold aU_;simp only [List.mem_append,List.mem_flatMap];exact .inr (.inr (.inr (.inl ⟨x,q,by simpa [rI] using Y⟩))))
 have R: ∀ x∈(b4_ W).trips,Tk x.fr/\Tk x.ev/\Tk x.un:=fun x q=>by
  have: ∀ y∈tI x,Tk y:=fun y Y=>n _ (by unfold aU_;simp only [List.mem_append,List.mem_flatMap];exact .inr (.inr (.inr (.inr (.inl ⟨x,q,Y⟩)))));exact⟨this _ (by simp [tI]),this _ (by simp [tI]),this _ (by simp [tI])⟩
 refine⟨n _ (by unfold aU_ b4_;simp),n1,n2,n3,n4,n5,n6,l1,l2,l3,l4,l5,fun p b=>?_,fun d Z=>?_,fun r c=>?_,fun t k=>?_,fun x q=>?_⟩
 ·have g:=List.all_eq_true.1 hP p b;unfold okP at g;rw [Bool.and_eq_true,a5_,a5_] at g;obtain⟨i,z,D⟩:=et_ (f:=bO_ W) (y:=fun p i=>⟨aO_ W.nPaths i,aO_ W.stops p.1,aO_ W.stops p.2.1,p.2.2⟩) b (fun i a J=>by unfold bO_;rw [J]);have j:=List.all_eq_true.1 fP _ (List.mem_map_of_mem D);unfold wayB numP at j;simp only [Bool.and_eq_true,decide_eq_true_eq] at j;have F:=N _ D;exact⟨g.1,g.2,fun e=>j.2.2.1 (by rw [e]),j.2.2.2,F.2⟩
 ·have g:=List.all_eq_true.1 hD d Z;unfold okD at g;rw [Bool.and_eq_true,a5_,a5_] at g;obtain⟨i,z,D⟩:=et_ (f:=bN_ W) (y:=fun d i=>⟨aO_ W.nDoors i,aO_ W.stops d.a,aO_ W.stops d.b,d.len,d.fr,d.ev,d.du⟩) Z (fun i a J=>by unfold bN_;rw [J]);have j:=List.all_eq_true.1 fD _ (List.mem_map_of_mem D);unfold wayB numD at j;simp only [Bool.and_eq_true,decide_eq_true_eq] at j;have F:=P _ D;exact⟨g.1,g.2,fun e=>j.1.2.2.1 (by rw [e]),⟨j.1.2.2.2,F.2⟩,j.2⟩
 ·have g:=List.all_eq_true.1 hR r c;unfold okR at g;obtain⟨i,z,D⟩:=et_ (f:=bJ_ W) (y:=fun r i=>⟨aO_ W.nRoutes i,r.stops.map (aO_ W.stops),r.rides,r.stays⟩) c (fun i a J=>by unfold bJ_;rw [J]);have j:=List.all_eq_true.1 fR _ (List.mem_map_of_mem D);unfold bR_ numR at j;simp only [Bool.and_eq_true] at j;have F:=Q _ D;have L:=List.all_eq_true.1 U _ D;unfold cX_ at L;simp only [Bool.and_eq_true,decide_eq_true_eq,List.length_map] at L;obtain⟨s1,s2,s3,s4⟩:=L;obtain⟨q1,q2⟩:=iT_ r.stops r.rides (iW_ r.stops r.rides j.2) s3;refine⟨⟨s1,s2⟩,s3,s4,fun s M=>a5_.1 (List.all_eq_true.1 g s M),fun x q=>⟨q1 x q,(F x (by simp [q])).2⟩,fun x q=>F x (by simp [q]),q2⟩
 ·have g:=List.all_eq_true.1 hT t k;unfold okT at g;rw [a5_,l3] at g;obtain⟨i,z,D⟩:=et_ (f:=bP_ W) (y:=fun t i=>⟨aO_ W.nTrips i,aO_ W.nRoutes t.route,t.fr,t.ev,t.un⟩) k (fun i a J=>by unfold bP_;rw [J]);have j:=List.all_eq_true.1 fT _ (List.mem_map_of_mem D);rw [Bool.and_eq_true] at j;have F:=R _ D;exact⟨g,F.1,F.2.1,F.2.2,of_decide_eq_true j.2⟩
 ·have g:=List.all_eq_true.1 hH x q;unfold okH at g;rw [a5_,l1] at g;obtain⟨i,z,D⟩:=et_ (f:=bv_ W) (y:=fun h i=>⟨aO_ W.nHazs i,aO_ (if h.stop then W.stops else W.nPaths) h.on,h.fr,h.ev,h.du⟩) q (fun i a J=>by unfold bv_;rw [J]);have j:=List.all_eq_true.1 fH _ (List.mem_map_of_mem D)
  have F:bq_ x.fr x.ev x.du W.hz=true:=by
   rw [Bool.and_eq_true] at j;have L:=j.2;obtain⟨e1,e2,e3⟩:=pw_ (b4_ W) ⟨aO_ W.nHazs i,aO_ (if x.stop then W.stops else W.nPaths) x.on,x.fr,x.ev,x.du⟩;rw [e1,e2,e3] at L;exact L
  exact⟨g,F⟩
