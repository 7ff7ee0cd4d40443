/- Merged. -/
import Derived.Test.YtechdefolfboeaaGreatDoorPd46
set_option linter.unusedVariables false
set_option linter.unusedSimpArgs false
set_option maxRecDepth 100000
set_option maxHeartbeats 8000000
namespace Go.Proofs.YtechdefolfboeaaGreatDoor
open Go.RowKit B K
def cC_ (base:Nat) (w:World) (v:Value) (P:List PatP) (bo:Nat):Prop:= ∃ E:List PatE,bY_ 68 2 patE Prod.snd base w v E (P.map PatP.runs)/\E.map Prod.fst=P.map PatP.rt/\ ∀ e∈E,(Prod.snd e:SlV).v.ownBlock ≠some bo
section
variable {w w':World} {base:Nat} {v:Value} {P:List PatP} {bo:Nat}
theorem cC_.o (h:cC_ base w v P bo):a6_ base w v P:=by obtain⟨E,f,g,_⟩:=h;exact⟨E,f,g⟩
theorem cC_.below (h:cC_ base w v P bo) (hb:Below w.heap.size w w'):cC_ base w' v P bo:=by obtain⟨E,f,g,j⟩:=h;exact⟨E,f.below hb,g,j⟩
theorem a6_.x (h:a6_ base w v P) (hbo:w.heap.size<=bo):cC_ base w v P bo:=by
 obtain⟨E,f,n⟩:=h;refine⟨E,f,n,fun e p j=>?_⟩;obtain⟨k,g⟩:=List.getElem?_of_mem p;have q:k<(P.map PatP.runs).length :=by rw [<-f.inn.len];exact(List.getElem?_eq_some_iff.1 g).1
 have:=(World.ownsRow.lt (f.inn.at_ k e _ g (List.getElem?_eq_getElem q)) bo j).2;omega
theorem cC_.new (h:cC_ base w v P bo) (rt:Int) (hlen:P.length+1<=1099511627776) (hB:base<=w.heap.size):
 ∃ v' w1,(Builtin.append_ #[63,63] 63 #[v,.slice (some ⟨w.heap.size,0,none⟩) 1 1]).run Tryz.prog (w.alloc (.cells #[.int .i64 rt,.slice none 0 0] 68))= .ok v' w1/\cC_ base w1 v' (P++[⟨rt,[]⟩]) bo/\Below base w w1/\ ∀ k u,Bx w k 3 u ->Bx w1 k 3 u:=by
 obtain⟨E,z,X,L⟩:=h;have Y:E.length=P.length:=by rw [z.len,List.length_map]
 obtain⟨g,c,w1,G,y,N,aA⟩:=a7_ (enc:=patE) Tryz.underlying63 fH_ rfl (by decide) cW_ gC_ w base v E (rt,none,0,0) z.row (by omega) (by decide) hB;obtain⟨v2,w2,n,ho,M,S⟩:=a6_.new ⟨E,z,X⟩ rt hlen hB;have Z:(Builtin.append_ #[63,63] 63 #[v,.slice (some ⟨w.heap.size,0,none⟩) 1 1]).run Tryz.prog (w.alloc (.cells #[.int .i64 rt,.slice none 0 0] 68))= .ok (.slice (some ⟨g,0,none⟩) (E.length+1) c) w1:=G;rw [Z] at n
 injection n with e1 e2
 subst e1 e2;have f:=(Below.refl w.heap.size w).alloc (Nat.le_refl _) (.cells (patE (rt,none,0,0)).toArray 68);refine⟨_,w1,Z,⟨E++[(rt,none,0,0)],⟨?_,?_,?_⟩,by simp [X],fun e p=>?_⟩,M,S⟩
 ·rw [List.length_append] at y ⊢;exact y
 ·rw [List.map_append]
  have S:aD_ (fun w e l=>RowO base w (Prod.snd e) l) w1 E (P.map PatP.runs):=by
   refine⟨z.inn.len,fun k e l p Y=>?_⟩;have L:=z.inn.at_ k e l p Y;refine(aa_ L f).kept N ?_
   cases U:(Prod.snd e:SlV).v.ownBlock with
   |none=>exact .inl rfl
   |some q=>exact .inr fun d=>b7_ (aa_ z.row f) (aa_ L f) (k:=q) (by decide) U d
  exact S.snoc (RowO.nil _ _)
 ·intro i j a b R f M q D F
  have J: ∀ (i:Nat) (a:PatE),(E++[(rt,(none,0,0))])[i]?=some a ->(Prod.snd a:SlV).v.ownBlock =some q ->E[i]?=some a:=by
   intro i a f U;rcases Nat.lt_or_ge i E.length with Q|Q
   ·rwa [List.getElem?_append_left Q] at f
   ·rw [List.getElem?_append_right Q] at f;have T:i-E.length=0:=by have:=(List.getElem?_eq_some_iff.1 f).1;simp at this;omega
    rw [T] at f;simp at f;subst f;simp [SlV.v,Value.ownBlock] at U
  exact z.apart i j a b R (J i a f D) (J j b M F) q D F
 ·rcases List.mem_append.1 p with p|p
  ·exact L e p
  ·simp only [List.mem_singleton] at p;subst p;simp [SlV.v,Value.ownBlock]
theorem cC_.push (h:cC_ base w v P bo) {u:List Value} (hbo:Bx w bo 3 u) {j:Nat} {p:PatP} (hp:P[j]?=some p) (x:Int) (hlen:p.runs.length+1<=1099511627776) (hB:base<=w.heap.size):
 ∃ g c A1 c1 g' c' w2,v= .slice (some ⟨g,0,none⟩) P.length c/\base<=g/\g<w.heap.size/\P.length<=c/\c<=9223372036854775807/\w.cell? ⟨g,j*2+1,none⟩=some (.slice A1 p.runs.length c1)/\
   (Builtin.append_ #[49,49] 49 #[.slice A1 p.runs.length c1,.slice (some ⟨w.heap.size,0,none⟩) 1 1]).run Tryz.prog (w.alloc (.cells #[.int .i64 x] 3))= .ok (.slice (some ⟨g',0,none⟩) (p.runs.length+1) c') w2/\
   w2.cell? ⟨g,j*2+1,none⟩=some (.slice A1 p.runs.length c1)/\w2.frozen? ⟨g,j*2+1,none⟩=false/\Below base w (w2.setCell ⟨g,j*2+1,none⟩ (.slice (some ⟨g',0,none⟩) (p.runs.length+1) c'))/\
   Bx (w2.setCell ⟨g,j*2+1,none⟩ (.slice (some ⟨g',0,none⟩) (p.runs.length+1) c')) bo 3 u/\
   cC_ base (w2.setCell ⟨g,j*2+1,none⟩ (.slice (some ⟨g',0,none⟩) (p.runs.length+1) c')) v (P.modify j fun p=>⟨p.rt,p.runs++[x]⟩) bo:=by
 obtain⟨E,D,s,Q⟩:=h;have a:E.length=P.length:=by rw [D.len,List.length_map]
 have hj:=(List.getElem?_eq_some_iff.1 hp).1;obtain⟨e,G⟩: ∃ e,E[j]?=some e:=⟨_,List.getElem?_eq_getElem (by omega)⟩
 have M:(P.map PatP.runs)[j]?=some p.runs:=by rw [List.getElem?_map,hp];rfl
 obtain⟨g,c,hv,U,X⟩: ∃ g c,v= .slice (some ⟨g,0,none⟩) P.length c/\P.length<=c/\c<=9223372036854775807:=by
  rcases D.row.2 with⟨z,Q⟩|⟨g,S,aA,rfl,_,_,Q,R,_⟩
  ·omega
  ·exact⟨g,S,by rw [a],by omega,R⟩
 subst hv;have Z:=D.row.lt g rfl;obtain⟨A1,c1,i,q1,q2,q3⟩:=(D.inn.at_ j e _ G M).rd;have N:(Prod.snd e:SlV).v = .slice A1 p.runs.length c1:=by rw [i];rfl
 obtain⟨g',c',w2,y,b,k2,k3,kn,kb,k4⟩:=D.pushK (f:=1) (by decide) cW_ (fun e=>rfl) G M x hlen hB;have L:=Q e (List.mem_of_getElem? G);have F:=kb bo u hbo L
 have Y:g'≠bo:=fun z=>by
  rcases kn with R|R
  ·exact L (by rw [R,z])
  ·have:=hbo.lt;omega
 rw [N] at y b
 have T:w.cell? ⟨g,j*2+1,none⟩=some (.slice A1 p.runs.length c1):=by
  rw [<-N];have q:=D.row;rw [a] at q;exact(q.cellAt _ (by omega)).trans (a8_ cW_ E j e G 1 _ rfl)
 refine⟨g,c,A1,c1,g',c',w2,rfl,Z.1,Z.2,U,X,T,y,b,k2,k3,F,⟨_,by
  have:=k4 (e.1,some ⟨g',0,none⟩,p.runs.length+1,c') rfl rfl
  have r:(P.modify j fun p=>⟨p.rt,p.runs++[x]⟩).map PatP.runs=(P.map PatP.runs).set j (p.runs++[x]):=by
   refine List.ext_getElem? fun k=>?_;rw [List.getElem?_map,List.getElem?_modify,List.getElem?_set,List.getElem?_map];by_cases n:j=k
   ·subst n;simp [hj,(List.getElem?_eq_some_iff.1 hp).2]
   ·simp [n]
  rw [r];exact this,?_,fun d z=>?_⟩⟩
 ·refine List.ext_getElem? fun k=>?_;have J:(E.map Prod.fst)[k]?=(P.map PatP.rt)[k]?:=by rw [s]
  rw [List.getElem?_map,List.getElem?_map] at J;rw [List.getElem?_map,List.getElem?_set,List.getElem?_map,List.getElem?_modify];by_cases n:j=k
  ·subst n;rw [G,hp] at J;simp only [if_true,if_pos (show j<E.length by omega),Option.map_some,hp];exact J
  ·simp [n] at J ⊢;exact J
 ·rcases List.mem_or_eq_of_mem_set z with z|rfl
  ·exact Q d z
  ·show(Value.slice (some ⟨g',0,none⟩) (p.runs.length+1) c').ownBlock ≠some bo;simp [Value.ownBlock];exact Y
end
end Go.Proofs.YtechdefolfboeaaGreatDoor
namespace Go.Proofs.YtechdefolfboeaaGreatDoor.B
open Go.RowKit
theorem ir_ {P:Program} (w:World) (dT sT ty elem:TypeId) (g o dLen dCap:Nat) (a:Addr) (sLen sCap m s:Nat) (cur:Array Value) (t:TypeId) (cs:List Value)
 (hu:P.underlying dT=some (.slice elem)) (hs:(P.info? elem).map (·.size)=some s)
 (hg:w.heap[g]?=some (.cells cur t (0,0))) (hm:m=Nat.min sLen dLen) (hn:cs.length=m*s)
 (hsrc: ∀ j v,cs[j]?=some v ->w.cell? (a.add j)=some v) (hfit:o+cs.length<=cur.size) (h1: ∀ v∈cs,v.oneCell'=true):
 (Builtin.copy_ #[dT,sT] ty #[.slice (some ⟨g,o,none⟩) dLen dCap,.slice (some a) sLen sCap]).run P w=
   .ok (goInt m) (w.setRow g (cur.toList.take o++cs++cur.toList.drop (o+cs.length)).toArray):=by
 have p:=run_loadCells_list (P:=P) w a cs hsrc;have n:=run_storeCells_at P g o t cs 0 cur w hg (by simpa using hfit) h1;rw [hn] at p
 cases f:P.info? elem with
 |none=>simp [f] at hs
 |some i=>
  have q:i.size=s:=by simpa [f] using hs
  simp [Builtin.copy_,run_underlying hu,Builtin.lenOf,Builtin.firstCells,sizeOf,typeInfo,f,q, <-hm,p,n]
theorem is_ {P:Program} (w:World) (dT sT ty elem:TypeId) (d a:Option Addr) (dCap sLen sCap s:Nat) (hu:P.underlying dT=some (.slice elem)) (hs:(P.info? elem).map (·.size)=some s):
 (Builtin.copy_ #[dT,sT] ty #[.slice d 0 dCap,.slice a sLen sCap]).run P w= .ok (goInt 0) w:=by
 cases f:P.info? elem with
 |none=>simp [f] at hs
 |some i=>
  have j: ∀ (x:Addr),(loadCells x 0).run P w= .ok #[] w:=fun x=>by simpa using run_loadCells_list (P:=P) w x [] (by simp)
  have g:Nat.min sLen 0=0:=Nat.min_zero _;cases d<;>cases a<;>simp [Builtin.copy_,run_underlying hu,Builtin.lenOf,Builtin.firstCells,sizeOf,typeInfo,f,g,storeCells,j]
theorem fF_ {α:Type} {enc:α ->List Value} {size:Nat} (hs: ∀ x,(enc x).length =size): ∀ (l:List α) (k:Nat),(l.flatMap enc).take (k*size)=(l.take k).flatMap enc
 |[],k=>by simp
 |x::l,0=>by simp
 |x::l,k+1=>by
  rw [List.flatMap_cons,List.take_succ_cons,List.flatMap_cons, <-fF_ hs l k,Nat.succ_mul,Nat.add_comm (k*size), <-hs x,List.take_length_add_append]
theorem mH_ {α:Type} {P:Program} {enc:α ->List Value} {t e:TypeId} {size:Nat} (ht:P.underlying t=some (.slice e)) (hs:(P.info? e).map (·.size)=some size) (hsz:0<size) (hes: ∀ x,(enc x).length =size) (h1: ∀ x, ∀ u∈enc x,u.oneCell'=true)
 {base:Nat} {w:World} {g n c k:Nat} {l:List α} {z:α} (hl:l.length=n) (own:w.ownsRow base e size (.slice (some ⟨g,0,none⟩) (n+1) c) (n+1) ((l++[z]).flatMap enc)) (hk:k<=n) (ty:TypeId):
 ∃ (w1:World) (l':List α),(Builtin.copy_ #[t,t] ty #[.slice (cutA (some ⟨g,0,none⟩) c (k+1) size) (n+1-(k+1)) (c-(k+1)),.slice (cutA (some ⟨g,0,none⟩) c k size) (n+1-k) (c-k)]).run P w= .ok (goInt (n-k:Nat)) w1/\
   l'.length=n+1/\(∀ x,l'.set k x=l.take k++x::l.drop k)/\w1.ownsRow base e size (.slice (some ⟨g,0,none⟩) (n+1) c) (n+1) (l'.flatMap enc)/\But w w1 [g]:=by
 have D:=own;obtain⟨aA,b⟩:=own;rcases b with⟨a,_⟩|⟨g',aB,q,M,hb,N,U,hc,L,G⟩
 ·cases a
 ·cases M;rcases Nat.lt_or_ge k n with R|R
  ·have X:cutA (some ⟨g,0,none⟩) c (k+1) size=some ⟨g,(k+1)*size,none⟩:=by unfold cutA;rw [if_neg (by omega)];simp [Addr.add];exact fun h=>h.symm
   have Y:cutA (some ⟨g,0,none⟩) c k size=some ⟨g,k*size,none⟩:=by unfold cutA;rw [if_neg (by omega)];simp [Addr.add];exact fun h=>h.symm
   have f:((l.drop k).flatMap enc).length =(n-k)*size:=by rw [cz_ hes,List.length_drop,hl]
   have p:(k+1)*size+(n-k)*size=(n+1)*size:=by rw [<-Nat.add_mul];congr 1;omega
   have y:(n+1)*size<=q.size:=by rw [L];exact Nat.mul_le_mul U (Nat.le_refl _)
   have F:=ir_ (P:=P) w t t ty e g ((k+1)*size) (n+1-(k+1)) (c-(k+1)) ⟨g,k*size,none⟩ (n+1-k) (c-k) (n-k) size q e ((l.drop k).flatMap enc) ht hs N
    (by show n-k=min (n+1-k) (n+1-(k+1));omega) f (fun j v T=>by
      have Q:=(List.getElem?_eq_some_iff.1 T).1;rw [f] at Q;have Z:(⟨g,k*size,none⟩:Addr).add j=⟨g,k*size+j,none⟩:=by simp [Addr.add]
      rw [Z,cell_of_row _ _ _ _ _ _ N]
      have J:((l++[z]).flatMap enc)[k*size+j]?=some v:=by
       rw [List.flatMap_append,List.getElem?_append_left (by rw [cz_ hes,hl];have:(k*size)+(n-k)*size=n*size:=by rw [<-Nat.add_mul];congr 1;omega
                                                             omega)]
       have d:l=l.take k++l.drop k:=(List.take_append_drop k l).symm;rw [d,List.flatMap_append,List.getElem?_append_right (by rw [cz_ hes,List.length_take,hl,Nat.min_eq_left (by omega)];omega),cz_ hes,List.length_take,hl,Nat.min_eq_left (by omega),Nat.add_sub_cancel_left];exact T
      rw [<-G,List.getElem?_take] at J;split at J
      ·simpa using J
      ·cases J) (by rw [f,p];exact y) (fun v hv=>by obtain⟨x,_,S⟩:=List.mem_flatMap.1 hv;exact h1 x v S)
   refine⟨_,l.take (k+1)++l.drop k,by rw [X,Y];exact F,by rw [List.length_append,List.length_take,List.length_drop,hl,Nat.min_eq_left (by omega)];omega,fun x=>?_,⟨?_,.inr ⟨g,c,_,rfl,hb,setRow_heap w g _ _ e _ N,U,hc,?_,?_⟩⟩,⟨rfl,rfl,rfl,by simp,fun i hi S=>setRow_other w g i _ (fun e=>S (by simp [e]))⟩⟩
   ·have s:(l.take (k+1)).set k x=l.take k++[x]:=by
     rw [List.take_succ_eq_append_getElem (by omega),List.set_append_right _ _ (by rw [List.length_take];omega)];simp [List.length_take,hl,Nat.min_eq_left (show k<=n by omega)]
    rw [List.set_append_left _ _ (by rw [List.length_take,hl];omega),s];simp
   ·rw [cz_ hes,List.length_append,List.length_take,List.length_drop,hl,Nat.min_eq_left (by omega)];congr 1;omega
   ·rw [f,p,List.size_toArray,List.length_append,List.length_append,List.length_take,List.length_drop,f,Array.length_toList];rw [Nat.min_eq_left (by omega)];omega
   ·rw [f,p];simp only [List.toList_toArray]
    have r:(q.toList.take ((k+1)*size))=(l.take (k+1)).flatMap enc:=by
     have:q.toList.take ((k+1)*size)=(q.toList.take ((n+1)*size)).take ((k+1)*size):=by rw [List.take_take,Nat.min_eq_left (by omega)]
     rw [this,G,fF_ hes,List.take_append_of_le_length (by omega)]
    have h8:(q.toList.take ((k+1)*size)++(l.drop k).flatMap enc).length =(n+1)*size:=by
     rw [List.length_append,f,List.length_take,Array.length_toList,Nat.min_eq_left (by omega),p]
    rw [List.take_append_of_le_length (by omega),List.take_of_length_le (by omega),r, <-List.flatMap_append]
  ·obtain rfl:k=n:=by omega
   refine⟨w,l++[z],?_,by simp [hl],fun x=>?_,D,But.refl _ _⟩
   ·rw [Nat.sub_self,Nat.sub_self];exact is_ w t t ty e _ _ _ _ _ size ht hs
   ·rw [List.set_append_right _ _ (by omega),hl,Nat.sub_self,List.take_of_length_le (by omega),List.drop_eq_nil_of_le (by omega)];rfl
def eD_ {α:Type} (l:List α) (k:Nat) (x:α):List α:=l.take k++x::l.drop k
end Go.Proofs.YtechdefolfboeaaGreatDoor.B
namespace Go.Proofs.YtechdefolfboeaaGreatDoor
open Go.RowKit B K
section
variable {M:ab_} {L:List RunP} {rt:Int}
theorem hX_ {α:Type} (l:List α) (k:Nat) (x:α):(eD_ l k x).Perm (l++[x]):=by
 unfold eD_;refine List.perm_middle.trans ?_;rw [List.take_append_drop];exact(List.perm_append_singleton x l).symm
theorem nD_ {α:Type} (l:List α) (k:Nat) (x:α):(eD_ l k x).length =l.length+1:=by rw [(hX_ l k x).length_eq];simp
theorem jD_ {S:List Int} {k:Nat} {c:Int} (hs:S.Pairwise fun a b=>ltR L b a=false) (hk:k<=S.length) (hge: ∀ (j:Nat) x,k<=j ->S[j]?=some x ->ltR L c x=true) (hlt: ∀ x,0<k ->S[k-1]?=some x ->ltR L c x=false):(eD_ S k c).Pairwise fun a b=>ltR L b a=false:=by
 unfold eD_;have J:(S.take k++S.drop k).Pairwise fun a b=>ltR L b a=false:=by rw [List.take_append_drop];exact hs
 obtain⟨M,N,P⟩:=List.pairwise_append.1 J;refine List.pairwise_append.2 ⟨M,List.pairwise_cons.2 ⟨fun b g=>?_,N⟩,fun a D b g=>?_⟩
 ·obtain⟨j,f⟩:=List.getElem?_of_mem g;rw [List.getElem?_drop] at f;exact kn_ (hge _ b (by omega) f)
 ·rcases List.mem_cons.1 g with rfl|g
  ·obtain⟨j,f⟩:=List.getElem?_of_mem D;rw [List.getElem?_take] at f;split at f
   ·rename_i aA;obtain⟨y,p⟩: ∃ y,S[k-1]?=some y:=⟨_,List.getElem?_eq_getElem (by omega)⟩
    have q:=hlt y (by omega) p;by_cases n:j=k-1
    ·subst n;rw [f] at p;cases p;exact q
    ·obtain⟨Q,F⟩:=List.getElem?_eq_some_iff.1 f;obtain⟨R,G⟩:=List.getElem?_eq_some_iff.1 p;have z:=List.pairwise_iff_getElem.1 hs j (k-1) Q R (by omega);rw [F,G] at z;exact hC_ q z
   ·cases f
  ·exact P a D b g
def eE_ (L:List RunP) (S:List Int) (n:Int) (k:Nat):Bool:=match S[k-1]? with
 |some x=>ltR L n x
 |none=>false
def plcR (M:ab_) (L:List RunP) (rt:Int) (i:Nat):List Int:=(natI i).filter fun n=>decide (rtOf M L n=rt)
theorem pV_ (i:Nat):natI (i+1)=natI i++[(i:Int)]:=by unfold natI;rw [List.range_succ,List.map_append];rfl
theorem oe_ {i:Nat} (h:rtOf M L (i:Int)=rt):plcR M L rt (i+1)=plcR M L rt i++[(i:Int)]:=by
 unfold plcR;rw [pV_,List.filter_append];simp [h]
theorem oZ_ {i:Nat} (h:rtOf M L (i:Int)≠rt):plcR M L rt (i+1)=plcR M L rt i:=by
 unfold plcR;rw [pV_,List.filter_append];simp [h]
theorem ja_ {i:Nat} {n:Int} (h:n∈plcR M L rt i):n∈natI i:=(List.mem_filter.1 h).1
theorem i9_ (i:Nat):(plcR M L rt i).length <=i:=Nat.le_trans (List.length_filter_le _ _) (by unfold natI;simp)
theorem nX_ {i j:Nat} (h:i<=j) {n:Int} (hn:n∈natI i):n∈natI j:=by rw [aY_] at*;omega
theorem oW_ {S:List Int} (hp:S.Perm (plcR M L rt L.length)) (hs:S.Pairwise fun a b=>ltR L b a=false):S=srtR L (bE_ M L rt):=eS_ hp hs
def dH_ (M:ab_) (L:List RunP) (rt:Nat):List PatP:=(List.range rt).flatMap (co_ M L)
theorem gN_ (rt:Nat):dH_ M L (rt+1)=dH_ M L rt++co_ M L rt:=by unfold dH_;rw [List.range_succ,List.flatMap_append,List.flatMap_singleton]
theorem hR_:dH_ M L M.routes.length=cV_ M L:=rfl
theorem nv_ {a b:Nat} (h:a<=b):(dH_ M L a).length <=(dH_ M L b).length :=by
 induction b with
 |zero=>obtain rfl:a=0:=by omega
        exact Nat.le_refl _
 |succ b ih=>
  rcases Nat.lt_or_ge a (b+1) with f|f
  ·rw [gN_,List.length_append];have:=ih (by omega);omega
  ·obtain rfl:a=b+1:=by omega
   exact Nat.le_refl _
theorem l9_ (hF:FitL M L) {a:Nat} (h:a<=M.routes.length):(dH_ M L a).length <=L.length:=Nat.le_trans (nv_ h) (by rw [hR_];exact fK_ hF)
theorem io_ {D P:List PatP} {j:Nat} {f:PatP ->PatP}:(D++P).modify (D.length+j) f=D++P.modify j f:=by
 induction D with
 |nil=>simp
 |cons d D ih=>rw [List.cons_append,List.length_cons,show D.length+1+j=(D.length+j)+1 by omega,List.modify_succ_cons,ih];rfl
theorem hM_ {D P:List PatP} {j:Nat}:(D++P)[D.length+j]?=P[j]?:=by rw [List.getElem?_append_right (by omega),show D.length+j-D.length=j by omega]
def ec_ (L:List RunP) (P:List PatP) (n:Int) (j:Nat):Prop:= ∀ i,i<j ->cf_ L P n i=false
theorem jN_ (P:List PatP) (n:Int):ec_ L P n 0:=fun i h=>absurd h (by omega)
theorem jM_ {P:List PatP} {n:Int} {j:Nat} (h:ec_ L P n j) (hj:cf_ L P n j=false):ec_ L P n (j+1):=fun i hi=>by
 rcases Nat.lt_or_ge i j with f|f
 ·exact h i f
 ·obtain rfl:i=j:=by omega
  exact hj
theorem jO_ {P:List PatP} {n:Int} (h:ec_ L P n P.length):cb_ L rt P n=P++[⟨rt,[n]⟩]:=
 h7_ (by rw [cx_ fun y f=>h y (List.mem_range.1 f)];decide)
theorem jP_ {P:List PatP} {n:Int} {j:Nat} (h:ec_ L P n j) (hj:j<P.length) (hm:cf_ L P n j=true):cb_ L rt P n=P.modify j fun p=>⟨p.rt,p.runs++[n]⟩:=by
 have g:idx (cf_ L P n) (List.range P.length)=((j:Nat):Int):=cn_ (List.getElem?_range hj) (fun y D=>h y (by
  obtain⟨i,f⟩:=List.getElem?_of_mem D;rw [List.getElem?_take] at f;split at f
  ·rw [List.getElem?_range (by omega)] at f;cases f;assumption
  ·cases f)) hm
 obtain⟨F,p,q,_,z⟩:=g4_ (L:=L) (P:=P) (n:=n) (rt:=rt) (by rw [g];omega);obtain rfl:F=j:=by rw [g] at q;omega
 exact z
theorem mG_ {w:World} {base:Nat} {v:Value} {S:List Int} (h:w.ownsRow base 3 1 v S.length (S.flatMap (numE .i64))):
 ∃ (bo:Nat) (cur:List Value) (A:Option Addr) (c:Nat),v= .slice A S.length c/\base<=bo/\(0<S.length ->Bx w bo 3 cur)/\ ∀ w',(0<S.length ->Bx w' bo 3 cur) ->Rd w' 1 (numE .i64) A S.length S:=by
 rcases h.2 with⟨rfl,j⟩|⟨g,f,cur,rfl,p,D,F,z,n,G⟩
 ·exact⟨base,[],none,0,by rw [j],Nat.le_refl _,fun h=>absurd h (by omega),fun w' _=>⟨rfl,fun h=>absurd h (by omega)⟩⟩
 ·refine⟨g,cur.toList,_,f,rfl,p,fun _=>by show _=_;rw [D],fun w' J=>?_⟩;rcases Nat.eq_zero_or_pos S.length with j|j
  ·exact⟨rfl,fun h=>absurd h (by omega)⟩
  ·have q:w'.heap[g]?=some (.cells cur 3 (0,0)):=by have:=J j;rw [show w'.heap[g]?=_ from this]
   have y:w'.ownsRow base 3 1 (.slice (some ⟨g,0,none⟩) S.length f) S.length (S.flatMap (numE .i64)):=⟨h.1,.inr ⟨g,f,cur,rfl,p,q,F,z,n,G⟩⟩
   obtain⟨A',c',e,r,_⟩:=Rd.of_own aj_ rfl y;cases e;exact r
end
theorem iR_ (A:Option Addr) (n c k:Nat) (hk:k<=n) (W:World):(Instr.slice 49 (.slice A n c) (some (.int .i64 (k:Int))) none none).run Tryz.prog W= .ok (.slice (cutA A c k 1) (n-k) (c-k)) W:=
 o7_ (P:=Tryz.prog) (t:=49) (e:=3) (s:=1) Tryz.underlying49 (by kernel_rfl) (fun W=>by simp [go_sem]) A n c k hk .i64 W
theorem iL_ (l:List Int) (k:Nat) (x:Int) (hk:k<l.length):(l.flatMap (numE .i64)).set k (.int .i64 x)=(l.set k x).flatMap (numE .i64):=by
 induction l generalizing k with
 |nil=>simp at hk
 |cons y l ih=>
  cases k with
  |zero=>rfl
  |succ k=>
   rw [List.set_cons_succ,List.flatMap_cons,List.flatMap_cons, <-ih k (by simpa using hk)];rfl
theorem jW_ (M:ab_) (V:WV) (A:Option Addr) (n c:Nat) (L:List RunP) (we:World) (hr:RW we M V) (hf:Few M) (hL:be_ we A n L) (hn:n<=10000):
 Calls Tryz.prog 49 #[wVal M V,.slice A n c] we (lF_ (resP M L) (errC M L) we):=by
 have bD:=H_ (fun w h1 h2=>je_ M V A n c L w h1 hf h2 (by omega));obtain⟨w1,b1,hT,cZ,iP,eR,B1,jX⟩:=eW we 31 M V;obtain⟨a0,a1,a2,a3,a4,a5,aP,aD,aR,aT,aH,n0,n1,n2,n3,n4,n5,nP,nD,nR,nT,nH,c0,c1,c2,c3,c4,c5,cP,cD,cR,cT,cH⟩:=V;have cQ:=H_ hr;have bA:=H_ hL;have d:=H_ hL.len;have kR:nR<=100000:=by have h1:M.routes.length=nR:=hr.rR.len;have:=hf.sR;omega
 simp only [wVal] at*;obtain⟨p0,p1,p2,p3,p4,p5,p6,p7,p8,p9,jO,jP⟩:=c_12 B1;have fB:=H_ B1;obtain⟨R,hR⟩:=e_ (resP M L);obtain⟨ec,cJ⟩:=e_ (errC M L);rw [cJ] at bD;rw [hR,cJ];have dZ:=H_ hR;have bK:=H_ cJ;clear B1 iP hr hL hR cJ;go_enter Tryz.func49,Tryz.ntmps49;go_wp2_with fail;refine(bD.o w1 (cQ.o.below eR.o) (bA.o.below eR.o)).mono ?_;rintro e w2 ⟨rfl,eE⟩;have h2:=h_ eR eE;have iD:=H_ (fB.o.below eE);clear bD eE fB p0 p1 p2 p3 p4 p5 p6 p7 p8 p9 jO jP;by_cases he:ec=0
 ·subst he;have he:=bK.o;have dK: ¬ 16384<L.length:=by rw [d.o];omega
  have aS:=H_ (eT_ dK he);have hD:Hd (f1_ L):=fun r hr=>by have h1:=(aS.o.fit r hr).pos;have h2:=(aS.o.fit r hr).ld;omega
  have bP:Hd (cV_ M L=R):=by show _=_;rw [<-dZ.o];unfold resP;rw [if_pos he]
  clear he bK dZ dK;have gJ:=H_ (fun w (h:Below we.heap.size we w) a b h1 h2=>ji_ A n c L w (bA.o.below h) (by omega) hD.o a b h1 h2);have fM:Hd (a6_ w2.heap.size w2 (.slice none 0 0) (dH_ M L 0)):=a6_.nil;have T:Hd (Below w2.heap.size w2 w2):=Below.refl _ _;have fR:Hd (M.routes.length=nR):=cQ.o.rR.len
  go_wp2
  clear hT cZ;go_loopw [7,8] (fun v iv wr=> ∃ rt:Nat,rt<=nR/\iv= .int .i64 rt/\Hd (a6_ w2.heap.size wr v (dH_ M L rt))/\Hd (Below w2.heap.size w2 wr)) (fun _ iv _=>nR-(intOf iv).toNat)
  ·exact⟨0,Nat.zero_le _,rfl,fM,T⟩
  ·rename World=>wo
   clear fM T;obtain⟨rt,kU,rfl,cF,aE⟩:=hrel;have hV:=h_ h2 aE.o;have fC:=H_ (iD.o.below aE.o);have x9:=fC.o.cell 9 rfl;by_cases kT:rt<nR
   ·have kG:(rt:Int)<(nR:Int):=by omega
    have dQ:Hd (wo.ownsRow wo.heap.size 3 1 (.slice none 0 0) ([]:List Int).length (([]:List Int).flatMap (numE .i64))):=World.ownsRow_nil _ _ _ _;have gX:Hd (([]:List Int).Perm (plcR M L rt 0)):=List.Perm.nil;have hJ:Hd (([]:List Int).Pairwise fun a b=>ltR L b a=false):=List.Pairwise.nil;have T:Hd (Below wo.heap.size wo wo):=Below.refl _ _
    go_wp2
    clear x9;go_loopw [9,10] (fun v jv wr=> ∃ (i:Nat) (S:List Int),i<=n/\jv= .int .i64 i/\Hd (wr.ownsRow wo.heap.size 3 1 v S.length (S.flatMap (numE .i64)))/\Hd (S.Perm (plcR M L rt i))/\Hd (S.Pairwise fun a b=>ltR L b a=false)/\Hd (Below wo.heap.size wo wr)) (fun _ jv _=>n-(intOf jv).toNat)
    ·exact⟨0,[],Nat.zero_le _,rfl,dQ,gX,hJ,T⟩
    ·rename World=>wi
     clear dQ gX hJ T;obtain⟨i,S,hi,rfl,own,s,hs,hb⟩:=hrel;have eT:=h_ hV hb.o;by_cases iW:i<n
     ·have jY:(i:Int)<(n:Int):=by omega
      obtain⟨bL,oL,r,X1,n1,d1,X2,n2,d2,rfl,U,hx,t0,t1,t2,t3,r1,r2,_,_⟩:=bA.o.get iW;obtain⟨kt,q,iG,hq,hE,jC⟩:=d8_ aS.o hx;have iY:kt<nT:=by have h1:M.trips.length=nT:=cQ.o.rT.len;have:=(List.getElem?_eq_some_iff.1 hq).1;omega
      obtain⟨bT,oT,q',rfl,gC,hB,gG⟩:=cQ.o.rT.get iY;obtain rfl:q=q':=Option.some.inj (hq.symm.trans hB);have z0:=gG 0 _ rfl;have jZ:(kt:Int)<(nT:Int):=by omega
      rw [iG] at t0;rw [hE,Nat.add_zero] at z0;obtain⟨rq,eP⟩:=e_ (rtOf M L (i:Int));rw [eP] at z0;have dO:=H_ eP;have dR:=H_ (fC.o.below hb.o);have fA:=dR.o.cell 10 rfl;have eX:=dR.o.lt;have iN:S.length<=i:=by have h1:=s.o.length_eq;have h2:=i9_ (M:=M) (L:=L) (rt:=rt) i;omega
      clear hq hB gG hE eP jC t1 t2 t3 r1 r2 hx dR;by_cases bS:rq=(rt:Int)
      ·subst bS;have jD:((rt:Int) !=(rt:Int))=false:=by simp
       have aJ:Hd (plcR M L rt (i+1)=plcR M L rt i++[(i:Int)]):=oe_ dO.o
       go_wp2
       refine wb_ wi.heap.size ?_;intro C hC
       repeat(go_big_quiet_step (first
        |((intro _;with_reducible rfl))
        |(intro hc;have f:=b_ eT hc;simp only [c_ hc eX fA,c_ f U t0,c_ f gC z0,Result.andThen];exact⟨trivial,rfl⟩)
       ))
       intro w9 z;clear hC;have aU:=h_ hb z;have hU:=h_ eT z;obtain⟨Ao,co,Z,ro,kK,jV⟩:=Rd.of_own aj_ rfl own.o;subst Z;have bY:=H_ (aa_ own.o z);have jR:=H_ (ro.below z);clear own ro z t0 z0 fA eX hb;have T:Hd (Below w9.heap.size w9 w9):=Below.refl _ _;have dB:Hd (∀ (j:Nat) x,S.length<=j ->S[j]?=some x ->ltR L (i:Int) x=true):=fun j x hj hx=>by have:=(List.getElem?_eq_some_iff.1 hx).1;omega
       go_wp2
       go_loopw [11] (fun kv wk=> ∃ k:Nat,k<=S.length/\kv= .int .i64 k/\Hd (∀ (j:Nat) x,k<=j ->S[j]?=some x ->ltR L (i:Int) x=true)/\Hd (Below w9.heap.size w9 wk)) (fun kv _=>(intOf kv).toNat)
       ·exact⟨S.length,Nat.le_refl _,rfl,dB,T⟩
       ·clear dB T;obtain⟨k,hk,rfl,cL,bG⟩:=hrel;go_upto_region 14 with fail;go_cut [59] (fun v wx=>v= .bool (decide (0<k)&&eE_ L S (i:Int) k)/\Hd (Below w9.heap.size w9 wx))
        ·rcases Nat.eq_zero_or_pos k with aG|aG
         ·subst aG;have e0:decide ((0:Int)<((0:Nat):Int))=false:=by decide
          go_wp2
          go_meet
          exact⟨rfl,bG⟩
         ·obtain⟨Q,rfl⟩: ∃ Q,k=Q+1:=⟨k-1,by omega⟩
          obtain⟨bo,oo,x,rfl,aE,hx,gx⟩:=jR.o.num (show Q<S.length by omega);have fE:=c_ bG.o aE gx;have aB:ltR L (i:Int) x=(decide (0<Q+1)&&eE_ L S (i:Int) (Q+1)):=by unfold eE_;rw [Nat.add_sub_cancel,hx];simp
          have jL:=nX_ (show i<=L.length by rw [d.o];omega) (ja_ (s.o.mem_iff.1 (List.mem_of_getElem? hx)));have iV:(i:Int)∈natI L.length:=aY_.2 ⟨by omega,by rw [d.o];omega⟩;have jH:=h_ hU bG.o;have aV:=H_ (gJ.o wr jH.o (i:Int) x iV jL);rw [aB] at aV;have kE:=H_ aB;obtain⟨v,Z⟩:=e_ ((decide (0<Q+1)&&eE_ L S (i:Int) (Q+1)));rw [Z] at aV;have jE:=H_ Z;have aW:decide ((0:Int)<((Q+1:Nat):Int))=true:=T_ (by omega);have kA:decide ((0:Int)<(Q:Int)+1)=true:=T_ (by omega);have kB:decide (0<Q+1)=true:=T_ (by omega);have dE:IntKind.i64.wrap (((Q+1:Nat):Int)-1)=(Q:Int):=by rw [show((Q+1:Nat):Int)-1=(Q:Int) by omega];exact IntWalk.i64_in _ (by omega)
          have iX:(Q:Int)<(S.length:Int):=by omega
          clear hx aB Z gx;go_wp2_with fail;refine aV.o.mono ?_;rintro e w5 ⟨rfl,bE⟩;have F:=h_ bG bE;clear bE aV
          go_wp2
          go_meet
          exact⟨congrArg Value.bool jE.o.symm,F⟩
        ·obtain⟨rfl,F⟩:=hcut;clear bG;by_cases Z:(decide (0<k)&&eE_ L S (i:Int) k)=true
         ·obtain⟨aG,aB⟩:=Bool.and_eq_true_iff.1 Z;obtain⟨Q,rfl⟩: ∃ Q,k=Q+1:=⟨k-1,by have:=of_decide_eq_true aG;omega⟩
          have gL:Hd (∀ (j:Nat) x,Q<=j ->S[j]?=some x ->ltR L (i:Int) x=true):=fun j x hj hx=>by
           rcases Nat.lt_or_ge Q j with h|h
           ·exact cL.o j x h hx
           ·obtain rfl:j=Q:=by omega
            unfold eE_ at aB;rw [Nat.add_sub_cancel,hx] at aB;exact aB
          have dE:IntKind.i64.wrap (((Q+1:Nat):Int)-1)=(Q:Int):=by rw [show((Q+1:Nat):Int)-1=(Q:Int) by omega];exact IntWalk.i64_in _ (by omega)
          rw [Z];clear Z aG aB cL
          go_wp2
          go_roundw
          ·exact⟨Q,by omega,by go_num,gL,F⟩
          ·simp [intOf]
         ·have G:(decide (0<k)&&eE_ L S (i:Int) k)=false:=by simpa using Z
          have gR:Hd (∀ x,0<k ->S[k-1]?=some x ->ltR L (i:Int) x=false):=fun x aG hx=>by
           rw [T_ aG,Bool.true_and] at G;unfold eE_ at G;rw [hx] at G;exact G
          rw [G];have hM:=H_ (jD_ hs.o hk cL.o gR.o)
          have hA:Hd ((eD_ S k (i:Int)).Perm (plcR M L rt (i+1))):=by
           show List.Perm _ _;rw [aJ.o];exact(hX_ S k _).trans (s.o.append_right _)
          clear Z G cL gR;have bZ:=aa_ bY.o F.o;have aL:=b_ aU F.o;obtain⟨g,c8,w8,bU,aO,dC,iU⟩:=a7_ (enc:=numE .i64) Tryz.underlying49 eb_ rfl (by decide) aj_ bw_ wc wo.heap.size _ S 0 bZ (by omega) (by decide) aL.size;have ha:=(Below.refl wc.heap.size wc).alloc (Nat.le_refl _) (.cells (numE .i64 0).toArray 3);have aC:Below wo.heap.size wo w8:=(u_ aL ha).grown dC (Nat.le_trans aL.size ha.size) (fun q hq=>(bZ.lt q hq).1);rw [List.length_append,List.length_singleton] at aO;have gK:=(aO.lt g rfl).1;have eZ:=H_ aO;have fX:=H_ aC;simp only [numE] at bU;clear aO aC bZ aL dC iU ha;go_wp2_with (at_builtin;refine ap_ (.tmp 62) (.tmp 63) 49 bU ?_);obtain⟨Q1,dX⟩:=e_ (cutA (some ⟨g,0,none⟩) c8 (k+1) 1);obtain⟨Q2,dY⟩:=e_ (cutA (some ⟨g,0,none⟩) c8 k 1);obtain⟨N1,dV⟩:=e_ (S.length+1-(k+1));obtain⟨N2,dW⟩:=e_ (S.length+1-k);obtain⟨C1,dT⟩:=e_ (c8-(k+1));obtain⟨C2,dU⟩:=e_ (c8-k)
          have bJ: ∀ W,(Instr.slice 49 (.slice (some ⟨g,0,none⟩) (S.length+1) c8) (some (.int .i64 ((k:Int)+1))) none none).run Tryz.prog W= .ok (.slice Q1 N1 C1) W:=fun W=>by
           have h:=iR_ (some ⟨g,0,none⟩) (S.length+1) c8 (k+1) (by omega) W;rw [dX,dV,dT,show(((k+1:Nat)):Int)=(k:Int)+1 by omega] at h;exact h
          have aF:=iR_ (some ⟨g,0,none⟩) (S.length+1) c8 k (by omega);simp only [dY,dW,dU] at aF
          go_wp2
          refine wl_ [0,0,0,0,0,0,0,2] ?_;intro C hC;simp only [af_,Nat.reduceEqDiff, ↓reduceIte]
          repeat(go_big_quiet_step (first
           |(intro _;with_reducible rfl)
           |(intro hc;simp only [bJ,Result.andThen];exact⟨trivial,rfl⟩)
           |(intro hc;simp only [aF,Result.andThen];exact⟨trivial,rfl⟩)))
          clear hC;intro C' dS;clear dS;intro wy eH;have cY:=h_ fX eH;obtain⟨wA,l',eQ,gP,hK,aQ,dA⟩:=mH_ (enc:=numE .i64) (k:=k) (n:=S.length) Tryz.underlying49 (by kernel_rfl) (by decide) aj_ bw_ rfl (aa_ eZ.o eH) hk 3;simp only [dX,dY,dV,dW,dT,dU] at eQ;clear dX dY dV dW dT dU;have eF:=cY.o.trans (dA.below cY.o.size (m_ gK));obtain⟨A3,c3,e3,r3,_,_⟩:=Rd.of_own aj_ gP aQ;cases e3;obtain⟨bb,o3,uc,iJ,_,_,sc⟩:=r3.num (k:=k) (by omega);cases iJ
          have eY:Hd ((wA.setCell ⟨g,k,none⟩ (.int .i64 (i:Int))).ownsRow wo.heap.size 3 1 (.slice (some ⟨g,0,none⟩) (S.length+1) c8) (eD_ S k (i:Int)).length ((eD_ S k (i:Int)).flatMap (numE .i64))):=by
           show World.ownsRow _ _ _ _ _ _ _;have h9:=(aQ.stored k (.int .i64 (i:Int))).1;rw [iL_ l' k (i:Int) (by rw [gP];omega),hK] at h9;rw [nD_];exact h9
          have fV:Hd (Below wo.heap.size wo (wA.setCell ⟨g,k,none⟩ (.int .i64 (i:Int)))):=eF.trans ((But.of_set wA ⟨g,k,none⟩ (.int .i64 (i:Int)) (X:=[g]) (by simp)).below eF.size (m_ gK));have m0:=aQ.frozenAt k;simp only [Nat.zero_add] at sc;have iX:(k:Int)<(S.length:Int)+1:=by omega
          have kM:(k:Int)<((S.length+1:Nat):Int):=by omega
          clear bJ aF eH aQ dA r3 eF
          go_wp2
          go_roundw
          ·exact⟨i+1,_,by omega,by go_num,eY,hA,hM,fV⟩
          ·simp [intOf];omega
      ·have jD:(rq !=(rt:Int))=true:=by simp [bS]
       have aJ:Hd (plcR M L rt (i+1)=plcR M L rt i):=oZ_ (by rw [dO.o];exact bS)
       go_wp2
       refine wb_ wi.heap.size ?_;intro C hC
       repeat(go_big_quiet_step (first
        |((intro _;with_reducible rfl))
        |(intro hc;have f:=b_ eT hc;simp only [c_ hc eX fA,c_ f U t0,c_ f gC z0,Result.andThen];exact⟨trivial,rfl⟩)
       ))
       intro w9 z;clear hC;have aU:=h_ hb z;have bY:=H_ (aa_ own.o z);have jA:Hd (S.Perm (plcR M L rt (i+1))):=by show S.Perm _;rw [aJ.o];exact s.o
       clear z
       go_wp2
       go_roundw
       ·exact⟨i+1,S,by omega,by go_num,bY,jA,hs,aU⟩
       ·simp [intOf];omega
     ·obtain rfl:i=n:=by omega
      have hS:S=srtR L (bE_ M L rt):=oW_ (by have:=s.o;rw [<-d.o] at this;exact this) hs.o;have gU:Hd (co_ M L rt=ofL L rt S):=by show _=_;unfold co_;rw [hS]
      have cX:Hd (∀ x∈S,x∈natI L.length):=fun x hx=>by have:=ja_ (s.o.mem_iff.1 hx);rw [d.o];exact this
      have iN:S.length<=i:=by have h1:=s.o.length_eq;have h2:=i9_ (M:=M) (L:=L) (rt:=rt) i;omega
      obtain⟨bo,cA,Ao,co,Z,gD,fK,hF⟩:=mG_ own.o;subst Z;have aU:=h_ aE hb.o;have hO:=H_ (gN_ (M:=M) (L:=L) rt);have hX:=H_ ((cF.o.x (bo:=bo) gD).below hb.o);have cV:=H_ fK;have dM:=H_ hF;have cE:=H_ (l9_ (a:=rt) aS.o (by rw [fR.o];omega));obtain⟨D,fL⟩:=e_ (dH_ M L rt);rw [fL] at hX hO cE;obtain⟨Av,cv,ev,_,_,_⟩:=hX.o.o.m.pats;obtain⟨dN,eJ⟩:=e_ D.length;rw [eJ] at ev cE;subst ev;have Y:=H_ eJ;have fH:Hd (∀ r∈L,r.arr.length<=100000/\r.dep.length<=100000):=fun r hr=>by have h0:=db_ hf r.trip;have h1:=(aS.o.fit r hr).la;have h2:=(aS.o.fit r hr).ld;omega
      have jU:S.length<=10000:=by omega
      have cW:Hd (L.length<=10000):=by show _<=_;rw [d.o];omega
      clear hS own s hs fK hF cF hb aE fL eJ hf;have fS:Hd (cC_ w2.heap.size wi (.slice Av dN cv) (D++ofL L rt (S.take 0)) bo):=by rw [List.take_zero];show cC_ _ _ _ (D++[]) _;rw [List.append_nil];exact hX.o
      go_wp2
      go_loopw [7,13] (fun v jv wr=> ∃ j:Nat,j<=S.length/\jv= .int .i64 j/\Hd (cC_ w2.heap.size wr v (D++ofL L rt (S.take j)) bo)/\Hd (0<S.length ->Bx wr bo 3 cA)/\Hd (Below w2.heap.size w2 wr)) (fun _ jv _=>S.length-(intOf jv).toNat)
      ·exact⟨0,Nat.zero_le _,rfl,fS,cV,aU⟩
      ·rename World=>wj
       clear fS cV aU hX;obtain⟨j,hj,rfl,bC,fJ,eG⟩:=hrel;have jG:=h_ h2 eG.o;by_cases gN:j<S.length
       ·have kL:(j:Int)<(S.length:Int):=by omega
        obtain⟨bO,oO,x,iK,fZ,hx,gx⟩:=(dM.o wj fJ.o).num gN;subst iK;have bW:=cX.o x (List.mem_of_getElem? hx);have aK:=aY_.1 bW;obtain⟨kx,rfl⟩:=Int.eq_ofNat_of_zero_le aK.1;have dF:kx<i:=by have:=aK.2;rw [d.o] at this;omega
        have kC:(kx:Int)<(i:Int):=by omega
        have jK:=H_ bW;have hP:Hd (ofL L rt (S.take (j+1))=cb_ L rt (ofL L rt (S.take j)) (kx:Int)):=by show _=_;rw [an_ hx,gA_]
        have cK:=H_ (h6_ (L:=L) (rt:=rt) (l:=S.take j) (fun y hy=>cX.o y (List.mem_of_mem_take hy)));have fP:(ofL L rt (S.take j)).length <=j:=Nat.le_trans cK.o.2 (by rw [List.length_take];omega);have eO:Hd (∀ p∈ofL L rt (S.take j),p.runs.length<=10000):=fun p s=>by have:=(cK.o.1 p s).2.2;rw [List.length_take] at this;omega
        obtain⟨P,fO⟩:=e_ (ofL L rt (S.take j));rw [fO] at bC hP cK fP eO;obtain⟨Aw,cw,ev,rP,_,_⟩:=bC.o.o.m.pats;obtain⟨mN,eL⟩:=e_ ((D++P).length);rw [eL] at ev rP;subst ev;obtain⟨pN,cO⟩:=e_ P.length;have dH:mN=dN+pN:=by rw [<-eL,List.length_append,Y.o,cO]
        rw [cO] at fP;have iS:dN<=mN:=by omega
        have iR:=cE.o;have gQ:=cW.o;have kO:mN<=20000:=by omega
        have bM:=H_ dH;have J:=H_ cO;have jQ:=H_ rP;have jJ:=H_ hx;have iI:=H_ gx;have dL:Hd (ec_ L P (kx:Int) 0):=jN_ P _;have T:Hd (Below wj.heap.size wj wj):=Below.refl _ _;have dD:Hd (dN=dN+0):=rfl;clear fO rP hx gx eL cO dH bW aK iR gQ
        go_wp2
        go_loopw [14] (fun av wr=> ∃ t k:Nat,av= .int .i64 t/\Hd (t=dN+k)/\t<=mN/\Hd (ec_ L P (kx:Int) k)/\Hd (Below wj.heap.size wj wr)) (fun av _=>mN-(intOf av).toNat)
        ·exact⟨dN,0,rfl,dD,iS,dL,T⟩
        ·clear dL T dD;obtain⟨t,k,rfl,N,kW,aI,hb⟩:=hrel;have eU:=h_ jG hb.o;go_upto_region 24 with fail;go_cut [117] (fun v wx=>v= .bool (decide (t<mN)&& !cf_ L P (kx:Int) k)/\Hd (Below wj.heap.size wj wx))
         ·by_cases aY:t<mN
          ·have aW:k<P.length:=by have:=N.o;have:=bM.o;have:=J.o;omega
           obtain⟨p,s⟩: ∃ p,P[k]?=some p:=⟨_,List.getElem?_eq_getElem aW⟩
           have eK:=cK.o.1 p (List.mem_of_getElem? s);have bQ:=fg_ (L:=L) (n:=(kx:Int)) s;obtain⟨bq,oq,p',A1,n1,c1,rfl,aA,gW,q0,q1,r1,_,_⟩:=(jQ.o.below hb.o).get aY;obtain rfl:p=p':=Option.some.inj (by rw [<-s, <-hM_ (D:=D),Y.o, <-N.o];exact gW);have cM:=r1.len;have kP:0<n1:=by rw [<-cM];exact List.length_pos_iff.2 eK.1
           have kQ:n1<=10000:=by rw [<-cM];exact eO.o p (List.mem_of_getElem? s)
           obtain⟨k1,rfl⟩: ∃ k1,n1=k1+1:=⟨n1-1,by omega⟩
           obtain⟨bR,oR,y,rfl,iQ,hy,gy⟩:=r1.num (show k1<k1+1 by omega);have hY:p.runs.getLastD 0=y:=by rw [List.getLastD_eq_getLast?,List.getLast?_eq_getElem?,cM,Nat.add_sub_cancel,hy];rfl
           have eV:=eK.2.1;rw [hY] at eV bQ;have bX:=aY_.1 eV;obtain⟨ky,rfl⟩:=Int.eq_ofNat_of_zero_le bX.1;have dG:ky<i:=by have:=bX.2;rw [d.o] at this;omega
           obtain⟨bL,oL,ry,A2,n2,d2,A3,n3,d3,rfl,U,cS,s0,s1,s2,s3,hZ,iA,cG,cI⟩:=bA.o.get dG;obtain⟨iE,jM,rx,A4,n4,d4,A5,n5,d5,cU,fY,hH,t0,t1,t2,t3,iB,iC,gE,gF⟩:=bA.o.get dF;obtain⟨rfl,rfl⟩:bL=iE/\oL=jM:=by simpa using cU
           have e1:ao_ L (ky:Int)=ry:=Option.some.inj ((eg_ (by rw [d.o];exact dG)).symm.trans cS);have e2:ao_ L (kx:Int)=rx:=Option.some.inj ((eg_ (by rw [d.o];exact dF)).symm.trans hH);rw [e1,e2] at bQ;have eD:=H_ (fun w (h:Below we.heap.size we w)=>fl_ (ry.trip,ry.no,(A2,n2,d2),(A3,n3,d3)) (rx.trip,rx.no,(A4,n4,d4),(A5,n5,d5)) ry rx w ⟨rfl,rfl,hZ.below h,cG,iA.below h,cI⟩ ⟨rfl,rfl,iB.below h,gE,iC.below h,gF⟩ (by have:=fH.o ry (List.mem_of_getElem? cS);omega) (by have:=fH.o ry (List.mem_of_getElem? cS);omega));simp only [rnE,SlV.v] at eD;obtain⟨ab,fU⟩:=e_ (aE_ ry rx);rw [fU] at eD bQ;have hG:=H_ bQ;have d1:decide ((t:Int)<(mN:Int))=true:=T_ (by omega);have d2:decide (t<mN)=true:=T_ aY;have tI:(t:Int)<(mN:Int):=by omega
           have kX:(k1:Int)<((k1+1:Nat):Int):=by omega
           have kY:(k1:Int)<(k1:Int)+1:=by omega
           have dE:IntKind.i64.wrap (((k1+1:Nat):Int)-1)=(k1:Int):=by rw [show((k1+1:Nat):Int)-1=(k1:Int) by omega];exact IntWalk.i64_in _ (by omega)
           have kD:(ky:Int)<(i:Int):=by omega
           have fE:=c_ hb.o fZ iI.o;have gB:=Nat.lt_of_lt_of_le fZ hb.o.size;clear s eK bQ gW q0 r1 cM hY eV bX hy cS hH e1 e2 fU hZ iA iB iC cG cI gE gF cU fY
           go_wp2
           refine wb_ wr.heap.size ?_;intro C hC
           repeat(go_big_quiet_step (first
            |((intro _;with_reducible rfl))
            |(intro hc;have f:=b_ eU hc;simp only [c_ hc aA q1,c_ hc iQ gy,c_ hc gB fE,c_ f U s0,c_ f U s1,c_ f U s2,c_ f U s3,c_ f U t0,c_ f U t1,c_ f U t2,c_ f U t3,Result.andThen];exact⟨trivial,rfl⟩)
            |(intro hc;have f:=b_ eU hc;(with_reducible refine(eD.o _ f).mono ?_);rintro e kZ ⟨rfl,hw⟩;exact⟨rfl,u_ hc hw⟩)))
           intro w9 z;clear hC;have F:=h_ hb z;clear z
           go_wp2
           go_meet
           exact⟨by rw [hG.o,d2];rfl,F⟩
          ·have d1:decide ((t:Int)<(mN:Int))=false:=F_ (by omega);have d2:decide (t<mN)=false:=F_ aY
           go_wp2
           refine wb_ wr.heap.size ?_;intro C hC
           repeat(go_big_quiet_step (first
            |((intro _;with_reducible rfl))
           ))
           intro w9 z;clear hC;have F:=h_ hb z;clear z
           go_wp2
           go_meet
           exact⟨by rw [d2];rfl,F⟩
         ·obtain⟨rfl,F⟩:=hcut;clear hb eU;by_cases Z:(decide (t<mN)&& !cf_ L P (kx:Int) k)=true
          ·obtain⟨h1,fF⟩:=Bool.and_eq_true_iff.1 Z;have aY:=of_decide_eq_true h1;have gV:Hd (ec_ L P (kx:Int) (k+1)):=jM_ aI.o (by simpa using fF);have hQ:Hd (t+1=dN+(k+1)):=by show _=_;rw [N.o];omega
           rw [Z];clear Z h1 fF aI
           go_wp2
           go_roundw
           ·exact⟨t+1,k+1,by go_num,hQ,by omega,gV,F⟩
           ·simp [intOf];omega
          ·have G:(decide (t<mN)&& !cf_ L P (kx:Int) k)=false:=by simpa using Z
           rw [G];have eC:=H_ (bC.o.below F.o);have aZ:Hd (Bx wc bo 3 cA):=(fJ.o (by omega)).below F.o;have aM:=h_ eG F.o;go_upto_if 123 with fail;go_cut [7] (fun v7 wx=> ∃ (P':List PatP) (p:PatP),Hd (cC_ w2.heap.size wx v7 (D++P') bo)/\Hd (P'[k]?=some p)/\p.runs.length<=10000/\k<P'.length/\P'.length<=10001/\Hd (P'.modify k (fun p=>⟨p.rt,p.runs++[(kx:Int)]⟩)=cb_ L rt P (kx:Int))/\Hd (Bx wx bo 3 cA)/\Hd (Below w2.heap.size w2 wx))
           ·by_cases aY:t<mN
            ·have aW:k<P.length:=by have:=N.o;have:=bM.o;have:=J.o;omega
             have gS:cf_ L P (kx:Int) k=true:=by rw [T_ aY,Bool.true_and] at G;simpa using G
             obtain⟨p,s⟩: ∃ p,P[k]?=some p:=⟨_,List.getElem?_eq_getElem aW⟩
             have bV:=H_ (jP_ (rt:=rt) aI.o aW gS).symm;have jB:=H_ s;have aJ:=eO.o p (List.mem_of_getElem? s);have iM:P.length<=10001:=by have:=J.o;omega
             have e1:((t:Int)==(mN:Int))=false:=beq_eq_false_iff_ne.2 (by omega);clear s Z G gS aI
             go_wp2
             go_meet
             exact⟨P,p,eC,jB,aJ,aW,iM,bV,aZ,aM⟩
            ·obtain rfl:t=mN:=by omega
             obtain rfl:k=pN:=by have:=N.o;have:=bM.o;omega
             have bV:Hd ((P++[(⟨rt,[]⟩:PatP)]).modify k (fun p=>⟨p.rt,p.runs++[(kx:Int)]⟩)=cb_ L rt P (kx:Int)):=by
              have h:=aI.o;rw [<-J.o] at h;show _=_;rw [jO_ h, <-J.o];exact g1_
             have iZ:Hd ((P++[(⟨rt,[]⟩:PatP)])[k]?=some ⟨rt,[]⟩):=by show _=_;rw [<-J.o];simp
             have cN:k<(P++[(⟨rt,[]⟩:PatP)]).length /\(P++[(⟨rt,[]⟩:PatP)]).length <=10001:=by rw [List.length_append,J.o];exact⟨by simp,by simp;omega⟩
             have cN:=H_ cN;obtain⟨v',w5,aN,eA,bE,gO⟩:=eC.o.new (rt:Int) (by rw [List.length_append,Y.o,J.o];omega) aM.o.size;have iL:=H_ (gO bo _ aZ.o);have fW:=H_ (aM.o.trans bE);rw [List.append_assoc] at eA;have fT:=H_ eA;clear eA bE gO Z G aI;go_wp2_with (at_builtin;refine ap_ (.tmp 124) (.tmp 127) 63 aN ?_)
             go_meet
             exact⟨P++[⟨rt,[]⟩],⟨rt,[]⟩,fT,iZ,by simp,cN.o.1,cN.o.2,bV,iL,fW⟩
           ·obtain⟨P',p,eB,gY,aJ,kN,jT,dP,cB,bF⟩:=hcut;obtain⟨iF,jN,x',fG,gA,hW,fD⟩:=(dM.o wc fun _=>cB.o).num gN;obtain⟨rfl,rfl⟩:bO=iF/\oO=jN:=by simpa using fG
            obtain rfl:x'=(kx:Int):=Option.some.inj (hW.symm.trans jJ.o);have eN:(D++P')[t]?=some p:=by rw [N.o, <-Y.o,hM_];exact gY.o
            obtain⟨g,cc,A1,c1,_,_,_,eS,iT,gM,aV,kJ,eI,_⟩:=eB.o.push cB.o eN (kx:Int) (by omega) bF.o.size;subst eS;obtain⟨mQ,aX⟩:=e_ ((D++P').length);have kV:t<mQ:=by rw [<-aX,List.length_append,N.o,Y.o];omega
            obtain⟨nr,eM⟩:=e_ p.runs.length;have kF:mQ<=30000:=by have h1:=cE.o;have h2:=cW.o;rw [<-aX,List.length_append,Y.o];omega
            rw [aX] at aV;rw [eM] at eI aJ;have kH:(t:Int)<(mQ:Int):=by omega
            have bI:=H_ eI;have iH:=H_ fD;have dJ:=H_ aX;have bN:=H_ eM;have gZ:=H_ eN;simp only [aX];clear iT aX eM eC aZ aM eI fD fG hW eN Z G aI
            go_wp2
            refine wl_ [1,1,0,0,0,0,0,0,0,0,0,2,2,2,2,2] ?_;intro C hC;simp only [af_,Nat.reduceEqDiff, ↓reduceIte]
            repeat(go_big_quiet_step (first
             |(intro _;with_reducible rfl)
             |(intro hc;simp only [c_ hc gM bI.o,c_ hc gA iH.o,Result.andThen];exact⟨trivial,rfl⟩)))
            clear hC;intro C' dS
            repeat(go_big_quiet_step (first|(intro _;with_reducible rfl)))
            clear dS;intro wq aA;obtain⟨g1,kI,A2,c2,g',c',w8,eS,_,_,_,_,bH,aN,gH,jW,aC,cC,bB⟩:=(eB.o.below aA).push (cB.o.below aA) gZ.o (kx:Int) (by have:=bN.o;omega) (Nat.le_trans bF.o.size aA.size);cases eS;rw [bN.o] at bH aN gH aC cC bB;cases((aA.cell (p:=⟨g,t*2+1,none⟩) gM).trans bI.o).symm.trans bH;have gT:(D++P').modify t (fun p=>⟨p.rt,p.runs++[(kx:Int)]⟩)=D++ofL L rt (S.take (j+1)):=by rw [N.o, <-Y.o,io_,dP.o,hP.o]
            rw [gT,dJ.o] at bB;obtain⟨w9,jF⟩:=e_ (w8.setCell ⟨g,t*2+1,none⟩ (.slice (some ⟨g',0,none⟩) (nr+1) c'));rw [jF] at aC bB cC;have gI:=H_ (bF.o.trans ((aA.mono bF.o.size).trans aC));have fN:=H_ bB;have fI:Hd (0<S.length ->Bx w9 bo 3 cA):=fun _=>cC;clear aC bB dP eB gY bF bI aA bN dJ bH gT cC cB;go_wp2_with (at_builtin;refine ap_ (.tmp 135) (.tmp 140) 49 aN ?_);go_roundw
            ·exact⟨j+1,by omega,by go_num,fN,fI,gI⟩
            ·simp [intOf];omega
       ·obtain rfl:j=S.length:=by omega
        have iO:Hd (a6_ w2.heap.size wj u7 (dH_ M L (rt+1))):=by
         have:=bC.o.o;rw [List.take_of_length_le (Nat.le_refl _), <-gU.o, <-hO.o] at this;exact this
        clear bC
        go_wp2
        go_roundw
        ·exact⟨rt+1,by omega,by go_num,iO,eG⟩
        ·simp [intOf];omega
   ·obtain rfl:rt=nR:=by omega
    have fQ:Hd (a6_ w2.heap.size wo u7 R):=by have:=cF.o;rw [<-fR.o,hR_,bP.o] at this;exact this
    have jI:=H_ (hV.o);obtain⟨Av,cv,Z,rv,cG,cI⟩:=fQ.o.m.pats;subst Z;have jS:=H_ rv;clear cF fQ aE rv
    go_wp2
    go_returns;exact⟨_,_,rfl,jS.o,cG,cI,jI.o⟩
 ·have kS:(ec !=0)=true:=by simp [he]
  have bP:([]:List PatP)=R:=by rw [<-dZ.o];unfold resP;rw [if_neg (by rw [bK.o];exact he)]
  subst bP;clear he
  go_wp2
  clear hT cZ;go_returns;exact⟨none,0,rfl,bm_.nil,Nat.le_refl _,by omega,h2.o⟩
