/- Merged. -/
import Derived.Test.YtechdefolfboeaaGreatDoorPd24
set_option linter.unusedVariables false
set_option linter.unusedSimpArgs false
namespace Go.Proofs.YtechdefolfboeaaGreatDoor
open Go.RowKit B K
structure PatP where
 rt:Int
 runs:List Int
deriving DecidableEq
instance:Inhabited PatP:=⟨⟨0,[]⟩⟩
def ao_ (L:List RunP) (i:Int):RunP:=(L[i.toNat]?).getD default
def b3_:List Int ->List Int ->Bool
 |x::a,y::b=>decide (x<=y)&&b3_ a b
 |_,_=>true
theorem ed_ {a b:List Int}:b3_ a b=true↔ ∀ (i:Nat) x y,a[i]?=some x ->b[i]?=some y ->x<=y:=by
 induction a generalizing b with
 |nil=>simp [b3_]
 |cons x a ih=>
  cases b with
  |nil=>simp [b3_]
  |cons y b=>
   rw [b3_,Bool.and_eq_true,decide_eq_true_eq,ih];constructor
   ·rintro⟨p,q⟩ i j n f g
    cases i with
    |zero=>cases f;cases g;exact p
    |succ i=>exact q i j n f g
   ·exact fun h=>⟨h 0 x y rfl rfl,fun i j n f g=>h (i+1) j n f g⟩
theorem iZ_ {a b c:List Int} (hl:a.length=b.length) (h1:b3_ a b=true) (h2:b3_ b c=true):b3_ a c=true:=by
 rw [ed_] at*;intro i x z g j;have f:i<b.length:=by rw [<-hl];exact(List.getElem?_eq_some_iff.1 g).1
 exact Int.le_trans (h1 i x b[i] g (List.getElem?_eq_getElem f)) (h2 i b[i] z (List.getElem?_eq_getElem f) j)
def aE_ (r s:RunP):Bool:=decide (r.arr.length=s.arr.length)&&(decide (r.dep.length=s.dep.length)&&(b3_ r.arr s.arr&&b3_ r.dep s.dep))
theorem gL_ {r s:RunP}:aE_ r s=true↔r.arr.length=s.arr.length/\r.dep.length=s.dep.length/\b3_ r.arr s.arr=true/\b3_ r.dep s.dep=true:=by
 unfold aE_;simp only [Bool.and_eq_true,decide_eq_true_eq]
theorem lI_ {r s t:RunP} (h1:aE_ r s=true) (h2:aE_ s t=true):aE_ r t=true:=by
 rw [gL_] at*;exact⟨h1.1.trans h2.1,h1.2.1.trans h2.2.1,iZ_ h1.1 h1.2.2.1 h2.2.2.1,iZ_ h1.2.1 h1.2.2.2 h2.2.2.2⟩
def dep0 (r:RunP):Int:=(r.dep[0]?).getD 0
def ordR (L:List RunP) (a b:Int):Int:=or2 (cmpI (dep0 (ao_ L a)) (dep0 (ao_ L b))) (or2 (cmpI (ao_ L a).trip (ao_ L b).trip) (or2 (cmpI (ao_ L a).no (ao_ L b).no) (cmpI a b)))
def ltR (L:List RunP) (a b:Int):Bool:=decide (ordR L a b<0)
section
variable {L:List RunP}
theorem eX_ {a b:Int}:ltR L a b=true↔dep0 (ao_ L a)<dep0 (ao_ L b)∨dep0 (ao_ L a)=dep0 (ao_ L b)/\((ao_ L a).trip <(ao_ L b).trip ∨(ao_ L a).trip =(ao_ L b).trip /\((ao_ L a).no <(ao_ L b).no ∨(ao_ L a).no =(ao_ L b).no /\a<b)):=by
 unfold ltR ordR;rw [decide_eq_true_eq];simp only [mF_,kg_,hO_]
theorem ko_ (a:Int):ltR L a a=false:=by
 rw [Bool.eq_false_iff];intro h;rw [eX_] at h;omega
theorem ms_ {a b c:Int} (h1:ltR L a b=true) (h2:ltR L b c=true):ltR L a c=true:=by
 rw [eX_] at*;omega
theorem hC_ {a b c:Int} (h1:ltR L a b=false) (h2:ltR L b c=false):ltR L a c=false:=by
 rw [Bool.eq_false_iff,ne_eq,eX_] at*;omega
theorem kn_ {a b:Int} (h:ltR L a b=true):ltR L b a=false:=by
 rw [Bool.eq_false_iff,ne_eq];intro f;have:=ms_ h f;rw [ko_] at this;cases this
theorem nT_ {a b:Int} (h1:ltR L a b=false) (h2:ltR L b a=false):a=b:=by
 rw [Bool.eq_false_iff,ne_eq,eX_] at*;omega
def srtR (L:List RunP) (l:List Int):List Int:=l.mergeSort fun x y=> !ltR L y x
theorem fV_ (l:List Int):(srtR L l).Perm l:=List.mergeSort_perm _ _
theorem jp_ (l:List Int):(srtR L l).length =l.length:=List.length_mergeSort ..
theorem j9_ (l:List Int):(srtR L l).Pairwise fun a b=>ltR L b a=false:=by
 refine(List.pairwise_mergeSort (le:=fun x y=> !ltR L y x) (fun a b c g f=>?_) (fun a b=>?_) l).imp fun {a b} h=>by simpa using h
 ·simp only [Bool.not_eq_true'] at*;exact hC_ f g
 ·cases g:ltR L b a<;>cases f:ltR L a b<;>simp [g,f];rw [kn_ g] at f;cases f
theorem eS_ {l S:List Int} (hp:S.Perm l) (hs:S.Pairwise fun a b=>ltR L b a=false):S=srtR L l:=
 List.Perm.eq_of_pairwise (le:=fun a b=>ltR L b a=false) (fun a b ha hb f g=>nT_ g f) hs (j9_ l) (hp.trans (fV_ l).symm)
def cb_ (L:List RunP) (rt:Int) (out:List PatP) (n:Int):List PatP:=
 match out.findIdx? (fun p=>aE_ (ao_ L (p.runs.getLastD 0)) (ao_ L n)) with
 |none=>out++[⟨rt,[n]⟩]
 |some i=>out.modify i fun p=>⟨p.rt,p.runs++[n]⟩
def ofL (L:List RunP) (rt:Int) (order:List Int):List PatP:=order.foldl (cb_ L rt) []
theorem gA_ (rt:Int) (l:List Int) (n:Int):ofL L rt (l++[n])=cb_ L rt (ofL L rt l) n:=by unfold ofL;rw [List.foldl_append];rfl
structure OfI (L:List RunP) (rt:Int) (order:List Int) (out:List PatP):Prop where
 rt: ∀ p∈out,p.rt=rt/\p.runs≠[]
 ah: ∀ p∈out,p.runs.Pairwise fun a b=>aE_ (ao_ L a) (ao_ L b)=true
 pm:(out.flatMap PatP.runs).Perm order
theorem iN_ {l:List Int} (h:l≠[]):l.getLastD 0∈l:=by
 rw [List.getLastD_eq_getLast?,List.getLast?_eq_some_getLast h];exact List.getLast_mem h
theorem jB_ {l:List PatP} {i:Nat} {p:PatP} {f:PatP ->PatP} {n:Int} (hp:l[i]?=some p) (hf:(f p).runs =p.runs++[n]):((l.modify i f).flatMap PatP.runs).Perm (l.flatMap PatP.runs++[n]):=by
 induction l generalizing i with
 |nil=>simp at hp
 |cons x l ih=>
  cases i with
  |zero=>
   simp at hp;subst hp;rw [List.modify_zero_cons,List.flatMap_cons,List.flatMap_cons,hf,List.append_assoc,List.append_assoc];exact List.Perm.append_left _ List.perm_append_comm
  |succ i=>
   rw [List.modify_succ_cons,List.flatMap_cons,List.flatMap_cons,List.append_assoc];exact List.Perm.append_left _ (ih (by simpa using hp))
theorem gY_ {α:Type} {l:List α} {i:Nat} {p:α} {f:α ->α} (hp:l[i]?=some p) {q:α} (h:q∈l.modify i f):q∈l∨q=f p:=by
 obtain⟨k,g⟩:=List.getElem?_of_mem h;rw [List.getElem?_modify] at g;by_cases e:i=k
 ·subst e;rw [hp] at g;simp at g;exact .inr g.symm
 ·simp [e] at g;exact .inl (List.mem_of_getElem? g)
theorem OfI.step {rt n:Int} {l:List Int} {out:List PatP} (h:OfI L rt l out):OfI L rt (l++[n]) (cb_ L rt out n):=by
 unfold cb_;split
 ·refine⟨fun p f=>?_,fun p f=>?_,?_⟩
  ·rcases List.mem_append.1 f with f|f
   ·exact h.rt p f
   ·simp only [List.mem_singleton] at f;subst f;exact⟨rfl,by simp⟩
  ·rcases List.mem_append.1 f with f|f
   ·exact h.ah p f
   ·simp only [List.mem_singleton] at f;subst f;exact List.pairwise_singleton _ _
  ·rw [List.flatMap_append];exact List.Perm.append_right _ h.pm
 ·rename_i i P
  obtain⟨p,f,j⟩: ∃ p,out[i]?=some p/\aE_ (ao_ L (p.runs.getLastD 0)) (ao_ L n)=true:=by
   obtain⟨J,M,_⟩:=List.findIdx?_eq_some_iff_getElem.1 P;exact⟨out[i],List.getElem?_eq_getElem J,M⟩
  have z:=List.mem_of_getElem? f;refine⟨fun q y=>?_,fun q y=>?_,(jB_ (n:=n) f rfl).trans (List.Perm.append_right _ h.pm)⟩
  ·rcases gY_ f y with y|rfl
   ·exact h.rt q y
   ·exact⟨(h.rt p z).1,by simp⟩
  ·rcases gY_ f y with y|rfl
   ·exact h.ah q y
   ·show(p.runs++[n]).Pairwise _;rw [List.pairwise_append];refine⟨h.ah p z,List.pairwise_singleton _ _,fun a N b G=>?_⟩;simp only [List.mem_singleton] at G;subst G;have g:=(h.rt p z).2;have F:p.runs.getLastD 0=p.runs.getLast g:=by rw [List.getLastD_eq_getLast?,List.getLast?_eq_some_getLast g];rfl
    rw [F] at j;rcases List.mem_iff_getElem.1 N with⟨k,Q,rfl⟩
    by_cases D:k=p.runs.length-1
    ·subst D;rw [<-List.getLast_eq_getElem g];exact j
    ·have:=List.pairwise_iff_getElem.1 (h.ah p z) k (p.runs.length-1) Q (by omega) (by omega);rw [<-List.getLast_eq_getElem g] at this;exact lI_ this j
theorem ofI (rt:Int) (l:List Int):OfI L rt l (ofL L rt l):=by
 have g: ∀ (k:Nat),k<=l.length ->OfI L rt (l.take k) (ofL L rt (l.take k)):=by
  intro k
  induction k with
  |zero=>intro _;exact⟨fun p f=>by simp [ofL] at f,fun p f=>by simp [ofL] at f,.nil⟩
  |succ k ih=>
   intro hk;rw [List.take_succ_eq_append_getElem (by omega),gA_];exact(ih (by omega)).step
 have:=g l.length (Nat.le_refl _)
 rwa [List.take_length] at this
end
def rtOf (M:ab_) (L:List RunP) (n:Int):Int:=((M.trips[(ao_ L n).trip.toNat]?).map bM_.route).getD 0
def natI (k:Nat):List Int:=(List.range k).map Int.ofNat
def bE_ (M:ab_) (L:List RunP) (rt:Int):List Int:=(natI L.length).filter fun n=>decide (rtOf M L n=rt)
def co_ (M:ab_) (L:List RunP) (rt:Nat):List PatP:=ofL L rt (srtR L (bE_ M L rt))
def cV_ (M:ab_) (L:List RunP):List PatP:=(List.range M.routes.length).flatMap (co_ M L)
theorem aY_ {k:Nat} {n:Int}:n∈natI k↔0<=n/\n<k:=by
 unfold natI;rw [List.mem_map];constructor
 ·rintro⟨a,f,rfl⟩;have:=List.mem_range.1 f;exact⟨Int.natCast_nonneg _,by show(a:Int)<k;omega⟩
 ·rintro⟨h1,h2⟩;exact⟨n.toNat,List.mem_range.2 (by omega),by show(n.toNat:Int)=n;omega⟩
theorem mf_ {α:Type} {f g:Nat ->List α} {l:List Nat} (h: ∀ x∈l,(f x).Perm (g x)):(l.flatMap f).Perm (l.flatMap g):=by
 induction l with
 |nil=>exact .nil
 |cons x l ih=>
  rw [List.flatMap_cons,List.flatMap_cons];exact(h x (by simp)).append (ih fun y j=>h y (by simp [j]))
theorem k6_ (f:Int ->Int) (m:Nat) (l:List Int) (h: ∀ x∈l,0<=f x/\f x<m):((List.range m).flatMap fun(r:Nat)=>l.filter fun x=>decide (f x=(r:Int))).Perm l:=by
 induction l with
 |nil=>simp
 |cons x l n=>
  obtain⟨h0,q⟩:=h x (by simp);have n:=n fun y z=>h y (by simp [z]);refine List.Perm.trans ?_ (n.cons x)
  have p: ∀ k,k<=m ->((List.range k).flatMap fun(r:Nat)=>(x::l).filter fun x=>decide (f x=(r:Int))).Perm (if f x<k then x::(List.range k).flatMap fun(r:Nat)=>l.filter fun x=>decide (f x=(r:Int)) else(List.range k).flatMap fun(r:Nat)=>l.filter fun x=>decide (f x=(r:Int))):=by
   intro k
   induction k with
   |zero=>intro _;rw [if_neg (by omega)];exact .nil
   |succ k ik=>
    intro hk;rw [List.range_succ,List.flatMap_append,List.flatMap_append,List.flatMap_singleton,List.flatMap_singleton,List.filter_cons];by_cases g:f x=(k:Int)
    ·rw [if_pos (by simpa using g),if_pos (by omega)];have:=ik (by omega);rw [if_neg (by omega)] at this;refine(this.append_right _).trans ?_;exact List.perm_middle
    ·rw [if_neg (by simpa using g)];have:=ik (by omega);by_cases j:f x<(k:Int)
     ·rw [if_pos j] at this;rw [if_pos (by omega)];exact this.append_right _
     ·rw [if_neg j] at this;rw [if_neg (by omega)];exact this.append_right _
  have:=p m (Nat.le_refl _)
  rwa [if_pos q] at this
structure FitL (M:ab_) (L:List RunP):Prop where
 fit: ∀ r∈L,FitR M r
 rt: ∀ q∈M.trips,0<=q.route/\q.route<(M.routes.length:Int)
section
variable {M:ab_} {L:List RunP}
theorem b8_ {n:Int} (h:n∈natI L.length):L[n.toNat]?=some (ao_ L n):=by
 obtain⟨h1,h2⟩:=aY_.1 h;unfold ao_;rw [List.getElem?_eq_getElem (by omega)];rfl
theorem eg_ {k:Nat} (h:k<L.length):L[k]?=some (ao_ L k):=b8_ (n:=(k:Int)) (aY_.2 ⟨by omega,by omega⟩)
theorem FitL.at_ (h:FitL M L) {n:Int} (hn:n∈natI L.length):FitR M (ao_ L n):=h.fit _ (List.mem_of_getElem? (b8_ hn))
theorem FitL.route (h:FitL M L) {n:Int} (hn:n∈natI L.length): ∃ q r,0<=(ao_ L n).trip /\M.trips[(ao_ L n).trip.toNat]?=some q/\q.route=rtOf M L n/\0<=q.route/\q.route<M.routes.length/\M.routes[q.route.toNat]?=some r/\r.stops=ak_ M (ao_ L n).trip :=by
 have g:=(h.at_ hn).pos;obtain⟨s,f⟩:=e_ (ak_ M (ao_ L n).trip);rw [f] at g ⊢;unfold ak_ at f;split at f
 ·subst f;simp at g
 ·split at f
  ·subst f;simp at g
  ·rename_i q j;obtain⟨p,y⟩:=h.rt q (List.mem_of_getElem? j);split at f
   ·subst f;simp at g
   ·rename_i r z;exact⟨q,r,by omega,j,by unfold rtOf;rw [j];rfl,p,y,z,f⟩
theorem FitL.rtOf (h:FitL M L) {n:Int} (hn:n∈natI L.length):0<=rtOf M L n/\rtOf M L n<M.routes.length:=by
 obtain⟨q,r,_,_,e,f,g,_⟩:=h.route hn;rw [<-e];exact⟨f,g⟩
theorem ff_ (rt:Nat):OfI L rt (srtR L (bE_ M L rt)) (co_ M L rt):=ofI _ _
theorem gi_ (rt:Nat):((co_ M L rt).flatMap PatP.runs).Perm (bE_ M L rt):=(ff_ rt).pm.trans (fV_ _)
theorem gX_ (h:FitL M L):((cV_ M L).flatMap PatP.runs).Perm (natI L.length):=by
 unfold cV_;rw [List.flatMap_assoc];exact(mf_ fun x _=>gi_ x).trans (k6_ (rtOf M L) _ _ fun x f=>h.rtOf f)
theorem mu_ {p:PatP} (hp:p∈cV_ M L): ∃ rt:Nat,rt<M.routes.length/\p∈co_ M L rt/\p.rt=rt:=by
 unfold cV_ at hp;obtain⟨rt,g,f⟩:=List.mem_flatMap.1 hp;exact⟨rt,List.mem_range.1 g,f,((ff_ rt).rt p f).1⟩
theorem kW_ {p:PatP} (hp:p∈cV_ M L):p.runs≠[]/\(p.runs.Pairwise fun a b=>aE_ (ao_ L a) (ao_ L b)=true)/\(∀ n∈p.runs,n∈natI L.length/\rtOf M L n=p.rt):=by
 obtain⟨rt,h1,f,g⟩:=mu_ hp;refine⟨((ff_ rt).rt p f).2,(ff_ rt).ah p f,fun n y=>?_⟩;have:=(gi_ rt).mem_iff.1 (List.mem_flatMap.2 ⟨p,f,y⟩);unfold bE_ at this;obtain⟨j,q⟩:=List.mem_filter.1 this;exact⟨j,by rw [g];simpa using q⟩
theorem nz_ {Q:List PatP} (h: ∀ p∈Q,p.runs≠[]):Q.length<=(Q.flatMap PatP.runs).length :=by
 induction Q with
 |nil=>simp
 |cons q Q ih=>
  rw [List.flatMap_cons,List.length_append,List.length_cons];have:=ih fun p f=>h p (by simp [f]);have:=List.length_pos_iff.2 (h q (by simp));omega
theorem fK_ (h:FitL M L):(cV_ M L).length <=L.length:=by
 have:=nz_ fun p f=>(kW_ (M:=M) (L:=L) f).1;rw [(gX_ h).length_eq] at this;simpa [natI] using this
theorem o1_ (h:FitL M L) {j:Nat} (hj:j<=M.routes.length):((List.range j).flatMap (co_ M L)).length <=L.length:=by
 refine Nat.le_trans ?_ (fK_ h);unfold cV_;rw [show M.routes.length=j+(M.routes.length-j) by omega,List.range_add,List.flatMap_append,List.length_append];omega
theorem jc_ (j:Nat):(List.range (j+1)).flatMap (co_ M L)=(List.range j).flatMap (co_ M L)++co_ M L j:=by
 rw [List.range_succ,List.flatMap_append,List.flatMap_singleton]
def ch_ (M:ab_) (L:List RunP) (rt:Int) (prev:Option Int) (n:Int):Bool:=decide (0<=n)&&(decide (n<L.length)&&(decide (rtOf M L n=rt)&&match prev with
 |none=>true
 |some m=>aE_ (ao_ L m) (ao_ L n)))
def c5_ (l:List Int) (k:Nat):Option Int:=if k=0 then none else l[k-1]?
def hc_ (M:ab_) (L:List RunP) (rt:Int) (l:List Int):Bool:=(List.range l.length).all fun k=>match l[k]? with
 |some n=>ch_ M L rt (c5_ l k) n
 |none=>true
def cg_ (M:ab_) (L:List RunP) (P:List PatP):Bool:=P.all (fun p=>hc_ M L p.rt p.runs)&&(decide ((P.flatMap PatP.runs).Nodup)&&decide ((P.flatMap PatP.runs).length =L.length))
theorem ih_ {rt:Int} {l:List Int}:hc_ M L rt l=true↔ ∀ (k:Nat) n,l[k]?=some n ->ch_ M L rt (c5_ l k) n=true:=by
 unfold hc_;rw [List.all_eq_true];constructor
 ·intro h k n f;have:=h k (List.mem_range.2 (List.getElem?_eq_some_iff.1 f).1);rw [f] at this;exact this
 ·intro h k hk;split
  ·rename_i n f;exact h k n f
  ·rfl
def inR (L:List RunP) (pos:Int) (n:Int):Bool:=decide (0<=n)&&(decide (n<L.length)&&(decide (0<=pos)&&decide (pos<(ao_ L n).dep.length)))
def b0_ (L:List RunP) (pos n:Int):Int:=((ao_ L n).dep[pos.toNat]?).getD 0
def bf_ (L:List RunP) (l:List Int) (pos t:Int):Nat:=if l.all (inR L pos) then l.findIdx (fun n=>decide (t<=b0_ L pos n)) else l.length
theorem fC_ {pos:Nat} {n:Int} (h:pos<(ao_ L n).dep.length):b0_ L pos n=(ao_ L n).dep[pos]:=by
 unfold b0_;rw [Int.toNat_natCast,List.getElem?_eq_getElem h];rfl
end
section
variable {L:List RunP} {P:List PatP} {rt n:Int}
def cf_ (L:List RunP) (P:List PatP) (n:Int) (i:Nat):Bool:=match P[i]? with
 |some p=>aE_ (ao_ L (p.runs.getLastD 0)) (ao_ L n)
 |none=>false
theorem fg_ {i:Nat} {p:PatP} (h:P[i]?=some p):cf_ L P n i=aE_ (ao_ L (p.runs.getLastD 0)) (ao_ L n):=by unfold cf_;rw [h]
theorem gP_ {α:Type} (l:List α) (q:α ->Bool) (p:Nat ->Bool) (h: ∀ i x,l[i]?=some x ->p i=q x):(idx p (List.range l.length)<0 ->l.findIdx? q=none)/\(0<=idx p (List.range l.length) -> ∃ j:Nat,j<l.length/\idx p (List.range l.length)=j/\l.findIdx? q=some j):=by
 unfold idx
 have D:(List.range l.length).map p=l.map q:=by
  refine List.ext_getElem? fun i=>?_;rw [List.getElem?_map,List.getElem?_map];rcases Nat.lt_or_ge i l.length with g|g
  ·rw [List.getElem?_range g,List.getElem?_eq_getElem g];show some _=some _;rw [h i l[i] (List.getElem?_eq_getElem g)]
  ·rw [List.getElem?_eq_none (by simpa using g),List.getElem?_eq_none (by simpa using g)];rfl
 have F:(List.range l.length).any p=l.any q:=by
  have:=congrArg (fun m=>m.any id) D;simpa [List.any_map] using this
 have G:(List.range l.length).findIdx p=l.findIdx q:=by
  have:=congrArg (fun m=>m.findIdx id) D;simpa [List.findIdx_map] using this
 rw [F,G];split
 ·rename_i y;obtain⟨x,z,f⟩:=List.any_eq_true.1 y;have n:l.findIdx q<l.length:=List.findIdx_lt_length_of_exists ⟨x,z,f⟩;refine⟨fun h=>by omega,fun _=>⟨_,n,rfl,?_⟩⟩;rw [List.findIdx?_eq_some_iff_findIdx_eq];exact⟨n,rfl⟩
 ·rename_i y;refine⟨fun _=>?_,fun h=>by omega⟩;rw [List.findIdx?_eq_none_iff];intro x z
  cases f:q x with
  |false=>rfl
  |true=>exact absurd (List.any_eq_true.2 ⟨x,z,f⟩) y
theorem h7_ (h:idx (cf_ L P n) (List.range P.length)<0):cb_ L rt P n=P++[⟨rt,[n]⟩]:=by
 unfold cb_;rw [(gP_ P _ (cf_ L P n) fun i x f=>fg_ f).1 h]
theorem g4_ (h:0<=idx (cf_ L P n) (List.range P.length)): ∃ j p,idx (cf_ L P n) (List.range P.length)=((j:Nat):Int)/\P[j]?=some p/\cb_ L rt P n=P.modify j fun p=>⟨p.rt,p.runs++[n]⟩:=by
 obtain⟨j,q,f,g⟩:=(gP_ P _ (cf_ L P n) fun i x y=>fg_ y).2 h;refine⟨j,_,f,List.getElem?_eq_getElem q,?_⟩;unfold cb_;rw [g]
theorem g1_:(P++[(⟨rt,[]⟩:PatP)]).modify P.length (fun p=>⟨p.rt,p.runs++[n]⟩)=P++[⟨rt,[n]⟩]:=by
 induction P with
 |nil=>rfl
 |cons p P ih=>rw [List.cons_append,List.length_cons,List.modify_succ_cons,ih];rfl
theorem h6_ {l:List Int} (hl: ∀ n∈l,n∈natI L.length):(∀ p∈ofL L rt l,p.runs≠[]/\p.runs.getLastD 0∈natI L.length/\p.runs.length<=l.length)/\(ofL L rt l).length <=l.length:=by
 have hI:=ofI (L:=L) rt l;have f:=hI.pm.length_eq;refine⟨fun p g=>⟨(hI.rt p g).2,hl _ (hI.pm.mem_iff.1 (List.mem_flatMap.2 ⟨p,g,iN_ (hI.rt p g).2⟩)),?_⟩,?_⟩
 ·rw [<-f];obtain⟨s,t,j⟩:=List.append_of_mem g;rw [j,List.flatMap_append,List.flatMap_cons,List.length_append,List.length_append];omega
 ·rw [<-f]
  have: ∀ (Q:List PatP),(∀ p∈Q,p.runs≠[]) ->Q.length<=(Q.flatMap PatP.runs).length :=by
   intro Q
   induction Q with
   |nil=>intro _;simp
   |cons q Q ih=>
    intro h;rw [List.flatMap_cons,List.length_append,List.length_cons];have:=ih fun p g=>h p (by simp [g]);have:=List.length_pos_iff.2 (h q (by simp));omega
  exact this _ fun p g=>(hI.rt p g).2
end
structure Told (L L':List RunP) (σ:Int ->Int):Prop where
 len:L'.length=L.length
 at_: ∀ n∈natI L.length,σ n∈natI L.length/\ao_ L' (σ n)=ao_ L n
 pm:((natI L.length).map σ).Perm (natI L.length)
section
variable {M:ab_} {L L':List RunP} {σ:Int ->Int}
theorem ic_ {rt:Int}: ∀ n∈bE_ M L rt,n∈natI L.length:=fun n f=>(List.mem_filter.1 f).1
end
