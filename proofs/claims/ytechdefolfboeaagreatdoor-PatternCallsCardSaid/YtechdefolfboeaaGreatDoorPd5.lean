/- Merged. -/
import Derived.Test.YtechdefolfboeaaGreatDoorPd2
import Derived.Test.YtechdefolfboeaaGreatDoorPd3
import Derived.Test.YtechdefolfboeaaGreatDoorPd4
set_option linter.unusedVariables false
set_option linter.unusedSimpArgs false
set_option maxHeartbeats 4000000
namespace Go.Proofs.YtechdefolfboeaaGreatDoor
open Go.RowKit B
theorem gg_:(Tryz.prog.info? 171).map (fun i=>(i.zero,i.size,i.bytes))=some (some (.agg #[.string ⟨#[]⟩,.string ⟨#[]⟩,.string ⟨#[]⟩,.int .i64 0]),4,56):=by kernel_rfl
theorem gf_:(Tryz.prog.info? 173).map (fun i=>(i.zero,i.size,i.bytes))=some (some (.agg #[.string ⟨#[]⟩,.string ⟨#[]⟩,.string ⟨#[]⟩,.int .i64 0,.int .i64 0,.int .i64 0,.int .i64 0]),7,80):=by kernel_rfl
theorem gh_:(Tryz.prog.info? 179).map (fun i=>(i.zero,i.size,i.bytes))=some (some (.agg #[.string ⟨#[]⟩,.string ⟨#[]⟩,.int .i64 0,.int .i64 0,.int .i64 0]),5,56):=by kernel_rfl
theorem fc_:(Tryz.prog.info? 181).map (fun i=>(i.zero,i.size,i.bytes))=some (some (.agg #[.string ⟨#[]⟩,.string ⟨#[]⟩,.int .i64 0,.int .i64 0,.int .i64 0]),5,56):=by kernel_rfl
theorem fI_:(Tryz.prog.info? 177).map (fun i=>(i.zero,i.size,i.bytes))=some (some (.agg #[.string ⟨#[]⟩,.slice none 0 0,.slice none 0 0,.slice none 0 0]),4,88):=by kernel_rfl
theorem ax_:(Tryz.prog.info? 9).map (fun i=>(i.zero,i.size,i.bytes))=some (some (.string ⟨#[]⟩),1,16):=by kernel_rfl
theorem bc_:(Tryz.prog.info? 2).map (fun i=>(i.zero,i.size,i.bytes))=some (some (.int .i64 0),1,8):=by kernel_rfl
theorem aj_ (x:Int):(numE .i64 x).length =1:=rfl
theorem bw_ (x:Int): ∀ u∈numE .i64 x,u.oneCell'=true:=fun u f=>by simp [numE] at f;subst f;rfl
theorem aG_ {l:List Str} {p:Nat} {s:Str} (h:l[p]?=some s):aO_ l (p:Int)=s:=by unfold aO_;rw [Int.toNat_natCast,h];rfl
theorem os_ {β:Type} {f:Nat ->Option β} {n:Nat} (h: ∀ i,i<n ->(f i).isSome) {k:Nat} (hk:k<n) {x:β} (hx:f k=some x):(aI_ f n)[k]?=some x:=by
 induction n with
 |zero=>omega
 |succ m ih=>
  obtain⟨y,p⟩:=Option.isSome_iff_exists.1 (h m (by omega));rw [bC_ p];have j:=aw_ (n:=m) (fun i q=>h i (by omega)) m (Nat.le_refl _);rcases Nat.lt_or_ge k m with g|g
  ·rw [List.getElem?_append_left (by rw [j];exact g)];exact ih (fun i q=>h i (by omega)) g
  ·obtain rfl:k=m:=by omega
   rw [List.getElem?_append_right (by rw [j];omega),j];rw [hx] at p;cases p;simp
abbrev SlV:=Option Addr×Nat×Nat
def SlV.v (s:SlV):Value:= .slice s.1 s.2.1 s.2.2
abbrev REl:=Str×SlV×SlV×SlV
def relE (e:REl):List Value:=[.string e.1,e.2.1.v,e.2.2.1.v,e.2.2.2.v]
theorem dY_ (e:REl):(relE e).length =4:=rfl
theorem jf_ (e:REl): ∀ u∈relE e,u.oneCell'=true:=fun u f=>by simp [relE,SlV.v] at f;rcases f with rfl|rfl|rfl|rfl<;>rfl
structure RowT (w:World) (base:Nat) (e:REl) (r:bn_):Prop where
 nm:e.1=r.name
 s0:w.ownsRow base 9 1 e.2.1.v r.stops.length (r.stops.flatMap strE)
 s1:w.ownsRow base 2 1 e.2.2.1.v r.rides.length (r.rides.flatMap (numE .i64))
 s2:w.ownsRow base 2 1 e.2.2.2.v r.stays.length (r.stays.flatMap (numE .i64))
structure cS_ (w:World) (base:Nat) (W:ab_) (L:List REl) (i:Nat):Prop where
 len:L.length=i
 at_: ∀ (k:Nat) (e:REl),L[k]?=some e -> ∃ r,bJ_ W k=some r/\RowT w base e r
theorem RowT.up {w w':World} {base:Nat} {e:REl} {r:bn_} (h:RowT w base e r) (hup: ∀ (base':Nat) (e':TypeId) (size':Nat) (v':Value) (n':Nat) (xs':List Value),(e'=9∨e'=2) ->base'=base ->w.ownsRow base' e' size' v' n' xs' ->w'.ownsRow base' e' size' v' n' xs'):RowT w' base e r:=
 ⟨h.nm,hup _ _ _ _ _ _ (.inl rfl) rfl h.s0,hup _ _ _ _ _ _ (.inr rfl) rfl h.s1,hup _ _ _ _ _ _ (.inr rfl) rfl h.s2⟩
theorem cS_.up {w w':World} {base:Nat} {W:ab_} {L:List REl} {i:Nat} (h:cS_ w base W L i) (hup: ∀ (base':Nat) (e':TypeId) (size':Nat) (v':Value) (n':Nat) (xs':List Value),(e'=9∨e'=2) ->base'=base ->w.ownsRow base' e' size' v' n' xs' ->w'.ownsRow base' e' size' v' n' xs'):cS_ w' base W L i:=
 ⟨h.len,fun k e j=>by obtain⟨r,f,g⟩:=h.at_ k e j;exact⟨r,f,g.up hup⟩⟩
theorem cS_.snoc {w:World} {base:Nat} {W:ab_} {L:List REl} {i:Nat} {e:REl} {r:bn_} (h:cS_ w base W L i) (hr:bJ_ W i=some r) (he:RowT w base e r):cS_ w base W (L++[e]) (i+1):=by
 refine⟨by simp [h.len],fun k n f=>?_⟩;rcases Nat.lt_or_ge k L.length with g|g
 ·rw [List.getElem?_append_left g] at f;exact h.at_ k n f
 ·rw [List.getElem?_append_right g] at f
  have j:k-L.length=0:=by
   rcases Nat.eq_zero_or_pos (k-L.length) with p|p
   ·exact p
   ·rw [List.getElem?_eq_none (by simp;omega)] at f;cases f
  rw [j] at f;have:e=n:=by simpa using f
  subst this;have:k=i:=by have:=h.len;omega
  subst this;exact⟨r,hr,he⟩
theorem pC_ {w:World} {base b o:Nat} {s:SlV} {l:List Str} (hc:w.cell? ⟨b,o,none⟩=some s.v) (h:w.ownsRow base 9 1 s.v l.length (l.flatMap strE)):SlS w b o l:=by
 obtain⟨A,c,e,f,g,j⟩:=Rd.of_own ad_ rfl h;rw [e] at hc;exact⟨A,l.length,c,hc,f,g,j⟩
theorem m3_ {w:World} {base b o:Nat} {s:SlV} {l:List Int} (hc:w.cell? ⟨b,o,none⟩=some s.v) (h:w.ownsRow base 2 1 s.v l.length (l.flatMap (numE .i64))):SlAt w b o l:=by
 obtain⟨A,c,e,f,g,j⟩:=Rd.of_own aj_ rfl h;rw [e] at hc;exact⟨A,l.length,c,hc,f,g,j⟩
theorem cS_.done {w:World} {base:Nat} {W:ab_} {L:List REl} {n:Nat} {A:Option Addr} (h:cS_ w base W L n) (hr:Rd w 4 relE A n L) (hall: ∀ i,i<n ->(bJ_ W i).isSome):bD_ w A n (aI_ (bJ_ W) n):=by
 refine⟨aw_ hall n (Nat.le_refl _),fun k r D=>?_⟩
 have f:k<n:=by
  obtain⟨y,_⟩:=List.getElem?_eq_some_iff.1 D;rw [aw_ hall n (Nat.le_refl _)] at y;exact y
 obtain⟨b,o,e,rfl,M,N,j⟩:=hr.get f;obtain⟨P,q,g⟩:=h.at_ k e N
 have:r=P:=by
  have z:=os_ hall f q;rw [D] at z;exact Option.some.inj z
 subst this;have p:=j 0 _ rfl;have F:=j 1 _ rfl;have G:=j 2 _ rfl;have J:=j 3 _ rfl;rw [Nat.add_zero] at p;rw [g.nm] at p;exact⟨b,o,rfl,M,p,pC_ F g.s0,m3_ G g.s1,m3_ J g.s2⟩
theorem bl_ {α:Type} {enc:α ->List Value} {w:World} {base size n c:Nat} {A:Option Addr} {e:TypeId} {l:List α} (hs: ∀ x,(enc x).length =size) (hl:l.length=n) (h:w.ownsRow base e size (.slice A n c) n (l.flatMap enc)):Rd w size enc A n l:=by
 obtain⟨A',c',e,r,_⟩:=Rd.of_own hs hl h;cases e;exact r
def ke_ (W:ab_) (we:World) (e:Ending) (w':World):Prop:= ∃ V:SV,e= .returned (sVal (b4_ W) V)/\RS w' (b4_ W) V/\Below we.heap.size we w'
structure aD_ {ε ρ:Type} (RT:World ->ε ->ρ ->Prop) (w:World) (L:List ε) (D:List ρ):Prop where
 len:L.length=D.length
 at_: ∀ (k:Nat) (e:ε) (r:ρ),L[k]?=some e ->D[k]?=some r ->RT w e r
section
variable {ε ρ:Type} {RT:World ->ε ->ρ ->Prop} {w w':World} {L:List ε} {D:List ρ}
theorem aD_.nil:aD_ RT w [] []:=⟨rfl,fun k e r h=>by simp at h⟩
theorem aD_.up (h:aD_ RT w L D) (hup: ∀ e r,RT w e r ->RT w' e r):aD_ RT w' L D:=⟨h.len,fun k e r f g=>hup e r (h.at_ k e r f g)⟩
theorem aD_.snoc {e:ε} {r:ρ} (h:aD_ RT w L D) (he:RT w e r):aD_ RT w (L++[e]) (D++[r]):=by
 refine⟨by simp [h.len],fun k p q f g=>?_⟩;rcases Nat.lt_or_ge k L.length with j|j
 ·rw [List.getElem?_append_left j] at f;rw [List.getElem?_append_left (by rw [<-h.len];exact j)] at g;exact h.at_ k p q f g
 ·rw [List.getElem?_append_right j] at f;rw [List.getElem?_append_right (by rw [<-h.len];exact j)] at g;have n:k-L.length=0:=by have:=(List.getElem?_eq_some_iff.1 f).1;simp at this;omega
  rw [n] at f;rw [<-h.len,n] at g;simp at f g;subst f g;exact he
theorem aD_.get (h:aD_ RT w L D) {k:Nat} {r:ρ} (hr:D[k]?=some r): ∃ e,L[k]?=some e/\RT w e r:=by
 have f:k<L.length:=by rw [h.len];exact(List.getElem?_eq_some_iff.1 hr).1
 exact⟨_,List.getElem?_eq_getElem f,h.at_ k _ r (List.getElem?_eq_getElem f) hr⟩
end
theorem B.Rd.keep_box {w U:World} {A:Option Addr} {n bo:Nat} {l:List Str} {T:TypeId} {vs:List Value} (h:Rd w 1 strE A n l) (hB:Bx w bo T vs) (hv: ∀ v∈vs, ∀ s,v≠ .string s) (hb:But w U [bo]):Rd U 1 strE A n l:=by
 refine⟨h.len,fun z=>?_⟩;obtain⟨b,o,e,f,y⟩:=h.cells z
 have q:b≠bo:=by
  rintro rfl;have D:0<l.length:=by rw [h.len];exact z
  have g:=y 0 l[0] (List.getElem?_eq_getElem D) 0 _ rfl;rw [cell_of_row _ _ _ _ _ _ hB] at g;simp only [Nat.zero_mul,Nat.add_zero,List.getElem?_toArray] at g;exact hv _ (List.mem_of_getElem? g) _ rfl
 refine⟨b,o,e,Nat.lt_of_lt_of_le f hb.size,fun i x G j u F=>?_⟩;exact(hb.cell (p:=⟨b,_,none⟩) f (by simpa using q)).trans (y i x G j u F)
theorem bL_ (d:cc_):(aJ_ d).length =6:=rfl
theorem fD_ (d:cc_): ∀ u∈aJ_ d,u.oneCell'=true:=fun u f=>by simp [aJ_] at f;rcases f with rfl|rfl|rfl|rfl|rfl|rfl<;>rfl
theorem bF_ (d:bM_):(aL_ d).length =4:=rfl
theorem fW_ (d:bM_): ∀ u∈aL_ d,u.oneCell'=true:=fun u f=>by simp [aL_] at f;rcases f with rfl|rfl|rfl|rfl<;>rfl
theorem bU_ (d:HazP):(hazE d).length =5:=rfl
theorem e8_ (d:HazP): ∀ u∈hazE d,u.oneCell'=true:=fun u f=>by simp [hazE] at f;rcases f with rfl|rfl|rfl|rfl|rfl<;>rfl
abbrev RE3:=SlV×SlV×SlV
def re3E (e:RE3):List Value:=[e.1.v,e.2.1.v,e.2.2.v]
theorem c7_ (e:RE3):(re3E e).length =3:=rfl
theorem gD_ (e:RE3): ∀ u∈re3E e,u.oneCell'=true:=fun u f=>by simp [re3E,SlV.v] at f;rcases f with rfl|rfl|rfl<;>rfl
structure RouT (base:Nat) (w:World) (e:RE3) (r:ba_):Prop where
 s0:w.ownsRow base 3 1 e.1.v r.stops.length (r.stops.flatMap (numE .i64))
 s1:w.ownsRow base 2 1 e.2.1.v r.rides.length (r.rides.flatMap (numE .i64))
 s2:w.ownsRow base 2 1 e.2.2.v r.stays.length (r.stays.flatMap (numE .i64))
theorem RouT.up {base:Nat} {w w':World} {e:RE3} {r:ba_} (h:RouT base w e r) (hup: ∀ (base':Nat) (e':TypeId) (size':Nat) (v':Value) (n':Nat) (xs':List Value),(e'=3∨e'=2) ->base'=base ->w.ownsRow base' e' size' v' n' xs' ->w'.ownsRow base' e' size' v' n' xs'):RouT base w' e r:=
 ⟨hup _ _ _ _ _ _ (.inl rfl) rfl h.s0,hup _ _ _ _ _ _ (.inr rfl) rfl h.s1,hup _ _ _ _ _ _ (.inr rfl) rfl h.s2⟩
theorem aD_.routes {base n:Nat} {w:World} {L:List RE3} {D:List ba_} {A:Option Addr} (h:aD_ (RouT base) w L D) (hr:Rd w 3 re3E A n L):cI_ w A n D:=by
 refine⟨by rw [<-h.len];exact hr.len,fun k r J=>?_⟩;have z:k<n:=by rw [<-hr.len,h.len];exact(List.getElem?_eq_some_iff.1 J).1
 obtain⟨b,o,e,rfl,M,N,y⟩:=hr.get z;have q:=h.at_ k e r N J;have p:=y 0 _ rfl;have F:=y 1 _ rfl;have G:=y 2 _ rfl;rw [Nat.add_zero] at p;refine⟨b,o,rfl,M,?_,?_,?_⟩
 ·obtain⟨A,c,e,f,g,j⟩:=Rd.of_own aj_ rfl q.s0;rw [e] at p;exact⟨A,_,c,p,f,g,j⟩
 ·obtain⟨A,c,e,f,g,j⟩:=Rd.of_own aj_ rfl q.s1;rw [e] at F;exact⟨A,_,c,F,f,g,j⟩
 ·obtain⟨A,c,e,f,g,j⟩:=Rd.of_own aj_ rfl q.s2;rw [e] at G;exact⟨A,_,c,G,f,g,j⟩
theorem fb_:(Tryz.prog.info? 99).map (fun i=>(i.zero,i.size,i.bytes))=some (some (.agg #[.int .i64 0,.int .i64 0,.int .i64 0]),3,24):=by kernel_rfl
theorem fa_:(Tryz.prog.info? 104).map (fun i=>(i.zero,i.size,i.bytes))=some (some (.agg #[.int .i64 0,.int .i64 0,.int .i64 0,.int .i64 0,.int .i64 0,.int .i64 0]),6,48):=by kernel_rfl
theorem fd_:(Tryz.prog.info? 53).map (fun i=>(i.zero,i.size,i.bytes))=some (some (.agg #[.int .i64 0,.int .i64 0,.int .i64 0,.int .i64 0]),4,32):=by kernel_rfl
theorem eC_:(Tryz.prog.info? 108).map (fun i=>(i.zero,i.size,i.bytes))=some (some (.agg #[.bool false,.int .i64 0,.int .i64 0,.int .i64 0,.int .i64 0]),5,40):=by kernel_rfl
theorem eN_:(Tryz.prog.info? 51).map (fun i=>(i.zero,i.size,i.bytes))=some (some (.agg #[.slice none 0 0,.slice none 0 0,.slice none 0 0]),3,72):=by kernel_rfl
theorem eb_:(Tryz.prog.info? 3).map (fun i=>(i.zero,i.size,i.bytes))=some (some (.int .i64 0),1,8):=by kernel_rfl
def gQ_:Value ->List Value
 | .agg a=>a.toList
 |v=>[v]
def gK_ (X:ay_) (v:Value) (w:World):Prop:= ∃ b0 b1 b2 b3 b4 b5:Option Addr, ∃ k0 k1 k2 k3 k4 k5:Nat,v= .agg #[.slice b0 X.stops.length k0,.slice b1 X.paths.length k1,.slice b2 X.doors.length k2,.slice b3 X.routes.length k3,.slice b4 X.trips.length k4,.slice b5 X.hazs.length k5]/\
 Rd w 1 strE b0 X.stops.length X.stops/\Rd w 1 strE b1 X.paths.length (X.paths.map (·.name))/\Rd w 1 strE b2 X.doors.length (X.doors.map (·.name))/\Rd w 1 strE b3 X.routes.length (X.routes.map (·.name))/\Rd w 1 strE b4 X.trips.length (X.trips.map (·.name))/\Rd w 1 strE b5 X.hazs.length (X.hazs.map (·.name))
theorem gK_.mono (X:ay_):Mono (gK_ X):=fun v w w' h f=>by
 obtain⟨g,j,n,p,q,y,M,N,P,Q,R,S,e,z,D,F,G,J,L⟩:=h;exact⟨g,j,n,p,q,y,M,N,P,Q,R,S,e,z.below f,D.below f,F.below f,G.below f,J.below f,L.below f⟩
structure RunP where
 (trip no:Int)
 (arr dep:List Int)
instance:Inhabited RunP:=⟨⟨0,0,[],[]⟩⟩
abbrev RnE:=Int×Int×SlV×SlV
def rnE (e:RnE):List Value:=[.int .i64 e.1,.int .i64 e.2.1,e.2.2.1.v,e.2.2.2.v]
theorem hF_ (e:RnE):(rnE e).length =4:=rfl
theorem o6_ (e:RnE): ∀ u∈rnE e,u.oneCell'=true:=fun u f=>by simp [rnE,SlV.v] at f;rcases f with rfl|rfl|rfl|rfl<;>rfl
structure RunT (w:World) (e:RnE) (r:RunP):Prop where
 trip:e.1=r.trip
 no:e.2.1=r.no
 arr:Rd w 1 (numE .i64) e.2.2.1.1 e.2.2.1.2.1 r.arr
 ca:e.2.2.1.2.1<=e.2.2.1.2.2/\e.2.2.1.2.2<=9223372036854775807
 dep:Rd w 1 (numE .i64) e.2.2.2.1 e.2.2.2.2.1 r.dep
 cd:e.2.2.2.2.1<=e.2.2.2.2.2/\e.2.2.2.2.2<=9223372036854775807
theorem RunT.below {w w':World} {e:RnE} {r:RunP} (h:RunT w e r) (hb:Below w.heap.size w w'):RunT w' e r:=⟨h.trip,h.no,h.arr.below hb,h.ca,h.dep.below hb,h.cd⟩
structure be_ (w:World) (A:Option Addr) (n:Nat) (L:List RunP):Prop where
 ex: ∃ E:List RnE,Rd w 4 rnE A n E/\aD_ RunT w E L
section
variable {w w':World} {A:Option Addr} {n:Nat} {L:List RunP}
theorem be_.below (h:be_ w A n L) (hb:Below w.heap.size w w'):be_ w' A n L:=by
 obtain⟨E,f,g⟩:=h.ex;exact⟨E,f.below hb,g.up fun e r h=>h.below hb⟩
theorem be_.len (h:be_ w A n L):L.length=n:=by
 obtain⟨E,f,g⟩:=h.ex;rw [<-g.len];exact f.len
theorem be_.get (h:be_ w A n L) {k:Nat} (hk:k<n): ∃ b o r A1 n1 c1 A2 n2 c2,A=some ⟨b,o,none⟩/\b<w.heap.size/\L[k]?=some r/\w.cell? ⟨b,o+k*4,none⟩=some (.int .i64 r.trip)/\w.cell? ⟨b,o+k*4+1,none⟩=some (.int .i64 r.no)/\
 w.cell? ⟨b,o+k*4+2,none⟩=some (.slice A1 n1 c1)/\w.cell? ⟨b,o+k*4+3,none⟩=some (.slice A2 n2 c2)/\Rd w 1 (numE .i64) A1 n1 r.arr/\Rd w 1 (numE .i64) A2 n2 r.dep/\(n1<=c1/\c1<=9223372036854775807)/\(n2<=c2/\c2<=9223372036854775807):=by
 have aA:=h.len;obtain⟨E,P,Q⟩:=h.ex;obtain⟨b,o,e,rfl,R,S,g⟩:=P.get hk;have p:L[k]?=some L[k]:=List.getElem?_eq_getElem (by omega);have f:=Q.at_ k e _ S p;obtain⟨e1,e2,⟨z,D,F⟩,⟨G,J,M⟩⟩:=e;have j:=g 0 _ rfl;have c1:=g 1 _ rfl;have c2:=g 2 _ rfl;have N:=g 3 _ rfl;have q:=f.trip;have y:=f.no;simp only at q y;rw [Nat.add_zero] at j;exact⟨b,o,L[k],z,D,F,G,J,M,rfl,R,p,by rw [<-q];exact j,by rw [<-y];exact c1,c2,N,f.arr,f.dep,f.ca,f.cd⟩
end
end Go.Proofs.YtechdefolfboeaaGreatDoor
namespace Go.Proofs.YtechdefolfboeaaGreatDoor
namespace B
open Go.RowKit Go.ChangeShapes Go.WideShapes Go.Deep Go.Joins
section
variable {H:Type} {encH:TypeId×Value ->H} {P:Program} {w:World} {base:Nat} {spare:Nat ->Bool} {held:Bool}
def Dc (encH:TypeId×Value ->H) (P:Program) (w:World) (base:Nat) (spare:Nat ->Bool) (held:Bool) (t:TypeId) (R:List Value ->Prop):Prop:=
 ∀ (fuel:Nat) (cs:List Value) (x:DataW H×List MemPlace),DataW.trod encH P w base spare held fuel t cs=some x ->R cs
theorem Dc.int {t:TypeId} (ht:P.underlying t=some (.int .i64)):Dc encH P w base spare held t fun cs=> ∃ a,cs=[.int .i64 a]/\(Lit.int .i64 a).wf =true:=fun aA cs x h=>by
 obtain⟨a,e,_,w0⟩:=DataW.trod_int ht h;exact⟨a,e,w0⟩
theorem Dc.bool {t:TypeId} (ht:P.underlying t=some .bool):Dc encH P w base spare held t fun cs=> ∃ a,cs=[.bool a]:=fun aA cs x h=>by
 obtain⟨a,e,_⟩:=DataW.trod_bool ht h;exact⟨a,e⟩
theorem Dc.str {t:TypeId} (ht:P.underlying t=some .string):Dc encH P w base spare held t fun cs=> ∃ s,cs=[.string s]:=fun aA cs x h=>by
 obtain⟨a,e,_⟩:=DataW.trod_string ht h;exact⟨a,e⟩
theorem Dc.and {t:TypeId} {R R':List Value ->Prop} (h:Dc encH P w base spare held t R) (h':Dc encH P w base spare held t R'):Dc encH P w base spare held t fun cs=>R cs/\R' cs:=fun f cs x g=>⟨h f cs x g,h' f cs x g⟩
theorem Dc.len {t:TypeId} {fs:Array Field} {k:Nat} (ht:P.underlying t=some (.struct fs)) (hC:P.cellsOf t=k):Dc encH P w base spare held t fun cs=>cs.length=k:=fun aA cs x h=>by
 obtain⟨_,_,_,_,f,_⟩:=DataW.trod_struct ht h;rw [f,hC]
theorem Dc.fld {t u:TypeId} {fs:Array Field} {R:List Value ->Prop} (i o k:Nat) (f:Field) (ht:P.underlying t=some (.struct fs)) (hf:fs[i]?=some f) (hu:f.type=u) (hO:(f.offset,P.cellsOf f.type)=(o,k)) (h:Dc encH P w base spare held u R):Dc encH P w base spare held t fun cs=>R ((cs.drop o).take k):=fun aA cs x p=>by
 obtain⟨xs,n,_,_,_,g,j⟩:=DataW.trod_struct ht p;have:=j i f hf;simp only [Prod.mk.injEq] at hO;rw [hO.1,hO.2,hu,List.getElem?_eq_getElem (by rw [g];exact(Array.getElem?_eq_some_iff.1 hf).1)] at this;exact h n _ _ this
def SlOf (w:World) (size:Nat) (R:List Value ->Prop) (A:Option Addr) (n:Nat):Prop:= ∀ i,i<n -> ∃ (b o:Nat) (cs':List Value),A=some ⟨b,o,none⟩/\b<w.heap.size/\cs'.length=size/\(∀ (j:Nat) (u:Value),cs'[j]?=some u ->w.cell? ⟨b,o+i*size+j,none⟩=some u)/\R cs'
theorem Dc.sl {t e:TypeId} {R:List Value ->Prop} (size:Nat) (ht:P.underlying t=some (.slice e)) (hC:P.cellsOf e=size) (hpos:0<size) (h:Dc encH P w base spare held e R):
 Dc encH P w base spare held t fun cs=> ∃ A n c,cs=[.slice A n c]/\n<=c/\c<=9223372036854775807/\SlOf w size R A n:=fun aA cs x X=>by
 rcases open_slice ht X with⟨rfl,_⟩|⟨a,len,F,m,n,D,Pl,rfl,hb,Y,Z,N,_,z⟩
 ·exact⟨none,0,0,rfl,Nat.le_refl _,by omega,fun i z=>absurd z (by omega)⟩
 ·have aD:len<=m:=by rw [N];split<;>omega
  refine⟨some a,len,F,rfl,Y,by rw [<-ce_];exact Z,fun i aC=>?_⟩;obtain⟨g,T,S⟩:=z i (by omega);rw [hC] at T;obtain⟨_,M,p⟩:=World.cells?_some T;obtain⟨b,o,d⟩:=a;have J:=p 0 hpos;rw [List.getElem?_eq_getElem (by omega:0<g.length),add_add] at J
  have Q:d=none:=by
   obtain⟨G,y,_⟩:=z 0 (by omega);rw [hC] at y;obtain⟨_,aB,q⟩:=World.cells?_some y;have f:=q 0 hpos;rw [List.getElem?_eq_getElem (by omega:0<G.length)] at f;simpa [Addr.add] using World.cell?_spot (by simpa [Addr.add] using f)
  subst Q
  have L:b<w.heap.size:=by
   have f:=block_lt_of_cell J;unfold Addr.add at f;split at f<;>exact f
  refine⟨b,o,g,rfl,L,M,fun j u U=>?_,h _ _ _ S⟩;have hj:=(List.getElem?_eq_some_iff.1 U).1;have:=p j (by omega);rw [U,add_add] at this;rw [<-this]
  congr 1
  unfold Addr.add;split
  ·rename_i J;simp;try omega
  ·simp [Nat.add_assoc]
theorem SlOf.rd {α:Type} [Inhabited α] {enc:α ->List Value} {ok:α ->Prop} {size n:Nat} {R:List Value ->Prop} {A:Option Addr} (h:SlOf w size R A n) (hR: ∀ cs,cs.length=size ->R cs -> ∃ y,cs=enc y/\ok y): ∃ l,Rd w size enc A n l/\ ∀ x∈l,ok x:=by
 have M: ∀ i,i<n -> ∃ y:α,ok y/\ ∃ b o,A=some ⟨b,o,none⟩/\b<w.heap.size/\ ∀ (j:Nat) (u:Value),(enc y)[j]?=some u ->w.cell? ⟨b,o+i*size+j,none⟩=some u:=by
  intro i J;obtain⟨b,o,q,rfl,F,G,D,Q⟩:=h i J;obtain⟨y,rfl,p⟩:=hR q G Q;exact⟨y,p,b,o,rfl,F,D⟩
 obtain⟨L,z⟩:=choose_lt M;refine⟨(List.range n).map L,⟨by simp,fun P=>?_⟩,fun x T=>?_⟩
 ·obtain⟨_,b,o,rfl,F,_⟩:=z 0 P;refine⟨b,o,rfl,F,fun i y p j u S=>?_⟩;rw [List.getElem?_map] at p;obtain⟨i',f,rfl⟩:=Option.map_eq_some_iff.1 p;obtain⟨g,rfl⟩:=List.getElem?_eq_some_iff.1 f;simp at g;obtain⟨_,b',o',e,_,N⟩:=z i g;cases e;exact N j u (by simpa using S)
 ·obtain⟨i,f,rfl⟩:=List.mem_map.1 T;exact(z i (List.mem_range.1 f)).1
theorem SlOf.each {α:Type} [Inhabited α] {Q:World ->Nat ->Nat ->α ->Prop} {size n:Nat} {R:List Value ->Prop} {A:Option Addr} (h:SlOf w size R A n) (hR: ∀ cs b o,cs.length=size ->R cs ->b<w.heap.size ->(∀ (j:Nat) (u:Value),cs[j]?=some u ->w.cell? ⟨b,o+j,none⟩=some u) -> ∃ y,Q w b o y):
 ∃ l:List α,l.length=n/\ ∀ (k:Nat) (r:α),l[k]?=some r -> ∃ b o,A=some ⟨b,o,none⟩/\b<w.heap.size/\Q w b (o+k*size) r:=by
 have G: ∀ i,i<n -> ∃ y:α, ∃ b o,A=some ⟨b,o,none⟩/\b<w.heap.size/\Q w b (o+i*size) y:=by
  intro i F;obtain⟨b,o,p,rfl,J,z,q,g⟩:=h i F;obtain⟨y,N⟩:=hR p b (o+i*size) z g J q;exact⟨y,b,o,rfl,J,N⟩
 obtain⟨L,M⟩:=choose_lt G;refine⟨(List.range n).map L,by simp,fun k r g=>?_⟩;rw [List.getElem?_map] at g;obtain⟨i',D,rfl⟩:=Option.map_eq_some_iff.1 g;obtain⟨f,rfl⟩:=List.getElem?_eq_some_iff.1 D;simp at f;simpa using M k f
theorem SlOf.nums {n:Nat} {A:Option Addr} (h:SlOf w 1 (fun cs=> ∃ a,cs=[.int .i64 a]/\(Lit.int .i64 a).wf =true) A n): ∃ l,Rd w 1 (numE .i64) A n l/\ ∀ x∈l,(Lit.int .i64 x).wf =true:=
 h.rd (fun cs _ ⟨a,e,w0⟩=>⟨a,e,w0⟩)
theorem SlOf.strs {n:Nat} {A:Option Addr} (h:SlOf w 1 (fun cs=> ∃ a,cs=[.string a]) A n): ∃ l,Rd w 1 strE A n l:=by
 obtain⟨l,f,_⟩:=h.rd (α:=Str) (ok:=fun _=>True) (fun cs _ ⟨a,e⟩=>⟨a,e,trivial⟩);exact⟨l,f⟩
theorem oV_ {r:Reach} {b0:Nat} {t:TypeId} {fs:Array Field} {v:Value} {d:DataW H} {p:List MemPlace} {R:List Value ->Prop} (ht:P.underlying t=some (.struct fs)) (hd:Dc encH P w base spare held t R) (hv:Value.okWide P w r b0 t v) (h:DataW.Trod encH P w base spare held t v d p):
 ∃ cs,v= .agg cs.toArray/\cs.length=P.cellsOf t/\R cs:=by
 obtain⟨cs,rfl,f⟩:=okWide_struct ht hv;obtain⟨aA,g⟩:=h;exact⟨cs.toList,by simp,by simpa using f,by simpa [Value.cells] using hd _ _ _ g⟩
theorem i3_ {r:Reach} {b0:Nat} {t e:TypeId} {v:Value} {d:DataW H} {p:List MemPlace} {R:List Value ->Prop} (size:Nat) (ht:P.underlying t=some (.slice e)) (hC:P.cellsOf e=size) (hpos:0<size) (hd:Dc encH P w base spare held e R) (hv:Value.okWide P w r b0 t v) (h:DataW.Trod encH P w base spare held t v d p):
 ∃ A n c,v= .slice A n c/\n<=c/\c<=9223372036854775807/\SlOf w size R A n:=by
 obtain⟨A0,n0,c0,rfl⟩:=okWide_slice ht hv;obtain⟨aA,q⟩:=h;obtain⟨A,n,c,e,f,g,j⟩:=Dc.sl size ht hC hpos hd _ _ _ q;simp [Value.cells] at e;obtain⟨rfl,rfl,rfl⟩:=e;exact⟨_,_,_,rfl,f,g,j⟩
end
end B
