/- Merged. -/
import Derived.Test.YtechdefolfboeaaGreatDoorPo2
import Derived.Test.YtechdefolfboeaaGreatDoorPo3
import Derived.Test.YtechdefolfboeaaGreatDoorPo4
set_option linter.unusedVariables false
set_option linter.unusedSimpArgs false
set_option maxHeartbeats 4000000
namespace Go.Proofs.YtechdefolfboeaaGreatDoor
open Go.RowKit B
theorem info_tSPath:(Tryz.prog.info? 171).map (fun i=>(i.zero,i.size,i.bytes))=some (some (.agg #[.string ⟨#[]⟩,.string ⟨#[]⟩,.string ⟨#[]⟩,.int .i64 0]),4,56):=by kernel_rfl
theorem info_tSDoor:(Tryz.prog.info? 173).map (fun i=>(i.zero,i.size,i.bytes))=some (some (.agg #[.string ⟨#[]⟩,.string ⟨#[]⟩,.string ⟨#[]⟩,.int .i64 0,.int .i64 0,.int .i64 0,.int .i64 0]),7,80):=by kernel_rfl
theorem info_tSTrip:(Tryz.prog.info? 179).map (fun i=>(i.zero,i.size,i.bytes))=some (some (.agg #[.string ⟨#[]⟩,.string ⟨#[]⟩,.int .i64 0,.int .i64 0,.int .i64 0]),5,56):=by kernel_rfl
theorem info_tSHaz:(Tryz.prog.info? 181).map (fun i=>(i.zero,i.size,i.bytes))=some (some (.agg #[.string ⟨#[]⟩,.string ⟨#[]⟩,.int .i64 0,.int .i64 0,.int .i64 0]),5,56):=by kernel_rfl
theorem info_tSRoute:(Tryz.prog.info? 177).map (fun i=>(i.zero,i.size,i.bytes))=some (some (.agg #[.string ⟨#[]⟩,.slice none 0 0,.slice none 0 0,.slice none 0 0]),4,88):=by kernel_rfl
theorem info_tStr:(Tryz.prog.info? 9).map (fun i=>(i.zero,i.size,i.bytes))=some (some (.string ⟨#[]⟩),1,16):=by kernel_rfl
theorem info_tI64:(Tryz.prog.info? 2).map (fun i=>(i.zero,i.size,i.bytes))=some (some (.int .i64 0),1,8):=by kernel_rfl
theorem num_len (x:Int):(numE .i64 x).length =1:=rfl
theorem num_one (x:Int): ∀ u∈numE .i64 x,u.oneCell'=true:=fun u hu=>by simp [numE] at hu;subst hu;rfl
theorem strAt_of {l:List Str} {p:Nat} {s:Str} (h:l[p]?=some s):strAt l (p:Int)=s:=by unfold strAt;rw [Int.toNat_natCast,h];rfl
theorem upTo2_at {β:Type} {f:Nat→Option β} {n:Nat} (h: ∀ i,i<n→(f i).isSome) {k:Nat} (hk:k<n) {x:β} (hx:f k=some x):(upTo2 f n)[k]?=some x:=by
 induction n with
 |zero=>omega
 |succ m ih=>
  obtain⟨y,hy⟩:=Option.isSome_iff_exists.1 (h m (by omega));rw [upTo2_snoc hy];have hl:=upTo2_len (n:=m) (fun i hi=>h i (by omega)) m (Nat.le_refl _);rcases Nat.lt_or_ge k m with hkm|hkm
  ·rw [List.getElem?_append_left (by rw [hl];exact hkm)];exact ih (fun i hi=>h i (by omega)) hkm
  ·obtain rfl:k=m:=by omega
   rw [List.getElem?_append_right (by rw [hl];omega),hl];rw [hx] at hy;cases hy;simp
abbrev SlV:=Option Addr×Nat×Nat
def SlV.v (s:SlV):Value:= .slice s.1 s.2.1 s.2.2
abbrev REl:=Str×SlV×SlV×SlV
def relE (e:REl):List Value:=[.string e.1,e.2.1.v,e.2.2.1.v,e.2.2.2.v]
theorem relE_len (e:REl):(relE e).length =4:=rfl
theorem relE_one (e:REl): ∀ u∈relE e,u.oneCell'=true:=fun u hu=>by simp [relE,SlV.v] at hu;rcases hu with rfl|rfl|rfl|rfl<;>rfl
structure RowT (w:World) (base:Nat) (e:REl) (r:SRouteP):Prop where
 nm:e.1=r.name
 s0:w.ownsRow base 9 1 e.2.1.v r.stops.length (r.stops.flatMap strE)
 s1:w.ownsRow base 2 1 e.2.2.1.v r.rides.length (r.rides.flatMap (numE .i64))
 s2:w.ownsRow base 2 1 e.2.2.2.v r.stays.length (r.stays.flatMap (numE .i64))
structure RowsT (w:World) (base:Nat) (W:WorldP) (L:List REl) (i:Nat):Prop where
 len:L.length=i
 at_: ∀ (k:Nat) (e:REl),L[k]?=some e→ ∃ r,toldR W k=some r∧RowT w base e r
theorem RowT.up {w w':World} {base:Nat} {e:REl} {r:SRouteP} (h:RowT w base e r) (hup: ∀ (base':Nat) (e':TypeId) (size':Nat) (v':Value) (n':Nat) (xs':List Value),(e'=9∨e'=2)→base'=base→w.ownsRow base' e' size' v' n' xs'→w'.ownsRow base' e' size' v' n' xs'):RowT w' base e r:=
 ⟨h.nm,hup _ _ _ _ _ _ (.inl rfl) rfl h.s0,hup _ _ _ _ _ _ (.inr rfl) rfl h.s1,hup _ _ _ _ _ _ (.inr rfl) rfl h.s2⟩
theorem RowsT.up {w w':World} {base:Nat} {W:WorldP} {L:List REl} {i:Nat} (h:RowsT w base W L i) (hup: ∀ (base':Nat) (e':TypeId) (size':Nat) (v':Value) (n':Nat) (xs':List Value),(e'=9∨e'=2)→base'=base→w.ownsRow base' e' size' v' n' xs'→w'.ownsRow base' e' size' v' n' xs'):RowsT w' base W L i:=
 ⟨h.len,fun k e he=>by obtain⟨r,h1,h2⟩:=h.at_ k e he;exact⟨r,h1,h2.up hup⟩⟩
theorem RowsT.snoc {w:World} {base:Nat} {W:WorldP} {L:List REl} {i:Nat} {e:REl} {r:SRouteP} (h:RowsT w base W L i) (hr:toldR W i=some r) (he:RowT w base e r):RowsT w base W (L++[e]) (i+1):=by
 refine⟨by simp [h.len],fun k e' he'=>?_⟩;rcases Nat.lt_or_ge k L.length with hk|hk
 ·rw [List.getElem?_append_left hk] at he';exact h.at_ k e' he'
 ·rw [List.getElem?_append_right hk] at he'
  have hk0:k-L.length=0:=by
   rcases Nat.eq_zero_or_pos (k-L.length) with h0|h0
   ·exact h0
   ·rw [List.getElem?_eq_none (by simp;omega)] at he';cases he'
  rw [hk0] at he';have:e=e':=by simpa using he'
  subst this;have:k=i:=by have:=h.len;omega
  subst this;exact⟨r,hr,he⟩
theorem slS_of {w:World} {base b o:Nat} {s:SlV} {l:List Str} (hc:w.cell? ⟨b,o,none⟩=some s.v) (h:w.ownsRow base 9 1 s.v l.length (l.flatMap strE)):SlS w b o l:=by
 obtain⟨A,c,e,h1,h2,h3⟩:=Rd.of_own strE_len rfl h;rw [e] at hc;exact⟨A,l.length,c,hc,h1,h2,h3⟩
theorem slI_of {w:World} {base b o:Nat} {s:SlV} {l:List Int} (hc:w.cell? ⟨b,o,none⟩=some s.v) (h:w.ownsRow base 2 1 s.v l.length (l.flatMap (numE .i64))):SlAt w b o l:=by
 obtain⟨A,c,e,h1,h2,h3⟩:=Rd.of_own num_len rfl h;rw [e] at hc;exact⟨A,l.length,c,hc,h1,h2,h3⟩
theorem RowsT.done {w:World} {base:Nat} {W:WorldP} {L:List REl} {n:Nat} {A:Option Addr} (h:RowsT w base W L n) (hr:Rd w 4 relE A n L) (hall: ∀ i,i<n→(toldR W i).isSome):RSRoutes w A n (upTo2 (toldR W) n):=by
 refine⟨upTo2_len hall n (Nat.le_refl _),fun k r hk=>?_⟩
 have hkn:k<n:=by
  obtain⟨h1,_⟩:=List.getElem?_eq_some_iff.1 hk;rw [upTo2_len hall n (Nat.le_refl _)] at h1;exact h1
 obtain⟨b,o,e,rfl,hb,he,hc⟩:=hr.get hkn;obtain⟨r',hr',hT⟩:=h.at_ k e he
 have:r=r':=by
  have h2:=upTo2_at hall hkn hr';rw [hk] at h2;exact Option.some.inj h2
 subst this;have c0:=hc 0 _ rfl;have c1:=hc 1 _ rfl;have c2:=hc 2 _ rfl;have c3:=hc 3 _ rfl;rw [Nat.add_zero] at c0;rw [hT.nm] at c0;exact⟨b,o,rfl,hb,c0,slS_of c1 hT.s0,slI_of c2 hT.s1,slI_of c3 hT.s2⟩
theorem rd_own {α:Type} {enc:α→List Value} {w:World} {base size n c:Nat} {A:Option Addr} {e:TypeId} {l:List α} (hs: ∀ x,(enc x).length =size) (hl:l.length=n) (h:w.ownsRow base e size (.slice A n c) n (l.flatMap enc)):Rd w size enc A n l:=by
 obtain⟨A',c',e,r,_⟩:=Rd.of_own hs hl h;cases e;exact r
def RetTold (W:WorldP) (we:World) (e:Ending) (w':World):Prop:= ∃ V:SV,e= .returned (sVal (toldS W) V)∧RS w' (toldS W) V∧Below we.heap.size we w'
structure RowsG {ε ρ:Type} (RT:World→ε→ρ→Prop) (w:World) (L:List ε) (D:List ρ):Prop where
 len:L.length=D.length
 at_: ∀ (k:Nat) (e:ε) (r:ρ),L[k]?=some e→D[k]?=some r→RT w e r
section
variable {ε ρ:Type} {RT:World→ε→ρ→Prop} {w w':World} {L:List ε} {D:List ρ}
theorem RowsG.nil:RowsG RT w [] []:=⟨rfl,fun k e r h=>by simp at h⟩
theorem RowsG.up (h:RowsG RT w L D) (hup: ∀ e r,RT w e r→RT w' e r):RowsG RT w' L D:=⟨h.len,fun k e r h1 h2=>hup e r (h.at_ k e r h1 h2)⟩
theorem RowsG.snoc {e:ε} {r:ρ} (h:RowsG RT w L D) (he:RT w e r):RowsG RT w (L++[e]) (D++[r]):=by
 refine⟨by simp [h.len],fun k e' r' h1 h2=>?_⟩;rcases Nat.lt_or_ge k L.length with hk|hk
 ·rw [List.getElem?_append_left hk] at h1;rw [List.getElem?_append_left (by rw [←h.len];exact hk)] at h2;exact h.at_ k e' r' h1 h2
 ·rw [List.getElem?_append_right hk] at h1;rw [List.getElem?_append_right (by rw [←h.len];exact hk)] at h2;have hk0:k-L.length=0:=by have:=(List.getElem?_eq_some_iff.1 h1).1;simp at this;omega
  rw [hk0] at h1;rw [←h.len,hk0] at h2;simp at h1 h2;subst h1 h2;exact he
theorem RowsG.get (h:RowsG RT w L D) {k:Nat} {r:ρ} (hr:D[k]?=some r): ∃ e,L[k]?=some e∧RT w e r:=by
 have hk:k<L.length:=by rw [h.len];exact(List.getElem?_eq_some_iff.1 hr).1
 exact⟨_,List.getElem?_eq_getElem hk,h.at_ k _ r (List.getElem?_eq_getElem hk) hr⟩
end
theorem B.Rd.keep_box {w U:World} {A:Option Addr} {n bo:Nat} {l:List Str} {T:TypeId} {vs:List Value} (h:Rd w 1 strE A n l) (hB:Bx w bo T vs) (hv: ∀ v∈vs, ∀ s,v≠ .string s) (hb:But w U [bo]):Rd U 1 strE A n l:=by
 refine⟨h.len,fun hn=>?_⟩;obtain⟨b,o,e,hb0,hc⟩:=h.cells hn
 have hne:b≠bo:=by
  rintro rfl;have hl:0<l.length:=by rw [h.len];exact hn
  have h1:=hc 0 l[0] (List.getElem?_eq_getElem hl) 0 _ rfl;rw [cell_of_row _ _ _ _ _ _ hB] at h1;simp only [Nat.zero_mul,Nat.add_zero,List.getElem?_toArray] at h1;exact hv _ (List.mem_of_getElem? h1) _ rfl
 refine⟨b,o,e,Nat.lt_of_lt_of_le hb0 hb.size,fun i x hx j u hu=>?_⟩;exact(hb.cell (p:=⟨b,_,none⟩) hb0 (by simpa using hne)).trans (hc i x hx j u hu)
theorem doorE_len (d:DoorP):(doorE d).length =6:=rfl
theorem doorE_one (d:DoorP): ∀ u∈doorE d,u.oneCell'=true:=fun u hu=>by simp [doorE] at hu;rcases hu with rfl|rfl|rfl|rfl|rfl|rfl<;>rfl
theorem tripP_len (d:TripP):(tripP d).length =4:=rfl
theorem tripP_one (d:TripP): ∀ u∈tripP d,u.oneCell'=true:=fun u hu=>by simp [tripP] at hu;rcases hu with rfl|rfl|rfl|rfl<;>rfl
theorem hazE_len (d:HazP):(hazE d).length =5:=rfl
theorem hazE_one (d:HazP): ∀ u∈hazE d,u.oneCell'=true:=fun u hu=>by simp [hazE] at hu;rcases hu with rfl|rfl|rfl|rfl|rfl<;>rfl
abbrev RE3:=SlV×SlV×SlV
def re3E (e:RE3):List Value:=[e.1.v,e.2.1.v,e.2.2.v]
theorem re3E_len (e:RE3):(re3E e).length =3:=rfl
theorem re3E_one (e:RE3): ∀ u∈re3E e,u.oneCell'=true:=fun u hu=>by simp [re3E,SlV.v] at hu;rcases hu with rfl|rfl|rfl<;>rfl
structure RouT (base:Nat) (w:World) (e:RE3) (r:RouteP):Prop where
 s0:w.ownsRow base 3 1 e.1.v r.stops.length (r.stops.flatMap (numE .i64))
 s1:w.ownsRow base 2 1 e.2.1.v r.rides.length (r.rides.flatMap (numE .i64))
 s2:w.ownsRow base 2 1 e.2.2.v r.stays.length (r.stays.flatMap (numE .i64))
theorem RouT.up {base:Nat} {w w':World} {e:RE3} {r:RouteP} (h:RouT base w e r) (hup: ∀ (base':Nat) (e':TypeId) (size':Nat) (v':Value) (n':Nat) (xs':List Value),(e'=3∨e'=2)→base'=base→w.ownsRow base' e' size' v' n' xs'→w'.ownsRow base' e' size' v' n' xs'):RouT base w' e r:=
 ⟨hup _ _ _ _ _ _ (.inl rfl) rfl h.s0,hup _ _ _ _ _ _ (.inr rfl) rfl h.s1,hup _ _ _ _ _ _ (.inr rfl) rfl h.s2⟩
theorem RowsG.routes {base n:Nat} {w:World} {L:List RE3} {D:List RouteP} {A:Option Addr} (h:RowsG (RouT base) w L D) (hr:Rd w 3 re3E A n L):RRoutes w A n D:=by
 refine⟨by rw [←h.len];exact hr.len,fun k r hk=>?_⟩;have hkn:k<n:=by rw [←hr.len,h.len];exact(List.getElem?_eq_some_iff.1 hk).1
 obtain⟨b,o,e,rfl,hb,he,hc⟩:=hr.get hkn;have hT:=h.at_ k e r he hk;have c0:=hc 0 _ rfl;have c1:=hc 1 _ rfl;have c2:=hc 2 _ rfl;rw [Nat.add_zero] at c0;refine⟨b,o,rfl,hb,?_,?_,?_⟩
 ·obtain⟨A,c,e,h1,h2,h3⟩:=Rd.of_own num_len rfl hT.s0;rw [e] at c0;exact⟨A,_,c,c0,h1,h2,h3⟩
 ·obtain⟨A,c,e,h1,h2,h3⟩:=Rd.of_own num_len rfl hT.s1;rw [e] at c1;exact⟨A,_,c,c1,h1,h2,h3⟩
 ·obtain⟨A,c,e,h1,h2,h3⟩:=Rd.of_own num_len rfl hT.s2;rw [e] at c2;exact⟨A,_,c,c2,h1,h2,h3⟩
theorem info_tPath:(Tryz.prog.info? 99).map (fun i=>(i.zero,i.size,i.bytes))=some (some (.agg #[.int .i64 0,.int .i64 0,.int .i64 0]),3,24):=by kernel_rfl
theorem info_tDoor:(Tryz.prog.info? 104).map (fun i=>(i.zero,i.size,i.bytes))=some (some (.agg #[.int .i64 0,.int .i64 0,.int .i64 0,.int .i64 0,.int .i64 0,.int .i64 0]),6,48):=by kernel_rfl
theorem info_tTrip:(Tryz.prog.info? 53).map (fun i=>(i.zero,i.size,i.bytes))=some (some (.agg #[.int .i64 0,.int .i64 0,.int .i64 0,.int .i64 0]),4,32):=by kernel_rfl
theorem info_tHaz:(Tryz.prog.info? 108).map (fun i=>(i.zero,i.size,i.bytes))=some (some (.agg #[.bool false,.int .i64 0,.int .i64 0,.int .i64 0,.int .i64 0]),5,40):=by kernel_rfl
theorem info_tRoute:(Tryz.prog.info? 51).map (fun i=>(i.zero,i.size,i.bytes))=some (some (.agg #[.slice none 0 0,.slice none 0 0,.slice none 0 0]),3,72):=by kernel_rfl
theorem info_tInt:(Tryz.prog.info? 3).map (fun i=>(i.zero,i.size,i.bytes))=some (some (.int .i64 0),1,8):=by kernel_rfl
def flatV:Value→List Value
 | .agg a=>a.toList
 |v=>[v]
def KNamed (X:SheetP) (v:Value) (w:World):Prop:= ∃ b0 b1 b2 b3 b4 b5:Option Addr, ∃ k0 k1 k2 k3 k4 k5:Nat,v= .agg #[.slice b0 X.stops.length k0,.slice b1 X.paths.length k1,.slice b2 X.doors.length k2,.slice b3 X.routes.length k3,.slice b4 X.trips.length k4,.slice b5 X.hazs.length k5]∧
 Rd w 1 strE b0 X.stops.length X.stops∧Rd w 1 strE b1 X.paths.length (X.paths.map (·.name))∧Rd w 1 strE b2 X.doors.length (X.doors.map (·.name))∧Rd w 1 strE b3 X.routes.length (X.routes.map (·.name))∧Rd w 1 strE b4 X.trips.length (X.trips.map (·.name))∧Rd w 1 strE b5 X.hazs.length (X.hazs.map (·.name))
theorem KNamed.mono (X:SheetP):Mono (KNamed X):=fun v w w' h hb=>by
 obtain⟨b0,b1,b2,b3,b4,b5,k0,k1,k2,k3,k4,k5,e,h0,h1,h2,h3,h4,h5⟩:=h;exact⟨b0,b1,b2,b3,b4,b5,k0,k1,k2,k3,k4,k5,e,h0.below hb,h1.below hb,h2.below hb,h3.below hb,h4.below hb,h5.below hb⟩
structure RunP where
 (trip no:Int)
 (arr dep:List Int)
instance:Inhabited RunP:=⟨⟨0,0,[],[]⟩⟩
abbrev RnE:=Int×Int×SlV×SlV
def rnE (e:RnE):List Value:=[.int .i64 e.1,.int .i64 e.2.1,e.2.2.1.v,e.2.2.2.v]
theorem rnE_len (e:RnE):(rnE e).length =4:=rfl
theorem rnE_one (e:RnE): ∀ u∈rnE e,u.oneCell'=true:=fun u hu=>by simp [rnE,SlV.v] at hu;rcases hu with rfl|rfl|rfl|rfl<;>rfl
structure RunT (w:World) (e:RnE) (r:RunP):Prop where
 trip:e.1=r.trip
 no:e.2.1=r.no
 arr:Rd w 1 (numE .i64) e.2.2.1.1 e.2.2.1.2.1 r.arr
 ca:e.2.2.1.2.1≤e.2.2.1.2.2∧e.2.2.1.2.2≤9223372036854775807
 dep:Rd w 1 (numE .i64) e.2.2.2.1 e.2.2.2.2.1 r.dep
 cd:e.2.2.2.2.1≤e.2.2.2.2.2∧e.2.2.2.2.2≤9223372036854775807
theorem RunT.below {w w':World} {e:RnE} {r:RunP} (h:RunT w e r) (hb:Below w.heap.size w w'):RunT w' e r:=⟨h.trip,h.no,h.arr.below hb,h.ca,h.dep.below hb,h.cd⟩
structure RRuns (w:World) (A:Option Addr) (n:Nat) (L:List RunP):Prop where
 ex: ∃ E:List RnE,Rd w 4 rnE A n E∧RowsG RunT w E L
section
variable {w w':World} {A:Option Addr} {n:Nat} {L:List RunP}
theorem RRuns.below (h:RRuns w A n L) (hb:Below w.heap.size w w'):RRuns w' A n L:=by
 obtain⟨E,h1,h2⟩:=h.ex;exact⟨E,h1.below hb,h2.up fun e r h=>h.below hb⟩
theorem RRuns.len (h:RRuns w A n L):L.length=n:=by
 obtain⟨E,h1,h2⟩:=h.ex;rw [←h2.len];exact h1.len
theorem RRuns.get (h:RRuns w A n L) {k:Nat} (hk:k<n): ∃ b o r A1 n1 c1 A2 n2 c2,A=some ⟨b,o,none⟩∧b<w.heap.size∧L[k]?=some r∧w.cell? ⟨b,o+k*4,none⟩=some (.int .i64 r.trip)∧w.cell? ⟨b,o+k*4+1,none⟩=some (.int .i64 r.no)∧
 w.cell? ⟨b,o+k*4+2,none⟩=some (.slice A1 n1 c1)∧w.cell? ⟨b,o+k*4+3,none⟩=some (.slice A2 n2 c2)∧Rd w 1 (numE .i64) A1 n1 r.arr∧Rd w 1 (numE .i64) A2 n2 r.dep∧(n1≤c1∧c1≤9223372036854775807)∧(n2≤c2∧c2≤9223372036854775807):=by
 have hlen:=h.len;obtain⟨E,h1,h2⟩:=h.ex;obtain⟨b,o,e,rfl,hb,he,hc⟩:=h1.get hk;have hr:L[k]?=some L[k]:=List.getElem?_eq_getElem (by omega);have ht:=h2.at_ k e _ he hr;obtain⟨e1,e2,⟨a1,a2,a3⟩,⟨a4,a5,a6⟩⟩:=e;have c0:=hc 0 _ rfl;have c1:=hc 1 _ rfl;have c2:=hc 2 _ rfl;have c3:=hc 3 _ rfl;have t1:=ht.trip;have t2:=ht.no;simp only at t1 t2;rw [Nat.add_zero] at c0;exact⟨b,o,L[k],a1,a2,a3,a4,a5,a6,rfl,hb,hr,by rw [←t1];exact c0,by rw [←t2];exact c1,c2,c3,ht.arr,ht.dep,ht.ca,ht.cd⟩
theorem RowsG.take {ε ρ:Type} {RT:World→ε→ρ→Prop} {E:List ε} {D:List ρ} (h:RowsG RT w E D) (k:Nat):RowsG RT w (E.take k) (D.take k):=
 ⟨by rw [List.length_take,List.length_take,h.len],fun i e r h1 h2=>by
   rw [List.getElem?_take] at h1 h2;split at h1
   ·rename_i hi;rw [if_pos hi] at h2;exact h.at_ i e r h1 h2
   ·cases h1⟩
theorem RowsG.drop {ε ρ:Type} {RT:World→ε→ρ→Prop} {E:List ε} {D:List ρ} (h:RowsG RT w E D) (k:Nat):RowsG RT w (E.drop k) (D.drop k):=
 ⟨by rw [List.length_drop,List.length_drop,h.len],fun i e r h1 h2=>by
   rw [List.getElem?_drop] at h1 h2;exact h.at_ _ e r h1 h2⟩
theorem RRuns.drop {k c:Nat} (h:RRuns w A n L) (hk:k≤n) (hc:n≤c):RRuns w (cutA A c k 4) (n-k) (L.drop k):=by
 obtain⟨E,h1,h2⟩:=h.ex;exact⟨E.drop k,h1.drop hk hc,h2.drop k⟩
end
theorem B.Rd.takeN {α:Type} {w:World} {size n k:Nat} {enc:α→List Value} {A:Option Addr} {l:List α} (h:Rd w size enc A n l) (hk:k≤n):Rd w size enc A k (l.take k):=by
 refine⟨by rw [List.length_take,h.len];omega,fun hn=>?_⟩;obtain⟨b,o,e,hb,hc⟩:=h.cells (by omega);exact⟨b,o,e,hb,fun i x hx j u hu=>hc i x (by rw [List.getElem?_take] at hx;split at hx;exact hx;cases hx) j u hu⟩
theorem RRuns.take {w:World} {A:Option Addr} {n k:Nat} {L:List RunP} (h:RRuns w A n L) (hk:k≤n):RRuns w A k (L.take k):=by
 obtain⟨E,h1,h2⟩:=h.ex;exact⟨E.take k,h1.takeN hk,h2.take k⟩
end Go.Proofs.YtechdefolfboeaaGreatDoor
namespace Go.Proofs.YtechdefolfboeaaGreatDoor.B
open Go.RowKit Go.ChangeShapes Go.WideShapes Go.Deep Go.Joins
section
variable {H:Type} {encH:TypeId×Value→H} {P:Program} {w:World} {base:Nat} {spare:Nat→Bool} {held:Bool}
def Dc (encH:TypeId×Value→H) (P:Program) (w:World) (base:Nat) (spare:Nat→Bool) (held:Bool) (t:TypeId) (R:List Value→Prop):Prop:=
 ∀ (fuel:Nat) (cs:List Value) (x:DataW H×List MemPlace),DataW.trod encH P w base spare held fuel t cs=some x→R cs
theorem Dc.int {t:TypeId} (ht:P.underlying t=some (.int .i64)):Dc encH P w base spare held t fun cs=> ∃ a,cs=[.int .i64 a]∧(Lit.int .i64 a).wf =true:=fun fuel cs x h=>by
 obtain⟨a,e,_,w0⟩:=DataW.trod_int ht h;exact⟨a,e,w0⟩
theorem Dc.bool {t:TypeId} (ht:P.underlying t=some .bool):Dc encH P w base spare held t fun cs=> ∃ a,cs=[.bool a]:=fun fuel cs x h=>by
 obtain⟨a,e,_⟩:=DataW.trod_bool ht h;exact⟨a,e⟩
theorem Dc.str {t:TypeId} (ht:P.underlying t=some .string):Dc encH P w base spare held t fun cs=> ∃ s,cs=[.string s]:=fun fuel cs x h=>by
 obtain⟨a,e,_⟩:=DataW.trod_string ht h;exact⟨a,e⟩
theorem Dc.and {t:TypeId} {R R':List Value→Prop} (h:Dc encH P w base spare held t R) (h':Dc encH P w base spare held t R'):Dc encH P w base spare held t fun cs=>R cs∧R' cs:=fun fuel cs x hx=>⟨h fuel cs x hx,h' fuel cs x hx⟩
theorem Dc.imp {t:TypeId} {R R':List Value→Prop} (h:Dc encH P w base spare held t R) (h': ∀ cs,R cs→R' cs):Dc encH P w base spare held t R':=fun fuel cs x hx=>h' cs (h fuel cs x hx)
theorem Dc.len {t:TypeId} {fs:Array Field} {k:Nat} (ht:P.underlying t=some (.struct fs)) (hC:P.cellsOf t=k):Dc encH P w base spare held t fun cs=>cs.length=k:=fun fuel cs x h=>by
 obtain⟨_,_,_,_,hl,_⟩:=DataW.trod_struct ht h;rw [hl,hC]
theorem Dc.fld {t u:TypeId} {fs:Array Field} {R:List Value→Prop} (i o k:Nat) (f:Field) (ht:P.underlying t=some (.struct fs)) (hf:fs[i]?=some f) (hu:f.type=u) (hO:(f.offset,P.cellsOf f.type)=(o,k)) (h:Dc encH P w base spare held u R):Dc encH P w base spare held t fun cs=>R ((cs.drop o).take k):=fun fuel cs x hx=>by
 obtain⟨xs,n,_,_,_,hlen,hfl⟩:=DataW.trod_struct ht hx;have:=hfl i f hf;simp only [Prod.mk.injEq] at hO;rw [hO.1,hO.2,hu,List.getElem?_eq_getElem (by rw [hlen];exact(Array.getElem?_eq_some_iff.1 hf).1)] at this;exact h n _ _ this
def SlOf (w:World) (size:Nat) (R:List Value→Prop) (A:Option Addr) (n:Nat):Prop:= ∀ i,i<n→ ∃ (b o:Nat) (cs':List Value),A=some ⟨b,o,none⟩∧b<w.heap.size∧cs'.length=size∧(∀ (j:Nat) (u:Value),cs'[j]?=some u→w.cell? ⟨b,o+i*size+j,none⟩=some u)∧R cs'
theorem Dc.sl {t e:TypeId} {R:List Value→Prop} (size:Nat) (ht:P.underlying t=some (.slice e)) (hC:P.cellsOf e=size) (hpos:0<size) (h:Dc encH P w base spare held e R):
 Dc encH P w base spare held t fun cs=> ∃ A n c,cs=[.slice A n c]∧n≤c∧c≤9223372036854775807∧SlOf w size R A n:=fun fuel cs x hf=>by
 rcases open_slice ht hf with⟨rfl,_⟩|⟨a,len,cap,m,n,D,Pl,rfl,hb,hl,hm,hmm,_,hi⟩
 ·exact⟨none,0,0,rfl,Nat.le_refl _,by omega,fun i hi=>absurd hi (by omega)⟩
 ·have hlm:len≤m:=by rw [hmm];split<;>omega
  refine⟨some a,len,cap,rfl,hl,by rw [←maxLen_num];exact hm,fun i hin=>?_⟩;obtain⟨cs',hc,ht'⟩:=hi i (by omega);rw [hC] at hc;obtain⟨_,hcl,hat⟩:=World.cells?_some hc;obtain⟨b,o,sp⟩:=a;have h0:=hat 0 hpos;rw [List.getElem?_eq_getElem (by omega:0<cs'.length),add_add] at h0
  have hsp:sp=none:=by
   obtain⟨cs0,hc0,_⟩:=hi 0 (by omega);rw [hC] at hc0;obtain⟨_,hcl0,hat0⟩:=World.cells?_some hc0;have h1:=hat0 0 hpos;rw [List.getElem?_eq_getElem (by omega:0<cs0.length)] at h1;simpa [Addr.add] using World.cell?_spot (by simpa [Addr.add] using h1)
  subst hsp
  have hbl:b<w.heap.size:=by
   have h1:=block_lt_of_cell h0;unfold Addr.add at h1;split at h1<;>exact h1
  refine⟨b,o,cs',rfl,hbl,hcl,fun j u hu=>?_,h _ _ _ ht'⟩;have hj:=(List.getElem?_eq_some_iff.1 hu).1;have:=hat j (by omega);rw [hu,add_add] at this;rw [←this]
  congr 1
  unfold Addr.add;split
  ·rename_i h0;simp;try omega
  ·simp [Nat.add_assoc]
theorem SlOf.rd {α:Type} [Inhabited α] {enc:α→List Value} {ok:α→Prop} {size n:Nat} {R:List Value→Prop} {A:Option Addr} (h:SlOf w size R A n) (hR: ∀ cs,cs.length=size→R cs→ ∃ y,cs=enc y∧ok y): ∃ l,Rd w size enc A n l∧ ∀ x∈l,ok x:=by
 have key: ∀ i,i<n→ ∃ y:α,ok y∧ ∃ b o,A=some ⟨b,o,none⟩∧b<w.heap.size∧ ∀ (j:Nat) (u:Value),(enc y)[j]?=some u→w.cell? ⟨b,o+i*size+j,none⟩=some u:=by
  intro i hin;obtain⟨b,o,cs',rfl,hb,hcl,hat,hr⟩:=h i hin;obtain⟨y,rfl,hy⟩:=hR cs' hcl hr;exact⟨y,hy,b,o,rfl,hb,hat⟩
 obtain⟨L,hL⟩:=choose_lt key;refine⟨(List.range n).map L,⟨by simp,fun hn=>?_⟩,fun x hx=>?_⟩
 ·obtain⟨_,b,o,rfl,hb,_⟩:=hL 0 hn;refine⟨b,o,rfl,hb,fun i y hy j u hu=>?_⟩;rw [List.getElem?_map] at hy;obtain⟨i',hi',rfl⟩:=Option.map_eq_some_iff.1 hy;obtain⟨hlt,rfl⟩:=List.getElem?_eq_some_iff.1 hi';simp at hlt;obtain⟨_,b',o',e,_,h3⟩:=hL i hlt;cases e;exact h3 j u (by simpa using hu)
 ·obtain⟨i,hi',rfl⟩:=List.mem_map.1 hx;exact(hL i (List.mem_range.1 hi')).1
theorem SlOf.each {α:Type} [Inhabited α] {Q:World→Nat→Nat→α→Prop} {size n:Nat} {R:List Value→Prop} {A:Option Addr} (h:SlOf w size R A n) (hR: ∀ cs b o,cs.length=size→R cs→b<w.heap.size→(∀ (j:Nat) (u:Value),cs[j]?=some u→w.cell? ⟨b,o+j,none⟩=some u)→ ∃ y,Q w b o y):
 ∃ l:List α,l.length=n∧ ∀ (k:Nat) (r:α),l[k]?=some r→ ∃ b o,A=some ⟨b,o,none⟩∧b<w.heap.size∧Q w b (o+k*size) r:=by
 have key: ∀ i,i<n→ ∃ y:α, ∃ b o,A=some ⟨b,o,none⟩∧b<w.heap.size∧Q w b (o+i*size) y:=by
  intro i hin;obtain⟨b,o,cs',rfl,hb,hcl,hat,hr⟩:=h i hin;obtain⟨y,hy⟩:=hR cs' b (o+i*size) hcl hr hb hat;exact⟨y,b,o,rfl,hb,hy⟩
 obtain⟨L,hL⟩:=choose_lt key;refine⟨(List.range n).map L,by simp,fun k r hr=>?_⟩;rw [List.getElem?_map] at hr;obtain⟨i',hi',rfl⟩:=Option.map_eq_some_iff.1 hr;obtain⟨hlt,rfl⟩:=List.getElem?_eq_some_iff.1 hi';simp at hlt;simpa using hL k hlt
theorem SlOf.nums {n:Nat} {A:Option Addr} (h:SlOf w 1 (fun cs=> ∃ a,cs=[.int .i64 a]∧(Lit.int .i64 a).wf =true) A n): ∃ l,Rd w 1 (numE .i64) A n l∧ ∀ x∈l,(Lit.int .i64 x).wf =true:=
 h.rd (fun cs _ ⟨a,e,w0⟩=>⟨a,e,w0⟩)
theorem SlOf.strs {n:Nat} {A:Option Addr} (h:SlOf w 1 (fun cs=> ∃ a,cs=[.string a]) A n): ∃ l,Rd w 1 strE A n l:=by
 obtain⟨l,hl,_⟩:=h.rd (α:=Str) (ok:=fun _=>True) (fun cs _ ⟨a,e⟩=>⟨a,e,trivial⟩);exact⟨l,hl⟩
theorem open_cs {r:Reach} {b0:Nat} {t:TypeId} {fs:Array Field} {v:Value} {d:DataW H} {p:List MemPlace} {R:List Value→Prop} (ht:P.underlying t=some (.struct fs)) (hd:Dc encH P w base spare held t R) (hv:Value.okWide P w r b0 t v) (h:DataW.Trod encH P w base spare held t v d p):
 ∃ cs,v= .agg cs.toArray∧cs.length=P.cellsOf t∧R cs:=by
 obtain⟨cs,rfl,hsz⟩:=okWide_struct ht hv;obtain⟨fuel,hf⟩:=h;exact⟨cs.toList,by simp,by simpa using hsz,by simpa [Value.cells] using hd _ _ _ hf⟩
end
