/- Merged. -/
import Derived.Test.YtechdefolfboeaaGreatDoorPd1
set_option linter.unusedVariables false
set_option linter.unusedSimpArgs false
namespace Go.Proofs.YtechdefolfboeaaGreatDoor
namespace B
open Go.RowKit
theorem aB_ {w:World} {b0 b1 size n:Nat} {e:TypeId} {v:Value} {xs:List Value} (h:w.ownsRow b1 e size v n xs) (hb:b0<=b1):w.ownsRow b0 e size v n xs:=by
 refine⟨h.1,?_⟩;rcases h.2 with p|⟨g,f,j,rfl,h3,r⟩
 ·exact .inl p
 ·exact .inr ⟨g,f,j,rfl,by omega,r⟩
theorem aa_ {w w':World} {base size n:Nat} {e:TypeId} {v:Value} {xs:List Value} (h:w.ownsRow base e size v n xs) (hb:Below w.heap.size w w'):w'.ownsRow base e size v n xs:=
 bd_ h fun k f=>hb.block k (h.lt k f).2
theorem aP_ {P:Program} {o:Oper} {ev:Operand ->Value} {w:World} {K:Value ->World ->Prop} (p x:Operand) (t:TypeId) (hop:o.op=Op.store t p x) {g:Nat} {T:TypeId} {zs vs:List Value} (hp:ev p= .pointer (some ⟨g,0,none⟩)) (hx:ev x= .agg vs.toArray)
 (hB:Bx w g T zs) (hi:(P.info? t).map (·.size)=some vs.length) (hl:zs.length=vs.length) (h1:vs.all (·.oneCell')=true) (hK: ∀ w',Bx w' g T vs ->But w w' [g] ->K undef w'):dc_ P K ((execOp ev o).run P w):=by
 have f:=run_storeVar_row (P:=P) w g T t zs.toArray vs.toArray hB (by rw [hi];simp) (by simpa using hl) (by simpa using h1);unfold execOp;simp only [hop,hp,hx,Instr.storeAt,Instr.sureAddr,Sem.run_bind,Sem.run_pure,Result.andThen_ok,f];exact hK _ (setRow_heap w g _ _ T _ hB) ⟨rfl,rfl,rfl,by simp,fun i hi hx=>setRow_other w g i _ (fun e=>hx (by simp [e]))⟩
theorem Bx.row {w:World} {g:Nat} {T:TypeId} {zs:List Value} (hB:Bx w g T zs) (vs:List Value):Bx (w.setRow g vs.toArray) g T vs/\But w (w.setRow g vs.toArray) [g]:=
 ⟨setRow_heap w g _ _ T _ hB,rfl,rfl,rfl,by simp,fun i hi f=>setRow_other w g i _ (fun e=>f (by simp [e]))⟩
theorem ac_ {P:Program} {ops:Array Oper} {rest:List Oper} {o:Oper} {a:Act} {w wF:World} {Q:Exit ->Act ->World ->Prop} (p x:Operand) (t:TypeId) {g:Nat} {T:TypeId} {zs vs:List Value} (ho:o.op=Op.store t p x) (hg:o.guard=none)
 (hp:a.eval p= .pointer (some ⟨g,0,none⟩)) (hx:a.eval x= .agg vs.toArray) (hB:Bx w g T zs) (hi:(P.info? t).map (·.size)=some vs.length) (hl:zs.length=vs.length) (h1:vs.all (·.oneCell')=true) (hF:w.setRow g vs.toArray=wF)
 (h:wpList P ops Q rest (a.put o.dst undef) wF):wpList P ops Q (o::rest) a w:=by
 subst hF;exact wpList_plain hg fun _ f=>wp_store_row t p x ho g vs.toArray hp hx T zs.toArray hB (by rw [hi];simp) (by simpa using hl) (by simpa using h1) (f _ _ h)
theorem j0_ {P:Program} {w:World} {g:Nat} {t T:TypeId} {vs:List Value} (hB:Bx w g T vs) (hu:(P.underlying t).map (fun d=>match d with| .struct _| .array _ _=>true|_=>false)=some true) (hi:(P.info? t).map (·.size)=some vs.length):
 (loadVar t ⟨g,0,none⟩).run P w= .ok (.agg vs.toArray) w:=by
 obtain⟨d,f,j⟩: ∃ d,P.underlying t=some d/\(match d with| .struct _| .array _ _=>true|_=>false)=true:=by
  cases f:P.underlying t with
  |none=>rw [f] at hu;cases hu
  |some d=>rw [f] at hu;exact⟨d,rfl,Option.some.inj hu⟩
 exact run_loadVar_row (P:=P) w g T t vs.toArray (0,0) d hB f (by cases d<;>first|rfl|(exact j)) (by rw [hi];simp)
theorem cO_ {P:Program} {ops:Array Oper} {rest:List Oper} {o:Oper} {a:Act} {w:World} {Q:Exit ->Act ->World ->Prop} (p:Operand) (t:TypeId) {g:Nat} {T:TypeId} {vs:List Value} (ho:o.op=Op.load t p) (hg:o.guard=none)
 (hp:a.eval p= .pointer (some ⟨g,0,none⟩)) (hB:Bx w g T vs) (hu:(P.underlying t).map (fun d=>match d with| .struct _| .array _ _=>true|_=>false)=some true) (hi:(P.info? t).map (·.size)=some vs.length)
 (h:wpList P ops Q rest (a.put o.dst (.agg vs.toArray)) w):wpList P ops Q (o::rest) a w:=by
 refine wpList_plain hg fun _ f=>?_;unfold Oper.wp execOp;simp only [ho,hp,Instr.loadAt,Instr.sureAddr,Sem.run_bind,Sem.run_pure,Result.andThen_ok,j0_ hB hu hi,Oper.upon_value];exact f _ _ h
theorem ar_ {P:Program} {fn:Func} {R:Ending ->World ->Prop} {a:Act} {w:World} {s g:Nat} {t T:TypeId} {vs:List Value} (hres:fn.results=#[.cell s t]) (hs:a.tmps.getD s undef= .pointer (some ⟨g,0,none⟩)) (hB:Bx w g T vs)
 (hu:(P.underlying t).map (fun d=>match d with| .struct _| .array _ _=>true|_=>false)=some true) (hi:(P.info? t).map (·.size)=some vs.length) (hd:a.defers=[]) (hR:R (.returned (.agg vs.toArray)) w):bodyPost P fn R .ret a w:=by
 refine bodyPost_ret (v:= .agg vs.toArray) ?_ hd hR
 obtain⟨d,f,j⟩: ∃ d,P.underlying t=some d/\(match d with| .struct _| .array _ _=>true|_=>false)=true:=by
  cases f:P.underlying t with
  |none=>rw [f] at hu;cases hu
  |some d=>rw [f] at hu;exact⟨d,rfl,Option.some.inj hu⟩
 have p:=run_loadVar_row (P:=P) w g T t vs.toArray (0,0) d hB f (by cases d<;>first|rfl|(exact j)) (by rw [hi];simp);have n:a.tmps[s]?.getD undef= .pointer (some ⟨g,0,none⟩):=by simpa using hs
 unfold results;simp [hres,n,asAddr,p]
theorem dw_ {α:Type} {P:Program} {enc:α ->List Value} {t e:TypeId} {z:Value} {size bytes:Nat} (ht:P.underlying t=some (.slice e))
 (hi:(P.info? e).map (fun i=>(i.zero,i.size,i.bytes))=some (some z,size,bytes)) (hzs:z.cells.size=size) (hsz:0<size) (hes: ∀ x,(enc x).length =size)
 {base:Nat} {w:World} {g:Nat} {r:List α} {A:Option Addr} {m:Nat} (c:Nat) (hown:w.ownsRow base e size (.slice (some ⟨g,0,none⟩) 0 0) 0 []) (hr:Rd w size enc A m r) (hlen:m<=1099511627776) (hby:bytes<=127) (hB:base<=w.heap.size):
 ∃ v' w1,(Builtin.append_ #[t,t] t #[.slice (some ⟨g,0,none⟩) 0 0,.slice A m c]).run P w= .ok v' w1/\w1.ownsRow base e size v' m (r.flatMap enc)/\Below w.heap.size w w1:=by
 obtain⟨i,hi,y,D,F⟩:=info_parts hi;have f:(r.flatMap enc).length =m*size:=by rw [cz_ hes,hr.len]
 rcases Nat.eq_zero_or_pos m with q|q
 ·subst q;obtain rfl:r=[]:=List.eq_nil_of_length_eq_zero hr.len;refine⟨_,w,?_,hown,Below.refl _ w⟩;cases A<;>simp [Builtin.append_,run_underlying ht,sizeOf,typeInfo,hi,Builtin.lenOf,Builtin.firstCells,loadCells,loadCellsFrom,storeCells]
 ·obtain⟨b,o,rfl,_⟩:=hr.cells q
  obtain⟨v',L,p,G,n⟩:=run_append_arg_grows (P:=P) (w:=w) t t e i z size bytes ht hi y D F hzs hsz ⟨g,0,none⟩ 0 0 [] (by simp) (fun j u h=>by simp at h) ⟨b,o,none⟩ m c (r.flatMap enc) f (hr.src hes hsz rfl)
   (by omega) (by rw [ce_];omega) (by rw [Nat.zero_add];exact Nat.le_trans (Nat.mul_le_mul hlen hby) (by decide))
  refine⟨v',L,p,?_,⟨n.os,n.tape,n.output,n.size,fun k J=>n.block k J (by simp)⟩⟩;rw [Nat.zero_add,List.nil_append] at G;exact aB_ G hB
def Mono (K:Value ->World ->Prop):Prop:= ∀ v w w',K v w ->Below w.heap.size w w' ->K v w'
structure GL (w0:World) (l:List (Bool×Value×(Value ->World ->Prop))) (w:World):Prop where
 bel:Below w0.heap.size w0 w
 at_: ∀ e∈l,e.1=true ->e.2.2 e.2.1 w
 mon: ∀ e∈l,Mono e.2.2
section
variable {w0 w w':World} {l:List (Bool×Value×(Value ->World ->Prop))}
theorem GL.start (hm: ∀ e∈l,Mono e.2.2) (h0: ∀ e∈l,e.1=false):GL w0 l {w0 with drawn:=w0.drawn+1}:=
 ⟨⟨rfl,rfl,rfl,Nat.le_refl _,fun _ _=>rfl⟩,fun e f h=>(by rw [h0 e f] at h;cases h),hm⟩
theorem GL.step (h:GL w0 l w) (i:Nat) {b:Bool} {x v:Value} {K:Value ->World ->Prop} (hi:l[i]?=some (b,x,K)) (hb:Below w.heap.size w w') (hk:K v w'):GL w0 (l.set i (true,v,K)) w':=by
 have g:(b,x,K)∈l:=List.mem_of_getElem? hi;refine⟨u_ h.bel hb,fun e f j=>?_,fun e f=>?_⟩
 ·rcases List.mem_or_eq_of_mem_set f with f|rfl
  ·exact h.mon e f _ _ _ (h.at_ e f j) hb
  ·exact hk
 ·rcases List.mem_or_eq_of_mem_set f with f|rfl
  ·exact h.mon e f
  ·exact h.mon (b,x,K) g
theorem GL.get (h:GL w0 l w) (i:Nat) {b:Bool} {x:Value} {K:Value ->World ->Prop} (hi:l[i]?=some (b,x,K)) (hb:b=true):K x w:=h.at_ _ (List.mem_of_getElem? hi) hb
structure GS (w0:World) (l:List (Bool×Value×(Value ->World ->Prop))) (ims:List (Bool×Bool)) (ds:List Bool) (fb:Bool) (xb:Value) (g:Value) (T:TypeId) (u:List Value) (fs:Bool) (w:World):Prop where
 bel:Below w0.heap.size w0 w
 im: ∀ p∈ims,p.1=true ->p.2=true
 bd:fb=true ->(∀ d∈ds,d=true)/\xb= .agg u.toArray
 all:fs=true ->fb=true/\ ∀ e∈l,e.1=true
 ini:fs=false ->GL w0 l w
 fin:fs=true -> ∃ wa b,GL w0 l wa/\g= .pointer (some ⟨b,0,none⟩)/\w0.heap.size<=b/\b<wa.heap.size/\Bx w b T u/\But wa w [b]
variable {g g' xb xb':Value} {T:TypeId} {u u':List Value} {fs fb:Bool} {ds ds':List Bool} {ims ims':List (Bool×Bool)}
theorem a4_ {p q:Bool} {r:List (Bool×Bool)} (h1:p=true ->q=true) (h2: ∀ e∈r,e.1=true ->e.2=true): ∀ e∈(p,q)::r,e.1=true ->e.2=true:=List.forall_mem_cons.2 ⟨h1,h2⟩
theorem bk_: ∀ e∈([]:List (Bool×Bool)),e.1=true ->e.2=true:=fun _ h=>(by cases h)
theorem GS.start (hm: ∀ e∈l,Mono e.2.2) (h0: ∀ e∈l,e.1=false) (him: ∀ p∈ims,p.1=false) (hb:fb=false) (hf:fs=false):GS w0 l ims ds fb xb g T u fs {w0 with drawn:=w0.drawn+1}:=
 ⟨⟨rfl,rfl,rfl,Nat.le_refl _,fun _ _=>rfl⟩,fun p f h=>(by rw [him p f] at h;cases h),fun h=>(by rw [hb] at h;cases h),fun h=>(by rw [hf] at h;cases h),fun _=>GL.start hm h0,fun h=>(by rw [hf] at h;cases h)⟩
theorem GS.ahead (h:GS w0 l ims ds fb xb g T u fs w) (i:Nat) {b:Bool} {x:Value} {K:Value ->World ->Prop} (hi:l[i]?=some (b,x,K)) (hl:b=false):fs=false/\GL w0 l w:=by
 have j:fs=false:=by
  cases f:fs with
  |false=>rfl
  |true=>have:=(h.all f).2 _ (List.mem_of_getElem? hi);simp only at this;rw [hl] at this;cases this
 exact⟨j,h.ini j⟩
theorem GS.step (h:GS w0 l ims ds fb xb g T u fs w) (i:Nat) {b:Bool} {x v:Value} {K:Value ->World ->Prop} (hi:l[i]?=some (b,x,K)) (hl:b=false) (hd:b∈ds) (hb:Below w.heap.size w w') (hk:K v w') (him: ∀ p∈ims',p.1=true ->p.2=true):GS w0 (l.set i (true,v,K)) ims' ds' fb xb' g' T u' fs w':=by
 obtain⟨n,q⟩:=h.ahead i hi hl
 have f:fb=false:=by
  cases f:fb with
  |false=>rfl
  |true=>have:=(h.bd f).1 _ hd;rw [hl] at this;cases this
 have j:=q.step i hi hb hk;exact⟨j.bel,him,fun h=>(by rw [f] at h;cases h),fun h=>(by rw [n] at h;cases h),fun _=>j,fun h=>(by rw [n] at h;cases h)⟩
theorem GS.stepO (h:GS w0 l ims ds fb xb g T u fs w) (i:Nat) {b:Bool} {x v:Value} {K:Value ->World ->Prop} (hi:l[i]?=some (b,x,K)) (hl:b=false) (hb:Below w.heap.size w w') (hk:K v w') (him: ∀ p∈ims',p.1=true ->p.2=true):GS w0 (l.set i (true,v,K)) ims' ds fb xb g' T u fs w':=by
 obtain⟨j,n⟩:=h.ahead i hi hl;have f:=n.step i hi hb hk;exact⟨f.bel,him,h.bd,fun h=>(by rw [j] at h;cases h),fun _=>f,fun h=>(by rw [j] at h;cases h)⟩
theorem GS.built (h:GS w0 l ims ds fb xb g T u fs w) (hl:fb=false) (hd: ∀ d∈ds,d=true) (hx:xb'= .agg u.toArray):GS w0 l ims ds true xb' g T u fs w:=by
 have j:fs=false:=by
  cases f:fs with
  |false=>rfl
  |true=>have:=(h.all f).1;rw [hl] at this;cases this
 exact⟨h.bel,h.im,fun _=>⟨hd,hx⟩,fun h=>(by rw [j] at h;cases h),h.ini,h.fin⟩
theorem GS.wit (h:GS w0 l ims ds fb xb g T u fs w) (i:Nat) {b:Bool} {x:Value} {K:Value ->World ->Prop} (hi:l[i]?=some (b,x,K)) (hb:b=true): ∃ w',K x w':=by
 cases f:fs with
 |false=>exact⟨w,(h.ini f).get i hi hb⟩
 |true=>obtain⟨n,_,j,_⟩:=h.fin f;exact⟨n,j.get i hi hb⟩
theorem GS.put {b:Nat} (h:GS w0 l ims ds fb xb g T u fs w) (hl:fs=false) (hfb:fb=true) (hall: ∀ e∈l,e.1=true) (hg:g= .pointer (some ⟨b,0,none⟩)) (hb0:w0.heap.size<=b) (hb:b<w.heap.size) (hB:Bx w' b T u) (hBut:But w w' [b]):GS w0 l ims ds fb xb g T u true w':=
 ⟨h.bel.trans (hBut.below h.bel.size (fun x f=>by simp only [List.mem_singleton] at f;omega)),h.im,h.bd,fun _=>⟨hfb,hall⟩,fun h=>(by cases h),fun _=>⟨w,b,h.ini hl,hg,hb0,hb,hB,hBut⟩⟩
end
def KOwn (base:Nat) (e:TypeId) (size n:Nat) (xs:List Value) (v:Value) (w:World):Prop:=w.ownsRow base e size v n xs
theorem KOwn.mono (base:Nat) (e:TypeId) (size n:Nat) (xs:List Value):Mono (KOwn base e size n xs):=fun v w w' h f=>aa_ h f
def KNil (base:Nat) (e:TypeId) (size:Nat) (v:Value) (w:World):Prop:= ∃ g,v= .slice (some ⟨g,0,none⟩) 0 0/\w.ownsRow base e size v 0 []
theorem KNil.mono (base:Nat) (e:TypeId) (size:Nat):Mono (KNil base e size):=fun v w w' ⟨g,f,j⟩ n=>⟨g,f,aa_ j n⟩
def KBox (base:Nat) (T:TypeId) (vs:List Value) (v:Value) (w:World):Prop:= ∃ g,v= .pointer (some ⟨g,0,none⟩)/\base<=g/\Bx w g T vs
theorem KBox.mono (base:Nat) (T:TypeId) (vs:List Value):Mono (KBox base T vs):=fun v w w' ⟨g,f,j,n⟩ p=>⟨g,f,j,n.below p⟩
theorem KNil.new (w:World) (base:Nat) (e:TypeId) (size:Nat) (hb:base<=w.heap.size):KNil base e size (.slice (some ⟨w.heap.size,0,none⟩) 0 0) (w.alloc (.cells #[] e)):=⟨_,rfl,bW_ w base e size hb⟩
theorem ag_ (w:World) (cs:Array Value) (t:TypeId):Below w.heap.size w (w.alloc (.cells cs t)):=(Below.refl _ w).alloc (Nat.le_refl _) _
theorem box1 (p:World) (T:TypeId) (cs:List Value): ∃ (w:World) (b:Nat),p.alloc (.cells cs.toArray T)=w/\p.heap.size=b/\Below p.heap.size p w/\Bx w b T cs:=⟨_,_,rfl,rfl,ag_ _ _ _,Bx.new _ _ _⟩
theorem cm_ (p:World) (T:TypeId) (cs:List Value): ∃ (w:World) (b:Nat),p.alloc (.cells cs.toArray T)=w/\p.heap.size=b/\Below p.heap.size p w/\Hd (Below p.heap.size p w)/\Bx w b T cs/\Hd (p.heap.size<=b):=
 ⟨_,_,rfl,rfl,ag_ _ _ _,ag_ _ _ _,Bx.new _ _ _,Nat.le_refl _⟩
theorem eW (p:World) (T:TypeId) (M:ab_) (V:WV): ∃ (w:World) (b:Nat),p.alloc (.cells #[.int .i64 M.hz,.slice V.a0 V.n0 V.c0,.slice V.a1 V.n1 V.c1,.slice V.a2 V.n2 V.c2,.slice V.a3 V.n3 V.c3,.slice V.a4 V.n4 V.c4,.slice V.a5 V.n5 V.c5,.slice V.aP V.nP V.cP,.slice V.aD V.nD V.cD,.slice V.aR V.nR V.cR,.slice V.aT V.nT V.cT,.slice V.aH V.nH V.cH] T)=w/\p.heap.size=b/\Below p.heap.size p w/\Hd (Below p.heap.size p w)/\Bx w b T [.int .i64 M.hz,.slice V.a0 V.n0 V.c0,.slice V.a1 V.n1 V.c1,.slice V.a2 V.n2 V.c2,.slice V.a3 V.n3 V.c3,.slice V.a4 V.n4 V.c4,.slice V.a5 V.n5 V.c5,.slice V.aP V.nP V.cP,.slice V.aD V.nD V.cD,.slice V.aR V.nR V.cR,.slice V.aT V.nT V.cT,.slice V.aH V.nH V.cH]/\Hd (p.heap.size<=b):=cm_ p T _
theorem b5_ (p:World) (T T2:TypeId) (cs cs2:List Value): ∃ (w w2:World) (b b2:Nat),p.alloc (.cells cs.toArray T)=w/\w.alloc (.cells cs2.toArray T2)=w2/\p.heap.size=b/\b+1=b2/\w.heap.size=b2/\Below p.heap.size p w/\Below w.heap.size w w2/\
 Hd (Below p.heap.size p w2)/\Bx w2 b T cs/\Bx w2 b2 T2 cs2/\Hd (p.heap.size<=b)/\Hd (p.heap.size<=b2):=by
 obtain⟨w,b,j,f,n,y⟩:=box1 p T cs;obtain⟨w2,b2,D,q,g,z⟩:=box1 w T2 cs2;have e:b+1=b2:=by rw [<-q, <-j, <-f];simp
 exact⟨w,w2,b,b2,j,D,f,e,q,n,g,u_ n g,y.below g,z,Nat.le_of_eq f,by show _<=_;omega⟩
theorem pm_ (p:World) (T T2 T3:TypeId) (cs cs2 cs3:List Value): ∃ (w w2 w3:World) (b b2 b3:Nat),p.alloc (.cells cs.toArray T)=w/\w.alloc (.cells cs2.toArray T2)=w2/\w2.alloc (.cells cs3.toArray T3)=w3/\p.heap.size=b/\b+1=b2/\b2+1=b3/\w.heap.size=b2/\w2.heap.size=b3/\
 Below p.heap.size p w/\Below w.heap.size w w2/\Below w2.heap.size w2 w3/\Hd (Below p.heap.size p w3)/\Bx w3 b T cs/\Bx w3 b2 T2 cs2/\Bx w3 b3 T3 cs3/\Hd (p.heap.size<=b)/\Hd (p.heap.size<=b2)/\Hd (p.heap.size<=b3):=by
 obtain⟨w,w2,b,b2,F,j,G,J,n,L,M,N,y,z,P,g⟩:=b5_ p T T2 cs cs2;obtain⟨w3,b3,Q,q,f,D⟩:=box1 w2 T3 cs3;have e:b2+1=b3:=by rw [<-q, <-j, <-n];simp
 exact⟨w,w2,w3,b,b2,b3,F,j,Q,G,J,e,n,q,L,M,f,b_ N f,y.below f,z.below f,D,P,g,by show _<=_;omega⟩
end B
