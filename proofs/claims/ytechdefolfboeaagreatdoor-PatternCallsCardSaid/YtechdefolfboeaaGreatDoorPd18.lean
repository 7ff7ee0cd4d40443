/- Merged. -/
import Derived.WideKeyEntry
import Derived.Test.YtechdefolfboeaaGreatDoorPd17
set_option linter.unusedVariables false
set_option linter.unusedSimpArgs false
set_option maxRecDepth 100000
set_option maxHeartbeats 2000000
namespace Go.Proofs.YtechdefolfboeaaGreatDoor
open Go.RowKit B Go.WideElems Go.ChangeShapes Go.WideShapes Go.MapKept Go.ChangeMaps
open Go.Maps (Keyed)
section
variable {H:Type} {P:Program} {t k e:TypeId} {R:Value ->Option (DataW H×List MemPlace)} {b:Nat} {es:Array MapEntry} {clock:Nat}
theorem mc_ (K:Keyed P k) (ht:P.underlying t=some (.map k e)) (F:Fit P k R es clock) {key:Value} {kl:Lit} (hkey:keyOf P k key=some kl) (hth: ∀ x∈es.toList,x.key≠key) {z:Value} (hz: ∀ W:World,(zeroValue e).run P W= .ok z W):
 (∀ W:World,W.heap[b]?=some (.map es clock) ->(Instr.mapEntry t (.map (some b)) key).run P W= .ok (.tuple #[z,goInt clock]) (setBlock W b (.map (es.push {key,val:=z,born:=clock}) (clock+1))))/\
   ∀ val:Value,(∀ W:World,W.heap[b]?=some (.map (es.push {key,val:=z,born:=clock}) (clock+1)) ->(Instr.entryStore t (.map (some b)) (goInt clock) val).run P W= .ok () (setBlock W b (.map (es.push {key,val:=val,born:=clock}) (clock+1))))/\
     ∀ W:World,W.heap[b]?=some (.map es clock) ->(Instr.mapUpdate t (.map (some b)) key val).run P W= .ok () (setBlock W b (.map (es.push {key,val:=val,born:=clock}) (clock+1))):=by
 obtain⟨L,s2,_⟩:=F.stamped
 have f: ∀ W:World,(Instr.findKey k key es.toList).run P W= .ok none W:=fun W=>by
  rcases K.find W hkey es.toList F.keys with⟨y,_⟩|⟨j',p,_,D,G⟩
  ·exact y
  ·exact absurd G (hth p (List.mem_of_getElem? D))
 refine⟨fun W g=>?_,fun val=>⟨fun W g=>?_,fun W g=>?_⟩⟩
 ·simp [Instr.mapEntry,run_underlying ht,MapKept.run_getObj_map g,K.check W false hkey,f,hz,MapKept.run_setObj_map _ g,Result.andThen,setBlock]
 ·have j:(es.push {key,val:=z,born:=clock}).findIdx? (fun e=>((e.born:Nat):Int)==((clock:Nat):Int))=some es.size:=by
   rw [Array.findIdx?_push]
   have q:es.findIdx? (fun e=>((e.born:Nat):Int)==((clock:Nat):Int))=none:=by
    rw [Array.findIdx?_eq_none_iff];intro x J;have:=L x (by simpa using J);simp;omega
   rw [q];simp
  have n:(es.push {key,val:=z,born:=clock}).modify es.size (fun e=>{e with val:=val})=es.push {key,val:=val,born:=clock}:=by
   apply Array.ext';rw [Array.toList_modify,Array.toList_push,Array.toList_push];rw [modify_eq_set _ _ _ _ (show(es.toList++[({key,val:=z,born:=clock}:MapEntry)])[es.size]?=some {key,val:=z,born:=clock} by simp)];simp [List.set_append]
  simp [Instr.entryStore,MapKept.run_getObj_map g,asInt,asIntOf,goInt,j,n,MapKept.run_setObj_map _ g,Result.andThen,setBlock]
 ·simp [Instr.mapUpdate,run_underlying ht,MapKept.run_getObj_map g,K.check W false hkey,f,MapKept.run_setObj_map _ g,Result.andThen,setBlock]
end
def litS (s:Str):Lit:= .string s.data.toList
def MapS (w:World) (m:Nat) (ns:List Str):Prop:=
 ∃ D:DataW Nat,w.ownsMap Tryz.prog 9 (plainElem Tryz.prog 3) m ns.length D/\ ∀ s:Str,s.size<=maxLen ->Maps.has D (litS s)=ns.any (sq · s)
theorem fJ_:Keyed Tryz.prog 9:=Maps.string_keyed Tryz.underlying9
theorem lD_ (w:World):(zeroValue 3).run Tryz.prog w= .ok (.int .i64 0) w:=by kernel_rfl
theorem oE_ {a s:Str}:sq a s=true↔a=s:=by
 unfold sq;rw [Lib.toList_data,Lib.toList_data];constructor
 ·intro h;have:=eq_of_beq h;cases a;cases s;simp at this
  congr
 ·rintro rfl;simp
theorem keyS {s:Str} (h:s.size<=maxLen):keyOf Tryz.prog 9 (.string s)=some (litS s):=WideMaps.keyOf_string_mk Tryz.underlying9 h
theorem nQ_ {a b:Str} (h:litS a=litS b):a=b:=by
 unfold litS at h;simp at h;cases a;cases b;simp at h
 congr
theorem nR_ (s:Str):WideAt.IsKeyLit (litS s):=by simp [WideAt.IsKeyLit,litS]
section
variable {w w':World} {m:Nat} {ns:List Str}
theorem MapS.lt (h:MapS w m ns):m<w.heap.size:=by obtain⟨D,h,_⟩:=h;exact h.lt
theorem MapS.keep (h:MapS w m ns) (hk:w'.heap[m]?=w.heap[m]?):MapS w' m ns:=by
 obtain⟨D,⟨g,f,n,r⟩,j⟩:=h;exact⟨D,⟨g,f,hk.trans n,r⟩,j⟩
theorem MapS.below (h:MapS w m ns) (hb:Below w.heap.size w w'):MapS w' m ns:=h.keep (hb.block m h.lt)
theorem MapS.new (w:World):MapS (w.alloc (.map #[] 0)) w.heap.size []:=⟨.map [],World.ownsMap_made w Tryz.prog 9 _,fun s _=>rfl⟩
theorem MapS.look (h:MapS w m ns) {s:Str} (hs:s.size<=maxLen): ∃ v,(Instr.lookup 275 (.map (some m)) (.string s) true).run Tryz.prog w= .ok (.tuple #[v,.bool (ns.any (sq · s))]) w:=by
 obtain⟨D,g,j⟩:=h;obtain⟨v,ps,f,hv⟩:=g.look_ok fJ_ Tryz.underlying275 (lD_ w) (plainElem_int Tryz.underlying3 (by decide)) (keyS hs);exact⟨v,by rw [f,j s hs]⟩
theorem MapS.entry (h:MapS w m ns) {s:Str} (hs:s.size<=maxLen) (hnew:ns.any (sq · s)=false) (hN:ns.length<4611686018427387904) {u:Int} (hu:(Lit.int .i64 u).wf =true):
 ∃ (B0 B1 B2:Obj) (v0:Value) (st:Nat),w.heap[m]?=some B0/\(∀ W:World,W.heap[m]?=some B0 ->(Instr.mapEntry 275 (.map (some m)) (.string s)).run Tryz.prog W= .ok (.tuple #[v0,goInt st]) (setBlock W m B1))/\
   (∀ W:World,W.heap[m]?=some B1 ->(Instr.entryStore 275 (.map (some m)) (goInt st) (.int .i64 u)).run Tryz.prog W= .ok () (setBlock W m B2))/\(∀ W:World,W.heap[m]?=some B2 ->MapS W m (ns++[s])):=by
 obtain⟨D,z,Q⟩:=h;have J:=z;have T:=z.tidy fJ_;obtain⟨w',g,G,aA⟩:=z.store fJ_ Tryz.underlying275 (by have:maxLen=9223372036854775807:=rfl;omega) (keyS hs) (plainElem_int Tryz.underlying3 hu);obtain⟨P,f,p,F,aB,L⟩:=J
 have M: ∀ x∈P.toList,x.key≠ .string s:=by
  intro x N Z;rcases Maps.fit_look true fJ_ Tryz.underlying275 (lD_ w) p F (keyS hs) with⟨_,q,n⟩|⟨e0,y,_,_,_,_,n,_⟩
  ·exact q x N Z
  ·have:=Maps.has_true_of_atKey n;rw [<-L,Q s hs,hnew] at this;cases this
 obtain⟨R,q⟩:=mc_ (b:=m) fJ_ Tryz.underlying275 F (keyS hs) M lD_;obtain⟨S,U⟩:=q (.int .i64 u);refine⟨_,_,_,_,f,p,R,S,fun W Y=>?_⟩;rw [U w p] at g;cases g
 have X:MapS (setBlock w m (.map (P.push {key:= .string s,val:= .int .i64 u,born:=f}) (f+1))) m (ns++[s]):=by
  refine⟨D.put (litS s) (.lit (.int .i64 u)),by rw [List.length_append];exact G,fun x N=>?_⟩;rw [List.any_append];by_cases j:x=s
  ·subst j;rw [Maps.has_put_same T.isMap (nR_ x)];simp [oE_.2 rfl]
  ·rw [Maps.has_put_other (fun h=>j (nQ_ h)),Q x N]
   have:sq s x=false:=by
    cases a:sq s x with
    |false=>rfl
    |true=>exact absurd (oE_.1 a).symm j
   simp [this]
 refine X.keep ?_;rw [Y];simp [setBlock,(Array.getElem?_eq_some_iff.1 p).1]
end
end Go.Proofs.YtechdefolfboeaaGreatDoor
namespace Go.Proofs.YtechdefolfboeaaGreatDoor
open Go.RowKit B K
section
open Go.WideElems Go.ChangeShapes Go.WideShapes Go.MapKept Go.ChangeMaps
theorem hs_ {P:Program} {ops:Array Oper} {rest:List Oper} {o:Oper} {a:Act} {w w':World} {Q:Exit ->Act ->World ->Prop} (m k:Operand) (t:TypeId) (ho:o.op=Op.mapEntry t m k) (hg:o.guard=none) {vm vk r:Value} (hm:a.eval m=vm) (hk:a.eval k=vk)
 (hrun:(Instr.mapEntry t vm vk).run P w= .ok r w') (h:wpList P ops Q rest (a.put o.dst r) w'):wpList P ops Q (o::rest) a w:=by
 refine wpList_plain hg fun _ f=>?_;unfold Oper.wp execOp;simp only [ho,hm,hk,Sem.run_bind,hrun,Result.andThen_ok,Sem.run_pure];exact f _ _ h
theorem gb_ {P:Program} {ops:Array Oper} {rest:List Oper} {o:Oper} {a:Act} {w w':World} {Q:Exit ->Act ->World ->Prop} (m k x:Operand) (t:TypeId) (ho:o.op=Op.entryStore t m k x) (hg:o.guard=none) (hd:o.dst=none) {vm vk vx:Value} (hm:a.eval m=vm) (hk:a.eval k=vk) (hx:a.eval x=vx)
 (hrun:(Instr.entryStore t vm vk vx).run P w= .ok () w') (h:wpList P ops Q rest a w'):wpList P ops Q (o::rest) a w:=by
 have h:wpList P ops Q rest (a.put o.dst undef) w':=by rw [hd];exact h
 refine wpList_plain hg fun _ f=>?_;unfold Oper.wp execOp;simp only [ho,hm,hk,hx,Sem.run_bind,hrun,Result.andThen_ok,Sem.run_pure];exact f _ _ h
theorem hV_ {W:World} {m:Nat} {o o':Obj} (h:W.heap[m]?=some o):(setBlock W m o').heap[m]?=some o':=by
 simp [setBlock,(Array.getElem?_eq_some_iff.1 h).1]
theorem iF_ {W:World} {m:Nat} {o':Obj} {X:List Nat} (hX:m∈X):But W (setBlock W m o') X:=
 ⟨rfl,rfl,rfl,by simp [setBlock],fun i _ f=>by
   have:i≠m:=fun e=>f (e ▸ hX);simp only [setBlock];rw [Array.getElem?_setIfInBounds_ne (Ne.symm this)]⟩
end
open Go.ChangeMaps (setBlock)
theorem MapS.ne_box {w:World} {m b:Nat} {ns:List Str} {T:TypeId} {u:List Value} (h:MapS w m ns) (hB:Bx w b T u):b≠m:=by
 rintro rfl;obtain⟨D,⟨es,cl,g,r⟩,h2⟩:=h;have f:w.heap[b]?=some (.cells u.toArray T (0,0)):=hB;rw [g] at f;cases f
theorem pP_ {W0:World} {base:Nat} {v:Value} {ns:List Str} (s:Str) (own:W0.ownsRow base 9 1 v ns.length (ns.flatMap strE)) (hlen:ns.length+1<=1099511627776) (hbase:base<=W0.heap.size):
 ∃ W2 A c,(Builtin.append_ #[22,22] 22 #[v,.slice (some ⟨W0.heap.size,0,none⟩) 1 1]).run Tryz.prog (W0.alloc (.cells #[.string s] 9))= .ok (.slice A (ns.length+1) c) W2/\Below base W0 W2/\
   W2.ownsRow base 9 1 (.slice A (ns.length+1) c) (ns++[s]).length ((ns++[s]).flatMap strE)/\ ∀ (b:Nat) (T':TypeId) (u:List Value),T'≠9 ->Bx W0 b T' u ->Bx W2 b T' u:=by
 obtain⟨J,j⟩:=e_ (W0.alloc (.cells #[.string s] 9));have n:Below W0.heap.size W0 J:=by rw [<-j];exact(Below.refl _ W0).alloc (Nat.le_refl _) _
 have f:=aa_ own n;have G:Rd J 1 strE (some ⟨W0.heap.size,0,none⟩) 1 [s]:=by rw [<-j];exact Rd.lit W0 1 strE ad_ 9 [s]
 obtain⟨vb,W2,z,g,p,hg⟩:=a9_ (enc:=strE) Tryz.underlying22 ax_ rfl (by decide) ad_ aH_ 1 f G hlen (by decide) (Nat.le_trans hbase n.size);have y:(ns++[s]).length =ns.length+1:=by simp
 obtain⟨A,c,e,_⟩:=Rd.of_own ad_ y g;subst e;refine⟨W2,A,c,by rw [j];exact z,(n.mono hbase).grown p (Nat.le_trans hbase n.size) fun q M=>(f.lt q M).1,by rw [y];exact g,fun b T' u F L=>?_⟩;have D:=L.below n;exact D.keep (p.block b D.lt fun h=>dh_ f D F b h.symm rfl)
structure TSt (w:World) (mb bt:Nat) (ns:List Str) (v:Value):Prop where
 bx:Bx w bt 279 [v,.map (some mb)]
 own:w.ownsRow (bt+1) 9 1 v ns.length (ns.flatMap strE)
 mp:MapS w mb ns
 lt:mb<bt
theorem TSt.below {w w':World} {mb bt:Nat} {ns:List Str} {v:Value} (h:TSt w mb bt ns v) (k:Below w.heap.size w w'):TSt w' mb bt ns v:=⟨h.bx.below k,aa_ h.own k,h.mp.below k,h.lt⟩
theorem oq_ (we:World):Calls Tryz.prog 195 #[.slice none 0 0] we fun e w'=> ∃ mb bt,e= .returned (.tuple #[.pointer (some ⟨bt,0,none⟩),.int .i64 0])/\TSt w' mb bt [] (.slice none 0 0)/\we.heap.size<=mb/\Below we.heap.size we w':=by
 have g:=(Below.refl we.heap.size we).alloc (Nat.le_refl _) (.map #[] 0);have z:=MapS.new we;have y:(Instr.makeMap 275 none).run Tryz.prog we= .ok (.map (some we.heap.size)) (we.alloc (.map #[] 0)):=by kernel_rfl
 obtain⟨w1,n⟩:=e_ (we.alloc (.map #[] 0));rw [n] at g z y;obtain⟨mb,j⟩:=e_ we.heap.size;have D:w1.heap.size=mb+1:=by rw [<-n, <-j];simp
 rw [j] at z y;obtain⟨w2,bt,F,q,f,p⟩:=box1 w1 279 [.slice none 0 0,.map (some mb)];have G:Hd (TSt w2 mb bt [] (.slice none 0 0)):=⟨p,World.ownsRow_nil _ _ _ _,z.below f,by omega⟩
 have J:Hd (we.heap.size<=mb/\Below we.heap.size we w2):=⟨by omega,u_ g f⟩
 clear z g p f D;go_enter Tryz.func195,Tryz.ntmps195
 go_wp2
 clear n j F q;go_loopw [15] (fun i wr=>i= .int .i64 0/\wr=w2) (fun i _=>0)
 ·exact⟨rfl,rfl⟩
 ·obtain⟨rfl,rfl⟩:=hrel
  go_wp2
  go_returns;exact⟨mb,bt,rfl,G.o,J.o⟩
def pd_ (w:World) (mb bt:Nat) (ns:List Str) (s:Str) (e:Ending) (w':World):Prop:= ∃ j c,e= .returned (.tuple #[.int .i64 j,.int .i64 c])/\Below mb w w'/\(c=0↔ns.any (sq · s)=false)/\
 (c=0 -> ∃ v',TSt w' mb bt (ns++[s]) v'/\ ∀ (b:Nat) (T':TypeId) (u:List Value),T'≠9 ->b≠bt ->Bx w b T' u ->Bx w' b T' u)
theorem oo_ (w:World) (mb bt:Nat) (ns:List Str) (v:Value) (s:Str) (hsp:Sp w) (h:TSt w mb bt ns v) (hs:aN_ s=true) (hsz:s.size<=24) (hn:ns.length<4096):
 Calls Tryz.prog 197 #[.pointer (some ⟨bt,0,none⟩),.string s] w (pd_ w mb bt ns s):=by
 obtain⟨A,c,rfl,_⟩:=Rd.of_own ad_ rfl h.own;have aH:s.size<=maxLen:=by have:maxLen=9223372036854775807:=rfl;omega
 obtain⟨vv,look⟩:=h.mp.look aH;have G:=h3_ s w hsp;rw [hs] at G;replace G:=H_ G;have p1:=h.bx.cell 1 rfl;have hH:=H_ h;have aV:decide ((ns.length:Int)>=4096)=false:=F_ (by omega);have aU:decide ((4096:Int)<=(ns.length:Int))=false:=F_ (by omega);obtain⟨q,Z⟩:=e_ (ns.any (sq · s));rw [Z] at look;replace Z:=H_ Z;clear h hsp hs;go_enter Tryz.func197,Tryz.ntmps197;go_wp2_with fail;refine G.o.mono ?_;rintro e w1 ⟨rfl,hb⟩;have P:=H_ hb;have h1:=H_ (hH.o.below hb);have p0:=h1.o.bx.cell 0 rfl;have aI:=h1.o.bx.cell 1 rfl;have g:Hd (mb<bt/\bt+1<=w1.heap.size/\mb<=w.heap.size):=⟨hH.o.lt,h1.o.bx.lt,Nat.le_of_lt hH.o.mp.lt⟩
 clear hb look p1
 cases q with
 |true=>
  go_wp2
  go_returns;exact⟨_,_,rfl,P.o.mono g.o.2.2,by rw [Z.o];simp,fun h=>by simp at h⟩
 |false=>
  go_wp2
  refine wM_ (bt+1) [0,0,0,0,0,0,1,0,0,0,0,0,0,3,3,0,0,0,0,0,1,4,4,4,2,2,4,2] g.o.2.1 ?_;intro C hC;simp only [af_,aV_,Nat.reduceLeDiff,Nat.reduceEqDiff, ↓reduceIte]
  repeat(go_big_quiet_step (first
   |(intro _;with_reducible rfl)
   |(intro hc;simp only [c_ hc (by show bt<bt+1;omega) p0,c_ hc (by show bt<bt+1;omega) aI,Result.andThen];exact⟨trivial,rfl⟩)))
  clear hC;intro C' j
  repeat(go_big_quiet_step (first|(intro _;with_reducible rfl)))
  clear j;intro wq f;replace f:Below w1.heap.size w1 wq:=by rw [f];exact⟨rfl,rfl,rfl,Nat.le_refl _,fun _ _=>rfl⟩
  have aW:=H_ f;have n:=h1.o.below f;have aQ:=g.o.1;have aR:=g.o.2.1;have R:=g.o.2.2;obtain⟨W2,a,r,M,y,J,Q⟩:=pP_ s n.own (by omega) (Nat.le_trans g.o.2.1 f.size);have b2:Bx W2 bt 279 [.slice A ns.length c,.map (some mb)]:=Q bt 279 _ (by decide) n.bx;have aT:=H_ (f.trans (ag_ wq #[.string s] 9|>.mono f.size)|>.mono g.o.2.1);have aK:=H_ ((f.mono g.o.2.1).trans y);obtain⟨i,N⟩:=e_ (W2.setCell ⟨bt,0,none⟩ (.slice a (ns.length+1) r));have b3:=b2.set 0 (.slice a (ns.length+1) r);have p:But W2 (W2.setCell ⟨bt,0,none⟩ (.slice a (ns.length+1) r)) [bt]:=But.of_set _ _ _ (by simp);have z:=ae_ J b2 (by decide) p;rw [N] at b3 p z;obtain⟨B0,B1,B2,v0,st,aG,aA,aB,aD⟩:=n.mp.entry aH Z.o (by omega) (u:=(ns.length:Int)) (wf64 (by omega) (by omega));have S:i.heap[mb]?=some B0:=(p.keep mb (Nat.lt_of_lt_of_le n.mp.lt y.size) (by simp;omega)).trans ((y.block mb (by omega)).trans aG)
  obtain⟨W4,aE⟩:=e_ (setBlock i mb B1);have r1:=aA i S;have F:=hV_ (o':=B1) S;have X:But i (setBlock i mb B1) [mb]:=iF_ (by simp);rw [aE] at r1 F X;obtain⟨k,aF⟩:=e_ (setBlock W4 mb B2);have r2:=aB W4 F;have T:=hV_ (o':=B2) F;have Y:But W4 (setBlock W4 mb B2) [mb]:=iF_ (by simp);rw [aF] at r2 T Y;have D:=X.trans Y;have b5:Bx k bt 279 [.slice a (ns.length+1) r,.map (some mb)]:=b3.keep (D.keep bt b3.lt (by simp;omega));have L:=f6_ z D (fun x U=>by simp only [List.mem_singleton] at U;subst U;omega);have aC:=aD k T;have aO:Hd (TSt k mb bt (ns++[s]) (.slice a (ns.length+1) r)):=⟨b5,L,aC,g.o.1⟩
  have aL:Hd (Below mb w k):=by
   have e1:=(P.o.mono g.o.2.2).trans ((f.mono (Nat.le_of_lt h1.o.mp.lt)).trans (y.mono (by omega)));have e2:=e1.trans (p.below (Nat.le_trans R e1.size) (fun x U=>by simp only [List.mem_singleton] at U;subst U;omega));exact e2.trans (D.below (Nat.le_trans R e2.size) (fun x U=>by simp only [List.mem_singleton] at U;omega))
  have aM:Hd (∀ (b:Nat) (d:TypeId) (u:List Value),d≠9 ->b≠bt ->Bx w b d u ->Bx k b d u):=fun b d u aN aS hB=>by
   have i1:=(hB.below P.o).below f;have aP:=n.mp.ne_box i1;have i2:=Q b d u aN i1;have i3:=i2.keep (p.keep b i2.lt (by simpa using aS));exact i3.keep (D.keep b i3.lt (by simpa using aP))
  have f5:=b5.cell 0 rfl;have aJ:=H_ b2;clear aQ aR R aC L b5 D Y T X z p b3 b2 Q J y n aA aB aD aG S F f aE aF p0 aI;refine as_ (by decide) ?_;go_wp2_with fail;refine⟨fun _=>aT.o,?_⟩;refine as_ (by decide) ?_;go_wp2_with (at_builtin;refine ap_ (.tmp 45) (.tmp 47) 22 M ?_);refine⟨fun _=>aK.o,?_⟩;go_simp;refine au_ ?_;intro C' j
  repeat(go_big_quiet_step (first|(intro _;with_reducible rfl)))
  refine wpQuiet_nil ?_;clear j;refine au_ ?_;intro C' j
  repeat(go_big_quiet_step (first|(intro _;with_reducible rfl)))
  refine wpQuiet_nil ?_;clear j;refine au_ ?_;intro C' j
  repeat(go_big_quiet_step (first|(intro _;with_reducible rfl)))
  refine wpQuiet_nil ?_;clear j;refine as_ (by decide) ?_;refine bX_ (.tmp 57) (.tmp 48) 22 (by with_reducible rfl) rfl rfl 0 rfl rfl aJ.o (by simp) rfl (by kernel_rfl) N ?_;refine wpList_nil ?_;refine⟨(fun h=>by cases h),?_⟩;refine as_ (by decide) ?_;refine hs_ (.tmp 39) (.tmp 40) 275 (by with_reducible rfl) rfl rfl rfl r1 ?_;refine wpList_nil ?_;refine⟨(fun h=>by cases h),?_⟩;go_simp;refine au_ ?_;intro C' j
  repeat(go_big_quiet_step (first|(intro _;with_reducible rfl)))
  refine wpQuiet_nil ?_;clear j;refine aM_ _ _ _ (by simp) ?_;simp only [List.map_cons,List.map_nil];refine gb_ (.tmp 39) (.tmp 59) (.tmp 54) 275 (by with_reducible rfl) rfl rfl rfl rfl rfl r2 ?_;go_upto_region 11 with fail;clear N r1 r2 M
  go_wp2
  go_returns;exact⟨_,_,rfl,aL.o,by rw [Z.o];simp,fun _=>⟨_,aO.o,aM.o⟩⟩
