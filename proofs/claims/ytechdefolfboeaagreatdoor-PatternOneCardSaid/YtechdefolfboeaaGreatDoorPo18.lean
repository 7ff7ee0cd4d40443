/- Merged. -/
import Derived.WideKeyEntry
import Derived.Test.YtechdefolfboeaaGreatDoorPo17
set_option linter.unusedVariables false
set_option linter.unusedSimpArgs false
set_option maxRecDepth 100000
set_option maxHeartbeats 2000000
namespace Go.Proofs.YtechdefolfboeaaGreatDoor
open Go.RowKit B Go.WideElems Go.ChangeShapes Go.WideShapes Go.MapKept Go.ChangeMaps
open Go.Maps (Keyed)
section
variable {H:Type} {P:Program} {t k e:TypeId} {R:Value→Option (DataW H×List MemPlace)} {b:Nat} {es:Array MapEntry} {clock:Nat}
theorem entry_new (K:Keyed P k) (ht:P.underlying t=some (.map k e)) (F:Fit P k R es clock) {key:Value} {kl:Lit} (hkey:keyOf P k key=some kl) (hth: ∀ x∈es.toList,x.key≠key) {z:Value} (hz: ∀ W:World,(zeroValue e).run P W= .ok z W):
 (∀ W:World,W.heap[b]?=some (.map es clock)→(Instr.mapEntry t (.map (some b)) key).run P W= .ok (.tuple #[z,goInt clock]) (setBlock W b (.map (es.push {key,val:=z,born:=clock}) (clock+1))))∧
   ∀ val:Value,(∀ W:World,W.heap[b]?=some (.map (es.push {key,val:=z,born:=clock}) (clock+1))→(Instr.entryStore t (.map (some b)) (goInt clock) val).run P W= .ok () (setBlock W b (.map (es.push {key,val:=val,born:=clock}) (clock+1))))∧
     ∀ W:World,W.heap[b]?=some (.map es clock)→(Instr.mapUpdate t (.map (some b)) key val).run P W= .ok () (setBlock W b (.map (es.push {key,val:=val,born:=clock}) (clock+1))):=by
 obtain⟨s1,s2,_⟩:=F.stamped
 have found: ∀ W:World,(Instr.findKey k key es.toList).run P W= .ok none W:=fun W=>by
  rcases K.find W hkey es.toList F.keys with⟨h1,_⟩|⟨j',e0,_,h2,h3⟩
  ·exact h1
  ·exact absurd h3 (hth e0 (List.mem_of_getElem? h2))
 refine⟨fun W hW=>?_,fun val=>⟨fun W hW=>?_,fun W hW=>?_⟩⟩
 ·simp [Instr.mapEntry,run_underlying ht,MapKept.run_getObj_map hW,K.check W false hkey,found,hz,MapKept.run_setObj_map _ hW,Result.andThen,setBlock]
 ·have hidx:(es.push {key,val:=z,born:=clock}).findIdx? (fun e=>((e.born:Nat):Int)==((clock:Nat):Int))=some es.size:=by
   rw [Array.findIdx?_push]
   have h0:es.findIdx? (fun e=>((e.born:Nat):Int)==((clock:Nat):Int))=none:=by
    rw [Array.findIdx?_eq_none_iff];intro x hx;have:=s1 x (by simpa using hx);simp;omega
   rw [h0];simp
  have hmod:(es.push {key,val:=z,born:=clock}).modify es.size (fun e=>{e with val:=val})=es.push {key,val:=val,born:=clock}:=by
   apply Array.ext';rw [Array.toList_modify,Array.toList_push,Array.toList_push];rw [modify_eq_set _ _ _ _ (show(es.toList++[({key,val:=z,born:=clock}:MapEntry)])[es.size]?=some {key,val:=z,born:=clock} by simp)];simp [List.set_append]
  simp [Instr.entryStore,MapKept.run_getObj_map hW,asInt,asIntOf,goInt,hidx,hmod,MapKept.run_setObj_map _ hW,Result.andThen,setBlock]
 ·simp [Instr.mapUpdate,run_underlying ht,MapKept.run_getObj_map hW,K.check W false hkey,found,MapKept.run_setObj_map _ hW,Result.andThen,setBlock]
end
def litS (s:Str):Lit:= .string s.data.toList
def MapS (w:World) (m:Nat) (ns:List Str):Prop:=
 ∃ D:DataW Nat,w.ownsMap Tryz.prog 9 (plainElem Tryz.prog 3) m ns.length D∧ ∀ s:Str,s.size≤maxLen→Maps.has D (litS s)=ns.any (sq · s)
theorem keyedS:Keyed Tryz.prog 9:=Maps.string_keyed Tryz.underlying9
theorem zeroI (w:World):(zeroValue 3).run Tryz.prog w= .ok (.int .i64 0) w:=by kernel_rfl
theorem sq_eq {a s:Str}:sq a s=true↔a=s:=by
 unfold sq;rw [Lib.toList_data,Lib.toList_data];constructor
 ·intro h;have:=eq_of_beq h;cases a;cases s;simp at this
  congr
 ·rintro rfl;simp
theorem keyS {s:Str} (h:s.size≤maxLen):keyOf Tryz.prog 9 (.string s)=some (litS s):=WideMaps.keyOf_string_mk Tryz.underlying9 h
theorem litS_inj {a b:Str} (h:litS a=litS b):a=b:=by
 unfold litS at h;simp at h;cases a;cases b;simp at h
 congr
theorem litS_key (s:Str):WideAt.IsKeyLit (litS s):=by simp [WideAt.IsKeyLit,litS]
section
variable {w w':World} {m:Nat} {ns:List Str}
theorem MapS.lt (h:MapS w m ns):m<w.heap.size:=by obtain⟨D,h,_⟩:=h;exact h.lt
theorem MapS.keep (h:MapS w m ns) (hk:w'.heap[m]?=w.heap[m]?):MapS w' m ns:=by
 obtain⟨D,⟨es,cl,hb,r⟩,h2⟩:=h;exact⟨D,⟨es,cl,hk.trans hb,r⟩,h2⟩
theorem MapS.below (h:MapS w m ns) (hb:Below w.heap.size w w'):MapS w' m ns:=h.keep (hb.block m h.lt)
theorem MapS.new (w:World):MapS (w.alloc (.map #[] 0)) w.heap.size []:=⟨.map [],World.ownsMap_made w Tryz.prog 9 _,fun s _=>rfl⟩
theorem MapS.look (h:MapS w m ns) {s:Str} (hs:s.size≤maxLen): ∃ v,(Instr.lookup 275 (.map (some m)) (.string s) true).run Tryz.prog w= .ok (.tuple #[v,.bool (ns.any (sq · s))]) w:=by
 obtain⟨D,hD,hf⟩:=h;obtain⟨v,ps,hrun,hv⟩:=hD.look_ok keyedS Tryz.underlying275 (zeroI w) (plainElem_int Tryz.underlying3 (by decide)) (keyS hs);exact⟨v,by rw [hrun,hf s hs]⟩
theorem MapS.entry (h:MapS w m ns) {s:Str} (hs:s.size≤maxLen) (hnew:ns.any (sq · s)=false) (hN:ns.length<4611686018427387904) {u:Int} (hu:(Lit.int .i64 u).wf =true):
 ∃ (B0 B1 B2:Obj) (v0:Value) (st:Nat),w.heap[m]?=some B0∧(∀ W:World,W.heap[m]?=some B0→(Instr.mapEntry 275 (.map (some m)) (.string s)).run Tryz.prog W= .ok (.tuple #[v0,goInt st]) (setBlock W m B1))∧
   (∀ W:World,W.heap[m]?=some B1→(Instr.entryStore 275 (.map (some m)) (goInt st) (.int .i64 u)).run Tryz.prog W= .ok () (setBlock W m B2))∧(∀ W:World,W.heap[m]?=some B2→MapS W m (ns++[s])):=by
 obtain⟨D,hD,hf⟩:=h;have hD0:=hD;have T:=hD.tidy keyedS;obtain⟨w',hrun,hD',hturn⟩:=hD.store keyedS Tryz.underlying275 (by have:maxLen=9223372036854775807:=rfl;omega) (keyS hs) (plainElem_int Tryz.underlying3 hu);obtain⟨es,clock,hb,F,hsz,hDD⟩:=hD0
 have hth: ∀ x∈es.toList,x.key≠ .string s:=by
  intro x hx he;rcases Maps.fit_look true keyedS Tryz.underlying275 (zeroI w) hb F (keyS hs) with⟨_,h2,hat⟩|⟨e0,y,_,_,_,_,hat,_⟩
  ·exact h2 x hx he
  ·have:=Maps.has_true_of_atKey hat;rw [←hDD,hf s hs,hnew] at this;cases this
 obtain⟨h1,h2⟩:=entry_new (b:=m) keyedS Tryz.underlying275 F (keyS hs) hth zeroI;obtain⟨h3,h4⟩:=h2 (.int .i64 u);refine⟨_,_,_,_,clock,hb,h1,h3,fun W hW=>?_⟩;rw [h4 w hb] at hrun;cases hrun
 have hM:MapS (setBlock w m (.map (es.push {key:= .string s,val:= .int .i64 u,born:=clock}) (clock+1))) m (ns++[s]):=by
  refine⟨D.put (litS s) (.lit (.int .i64 u)),by rw [List.length_append];exact hD',fun x hx=>?_⟩;rw [List.any_append];by_cases hxs:x=s
  ·subst hxs;rw [Maps.has_put_same T.isMap (litS_key x)];simp [sq_eq.2 rfl]
  ·rw [Maps.has_put_other (fun h=>hxs (litS_inj h)),hf x hx]
   have:sq s x=false:=by
    cases hq:sq s x with
    |false=>rfl
    |true=>exact absurd (sq_eq.1 hq).symm hxs
   simp [this]
 refine hM.keep ?_;rw [hW];simp [setBlock,(Array.getElem?_eq_some_iff.1 hb).1]
end
end Go.Proofs.YtechdefolfboeaaGreatDoor
namespace Go.Proofs.YtechdefolfboeaaGreatDoor
open Go.RowKit B K
section
open Go.WideElems Go.ChangeShapes Go.WideShapes Go.MapKept Go.ChangeMaps
theorem wpList_mapEntry {P:Program} {ops:Array Oper} {rest:List Oper} {o:Oper} {a:Act} {w w':World} {Q:Exit→Act→World→Prop} (m k:Operand) (t:TypeId) (ho:o.op=Op.mapEntry t m k) (hg:o.guard=none) {vm vk r:Value} (hm:a.eval m=vm) (hk:a.eval k=vk)
 (hrun:(Instr.mapEntry t vm vk).run P w= .ok r w') (h:wpList P ops Q rest (a.put o.dst r) w'):wpList P ops Q (o::rest) a w:=by
 refine wpList_plain hg fun _ hK=>?_;unfold Oper.wp execOp;simp only [ho,hm,hk,Sem.run_bind,hrun,Result.andThen_ok,Sem.run_pure];exact hK _ _ h
theorem wpList_entryStore {P:Program} {ops:Array Oper} {rest:List Oper} {o:Oper} {a:Act} {w w':World} {Q:Exit→Act→World→Prop} (m k x:Operand) (t:TypeId) (ho:o.op=Op.entryStore t m k x) (hg:o.guard=none) (hd:o.dst=none) {vm vk vx:Value} (hm:a.eval m=vm) (hk:a.eval k=vk) (hx:a.eval x=vx)
 (hrun:(Instr.entryStore t vm vk vx).run P w= .ok () w') (h:wpList P ops Q rest a w'):wpList P ops Q (o::rest) a w:=by
 have h:wpList P ops Q rest (a.put o.dst undef) w':=by rw [hd];exact h
 refine wpList_plain hg fun _ hK=>?_;unfold Oper.wp execOp;simp only [ho,hm,hk,hx,Sem.run_bind,hrun,Result.andThen_ok,Sem.run_pure];exact hK _ _ h
theorem heap_setB {W:World} {m:Nat} {o o':Obj} (h:W.heap[m]?=some o):(setBlock W m o').heap[m]?=some o':=by
 simp [setBlock,(Array.getElem?_eq_some_iff.1 h).1]
theorem but_setB {W:World} {m:Nat} {o':Obj} {X:List Nat} (hX:m∈X):But W (setBlock W m o') X:=
 ⟨rfl,rfl,rfl,by simp [setBlock],fun i _ hx=>by
   have:i≠m:=fun e=>hx (e ▸ hX);simp only [setBlock];rw [Array.getElem?_setIfInBounds_ne (Ne.symm this)]⟩
end
open Go.ChangeMaps (setBlock)
theorem MapS.ne_box {w:World} {m b:Nat} {ns:List Str} {T:TypeId} {u:List Value} (h:MapS w m ns) (hB:Bx w b T u):b≠m:=by
 rintro rfl;obtain⟨D,⟨es,cl,hb,r⟩,h2⟩:=h;have hB':w.heap[b]?=some (.cells u.toArray T (0,0)):=hB;rw [hb] at hB';cases hB'
theorem grow1 {W0:World} {base:Nat} {v:Value} {ns:List Str} (s:Str) (own:W0.ownsRow base 9 1 v ns.length (ns.flatMap strE)) (hlen:ns.length+1≤1099511627776) (hbase:base≤W0.heap.size):
 ∃ W2 A c,(Builtin.append_ #[22,22] 22 #[v,.slice (some ⟨W0.heap.size,0,none⟩) 1 1]).run Tryz.prog (W0.alloc (.cells #[.string s] 9))= .ok (.slice A (ns.length+1) c) W2∧Below base W0 W2∧
   W2.ownsRow base 9 1 (.slice A (ns.length+1) c) (ns++[s]).length ((ns++[s]).flatMap strE)∧ ∀ (b:Nat) (T':TypeId) (u:List Value),T'≠9→Bx W0 b T' u→Bx W2 b T' u:=by
 obtain⟨W1,hW1⟩: ∃ W1,W0.alloc (.cells #[.string s] 9)=W1:=⟨_,rfl⟩
 have a1:Below W0.heap.size W0 W1:=by rw [←hW1];exact(Below.refl _ W0).alloc (Nat.le_refl _) _
 have own01:=own_below own a1;have hrd:Rd W1 1 strE (some ⟨W0.heap.size,0,none⟩) 1 [s]:=by rw [←hW1];exact Rd.lit W0 1 strE strE_len 9 [s]
 obtain⟨vb,W2,hrun,own2,hgr,hg⟩:=own_append (enc:=strE) Tryz.underlying22 info_tStr rfl (by decide) strE_len strE_one 1 own01 hrd hlen (by decide) (Nat.le_trans hbase a1.size);have hll:(ns++[s]).length =ns.length+1:=by simp
 obtain⟨A,c,e,_⟩:=Rd.of_own strE_len hll own2;subst e;refine⟨W2,A,c,by rw [hW1];exact hrun,(a1.mono hbase).grown hgr (Nat.le_trans hbase a1.size) fun q hq=>(own01.lt q hq).1,by rw [hll];exact own2,fun b T' u hT' h'=>?_⟩;have h1:=h'.below a1;exact h1.keep (hgr.block b h1.lt fun h=>own_ne_box own01 h1 hT' b h.symm rfl)
structure TSt (w:World) (mb bt:Nat) (ns:List Str) (v:Value):Prop where
 bx:Bx w bt 279 [v,.map (some mb)]
 own:w.ownsRow (bt+1) 9 1 v ns.length (ns.flatMap strE)
 mp:MapS w mb ns
 lt:mb<bt
theorem TSt.below {w w':World} {mb bt:Nat} {ns:List Str} {v:Value} (h:TSt w mb bt ns v) (k:Below w.heap.size w w'):TSt w' mb bt ns v:=⟨h.bx.below k,own_below h.own k,h.mp.below k,h.lt⟩
theorem tnew_any (we:World):Calls Tryz.prog 195 #[.slice none 0 0] we fun e w'=> ∃ mb bt,e= .returned (.tuple #[.pointer (some ⟨bt,0,none⟩),.int .i64 0])∧TSt w' mb bt [] (.slice none 0 0)∧we.heap.size≤mb∧Below we.heap.size we w':=by
 have hb1:=(Below.refl we.heap.size we).alloc (Nat.le_refl _) (.map #[] 0);have M1:=MapS.new we;have hmk:(Instr.makeMap 275 none).run Tryz.prog we= .ok (.map (some we.heap.size)) (we.alloc (.map #[] 0)):=by kernel_rfl
 obtain⟨w1,hw1⟩: ∃ q,we.alloc (.map #[] 0)=q:=⟨_,rfl⟩
 rw [hw1] at hb1 M1 hmk;obtain⟨mb,hmE⟩: ∃ q,we.heap.size=q:=⟨_,rfl⟩
 have hs1:w1.heap.size=mb+1:=by rw [←hw1,←hmE];simp
 rw [hmE] at M1 hmk;obtain⟨w2,bt,hw2,hbtE,hbw2,Bw2⟩:=box1 w1 279 [.slice none 0 0,.map (some mb)];have hT:Hid (TSt w2 mb bt [] (.slice none 0 0)):=⟨Bw2,World.ownsRow_nil _ _ _ _,M1.below hbw2,by omega⟩
 have hb:Hid (we.heap.size≤mb∧Below we.heap.size we w2):=⟨by omega,u_ hb1 hbw2⟩
 clear M1 hb1 Bw2 hbw2 hs1;go_enter Tryz.func195,Tryz.ntmps195;go_wp2_with fail;clear hw1 hmE hw2 hbtE;go_loopw [15] (fun i wr=>i= .int .i64 0∧wr=w2) (fun i _=>0)
 case atStart=>exact⟨rfl,rfl⟩
 case round=>
  obtain⟨rfl,rfl⟩:=hrel;go_wp2_with fail;go_returns;exact⟨mb,bt,rfl,hT.out,hb.out⟩
def RetAdd (w:World) (mb bt:Nat) (ns:List Str) (s:Str) (e:Ending) (w':World):Prop:= ∃ j c,e= .returned (.tuple #[.int .i64 j,.int .i64 c])∧Below mb w w'∧(c=0↔ns.any (sq · s)=false)∧
 (c=0→ ∃ v',TSt w' mb bt (ns++[s]) v'∧ ∀ (b:Nat) (T':TypeId) (u:List Value),T'≠9→b≠bt→Bx w b T' u→Bx w' b T' u)
theorem tadd_any (w:World) (mb bt:Nat) (ns:List Str) (v:Value) (s:Str) (hsp:Sp w) (h:TSt w mb bt ns v) (hs:nameB s=true) (hsz:s.size≤24) (hn:ns.length<4096):
 Calls Tryz.prog 197 #[.pointer (some ⟨bt,0,none⟩),.string s] w (RetAdd w mb bt ns s):=by
 obtain⟨A,c,rfl,_⟩:=Rd.of_own strE_len rfl h.own;have hmx:s.size≤maxLen:=by have:maxLen=9223372036854775807:=rfl;omega
 obtain⟨vv,look⟩:=h.mp.look hmx;have hnm:=lname_any s w hsp;rw [hs] at hnm;replace hnm:=H_ hnm;have p1:=h.bx.cell 1 rfl;have hH:=H_ h;have hdl:decide ((ns.length:Int)≥4096)=false:=F_ (by omega);have hdl2:decide ((4096:Int)≤(ns.length:Int))=false:=F_ (by omega);obtain⟨q,hq⟩: ∃ q,ns.any (sq · s)=q:=⟨_,rfl⟩
 rw [hq] at look;replace hq:=H_ hq;clear h hsp hs;go_enter Tryz.func197,Tryz.ntmps197;go_wp2_with fail;refine hnm.out.mono ?_;rintro e w1 ⟨rfl,hb⟩;have hbH:=H_ hb;have h1:=H_ (hH.out.below hb);have p0:=h1.out.bx.cell 0 rfl;have p1':=h1.out.bx.cell 1 rfl;have hlt:Hid (mb<bt∧bt+1≤w1.heap.size∧mb≤w.heap.size):=⟨hH.out.lt,h1.out.bx.lt,Nat.le_of_lt hH.out.mp.lt⟩
 clear hb look p1
 cases q with
 |true=>
  go_wp2_with fail;go_returns;exact⟨_,_,rfl,hbH.out.mono hlt.out.2.2,by rw [hq.out];simp,fun h=>by simp at h⟩
 |false=>
  go_wp2_with fail;go_upto_region 10 with fail;refine wp_region_lateM (bt+1) [0,0,0,0,0,0,1,0,0,0,0,0,0,3,3,0,0,0,0,0,1,4,4,4,2,2,4,2] (by kernel_rfl) (by kernel_rfl) hlt.out.2.1 ?_;intro C hC;simp only [pickK,pickT,Nat.reduceLeDiff,Nat.reduceEqDiff, ↓reduceIte]
  repeat(go_big_quiet_step (first
   |(intro _;with_reducible rfl)
   |(intro hc;have m0:=c_ hc (by show bt<bt+1;omega) p0;have m1:=c_ hc (by show bt<bt+1;omega) p1';simp only [m0,m1,Result.andThen];exact⟨trivial,rfl⟩)))
  refine wpQuiet_nil ?_;clear hC;intro C' hC'
  repeat(go_big_quiet_step (first|(intro _;with_reducible rfl)))
  refine wpQuiet_nil ?_;clear hC';intro wq hbq;replace hbq:Below w1.heap.size w1 wq:=by rw [hbq];exact⟨rfl,rfl,rfl,Nat.le_refl _,fun _ _=>rfl⟩
  have hqH:=H_ hbq;have hq':=h1.out.below hbq;have hl1:=hlt.out.1;have hl2:=hlt.out.2.1;have hl3:=hlt.out.2.2;obtain⟨W2,A2,c2,runA,hb2,own2,hk2⟩:=grow1 s hq'.own (by omega) (Nat.le_trans hlt.out.2.1 hbq.size);have b2:Bx W2 bt 279 [.slice A ns.length c,.map (some mb)]:=hk2 bt 279 _ (by decide) hq'.bx;have hqa:=H_ (hbq.trans (below_alloc wq #[.string s] 9|>.mono hbq.size)|>.mono hlt.out.2.1);have h12:=H_ ((hbq.mono hlt.out.2.1).trans hb2);obtain⟨W3,hW3⟩: ∃ q,W2.setCell ⟨bt,0,none⟩ (.slice A2 (ns.length+1) c2)=q:=⟨_,rfl⟩
  have b3:=b2.set 0 (.slice A2 (ns.length+1) c2);have t23:But W2 (W2.setCell ⟨bt,0,none⟩ (.slice A2 (ns.length+1) c2)) [bt]:=But.of_set _ _ _ (by simp);have own3:=own_box own2 b2 (by decide) t23;rw [hW3] at b3 t23 own3;obtain⟨B0,B1,B2,v0,st,hm0,hE1,hE2,hMS⟩:=hq'.mp.entry hmx hq.out (by omega) (u:=(ns.length:Int)) (wf64 (by omega) (by omega));have hm3:W3.heap[mb]?=some B0:=(t23.keep mb (Nat.lt_of_lt_of_le hq'.mp.lt hb2.size) (by simp;omega)).trans ((hb2.block mb (by omega)).trans hm0);obtain⟨W4,hW4⟩: ∃ q,setBlock W3 mb B1=q:=⟨_,rfl⟩
  have r1:=hE1 W3 hm3;have hm4:=heap_setB (o':=B1) hm3;have t34:But W3 (setBlock W3 mb B1) [mb]:=but_setB (by simp);rw [hW4] at r1 hm4 t34;obtain⟨W5,hW5⟩: ∃ q,setBlock W4 mb B2=q:=⟨_,rfl⟩
  have r2:=hE2 W4 hm4;have hm5:=heap_setB (o':=B2) hm4;have t45:But W4 (setBlock W4 mb B2) [mb]:=but_setB (by simp);rw [hW5] at r2 hm5 t45;have t35:=t34.trans t45;have b5:Bx W5 bt 279 [.slice A2 (ns.length+1) c2,.map (some mb)]:=b3.keep (t35.keep bt b3.lt (by simp;omega));have own5:=own_but own3 t35 (fun x hx=>by simp only [List.mem_singleton] at hx;subst hx;omega);have hM5:=hMS W5 hm5;have hT5:Hid (TSt W5 mb bt (ns++[s]) (.slice A2 (ns.length+1) c2)):=⟨b5,own5,hM5,hlt.out.1⟩
  have hB5:Hid (Below mb w W5):=by
   have e1:=(hbH.out.mono hlt.out.2.2).trans ((hbq.mono (Nat.le_of_lt h1.out.mp.lt)).trans (hb2.mono (by omega)));have e2:=e1.trans (t23.below (Nat.le_trans hl3 e1.size) (fun x hx=>by simp only [List.mem_singleton] at hx;subst hx;omega));exact e2.trans (t35.below (Nat.le_trans hl3 e2.size) (fun x hx=>by simp only [List.mem_singleton] at hx;omega))
  have hK5:Hid (∀ (b:Nat) (T':TypeId) (u:List Value),T'≠9→b≠bt→Bx w b T' u→Bx W5 b T' u):=fun b T' u hT' hne hB=>by
   have i1:=(hB.below hbH.out).below hbq;have hbm:=hq'.mp.ne_box i1;have i2:=hk2 b T' u hT' i1;have i3:=i2.keep (t23.keep b i2.lt (by simpa using hne));exact i3.keep (t35.keep b i3.lt (by simpa using hbm))
  have f5:=b5.cell 0 rfl;have b2H:=H_ b2;clear hl1 hl2 hl3 hM5 own5 b5 t35 t45 hm5 t34 own3 t23 b3 b2 hk2 own2 hb2 hq' hE1 hE2 hMS hm0 hm3 hm4 hbq hW4 hW5 p0 p1';refine wpTail4_one (by decide) ?_;go_wp2_with fail;refine⟨fun _=>hqa.out,?_⟩;refine wpTail4_one (by decide) ?_;go_wp2_with (at_builtin;refine wpList_append_run ?a1 (.tmp 45) (.tmp 47) 22 ?a2 ?a3 ?a4 runA ?_)
  all_goals try rfl
  refine⟨fun _=>h12.out,?_⟩;go_simp;refine wpTail4_quiet ?_;intro C' hC'
  repeat(go_big_quiet_step (first|(intro _;with_reducible rfl)))
  refine wpQuiet_nil ?_;clear hC';refine wpTail4_quiet ?_;intro C' hC'
  repeat(go_big_quiet_step (first|(intro _;with_reducible rfl)))
  refine wpQuiet_nil ?_;clear hC';refine wpTail4_quiet ?_;intro C' hC'
  repeat(go_big_quiet_step (first|(intro _;with_reducible rfl)))
  refine wpQuiet_nil ?_;clear hC';refine wpTail4_one (by decide) ?_;refine wpList_store_f (.tmp 57) (.tmp 48) 22 (by with_reducible rfl) rfl rfl 0 rfl rfl b2H.out (by simp) rfl (by kernel_rfl) hW3 ?_;refine wpList_nil ?_;refine⟨(fun h=>by cases h),?_⟩;refine wpTail4_one (by decide) ?_;refine wpList_mapEntry (.tmp 39) (.tmp 40) 275 (by with_reducible rfl) rfl rfl rfl r1 ?_;refine wpList_nil ?_;refine⟨(fun h=>by cases h),?_⟩;go_simp;refine wpTail4_quiet ?_;intro C' hC'
  repeat(go_big_quiet_step (first|(intro _;with_reducible rfl)))
  refine wpQuiet_nil ?_;clear hC';refine wpTail4_list _ _ _ (by simp) ?_;simp only [List.map_cons,List.map_nil];refine wpList_entryStore (.tmp 39) (.tmp 59) (.tmp 54) 275 (by with_reducible rfl) rfl rfl rfl rfl rfl r2 ?_;go_upto_region 11 with fail;clear hW3 r1 r2 runA;go_wp2_with fail;go_returns;exact⟨_,_,rfl,hB5.out,by rw [hq.out];simp,fun _=>⟨_,hT5.out,hK5.out⟩⟩
end Go.Proofs.YtechdefolfboeaaGreatDoor
