/- Merged. -/
import Derived.Test.YtechdefolfboeaaGreatDoorPo26
import Derived.Test.YtechdefolfboeaaGreatDoorPo32
set_option linter.unusedVariables false
set_option linter.unusedSimpArgs false
set_option maxRecDepth 100000
set_option maxHeartbeats 2000000
namespace Go.Proofs.YtechdefolfboeaaGreatDoor
open Go.RowKit B K
theorem noneB_at {a b:List Int} {i:Nat} {x y:Int} (hx:a[i]?=some x) (hy:b[i]?=some y) (h:y<x):noneB a b=false:=by
 cases hq:noneB a b with
 |false=>rfl
 |true=>have:=noneB_iff.1 hq i x y hx hy;omega
theorem pnone_any (A B:Option Addr) (n c d:Nat) (a b:List Int) (w:World) (ha:Rd w 1 (numE .i64) A n a) (hb:Rd w 1 (numE .i64) B n b) (hn:n≤1099511627776):
 Calls Tryz.prog 84 #[.slice A n c,.slice B n d] w fun e w'=>e= .returned (.bool (noneB a b))∧w'=w:=by
 go_enter Tryz.func84,Tryz.ntmps84;go_wp2_with fail
 go_loop [9] (fun i=> ∃ k:Nat,k≤n∧i= .int .i64 k∧Hid (∀ j x y,j<k→a[j]?=some x→b[j]?=some y→x≤y)) (fun i=>n-(intOf i).toNat)
 case atStart=>exact⟨0,Nat.zero_le _,rfl,fun j x y h=>by omega⟩
 case round=>
  obtain⟨k,hk,rfl,hno⟩:=hrel;by_cases hlt:k<n
  ·have hltI:(k:Int)<(n:Int):=by omega
   obtain⟨b1,o1,x,rfl,hb1,hx,g1⟩:=ha.num hlt;obtain⟨b2,o2,y,rfl,hb2,hy,g2⟩:=hb.num hlt;by_cases hxy:y<x
   ·have hr:=H_ (noneB_at hx hy hxy);clear hx hy;go_wp2_with fail
    go_ret
    exact⟨ret_bool hr.out.symm,rfl⟩
   ·have hn':Hid (∀ j x y,j<k+1→a[j]?=some x→b[j]?=some y→x≤y):=by
     intro j x' y' hj hx' hy';rcases Nat.lt_or_ge j k with h|h
     ·exact hno.out j x' y' h hx' hy'
     ·obtain rfl:j=k:=by omega
      rw [hx] at hx';rw [hy] at hy';cases hx';cases hy';omega
    clear hx hy;go_wp2_with fail
    go_round
    case rel=>exact⟨k+1,by omega,by go_num,hn'⟩
    case measure=>simp [intOf];omega
  ·obtain rfl:k=n:=by omega
   have hr:Hid (noneB a b=true):=noneB_iff.2 fun i x y hx hy=>hno.out i x y (by have:=(List.getElem?_eq_some_iff.1 hx).1;have:=ha.len;omega) hx hy;go_wp2_with fail
   go_ret
   exact⟨ret_bool hr.out.symm,rfl⟩
theorem pAhead_any (ar br:RnE) (r s:RunP) (we:World) (hr:RunT we ar r) (hs:RunT we br s) (h1:r.arr.length≤1099511627776) (h2:r.dep.length≤1099511627776):
 Calls Tryz.prog 39 #[.agg (rnE ar).toArray,.agg (rnE br).toArray] we fun e w'=>e= .returned (.bool (aheadB r s))∧Below we.heap.size we w':=by
 obtain⟨xt,xo,⟨xA,xm,xc⟩,⟨xB,xn,xd⟩⟩:=ar;obtain⟨yt,yo,⟨yA,ym,yc⟩,⟨yB,yn,yd⟩⟩:=br;have ra:=hr.arr;have rb:=hr.dep;have sa:=hs.arr;have sb:=hs.dep;simp only [rnE,SlV.v] at*;have la:=ra.len;have lb:=rb.len;have ka:=sa.len;have kb:=sb.len;have hm:xm≤1099511627776:=by omega
 have hn:xn≤1099511627776:=by omega
 obtain⟨q,hq⟩: ∃ q,aheadB r s=q:=⟨_,rfl⟩
 rw [hq];unfold aheadB at hq;rw [la,lb,ka,kb] at hq;have hqH:=H_ hq;have raH:=H_ ra;have rbH:=H_ rb;have saH:=H_ sa;have sbH:=H_ sb;obtain⟨w1,w2,b1,b2,hw1,hw2,hbE1,hbE2,hbF2,hb1,hb2,hup,B1,B2,hge1,hge2⟩:=enter2 we 47 47 [.int .i64 xt,.int .i64 xo,.slice xA xm xc,.slice xB xn xd] [.int .i64 yt,.int .i64 yo,.slice yA ym yc,.slice yB yn yd];have p0:=B1.cell 2 rfl;have p1:=B1.cell 3 rfl;have p2:=B2.cell 2 rfl;have p3:=B2.cell 3 rfl;clear B1 B2 hb1 hb2 hr hs ra rb sa sb la lb ka kb h1 h2 hq;by_cases e1:xm=ym
 ·subst e1;by_cases e2:xn=yn
  ·subst e2;have hc1:=H_ (pnone_any xA yA xm xc yc r.arr s.arr w2 (raH.out.below hup.out) (saH.out.below hup.out) hm);have hc2:=H_ (pnone_any xB yB xn xd yd r.dep s.dep w2 (rbH.out.below hup.out) (sbH.out.below hup.out) hn)
   cases g1:noneB r.arr s.arr with
   |false=>
    rw [g1] at hc1;obtain rfl:false=q:=by rw [←hqH.out,g1];simp
    clear g1;go_enter Tryz.func39,Tryz.ntmps39;go_wp2_with (first|((with_reducible refine hc1.out.mono ?_);rintro e w' ⟨rfl,rfl⟩));clear hw1 hw2 hbE1 hbE2 hbF2;go_returns;exact⟨rfl,hup.out⟩
   |true=>
    rw [g1] at hc1
    cases g2:noneB r.dep s.dep with
    |false=>
     rw [g2] at hc2;obtain rfl:false=q:=by rw [←hqH.out,g2];simp
     clear g1 g2;go_enter Tryz.func39,Tryz.ntmps39;go_wp2_with (first|((with_reducible refine hc1.out.mono ?_);rintro e w' ⟨rfl,rfl⟩)|((with_reducible refine hc2.out.mono ?_);rintro e w' ⟨rfl,rfl⟩));clear hw1 hw2 hbE1 hbE2 hbF2;go_returns;exact⟨rfl,hup.out⟩
    |true=>
     rw [g2] at hc2;obtain rfl:true=q:=by rw [←hqH.out,g1,g2];simp
     clear g1 g2;go_enter Tryz.func39,Tryz.ntmps39;go_wp2_with (first|((with_reducible refine hc1.out.mono ?_);rintro e w' ⟨rfl,rfl⟩)|((with_reducible refine hc2.out.mono ?_);rintro e w' ⟨rfl,rfl⟩));clear hw1 hw2 hbE1 hbE2 hbF2;go_returns;exact⟨rfl,hup.out⟩
  ·obtain rfl:false=q:=by rw [←hqH.out,F_ e2];simp
   have e3:decide (xn=yn)=false:=F_ e2;have e3':((xn:Int)==(yn:Int))=false:=beq_eq_false_iff_ne.2 (by omega);go_enter Tryz.func39,Tryz.ntmps39;go_wp2_with fail;have hupE:=hup.out;rw [hbE1] at hupE;clear hw1 hw2 hbE1 hbE2 hbF2;go_returns
   first
    |exact⟨rfl,hup.out⟩
    |exact⟨rfl,hupE⟩
 ·obtain rfl:false=q:=by rw [←hqH.out,F_ e1];simp
  have e3:((xm:Int)==(ym:Int))=false:=beq_eq_false_iff_ne.2 (by omega);go_enter Tryz.func39,Tryz.ntmps39;go_wp2_with fail;have hupE:=hup.out;rw [hbE1] at hupE;clear hw1 hw2 hbE1 hbE2 hbF2;go_returns
  first
   |exact⟨rfl,hup.out⟩
   |exact⟨rfl,hupE⟩
theorem pfits_any (M:WorldP) (V:WV) (A:Option Addr) (n c:Nat) (L:List RunP) (we:World) (hr:RW we M V) (hf:Few M) (hsp:Sp we) (hL:RRuns we A n L) (hn:n≤100000):
 Calls Tryz.prog 80 #[wVal M V,.slice A n c] we fun e w'=>e= .returned (.int .i64 (errC M L))∧Below we.heap.size we w':=by
 have hmk:=H_ (fun w h1 h2 h3=>cmake_any M V A n c L w h1 hf h2 h3 hn);have hrH:=H_ hr;have hsH:=H_ hsp;have hLH:=H_ hL;obtain⟨a0,a1,a2,a3,a4,a5,aP,aD,aR,aT,aH,n0,n1,n2,n3,n4,n5,nP,nD,nR,nT,nH,c0,c1,c2,c3,c4,c5,cP,cD,cR,cT,cH⟩:=V;simp only [wVal] at*;obtain⟨w1,b1,hw1,hbE1,hb1,hup,B1,hge1⟩:=enter1 we 31 [.int .i64 M.hz,.slice a0 n0 c0,.slice a1 n1 c1,.slice a2 n2 c2,.slice a3 n3 c3,.slice a4 n4 c4,.slice a5 n5 c5,.slice aP nP cP,.slice aD nD cD,.slice aR nR cR,.slice aT nT cT,.slice aH nH cH];obtain⟨p0,p1,p2,p3,p4,p5,p6,p7,p8,p9,p10,p11⟩:=c_12 B1;clear B1 hr hsp hL hf;go_enter Tryz.func80,Tryz.ntmps80;go_wp2_with fail;refine(hmk.out w1 (hrH.out.below hup.out) (hsH.out.below hup.out) (hLH.out.below hup.out)).mono ?_;rintro e w2 ⟨A2,c2,rfl,_,_,_,hb2⟩;have hbz:=h_ hup hb2;clear hb2;go_wp2_with fail;clear hw1 hbE1;go_returns;exact⟨rfl,hbz.out⟩
end Go.Proofs.YtechdefolfboeaaGreatDoor
namespace Go.Proofs.YtechdefolfboeaaGreatDoor
open Go.RowKit B
def RowO (base:Nat) (w:World) (v:SlV) (l:List Int):Prop:=w.ownsRow base 3 1 v.v l.length (l.flatMap (numE .i64))
theorem RowO.up {base:Nat} {w w':World} {v:SlV} {l:List Int} (h:RowO base w v l) (hb:Below w.heap.size w w'):RowO base w' v l:=own_below h hb
theorem RowO.base {b0 b1:Nat} {w:World} {v:SlV} {l:List Int} (h:RowO b1 w v l) (hb:b0≤b1):RowO b0 w v l:=own_base h hb
theorem RowO.nil (base:Nat) (w:World):RowO base w (none,0,0) []:=World.ownsRow_nil _ _ _ _
theorem RowO.rd {base:Nat} {w:World} {v:SlV} {l:List Int} (h:RowO base w v l): ∃ A c,v=(A,l.length,c)∧Rd w 1 (numE .i64) A l.length l∧l.length≤c∧c≤9223372036854775807:=by
 obtain⟨A,n,c⟩:=v;obtain⟨A',c',e,r1,r2,r3⟩:=Rd.of_own num_len rfl h
 injection e with e1 e2 e3
 subst e1 e2 e3;exact⟨_,_,rfl,r1,r2,r3⟩
section
variable {ε:Type} {T:TypeId} {s f:Nat} {enc:ε→List Value} {sl:ε→SlV}
def ApartO (sl:ε→SlV) (E:List ε):Prop:= ∀ (i j:Nat) a c,i≠j→E[i]?=some a→E[j]?=some c→ ∀ q,(sl a).v.ownBlock =some q→(sl c).v.ownBlock ≠some q
structure PRows (T:TypeId) (s:Nat) (enc:ε→List Value) (sl:ε→SlV) (base:Nat) (w:World) (v:Value) (E:List ε) (R:List (List Int)):Prop where
 row:w.ownsRow base T s v E.length (E.flatMap enc)
 inn:RowsG (fun w e l=>RowO base w (sl e) l) w E R
 apart:ApartO sl E
theorem PRows.below {base:Nat} {w w':World} {v:Value} {E:List ε} {R:List (List Int)} (h:PRows T s enc sl base w v E R) (hb:Below w.heap.size w w'):PRows T s enc sl base w' v E R:=
 ⟨own_below h.row hb,h.inn.up fun e r h=>h.up hb,h.apart⟩
theorem PRows.len {base:Nat} {w:World} {v:Value} {E:List ε} {R:List (List Int)} (h:PRows T s enc sl base w v E R):E.length=R.length:=h.inn.len
theorem set_flat (hs: ∀ e,(enc e).length =s) {e':ε} {u:Value}: ∀ {E:List ε} {j:Nat} {e:ε},E[j]?=some e→f<s→enc e'=(enc e).set f u→(E.set j e').flatMap enc=(E.flatMap enc).set (j*s+f) u:=by
 intro E
 induction E with
 |nil=>intro j e h;simp at h
 |cons x E ih=>
  intro j e h hf he
  cases j with
  |zero=>
   simp at h;subst h;rw [List.set_cons_zero,List.flatMap_cons,List.flatMap_cons,he,Nat.zero_mul,Nat.zero_add,List.set_append,if_pos (by rw [hs];exact hf)]
  |succ j=>
   rw [List.set_cons_succ,List.flatMap_cons,List.flatMap_cons,ih (by simpa using h) hf he,List.set_append,if_neg (by rw [hs,Nat.succ_mul];omega),hs]
   congr 2
   rw [Nat.succ_mul];omega
theorem PRows.cellAt (hs: ∀ e,(enc e).length =s) {base g n c:Nat} {w:World} {E:List ε} {R:List (List Int)} (h:PRows T s enc sl base w (.slice (some ⟨g,0,none⟩) n c) E R) {j f:Nat} {e:ε} {u:Value} (he:E[j]?=some e) (hf:(enc e)[f]?=some u):w.cell? ⟨g,j*s+f,none⟩=some u:=by
 have hj:=(List.getElem?_eq_some_iff.1 he).1;have hfs:f<s:=by rw [←hs e];exact(List.getElem?_eq_some_iff.1 hf).1
 have hn:n=E.length:=by
  rcases h.row.2 with⟨h0,_⟩|⟨g0,cap,cur,h0,_⟩
  ·cases h0
  ·cases h0;rfl
 subst hn;refine(h.row.cellAt _ ?_).trans (flatMap_at hs E j e he f _ hf);have:=Nat.mul_le_mul_right s (show j+1≤E.length by omega);rw [Nat.succ_mul] at this;omega
theorem PRows.push (hT:3≠T) (hs: ∀ e,(enc e).length =s) (hf: ∀ e,(enc e)[f]?=some (sl e).v) {base g n c:Nat} {w:World} {E:List ε} {R:List (List Int)} (h:PRows T s enc sl base w (.slice (some ⟨g,0,none⟩) n c) E R) {j:Nat} {e:ε} {l:List Int} (he:E[j]?=some e) (hl:R[j]?=some l) (x:Int)
 (hlen:l.length+1≤1099511627776) (hB:base≤w.heap.size):
 ∃ g' c' w2,(Builtin.append_ #[49,49] 49 #[(sl e).v,.slice (some ⟨w.heap.size,0,none⟩) 1 1]).run Tryz.prog (w.alloc (.cells #[.int .i64 x] 3))= .ok (.slice (some ⟨g',0,none⟩) (l.length+1) c') w2∧
   w2.cell? ⟨g,j*s+f,none⟩=some (sl e).v ∧w2.frozen? ⟨g,j*s+f,none⟩=false∧Below base w (w2.setCell ⟨g,j*s+f,none⟩ (.slice (some ⟨g',0,none⟩) (l.length+1) c'))∧
   ∀ e':ε,sl e'=(some ⟨g',0,none⟩,l.length+1,c')→enc e'=(enc e).set f (.slice (some ⟨g',0,none⟩) (l.length+1) c')→
     PRows T s enc sl base (w2.setCell ⟨g,j*s+f,none⟩ (.slice (some ⟨g',0,none⟩) (l.length+1) c')) (.slice (some ⟨g,0,none⟩) n c) (E.set j e') (R.set j (l++[x])):=by
 have hj:=(List.getElem?_eq_some_iff.1 he).1;have hfs:f<s:=by rw [←hs e];exact(List.getElem?_eq_some_iff.1 (hf e)).1
 have hrow:=h.inn.at_ j e l he hl
 have hn:n=E.length:=by
  rcases h.row.2 with⟨h0,_⟩|⟨g0,cap,cur,h0,_⟩
  ·cases h0
  ·cases h0;rfl
 subst hn;obtain⟨g',c',w2,hrun,own2,hgr,hnew⟩:=append_one (enc:=numE .i64) Tryz.underlying49 info_tInt rfl (by decide) num_len num_one w base _ l x hrow hlen (by decide) hB;have ha:=(Below.refl w.heap.size w).alloc (Nat.le_refl _) (.cells (numE .i64 x).toArray 3);have hga:g<w.heap.size:=(h.row.lt g rfl).2;have row1:=own_below h.row ha;have hneg:(Value.slice (some ⟨g,0,none⟩) E.length c).ownBlock =none∨(Value.slice (some ⟨g,0,none⟩) E.length c).ownBlock ≠(sl e).v.ownBlock := .inr fun h0=>own_ne (own_below hrow ha) row1 hT.symm (k:=g) rfl h0;have row2:=row1.kept hgr hneg;have hat:(E.flatMap enc)[j*s+f]?=some (sl e).v :=flatMap_at hs E j e he f _ (hf e)
 have hlt:j*s+f<E.length*s:=by
  have:=Nat.mul_le_mul_right s (show j+1≤E.length by omega);rw [Nat.succ_mul] at this;omega
 have hB2:Below base w w2:=(ha.mono hB).grown hgr (Nat.le_trans hB ha.size) (fun k hk=>(hrow.lt k hk).1);refine⟨g',c',w2,hrun,(row2.cellAt _ hlt).trans hat,row2.frozenAt _,hB2.setCell (h.row.lt g rfl).1 _,fun e' hsl henc=>⟨?_,?_,?_⟩⟩
 ·have:=(row2.stored (j*s+f) (.slice (some ⟨g',0,none⟩) (l.length+1) c')).1;rw [List.length_set,set_flat hs he hfs henc];exact this
 ·have hset: ∀ (e1:TypeId) (v1:Value) (n1:Nat) (xs:List Value),3=e1→w2.ownsRow base e1 1 v1 n1 xs→(w2.setCell ⟨g,j*s+f,none⟩ (.slice (some ⟨g',0,none⟩) (l.length+1) c')).ownsRow base e1 1 v1 n1 xs:=by
   intro e1 v1 n1 xs he1 h1;subst he1;refine own_keep h1 fun k hk=>Below.heap_setCell _ _ _ _ fun hgk=>?_;have:=own_ne (k:=g) h1 row2 hT.symm rfl;exact this (by rw [hk];exact congrArg some (show g=k from hgk.symm))
  refine⟨by rw [List.length_set,List.length_set];exact h.inn.len,fun k e1 l1 h1 h2=>?_⟩;rw [List.getElem?_set] at h1 h2;by_cases hjk:j=k
  ·subst hjk;rw [if_pos rfl,if_pos hj] at h1;rw [if_pos rfl,if_pos (by rw [←h.inn.len];exact hj)] at h2;cases h1;cases h2;show World.ownsRow _ _ _ _ _ _ _;rw [hsl];exact hset _ _ _ _ rfl own2
  ·rw [if_neg hjk] at h1 h2;have h3:=h.inn.at_ k e1 l1 h1 h2;refine hset _ _ _ _ rfl ((own_below h3 ha).kept hgr ?_)
   cases hq:(sl e1).v.ownBlock with
   |none=>exact .inl rfl
   |some q=>exact .inr fun h0=>h.apart k j e1 e (Ne.symm hjk) h1 he q hq h0.symm
 ·have hnb: ∀ (k:Nat) e1,k≠j→E[k]?=some e1→(sl e1).v.ownBlock ≠some g':=by
   intro k e1 hkj h1 h0;have hk1:k<R.length:=by rw [←h.inn.len];exact(List.getElem?_eq_some_iff.1 h1).1
   have h3:=h.inn.at_ k e1 _ h1 (List.getElem?_eq_getElem hk1);rcases hnew with h4|h4
   ·exact h.apart k j e1 e hkj h1 he g' h0 h4
   ·have:=(h3.lt g' h0).2;omega
  intro i k a b hik hia hkb q hqa hqb;rw [List.getElem?_set] at hia hkb;by_cases hji:j=i
  ·subst hji;rw [if_pos rfl,if_pos hj] at hia;cases hia;rw [if_neg hik] at hkb;rw [hsl] at hqa;cases hqa;exact hnb k b (Ne.symm hik) hkb hqb
  ·rw [if_neg hji] at hia;by_cases hjk:j=k
   ·subst hjk;rw [if_pos rfl,if_pos hj] at hkb;cases hkb;rw [hsl] at hqb;cases hqb;exact hnb i a (Ne.symm hji) hia hqa
   ·rw [if_neg hjk] at hkb;exact h.apart i k a b hik hia hkb q hqa hqb
end
open K
abbrev PatE:=Int×SlV
def patE (e:PatE):List Value:=[.int .i64 e.1,e.2.v]
theorem patE_len (e:PatE):(patE e).length =2:=rfl
theorem patE_one (e:PatE): ∀ u∈patE e,u.oneCell'=true:=fun u hu=>by simp [patE,SlV.v] at hu;rcases hu with rfl|rfl<;>rfl
theorem info_tPat:(Tryz.prog.info? 68).map (fun i=>(i.zero,i.size,i.bytes))=some (some (.agg #[.int .i64 0,.slice none 0 0]),2,32):=by kernel_rfl
structure PatT (w:World) (e:PatE) (p:PatP):Prop where
 rt:e.1=p.rt
 rd:Rd w 1 (numE .i64) e.2.1 e.2.2.1 p.runs
 cap:e.2.2.1≤e.2.2.2∧e.2.2.2≤9223372036854775807
theorem PatT.below {w w':World} {e:PatE} {p:PatP} (h:PatT w e p) (hb:Below w.heap.size w w'):PatT w' e p:=⟨h.rt,h.rd.below hb,h.cap⟩
structure RPats (w:World) (A:Option Addr) (n:Nat) (P:List PatP):Prop where
 ex: ∃ E:List PatE,Rd w 2 patE A n E∧RowsG PatT w E P
section
variable {w w':World} {A:Option Addr} {n:Nat} {P:List PatP}
theorem RPats.below (h:RPats w A n P) (hb:Below w.heap.size w w'):RPats w' A n P:=by
 obtain⟨E,h1,h2⟩:=h.ex;exact⟨E,h1.below hb,h2.up fun e r h=>h.below hb⟩
theorem RPats.len (h:RPats w A n P):P.length=n:=by
 obtain⟨E,h1,h2⟩:=h.ex;rw [←h2.len];exact h1.len
theorem RPats.nil:RPats w none 0 []:=⟨[],Rd.nil,RowsG.nil⟩
theorem RPats.get (h:RPats w A n P) {k:Nat} (hk:k<n): ∃ b o p A1 n1 c1,A=some ⟨b,o,none⟩∧b<w.heap.size∧P[k]?=some p∧w.cell? ⟨b,o+k*2,none⟩=some (.int .i64 p.rt)∧w.cell? ⟨b,o+k*2+1,none⟩=some (.slice A1 n1 c1)∧Rd w 1 (numE .i64) A1 n1 p.runs∧(n1≤c1∧c1≤9223372036854775807):=by
 have hlen:=h.len;obtain⟨E,h1,h2⟩:=h.ex;obtain⟨b,o,e,rfl,hb,he,hc⟩:=h1.get hk;have hr:P[k]?=some P[k]:=List.getElem?_eq_getElem (by omega);have ht:=h2.at_ k e _ he hr;obtain⟨e1,a1,a2,a3⟩:=e;have c0:=hc 0 _ rfl;have c1:=hc 1 _ rfl;have t1:=ht.rt;simp only at t1;rw [Nat.add_zero] at c0;exact⟨b,o,P[k],a1,a2,a3,rfl,hb,hr,by rw [←t1];exact c0,c1,ht.rd,ht.cap⟩
end
def PatsO (base:Nat) (w:World) (v:Value) (P:List PatP):Prop:= ∃ E:List PatE,PRows 68 2 patE Prod.snd base w v E (P.map PatP.runs)∧E.map Prod.fst=P.map PatP.rt
def PatsM (base:Nat) (w:World) (v:Value) (P:List PatP):Prop:= ∃ E:List PatE,w.ownsRow base 68 2 v E.length (E.flatMap patE)∧RowsG (fun w e l=>RowO base w e.2 l) w E (P.map PatP.runs)∧E.map Prod.fst=P.map PatP.rt
section
variable {w w':World} {base:Nat} {v:Value} {P Q:List PatP}
theorem PatsO.below (h:PatsO base w v P) (hb:Below w.heap.size w w'):PatsO base w' v P:=by
 obtain⟨E,h1,h2⟩:=h;exact⟨E,h1.below hb,h2⟩
theorem PatsM.below (h:PatsM base w v P) (hb:Below w.heap.size w w'):PatsM base w' v P:=by
 obtain⟨E,h1,h2,h3⟩:=h;exact⟨E,own_below h1 hb,h2.up fun e l h=>h.up hb,h3⟩
theorem PatsO.m (h:PatsO base w v P):PatsM base w v P:=by
 obtain⟨E,h1,h2⟩:=h;exact⟨E,h1.row,h1.inn,h2⟩
theorem PatsO.nil:PatsO base w (.slice none 0 0) []:=⟨[],⟨World.ownsRow_nil _ _ _ _,RowsG.nil,fun i j a c _ h=>by simp at h⟩,rfl⟩
theorem PatsM.nil:PatsM base w (.slice none 0 0) []:=PatsO.nil.m
theorem PatsM.pats (h:PatsM base w v P): ∃ A c,v= .slice A P.length c∧RPats w A P.length P∧P.length≤c∧c≤9223372036854775807:=by
 obtain⟨E,h1,h2,h3⟩:=h;have hl:E.length=P.length:=by rw [h2.len,List.length_map]
 obtain⟨A,c,rfl,r1,r2,r3⟩:=Rd.of_own patE_len rfl h1;rw [hl] at r1 r2 ⊢;refine⟨A,c,rfl,⟨E,r1,hl,fun k e p he hp=>?_⟩,r2,r3⟩;have hq:(P.map PatP.runs)[k]?=some p.runs:=by rw [List.getElem?_map,hp];rfl
 obtain⟨A1,c1,e1,q1,q2,q3⟩:=(h2.at_ k e _ he hq).rd;have hf:(E.map Prod.fst)[k]?=(P.map PatP.rt)[k]?:=by rw [h3]
 rw [List.getElem?_map,List.getElem?_map,he,hp] at hf;refine⟨Option.some.inj hf,?_,?_⟩
 ·rw [e1];exact q1
 ·rw [e1];exact⟨q2,q3⟩
theorem PatsO.new (h:PatsO base w v P) (rt:Int) (hlen:P.length+1≤1099511627776) (hB:base≤w.heap.size):
 ∃ v' w1,(Builtin.append_ #[63,63] 63 #[v,.slice (some ⟨w.heap.size,0,none⟩) 1 1]).run Tryz.prog (w.alloc (.cells #[.int .i64 rt,.slice none 0 0] 68))= .ok v' w1∧PatsO base w1 v' (P++[⟨rt,[]⟩])∧Below base w w1∧ ∀ k u,Bx w k 3 u→Bx w1 k 3 u:=by
 obtain⟨E,h1,h2⟩:=h;have hl:E.length=P.length:=by rw [h1.len,List.length_map]
 obtain⟨g,c,w1,hrun,own1,hgr,hnew⟩:=append_one (enc:=patE) Tryz.underlying63 info_tPat rfl (by decide) patE_len patE_one w base v E (rt,none,0,0) h1.row (by omega) (by decide) hB;have ha:=(Below.refl w.heap.size w).alloc (Nat.le_refl _) (.cells (patE (rt,none,0,0)).toArray 68);have hb1:Below base w w1:=(ha.mono hB).grown hgr (Nat.le_trans hB ha.size) (fun k hk=>(h1.row.lt k hk).1);refine⟨_,w1,hrun,⟨E++[(rt,none,0,0)],⟨?_,?_,?_⟩,by simp [h2]⟩,hb1,fun k u hB=>(hB.below ha).keep (hgr.block k (Nat.lt_of_lt_of_le hB.lt ha.size) fun h0=>?_)⟩
 ·rw [List.length_append] at own1 ⊢;exact own1
 ·rw [List.map_append]
  have hk:RowsG (fun w e l=>RowO base w (Prod.snd e) l) w1 E (P.map PatP.runs):=by
   refine⟨h1.inn.len,fun k e l he hl=>?_⟩;have h3:=h1.inn.at_ k e l he hl;refine(own_below h3 ha).kept hgr ?_
   cases hq:(Prod.snd e:SlV).v.ownBlock with
   |none=>exact .inl rfl
   |some q=>exact .inr fun h0=>own_ne (own_below h1.row ha) (own_below h3 ha) (k:=q) (by decide) hq h0
  exact hk.snoc (RowO.nil _ _)
 ·intro i j a b hij ha hb q hqa hqb
  have key: ∀ (i:Nat) (a:PatE),(E++[(rt,(none,0,0))])[i]?=some a→(Prod.snd a:SlV).v.ownBlock =some q→E[i]?=some a:=by
   intro i a ha hq;rcases Nat.lt_or_ge i E.length with hi|hi
   ·rwa [List.getElem?_append_left hi] at ha
   ·rw [List.getElem?_append_right hi] at ha;have hk0:i-E.length=0:=by have:=(List.getElem?_eq_some_iff.1 ha).1;simp at this;omega
    rw [hk0] at ha;simp at ha;subst ha;simp [SlV.v,Value.ownBlock] at hq
  exact h1.apart i j a b hij (key i a ha hqa) (key j b hb hqb) q hqa hqb
 ·rcases h1.row.2 with⟨rfl,_⟩|⟨g,cap,cur,rfl,_,hh,_⟩
  ·cases h0
  ·cases h0;rw [show w.heap[g]?=_ from hB] at hh
   injection hh with hh
   injection hh with _ h5
   exact absurd h5 (by decide)
theorem PatsO.push (h:PatsO base w v P) {j:Nat} {p:PatP} (hp:P[j]?=some p) (x:Int) (hlen:p.runs.length+1≤1099511627776) (hB:base≤w.heap.size):
 ∃ g c A1 c1 g' c' w2,v= .slice (some ⟨g,0,none⟩) P.length c∧base≤g∧g<w.heap.size∧P.length≤c∧c≤9223372036854775807∧w.cell? ⟨g,j*2+1,none⟩=some (.slice A1 p.runs.length c1)∧
   (Builtin.append_ #[49,49] 49 #[.slice A1 p.runs.length c1,.slice (some ⟨w.heap.size,0,none⟩) 1 1]).run Tryz.prog (w.alloc (.cells #[.int .i64 x] 3))= .ok (.slice (some ⟨g',0,none⟩) (p.runs.length+1) c') w2∧
   w2.cell? ⟨g,j*2+1,none⟩=some (.slice A1 p.runs.length c1)∧w2.frozen? ⟨g,j*2+1,none⟩=false∧Below base w (w2.setCell ⟨g,j*2+1,none⟩ (.slice (some ⟨g',0,none⟩) (p.runs.length+1) c'))∧
   PatsO base (w2.setCell ⟨g,j*2+1,none⟩ (.slice (some ⟨g',0,none⟩) (p.runs.length+1) c')) v (P.modify j fun p=>⟨p.rt,p.runs++[x]⟩):=by
 obtain⟨E,h1,h2⟩:=h;have hl:E.length=P.length:=by rw [h1.len,List.length_map]
 have hj:=(List.getElem?_eq_some_iff.1 hp).1;obtain⟨e,he⟩: ∃ e,E[j]?=some e:=⟨_,List.getElem?_eq_getElem (by omega)⟩
 have hpl:(P.map PatP.runs)[j]?=some p.runs:=by rw [List.getElem?_map,hp];rfl
 obtain⟨g,c,hv,hcl,hcm⟩: ∃ g c,v= .slice (some ⟨g,0,none⟩) P.length c∧P.length≤c∧c≤9223372036854775807:=by
  rcases h1.row.2 with⟨h0,h3⟩|⟨g,cap,cur,rfl,_,_,h3,h4,_⟩
  ·omega
  ·exact⟨g,cap,by rw [hl],by omega,h4⟩
 subst hv;have hg:=h1.row.lt g rfl;obtain⟨A1,c1,e1,q1,q2,q3⟩:=(h1.inn.at_ j e _ he hpl).rd;have hsl:(Prod.snd e:SlV).v = .slice A1 p.runs.length c1:=by rw [e1];rfl
 obtain⟨g',c',w2,hrun,k1,k2,k3,k4⟩:=h1.push (f:=1) (by decide) patE_len (fun e=>rfl) he hpl x hlen hB;rw [hsl] at hrun k1
 have hat:w.cell? ⟨g,j*2+1,none⟩=some (.slice A1 p.runs.length c1):=by
  rw [←hsl];have hrow:=h1.row;rw [hl] at hrow;exact(hrow.cellAt _ (by omega)).trans (flatMap_at patE_len E j e he 1 _ rfl)
 refine⟨g,c,A1,c1,g',c',w2,rfl,hg.1,hg.2,hcl,hcm,hat,hrun,k1,k2,k3,⟨_,by
  have:=k4 (e.1,some ⟨g',0,none⟩,p.runs.length+1,c') rfl rfl
  have e2:(P.modify j fun p=>⟨p.rt,p.runs++[x]⟩).map PatP.runs=(P.map PatP.runs).set j (p.runs++[x]):=by
   refine List.ext_getElem? fun k=>?_;rw [List.getElem?_map,List.getElem?_modify,List.getElem?_set,List.getElem?_map];by_cases hjk:j=k
   ·subst hjk;simp [hj,(List.getElem?_eq_some_iff.1 hp).2]
   ·simp [hjk]
  rw [e2];exact this,?_⟩⟩
 refine List.ext_getElem? fun k=>?_;have hf:(E.map Prod.fst)[k]?=(P.map PatP.rt)[k]?:=by rw [h2]
 rw [List.getElem?_map,List.getElem?_map] at hf;rw [List.getElem?_map,List.getElem?_set,List.getElem?_map,List.getElem?_modify];by_cases hjk:j=k
 ·subst hjk;rw [he,hp] at hf;simp only [if_true,if_pos (show j<E.length by omega),Option.map_some,hp];exact hf
 ·simp [hjk] at hf ⊢;exact hf
theorem PatsM.append (h:PatsM base w v P) {A:Option Addr} {m c:Nat} (hQ:PatsM base w (.slice A m c) Q) (hlen:P.length+m≤1099511627776) (hB:base≤w.heap.size):
 ∃ v' w1,(Builtin.append_ #[63,63] 63 #[v,.slice A m c]).run Tryz.prog w= .ok v' w1∧PatsM base w1 v' (P++Q)∧Below base w w1∧w.grownBy w1 v.ownBlock:=by
 obtain⟨E,h1,h2,h3⟩:=h;obtain⟨F,k1,k2,k3⟩:=hQ;have hl:E.length=P.length:=by rw [h2.len,List.length_map]
 have hm:m=F.length:=by
  rcases k1.2 with⟨h0,h4⟩|⟨g,cap,cur,h0,_⟩
  ·cases h0;exact h4.symm
  ·cases h0;rfl
 subst hm;obtain⟨A',c',e',r1,r2,r3⟩:=Rd.of_own patE_len rfl k1
 injection e' with e1 e2 e3
 subst e1 e3;obtain⟨v',w1,hrun,own1,hgr,hnew⟩:=own_append (enc:=patE) Tryz.underlying63 info_tPat rfl (by decide) patE_len patE_one c h1 r1 (by omega) (by decide) hB
 have key: ∀ (E:List PatE) (R:List (List Int)),RowsG (fun w e l=>RowO base w (Prod.snd e) l) w E R→RowsG (fun w e l=>RowO base w (Prod.snd e) l) w1 E R:=by
  intro E' R hR;refine⟨hR.len,fun k e l he hl=>?_⟩;have h3:=hR.at_ k e l he hl;refine World.ownsRow.kept h3 hgr ?_
  cases hq:(Prod.snd e:SlV).v.ownBlock with
  |none=>exact .inl rfl
  |some q=>exact .inr fun h0=>own_ne h1 h3 (k:=q) (by decide) hq h0
 refine⟨v',w1,hrun,⟨E++F,by rw [List.length_append];exact own1,?_,by rw [List.map_append,List.map_append,h3,k3]⟩,(Below.refl w.heap.size w).mono hB|>.grown hgr hB (fun k hk=>(h1.lt k hk).1),hgr⟩;rw [List.map_append];have a1:=key _ _ h2;have a2:=key _ _ k2;refine⟨by rw [List.length_append,List.length_append,a1.len,a2.len],fun k e l he hl2=>?_⟩;rcases Nat.lt_or_ge k E.length with hk|hk
 ·rw [List.getElem?_append_left hk] at he;rw [List.getElem?_append_left (by rw [←a1.len];exact hk)] at hl2;exact a1.at_ k e l he hl2
 ·rw [List.getElem?_append_right hk] at he;rw [List.getElem?_append_right (by rw [←a1.len];exact hk),←a1.len] at hl2;exact a2.at_ _ e l he hl2
theorem PatsM.high (h:PatsM base w v P) (hk: ∀ k,base≤k→k<w.heap.size→w'.heap[k]?=w.heap[k]?):PatsM base w' v P:=by
 obtain⟨E,h1,h2,h3⟩:=h;have key: ∀ {e:TypeId} {s n:Nat} {v:Value} {xs:List Value},w.ownsRow base e s v n xs→w'.ownsRow base e s v n xs:=fun h=>own_keep h fun k hq=>hk k (h.lt k hq).1 (h.lt k hq).2;exact⟨E,key h1,h2.up fun e l h=>key h,h3⟩
theorem PatsM.low {b:Nat} (h:PatsM base w v P) (hb:b≤base):PatsM b w v P:=by
 obtain⟨E,h1,h2,h3⟩:=h;exact⟨E,own_base h1 hb,⟨h2.len,fun k e r h h'=>(h2.at_ k e r h h').base hb⟩,h3⟩
end
end Go.Proofs.YtechdefolfboeaaGreatDoor
namespace Go.Proofs.YtechdefolfboeaaGreatDoor.B
open Go.RowKit B
structure GC (w0:World) (T:TypeId) (Z A B:List Value) (f g fa gb:Bool) (x y:Value) (w:World):Prop where
 bel:Below w0.heap.size w0 w
 im:fa=true→f=true
 im':gb=true→g=true
 a:f=true→ ∃ b,x= .pointer (some ⟨b,0,none⟩)∧w0.heap.size≤b∧Bx w b T (if fa=true then A else Z)
 b:g=true→ ∃ b,y= .pointer (some ⟨b,0,none⟩)∧w0.heap.size≤b∧Bx w b T (if gb=true then B else Z)
 ne:f=true→g=true→x≠y
section
variable {w0 w w':World} {T:TypeId} {Z A B:List Value} {f g fa gb:Bool} {x y:Value}
theorem GC.start (h1:f=false) (h2:g=false) (h3:fa=false) (h4:gb=false):GC w0 T Z A B f g fa gb x y {w0 with drawn:=w0.drawn+1}:=
 ⟨⟨rfl,rfl,rfl,Nat.le_refl _,fun _ _=>rfl⟩,fun h=>(by rw [h3] at h;cases h),fun h=>(by rw [h4] at h;cases h),fun h=>(by rw [h1] at h;cases h),fun h=>(by rw [h2] at h;cases h),fun h=>(by rw [h1] at h;cases h)⟩
theorem GC.pa (h:GC w0 T Z A B f g fa gb x y w) (hl:fa=false) (hf:f=true): ∃ b,x= .pointer (some ⟨b,0,none⟩)∧w0.heap.size≤b∧Bx w b T Z:=by
 obtain⟨b,h1,h2,h3⟩:=h.a hf;rw [hl] at h3;exact⟨b,h1,h2,h3⟩
theorem GC.pb (h:GC w0 T Z A B f g fa gb x y w) (hl:gb=false) (hg:g=true): ∃ b,y= .pointer (some ⟨b,0,none⟩)∧w0.heap.size≤b∧Bx w b T Z:=by
 obtain⟨b,h1,h2,h3⟩:=h.b hg;rw [hl] at h3;exact⟨b,h1,h2,h3⟩
theorem GC.newA (h:GC w0 T Z A B f g fa gb x y w) (hl:f=false):GC w0 T Z A B true g fa gb (.pointer (some ⟨w.heap.size,0,none⟩)) y (w.alloc (.cells Z.toArray T)):=by
 have hfa:fa=false:=by cases hq:fa with|false=>rfl|true=>rw [h.im hq] at hl;cases hl
 refine⟨u_ h.bel (below_alloc w _ _),fun _=>rfl,h.im',fun _=>⟨_,rfl,h.bel.size,by rw [hfa];exact Bx.new _ _ _⟩,fun hg=>?_,fun _ hg e=>?_⟩
 ·obtain⟨b,h1,h2,h3⟩:=h.b hg;exact⟨b,h1,h2,h3.below (below_alloc w _ _)⟩
 ·obtain⟨b,h1,h2,h3⟩:=h.b hg;have:=h3.lt;rw [h1] at e;cases e;omega
theorem GC.newB (h:GC w0 T Z A B f g fa gb x y w) (hl:g=false):GC w0 T Z A B f true fa gb x (.pointer (some ⟨w.heap.size,0,none⟩)) (w.alloc (.cells Z.toArray T)):=by
 have hgb:gb=false:=by cases hq:gb with|false=>rfl|true=>rw [h.im' hq] at hl;cases hl
 refine⟨u_ h.bel (below_alloc w _ _),h.im,fun _=>rfl,fun hf=>?_,fun _=>⟨_,rfl,h.bel.size,by rw [hgb];exact Bx.new _ _ _⟩,fun hf _ e=>?_⟩
 ·obtain⟨b,h1,h2,h3⟩:=h.a hf;exact⟨b,h1,h2,h3.below (below_alloc w _ _)⟩
 ·obtain⟨b,h1,h2,h3⟩:=h.a hf;have:=h3.lt;rw [h1] at e;cases e;omega
theorem GC.putA {b:Nat} (h:GC w0 T Z A B f g fa gb x y w) (hf:f=true) (hx:x= .pointer (some ⟨b,0,none⟩)) (hb:w0.heap.size≤b) (hB:Bx w' b T A) (hBut:But w w' [b]):GC w0 T Z A B f g true gb x y w':=by
 refine⟨h.bel.trans (hBut.below h.bel.size (fun x hx=>by simp only [List.mem_singleton] at hx;omega)),fun _=>hf,h.im',fun _=>⟨b,hx,hb,hB⟩,fun hg=>?_,h.ne⟩;obtain⟨b',h1,h2,h3⟩:=h.b hg;refine⟨b',h1,h2,h3.keep (hBut.keep b' h3.lt fun hm=>?_)⟩;simp only [List.mem_singleton] at hm;exact h.ne hf hg (by rw [hx,h1,hm])
theorem GC.putB {b:Nat} (h:GC w0 T Z A B f g fa gb x y w) (hg:g=true) (hy:y= .pointer (some ⟨b,0,none⟩)) (hb:w0.heap.size≤b) (hB:Bx w' b T B) (hBut:But w w' [b]):GC w0 T Z A B f g fa true x y w':=by
 refine⟨h.bel.trans (hBut.below h.bel.size (fun x hx=>by simp only [List.mem_singleton] at hx;omega)),h.im,fun _=>hg,fun hf=>?_,fun _=>⟨b,hy,hb,hB⟩,h.ne⟩;obtain⟨b',h1,h2,h3⟩:=h.a hf;refine⟨b',h1,h2,h3.keep (hBut.keep b' h3.lt fun hm=>?_)⟩;simp only [List.mem_singleton] at hm;exact h.ne hf hg (by rw [hy,h1,hm])
end
end Go.Proofs.YtechdefolfboeaaGreatDoor.B
namespace Go.Proofs.YtechdefolfboeaaGreatDoor
open Go.RowKit B K
theorem ordR_first (L:List RunP) (a b:Int):ordR L a b=firstN [cmpI (dep0 (runAt L a)) (dep0 (runAt L b)),cmpI (runAt L a).trip (runAt L b).trip,cmpI (runAt L a).no (runAt L b).no,cmpI a b]:=by
 simp only [firstN,or2_zero];rfl
def DepsL (L:List RunP):Prop:= ∀ r∈L,0<r.dep.length
theorem pcmp_any (A:Option Addr) (n c:Nat) (L:List RunP) (we:World) (hL:RRuns we A n L) (hn:n≤100000) (hD:DepsL L) (a b:Int) (ha:a∈natI L.length) (hb:b∈natI L.length):
 Calls Tryz.prog 82 #[.slice A n c,.int .i64 a,.int .i64 b] we fun e w'=>e= .returned (.int .i64 (ordR L a b))∧Below we.heap.size we w':=by
 have ho:=H_ (ordR_first L a b);have hlen:=hL.len;have gra:=runAt_get ha;have grb:=runAt_get hb;obtain⟨ka,rfl⟩:=Int.eq_ofNat_of_zero_le (natI_mem.1 ha).1;obtain⟨kb,rfl⟩:=Int.eq_ofNat_of_zero_le (natI_mem.1 hb).1;have hka:ka<n:=by have:=(natI_mem.1 ha).2;omega
 have hkb:kb<n:=by have:=(natI_mem.1 hb).2;omega
 rw [Int.toNat_natCast] at gra grb;obtain⟨bL,oL,r,x1,xm,xc,x2,xn,xd,rfl,hbL,hr,g0,g1,g2,g3,_,rd,_,_⟩:=hL.get hka;obtain⟨bL',oL',s,y1,ym,yc,y2,yn,yd,hA,_,hs,k0,k1,k2,k3,_,sd,_,_⟩:=hL.get hkb;cases hA;rw [Option.some.inj (gra.symm.trans hr),Option.some.inj (grb.symm.trans hs)] at ho;have hdr:=hD r (List.mem_of_getElem? hr);have hds:=hD s (List.mem_of_getElem? hs);obtain⟨res,hres⟩: ∃ q,ordR L ka kb=q:=⟨_,rfl⟩
 rw [hres] at ho ⊢;obtain⟨bd,od,dr,rfl,hbd,hdr0,gd⟩:=rd.num (show 0<xn by rw [←rd.len];exact hdr);obtain⟨be,oe,ds,rfl,hbe,hds0,ge⟩:=sd.num (show 0<yn by rw [←sd.len];exact hds);have hxn:0<xn:=by rw [←rd.len];exact hdr
 have hyn:0<yn:=by rw [←sd.len];exact hds
 have e1:dep0 r=dr:=by unfold dep0;rw [hdr0];rfl
 have e2:dep0 s=ds:=by unfold dep0;rw [hds0];rfl
 rw [e1,e2] at ho;have hxnI:(0:Int)<(xn:Int):=by omega
 have hynI:(0:Int)<(yn:Int):=by omega
 have hkaI:(ka:Int)<(n:Int):=by omega
 have hkbI:(kb:Int)<(n:Int):=by omega
 rw [Nat.add_zero] at gd ge;clear hres hdr0 hds0 hdr hds hr hs gra grb rd sd e1 e2 ha hb hlen hL hD;go_enter Tryz.func82,Tryz.ntmps82;go_wp2_with fail;go_upto_region 1 with fail;refine wp_region_ghost (fun fl x w=>GC we 47 [.int .i64 0,.int .i64 0,.slice none 0 0,.slice none 0 0] [.int .i64 r.trip,.int .i64 r.no,.slice x1 xm xc,.slice (some ⟨bd,od,none⟩) xn xd] [.int .i64 s.trip,.int .i64 s.no,.slice y1 ym yc,.slice (some ⟨be,oe,none⟩) yn yd] (fl 8) (fl 9) (fl 10) (fl 11) (x 8) (x 9) w) (by kernel_rfl) (by kernel_rfl) (by kernel_rfl) (by kernel_rfl) (by kernel_rfl) ?_ ?_
 ·intro x0;exact GC.start rfl rfl rfl rfl
 intro base O hbase hO;have kx1:Hid (∀ xs,evX base O xs (.tmp 0)= .slice (some ⟨bL,oL,none⟩) n c∧evX base O xs (.tmp 1)= .int .i64 ka∧evX base O xs (.tmp 2)= .int .i64 kb∧evX base O xs (.tmp 7)=xs 8∧evX base O xs (.tmp 8)=xs 9∧evX base O xs (.tmp 9)=xs 0∧evX base O xs (.tmp 10)=xs 1∧evX base O xs (.tmp 11)=xs 2∧evX base O xs (.tmp 12)=xs 3∧evX base O xs (.tmp 13)=xs 4∧evX base O xs (.tmp 14)=xs 5∧evX base O xs (.tmp 15)=xs 6∧evX base O xs (.tmp 16)=xs 7):=fun xs=>by rw [hbase,hO];exact⟨rfl,rfl,rfl,rfl,rfl,rfl,rfl,rfl,rfl,rfl,rfl,rfl,rfl⟩
 clear hbase hO;apply gd_ (n:=0);rfl
 ·intro fl xs w ev hG hD hl hdone hev ef K hK;have e0:=(hev (.tmp 0)).trans ((kx1.out xs).1);clear hev hD;go_simp;exact hK _ _ rfl hG
 apply gd_ (n:=1);rfl
 ·intro fl xs w ev hG hD hl hdone hev ef K hK;have e1:=(hev (.tmp 1)).trans ((kx1.out xs).2.1);clear hev hD;go_simp;exact hK _ _ rfl hG
 apply gd_ (n:=2);rfl
 ·intro fl xs w ev hG hD hl hdone hev ef K hK;have e9:=(hev (.tmp 9)).trans ((kx1.out xs).2.2.2.2.2.1);have d0:=hD.at_ 0 rfl rfl;replace e9:=e9.trans d0;have e10:=(hev (.tmp 10)).trans ((kx1.out xs).2.2.2.2.2.2.1);have d1:=hD.at_ 1 rfl rfl;replace e10:=e10.trans d1;clear hev hD;go_simp;exact hK _ _ rfl hG
 apply gd_ (n:=3);rfl
 ·intro fl xs w ev hG hD hl hdone hev ef K hK;have e11:=(hev (.tmp 11)).trans ((kx1.out xs).2.2.2.2.2.2.2.1);have d2:=hD.at_ 2 rfl rfl;replace e11:=e11.trans d2;clear hev hD;have m0:=c_ hG.bel hbL g0;have m1:=c_ hG.bel hbL g1;have m2:=c_ hG.bel hbL g2;have m3:=c_ hG.bel hbL g3;go_simp;exact hK _ _ rfl hG
 apply gd_ (n:=4);rfl
 ·intro fl xs w ev hG hD hl hdone hev ef K hK;have e0:=(hev (.tmp 0)).trans ((kx1.out xs).1);clear hev hD;go_simp;exact hK _ _ rfl hG
 apply gd_ (n:=5);rfl
 ·intro fl xs w ev hG hD hl hdone hev ef K hK;have e2:=(hev (.tmp 2)).trans ((kx1.out xs).2.2.1);clear hev hD;go_simp;exact hK _ _ rfl hG
 apply gd_ (n:=6);rfl
 ·intro fl xs w ev hG hD hl hdone hev ef K hK;have e13:=(hev (.tmp 13)).trans ((kx1.out xs).2.2.2.2.2.2.2.2.2.1);have d4:=hD.at_ 4 rfl rfl;replace e13:=e13.trans d4;have e14:=(hev (.tmp 14)).trans ((kx1.out xs).2.2.2.2.2.2.2.2.2.2.1);have d5:=hD.at_ 5 rfl rfl;replace e14:=e14.trans d5;clear hev hD;go_simp;exact hK _ _ rfl hG
 apply gd_ (n:=7);rfl
 ·intro fl xs w ev hG hD hl hdone hev ef K hK;have e15:=(hev (.tmp 15)).trans ((kx1.out xs).2.2.2.2.2.2.2.2.2.2.2.1);have d6:=hD.at_ 6 rfl rfl;replace e15:=e15.trans d6;clear hev hD;have m0:=c_ hG.bel hbL k0;have m1:=c_ hG.bel hbL k1;have m2:=c_ hG.bel hbL k2;have m3:=c_ hG.bel hbL k3;go_simp;exact hK _ _ rfl hG
 refine ga_ (n:=8) (fun _=>True) ?_ ?_
 ·intro fl xs w ev hG hD hl hdone hev ef K hK;clear hev hD;go_simp;exact hK _ _ trivial (hG.newA hl)
 refine ga_ (n:=9) (fun _=>True) ?_ ?_
 ·intro fl xs w ev hG hD hl hdone hev ef K hK;clear hev hD;go_simp;exact hK _ _ trivial (hG.newB hl)
 refine ga_ (n:=10) (fun _=>True) ?_ ?_
 ·intro fl xs w ev hG hD hl hdone hev ef K hK;have e7:=(hev (.tmp 7)).trans ((kx1.out xs).2.2.2.1);have e12:=(hev (.tmp 12)).trans ((kx1.out xs).2.2.2.2.2.2.2.2.1);have d3:=hD.at_ 3 rfl rfl;replace e12:=e12.trans d3;clear hev hD;obtain⟨gq,hgq,hq0,hbq⟩:=hG.pa hl (done_of hdone 8 rfl);exact outcome_store (.tmp 7) (.tmp 12) 47 rfl (e7.trans hgq) e12 hbq (by kernel_rfl) rfl (by simp [Value.oneCell']) (fun w' hB hBut=>hK _ _ trivial (hG.putA (done_of hdone 8 rfl) hgq hq0 hB hBut))
 refine ga_ (n:=11) (fun _=>True) ?_ ?_
 ·intro fl xs w ev hG hD hl hdone hev ef K hK;have e8:=(hev (.tmp 8)).trans ((kx1.out xs).2.2.2.2.1);have e16:=(hev (.tmp 16)).trans ((kx1.out xs).2.2.2.2.2.2.2.2.2.2.2.2);have d7:=hD.at_ 7 rfl rfl;replace e16:=e16.trans d7;clear hev hD;obtain⟨gq,hgq,hq0,hbq⟩:=hG.pb hl (done_of hdone 9 rfl);exact outcome_store (.tmp 8) (.tmp 16) 47 rfl (e8.trans hgq) e16 hbq (by kernel_rfl) rfl (by simp [Value.oneCell']) (fun w' hB hBut=>hK _ _ trivial (hG.putB (done_of hdone 9 rfl) hgq hq0 hB hBut))
 clear kx1;intro xs w9 hG hI;clear hI;have hb9:=H_ hG.bel;obtain⟨bx,hx9,hgx,Bx9⟩:=hG.a rfl;obtain⟨by_,hy9,hgy,By9⟩:=hG.b rfl;clear hG;simp only [if_true] at Bx9 By9;simp only [List.append_eq,List.cons_append,List.nil_append,setAll,List.setIfInBounds_toArray,List.set_cons_zero,List.set_cons_succ,Nat.zero_add,Nat.reduceAdd];rw [hx9,hy9];clear hx9 hy9;have p0:=Bx9.cell 0 rfl;have p1:=Bx9.cell 1 rfl;have p3:=Bx9.cell 3 rfl;have q0:=By9.cell 0 rfl;have q1:=By9.cell 1 rfl;have q3:=By9.cell 3 rfl;have z1:=c_ hb9.out hbd gd;have z2:=c_ hb9.out hbe ge;clear Bx9 By9 g0 g1 g2 g3 k0 k1 k2 k3 gd ge hgx hgy;go_upto_region 2 with fail;refine wp_tail0 22 (by kernel_rfl) (by kernel_rfl) ?_;simp only [List.take_succ_cons,List.take_zero,List.drop_succ_cons,List.drop_zero]
 iterate 8 still_step
 still_call (cmpL_any _ _ _)
 iterate 4 still_step
 still_call (cmpI_any _ _ _)
 iterate 4 still_step
 still_call (cmpI_any _ _ _)
 iterate 2 still_step
 still_call (cmpI_any _ _ _)
 refine wpStill_nil ?_;have hcell: ∀ (cs:List Value) (j:Nat) {u:Value},cs[j]?=some u→((w9.drewN 1).alloc (.cells cs.toArray 3)).cell? ⟨w9.heap.size,j,none⟩=some u:=fun cs j u h=>(Bx.new (w9.drewN 1) 3 cs).cell j h;have hcell:=H_ hcell;have hor:=fun W h0 h1 h2 h3=>or4_any (K.cmpI dr ds) (K.cmpI r.trip s.trip) (K.cmpI r.no s.no) (K.cmpI ka kb) w9.heap.size W h0 h1 h2 h3;go_wp2_with fail;refine(hor _ ?h1 ?h2 ?h3 ?h4).mono ?_
 case h1=>exact hcell.out _ 0 rfl
 case h2=>exact hcell.out _ 1 rfl
 case h3=>exact hcell.out _ 2 rfl
 case h4=>exact hcell.out _ 3 rfl
 rintro e w' ⟨rfl,rfl⟩;have hbz:Hid (Below we.heap.size we (w9.drewN 1)):=⟨hb9.out.os,hb9.out.tape,hb9.out.output,hb9.out.size,hb9.out.block⟩
 go_wp2_with fail;go_returns;exact⟨by rw [ho.out];rfl,hbz.out.alloc hbz.out.size _⟩
theorem getLastD_at {l:List Int} {k:Nat} {x:Int} (h:l.length=k+1) (hx:l[k]?=some x):l.getLastD 0=x:=by
 rw [List.getLastD_eq_getLast?,List.getLast?_eq_getElem?,h,Nat.add_sub_cancel,hx];rfl
theorem pof1_any (A:Option Addr) (n c:Nat) (L:List RunP) (we:World) (hL:RRuns we A n L) (hn:n≤100000) (hlen: ∀ r∈L,r.arr.length≤1099511627776∧r.dep.length≤1099511627776) (e:PatE) (p:PatP) (hT:PatT we e p) (hne:p.runs≠[]) (hp:p.runs.length≤100000) (hin:p.runs.getLastD 0∈natI L.length)
 (x:Int) (hx:x∈natI L.length) (b3 b9:Nat) (h3:we.cell? ⟨b3,0,none⟩=some (.slice A n c)) (h9:we.cell? ⟨b9,0,none⟩=some (.int .i64 x)):
 Calls Tryz.prog 116 #[.agg (patE e).toArray,.pointer (some ⟨b3,0,none⟩),.pointer (some ⟨b9,0,none⟩)] we fun e w'=>e= .returned (.bool (aheadB (runAt L (p.runs.getLastD 0)) (runAt L x)))∧Below we.heap.size we w':=by
 obtain⟨rt,A1,m1,c1⟩:=e;have hrd:=hT.rd;simp only [patE,SlV.v] at*;have hlen1:=hrd.len;obtain⟨k,hk⟩: ∃ k,p.runs.length=k+1:=⟨p.runs.length-1,by have:=List.length_pos_iff.2 hne;omega⟩
 obtain rfl:m1=k+1:=by omega
 obtain⟨bR,oR,y,rfl,hbR,hy,gy⟩:=hrd.num (show k<k+1 by omega);rw [getLastD_at hk hy] at hin ⊢;have gra:=runAt_get hin;have grb:=runAt_get hx;have hL60:=hL.len;obtain⟨ka,rfl⟩:=Int.eq_ofNat_of_zero_le (natI_mem.1 hin).1;obtain⟨kb,rfl⟩:=Int.eq_ofNat_of_zero_le (natI_mem.1 hx).1;have hka:ka<n:=by have:=(natI_mem.1 hin).2;omega
 have hkb:kb<n:=by have:=(natI_mem.1 hx).2;omega
 rw [Int.toNat_natCast] at gra grb;obtain⟨E,rE,gE⟩:=hL.ex;obtain⟨bL,oL,ea,rfl,hbL,hea,hca⟩:=rE.get hka;obtain⟨bL',oL',eb,hA,_,heb,hcb⟩:=rE.get hkb;cases hA;have hTa:=H_ (gE.at_ ka ea _ hea gra);have hTb:=H_ (gE.at_ kb eb _ heb grb);have hla:=hlen _ (List.mem_of_getElem? gra);obtain⟨q,hq⟩: ∃ q,aheadB (runAt L ka) (runAt L kb)=q:=⟨_,rfl⟩
 have hah:Hid (∀ W,Below we.heap.size we W→Calls Tryz.prog 39 #[.agg (rnE ea).toArray,.agg (rnE eb).toArray] W fun e w'=>e= .returned (.bool q)∧Below W.heap.size W w'):=fun W hW=>by
  have:=pAhead_any ea eb _ _ W (hTa.out.below hW) (hTb.out.below hW) hla.1 hla.2;rw [hq] at this;exact this
 rw [hq];obtain⟨x1,x2,⟨x3,x4,x5⟩,⟨x6,x7,x8⟩⟩:=ea;obtain⟨y1,y2,⟨y3,y4,y5⟩,⟨y6,y7,y8⟩⟩:=eb;simp only [rnE,SlV.v] at hah;have g0:=hca 0 _ rfl;have g1:=hca 1 _ rfl;have g2:=hca 2 _ rfl;have g3:=hca 3 _ rfl;have f0:=hcb 0 _ rfl;have f1:=hcb 1 _ rfl;have f2:=hcb 2 _ rfl;have f3:=hcb 3 _ rfl;simp only [Nat.add_zero,SlV.v] at g0 g1 g2 g3 f0 f1 f2 f3;have l3:=World.block_lt_of_cell? we ⟨b3,0,none⟩ h3;have l9:=World.block_lt_of_cell? we ⟨b9,0,none⟩ h9;obtain⟨w1,b1,hw1,hbE1,hb1,hup,B1,hge1⟩:=enter1 we 68 [.int .i64 rt,.slice (some ⟨bR,oR,none⟩) (k+1) c1];have p1:=B1.cell 1 rfl;have lb:=B1.lt;have d3:=c_ hup.out l3 h3;have d9:=c_ hup.out l9 h9;have hkI:(k:Int)<(k:Int)+1:=by omega
 have hkaI:(ka:Int)<(n:Int):=by omega
 have hkbI:(kb:Int)<(n:Int):=by omega
 have hk9:k≤100000:=by omega
 have hs1:IntKind.i64.wrap ((k:Int)+1-1)=k:=by rw [IntWalk.i64_in _ (by omega)];omega
 have lbR:=Nat.lt_of_lt_of_le hbR hup.out.size;have lbL:=Nat.lt_of_lt_of_le hbL hup.out.size;have r0:=c_ hup.out hbR gy;have hb0:Hid (Below we.heap.size we w1):=hup;have hka0:(0:Int)≤(ka:Int):=by omega
 have hkb0:(0:Int)≤(kb:Int):=by omega
 clear B1 hb1 hrd hT hne hin hx hla hL gra grb hea heb hca hcb hTa hTb gE rE hlen hy hlen1 hk hL60 hq h3 h9 gy hp;go_enter Tryz.func116,Tryz.ntmps116;go_wp2_with fail;clear hw1 hbE1;go_upto_region 1 with fail;refine wb_ w1.heap.size ?_;intro C hC
 repeat(go_big_quiet_step (first
  |((intro _;with_reducible rfl))
  |(intro hc;have hcw:=b_ hb0 hc;have m0:=c_ hc (Nat.lt_of_lt_of_le l3 hup.out.size) d3;have m1:=c_ hc (Nat.lt_of_lt_of_le l9 hup.out.size) d9;have m2:=c_ hc lb p1;have m3:=c_ hc lbR r0;have m4:=c_ hcw hbL g0;have m5:=c_ hcw hbL g1;have m6:=c_ hcw hbL g2;have m7:=c_ hcw hbL g3;have m8:=c_ hcw hbL f0;have m9:=c_ hcw hbL f1;have m10:=c_ hcw hbL f2;have m11:=c_ hcw hbL f3;simp only [m0,m1,m2,m3,m4,m5,m6,m7,m8,m9,m10,m11,Result.andThen];exact⟨trivial,rfl⟩)
  |(intro hc;have hcw:=b_ hb0 hc;(with_reducible refine(hah.out _ hcw).mono ?_);rintro e w'' ⟨rfl,hw⟩;exact⟨rfl,u_ hc hw⟩)))
 refine wpQuiet_nil ?_;intro w9 hb9;clear hC;go_wp2_with fail;go_returns;exact⟨rfl,b_ hup hb9⟩
theorem ixfPat_any (g:Nat) (lb:Array Value) (eg: ∀ args w,(callFunc g args).run Tryz.prog w= .ok (.enter g args) w) (p:Nat→Bool) (A:Option Addr) (n c:Nat) (l:List (PatE)) (w:World) (hr:Rd w 2 patE A n l) (hn:n≤1099511627776)
 (hp: ∀ (W:World) (i:Nat) (x:PatE),Below w.heap.size w W→l[i]?=some x→Calls Tryz.prog g (#[.agg (patE x).toArray]++lb) W fun e w'=>e= .returned (.bool (p i))∧Below W.heap.size W w'):
 Calls Tryz.prog 115 #[.slice A n c,.func (.func g) #[] lb] w fun e w'=>e= .returned (.int .i64 (idx p (List.range n)))∧Below w.heap.size w w':=by
 go_enter Tryz.func115,Tryz.ntmps115;go_wp2_with fail;go_loopw [8] (fun i wr=> ∃ (k:Nat),k≤n∧i= .int .i64 k∧Below w.heap.size w wr∧Hid (∀ y∈(List.range n).take k,p y=false)) (fun i _=>n-(intOf i).toNat)
 case atStart=>exact⟨0,Nat.zero_le _,rfl,Below.refl _ _,fun y hy=>by simp at hy⟩
 case round=>
  obtain⟨k,hk,rfl,hb,hno⟩:=hrel;by_cases hlt:k<n
  ·have hltI:(k:Int)<(n:Int):=by omega
   obtain⟨b,o,⟨x1,⟨x4,x5,x6⟩⟩,rfl,hbs,hx,hc0⟩:=(hr.below hb).get hlt;have g0:=hc0 0 _ rfl;have g1:=hc0 1 _ rfl;simp only [Nat.add_zero,SlV.v] at g0 g1;have hx:=H_ hx;rename_i hx0;clear hx0 hc0;have hrk:(List.range n)[k]?=some k:=List.getElem?_range hlt;have hcall:=hp wr k _ hb hx.out;simp only [patE,SlV.v,Array.append_eq_append,List.append_toArray,List.cons_append,List.nil_append] at hcall;clear hp
   cases hq:p k with
   |true=>
    rw [hq] at hcall;have hi:Hid (idx p (List.range n)=k):=idx_at hrk hno.out hq;clear hrk;clear hq;go_wp2_with fail;refine hcall.mono ?_;rintro e w2 ⟨rfl,hb2⟩;go_wp2_with fail;go_returns;exact⟨ret_int hi.out.symm,u_ hb hb2⟩
   |false=>
    rw [hq] at hcall
    have hno':Hid (∀ y∈(List.range n).take (k+1),p y=false):=by
     intro y hy;rw [take_at hrk,List.mem_append] at hy;rcases hy with hy|hy
     ·exact hno.out y hy
     ·simp at hy;subst hy;exact hq
    clear hq hrk;go_wp2_with fail;refine hcall.mono ?_;rintro e w2 ⟨rfl,hb2⟩;go_wp2_with fail;go_roundw
    case rel=>exact⟨k+1,by omega,by go_num,u_ hb hb2,hno'⟩
    case measure=>simp [intOf];omega
  ·go_wp2
   go_returns;exact⟨ret_int (by rw [idx_no];intro y hy;exact hno.out y (by rwa [List.take_of_length_le (by rw [List.length_range];omega)])),hb⟩
structure RunsK (w:World) (A:Option Addr) (n:Nat) (L:List RunP):Prop where
 rr:RRuns w A n L
 n5:n≤100000
 short: ∀ r∈L,r.arr.length≤1099511627776∧r.dep.length≤1099511627776
theorem RunsK.below {w w':World} {A:Option Addr} {n:Nat} {L:List RunP} (h:RunsK w A n L) (hb:Below w.heap.size w w'):RunsK w' A n L:=⟨h.rr.below hb,h.n5,h.short⟩
def RetPO (base:Nat) (P:List PatP) (we:World) (e:Ending) (w':World):Prop:= ∃ v,e= .returned v∧PatsO base w' v P∧Below we.heap.size we w'
theorem pof_any (A:Option Addr) (n c:Nat) (L:List RunP) (we:World) (hK:RunsK we A n L) (rt:Int) (B:Option Addr) (m d:Nat) (l:List Int) (hl:Rd we 1 (numE .i64) B m l) (hm:m≤100000) (hin: ∀ x∈l,x∈natI L.length):
 Calls Tryz.prog 83 #[.slice A n c,.int .i64 rt,.slice B m d] we (RetPO we.heap.size (ofL L rt l) we):=by
 have hKH:=H_ hK;have hlH:=H_ hl;have hinH:=H_ hin;have hlm:=H_ hl.len;obtain⟨w1,b1,hw1,hbE1,hb1,hup,B1,hge1⟩:=enter1 we 116 [.slice A n c];have B1H:=H_ B1;have l1:=B1.lt;have hg1:=H_ hge1.out;clear B1 hb1 hK hl hin;go_enter Tryz.func83,Tryz.ntmps83;go_wp2_with fail;clear hw1 hbE1;have hb0:Hid (Below w1.heap.size w1 w1):=Below.refl _ _;go_loopw [13,7] (fun iv v wr=> ∃ k:Nat,k≤m∧iv= .int .i64 k∧Hid (PatsO w1.heap.size wr v (ofL L rt (l.take k)))∧Hid (Below w1.heap.size w1 wr)) (fun iv _ _=>m-(intOf iv).toNat)
 case atStart=>exact⟨0,Nat.zero_le _,rfl,PatsO.nil,hb0⟩
 case round=>
  obtain⟨k,hk,rfl,hP,hb⟩:=hrel;clear hb0;by_cases hlt:k<m
  ·have hltI:(k:Int)<(m:Int):=by omega
   have hbe:=h_ hup hb.out;obtain⟨bB,oB,x,rfl,hbB,hx,gx⟩:=(hlH.out.below hbe.out).num hlt;have hxin:=H_ (hinH.out x (List.mem_of_getElem? hx));have htk:Hid (ofL L rt (l.take (k+1))=ofStep L rt (ofL L rt (l.take k)) x):=by show _=_;rw [take_at hx,ofL_snoc]
   have hfa:=H_ (ofL_facts (L:=L) (rt:=rt) (l:=l.take k) (fun y hy=>hinH.out y (List.mem_of_mem_take hy)));have hPl:(ofL L rt (l.take k)).length ≤k:=Nat.le_trans hfa.out.2 (by rw [List.length_take];omega);have hrl:Hid (∀ p∈ofL L rt (l.take k),p.runs.length≤100000):=fun p hp=>by have:=(hfa.out.1 p hp).2.2;rw [List.length_take] at this;have:=hlm.out;omega
   have htkA:=htk;obtain⟨P,hPe⟩: ∃ P,ofL L rt (l.take k)=P:=⟨_,rfl⟩
   rw [hPe] at hP hfa hPl hrl;have hPe':=H_ hPe;obtain⟨Av,cv,rfl,rP,hc1,hc2⟩:=hP.out.m.pats;obtain⟨mP,hmP⟩: ∃ q,P.length=q:=⟨_,rfl⟩
   rw [hmP] at rP hc1 hPl hP;have hmPH:=H_ hmP;have rPH:=H_ rP;have htk0:=H_ htkA.out;clear hx hPe rP htk htkA;obtain⟨w2,b9,hw2,hb9E,hbw2,Bw2⟩:=box1 wr 3 [.int .i64 x];have l9:=Bw2.lt;have h9:=H_ (Bw2.cell 0 rfl);have hBx2:=H_ Bw2;have hbw:=h_ hb hbw2;have hP2:=H_ (hP.out.below hbw2);have rP2:=H_ (rPH.out.below hbw2);have hbe2:=h_ hbe hbw2;have h3:=H_ (c_ hbw.out l1 (B1H.out.cell 0 rfl));have l3:=Nat.lt_of_lt_of_le l1 hbw.out.size
   have hix:Hid (Calls Tryz.prog 115 #[.slice Av mP cv,.func (.func 116) #[] #[.pointer (some ⟨b1,0,none⟩),.pointer (some ⟨b9,0,none⟩)]] w2 fun e w'=>e= .returned (.int .i64 (idx (mayAt L P x) (List.range mP)))∧Below w2.heap.size w2 w'):=by
    obtain⟨E,rE,gE⟩:=rP2.out.ex;refine ixfPat_any 116 _ (enters_of Tryz.func116 (by kernel_rfl) rfl) (mayAt L P x) Av mP cv E w2 rE (by omega) fun U i e hU he=>?_;have hi:i<P.length:=by rw [←gE.len];exact(List.getElem?_eq_some_iff.1 he).1
    have hpi:P[i]?=some P[i]:=List.getElem?_eq_getElem hi;have hmem:=List.mem_of_getElem? hpi;have hf:=hfa.out.1 _ hmem;rw [mayAt_eq hpi];exact pof1_any A n c L U (hKH.out.rr.below (b_ hbe2 hU)) hKH.out.n5 hKH.out.short e P[i] ((gE.at_ i e _ he hpi).below hU) hf.1 (hrl.out _ hmem) hf.2.1 x hxin.out b1 b9 (c_ hU l3 h3.out) (c_ hU l9 h9.out)
   clear Bw2 hP rPH hb hbe rP2;go_wp2_with fail;refine hix.out.mono ?_;rintro e w3 ⟨rfl,hb3⟩;have hbz:=h_ hbw hb3;have hP3:=H_ (hP2.out.below hb3);have hBx3:=H_ (hBx2.out.below hb3);have h93:=H_ (c_ hb3 l9 h9.out);have l93:=Nat.lt_of_lt_of_le l9 hb3.size;obtain⟨q,hq⟩: ∃ q,idx (mayAt L P x) (List.range mP)=q:=⟨_,rfl⟩
   have hqP:Hid (idx (mayAt L P x) (List.range P.length)=q):=by show _=_;rw [hmPH.out];exact hq
   rw [hq];clear hq hb3 hix hP2 h9;go_upto_if 21 with fail;go_cut [7,10] (fun v7 v10 wx=> ∃ (P':List PatP) (j:Nat) (p:PatP),v10= .int .i64 j∧Hid (PatsO w1.heap.size wx v7 P')∧Hid (P'[j]?=some p)∧p.runs.length≤100000∧j<P'.length∧P'.length≤100001∧Hid (P'.modify j (fun p=>⟨p.rt,p.runs++[x]⟩)=ofStep L rt P x)∧Hid (Below w1.heap.size w1 wx)∧Hid (wx.cell? ⟨b9,0,none⟩=some (.int .i64 x))∧b9<wx.heap.size)
   case first=>
    by_cases hq0:q<0
    ·have hstep:=H_ (ofStep_no (L:=L) (P:=P) (rt:=rt) (n:=x) (by rw [hqP.out];exact hq0));obtain⟨v',w5,hrun,hP5,hb5,hk5⟩:=hP3.out.new rt (by omega) hbz.out.size;have h95:Hid (w5.cell? ⟨b9,0,none⟩=some (.int .i64 x)):=(hk5 b9 _ hBx3.out).cell 0 rfl;have l95:b9<w5.heap.size:=(hk5 b9 _ hBx3.out).lt;have hP5H:=H_ hP5;have hb5H:=H_ (hbz.out.trans hb5);have hj5:Hid ((P++[(⟨rt,[]⟩:PatP)])[mP]?=some ⟨rt,[]⟩):=by show _=_;rw [←hmPH.out];simp
     have hm5:Hid ((P++[(⟨rt,[]⟩:PatP)]).modify mP (fun p=>⟨p.rt,p.runs++[x]⟩)=ofStep L rt P x):=by show _=_;rw [hstep.out,←hmPH.out];exact modify_new
     have hl5:mP<(P++[(⟨rt,[]⟩:PatP)]).length ∧(P++[(⟨rt,[]⟩:PatP)]).length ≤100001:=by rw [List.length_append,hmPH.out];exact⟨by simp,by simp;omega⟩
     have hl5:=H_ hl5;clear hP5 hb5 hk5;go_wp2_with (at_builtin;refine wpList_append_run ?a1 (.tmp 24) (.tmp 27) 63 ?a2 ?a3 ?a4 hrun ?_)
     all_goals try rfl
     go_meet
     exact⟨_,mP,⟨rt,[]⟩,rfl,hP5H,hj5,by simp,hl5.out.1,hl5.out.2,hm5,hb5H,h95,l95⟩
    ·obtain⟨j,p,hj,hp,hst⟩:=ofStep_yes (L:=L) (P:=P) (rt:=rt) (n:=x) (by rw [hqP.out];omega);obtain rfl:q=(j:Int):=by rw [←hqP.out,hj]
     have hpl:=hrl.out p (List.mem_of_getElem? hp);have hjl:j<P.length:=(List.getElem?_eq_some_iff.1 hp).1;have hpH:=H_ hp;have hstH:=H_ hst.symm;have hmP2:P.length≤100001:=by have:=hmPH.out;omega
     clear hj hp hst;go_wp2_with fail
     go_meet
     exact⟨P,j,p,rfl,hP3,hpH,hpl,hjl,hmP2,hstH,hbz,h93,l93⟩
   case rest=>
    obtain⟨P',j,p,hv10,hP6,hp6,hpl,hjl,hPl2,hst,hb6,h96,l96⟩:=hcut;obtain⟨g,cc,A1,c1,_,_,_,hv7,hg0,hgl,hcl,hcm,hcg,_⟩:=hP6.out.push hp6.out x (by omega) hb6.out.size;subst hv10;subst hv7;obtain⟨mQ,hmQ⟩: ∃ q,P'.length=q:=⟨_,rfl⟩
    obtain⟨nr,hnr⟩: ∃ q,p.runs.length=q:=⟨_,rfl⟩
    rw [hmQ] at hcl hjl hPl2;rw [hnr] at hcg hpl;have hjI:(j:Int)<(mQ:Int):=by omega
    have hcgH:=H_ hcg;have hmQH:=H_ hmQ;have hnrH:=H_ hnr;simp only [hmQ];clear hg0 hmQ hnr hP3 hBx3 hbz h93 hqP hcg;go_wp2_with fail;go_upto_region 9 with fail;refine wp_region_late [1,1,0,0,0,0,0,0,2,2,2,2,2] (by kernel_rfl) (by kernel_rfl) ?_;intro C hC;simp only [pickK,Nat.reduceEqDiff, ↓reduceIte]
    repeat(go_big_quiet_step (first
     |(intro _;with_reducible rfl)
     |(intro hc;have m0:=c_ hc hgl hcgH.out;have m1:=c_ hc l96 h96.out;simp only [m0,m1,Result.andThen];exact⟨trivial,rfl⟩)))
    refine wpQuiet_nil ?_;clear hC;intro C' hC'
    repeat(go_big_quiet_step (first|(intro _;with_reducible rfl)))
    refine wpQuiet_nil ?_;clear hC';intro wq hbq;obtain⟨g1,cc1,A2,c2,g',c',w8,hv7,_,_,_,_,hcg2,hrun,hcg8,hfz8,hb8,hP8⟩:=(hP6.out.below hbq).push hp6.out x (by have:=hnrH.out;omega) (Nat.le_trans hb6.out.size hbq.size);cases hv7;rw [hnrH.out] at hcg2 hrun hcg8 hb8 hP8;cases((hbq.cell (p:=⟨g,j*2+1,none⟩) hgl).trans hcgH.out).symm.trans hcg2;rw [hst.out,hmQH.out] at hP8;have hrunH:=hrun;obtain⟨w9,hw9⟩: ∃ q,w8.setCell ⟨g,j*2+1,none⟩ (.slice (some ⟨g',0,none⟩) (nr+1) c')=q:=⟨_,rfl⟩
    rw [hw9] at hb8 hP8;have hfin:=H_ (hb6.out.trans ((hbq.mono hb6.out.size).trans hb8));have hP8H:Hid (PatsO w1.heap.size w9 (.slice (some ⟨g,0,none⟩) mQ cc) (ofL L rt (l.take (k+1)))):=by show PatsO _ _ _ _;rw [htk0.out,hPe'.out];exact hP8
    clear hb8 hP8 hst hP6 hp6 hb6 hcgH hbq hnrH hmQH hcg2;go_wp2_with (at_builtin;refine wpList_append_run ?P1 (.tmp 35) (.tmp 37) 49 ?P2 ?P3 ?P4 hrun ?_)
    all_goals try rfl
    go_roundw
    case rel=>exact⟨k+1,by omega,by go_num,hP8H,hfin⟩
    case measure=>simp [intOf];omega
  ·obtain rfl:k=m:=by omega
   have hPk:Hid (PatsO w1.heap.size wr u7 (ofL L rt l)):=by have:=hP.out;rwa [List.take_of_length_le (by rw [hlm.out];exact Nat.le_refl _)] at this
   have hbz:=h_ hup hb.out;clear hP hb;obtain⟨Av,cv,hv,_⟩:=hPk.out.m.pats;have hP9:Hid (PatsO we.heap.size wr u7 (ofL L rt l)):=by obtain⟨E,h1,h2⟩:=hPk.out;exact⟨E,⟨own_base h1.row hup.out.size,⟨h1.inn.len,fun k e r h h'=>(h1.inn.at_ k e r h h').base hup.out.size⟩,h1.apart⟩,h2⟩
   subst hv;clear hPk;go_wp2_with fail;go_returns;exact⟨_,rfl,hP9.out,hbz.out⟩
def slE1 (s:SlV):List Value:=[s.v]
theorem slE1_len (s:SlV):(slE1 s).length =1:=rfl
theorem slE1_at (s:SlV):(slE1 s)[0]?=some (id s:SlV).v :=rfl
theorem info_tInts:(Tryz.prog.info? 49).map (fun i=>(i.zero,i.size,i.bytes))=some (some (.slice none 0 0),1,24):=by kernel_rfl
def rowsN (M:WorldP) (L:List RunP) (k:Nat):List (List Int):=(List.range M.routes.length).map fun rt=>(natI k).filter fun n=>decide (rtOf M L n=((rt:Nat):Int))
theorem natI_succ (k:Nat):natI (k+1)=natI k++[((k:Nat):Int)]:=by unfold natI;rw [List.range_succ,List.map_append];rfl
theorem rowsN_len {M:WorldP} {L:List RunP} {k:Nat}:(rowsN M L k).length =M.routes.length:=by unfold rowsN;simp
theorem rowsN_get {M:WorldP} {L:List RunP} {k rt:Nat} (h:rt<M.routes.length):(rowsN M L k)[rt]?=some ((natI k).filter fun n=>decide (rtOf M L n=((rt:Nat):Int))):=by unfold rowsN;rw [List.getElem?_map,List.getElem?_range h];rfl
theorem rowsN_step {M:WorldP} {L:List RunP} {k rt:Nat} (h:rtOf M L ((k:Nat):Int)=((rt:Nat):Int)):rowsN M L (k+1)=(rowsN M L k).set rt (((natI k).filter fun n=>decide (rtOf M L n=((rt:Nat):Int)))++[((k:Nat):Int)]):=by
 refine List.ext_getElem? fun j=>?_;rw [List.getElem?_set];rcases Nat.lt_or_ge j M.routes.length with hj|hj
 ·rw [rowsN_get hj,rowsN_get hj,rowsN_len,natI_succ,List.filter_append];by_cases hjr:rt=j
  ·subst hjr;rw [if_pos rfl,if_pos hj,List.filter_cons,if_pos (by simpa using h)];rfl
  ·rw [if_neg hjr,List.filter_cons,if_neg (by simp only [decide_eq_true_eq];omega)];simp
 ·rw [List.getElem?_eq_none (by rw [rowsN_len];exact hj),List.getElem?_eq_none (by rw [rowsN_len];exact hj),rowsN_len];split
  ·rw [if_neg (by omega)]
  ·rfl
def RetSI (base:Nat) (L:List RunP) (v:SlV) (l:List Int) (w:World) (e:Ending) (w':World):Prop:=e= .returned (.tuple #[])∧RowO base w' v (srtR L l)∧w.grownBy w' v.v.ownBlock
def SortOK (m:Nat):Prop:= ∀ (A:Option Addr) (n c:Nat) (L:List RunP) (w0 w:World) (base:Nat) (v:SlV) (l:List Int),RunsK w0 A n L→DepsL L→Below w0.heap.size w0 w→w0.heap.size≤base→RowO base w v l→(∀ x∈l,x∈natI L.length)→l.length≤m→
 Calls Tryz.prog 81 #[v.v,.func (.func 82) #[.slice A n c] #[]] w (RetSI base L v l w)
theorem PRows.new (w:World) (n:Nat) (hn:n≤1099511627776):PRows 49 1 slE1 id w.heap.size (w.alloc (.cells (madeCells #[.slice none 0 0] n) 49)) (.slice (some ⟨w.heap.size,0,none⟩) n n) (List.replicate n (none,0,0)) (List.replicate n []):=by
 refine⟨?_,⟨by simp,fun k e r he hr=>?_⟩,fun i j a c hij ha hc q hqa=>?_⟩
 ·rw [List.length_replicate]
  have hf: ∀ n,(List.replicate n ((none,0,0):SlV)).flatMap slE1=List.replicate n (.slice none 0 0):=by
   intro n
   induction n with
   |zero=>rfl
   |succ n ih=>rw [List.replicate_succ,List.flatMap_cons,ih,List.replicate_succ];rfl
  have hm:(madeCells #[.slice none 0 0] n).toList =List.replicate n (.slice none 0 0):=by
   refine List.ext_getElem? fun i=>?_;unfold madeCells;rw [Array.getElem?_toList,Array.getElem?_map,List.getElem?_replicate];split
   ·rename_i h;rw [Array.getElem?_eq_getElem (by simpa using h)];simp;rw [Nat.mod_one];rfl
   ·rename_i h;rw [Array.getElem?_eq_none (by simpa using h)];rfl
  rw [hf];refine⟨by simp,.inr ⟨w.heap.size,n,_,rfl,Nat.le_refl _,heap_alloc_new w _,Nat.le_refl _,by rw [maxLen_num];omega,?_,?_⟩⟩
  ·rw [←Array.length_toList,hm];simp
  ·rw [hm];simp
 ·rw [List.getElem?_replicate] at he hr;split at he
  ·rename_i h1;rw [if_pos h1] at hr;cases he;cases hr;exact RowO.nil _ _
  ·cases he
 ·rw [List.getElem?_replicate] at ha;split at ha
  ·cases ha;simp [SlV.v,Value.ownBlock] at hqa
  ·cases ha
theorem make_order (n:Nat) (hn:n≤100000) (W:World):(Instr.makeSlice 114 (.int .i64 (n:Int)) (.int .i64 (n:Int))).run Tryz.prog W= .ok (.slice (some ⟨W.heap.size,0,none⟩) n n) (W.alloc (.cells (madeCells #[.slice none 0 0] n) 49)):=by
 obtain⟨i,hi,hz,hs,hb⟩:=info_parts info_tInts;have:=run_make (P:=Tryz.prog) W 114 49 i _ Tryz.underlying114 hi hz .i64 .i64 (n:Int) (n:Int) (by omega) (Int.le_refl _) (by rw [hb];omega) (by omega);rw [hs] at this;simpa [Value.cells] using this
def resP (M:WorldP) (L:List RunP):List PatP:=if errC M L=0 then makeP M L else []
def RetMkP (P:List PatP) (c:Int) (we:World) (e:Ending) (w':World):Prop:= ∃ A cap,e= .returned (.tuple #[.slice A P.length cap,.int .i64 c])∧RPats w' A P.length P∧P.length≤cap∧cap≤9223372036854775807∧Below we.heap.size we w'
theorem paMake_any (mx:Nat) (hso:SortOK mx) (M:WorldP) (V:WV) (A:Option Addr) (n c:Nat) (L:List RunP) (we:World) (hr:RW we M V) (hf:Few M) (hsp:Sp we) (hL:RRuns we A n L) (hn:n≤10000) (hmx:n≤mx):
 Calls Tryz.prog 38 #[wVal M V,.slice A n c] we (RetMkP (resP M L) (errC M L) we):=by
 have hft:=H_ (fun w h1 h2 h3=>pfits_any M V A n c L w h1 hf h2 h3 (by omega));have hrH:=H_ hr;have hsH:=H_ hsp;have hLH:=H_ hL;have hfH:=H_ hf;have hsoH:=H_ hso;have hlen:=H_ hL.len;by_cases he:errC M L=0
 ·have hOK:=H_ (okC_of (M:=M) (L:=L) (by have:=hL.len;omega) he);have hFL:Hid (FitL M L):=⟨hOK.out.fit,goodW_rt hOK.out.good⟩
  have hRK:Hid (RunsK we A n L):=⟨hL,by omega,fun r hr=>by
   have:=hOK.out.fit r hr;have:=tripStops_le hf r.trip;have h1:=(hOK.out.fit r hr).la;have h2:=(hOK.out.fit r hr).ld;omega⟩
  have hDL:Hid (DepsL L):=fun r hr=>by rw [(hOK.out.fit r hr).ld];exact(hOK.out.fit r hr).pos
  have hres:Hid (resP M L=makeP M L):=if_pos he;rw [hres.out,he];rw [he] at hft;have hLR:M.routes.length=V.nR:=hr.rR.len;have hRle:=hf.sR;obtain⟨a0,a1,a2,a3,a4,a5,aP,aD,aR,aT,aH,n0,n1,n2,n3,n4,n5,nP,nD,nR,nT,nH,c0,c1,c2,c3,c4,c5,cP,cD,cR,cT,cH⟩:=V;simp only [wVal] at*;have hLRH:=H_ hLR;rw [hLR] at hRle;obtain⟨w1,b1,hw1,hbE1,hb1,hup,B1,hge1⟩:=enter1 we 31 [.int .i64 M.hz,.slice a0 n0 c0,.slice a1 n1 c1,.slice a2 n2 c2,.slice a3 n3 c3,.slice a4 n4 c4,.slice a5 n5 c5,.slice aP nP cP,.slice aD nD cD,.slice aR nR cR,.slice aT nT cT,.slice aH nH cH];obtain⟨p0,p1,p2,p3,p4,p5,p6,p7,p8,p9,p10,p11⟩:=c_12 B1;have B1H:=H_ B1;have l1:=B1.lt;clear B1 hb1 hr hsp hL hf he hso hLR;go_enter Tryz.func38,Tryz.ntmps38;go_wp2_with fail;refine(hft.out w1 (hrH.out.below hup.out) (hsH.out.below hup.out) (hLH.out.below hup.out)).mono ?_;rintro e w2 ⟨rfl,hb2⟩;have hb2w:=h_ hup hb2
  have y9:=c_ hb2 l1 (B1H.out.cell 9 rfl);have y10:=c_ hb2 l1 (B1H.out.cell 10 rfl);have y10H:=H_ y10;have l1b:=Nat.lt_of_lt_of_le l1 hb2.size;have h12:=H_ hb2;have hPR:=PRows.new w2 nR (by omega);have hmk:=make_order nR hRle w2;have hba:=(Below.refl w2.heap.size w2).alloc (Nat.le_refl _) (.cells (madeCells #[.slice none 0 0] nR) 49);obtain⟨w3,hw3⟩: ∃ q,w2.alloc (.cells (madeCells #[.slice none 0 0] nR) 49)=q:=⟨_,rfl⟩
  rw [hw3] at hPR hmk hba;obtain⟨bo,hbo⟩: ∃ q,w2.heap.size=q:=⟨_,rfl⟩
  obtain⟨N0,hN0⟩: ∃ q,w2.heap.size=q:=⟨_,rfl⟩
  have hboN:N0=bo:=by omega
  rw [hbo] at hmk;clear hb2 p0 p1 p2 p3 p4 p5 p6 p7 p8 p9 p10 p11
  have hPR0:Hid (PRows 49 1 slE1 id bo w3 (.slice (some ⟨bo,0,none⟩) nR nR) (List.replicate nR (none,0,0)) (rowsN M L 0)):=by
   have e:rowsN M L 0=List.replicate nR []:=by
    unfold rowsN natI;rw [hLRH.out];simp [List.map_const']
   rw [hbo] at hPR;show PRows _ _ _ _ _ _ _ _ _;rw [e];exact hPR
  have hb30:Hid (Below bo w2 w3):=by rw [←hbo];exact hba
  have hbo2:=H_ hbo;clear hPR hba;go_wp2_with fail;clear hw1 hbE1 hmk hw3 hbo y9 y10 hN0 hboN;go_loopw [26] (fun iv wr=> ∃ (k:Nat) (E:List SlV),k≤n∧iv= .int .i64 k∧Hid (PRows 49 1 slE1 id bo wr (.slice (some ⟨bo,0,none⟩) nR nR) E (rowsN M L k))∧Hid (Below bo w2 wr)) (fun iv _=>n-(intOf iv).toNat)
  case atStart=>exact⟨0,_,Nat.zero_le _,rfl,hPR0,hb30⟩
  case round=>
   clear hPR0 hb30;obtain⟨k,E,hk,rfl,hPR,hb⟩:=hrel;have hb2r:Hid (Below w2.heap.size w2 wr):=by show Below _ _ _;rw [hbo2.out];exact hb.out
   have hbr:=h_ hb2w hb2r.out;by_cases hin:k<n
   ·have hinI:(k:Int)<(n:Int):=by omega
    have hkn:((k:Nat):Int)∈natI L.length:=natI_mem.2 (by have:=hlen.out;omega);obtain⟨q,rr,ht0,hq,hqr,hr0,hr1,hrr,_⟩:=hFL.out.route hkn;obtain⟨kt,hkt⟩:=Int.eq_ofNat_of_zero_le ht0;obtain⟨jr,hjr⟩:=Int.eq_ofNat_of_zero_le hr0;rw [hkt,Int.toNat_natCast] at hq;have hjl:jr<M.routes.length:=by rw [hjr] at hr1;omega
    have hjR:jr<nR:=by rw [←hLRH.out];exact hjl
    have hkT:kt<nT:=by have h1:M.trips.length=nT:=hrH.out.rT.len;have:=(List.getElem?_eq_some_iff.1 hq).1;omega
    obtain⟨bT,oT,q',rfl,hbT,hq',hcT⟩:=(hrH.out.rT.below hbr.out).get hkT;obtain rfl:q=q':=Option.some.inj (hq.symm.trans hq');have z0:=hcT 0 _ rfl;rw [Nat.add_zero,hjr] at z0;obtain⟨b,o,r,A1,n1,d1,A2,n2,d2,rfl,hbs,hx,g0,g1,g2,g3,_,_,_,_⟩:=(hLH.out.below hbr.out).get hin;obtain rfl:runAt L k=r:=Option.some.inj ((runAt_nat (by have:=hlen.out;omega)).symm.trans hx);obtain⟨no,hno⟩: ∃ q,(runAt L ((k:Nat):Int)).no =q:=⟨_,rfl⟩
    rw [hkt] at g0;rw [hno] at g1;have hrt:Hid (rtOf M L ((k:Nat):Int)=((jr:Nat):Int)):=by show _=_;rw [←hqr,hjr]
    have hst:=H_ (rowsN_step (M:=M) (L:=L) (k:=k) hrt.out);have hrow:=H_ (rowsN_get (M:=M) (L:=L) (k:=k) hjl);have hrl:((natI k).filter fun n=>decide (rtOf M L n=((jr:Nat):Int))).length ≤k:=Nat.le_trans (List.length_filter_le _ _) (by simp [natI]);obtain⟨row,hrow1⟩: ∃ q,((natI k).filter fun n=>decide (rtOf M L n=((jr:Nat):Int)))=q:=⟨_,rfl⟩
    rw [hrow1] at hst hrow hrl;have hkTI:(kt:Int)<(nT:Int):=by omega
    have hjRI:(jr:Int)<(nR:Int):=by omega
    have y10:=c_ hb2r.out l1b y10H.out;clear hq hq' hqr hr0 hr1 hrr ht0 hkt hjr hcT hx hno hrow1 hrt hkn;obtain⟨wa,ba,hwa,hbaE,hbwa,Bwa⟩:=box1 wr 47 [.int .i64 kt,.int .i64 no,.slice A1 n1 d1,.slice A2 n2 d2];have q0:=Bwa.cell 0 rfl;have hz:=c_ hbwa hbT z0;have hy:=c_ hbwa (Nat.lt_of_lt_of_le l1b hb2r.out.size) y10;have hPRa:=H_ (hPR.out.below hbwa);obtain⟨e,hE⟩: ∃ e,E[jr]?=some e:=⟨_,List.getElem?_eq_getElem (by rw [hPR.out.len,rowsN_len];exact hjl)⟩
    have hba2:Hid (Below bo w2 wa):=hb.out.trans (hbwa.mono (by rw [←hbo2.out];exact hb.out.size));have hbw:bo≤wa.heap.size:=by rw [←hbo2.out];exact hba2.out.size
    obtain⟨g',c',w8,hrun,hcg8,hfz8,hb8,hP8⟩:=hPRa.out.push (f:=0) (by decide) slE1_len slE1_at hE hrow.out (k:Int) (by omega) hbw;have hcg:=hPRa.out.cellAt slE1_len hE (slE1_at e);have hP9:=hP8 (some ⟨g',0,none⟩,row.length+1,c') rfl rfl;simp only [Nat.mul_one,Nat.add_zero,id] at hcg hcg8 hfz8 hb8 hP9 hrun;obtain⟨w9,hw9⟩: ∃ q,w8.setCell ⟨bo,jr,none⟩ (.slice (some ⟨g',0,none⟩) (row.length+1) c')=q:=⟨_,rfl⟩
    rw [hw9] at hb8 hP9;have hb9H:=H_ (hba2.out.trans hb8);rw [←hst.out] at hP9;have hP9H:=H_ hP9;obtain⟨nr,hnr⟩: ∃ q,row.length=q:=⟨_,rfl⟩
    rw [hnr] at hrun hw9 hrl;obtain⟨v,hv⟩: ∃ v,e.v=v:=⟨_,rfl⟩
    rw [hv] at hcg hcg8 hrun;have hrun:(Builtin.append_ #[49,49] 49 #[v,.slice (some ⟨wa.heap.size,0,none⟩) 1 1]).run Tryz.prog (wa.alloc (.cells #[.int .i64 (k:Int)] 3))= .ok (.slice (some ⟨g',0,none⟩) (nr+1) c') w8:=hrun;clear hP8 hP9 hb8 hnr hv hE hPR hPRa Bwa hbwa hba2 hb hb2r hbr z0 y10 hst hrow;go_wp2_with (at_builtin;refine wpList_append_run ?a1 (.tmp 43) (.tmp 45) 49 ?a2 ?a3 ?a4 hrun ?_)
    all_goals try rfl
    go_roundw
    case rel=>exact⟨k+1,_,by omega,by go_num,hP9H,hb9H⟩
    case measure=>simp [intOf];omega
   ·obtain rfl:n=k:=by omega
    obtain⟨wo,rfl⟩: ∃ wo:World,wo=wr:=⟨_,rfl⟩
    have hrows:Hid (∀ (i:Nat) e,E[i]?=some e→RowO bo wo e (places M L ((i:Nat):Int))):=fun i e he=>by
     have hi:i<M.routes.length:=by have:=(List.getElem?_eq_some_iff.1 he).1;have h2:=hPR.out.len;rw [rowsN_len] at h2;omega
     have:=hPR.out.inn.at_ i e _ he (rowsN_get hi);rw [←hlen.out] at this;exact this
    obtain⟨N,hN⟩: ∃ N,wo.heap.size=N:=⟨_,rfl⟩
    have hblk:Hid (∀ (i:Nat) (e:SlV),E[i]?=some e→ ∀ q,e.v.ownBlock=some q→q<N):=fun i e he q hq=>by rw [←hN];exact((hrows.out i e he).lt q hq).2
    have hap:Hid (∀ (i j:Nat) (a c:SlV),i≠j→E[i]?=some a→E[j]?=some c→ ∀ q,a.v.ownBlock=some q→c.v.ownBlock≠some q):=hPR.out.apart;have hEl:E.length=nR:=by rw [hPR.out.len,rowsN_len,hLRH.out]
    have hout:Hid (wo.ownsRow bo 49 1 (.slice (some ⟨bo,0,none⟩) nR nR) nR (E.flatMap slE1)):=by have:=hPR.out.row;rw [hEl] at this;exact this
    have hboN:bo<N:=by rw [←hN];exact(hout.out.lt bo rfl).2
    have hbow:Hid (we.heap.size≤bo):=by show _≤_;rw [←hbo2.out];exact hb2w.out.size
    have hNr:Hid (N≤wo.heap.size):=Nat.le_of_eq hN.symm;have hrow0:Hid (∀ (i:Nat) e,0≤i→E[i]?=some e→RowO bo wo e (places M L ((i:Nat):Int))):=fun i e _ he=>hrows.out i e he;have hbH:=hb;have hEl:=H_ hEl;clear hPR hN hrows hb hb2r hbr;go_wp2_with fail;go_loopw [51,11] (fun iv v wr=> ∃ j:Nat,j≤nR∧iv= .int .i64 j∧Hid (PatsM N wr v ((List.range j).flatMap (makeAt M L)))∧Hid (∀ (i:Nat) e,j≤i→E[i]?=some e→RowO bo wr e (places M L ((i:Nat):Int)))∧Hid (wr.ownsRow bo 49 1 (.slice (some ⟨bo,0,none⟩) nR nR) nR (E.flatMap slE1))∧Hid (Below bo w2 wr)∧Hid (N≤wr.heap.size)) (fun iv _ _=>nR-(intOf iv).toNat)
    case atStart=>exact⟨0,Nat.zero_le _,rfl,PatsM.nil,hrow0,hout,hbH,hNr⟩
    case round=>
     clear hrow0 hout hbH hNr;obtain⟨j,hj,rfl,hPM,hrw,hout,hb,hNx⟩:=hrel;have hb2r:Hid (Below w2.heap.size w2 wr):=by show Below _ _ _;rw [hbo2.out];exact hb.out
     have hbr:=h_ hb2w hb2r.out;by_cases hjn:j<nR
     ·have hjI:(j:Int)<(nR:Int):=by omega
      obtain⟨e,hE⟩: ∃ e,E[j]?=some e:=⟨_,List.getElem?_eq_getElem (by rw [hEl.out];exact hjn)⟩
      have hfm:(E.flatMap slE1)[j]?=some e.v:=by
       have h9:=flatMap_at slE1_len E j e hE 0 _ (slE1_at e);rw [Nat.mul_one,Nat.add_zero] at h9;exact h9
      have hcg:=(hout.out.cellAt j (by omega)).trans hfm;clear hfm
      have hnmx:Hid ((natI L.length).length ≤mx):=by
       have h9:=hlen.out;have h8:(natI L.length).length =L.length:=by simp [natI]
       show _≤_;omega
      have hso1:=H_ (hsoH.out A n c L we wr bo e _ hRK.out hDL.out hbr.out hbow.out (hrw.out j e (Nat.le_refl _) hE) places_in (Nat.le_trans (List.length_filter_le _ _) hnmx.out));have hEH:=H_ hE;obtain⟨v,hv⟩: ∃ v,e.v=v:=⟨_,rfl⟩
      rw [hv] at hcg hso1;have hvH:=H_ hv;obtain⟨e1,e2,e3⟩:=e;have hvs:v= .slice e1 e2 e3:=hv.symm;subst hvs;clear hE hv;go_wp2_with fail;refine hso1.out.mono ?_;rintro e w5 ⟨rfl,hs5,hg5⟩;have hrj:=H_ (hrw.out j _ (Nat.le_refl _) hEH.out);have hPM5:=H_ (hPM.out.high (w':=w5) fun k hNk hk=>hg5.block k hk fun h0=>by have:=hblk.out j _ hEH.out k h0.symm;omega)
      have hrw5:Hid (∀ (i:Nat) e',j+1≤i→E[i]?=some e'→RowO bo w5 e' (places M L ((i:Nat):Int))):=fun i e' hi he'=>by
       refine World.ownsRow.kept (hrw.out i e' (by omega) he') hg5 ?_
       cases hq:(e':SlV).v.ownBlock with
       |none=>exact .inl rfl
       |some q=>exact .inr fun h0=>hap.out i j e' _ (by omega) he' hEH.out q hq h0.symm
      have hout5:=H_ (hout.out.kept hg5 (.inr fun h0=>own_ne hrj.out hout.out (by decide) (k:=bo) rfl h0));have hb5:=H_ (hb.out.grown hg5 (by rw [←hbo2.out];exact hb.out.size) (fun k hk=>(hrj.out.lt k hk).1));have hN5:=Nat.le_trans hNx.out hg5.size;have hwe5:=H_ (hb2w.out.trans (Below.mono (by rw [hbo2.out];exact hb5.out:Below w2.heap.size w2 w5) hb2w.out.size));obtain⟨A',c',hE5,r5,_,_⟩:=hs5.rd;obtain⟨rfl,rfl,rfl⟩:e1=A'∧e2=(srtR L (places M L ((j:Nat):Int))).length ∧e3=c':=by simpa using hE5
      obtain⟨m5,hm5⟩: ∃ q,(srtR L (places M L ((j:Nat):Int))).length =q:=⟨_,rfl⟩
      have hm5b:m5≤10000:=by
       rw [←hm5,srtR_len];refine Nat.le_trans (List.length_filter_le _ _) ?_;have:=hlen.out;simp [natI];omega
      rw [hm5] at r5;simp only [hm5];have hof:=H_ (pof_any A n c L w5 (hRK.out.below hwe5.out) (j:Int) e1 m5 e3 _ r5 (by omega) (fun x hx=>places_in x ((srtR_perm _).mem_iff.1 hx)));have hpre:=H_ (pre_len hFL.out (j:=j+1) (by rw [hLRH.out];exact hjn));rw [pre_succ,List.length_append] at hpre;change Hid (Calls _ _ _ _ (RetPO w5.heap.size (makeAt M L j) w5)) at hof;clear hs5 hg5 hrj hso1 hPM hrw hout hb hNx hb2r hbr r5 hm5 hE5 hcg;go_wp2_with fail;refine hof.out.mono ?_;rintro e w6 ⟨v6,rfl,hP6,hb6⟩;obtain⟨A6,c6,rfl,_⟩:=hP6.m.pats;obtain⟨v7,w7,hrun,hP7,hb7,_⟩:=(hPM5.out.below hb6).append (hP6.m.low hN5) (by have:=hpre.out;have:=hlen.out;omega) (Nat.le_trans hN5 hb6.size);rw [←pre_succ] at hP7;have hP7H:=H_ hP7
      have hrw7:Hid (∀ (i:Nat) e',j+1≤i→E[i]?=some e'→RowO bo w7 e' (places M L ((i:Nat):Int))):=fun i e' hi he'=>own_keep ((hrw5.out i e' hi he').up hb6) fun k hk=>hb7.block k (hblk.out i e' he' k hk);have hout7:=H_ (own_keep (own_below hout5.out hb6) (w':=w7) fun k hk=>hb7.block k (by cases hk;exact hboN));have hb7H:=H_ (hb5.out.trans ((hb6.mono (by rw [←hbo2.out];exact hb5.out.size)).trans (hb7.mono (Nat.le_of_lt hboN))));have hN7:Hid (N≤w7.heap.size):=Nat.le_trans hN5 (Nat.le_trans hb6.size hb7.size);obtain⟨m6,hm6⟩: ∃ q,(makeAt M L j).length =q:=⟨_,rfl⟩
      rw [hm6] at hrun;simp only [hm6];clear hP6 hb6 hP7 hb7 hof hm6 hPM5 hrw5 hout5 hb5;go_wp2_with (at_builtin;refine wpList_append_run ?b1 (.tmp 60) (.tmp 64) 63 ?b2 ?b3 ?b4 hrun ?_)
      all_goals try rfl
      go_roundw
      case rel=>exact⟨j+1,by omega,by go_num,hP7H,hrw7,hout7,hb7H,hN7⟩
      case measure=>simp [intOf];omega
     ·obtain rfl:nR=j:=by omega
      have hPk:PatsM N wr u11 (makeP M L):=by unfold makeP;rw [hLRH.out];exact hPM.out
      obtain⟨Av,cv,rfl,rP,q1,q2⟩:=hPk.pats;have rPH:=H_ rP;have q1H:=H_ q1;have q2H:=H_ q2;clear hPk hPM hrw hout hb hb2r rP q1 q2;go_wp2_with fail;go_returns;exact⟨Av,cv,rfl,rPH.out,q1H.out,q2H.out,hbr.out⟩
 ·have hres:Hid (resP M L=[]):=if_neg he;rw [hres.out];obtain⟨q,hq⟩: ∃ q,errC M L=q:=⟨_,rfl⟩
  rw [hq] at hft he ⊢;have hq0:(q !=0)=true:=by simpa using he
  obtain⟨a0,a1,a2,a3,a4,a5,aP,aD,aR,aT,aH,n0,n1,n2,n3,n4,n5,nP,nD,nR,nT,nH,c0,c1,c2,c3,c4,c5,cP,cD,cR,cT,cH⟩:=V;simp only [wVal] at*;obtain⟨w1,b1,hw1,hbE1,hb1,hup,B1,hge1⟩:=enter1 we 31 [.int .i64 M.hz,.slice a0 n0 c0,.slice a1 n1 c1,.slice a2 n2 c2,.slice a3 n3 c3,.slice a4 n4 c4,.slice a5 n5 c5,.slice aP nP cP,.slice aD nD cD,.slice aR nR cR,.slice aT nT cT,.slice aH nH cH];obtain⟨p0,p1,p2,p3,p4,p5,p6,p7,p8,p9,p10,p11⟩:=c_12 B1;clear B1 hb1 hr hsp hL hf hso he hq;go_enter Tryz.func38,Tryz.ntmps38;go_wp2_with fail;refine(hft.out w1 (hrH.out.below hup.out) (hsH.out.below hup.out) (hLH.out.below hup.out)).mono ?_;rintro e w2 ⟨rfl,hb2⟩;have hb2w:=h_ hup hb2;clear hb2;go_wp2_with fail;clear hw1 hbE1;go_returns;exact⟨none,0,rfl,RPats.nil,Nat.le_refl _,by omega,hb2w.out⟩
