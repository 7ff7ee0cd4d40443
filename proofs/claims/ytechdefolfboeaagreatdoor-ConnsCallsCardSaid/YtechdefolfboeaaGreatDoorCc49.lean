/- Texts of one chain, merged. -/
import Derived.Laws.CopyRow
import Derived.Test.YtechdefolfboeaaGreatDoorCc1
import Derived.Test.YtechdefolfboeaaGreatDoorCc4
import Derived.Test.YtechdefolfboeaaGreatDoorCc46
import Derived.Test.YtechdefolfboeaaGreatDoorCc48
set_option linter.unusedVariables false
set_option linter.unusedSimpArgs false
set_option maxRecDepth 100000
set_option maxHeartbeats 8000000
namespace Go.Proofs.YtechdefolfboeaaGreatDoor
namespace B
open Go.RowKit
theorem run_copy_rowS {P:Program} (w:World) (dT sT ty elem:TypeId) (g o dLen dCap:Nat) (a:Addr) (sLen sCap m s:Nat) (cur:Array Value) (t:TypeId) (cs:List Value)
 (hu:P.underlying dT=some (.slice elem)) (hs:(P.info? elem).map (·.size)=some s)
 (hg:w.heap[g]?=some (.cells cur t (0,0))) (hm:m=Nat.min sLen dLen) (hn:cs.length=m*s)
 (hsrc: ∀ j v,cs[j]?=some v→w.cell? (a.add j)=some v) (hfit:o+cs.length≤cur.size) (h1: ∀ v∈cs,v.oneCell'=true):
 (Builtin.copy_ #[dT,sT] ty #[.slice (some ⟨g,o,none⟩) dLen dCap,.slice (some a) sLen sCap]).run P w=
   .ok (goInt m) (w.setRow g (cur.toList.take o++cs++cur.toList.drop (o+cs.length)).toArray):=by
 have hl:=run_loadCells_list (P:=P) w a cs hsrc
 have hst:=run_storeCells_at P g o t cs 0 cur w hg (by simpa using hfit) h1
 rw [hn] at hl
 cases hq:P.info? elem with
 |none=>simp [hq] at hs
 |some i=>
  have hi:i.size=s:=by simpa [hq] using hs
  simp [Builtin.copy_,run_underlying hu,Builtin.lenOf,Builtin.firstCells,sizeOf,typeInfo,hq,hi,←hm,hl,hst]
theorem run_copy_zero {P:Program} (w:World) (dT sT ty elem:TypeId) (d a:Option Addr) (dCap sLen sCap s:Nat) (hu:P.underlying dT=some (.slice elem)) (hs:(P.info? elem).map (·.size)=some s):
 (Builtin.copy_ #[dT,sT] ty #[.slice d 0 dCap,.slice a sLen sCap]).run P w= .ok (goInt 0) w:=by
 cases hq:P.info? elem with
 |none=>simp [hq] at hs
 |some i=>
  have hl: ∀ (x:Addr),(loadCells x 0).run P w= .ok #[] w:=fun x=>by simpa using run_loadCells_list (P:=P) w x [] (by simp)
  have h0:Nat.min sLen 0=0:=Nat.min_zero _
  cases d<;>cases a<;>simp [Builtin.copy_,run_underlying hu,Builtin.lenOf,Builtin.firstCells,sizeOf,typeInfo,hq,h0,storeCells,hl]
theorem flatMap_take {α:Type} {enc:α→List Value} {size:Nat} (hs: ∀ x,(enc x).length =size): ∀ (l:List α) (k:Nat),(l.flatMap enc).take (k*size)=(l.take k).flatMap enc
 |[],k=>by simp
 |x::l,0=>by simp
 |x::l,k+1=>by
  rw [List.flatMap_cons,List.take_succ_cons,List.flatMap_cons,←flatMap_take hs l k,Nat.succ_mul,Nat.add_comm (k*size),←hs x,List.take_length_add_append]
theorem own_shift {α:Type} {P:Program} {enc:α→List Value} {t e:TypeId} {size:Nat} (ht:P.underlying t=some (.slice e)) (hs:(P.info? e).map (·.size)=some size) (hsz:0<size) (hes: ∀ x,(enc x).length =size) (h1: ∀ x, ∀ u∈enc x,u.oneCell'=true)
 {base:Nat} {w:World} {g n c k:Nat} {l:List α} {z:α} (hl:l.length=n) (own:w.ownsRow base e size (.slice (some ⟨g,0,none⟩) (n+1) c) (n+1) ((l++[z]).flatMap enc)) (hk:k≤n) (ty:TypeId):
 ∃ (w1:World) (l':List α),(Builtin.copy_ #[t,t] ty #[.slice (cutA (some ⟨g,0,none⟩) c (k+1) size) (n+1-(k+1)) (c-(k+1)),.slice (cutA (some ⟨g,0,none⟩) c k size) (n+1-k) (c-k)]).run P w= .ok (goInt (n-k:Nat)) w1∧
   l'.length=n+1∧(∀ x,l'.set k x=l.take k++x::l.drop k)∧w1.ownsRow base e size (.slice (some ⟨g,0,none⟩) (n+1) c) (n+1) (l'.flatMap enc)∧But w w1 [g]:=by
 have hown:=own
 obtain⟨hlen,h2⟩:=own
 rcases h2 with⟨h0,_⟩|⟨g',cap,cur,heq,hb,hh,hn,hc,hcs,htk⟩
 ·cases h0
 ·cases heq
  rcases Nat.lt_or_ge k n with hkn|hkn
  ·have e1:cutA (some ⟨g,0,none⟩) c (k+1) size=some ⟨g,(k+1)*size,none⟩:=by unfold cutA;rw [if_neg (by omega)];simp [Addr.add];exact fun h=>h.symm
   have e2:cutA (some ⟨g,0,none⟩) c k size=some ⟨g,k*size,none⟩:=by unfold cutA;rw [if_neg (by omega)];simp [Addr.add];exact fun h=>h.symm
   have hfl:((l.drop k).flatMap enc).length =(n-k)*size:=by rw [flatMap_len hes,List.length_drop,hl]
   have hbig:(k+1)*size+(n-k)*size=(n+1)*size:=by rw [←Nat.add_mul];congr 1;omega
   have hcap:(n+1)*size≤cur.size:=by rw [hcs];exact Nat.mul_le_mul hn (Nat.le_refl _)
   have hrun:=run_copy_rowS (P:=P) w t t ty e g ((k+1)*size) (n+1-(k+1)) (c-(k+1)) ⟨g,k*size,none⟩ (n+1-k) (c-k) (n-k) size cur e ((l.drop k).flatMap enc) ht hs hh
    (by show n-k=min (n+1-k) (n+1-(k+1));omega) hfl (fun j v hj=>by
      have hjl:=(List.getElem?_eq_some_iff.1 hj).1
      rw [hfl] at hjl
      have e3:(⟨g,k*size,none⟩:Addr).add j=⟨g,k*size+j,none⟩:=by simp [Addr.add]
      rw [e3,cell_of_row _ _ _ _ _ _ hh]
      have h5:((l++[z]).flatMap enc)[k*size+j]?=some v:=by
       rw [List.flatMap_append,List.getElem?_append_left (by rw [flatMap_len hes,hl];have:(k*size)+(n-k)*size=n*size:=by rw [←Nat.add_mul];congr 1;omega
                                                             omega)]
       have h6:l=l.take k++l.drop k:=(List.take_append_drop k l).symm
       rw [h6,List.flatMap_append,List.getElem?_append_right (by rw [flatMap_len hes,List.length_take,hl,Nat.min_eq_left (by omega)];omega),flatMap_len hes,List.length_take,hl,Nat.min_eq_left (by omega),Nat.add_sub_cancel_left]
       exact hj
      rw [←htk,List.getElem?_take] at h5
      split at h5
      ·simpa using h5
      ·cases h5) (by rw [hfl,hbig];exact hcap) (fun v hv=>by obtain⟨x,_,hx⟩:=List.mem_flatMap.1 hv;exact h1 x v hx)
   refine⟨_,l.take (k+1)++l.drop k,by rw [e1,e2];exact hrun,by rw [List.length_append,List.length_take,List.length_drop,hl,Nat.min_eq_left (by omega)];omega,fun x=>?_,⟨?_,.inr ⟨g,c,_,rfl,hb,setRow_heap w g _ _ e _ hh,hn,hc,?_,?_⟩⟩,⟨rfl,rfl,rfl,by simp,fun i hi hx=>setRow_other w g i _ (fun e=>hx (by simp [e]))⟩⟩
   ·have h9:(l.take (k+1)).set k x=l.take k++[x]:=by
     rw [List.take_succ_eq_append_getElem (by omega),List.set_append_right _ _ (by rw [List.length_take];omega)]
     simp [List.length_take,hl,Nat.min_eq_left (show k≤n by omega)]
    rw [List.set_append_left _ _ (by rw [List.length_take,hl];omega),h9]
    simp
   ·rw [flatMap_len hes,List.length_append,List.length_take,List.length_drop,hl,Nat.min_eq_left (by omega)];congr 1;omega
   ·rw [hfl,hbig,List.size_toArray,List.length_append,List.length_append,List.length_take,List.length_drop,hfl,Array.length_toList]
    rw [Nat.min_eq_left (by omega)]
    omega
   ·rw [hfl,hbig]
    simp only [List.toList_toArray]
    have h7:(cur.toList.take ((k+1)*size))=(l.take (k+1)).flatMap enc:=by
     have:cur.toList.take ((k+1)*size)=(cur.toList.take ((n+1)*size)).take ((k+1)*size):=by rw [List.take_take,Nat.min_eq_left (by omega)]
     rw [this,htk,flatMap_take hes,List.take_append_of_le_length (by omega)]
    have h8:(cur.toList.take ((k+1)*size)++(l.drop k).flatMap enc).length =(n+1)*size:=by
     rw [List.length_append,hfl,List.length_take,Array.length_toList,Nat.min_eq_left (by omega),hbig]
    rw [List.take_append_of_le_length (by omega),List.take_of_length_le (by omega),h7,←List.flatMap_append]
  ·obtain rfl:k=n:=by omega
   refine⟨w,l++[z],?_,by simp [hl],fun x=>?_,hown,But.refl _ _⟩
   ·rw [Nat.sub_self,Nat.sub_self]
    exact run_copy_zero w t t ty e _ _ _ _ _ size ht hs
   ·rw [List.set_append_right _ _ (by omega),hl,Nat.sub_self,List.take_of_length_le (by omega),List.drop_eq_nil_of_le (by omega)];rfl
def insAt {α:Type} (l:List α) (k:Nat) (x:α):List α:=l.take k++x::l.drop k
end B
end Go.Proofs.YtechdefolfboeaaGreatDoor
namespace Go.Proofs.YtechdefolfboeaaGreatDoor
open Go.RowKit B K
theorem insAt_perm {α:Type} (l:List α) (k:Nat) (x:α):(insAt l k x).Perm (l++[x]):=by
 unfold insAt
 refine List.perm_middle.trans ?_
 rw [List.take_append_drop]
 exact(List.perm_append_singleton x l).symm
theorem insAt_len {α:Type} (l:List α) (k:Nat) (x:α):(insAt l k x).length =l.length+1:=by rw [(insAt_perm l k x).length_eq];simp
theorem insC_sorted {S:List ConnP} {k:Nat} {c:ConnP} (hs:S.Pairwise fun a b=>ltC b a=false) (hk:k≤S.length) (hge: ∀ (j:Nat) x,k≤j→S[j]?=some x→ltC c x=true) (hlt: ∀ x,0<k→S[k-1]?=some x→ltC c x=false):(insAt S k c).Pairwise fun a b=>ltC b a=false:=by
 unfold insAt
 have h0:(S.take k++S.drop k).Pairwise fun a b=>ltC b a=false:=by rw [List.take_append_drop];exact hs
 obtain⟨p1,p2,p3⟩:=List.pairwise_append.1 h0
 refine List.pairwise_append.2 ⟨p1,List.pairwise_cons.2 ⟨fun b hb=>?_,p2⟩,fun a ha b hb=>?_⟩
 ·obtain⟨j,hj⟩:=List.getElem?_of_mem hb
  rw [List.getElem?_drop] at hj
  exact ltC_asy (hge _ b (by omega) hj)
 ·rcases List.mem_cons.1 hb with rfl|hb
  ·obtain⟨j,hj⟩:=List.getElem?_of_mem ha
   rw [List.getElem?_take] at hj
   split at hj
   ·rename_i hjk
    obtain⟨y,hy⟩: ∃ y,S[k-1]?=some y:=⟨_,List.getElem?_eq_getElem (by omega)⟩
    have h1:=hlt y (by omega) hy
    by_cases hjk1:j=k-1
    ·subst hjk1;rw [hj] at hy;cases hy;exact h1
    ·obtain⟨q1,e1⟩:=List.getElem?_eq_some_iff.1 hj
     obtain⟨q2,e2⟩:=List.getElem?_eq_some_iff.1 hy
     have h2:=List.pairwise_iff_getElem.1 hs j (k-1) q1 q2 (by omega)
     rw [e1,e2] at h2
     exact ltC_ntr h1 h2
   ·cases hj
  ·exact p3 a ha b hb
def lessAt (S:List ConnP) (c:ConnP) (k:Nat):Bool:=match S[k-1]? with
 |some x=>ltC c x
 |none=>false
theorem rmakeC_any (M:WorldP) (V:WV) (A:Option Addr) (n c:Nat) (L:List RunP) (we:World) (hr:RW we M V) (hf:Few M) (hL:RRuns we A n L) (hn:n≤100000):
 Calls Tryz.prog 29 #[wVal M V,.slice A n c] we (RetMk2 (resC M L) (errC M L) we):=by
 have hall:=Lib.hid (fun w h1 h2=>rall_any M V A n c L w h1 hf h2 hn)
 obtain⟨a0,a1,a2,a3,a4,a5,aP,aD,aR,aT,aH,n0,n1,n2,n3,n4,n5,nP,nD,nR,nT,nH,c0,c1,c2,c3,c4,c5,cP,cD,cR,cT,cH⟩:=V
 have hrH:=Lib.hid hr
 have hLH:=Lib.hid hL
 have hLn:=Lib.hid hL.len
 simp only [wVal] at*
 obtain⟨w1,b1,hw1,hbE1,hb1,hup,B1,hge1⟩:=enter1 we 31 [.int .i64 M.hz,.slice a0 n0 c0,.slice a1 n1 c1,.slice a2 n2 c2,.slice a3 n3 c3,.slice a4 n4 c4,.slice a5 n5 c5,.slice aP nP cP,.slice aD nD cD,.slice aR nR cR,.slice aT nT cT,.slice aH nH cH]
 obtain⟨p0,p1,p2,p3,p4,p5,p6,p7,p8,p9,p10,p11⟩:=c_12 B1
 have B1H:=Lib.hid B1
 obtain⟨R,hR⟩: ∃ R,resC M L=R:=⟨_,rfl⟩
 obtain⟨ec,hec⟩: ∃ q,errC M L=q:=⟨_,rfl⟩
 rw [hec] at hall
 rw [hR,hec]
 have hRH:=Lib.hid hR
 have hecH:=Lib.hid hec
 clear B1 hb1 hr hL hR hec
 go_enter Tryz.func29,Tryz.ntmps29
 go_wp2_with fail
 refine(hall.out w1 (hrH.out.below hup.out) (hLH.out.below hup.out)).mono ?_;rintro e w2 ⟨rfl,hb2⟩
 have h2:=h_ hup hb2
 have B12:=Lib.hid (B1H.out.below hb2)
 clear hall hb2 B1H p0 p1 p2 p3 p4 p5 p6 p7 p8 p9 p10 p11
 by_cases he:ec=0
 ·subst he
  have he:=hecH.out
  have hok:=Lib.hid (okC_of (M:=M) (L:=L) (fun h=>by rw [errC_long h] at he;cases he) he)
  have hres:=Lib.hid (hRH.out.symm.trans (resC_ok (M:=M) (L:=L) he))
  clear he hecH hRH
  have own0:Hid (w2.ownsRow w2.heap.size 42 6 (.slice none 0 0) ([]:List ConnP).length (([]:List ConnP).flatMap connE)):=World.ownsRow_nil _ _ _ _
  have hp0:Hid (([]:List ConnP).Perm ((List.range 0).flatMap (ridesAt M L))):=List.Perm.nil
  have hs0:Hid (([]:List ConnP).Pairwise fun a b=>ltC b a=false):=List.Pairwise.nil
  have l1:=B12.out.lt
  have hLw:=Lib.hid (hLH.out.below h2.out)
  have hrw:=Lib.hid (hrH.out.below h2.out)
  go_wp2_with fail
  clear hw1 hbE1
  have hb0:Hid (Below w2.heap.size w2 w2):=Below.refl _ _
  go_loopw [7,8] (fun v iv wr=> ∃ (i:Nat) (S:List ConnP),i≤n∧iv= .int .i64 i∧Hid (wr.ownsRow w2.heap.size 42 6 v S.length (S.flatMap connE))∧Hid (S.Perm ((List.range i).flatMap (ridesAt M L)))∧Hid (S.Pairwise fun a b=>ltC b a=false)∧Hid (Below w2.heap.size w2 wr)) (fun _ iv _=>n-(intOf iv).toNat)
  case atStart=>exact⟨0,[],Nat.zero_le _,rfl,own0,hp0,hs0,hb0⟩
  case round=>
   clear own0 hp0 hs0 hb0
   obtain⟨i,S,hi,rfl,own,hp,hs,hb⟩:=hrel
   by_cases hin:i<n
   ·have hinI:(i:Int)<(n:Int):=by omega
    obtain⟨b,o,r,A1,n1,d1,A2,n2,d2,rfl,hbs,hx,g0,g1,g2,g3,r1,r2,_,_⟩:=hLw.out.get hin
    have hft:=Lib.hid (hok.out.fit r (List.mem_of_getElem? hx))
    obtain⟨ms,hms⟩: ∃ ms,(tripStops M r.trip).length =ms+1:=⟨(tripStops M r.trip).length -1,by have:=hft.out.pos;omega⟩
    have hmb:ms≤32:=by have:=tripStops_len hok.out.good r.trip;omega
    have e1:n1=ms+1:=by rw [←r1.len,hft.out.la,hms]
    have e2:n2=ms+1:=by rw [←r2.len,hft.out.ld,hms]
    subst e1 e2
    obtain⟨kt,q,rt,ekt,hq,hrt,ets⟩:=tripStops_get (M:=M) (t:=r.trip) (by omega)
    obtain⟨jr,ejr⟩:=Int.eq_ofNat_of_zero_le (hok.out.good.trips q (List.mem_of_getElem? hq)).1.1
    rw [ejr,Int.toNat_natCast] at hrt
    have hkT:kt<nT:=by have h1:M.trips.length=nT:=hrw.out.rT.len;have:=(List.getElem?_eq_some_iff.1 hq).1;omega
    have hjR:jr<nR:=by have h1:M.routes.length=nR:=hrw.out.rR.len;have:=(List.getElem?_eq_some_iff.1 hrt).1;omega
    obtain⟨bT,oT,q',rfl,hbT,hq',hcT⟩:=hrw.out.rT.get hkT
    obtain rfl:q=q':=Option.some.inj (hq.symm.trans hq')
    obtain⟨bR,oR,rfl,hbR,⟨sS,nS,dS,s0,rS,_⟩,_⟩:=hrw.out.rR.at_ jr rt hrt
    have eS:nS=ms+1:=by rw [←rS.len,←ets,hms]
    subst eS
    have z0:=hcT 0 _ rfl
    rw [ejr,Nat.add_zero] at z0
    rw [ekt] at g0
    have hkTI:(kt:Int)<(nT:Int):=by omega
    have hjRI:(jr:Int)<(nR:Int):=by omega
    have g2H:=Lib.hid g2
    have g3H:=Lib.hid g3
    have r1H:=Lib.hid r1
    have r2H:=Lib.hid r2
    have rSH:Hid (Rd w2 1 (numE .i64) sS (ms+1) (tripStops M r.trip)):=by show Rd _ _ _ _ _ _;rw [ets];exact rS
    have hcb:S.length≤32*100000:=by have:=hp.out.length_eq;have h9:cntL M L i≤32*i:=cntL_le hok.out.good i;unfold cntL at h9;omega
    have hpr:Hid ((List.range (i+1)).flatMap (ridesAt M L)=(List.range i).flatMap (ridesAt M L)++ridesOf (tripStops M r.trip) r.arr r.dep i):=by show _=_;rw [List.range_succ,List.flatMap_append];simp [ridesAt_eq hx]
    have hrl:Hid (ms=(ridesOf (tripStops M r.trip) r.arr r.dep i).length):=by show _=_;rw [ridesOf_len,hms];omega
    have x9:=c_ hb.out l1 (B12.out.cell 9 rfl)
    have x10:=c_ hb.out l1 (B12.out.cell 10 rfl)
    have l1r:=Nat.lt_of_lt_of_le l1 hb.out.size
    have hmsH:=Lib.hid hms
    clear hms g1 g2 g3 r1 r2 rS hcT hq hq' hrt ets ekt ejr hx
    go_wp2_with fail
    go_upto_region 8 with fail
    refine wp_region_below wr.heap.size (by kernel_rfl) (by kernel_rfl) ?_
    intro C hC
    repeat(go_big_quiet_step (first
     |((intro _;with_reducible rfl))
     |(intro hc;have hcw:=b_ hb hc;have m0:=c_ hc l1r x9;have m1:=c_ hc l1r x10;have m2:=c_ hcw hbs g0;have m3:=c_ hcw hbT z0;have m4:=c_ hcw hbR s0;simp only [m0,m1,m2,m3,m4,Result.andThen];exact⟨trivial,rfl⟩)
    ))
    refine wpQuiet_nil ?_
    intro w9 hb9
    clear hC
    have hb5:=h_ hb hb9
    have own5:=Lib.hid (own_below own.out hb9)
    have hp5:Hid (S.Perm ((List.range i).flatMap (ridesAt M L)++(ridesOf (tripStops M r.trip) r.arr r.dep i).take 0)):=by show S.Perm _;rw [List.take_zero,List.append_nil];exact hp.out
    have hcb5:S.length≤32*100000+0:=by omega
    clear hb9 own hp x9 x10 g0 z0 s0 l1r hb
    go_wp2_with fail
    go_loopw [7,10] (fun v pv wr=> ∃ (p:Nat) (S:List ConnP),p≤ms∧pv= .int .i64 p∧S.length≤32*100000+p∧Hid (wr.ownsRow w2.heap.size 42 6 v S.length (S.flatMap connE))∧Hid (S.Perm ((List.range i).flatMap (ridesAt M L)++(ridesOf (tripStops M r.trip) r.arr r.dep i).take p))∧Hid (S.Pairwise fun a b=>ltC b a=false)∧Hid (Below w2.heap.size w2 wr)) (fun _ pv _=>ms-(intOf pv).toNat)
    case atStart=>exact⟨0,S,Nat.zero_le _,rfl,hcb5,own5,hp5,hs,hb5⟩
    case round=>
     clear own5 hp5 hs hb5 hcb hcb5
     obtain⟨p,S,hpm,rfl,hcb,own,hp,hs,hb⟩:=hrel
     by_cases hpl:p<ms
     ·have hpI:(p:Int)<(ms:Int):=by omega
      have hp1:(p:Int)<(ms:Int)+1:=by omega
      have hp2:(p:Int)+1<(ms:Int)+1:=by omega
      obtain⟨d,a,f,t,hd,ha,hf,ht,hda,eride⟩:=hft.out.ride (n:=i) (p:=p) (by have:=hmsH.out;omega)
      obtain⟨bd,od,d',rfl,hbd,hd',gd⟩:=r2H.out.num (show p<ms+1 by omega)
      obtain rfl:d=d':=Option.some.inj (hd.symm.trans hd')
      obtain⟨bA,oA,a',rfl,hbA,ha',ga⟩:=r1H.out.num (show p+1<ms+1 by omega)
      obtain rfl:a=a':=Option.some.inj (ha.symm.trans ha')
      obtain⟨bS,oS,f',rfl,hbS,hf',gf⟩:=rSH.out.num (show p<ms+1 by omega)
      obtain rfl:f=f':=Option.some.inj (hf.symm.trans hf')
      obtain⟨_,_,t',hqS,_,ht',gt⟩:=rSH.out.num (show p+1<ms+1 by omega)
      cases hqS
      obtain rfl:t=t':=Option.some.inj (ht.symm.trans ht')
      have hrd:Hid ((ridesOf (tripStops M r.trip) r.arr r.dep i).take (p+1)=(ridesOf (tripStops M r.trip) r.arr r.dep i).take p++[⟨d,a,f,t,i,p⟩]):=by
       show _=_
       rw [take_at (ridesOf_at (n:=i) (by have:=hmsH.out;omega)),eride]
      have gdH:=Lib.hid gd
      have gaH:=Lib.hid ga
      have gfH:=Lib.hid gf
      have gtH:=Lib.hid gt
      clear hd hd' ha ha' hf hf' ht ht' eride hda gd ga gf gt
      go_wp2_with fail
      go_upto_region 12 with fail
      refine wp_region_late [0,0,0,0,0,0,0,0,0,0,0,0,0,0,0,0,0,0,0,0,0,0,0,0,0,0,0,0,0,2,2] (by kernel_rfl) (by kernel_rfl) ?_
      intro C hC
      simp only [pickK,Nat.reduceEqDiff, ↓reduceIte]
      repeat(go_big_quiet_step (first
       |(intro _;with_reducible rfl)
       |(intro hc
         have hcw:=b_ hb hc
         have m0:=c_ hcw hbs g3H.out
         have m1:=c_ hcw hbd gdH.out
         have m2:=c_ hcw hbs g2H.out
         have m3:=c_ hcw hbA gaH.out
         have m4:=c_ hcw hbS gfH.out
         have m5:=c_ hcw hbS gtH.out
         simp only [m0,m1,m2,m3,m4,m5,Result.andThen]
         exact⟨trivial,rfl⟩)))
      refine wpQuiet_nil ?_
      clear hC
      intro C' hC'
      refine wpQuiet_nil ?_
      clear hC'
      intro wq hbq
      obtain⟨wz,bz,hwz,hbzE,hbwz,Bwz⟩:=box1 wq 42 [.int .i64 d,.int .i64 a,.int .i64 f,.int .i64 t,.int .i64 i,.int .i64 p]
      obtain⟨Ao,co,hv,ro,hco,hco2⟩:=Rd.of_own connE_len rfl own.out
      subst hv
      have hqz:=Lib.hid (u_ hbq hbwz)
      have hwqb:=h_ hb hbq
      have hbz:=h_ hwqb hbwz
      have ownq:=own_below own.out hbq
      have hbn:Hid (∀ q,(Value.slice Ao S.length co).ownBlock =some q→q<bz):=fun q hq=>by rw [←hbzE];exact(ownq.lt q hq).2
      have ownz:=Lib.hid (own_below ownq hbwz)
      have roz:=Lib.hid (ro.below hqz.out)
      have Bz:=Lib.hid Bwz
      clear hbq ownq own hb hbwz Bwz ro hqz
      go_wp2_with fail
      clear hwz hbzE
      have hb0:Hid (Below wz.heap.size wz wz):=Below.refl _ _
      have hge0:Hid (∀ (j:Nat) x,S.length≤j→S[j]?=some x→ltC ⟨d,a,f,t,i,p⟩ x=true):=fun j x hj hx=>by have:=(List.getElem?_eq_some_iff.1 hx).1;omega
      go_loopw [12] (fun kv wk=> ∃ k:Nat,k≤S.length∧kv= .int .i64 k∧Hid (∀ (j:Nat) x,k≤j→S[j]?=some x→ltC ⟨d,a,f,t,i,p⟩ x=true)∧Hid (Below wz.heap.size wz wk)) (fun kv _=>(intOf kv).toNat)
      case atStart=>exact⟨S.length,Nat.le_refl _,rfl,hge0,hb0⟩
      case round=>
       clear hge0 hb0
       obtain⟨k,hk,rfl,hge,hbk⟩:=hrel
       go_wp2_with fail
       go_upto_region 14 with fail
       go_cut [88] (fun v wx=>v= .bool (decide (0<k)&&lessAt S ⟨d,a,f,t,i,p⟩ k)∧Hid (Below wz.heap.size wz wx))
       case first=>
        rcases Nat.eq_zero_or_pos k with hk0|hk0
        ·subst hk0
         have e0:decide ((0:Int)<((0:Nat):Int))=false:=by decide
         go_wp2_with fail
         go_upto_region 14 with fail
         refine wp_region_below wr.heap.size (by kernel_rfl) (by kernel_rfl) ?_
         intro C hC
         repeat(go_big_quiet_step (first
          |((intro _;with_reducible rfl))
         ))
         refine wpQuiet_nil ?_
         intro w9 hb9
         clear hC
         have hbx:=h_ hbk hb9
         clear hb9
         go_wp2_with fail
         go_meet
         exact⟨rfl,hbx⟩
        ·obtain⟨k',rfl⟩: ∃ k',k=k'+1:=⟨k-1,by omega⟩
         obtain⟨bo,oo,x,rfl,hbo,hx,hcx⟩:=roz.out.get (show k'<S.length by omega)
         have hla:ltC ⟨d,a,f,t,i,p⟩ x=(decide (0<k'+1)&&lessAt S ⟨d,a,f,t,i,p⟩ (k'+1)):=by unfold lessAt;rw [Nat.add_sub_cancel,hx];simp
         have hcl:=Lib.hid (fun U=>rless_any ⟨d,a,f,t,i,p⟩ x U)
         rw [hla] at hcl
         have hlaH:=Lib.hid hla
         obtain⟨v,hv⟩: ∃ v,(decide (0<k'+1)&&lessAt S ⟨d,a,f,t,i,p⟩ (k'+1))=v:=⟨_,rfl⟩
         rw [hv] at hcl
         have hvH:=Lib.hid hv
         obtain⟨x1,x2,x3,x4,x5,x6⟩:=x
         simp only [connE] at hcl
         have lbo:=Nat.lt_of_lt_of_le hbo hbk.out.size
         have lbz:=(Bz.out.below hbk.out).lt
         have y0:=c_ hbk.out hbo (hcx 0 _ rfl)
         have y1:=c_ hbk.out hbo (hcx 1 _ rfl)
         have y2:=c_ hbk.out hbo (hcx 2 _ rfl)
         have y3:=c_ hbk.out hbo (hcx 3 _ rfl)
         have y4:=c_ hbk.out hbo (hcx 4 _ rfl)
         have y5:=c_ hbk.out hbo (hcx 5 _ rfl)
         simp only [Nat.add_zero] at y0
         obtain⟨z0,z1,z2,z3,z4,z5⟩:=c_6 (Bz.out.below hbk.out)
         have hkp:decide ((0:Int)<((k'+1:Nat):Int))=true:=decide_eq_true (by omega)
         have hkpA:decide ((0:Int)<(k':Int)+1)=true:=decide_eq_true (by omega)
         have hkpB:decide (0<k'+1)=true:=decide_eq_true (by omega)
         have hkp2:IntKind.i64.wrap (((k'+1:Nat):Int)-1)=(k':Int):=by rw [show((k'+1:Nat):Int)-1=(k':Int) by omega];exact IntWalk.i64_in _ (by omega)
         have hkI:(k':Int)<(S.length:Int):=by omega
         clear hcx hx hla hv
         go_wp2_with fail
         go_upto_region 14 with fail
         refine wp_region_below wr.heap.size (by kernel_rfl) (by kernel_rfl) ?_
         intro C hC
         repeat(go_big_quiet_step (first
          |((intro _;with_reducible rfl))
          |(intro hc;have hcw:=b_ hbk hc;have m0:=c_ hc lbz z0;have m1:=c_ hc lbz z1;have m2:=c_ hc lbz z2;have m3:=c_ hc lbz z3;have m4:=c_ hc lbz z4;have m5:=c_ hc lbz z5;have m6:=c_ hc lbo y0;have m7:=c_ hc lbo y1;have m8:=c_ hc lbo y2;have m9:=c_ hc lbo y3;have m10:=c_ hc lbo y4;have m11:=c_ hc lbo y5;simp only [m0,m1,m2,m3,m4,m5,m6,m7,m8,m9,m10,m11,Result.andThen];exact⟨trivial,rfl⟩)
          |(intro hc;have hcw:=b_ hbk hc;(with_reducible refine(hcl.out _).mono ?_);rintro e w'' ⟨rfl,hw⟩;exact⟨rfl,u_ hc hw⟩)))
         refine wpQuiet_nil ?_
         intro w9 hb9
         clear hC
         have hbx:=h_ hbk hb9
         clear hb9
         go_wp2_with fail
         go_meet
         exact⟨congrArg Value.bool hvH.out.symm,hbx⟩
       case rest=>
        obtain⟨rfl,hbx⟩:=hcut
        clear hbk
        by_cases hv:(decide (0<k)&&lessAt S ⟨d,a,f,t,i,p⟩ k)=true
        ·obtain⟨hk0,hla⟩:=Bool.and_eq_true_iff.1 hv
         obtain⟨k',rfl⟩: ∃ k',k=k'+1:=⟨k-1,by have:=of_decide_eq_true hk0;omega⟩
         have hge':Hid (∀ (j:Nat) x,k'≤j→S[j]?=some x→ltC ⟨d,a,f,t,i,p⟩ x=true):=fun j x hj hx=>by
          rcases Nat.lt_or_ge k' j with h|h
          ·exact hge.out j x h hx
          ·obtain rfl:j=k':=by omega
           unfold lessAt at hla
           rw [Nat.add_sub_cancel,hx] at hla
           exact hla
         have hkp2:IntKind.i64.wrap (((k'+1:Nat):Int)-1)=(k':Int):=by rw [show((k'+1:Nat):Int)-1=(k':Int) by omega];exact IntWalk.i64_in _ (by omega)
         rw [hv]
         clear hv hk0 hla hge
         go_wp2_with fail
         go_roundw
         case rel=>exact⟨k',by omega,by go_num,hge',hbx⟩
         case measure=>simp [intOf]
        ·have hvf:(decide (0<k)&&lessAt S ⟨d,a,f,t,i,p⟩ k)=false:=by simpa using hv
         have hlt:Hid (∀ x,0<k→S[k-1]?=some x→ltC ⟨d,a,f,t,i,p⟩ x=false):=fun x hk0 hx=>by
          rw [decide_eq_true hk0,Bool.true_and] at hvf
          unfold lessAt at hvf
          rw [hx] at hvf
          exact hvf
         rw [hvf]
         have hsrt:=Lib.hid (insC_sorted hs.out hk hge.out hlt.out)
         have hprm:Hid ((insAt S k ⟨d,a,f,t,i,p⟩).Perm ((List.range i).flatMap (ridesAt M L)++(ridesOf (tripStops M r.trip) r.arr r.dep i).take (p+1))):=by
          show List.Perm _ _
          rw [hrd.out,←List.append_assoc]
          exact(insAt_perm S k _).trans (hp.out.append_right _)
         clear hv hvf hge hlt
         have ownx:=own_below ownz.out hbx.out
         have hb2x:=b_ hbz hbx.out
         obtain⟨g,c8,w8,hrun8,own8,hgr8,hg8⟩:=append_one (enc:=connE) Tryz.underlying37 info_tConn rfl (by decide) connE_len connE_one wc w2.heap.size _ S ⟨0,0,0,0,0,0⟩ ownx (by omega) (by decide) hb2x.size
         have ha:=(Below.refl wc.heap.size wc).alloc (Nat.le_refl _) (.cells (connE ⟨0,0,0,0,0,0⟩).toArray 42)
         have hb8:Below w2.heap.size w2 w8:=(u_ hb2x ha).grown hgr8 (Nat.le_trans hb2x.size ha.size) (fun q hq=>(ownx.lt q hq).1)
         have hbzx:bz<wc.heap.size:=(Bz.out.below hbx.out).lt
         have hbzg:bz≠g:=by
          rcases hg8 with h|h
          ·have:=hbn.out g h;omega
          ·omega
         have B8:Bx w8 bz 42 [.int .i64 d,.int .i64 a,.int .i64 f,.int .i64 t,.int .i64 i,.int .i64 p]:=((Bz.out.below hbx.out).below ha).keep (hgr8.block bz (Nat.lt_of_lt_of_le hbzx ha.size) (fun h=>by have:=hbn.out bz h.symm;omega))
         rw [List.length_append,List.length_singleton] at own8
         have hgb:=(own8.lt g rfl).1
         have own8:=Lib.hid own8
         have B8:=Lib.hid B8
         have hb8:=Lib.hid hb8
         simp only [connE] at hrun8
         rename_i oX bX1 bX2
         clear oX bX1 bX2 ownx hb2x hgr8 hg8 ha
         go_wp2_with (at_builtin;refine wpList_append_run ?P1 (.tmp 91) (.tmp 93) 37 ?P2 ?P3 ?P4 hrun8 ?_)
         all_goals try rfl
         obtain⟨Q1,hQ1⟩: ∃ q,cutA (some ⟨g,0,none⟩) c8 (k+1) 6=q:=⟨_,rfl⟩
         obtain⟨Q2,hQ2⟩: ∃ q,cutA (some ⟨g,0,none⟩) c8 k 6=q:=⟨_,rfl⟩
         obtain⟨N1,hN1⟩: ∃ q,S.length+1-(k+1)=q:=⟨_,rfl⟩
         obtain⟨N2,hN2⟩: ∃ q,S.length+1-k=q:=⟨_,rfl⟩
         obtain⟨C1,hC1⟩: ∃ q,c8-(k+1)=q:=⟨_,rfl⟩
         obtain⟨C2,hC2⟩: ∃ q,c8-k=q:=⟨_,rfl⟩
         have hcut1: ∀ W,(Instr.slice 37 (.slice (some ⟨g,0,none⟩) (S.length+1) c8) (some (.int .i64 ((k:Int)+1))) none none).run Tryz.prog W= .ok (.slice Q1 N1 C1) W:=fun W=>by
          have h:=conns_cut (some ⟨g,0,none⟩) (S.length+1) c8 (k+1) (by omega) W
          rw [hQ1,hN1,hC1,show(((k+1:Nat)):Int)=(k:Int)+1 by omega] at h
          exact h
         have hcut2:=conns_cut (some ⟨g,0,none⟩) (S.length+1) c8 k (by omega)
         simp only [hQ2,hN2,hC2] at hcut2
         go_upto_region 17 with fail
         refine wp_region_late [0,0,0,0,0,0,0,2] (by kernel_rfl) (by kernel_rfl) ?_
         intro C hC
         simp only [pickK,Nat.reduceEqDiff, ↓reduceIte]
         repeat(go_big_quiet_step (first
          |(intro _;with_reducible rfl)
          |(intro hc;simp only [hcut1,Result.andThen];exact⟨trivial,rfl⟩)
          |(intro hc;simp only [hcut2,Result.andThen];exact⟨trivial,rfl⟩)))
         refine wpQuiet_nil ?_
         clear hC
         intro C' hC'
         refine wpQuiet_nil ?_
         clear hC'
         intro wy hby
         have hb8y:=h_ hb8 hby
         have B8y:=B8.out.below hby
         obtain⟨w9,l',hrun9,hl',hset,own9,hbt9⟩:=own_shift (enc:=connE) (k:=k) (n:=S.length) Tryz.underlying37 (by kernel_rfl) (by decide) connE_len connE_one rfl (own_below own8.out hby) hk 3
         simp only [hQ1,hQ2,hN1,hN2,hC1,hC2] at hrun9
         clear hQ1 hQ2 hN1 hN2 hC1 hC2
         have B9:=B8y.keep (hbt9.keep bz B8y.lt (by simpa using hbzg))
         have hb9:=hb8y.out.trans (hbt9.below hb8y.out.size (fun x hx=>by simp only [List.mem_singleton] at hx;subst hx;exact hgb))
         obtain⟨A3,c3,e3,r3,_,_⟩:=Rd.of_own connE_len hl' own9
         cases e3
         obtain⟨bb,o3,uc,hA3,_,_,sc⟩:=r3.get (k:=k) (by omega)
         cases hA3
         have own10:Hid ((((((((w9).setCell ⟨g,k*6,none⟩ (.int .i64 d)).setCell ⟨g,k*6+1,none⟩ (.int .i64 a)).setCell ⟨g,k*6+2,none⟩ (.int .i64 f)).setCell ⟨g,k*6+3,none⟩ (.int .i64 t)).setCell ⟨g,k*6+4,none⟩ (.int .i64 i)).setCell ⟨g,k*6+5,none⟩ (.int .i64 p)).ownsRow w2.heap.size 42 6 (.slice (some ⟨g,0,none⟩) (S.length+1) c8) (insAt S k ⟨d,a,f,t,i,p⟩).length ((insAt S k ⟨d,a,f,t,i,p⟩).flatMap connE)):=by
          show World.ownsRow _ _ _ _ _ _ _
          have h9:=((((((own9.stored (k*6) (.int .i64 d)).1.stored (k*6+1) (.int .i64 a)).1.stored (k*6+2) (.int .i64 f)).1.stored (k*6+3) (.int .i64 t)).1.stored (k*6+4) (.int .i64 i)).1.stored (k*6+5) (.int .i64 p)).1
          rw [flat_set_conn l' k ⟨d,a,f,t,i,p⟩ (by rw [hl'];omega),hset] at h9
          rw [insAt_len];exact h9
         have hb10:Hid (Below w2.heap.size w2 (((((((w9).setCell ⟨g,k*6,none⟩ (.int .i64 d)).setCell ⟨g,k*6+1,none⟩ (.int .i64 a)).setCell ⟨g,k*6+2,none⟩ (.int .i64 f)).setCell ⟨g,k*6+3,none⟩ (.int .i64 t)).setCell ⟨g,k*6+4,none⟩ (.int .i64 i)).setCell ⟨g,k*6+5,none⟩ (.int .i64 p))):=hb9.trans ((((((((But.refl w9 [g]).trans (But.of_set _ ⟨g,k*6,none⟩ (.int .i64 d) (by simp))).trans (But.of_set _ ⟨g,k*6+1,none⟩ (.int .i64 a) (by simp))).trans (But.of_set _ ⟨g,k*6+2,none⟩ (.int .i64 f) (by simp))).trans (But.of_set _ ⟨g,k*6+3,none⟩ (.int .i64 t) (by simp))).trans (But.of_set _ ⟨g,k*6+4,none⟩ (.int .i64 i) (by simp))).trans (But.of_set _ ⟨g,k*6+5,none⟩ (.int .i64 p) (by simp))).below hb9.size (fun x hx=>by simp only [List.mem_singleton] at hx;subst hx;exact hgb))
         have hil:(insAt S k ⟨d,a,f,t,i,p⟩).length ≤32*100000+(p+1):=by rw [insAt_len];omega
         obtain⟨b0',b1',b2',b3',b4',b5'⟩:=c_6 B9
         have s0:=sc 0 _ rfl
         have s1:=sc 1 _ rfl
         have s2:=sc 2 _ rfl
         have s3:=sc 3 _ rfl
         have s4:=sc 4 _ rfl
         have s5:=sc 5 _ rfl
         have m0:=own9.frozenAt (k*6)
         have m1:=own9.frozenAt (k*6+1)
         have m2:=own9.frozenAt (k*6+2)
         have m3:=own9.frozenAt (k*6+3)
         have m4:=own9.frozenAt (k*6+4)
         have m5:=own9.frozenAt (k*6+5)
         simp only [Nat.zero_add,Nat.add_zero] at s0 s1 s2 s3 s4 s5
         have hkI:(k:Int)<(S.length:Int)+1:=by omega
         have hkJ:(k:Int)<((S.length+1:Nat):Int):=by omega
         clear hcut1 hcut2 hby B8y own9 hbt9 r3 sc B9 hb9
         go_wp2_with fail
         trace_state
         go_roundw
         case rel=>exact⟨p+1,_,by omega,by go_num,hil,own10,hprm,hsrt,hb10⟩
         case measure=>simp [intOf];omega
     ·obtain rfl:p=ms:=by omega
      have hp':Hid (S.Perm ((List.range (i+1)).flatMap (ridesAt M L))):=by
       have:=hp.out
       rw [List.take_of_length_le (by rw [←hrl.out];exact Nat.le_refl _)] at this
       show S.Perm _;rw [hpr.out];exact this
      go_wp2_with fail
      go_roundw
      case rel=>exact⟨i+1,S,by omega,by go_num,own,hp',hs,hb⟩
      case measure=>simp [intOf];omega
   ·obtain rfl:i=n:=by omega
    have hS:S=makeC M L:=makeC_unique (by have:=hp.out;rw [←hLn.out] at this;exact this) hs.out
    subst hS
    have hbw:=h_ h2 hb.out
    obtain⟨A',c',rfl,q1,q2,q3⟩:=Rd.of_own connE_len rfl own.out
    have q1:=Lib.hid q1
    go_wp2_with fail
    go_returns
    obtain rfl:=hres.out
    exact⟨A',c',rfl,q1.out,q2,q3,hbw.out⟩
 ·have hnn:(ec !=0)=true:=by simp [he]
  have hres:=hRH.out.symm.trans (resC_no (M:=M) (L:=L) (by rw [hecH.out];exact he))
  subst hres
  clear he
  go_wp2_with fail
  clear hw1 hbE1
  go_returns
  exact⟨none,0,rfl,Rd.nil,Nat.le_refl _,by omega,h2.out⟩
end Go.Proofs.YtechdefolfboeaaGreatDoor
