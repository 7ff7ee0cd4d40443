/- Texts of one chain, merged. -/
import Derived.Test.YtechdefolfboeaaGreatDoorQr42
import Derived.Test.YtechdefolfboeaaGreatDoorQr43
namespace Go.Proofs.YtechdefolfboeaaGreatDoor
open Go.RowKit B K
set_option linter.unusedVariables false
set_option linter.unusedSimpArgs false
def chkP (M:WorldP) (L:List RunP) (P:List PatP):Int:=if errC M L=0 then(if okPat M L P then 0 else 2) else errC M L
section
variable {M:WorldP} {L:List RunP} {P:List PatP}
def gone (P:List PatP) (a:Nat) (l:List Int) (k:Nat):List Int:=(P.take a).flatMap PatP.runs++l.take k
def SeenI (f:Int→Option Int) (F:List Int):Prop:=F.Nodup∧ ∀ x,f x=if x∈F then some 1 else none
theorem seenI_nil:SeenI (fun _=>none) []:=⟨List.nodup_nil,fun x=>by simp⟩
theorem SeenI.push {f:Int→Option Int} {F:List Int} {x:Int} (h:SeenI f F) (hx:f x=none):SeenI (updI f x 1) (F++[x]):=by
 have hn:x ∉ F:=fun hm=>by have:=h.2 x;rw [if_pos hm,hx] at this;cases this
 refine⟨List.nodup_append.2 ⟨h.1,by simp,fun a ha b hb=>?_⟩,fun y=>?_⟩
 ·simp at hb;subst hb;exact fun e=>hn (e ▸ ha)
 ·unfold updI
  by_cases hy:y=x
  ·subst hy;simp
  ·rw [if_neg hy,h.2 y]
   congr 1
   simp [hy]
theorem SeenI.some {f:Int→Option Int} {F:List Int} {x:Int} {v:Int} (h:SeenI f F) (hx:f x=some v):v=1∧x∈F:=by
 have:=h.2 x
 rw [hx] at this
 split at this
 ·rename_i hm;exact⟨Option.some.inj this,hm⟩
 ·cases this
theorem gone_zero (P:List PatP) (l:List Int):gone P 0 l 0=[]:=by unfold gone;simp
theorem gone_step {a k:Nat} {l:List Int} {x:Int} (hx:l[k]?=some x):gone P a l (k+1)=gone P a l k++[x]:=by unfold gone;rw [take_at hx,List.append_assoc]
theorem gone_next {a:Nat} {p:PatP} (hp:P[a]?=some p) {l:List Int}:gone P a p.runs p.runs.length=gone P (a+1) l 0:=by
 unfold gone;rw [take_at hp];simp
theorem gone_to {a:Nat} {l l':List Int}:gone P a l 0=gone P a l' 0:=by unfold gone;simp
theorem gone_all (l:List Int):gone P P.length l 0=P.flatMap PatP.runs:=by unfold gone;simp
theorem ok_row {a k:Nat} {p:PatP} {n:Int} (hp:P[a]?=some p) (hn:p.runs[k]?=some n) (h:runOK M L p.rt (prevAt p.runs k) n=false):okPat M L P=false:=by
 unfold okPat
 rw [Bool.and_eq_false_iff]
 left
 rw [List.all_eq_false]
 refine⟨p,List.mem_of_getElem? hp,?_⟩
 intro h2
 have:=rowOK_iff.1 h2 k n hn
 rw [h] at this;cases this
theorem ok_dup {a k:Nat} {p:PatP} {n:Int} (hp:P[a]?=some p) (hn:p.runs[k]?=some n) (h:n∈gone P a p.runs k):okPat M L P=false:=by
 have hnd: ¬ (P.flatMap PatP.runs).Nodup :=by
  intro hd
  obtain⟨ha,rfl⟩:=List.getElem?_eq_some_iff.1 hp
  have e:P=P.take a++(P[a]::P.drop (a+1)):=by rw [←List.drop_eq_getElem_cons ha,List.take_append_drop]
  rw [e,List.flatMap_append,List.flatMap_cons] at hd
  obtain⟨hk,rfl⟩:=List.getElem?_eq_some_iff.1 hn
  have e2:P[a].runs =P[a].runs.take k++(P[a].runs[k]::P[a].runs.drop (k+1)):=by rw [←List.drop_eq_getElem_cons hk,List.take_append_drop]
  unfold gone at h
  rw [e2] at hd
  generalize P[a].runs[k]=n at h hd
  rw [List.nodup_append] at hd
  obtain⟨_,h2,h3⟩:=hd
  rcases List.mem_append.1 h with h4|h4
  ·exact h3 n h4 n (by simp) rfl
  ·rw [List.append_assoc,List.nodup_append] at h2
   exact h2.2.2 n h4 n (by simp) rfl
 unfold okPat
 rw [decide_eq_false hnd]
 simp
def RowsOK (M:WorldP) (L:List RunP) (P:List PatP) (a:Nat):Prop:= ∀ p∈P.take a,rowOK M L p.rt p.runs=true
def RowK (M:WorldP) (L:List RunP) (rt:Int) (l:List Int) (k:Nat):Prop:= ∀ j n,j<k→l[j]?=some n→runOK M L rt (prevAt l j) n=true
theorem rowK_zero (rt:Int) (l:List Int):RowK M L rt l 0:=fun j n h=>absurd h (by omega)
theorem RowK.step {rt:Int} {l:List Int} {k:Nat} {n:Int} (h:RowK M L rt l k) (hn:l[k]?=some n) (hk:runOK M L rt (prevAt l k) n=true):RowK M L rt l (k+1):=by
 intro j m hj hm
 rcases Nat.lt_or_ge j k with h2|h2
 ·exact h j m h2 hm
 ·obtain rfl:j=k:=by omega
  rw [hn] at hm;cases hm;exact hk
theorem RowsOK.step {a:Nat} {p:PatP} (h:RowsOK M L P a) (hp:P[a]?=some p) (hk:RowK M L p.rt p.runs p.runs.length):RowsOK M L P (a+1):=by
 intro q hq
 rw [take_at hp,List.mem_append] at hq
 rcases hq with hq|hq
 ·exact h q hq
 ·simp at hq;subst hq
  exact rowOK_iff.2 fun k n hn=>hk k n (List.getElem?_eq_some_iff.1 hn).1 hn
theorem rowsOK_zero:RowsOK M L P 0:=fun p hp=>by simp at hp
theorem ok_all {f:Int→Option Int} (h:RowsOK M L P P.length) (hs:SeenI f (P.flatMap PatP.runs)):okPat M L P=decide ((P.flatMap PatP.runs).length =L.length):=by
 unfold okPat
 have h1:(P.all fun p=>rowOK M L p.rt p.runs)=true:=List.all_eq_true.2 fun p hp=>h p (by rw [List.take_length];exact hp)
 rw [h1,decide_eq_true hs.1,Bool.true_and,Bool.true_and]
theorem runOK_in {rt n:Int} {pv:Option Int} (h:runOK M L rt pv n=true):0≤n∧n<(L.length:Int):=by
 unfold runOK at h
 simp only [Bool.and_eq_true,decide_eq_true_eq] at h
 exact⟨h.1,h.2.1⟩
theorem runOK_low {rt n:Int} {pv:Option Int} (h:n<0):runOK M L rt pv n=false:=by
 unfold runOK;rw [decide_eq_false (by omega),Bool.false_and]
theorem runOK_high {rt n:Int} {pv:Option Int} (h:(L.length:Int)≤n):runOK M L rt pv n=false:=by
 unfold runOK;rw [decide_eq_false (show ¬ n<(L.length:Int) by omega),Bool.false_and,Bool.and_false]
theorem runOK_rt {rt n:Int} {pv:Option Int} (h:rtOf M L n≠rt):runOK M L rt pv n=false:=by
 unfold runOK;rw [decide_eq_false h];simp
theorem runOK_first {n:Int} {l:List Int} (h0:0≤n) (h1:n<(L.length:Int)):runOK M L (rtOf M L n) (prevAt l 0) n=true:=by
 unfold runOK prevAt;rw [decide_eq_true h0,decide_eq_true h1,decide_eq_true rfl];rfl
theorem runOK_next {n m:Int} {l:List Int} {k:Nat} (h0:0≤n) (h1:n<(L.length:Int)) (hm:l[k]?=some m):runOK M L (rtOf M L n) (prevAt l (k+1)) n=aheadB (runAt L m) (runAt L n):=by
 unfold runOK prevAt;rw [decide_eq_true h0,decide_eq_true h1,decide_eq_true rfl];simp [hm]
theorem fitL_trip (h:FitL M L) {n:Nat} {r:RunP} (hr:L[n]?=some r): ∃ t:Nat, ∃ q,r.trip=t∧M.trips[t]?=some q∧q.route=rtOf M L n∧runAt L n=r:=by
 have hn:((n:Nat):Int)∈natI L.length:=natI_mem.2 ⟨by omega,by have:=(List.getElem?_eq_some_iff.1 hr).1;omega⟩
 obtain⟨q,x,h1,h2,h3,_⟩:=h.route hn
 have e:runAt L n=r:=by
  have:=runAt_get hn
  rw [Int.toNat_natCast,hr] at this
  exact(Option.some.inj this).symm
 rw [e] at h1 h2
 exact⟨r.trip.toNat,q,by omega,h2,h3,e⟩
end
end Go.Proofs.YtechdefolfboeaaGreatDoor
namespace Go.Proofs.YtechdefolfboeaaGreatDoor
open Go.RowKit B K
set_option linter.unusedVariables false
set_option linter.unusedSimpArgs false
set_option maxRecDepth 100000
set_option maxHeartbeats 2000000
theorem but_turned {w w':World} {m:Nat} (h:w.mapTurned w' m) {X:List Nat} (hX:m∈X):But w w' X:=But.of_grown h.grown hX
theorem mapI_len {P:Program} {k e:TypeId} {w:World} {m N:Nat} {f:Int→Option Int} (h:MapI P k e w m f N) {t:TypeId} (ht:P.underlying t=some (.map k e)) (ty:TypeId):(Builtin.len_ #[t] ty #[.map (some m)]).run P w= .ok (.int .i64 N) w:=by
 obtain⟨D,hD,hs,_⟩:=h
 rw [hD.len ht ty,hs]
theorem wpList_maplen {P:Program} {w:World} {ops:Array Oper} {rest:List Oper} {o:Oper} {a:Act} {Q:Exit→Act→World→Prop} (hg:o.guard=none) (m:Operand) (t:TypeId)
 (hop:o.op=Op.call {callee:=Callee.builtin Builtin.len,args:=#[m],argTypes:=#[t]}) {b N:Nat} (hm:a.eval m= .map (some b))
 (hrun:(Builtin.len_ #[t] o.type #[.map (some b)]).run P w= .ok (.int .i64 N) w) (hK:wpList P ops Q rest (a.put o.dst (.int .i64 N)) w):wpList P ops Q (o::rest) a w:=by
 refine wpList_plain hg fun K' hK'=>?_
 unfold Oper.wp
 simp [execOp,hop,resolve,invoke,builtin,hm,hrun,Result.andThen]
 exact hK' _ _ hK
theorem few_len {M:WorldP} {L:List RunP} (h:errC M L=0): ¬ 16384<L.length:=by
 intro hn
 unfold errC at h
 rw [if_pos hn] at h;cases h
set_option maxHeartbeats 8000000
theorem paCheck_any (M:WorldP) (V:WV) (A:Option Addr) (n c:Nat) (L:List RunP) (A2:Option Addr) (m c2:Nat) (P:List PatP) (we:World) (hr:RW we M V) (hf:Few M) (hsp:Sp we) (hL:RRuns we A n L) (hn:n≤100000) (hl: ∀ r∈L,r.arr.length≤100000∧r.dep.length≤100000)
 (hP:RPats we A2 m P) (hm:m≤100000) (hps: ∀ p∈P,p.runs.length≤100000):
 Calls Tryz.prog 41 #[wVal M V,.slice A n c,.slice A2 m c2] we fun e w'=>e= .returned (.int .i64 (chkP M L P))∧Below we.heap.size we w':=by
 have hpf:=Lib.hid (fun w h1 h2 h3=>pfits_any M V A n c L w h1 hf h2 h3 hn)
 have hrH:=Lib.hid hr
 have hsH:=Lib.hid hsp
 have hLH:=Lib.hid hL
 have hPH:=Lib.hid hP
 have hlH:=Lib.hid hl
 have hpsH:=Lib.hid hps
 have hLn:=Lib.hid hL.len
 have hPn:=Lib.hid hP.len
 obtain⟨cRes,hcRes⟩: ∃ q,chkP M L P=q:=⟨_,rfl⟩
 rw [hcRes]
 have hcResH:=Lib.hid hcRes
 clear hcRes
 obtain⟨a0,a1,a2,a3,a4,a5,aP,aD,aR,aT,aH,n0,n1,n2,n3,n4,n5,nP,nD,nR,nT,nH,c0,c1,c2,c3,c4,c5,cP,cD,cR,cT,cH⟩:=V
 simp only [wVal] at*
 obtain⟨w1,b1,hw1,hbE1,hb1,hup,B1,hge1⟩:=enter1 we 31 [.int .i64 M.hz,.slice a0 n0 c0,.slice a1 n1 c1,.slice a2 n2 c2,.slice a3 n3 c3,.slice a4 n4 c4,.slice a5 n5 c5,.slice aP nP cP,.slice aD nD cD,.slice aR nR cR,.slice aT nT cT,.slice aH nH cH]
 have p0:=B1.cell 0 rfl
 have p1:=B1.cell 1 rfl
 have p2:=B1.cell 2 rfl
 have p3:=B1.cell 3 rfl
 have p4:=B1.cell 4 rfl
 have p5:=B1.cell 5 rfl
 have p6:=B1.cell 6 rfl
 have p7:=B1.cell 7 rfl
 have p8:=B1.cell 8 rfl
 have p9:=B1.cell 9 rfl
 have p10:=B1.cell 10 rfl
 have p11:=B1.cell 11 rfl
 have B1H:=Lib.hid B1
 clear B1 hb1 hr hsp hL hP hl hps hf
 go_enter Tryz.func41,Tryz.ntmps41
 go_wp2_with fail
 refine(hpf.out w1 (hrH.out.below hup.out) (hsH.out.below hup.out) (hLH.out.below hup.out)).mono ?_;rintro e w2 ⟨rfl,hb2⟩
 have h2w:=Lib.hid (hup.out.trans (hb2.mono hup.out.size))
 have B12:=Lib.hid (B1H.out.below hb2)
 clear hb2 p0 p1 p2 p3 p4 p5 p6 p7 p8 p9 p10 p11 hpf B1H
 by_cases he:errC M L=0
 ·have hFL:=Lib.hid (fitL_of (few_len he) he)
  have hck:Hid ((if okPat M L P then 0 else 2)=cRes):=by rw [←hcResH.out];exact(if_pos he).symm
  simp only [he]
  clear he hcResH
  obtain⟨mk,hmk⟩: ∃ q,w2.heap.size=q:=⟨_,rfl⟩
  have M3:MapI Tryz.prog 3 3 (w2.alloc (.map #[] 0)) w2.heap.size (fun _=>none) 0:=MapI.new w2
  have ha:Below w2.heap.size w2 (w2.alloc (.map #[] 0)):=(Below.refl _ w2).alloc (Nat.le_refl _) _
  have hmm:(Instr.makeMap 119 none).run Tryz.prog w2= .ok (.map (some w2.heap.size)) (w2.alloc (.map #[] 0)):=by kernel_rfl
  obtain⟨w3,hw3⟩: ∃ q,w2.alloc (.map #[] 0)=q:=⟨_,rfl⟩
  rw [hw3] at M3 ha hmm
  rw [hmk] at hmm
  have hge:Hid (we.heap.size≤mk):=by rw [←hmk];exact h2w.out.size
  have h3w:=Lib.hid (h2w.out.trans (ha.mono h2w.out.size))
  have B13:=Lib.hid (B12.out.below ha)
  have hb1mk:Hid (b1<mk):=by have:=B12.out.lt;show _<_;omega
  rw [hmk] at M3
  have hgo0:Hid (SeenI (fun _=>none) (gone P 0 [] 0)):=by rw [gone_zero];exact seenI_nil
  have hN0:Hid (0=(gone P 0 [] 0).length):=by rw [gone_zero];rfl
  have M3:=Lib.hid M3
  clear B12 h2w ha
  go_wp2_with fail
  clear hw3 hmk hmm
  go_loopw [22] (fun vi wr=> ∃ (a:Nat) (f:Int→Option Int) (N:Nat),a≤m∧vi= .int .i64 a∧Hid (MapI Tryz.prog 3 3 wr mk f N)∧Hid (SeenI f (gone P a [] 0))∧Hid (RowsOK M L P a)∧Hid (N=(gone P a [] 0).length)∧N≤a*100000∧Hid (But w3 wr [mk])) (fun vi _=>m-(intOf vi).toNat)
  case atStart=>exact⟨0,_,0,Nat.zero_le _,rfl,M3,hgo0,rowsOK_zero,hN0,by omega,But.refl _ _⟩
  case round=>
   clear M3 hgo0 hN0
   obtain⟨a,f,N,ha,rfl,hM,hseen,hrows,hN,hNa,hbut⟩:=hrel
   have hbr0:Hid (Below we.heap.size we wr):=h3w.out.trans (hbut.out.below h3w.out.size (by simpa using hge.out))
   by_cases ham:a<m
   ·have haI:(a:Int)<(m:Int):=by omega
    obtain⟨bp,op,p,X1,m1,d1,rfl,hbp,hp,g0,g1,s1,hs1⟩:=hPH.out.get ham
    have hpl:m1≤100000:=by rw [←s1.len];exact hpsH.out p (List.mem_of_getElem? hp)
    have s1H:=Lib.hid s1
    have hpH:=Lib.hid hp
    have hml:Hid (p.runs.length=m1):=s1.len
    obtain⟨prt,hprt⟩: ∃ q,p.rt=q:=⟨_,rfl⟩
    have hprtH:=Lib.hid hprt
    rw [hprt] at g0
    have z0:=(hbr0.out.cell (p:=⟨bp,_,none⟩) hbp).trans g0
    have z1:=(hbr0.out.cell (p:=⟨bp,_,none⟩) hbp).trans g1
    have hbpr:=Nat.lt_of_lt_of_le hbp hbr0.out.size
    have hs0:Hid (SeenI f (gone P a p.runs 0)):=by rw [gone_to (l':=[])];exact hseen.out
    have hN0:Hid (N=(gone P a p.runs 0).length):=by rw [gone_to (l':=[])];exact hN.out
    obtain⟨w4,bx,hw4,hbxE,hbw4,Bw4⟩:=box1 wr 68 [.int .i64 prt,.slice X1 m1 d1]
    have hbx4:=Lib.hid hbw4
    have hM4:=Lib.hid (hM.out.below hbw4)
    have h4w:=Lib.hid (hbr0.out.trans (hbw4.mono hbr0.out.size))
    have hmkx:Hid (mk<bx):=by have h1:=hM.out.lt;have h2:wr.heap.size≤bx:=by omega
                              show _<_;omega
    have hbut4:=Lib.hid (hbut.out.trans (But.of_below hbw4 [mk]))
    have p1:=Bw4.cell 1 rfl
    have Bx4:=Lib.hid Bw4
    clear s1 hp hprt hbw4 Bw4 hM hseen hN hs1
    go_wp2_with fail
    clear hw4 hbxE p1 g0 g1 z0 z1 hbut
    go_loopw [29] (fun vk wr=> ∃ (k:Nat) (f:Int→Option Int) (N:Nat),k≤m1∧vk= .int .i64 k∧Hid (MapI Tryz.prog 3 3 wr mk f N)∧Hid (SeenI f (gone P a p.runs k))∧Hid (RowK M L p.rt p.runs k)∧Hid (N=(gone P a p.runs k).length)∧N≤a*100000+k∧Hid (But w4 wr [mk])) (fun vk _=>m1-(intOf vk).toNat)
    case atStart=>exact⟨0,f,N,Nat.zero_le _,rfl,hM4,hs0,rowK_zero _ _,hN0,Nat.le_trans hNa (Nat.le_add_right _ _),But.refl _ _⟩
    case round=>
     clear hM4 hs0 hN0
     obtain⟨k,f,N,hk,rfl,hM,hseen,hrow,hN,hNk,hbut⟩:=hrel
     have hbr:Hid (Below we.heap.size we wr):=h4w.out.trans (hbut.out.below h4w.out.size (by simpa using hge.out))
     by_cases hkm:k<m1
     ·have hkI:(k:Int)<(m1:Int):=by omega
      obtain⟨b5,o5,x,rfl,hb5,hx,v5⟩:=s1H.out.num hkm
      have v5r:=(hbr.out.cell (p:=⟨b5,_,none⟩) hb5).trans v5
      have hBx:=Lib.hid (Bx4.out.keep (hbut.out.keep bx Bx4.out.lt (by simp;have:=hmkx.out;omega)))
      have hB1:=Lib.hid (B13.out.keep ((hbut4.out.trans hbut.out).keep b1 B13.out.lt (by simp;have:=hb1mk.out;omega)))
      have q0:=hBx.out.cell 0 rfl
      have q1:=hBx.out.cell 1 rfl
      have y10:=hB1.out.cell 10 rfl
      have l1r:=hB1.out.lt
      have lxr:=hBx.out.lt
      have hxH:=Lib.hid hx
      clear hx hBx hB1
      by_cases hx0:x<0
      ·have hbad:Hid (okPat M L P=false):=ok_row hpH.out hxH.out (runOK_low hx0)
       have hx0':decide (x<0)=true:=decide_eq_true hx0
       go_wp2_with fail
       go_upto_region 11 with fail
       refine wp_region_below wr.heap.size (by kernel_rfl) (by kernel_rfl) ?_
       intro C hC
       repeat(go_big_quiet_step (first
        |((intro _;with_reducible rfl))
       ))
       refine wpQuiet_nil ?_
       intro w9 hb9
       clear hC
       go_wp2_with fail
       go_returns
       exact⟨ret_int (by rw [←hck.out,hbad.out];rfl),hbr.out.trans (hb9.mono hbr.out.size)⟩
      ·by_cases hxn:(n:Int)≤x
       ·have hbad:Hid (okPat M L P=false):=ok_row hpH.out hxH.out (runOK_high (by rw [hLn.out];exact hxn))
        have hx0':decide (x<0)=false:=decide_eq_false hx0
        have hxn':decide ((n:Int)≤x)=true:=decide_eq_true hxn
        go_wp2_with fail
        go_upto_region 11 with fail
        refine wp_region_below wr.heap.size (by kernel_rfl) (by kernel_rfl) ?_
        intro C hC
        repeat(go_big_quiet_step (first
         |((intro _;with_reducible rfl))
        ))
        refine wpQuiet_nil ?_
        intro w9 hb9
        clear hC
        go_wp2_with fail
        go_returns
        exact⟨ret_int (by rw [←hck.out,hbad.out];rfl),hbr.out.trans (hb9.mono hbr.out.size)⟩
       ·obtain⟨xk,rfl⟩:=Int.eq_ofNat_of_zero_le (show 0≤x by omega)
        have hxkn:xk<n:=by omega
        have hxI:(xk:Int)<(n:Int):=by omega
        have hx0':decide ((xk:Int)<0)=false:=decide_eq_false (by omega)
        have hxn':decide (n≤xk)=false:=decide_eq_false (by omega)
        have hwx:(Lit.int .i64 (xk:Int)).wf =true:=wf64 (by omega) (by omega)
        have hlk0:=fun(U:World) (hU:Below wr.heap.size wr U)=>((hM.out.below hU).look Tryz.underlying119 Tryz.underlying3 Tryz.underlying3 (by kernel_rfl) hwx).2
        clear hx0 hxn
        cases hfx:f (xk:Int) with
        |some v=>
         obtain⟨rfl,hmem⟩:=hseen.out.some hfx
         rw [hfx] at hlk0
         have hlk:=Lib.hid hlk0
         have hbad:Hid (okPat M L P=false):=ok_dup hpH.out hxH.out hmem
         clear hlk0 hmem hfx
         simp only [Option.getD_some] at hlk
         go_wp2_with fail
         go_upto_region 11 with fail
         refine wp_region_below wr.heap.size (by kernel_rfl) (by kernel_rfl) ?_
         intro C hC
         repeat(go_big_quiet_step (first
          |((intro _;with_reducible rfl))
          |(intro hc;have hcw:=hbr.out.trans (hc.mono hbr.out.size);have m0:=hlk.out _ hc;simp only [m0,Result.andThen];exact⟨trivial,rfl⟩)
         ))
         refine wpQuiet_nil ?_
         intro w9 hb9
         clear hC
         go_wp2_with fail
         go_returns
         exact⟨ret_int (by rw [←hck.out,hbad.out];rfl),hbr.out.trans (hb9.mono hbr.out.size)⟩
        |none=>
         rw [hfx] at hlk0
         have hlk:=Lib.hid hlk0
         simp only [Option.getD_none] at hlk
         clear hlk0
         obtain⟨bL,oL,r,A1,n1,e1,A2',n2,e2,rfl,hbL,hr1,t0,t1,t2,t3,ra1,ra2,hc1,hc2⟩:=hLH.out.get hxkn
         obtain⟨kt,q,ekt,hq,hqr,hra⟩:=fitL_trip hFL.out hr1
         have hkT:kt<nT:=by have h1:M.trips.length=nT:=hrH.out.rT.len;have:=(List.getElem?_eq_some_iff.1 hq).1;omega
         obtain⟨bT,oT,q',rfl,hbT,hq',hcT⟩:=hrH.out.rT.get hkT
         obtain rfl:q=q':=Option.some.inj (hq.symm.trans hq')
         have z0:=hcT 0 _ rfl
         have hkTI:(kt:Int)<(nT:Int):=by omega
         rw [ekt] at t0
         rw [hqr,Nat.add_zero] at z0
         obtain⟨rq,hrq⟩: ∃ y,rtOf M L (xk:Int)=y:=⟨_,rfl⟩
         rw [hrq] at z0
         have hrqH:=Lib.hid hrq
         have hx2:(0:Int)≤(xk:Int)∧(xk:Int)<(L.length:Int):=by rw [hLn.out];omega
         have hx2:=Lib.hid hx2
         clear hq hq' hcT hqr hrq
         by_cases hrt:rq=prt
         ·subst hrt
          have hrr:(rq !=rq)=false:=by simp
          rcases Nat.eq_zero_or_pos k with hk0|hk0
          ·subst hk0
           simp only [Nat.add_zero] at v5r
           have hrow7:Hid (RowK M L p.rt p.runs (0+1)):=hrow.out.step hxH.out (by rw [hprtH.out,←hrqH.out];exact runOK_first hx2.out.1 hx2.out.2)
           have hseen7:Hid (SeenI (updI f (xk:Int) 1) (gone P a p.runs (0+1))):=by show SeenI _ _;rw [gone_step hxH.out];exact hseen.out.push hfx
           have hN7:Hid (N+1=(gone P a p.runs (0+1)).length):=by show _=_;rw [gone_step hxH.out,List.length_append,←hN.out];rfl
           have hkz:decide ((0:Int)<((0:Nat):Int))=false:=by decide
           clear ra1 ra2 hc1 hc2 hr1 t1 t2 t3
           go_wp2_with fail
           go_upto_region 11 with fail
           refine wp_region_below wr.heap.size (by kernel_rfl) (by kernel_rfl) ?_
           intro C hC
           repeat(go_big_quiet_step (first
            |((intro _;with_reducible rfl))
            |(intro hc;have hcw:=hbr.out.trans (hc.mono hbr.out.size);have m0:=hlk.out _ hc;have m1:=(hc.cell (p:=⟨b1,_,none⟩) l1r).trans y10;have m2:=(hcw.cell (p:=⟨bL,_,none⟩) hbL).trans t0;have m3:=(hcw.cell (p:=⟨bT,_,none⟩) hbT).trans z0;have m4:=(hc.cell (p:=⟨bx,_,none⟩) lxr).trans q0;simp only [m0,m1,m2,m3,m4,Result.andThen];exact⟨trivial,rfl⟩)
           ))
           refine wpQuiet_nil ?_
           intro w9 hb9
           clear hC
           have h9w:=Lib.hid (hbr.out.trans (hb9.mono hbr.out.size))
           have hM9:=Lib.hid (hM.out.below hb9)
           have hbut9:=Lib.hid (hbut.out.trans (But.of_below hb9 [mk]))
           clear hb9 hlk
           obtain⟨W7,hrun,M7,hturn⟩:=hM9.out.store (v:=1) Tryz.underlying119 Tryz.underlying3 Tryz.underlying3 (by omega) hwx (by decide)
           rw [hfx] at M7
           have hbut7:=Lib.hid (hbut9.out.trans (but_turned hturn (by simp)))
           have M7:=Lib.hid M7
           clear hturn hfx hM9 hbut9
           go_wp2_with fail
           go_roundw
           case rel=>exact⟨0+1,_,N+1,by omega,by go_num,M7,hseen7,hrow7,hN7,by omega,hbut7⟩
           case measure=>simp [intOf];omega
          ·obtain⟨k',rfl⟩: ∃ k',k=k'+1:=⟨k-1,by omega⟩
           obtain⟨b6,o6,x',hA6,hb6,hx',v6⟩:=s1H.out.num (show k'<m1 by omega)
           obtain⟨rfl,rfl⟩:b5=b6∧o5=o6:=by simpa using hA6
           have hpin:=runOK_in (hrow.out k' x' (by omega) hx')
           obtain⟨xp,rfl⟩:=Int.eq_ofNat_of_zero_le hpin.1
           have hxpn:xp<n:=by have:=hpin.2;rw [hLn.out] at this;omega
           have hxpI:(xp:Int)<(n:Int):=by omega
           obtain⟨bL',oL',r',A3,n3,e3,A4,n4,e4,hAL,hbL',hr2,s0,s1,s2,s3,rb1,rb2,hc3,hc4⟩:=hLH.out.get hxpn
           obtain⟨rfl,rfl⟩:bL=bL'∧oL=oL':=by simpa using hAL
           obtain⟨kt',q9,h91,h92,h93,hra'⟩:=fitL_trip hFL.out hr2
           clear h91 h92 h93
           have hah:=Lib.hid (fun w (h:Below we.heap.size we w)=>pAhead_any (r'.trip,r'.no,(A3,n3,e3),(A4,n4,e4)) (r.trip,r.no,(A1,n1,e1),(A2',n2,e2)) r' r w ⟨rfl,rfl,rb1.below h,hc3,rb2.below h,hc4⟩ ⟨rfl,rfl,ra1.below h,hc1,ra2.below h,hc2⟩ (by have:=hlH.out r' (List.mem_of_getElem? hr2);omega) (by have:=hlH.out r' (List.mem_of_getElem? hr2);omega))
           simp only [rnE,SlV.v] at hah
           rw [ekt] at hah
           have hkp:decide ((0:Int)<((k'+1:Nat):Int))=true:=decide_eq_true (by omega)
           have hkpA:decide ((0:Int)<(k':Int)+1)=true:=decide_eq_true (by omega)
           have hkpB:decide (0<k'+1)=true:=decide_eq_true (by omega)
           have hkp2:IntKind.i64.wrap (((k'+1:Nat):Int)-1)=(k':Int):=by rw [show((k'+1:Nat):Int)-1=(k':Int) by omega];exact IntWalk.i64_in _ (by omega)
           have hkI':(k':Int)<(m1:Int):=by omega
           have hnx:runOK M L p.rt (prevAt p.runs (k'+1)) (xk:Int)=aheadB r' r:=by rw [hprtH.out,←hrqH.out,runOK_next hx2.out.1 hx2.out.2 hx',hra,hra']
           clear hx' hA6 hpin hr1 hr2 hAL hra hra' ra1 ra2 rb1 rb2 hc1 hc2 hc3 hc4 hb6 hbL'
           cases hab:aheadB r' r with
           |false=>
            rw [hab] at hah hnx
            have hbad:Hid (okPat M L P=false):=ok_row hpH.out hxH.out hnx
            clear hab hnx hfx
            go_wp2_with fail
            go_upto_region 11 with fail
            refine wp_region_below wr.heap.size (by kernel_rfl) (by kernel_rfl) ?_
            intro C hC
            repeat(go_big_quiet_step (first
             |((intro _;with_reducible rfl))
             |(intro hc;have hcw:=hbr.out.trans (hc.mono hbr.out.size);have m0:=hlk.out _ hc;have m1:=(hc.cell (p:=⟨b1,_,none⟩) l1r).trans y10;have m2:=(hcw.cell (p:=⟨bL,_,none⟩) hbL).trans t0;have m3:=(hcw.cell (p:=⟨bT,_,none⟩) hbT).trans z0;have m4:=(hc.cell (p:=⟨bx,_,none⟩) lxr).trans q0;have m5:=(hc.cell (p:=⟨bx,_,none⟩) lxr).trans q1;have m6:=(hcw.cell (p:=⟨b5,_,none⟩) hb5).trans v6;have m7:=(hcw.cell (p:=⟨bL,_,none⟩) hbL).trans t1;have m8:=(hcw.cell (p:=⟨bL,_,none⟩) hbL).trans t2;have m9:=(hcw.cell (p:=⟨bL,_,none⟩) hbL).trans t3;have m10:=(hcw.cell (p:=⟨bL,_,none⟩) hbL).trans s0;have m11:=(hcw.cell (p:=⟨bL,_,none⟩) hbL).trans s1;have m12:=(hcw.cell (p:=⟨bL,_,none⟩) hbL).trans s2;have m13:=(hcw.cell (p:=⟨bL,_,none⟩) hbL).trans s3;simp only [m0,m1,m2,m3,m4,m5,m6,m7,m8,m9,m10,m11,m12,m13,Result.andThen];exact⟨trivial,rfl⟩)
             |(intro hc;have hcw:=hbr.out.trans (hc.mono hbr.out.size);(with_reducible refine(hah.out _ hcw).mono ?_);rintro e w'' ⟨rfl,hw⟩;exact⟨rfl,hc.trans (hw.mono hc.size)⟩)))
            refine wpQuiet_nil ?_
            intro w9 hb9
            clear hC
            go_wp2_with fail
            go_returns
            exact⟨ret_int (by rw [←hck.out,hbad.out];rfl),hbr.out.trans (hb9.mono hbr.out.size)⟩
           |true=>
            rw [hab] at hah hnx
            have hrow7:Hid (RowK M L p.rt p.runs (k'+1+1)):=hrow.out.step hxH.out hnx
            have hseen7:Hid (SeenI (updI f (xk:Int) 1) (gone P a p.runs (k'+1+1))):=by show SeenI _ _;rw [gone_step hxH.out];exact hseen.out.push hfx
            have hN7:Hid (N+1=(gone P a p.runs (k'+1+1)).length):=by show _=_;rw [gone_step hxH.out,List.length_append,←hN.out];rfl
            clear hab hnx
            go_wp2_with fail
            go_upto_region 11 with fail
            refine wp_region_below wr.heap.size (by kernel_rfl) (by kernel_rfl) ?_
            intro C hC
            repeat(go_big_quiet_step (first
             |((intro _;with_reducible rfl))
             |(intro hc;have hcw:=hbr.out.trans (hc.mono hbr.out.size);have m0:=hlk.out _ hc;have m1:=(hc.cell (p:=⟨b1,_,none⟩) l1r).trans y10;have m2:=(hcw.cell (p:=⟨bL,_,none⟩) hbL).trans t0;have m3:=(hcw.cell (p:=⟨bT,_,none⟩) hbT).trans z0;have m4:=(hc.cell (p:=⟨bx,_,none⟩) lxr).trans q0;have m5:=(hc.cell (p:=⟨bx,_,none⟩) lxr).trans q1;have m6:=(hcw.cell (p:=⟨b5,_,none⟩) hb5).trans v6;have m7:=(hcw.cell (p:=⟨bL,_,none⟩) hbL).trans t1;have m8:=(hcw.cell (p:=⟨bL,_,none⟩) hbL).trans t2;have m9:=(hcw.cell (p:=⟨bL,_,none⟩) hbL).trans t3;have m10:=(hcw.cell (p:=⟨bL,_,none⟩) hbL).trans s0;have m11:=(hcw.cell (p:=⟨bL,_,none⟩) hbL).trans s1;have m12:=(hcw.cell (p:=⟨bL,_,none⟩) hbL).trans s2;have m13:=(hcw.cell (p:=⟨bL,_,none⟩) hbL).trans s3;simp only [m0,m1,m2,m3,m4,m5,m6,m7,m8,m9,m10,m11,m12,m13,Result.andThen];exact⟨trivial,rfl⟩)
             |(intro hc;have hcw:=hbr.out.trans (hc.mono hbr.out.size);(with_reducible refine(hah.out _ hcw).mono ?_);rintro e w'' ⟨rfl,hw⟩;exact⟨rfl,hc.trans (hw.mono hc.size)⟩)))
            refine wpQuiet_nil ?_
            intro w9 hb9
            clear hC
            have h9w:=Lib.hid (hbr.out.trans (hb9.mono hbr.out.size))
            have hM9:=Lib.hid (hM.out.below hb9)
            have hbut9:=Lib.hid (hbut.out.trans (But.of_below hb9 [mk]))
            clear hb9 hlk
            obtain⟨W7,hrun,M7,hturn⟩:=hM9.out.store (v:=1) Tryz.underlying119 Tryz.underlying3 Tryz.underlying3 (by omega) hwx (by decide)
            rw [hfx] at M7
            have hbut7:=Lib.hid (hbut9.out.trans (but_turned hturn (by simp)))
            have M7:=Lib.hid M7
            clear hturn hfx hM9 hbut9
            go_wp2_with fail
            go_roundw
            case rel=>exact⟨k'+1+1,_,N+1,by omega,by go_num,M7,hseen7,hrow7,hN7,by omega,hbut7⟩
            case measure=>simp [intOf];omega
         ·have hrr:(rq !=prt)=true:=by simp [hrt]
          have hbad:Hid (okPat M L P=false):=ok_row hpH.out hxH.out (runOK_rt (by rw [hrqH.out,hprtH.out];exact hrt))
          clear hfx ra1 ra2 hc1 hc2 hr1 t1 t2 t3
          go_wp2_with fail
          go_upto_region 11 with fail
          refine wp_region_below wr.heap.size (by kernel_rfl) (by kernel_rfl) ?_
          intro C hC
          repeat(go_big_quiet_step (first
           |((intro _;with_reducible rfl))
           |(intro hc;have hcw:=hbr.out.trans (hc.mono hbr.out.size);have m0:=hlk.out _ hc;have m1:=(hc.cell (p:=⟨b1,_,none⟩) l1r).trans y10;have m2:=(hcw.cell (p:=⟨bL,_,none⟩) hbL).trans t0;have m3:=(hcw.cell (p:=⟨bT,_,none⟩) hbT).trans z0;have m4:=(hc.cell (p:=⟨bx,_,none⟩) lxr).trans q0;simp only [m0,m1,m2,m3,m4,Result.andThen];exact⟨trivial,rfl⟩)
          ))
          refine wpQuiet_nil ?_
          intro w9 hb9
          clear hC
          go_wp2_with fail
          go_returns
          exact⟨ret_int (by rw [←hck.out,hbad.out];rfl),hbr.out.trans (hb9.mono hbr.out.size)⟩
     ·obtain rfl:k=m1:=by omega
      have hs':Hid (SeenI f (gone P (a+1) [] 0)):=by have:=hseen.out;rw [←hml.out,gone_next (l:=[]) hpH.out] at this;exact this
      have hN':Hid (N=(gone P (a+1) [] 0).length):=by have:=hN.out;rw [←hml.out,gone_next (l:=[]) hpH.out] at this;exact this
      have hrows':Hid (RowsOK M L P (a+1)):=hrows.out.step hpH.out (by rw [hml.out];exact hrow.out)
      have hbut':=Lib.hid (hbut4.out.trans hbut.out)
      go_wp2_with fail
      go_roundw
      case rel=>exact⟨a+1,f,N,by omega,by go_num,hM,hs',hrows',hN',by omega,hbut'⟩
      case measure=>simp [intOf];omega
   ·obtain rfl:a=m:=by omega
    have hbr:=hbr0
    have hok:=ok_all (P:=P) (M:=M) (L:=L) (by rw [hPn.out];exact hrows.out) (by have:=hseen.out;rw [←hPn.out,gone_all] at this;exact this)
    have hNl:N=(P.flatMap PatP.runs).length :=by have:=hN.out;rw [←hPn.out,gone_all] at this;exact this
    have hln:=mapI_len hM.out Tryz.underlying119 3
    rw [←hNl,hLn.out] at hok
    have hckH:=Lib.hid hck.out
    by_cases hNn:N=n
    ·subst hNn
     have hr0:(0:Int)=cRes:=by rw [←hckH.out,hok];simp
     have hnn:((N:Int) !=(N:Int))=false:=by simp
     have hr0:=Lib.hid hr0
     clear hck hckH hok hNl
     go_wp2_with (at_builtin;refine wpList_maplen ?b1 (.tmp 88) 119 ?b2 ?b3 hln ?_)
     try(case b1=>rfl)
     try(case b2=>rfl)
     try(case b3=>rfl)
     go_returns
     exact⟨ret_int hr0.out,hbr.out⟩
    ·have hr0:(2:Int)=cRes:=by rw [←hckH.out,hok,decide_eq_false hNn];rfl
     have hnn:((N:Int) !=(n:Int))=true:=by simp;omega
     have hr0:=Lib.hid hr0
     clear hck hckH hok hNl
     go_wp2_with (at_builtin;refine wpList_maplen ?b4 (.tmp 88) 119 ?b5 ?b6 hln ?_)
     try(case b4=>rfl)
     try(case b5=>rfl)
     try(case b6=>rfl)
     go_returns
     exact⟨ret_int hr0.out,hbr.out⟩
 ·have hck:Hid (errC M L=cRes):=by rw [←hcResH.out];exact(if_neg he).symm
  have hne:(errC M L !=0)=true:=by simp [he]
  clear he hcResH
  go_wp2_with fail
  clear hw1 hbE1
  go_returns
  exact⟨ret_int hck.out,h2w.out⟩
end Go.Proofs.YtechdefolfboeaaGreatDoor
