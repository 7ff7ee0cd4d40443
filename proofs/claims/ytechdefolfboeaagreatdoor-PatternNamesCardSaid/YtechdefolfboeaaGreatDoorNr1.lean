/- Texts of one chain, merged. -/
import Derived.Test.YtechdefolfboeaaGreatDoorQr1
import Derived.Test.YtechdefolfboeaaGreatDoorQr2
import Derived.Test.YtechdefolfboeaaGreatDoorQr3
import Derived.Test.YtechdefolfboeaaGreatDoorQr4
import Derived.Test.YtechdefolfboeaaGreatDoorQr5
import Derived.Test.YtechdefolfboeaaGreatDoorQr6
import Derived.Test.YtechdefolfboeaaGreatDoorQr7
import Derived.Test.YtechdefolfboeaaGreatDoorQr8
import Derived.Test.YtechdefolfboeaaGreatDoorQr9
import Derived.Test.YtechdefolfboeaaGreatDoorQr10
import Derived.Test.YtechdefolfboeaaGreatDoorQr11
import Derived.Test.YtechdefolfboeaaGreatDoorQr12
import Derived.Test.YtechdefolfboeaaGreatDoorQr13
import Derived.Test.YtechdefolfboeaaGreatDoorQr14
import Derived.Test.YtechdefolfboeaaGreatDoorQr15
import Derived.Test.YtechdefolfboeaaGreatDoorQr16
import Derived.Test.YtechdefolfboeaaGreatDoorQr17
import Derived.Test.YtechdefolfboeaaGreatDoorQr18
import Derived.Test.YtechdefolfboeaaGreatDoorQr19
import Derived.Test.YtechdefolfboeaaGreatDoorQr20
import Derived.Test.YtechdefolfboeaaGreatDoorQr21
import Derived.Test.YtechdefolfboeaaGreatDoorQr22
import Derived.Test.YtechdefolfboeaaGreatDoorQr23
import Derived.Test.YtechdefolfboeaaGreatDoorQr24
import Derived.Test.YtechdefolfboeaaGreatDoorQr25
import Derived.Test.YtechdefolfboeaaGreatDoorQr26
import Derived.Test.YtechdefolfboeaaGreatDoorQr27
import Derived.Test.YtechdefolfboeaaGreatDoorQr28
import Derived.Test.YtechdefolfboeaaGreatDoorQr29
import Derived.Test.YtechdefolfboeaaGreatDoorQr30
import Derived.Test.YtechdefolfboeaaGreatDoorQr31
import Derived.Test.YtechdefolfboeaaGreatDoorQr32
import Derived.Test.YtechdefolfboeaaGreatDoorQr33
import Derived.Test.YtechdefolfboeaaGreatDoorQr34
import Derived.Test.YtechdefolfboeaaGreatDoorQr35
import Derived.Test.YtechdefolfboeaaGreatDoorQr36
import Derived.Test.YtechdefolfboeaaGreatDoorQr37
import Derived.Test.YtechdefolfboeaaGreatDoorQr38
import Derived.Test.YtechdefolfboeaaGreatDoorQr39
import Derived.Test.YtechdefolfboeaaGreatDoorQr40
import Derived.Test.YtechdefolfboeaaGreatDoorQr41
import Derived.Test.YtechdefolfboeaaGreatDoorQr42
import Derived.Test.YtechdefolfboeaaGreatDoorQr43
import Derived.Test.YtechdefolfboeaaGreatDoorQr44
import Derived.Test.YtechdefolfboeaaGreatDoorQr45
import Derived.Test.YtechdefolfboeaaGreatDoorQr46
import Derived.Test.YtechdefolfboeaaGreatDoorQr47
import Derived.Test.YtechdefolfboeaaGreatDoorQr48
import Derived.Test.YtechdefolfboeaaGreatDoorQr49
import Derived.Test.YtechdefolfboeaaGreatDoorQr50
import Derived.Test.YtechdefolfboeaaGreatDoorQr51
import Derived.Deep.QuietTactic
import Derived.Laws.MakeOwn
import Derived.OwnWalk
namespace Go.Proofs.YtechdefolfboeaaGreatDoor
open Go.RowKit B K
set_option linter.unusedVariables false
set_option linter.unusedSimpArgs false
set_option maxRecDepth 100000
set_option maxHeartbeats 2000000
def ofFrom (x:Int):Nat→List PatP→Int×Int
 |_,[]=>(-1, -1)
 |i,p::r=>if 0≤idx (fun y=>x==y) p.runs then((i:Int),idx (fun y=>x==y) p.runs) else ofFrom x (i+1) r
def ofP (P:List PatP) (x:Int):Int×Int:=ofFrom x 0 P
theorem paOf_any (A:Option Addr) (n c:Nat) (P:List PatP) (x:Int) (we:World) (hP:RPats we A n P) (hn:n≤100000) (hps: ∀ p∈P,p.runs.length≤100000):
 Calls Tryz.prog 45 #[.slice A n c,.int .i64 x] we fun e w'=>e= .returned (.tuple #[.int .i64 (ofP P x).1,.int .i64 (ofP P x).2])∧Below we.heap.size we w':=by
 have hPH:=Lib.hid hP
 have hpsH:=Lib.hid hps
 have hPn:=Lib.hid hP.len
 obtain⟨r,hr⟩: ∃ r,ofP P x=r:=⟨_,rfl⟩
 rw [hr]
 have hres:Hid (ofFrom x 0 (P.drop 0)=r):=hr
 clear hP hps hr
 go_enter Tryz.func45,Tryz.ntmps45
 go_wp2_with fail
 go_loopw [11] (fun iv wr=> ∃ i:Nat,i≤n∧iv= .int .i64 i∧Hid (ofFrom x i (P.drop i)=r)∧Hid (Below we.heap.size we wr)) (fun iv _=>n-(intOf iv).toNat)
 case atStart=>exact⟨0,Nat.zero_le _,rfl,hres,Below.refl _ _⟩
 case round=>
  clear hres
  obtain⟨i,hi,rfl,hres,hb⟩:=hrel
  by_cases hin:i<n
  ·have hinI:(i:Int)<(n:Int):=by omega
   obtain⟨bp,op,p,A1,n1,d1,rfl,hbp,hp,g0,g1,r1,_⟩:=hPH.out.get hin
   have hpl:n1≤1099511627776:=by rw [←r1.len];have:=hpsH.out p (List.mem_of_getElem? hp);omega
   have z0:=(hb.out.cell (p:=⟨bp,_,none⟩) hbp).trans g0
   have z1:=(hb.out.cell (p:=⟨bp,_,none⟩) hbp).trans g1
   have r1H:=Lib.hid (r1.below hb.out)
   have hst:=hres.out
   rw [drop_at hp] at hst
   unfold ofFrom at hst
   have hstH:=Lib.hid hst
   obtain⟨prt,hprt⟩: ∃ q,p.rt=q:=⟨_,rfl⟩
   rw [hprt] at z0
   obtain⟨rs,hrs⟩: ∃ q,p.runs=q:=⟨_,rfl⟩
   rw [hrs] at r1H hstH
   clear g0 g1 r1 hst hp hprt hrs hres
   obtain⟨w4,bx,hw4,hbxE,hbw4,Bw4⟩:=box1 wr 68 [.int .i64 prt,.slice A1 n1 d1]
   have q1:=Bw4.cell 1 rfl
   have h4:=Lib.hid (hb.out.trans (hbw4.mono hb.out.size))
   have hix:=Lib.hid (ixInt_any A1 n1 d1 rs x w4 (r1H.out.below hbw4) hpl)
   obtain⟨k,hk⟩: ∃ k,idx (fun y=>x==y) rs=k:=⟨_,rfl⟩
   rw [hk] at hix hstH
   clear hbw4 Bw4 hk
   go_wp2_with fail
   refine hix.out.mono ?_;rintro e w5 ⟨rfl,rfl⟩
   by_cases hk0:0≤k
   ·have hge:decide (0≤k)=true:=decide_eq_true hk0
    have hst:=hstH.out
    rw [if_pos hk0] at hst
    subst hst
    clear hstH hix
    go_wp2_with fail
    clear hw4 hbxE
    go_returns
    exact⟨rfl,h4.out⟩
   ·have hge:decide (0≤k)=false:=decide_eq_false hk0
    have hst:=hstH.out
    rw [if_neg hk0] at hst
    have hst:=Lib.hid hst
    rename_i hstX
    clear hstX hstH hix
    go_wp2_with fail
    clear hw4 hbxE
    go_roundw
    case rel=>exact⟨i+1,by omega,by go_num,hst,h4⟩
    case measure=>simp [intOf];omega
  ·obtain rfl:i=n:=by omega
   have hst:=hres.out
   rw [List.drop_eq_nil_of_le (by rw [hPn.out];exact Nat.le_refl _)] at hst
   unfold ofFrom at hst
   subst hst
   clear hres
   go_wp2_with fail
   go_returns
   exact⟨rfl,hb.out⟩
theorem eqI_any (A:Option Addr) (n c:Nat) (l:List Int) (A':Option Addr) (n' c':Nat) (l':List Int) (w:World) (hr:Rd w 1 (numE .i64) A n l) (hr':Rd w 1 (numE .i64) A' n' l') (hn:n≤1099511627776) (hn':n'≤1099511627776):
 Calls Tryz.prog 91 #[.slice A n c,.slice A' n' c'] w fun e w'=>e= .returned (.bool (decide (l=l')))∧Below w.heap.size w w':=by
 go_enter Tryz.func91,Tryz.ntmps91
 by_cases hnn:n=n'
 ·subst hnn
  go_wp2
  go_loopw [13] (fun i wr=> ∃ (k:Nat),k≤n∧i= .int .i64 k∧Below w.heap.size w wr∧Hid (l.take k=l'.take k)) (fun i _=>n-(intOf i).toNat)
  case atStart=>exact⟨0,Nat.zero_le _,rfl,Below.refl _ _,rfl⟩
  case round=>
   obtain⟨k,hk,rfl,hb,heq⟩:=hrel
   by_cases hlt:k<n
   ·obtain⟨b,o,x,rfl,hbs,hl,g0⟩:=(hr.below hb).num hlt
    obtain⟨b',o',y,rfl,hbs',hl',f0⟩:=(hr'.below hb).num hlt
    have hl:=Lib.hid hl
    have hl':=Lib.hid hl'
    rename_i hx1 hx2;clear hx1 hx2
    have hlt2:(k:Int)<(n:Int):=by omega
    by_cases e1:x=y
    ·subst e1
     go_wp2
     go_quiet (fail)
     go_wp2
     go_roundw
     case rel=>exact⟨k+1,by omega,by go_num,below_drewN' hb _,by show _=_;rw [take_at hl.out,take_at hl'.out,heq.out]⟩
     case measure=>simp [intOf];omega
    ·have hn:(x !=y)=true:=by simp [e1]
     have hll:Hid (l≠l'):=by
      intro e
      have:=hl.out;rw [e,hl'.out] at this
      exact e1 (Option.some.inj this).symm
     clear e1
     go_wp2
     go_quiet (fail)
     go_wp2
     go_returns
     exact⟨ret_bool (by symm;rw [decide_eq_false_iff_not];exact hll.out),below_drewN' hb _⟩
   ·go_wp2
    go_returns
    exact⟨ret_bool (by symm;rw [decide_eq_true_eq];have:=heq.out;rwa [List.take_of_length_le (by rw [hr.len];omega),List.take_of_length_le (by rw [hr'.len];omega)] at this),hb⟩
 ·have hne:((n:Int) !=(n':Int))=true:=by simp;omega
  go_wp2
  go_returns
  exact⟨ret_bool (by symm;rw [decide_eq_false_iff_not];intro e;exact hnn (by rw [←hr.len,←hr'.len,e])),Below.refl _ _⟩
theorem patP_ext {p q:PatP} (h1:p.rt=q.rt) (h2:p.runs=q.runs):p=q:=by cases p;cases q;cases h1;cases h2;rfl
theorem paSame1_any (r1 r2:Int) (A1 A2:Option Addr) (n1 c1 n2 c2:Nat) (p q:PatP) (we:World) (e1:r1=p.rt) (e2:r2=q.rt) (h1:Rd we 1 (numE .i64) A1 n1 p.runs) (h2:Rd we 1 (numE .i64) A2 n2 q.runs) (hn1:n1≤1099511627776) (hn2:n2≤1099511627776):
 Calls Tryz.prog 90 #[.agg #[.int .i64 r1,.slice A1 n1 c1],.agg #[.int .i64 r2,.slice A2 n2 c2]] we fun e w'=>e= .returned (.bool (decide (p=q)))∧Below we.heap.size we w':=by
 have h1H:=Lib.hid h1
 have h2H:=Lib.hid h2
 obtain⟨v,hv⟩: ∃ v,decide (p=q)=v:=⟨_,rfl⟩
 rw [hv]
 have hvH:=Lib.hid hv
 obtain⟨w1,w2,b1,b2,hw1,hw2,hbE1,hbE2,hbF2,hb1,hb2,hup,B1,B2,hge1,hge2⟩:=enter2 we 68 68 [.int .i64 r1,.slice A1 n1 c1] [.int .i64 r2,.slice A2 n2 c2]
 have p0:=B1.cell 0 rfl
 have p1:=B1.cell 1 rfl
 have q0:=B2.cell 0 rfl
 have q1:=B2.cell 1 rfl
 have heq:=Lib.hid (eqI_any A1 n1 c1 p.runs A2 n2 c2 q.runs w2 (h1H.out.below hup.out) (h2H.out.below hup.out) hn1 hn2)
 clear h1 h2 hb1 hb2 B1 B2 hv
 by_cases hrr:r1=r2
 ·have hfin:decide (p.runs=q.runs)=v:=by rw [←hvH.out,decide_eq_decide];exact⟨fun h=>patP_ext (by rw [←e1,←e2];exact hrr) h,fun h=>by rw [h]⟩
  rw [hfin] at heq
  subst hrr
  clear hfin e1 e2
  go_enter Tryz.func90,Tryz.ntmps90
  go_wp2_with fail
  refine heq.out.mono ?_;rintro e w3 ⟨rfl,hb3⟩
  have h3:=Lib.hid (hup.out.trans (hb3.mono hup.out.size))
  clear hw1 hw2 hbE1 hbE2 hbF2 hb3
  go_wp2_with fail
  go_returns
  exact⟨rfl,h3.out⟩
 ·have hfin:v=false:=by rw [←hvH.out];exact decide_eq_false fun h=>hrr (by rw [e1,e2,h])
  have hr0:(r1==r2)=false:=by simp [hrr]
  subst hfin
  clear hrr e1 e2
  go_enter Tryz.func90,Tryz.ntmps90
  go_wp2_with fail
  clear hw1 hw2 hbE1 hbE2 hbF2
  go_returns
  exact⟨rfl,hup.out⟩
theorem eqfPat_any (A:Option Addr) (n c:Nat) (P:List PatP) (A':Option Addr) (n' c':Nat) (Q:List PatP) (we:World) (hP:RPats we A n P) (hQ:RPats we A' n' Q) (hn:n≤100000) (hn':n'≤100000) (hp: ∀ p∈P,p.runs.length≤100000) (hq: ∀ p∈Q,p.runs.length≤100000):
 Calls Tryz.prog 89 #[.slice A n c,.slice A' n' c',.func (.func 90) #[] #[]] we fun e w'=>e= .returned (.bool (decide (P=Q)))∧Below we.heap.size we w':=by
 have hPH:=Lib.hid hP
 have hQH:=Lib.hid hQ
 have hpH:=Lib.hid hp
 have hqH:=Lib.hid hq
 have hPn:=Lib.hid hP.len
 have hQn:=Lib.hid hQ.len
 clear hP hQ hp hq
 go_enter Tryz.func89,Tryz.ntmps89
 by_cases hnn:n=n'
 ·subst hnn
  go_wp2_with fail
  go_loopw [17] (fun i wr=> ∃ (k:Nat),k≤n∧i= .int .i64 k∧Hid (Below we.heap.size we wr)∧Hid (P.take k=Q.take k)) (fun i _=>n-(intOf i).toNat)
  case atStart=>exact⟨0,Nat.zero_le _,rfl,Below.refl _ _,rfl⟩
  case round=>
   obtain⟨k,hk,rfl,hb,heq⟩:=hrel
   by_cases hlt:k<n
   ·have hltI:(k:Int)<(n:Int):=by omega
    obtain⟨bp,op,p,A1,n1,d1,rfl,hbp,hp,g0,g1,s1,_⟩:=hPH.out.get hlt
    obtain⟨bq,oq,q,A2,n2,d2,rfl,hbq,hq,k0,k1,s2,_⟩:=hQH.out.get hlt
    have hl1:n1≤1099511627776:=by rw [←s1.len];have:=hpH.out p (List.mem_of_getElem? hp);omega
    have hl2:n2≤1099511627776:=by rw [←s2.len];have:=hqH.out q (List.mem_of_getElem? hq);omega
    have hpX:=Lib.hid hp
    have hqX:=Lib.hid hq
    obtain⟨rp,hrp⟩: ∃ y,p.rt=y:=⟨_,rfl⟩
    obtain⟨rq,hrq⟩: ∃ y,q.rt=y:=⟨_,rfl⟩
    rw [hrp] at g0
    rw [hrq] at k0
    have z0:=(hb.out.cell (p:=⟨bp,_,none⟩) hbp).trans g0
    have z1:=(hb.out.cell (p:=⟨bp,_,none⟩) hbp).trans g1
    obtain⟨w4,b4,hw4,hb4E,hbw4,Bw4⟩:=box1 wr 68 [.int .i64 rp,.slice A1 n1 d1]
    have h4:=Lib.hid (hb.out.trans (hbw4.mono hb.out.size))
    have y0:=(h4.out.cell (p:=⟨bq,_,none⟩) hbq).trans k0
    have y1:=(h4.out.cell (p:=⟨bq,_,none⟩) hbq).trans k1
    obtain⟨w5,b5,hw5,hb5E,hbw5,Bw5⟩:=box1 w4 68 [.int .i64 rq,.slice A2 n2 d2]
    have h5:=Lib.hid (h4.out.trans (hbw5.mono h4.out.size))
    have Bw4':=Bw4.below hbw5
    have v0:=Bw4'.cell 0 rfl
    have v1:=Bw4'.cell 1 rfl
    have u0:=Bw5.cell 0 rfl
    have u1:=Bw5.cell 1 rfl
    have hcl:=Lib.hid (paSame1_any rp rq A1 A2 n1 d1 n2 d2 p q w5 hrp.symm hrq.symm (s1.below h5.out) (s2.below h5.out) hl1 hl2)
    have hy:Hid (∀ v,decide (p=q)=v→v=true→P.take (k+1)=Q.take (k+1)):=fun v h hv=>by
     subst hv
     rw [take_at hpX.out,take_at hqX.out,heq.out,of_decide_eq_true h]
    have hno:Hid (∀ v,decide (p=q)=v→v=false→P≠Q):=fun v h hv e=>by
     subst hv
     have h1:=hpX.out
     rw [e,hqX.out] at h1
     exact of_decide_eq_false h (Option.some.inj h1).symm
    obtain⟨v,hv⟩: ∃ v,decide (p=q)=v:=⟨_,rfl⟩
    rw [hv] at hcl
    have hyes:=Lib.hid (hy.out v hv)
    have hnot:=Lib.hid (hno.out v hv)
    clear hy hno hv hp hq g0 g1 k0 k1 s1 s2 hrp hrq hbw4 hbw5 Bw4 Bw5 Bw4' heq
    go_wp2_with fail
    refine hcl.out.mono ?_;rintro e w6 ⟨rfl,hb6⟩
    have h6:=Lib.hid (h5.out.trans (hb6.mono h5.out.size))
    clear hb6 hw4 hw5 hb4E hb5E z0 z1 y0 y1 v0 v1 u0 u1
    cases v with
    |true=>
     have heq':=Lib.hid (hyes.out rfl)
     clear hyes hnot
     go_wp2_with fail
     go_roundw
     case rel=>exact⟨k+1,by omega,by go_num,h6,heq'⟩
     case measure=>simp [intOf];omega
    |false=>
     have hne:=Lib.hid (hnot.out rfl)
     clear hyes hnot
     go_wp2_with fail
     go_returns
     exact⟨ret_bool (by symm;rw [decide_eq_false_iff_not];exact hne.out),h6.out⟩
   ·go_wp2_with fail
    go_returns
    exact⟨ret_bool (by symm;rw [decide_eq_true_eq];have:=heq.out;rwa [List.take_of_length_le (by rw [hPn.out];omega),List.take_of_length_le (by rw [hQn.out];omega)] at this),hb.out⟩
 ·have hne:((n:Int) !=(n':Int))=true:=by simp;omega
  go_wp2_with fail
  go_returns
  exact⟨ret_bool (by symm;rw [decide_eq_false_iff_not];intro e;exact hnn (by rw [←hPn.out,←hQn.out,e])),Below.refl _ _⟩
theorem paSame_any (A:Option Addr) (n c:Nat) (P:List PatP) (A':Option Addr) (n' c':Nat) (Q:List PatP) (we:World) (hP:RPats we A n P) (hQ:RPats we A' n' Q) (hn:n≤100000) (hn':n'≤100000) (hp: ∀ p∈P,p.runs.length≤100000) (hq: ∀ p∈Q,p.runs.length≤100000):
 Calls Tryz.prog 47 #[.slice A n c,.slice A' n' c'] we fun e w'=>e= .returned (.bool (decide (P=Q)))∧Below we.heap.size we w':=by
 have h:=Lib.hid (eqfPat_any A n c P A' n' c' Q we hP hQ hn hn' hp hq)
 clear hP hQ hp hq
 go_enter Tryz.func47,Tryz.ntmps47
 go_wp2_with fail
 refine h.out.mono ?_;rintro e w2 ⟨rfl,hb⟩
 have hbH:=Lib.hid hb
 clear hb
 go_wp2_with fail
 go_returns
 exact⟨rfl,hbH.out⟩
end Go.Proofs.YtechdefolfboeaaGreatDoor
namespace Go.Proofs.YtechdefolfboeaaGreatDoor
open Go.RowKit B K
set_option linter.unusedVariables false
set_option linter.unusedSimpArgs false
set_option maxRecDepth 100000
set_option maxHeartbeats 2000000
def L1:List RunP:=[⟨0,0,[5,5,12],[5,9,12]⟩,⟨1,0,[6,7,9],[6,7,9]⟩]
def MZ:WorldP:=⟨0,[],[],[],[],[],[],[],[],[],[],[]⟩
def VZ:WV:=⟨none,none,none,none,none,none,none,none,none,none,none,0,0,0,0,0,0,0,0,0,0,0,0,0,0,0,0,0,0,0,0,0,0⟩
theorem fewZ:Few MZ:=⟨by decide,by decide,by decide,by decide,by decide,by decide,by decide,by decide,by decide,by decide,by decide,fun r hr=>by simp [MZ] at hr⟩
theorem rwZ (w:World):RW w MZ VZ:=⟨Rd.nil,Rd.nil,Rd.nil,Rd.nil,Rd.nil,Rd.nil,Rd.nil,Rd.nil,⟨rfl,fun k r hk=>by simp [MZ] at hk⟩,Rd.nil,Rd.nil⟩
theorem errZ:errC MZ [⟨0,0,[],[]⟩]=2:=by kernel_rfl
theorem rruns_one {w:World} {b:Nat} (h:Bx w b 47 [.int .i64 0,.int .i64 0,.slice none 0 0,.slice none 0 0]):RRuns w (some ⟨b,0,none⟩) 1 [⟨0,0,[],[]⟩]:=by
 have D:=Rd.of_bx (enc:=rnE) (l:=[(0,0,(none,0,0),(none,0,0))]) rnE_len h
 refine⟨_,D,rfl,fun k e r he hr=>?_⟩
 match k,he,hr with
 |0,he,hr=>
  simp at he hr;subst he hr
  exact⟨rfl,rfl,Rd.nil,⟨Nat.le_refl _,Nat.le_of_ble_eq_true rfl⟩,Rd.nil,⟨Nat.le_refl _,Nat.le_of_ble_eq_true rfl⟩⟩
 |k+1,he,hr=>simp at he
end Go.Proofs.YtechdefolfboeaaGreatDoor
namespace Go.Proofs.YtechdefolfboeaaGreatDoor
open Go.RowKit B K
set_option linter.unusedVariables false
set_option linter.unusedSimpArgs false
set_option maxRecDepth 100000
set_option maxHeartbeats 2000000
def L2:List RunP:=[⟨0,0,[5,8,12],[5,9,12]⟩,⟨1,0,[6,9,13],[6,10,13]⟩]
def P2:List PatP:=[⟨0,[0,1]⟩]
theorem srt2:srtR L2 [0,1]=[0,1]:=by
 symm
 refine srtR_unique (List.Perm.refl _) ?_
 simp only [List.pairwise_cons,List.mem_cons,forall_eq_or_imp,List.not_mem_nil,false_implies,implies_true,and_true,List.Pairwise.nil]
 rfl
theorem makeP2:makeP M0 L2=P2:=by
 have h:makeP M0 L2=ofL L2 ((0:Nat):Int) (srtR L2 [0,1])++[]:=rfl
 rw [h,srt2]
 rfl
theorem err2:errC M0 L2=0:=by kernel_rfl
theorem resP2:resP M0 L2=P2:=by unfold resP;rw [if_pos err2,makeP2]
theorem resP_bad {M:WorldP} {L:List RunP} {e:Int} (h:errC M L=e) (h0:e≠0):resP M L=[]:=if_neg (by rw [h];exact h0)
theorem chk00:chkP M0 L0 P0=0:=by kernel_rfl
theorem chk02:chkP M0 L0 P2=2:=by kernel_rfl
theorem chk22:chkP M0 L2 P2=0:=by kernel_rfl
theorem of1:ofP P0 1=(1,0):=by kernel_rfl
theorem of7:ofP P0 7=(-1, -1):=by kernel_rfl
theorem catQ:catchP L2 [0,1] 3 0=2:=rfl
theorem same00:decide (P0=P0)=true:=decide_eq_true rfl
theorem same02:decide (P0=P2)=false:=by kernel_rfl
theorem dep2_le: ∀ r∈L2,r.dep.length≤100000:=by
 intro r hr
 simp only [L2,List.mem_cons,List.not_mem_nil,or_false] at hr
 rcases hr with rfl|rfl<;>decide
theorem len0_le: ∀ r∈L0,r.arr.length≤100000∧r.dep.length≤100000:=by
 intro r hr
 simp only [L0,List.mem_cons,List.not_mem_nil,or_false] at hr
 rcases hr with rfl|rfl<;>decide
theorem len2_le: ∀ r∈L2,r.arr.length≤100000∧r.dep.length≤100000:=by
 intro r hr
 simp only [L2,List.mem_cons,List.not_mem_nil,or_false] at hr
 rcases hr with rfl|rfl<;>decide
theorem pat0_le: ∀ p∈P0,p.runs.length≤100000:=by
 intro r hr
 simp only [P0,List.mem_cons,List.not_mem_nil,or_false] at hr
 rcases hr with rfl|rfl<;>decide
theorem pat2_le: ∀ p∈P2,p.runs.length≤100000:=by
 intro r hr
 simp only [P2,List.mem_cons,List.not_mem_nil,or_false] at hr
 subst hr;decide
theorem rruns_two {w:World} {b0 b1 b4 b5 b6:Nat} (C0:Bx w b0 2 [.int .i64 5,.int .i64 8,.int .i64 12]) (C1:Bx w b1 2 [.int .i64 5,.int .i64 9,.int .i64 12]) (C5:Bx w b5 2 [.int .i64 6,.int .i64 9,.int .i64 13]) (C6:Bx w b6 2 [.int .i64 6,.int .i64 10,.int .i64 13]) (C4:Bx w b4 47 [.int .i64 0,.int .i64 0,.slice (some ⟨b0,0,none⟩) 3 3,.slice (some ⟨b1,0,none⟩) 3 3,.int .i64 1,.int .i64 0,.slice (some ⟨b5,0,none⟩) 3 3,.slice (some ⟨b6,0,none⟩) 3 3]):
 RRuns w (some ⟨b4,0,none⟩) 2 L2∧RunT w (0,0,(some ⟨b0,0,none⟩,3,3),(some ⟨b1,0,none⟩,3,3)) ⟨0,0,[5,8,12],[5,9,12]⟩∧RunT w (1,0,(some ⟨b5,0,none⟩,3,3),(some ⟨b6,0,none⟩,3,3)) ⟨1,0,[6,9,13],[6,10,13]⟩:=by
 have D0:=Rd.of_bx (enc:=numE .i64) (l:=[5,8,12]) num_len C0
 have D1:=Rd.of_bx (enc:=numE .i64) (l:=[5,9,12]) num_len C1
 have D5:=Rd.of_bx (enc:=numE .i64) (l:=[6,9,13]) num_len C5
 have D6:=Rd.of_bx (enc:=numE .i64) (l:=[6,10,13]) num_len C6
 have D4:=Rd.of_bx (enc:=rnE) (l:=[(0,0,(some ⟨b0,0,none⟩,3,3),(some ⟨b1,0,none⟩,3,3)),(1,0,(some ⟨b5,0,none⟩,3,3),(some ⟨b6,0,none⟩,3,3))]) rnE_len C4
 have R0:RunT w (0,0,(some ⟨b0,0,none⟩,3,3),(some ⟨b1,0,none⟩,3,3)) ⟨0,0,[5,8,12],[5,9,12]⟩:=⟨rfl,rfl,D0,⟨Nat.le_refl _,Nat.le_of_ble_eq_true rfl⟩,D1,⟨Nat.le_refl _,Nat.le_of_ble_eq_true rfl⟩⟩
 have R1:RunT w (1,0,(some ⟨b5,0,none⟩,3,3),(some ⟨b6,0,none⟩,3,3)) ⟨1,0,[6,9,13],[6,10,13]⟩:=⟨rfl,rfl,D5,⟨Nat.le_refl _,Nat.le_of_ble_eq_true rfl⟩,D6,⟨Nat.le_refl _,Nat.le_of_ble_eq_true rfl⟩⟩
 refine⟨⟨_,D4,rfl,fun k e r he hr=>?_⟩,R0,R1⟩
 match k,he,hr with
 |0,he,hr=>
  simp [L2] at he hr;subst he hr
  exact R0
 |1,he,hr=>
  simp [L2] at he hr;subst he hr
  exact R1
 |k+2,he,hr=>simp at he
theorem rpats_both {w:World} {bi bp:Nat} (C0:Bx w bi 3 [.int .i64 0,.int .i64 1]) (C1:Bx w bp 68 [.int .i64 0,.slice (some ⟨bi,0,none⟩) 2 2]):RPats w (some ⟨bp,0,none⟩) 1 P2:=by
 have D0:=Rd.of_bx (enc:=numE .i64) (l:=[0,1]) num_len C0
 have D1:=Rd.of_bx (enc:=patE) (l:=[(0,(some ⟨bi,0,none⟩,2,2))]) patE_len C1
 refine⟨_,D1,rfl,fun k e r he hr=>?_⟩
 match k,he,hr with
 |0,he,hr=>
  simp [P2] at he hr;subst he hr
  exact⟨rfl,D0,⟨Nat.le_refl _,Nat.le_of_ble_eq_true rfl⟩⟩
 |k+1,he,hr=>simp at he
theorem runs20_own (we:World):Calls Tryz.prog 44 #[] we fun e w'=> ∃ b0 b1 b2 b3 b4,e= .returned (.slice (some ⟨b4,0,none⟩) 2 2)∧we.heap.size≤b0∧(b0<b1∧b1<b2∧b2<b3∧b3<b4)∧
 Bx w' b0 2 [.int .i64 5,.int .i64 8,.int .i64 12]∧Bx w' b1 2 [.int .i64 5,.int .i64 9,.int .i64 12]∧Bx w' b4 47 [.int .i64 0,.int .i64 0,.slice (some ⟨b0,0,none⟩) 3 3,.slice (some ⟨b1,0,none⟩) 3 3,.int .i64 1,.int .i64 0,.slice (some ⟨b2,0,none⟩) 3 3,.slice (some ⟨b3,0,none⟩) 3 3]∧Below we.heap.size we w':=by
 obtain⟨v0,b0,hv0,hb0E,hb0,B0⟩:=box1 we 2 [.int .i64 5,.int .i64 8,.int .i64 12]
 obtain⟨v1,b1,hv1,hb1E,hb1,B1⟩:=box1 v0 2 [.int .i64 5,.int .i64 9,.int .i64 12]
 obtain⟨v2,b2,hv2,hb2E,hb2,B2⟩:=box1 v1 2 [.int .i64 6,.int .i64 7,.int .i64 9]
 obtain⟨v3,b3,hv3,hb3E,hb3,B3⟩:=box1 v2 2 [.int .i64 6,.int .i64 7,.int .i64 9]
 obtain⟨v4,b4,hv4,hb4E,hb4,B4⟩:=box1 v3 47 [.int .i64 0,.int .i64 0,.slice (some ⟨b0,0,none⟩) 3 3,.slice (some ⟨b1,0,none⟩) 3 3,.int .i64 1,.int .i64 0,.slice (some ⟨b2,0,none⟩) 3 3,.slice (some ⟨b3,0,none⟩) 3 3]
 have hup0:Below we.heap.size we v0:=hb0
 have hup1:Below we.heap.size we v1:=hup0.trans (hb1.mono hup0.size)
 have hup2:Below we.heap.size we v2:=hup1.trans (hb2.mono hup1.size)
 have hup3:Below we.heap.size we v3:=hup2.trans (hb3.mono hup2.size)
 have hup4:Below we.heap.size we v4:=hup3.trans (hb4.mono hup3.size)
 have C0:=Lib.hid (((((B0).below hb1).below hb2).below hb3).below hb4)
 have C1:=Lib.hid ((((B1).below hb2).below hb3).below hb4)
 have C2:=Lib.hid (((B2).below hb3).below hb4)
 have C3:=Lib.hid ((B3).below hb4)
 have C4:=Lib.hid (B4)
 have hup:=Lib.hid hup4
 have g0:we.heap.size≤b0:=by omega
 have o1:b0<b1:=by have:=B0.lt;omega
 have o2:b1<b2:=by have:=B1.lt;omega
 have o3:b2<b3:=by have:=B2.lt;omega
 have o4:b3<b4:=by have:=B3.lt;omega
 have hne:b0<b1∧b1<b2∧b2<b3∧b3<b4:=⟨o1,o2,o3,o4⟩
 have hneH:=Lib.hid hne
 have g0H:=Lib.hid g0
 clear B0 B1 B2 B3 B4 hup0 hup1 hup2 hup3 hup4 hne g0 o1 o2 o3 o4
 go_enter Tryz.func44,Tryz.ntmps44
 go_wp2_with fail
 clear hv0 hb0E hv1 hb1E hv2 hb2E hv3 hb3E hv4 hb4E
 go_returns
 exact⟨b0,b1,b2,b3,b4,rfl,g0H.out,hneH.out,C0.out,C1.out,C4.out,hup.out⟩
end Go.Proofs.YtechdefolfboeaaGreatDoor
