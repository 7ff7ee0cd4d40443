/- Merged. -/
import Derived.Test.YtechdefolfboeaaGreatDoorPd34
set_option linter.unusedVariables false
set_option linter.unusedSimpArgs false
set_option maxRecDepth 100000
set_option maxHeartbeats 8000000
namespace Go.Proofs.YtechdefolfboeaaGreatDoor.B
open Go.RowKit Go.ChangeShapes Go.WideShapes Go.Deep Go.Joins
section
variable {H:Type} {encH:TypeId×Value ->H} {w:World} {base:Nat} {spare:Nat ->Bool} {held:Bool}
theorem my_ {cs:List Value} (h:lE_ w cs): ∃ y:PatE×PatP,cs=patE y.1/\PatT w y.1 y.2:=by
 obtain⟨G,F⟩:=h
 obtain⟨f,g,rfl⟩: ∃ f g,cs=[f,g]:=by
  match cs,G with
  |[f,g],_=>exact⟨f,g,rfl⟩
 obtain⟨⟨p,j,w0⟩,⟨q,M,z,n,D,J,P⟩⟩:=F;simp only [List.drop_zero,List.drop_succ_cons,List.take_succ_cons,List.take_zero,List.cons.injEq,and_true] at j n;subst j n;obtain⟨L,N,v0⟩:=P.nums;exact⟨((p,(q,M,z)),⟨p,L⟩),rfl,⟨rfl,N,⟨D,J⟩⟩⟩
theorem mD_ {r:Reach} {b0:Nat} {v:Value} {d:DataW H} {p:List MemPlace} (hv:Value.okWide Tryz.prog w r b0 63 v) (h:DataW.Trod encH Tryz.prog w base spare held 63 v d p): ∃ A n c P,v= .slice A n c/\bm_ w A n P/\n<=c/\c<=9223372036854775807/\True:=by
 obtain⟨A,n,c,rfl,g,f,s⟩:=i3_ 2 Tryz.underlying63 (by kernel_rfl) (by decide) oK_ hv h;obtain⟨E,z,q⟩:=s.rd (α:=PatE×PatP) (enc:=fun y=>patE y.1) (ok:=fun y=>PatT w y.1 y.2) (fun cs _ h=>my_ h);refine⟨A,n,c,E.map (·.2),rfl,⟨E.map (·.1),z.conv (fun y:PatE×PatP=>y.1) (fun _ _=>rfl),by simp,fun k e r g f=>?_⟩,g,f,trivial⟩;rw [List.getElem?_map] at g f;obtain⟨y,j,rfl⟩:=Option.map_eq_some_iff.1 g;rw [j] at f;cases f;exact q y (List.mem_of_getElem? j)
end
end Go.Proofs.YtechdefolfboeaaGreatDoor.B
namespace Go.Proofs.YtechdefolfboeaaGreatDoor
open Go.RowKit B K
def chkP (M:ab_) (L:List RunP) (P:List PatP):Int:=if errC M L=0 then(if cg_ M L P then 0 else 2) else errC M L
section
variable {M:ab_} {L:List RunP} {P:List PatP}
def gone (P:List PatP) (a:Nat) (l:List Int) (k:Nat):List Int:=(P.take a).flatMap PatP.runs++l.take k
def cE_ (f:Int ->Option Int) (F:List Int):Prop:=F.Nodup/\ ∀ x,f x=if x∈F then some 1 else none
theorem m1_:cE_ (fun _=>none) []:=⟨List.nodup_nil,fun x=>by simp⟩
theorem cE_.push {f:Int ->Option Int} {F:List Int} {x:Int} (h:cE_ f F) (hx:f x=none):cE_ (updI f x 1) (F++[x]):=by
 have q:x ∉ F:=fun p=>by have:=h.2 x;rw [if_pos p,hx] at this;cases this
 refine⟨List.nodup_append.2 ⟨h.1,by simp,fun a n b j=>?_⟩,fun y=>?_⟩
 ·simp at j;subst j;exact fun e=>q (e ▸ n)
 ·unfold updI;by_cases g:y=x
  ·subst g;simp
  ·rw [if_neg g,h.2 y]
   congr 1
   simp [g]
theorem cE_.some {f:Int ->Option Int} {F:List Int} {x:Int} {v:Int} (h:cE_ f F) (hx:f x=some v):v=1/\x∈F:=by
 have:=h.2 x;rw [hx] at this;split at this
 ·rename_i g;exact⟨Option.some.inj this,g⟩
 ·cases this
theorem ea_ (P:List PatP) (l:List Int):gone P 0 l 0=[]:=by unfold gone;simp
theorem cP_ {a k:Nat} {l:List Int} {x:Int} (hx:l[k]?=some x):gone P a l (k+1)=gone P a l k++[x]:=by unfold gone;rw [an_ hx,List.append_assoc]
theorem d9_ {a:Nat} {p:PatP} (hp:P[a]?=some p) {l:List Int}:gone P a p.runs p.runs.length=gone P (a+1) l 0:=by
 unfold gone;rw [an_ hp];simp
theorem eV_ {a:Nat} {l l':List Int}:gone P a l 0=gone P a l' 0:=by unfold gone;simp
theorem e6_ (l:List Int):gone P P.length l 0=P.flatMap PatP.runs:=by unfold gone;simp
theorem ee_ {a k:Nat} {p:PatP} {n:Int} (hp:P[a]?=some p) (hn:p.runs[k]?=some n) (h:ch_ M L p.rt (c5_ p.runs k) n=false):cg_ M L P=false:=by
 unfold cg_;rw [Bool.and_eq_false_iff];left;rw [List.all_eq_false];refine⟨p,List.mem_of_getElem? hp,?_⟩;intro f;have:=ih_.1 f k n hn;rw [h] at this;cases this
theorem mC_ {a k:Nat} {p:PatP} {n:Int} (hp:P[a]?=some p) (hn:p.runs[k]?=some n) (h:n∈gone P a p.runs k):cg_ M L P=false:=by
 have j: ¬ (P.flatMap PatP.runs).Nodup :=by
  intro f;obtain⟨D,rfl⟩:=List.getElem?_eq_some_iff.1 hp;have e:P=P.take a++(P[a]::P.drop (a+1)):=by rw [<-List.drop_eq_getElem_cons D,List.take_append_drop]
  rw [e,List.flatMap_append,List.flatMap_cons] at f;obtain⟨F,rfl⟩:=List.getElem?_eq_some_iff.1 hn;have y:P[a].runs =P[a].runs.take k++(P[a].runs[k]::P[a].runs.drop (k+1)):=by rw [<-List.drop_eq_getElem_cons F,List.take_append_drop]
  unfold gone at h;rw [y] at f;generalize P[a].runs[k]=n at h f;rw [List.nodup_append] at f;obtain⟨_,q,z⟩:=f;rcases List.mem_append.1 h with g|g
  ·exact z n g n (by simp) rfl
  ·rw [List.append_assoc,List.nodup_append] at q;exact q.2.2 n g n (by simp) rfl
 unfold cg_;rw [F_ j];simp
def dB_ (M:ab_) (L:List RunP) (P:List PatP) (a:Nat):Prop:= ∀ p∈P.take a,hc_ M L p.rt p.runs=true
def RowK (M:ab_) (L:List RunP) (rt:Int) (l:List Int) (k:Nat):Prop:= ∀ j n,j<k ->l[j]?=some n ->ch_ M L rt (c5_ l j) n=true
theorem ig_ (rt:Int) (l:List Int):RowK M L rt l 0:=fun j n h=>absurd h (by omega)
theorem RowK.step {rt:Int} {l:List Int} {k:Nat} {n:Int} (h:RowK M L rt l k) (hn:l[k]?=some n) (hk:ch_ M L rt (c5_ l k) n=true):RowK M L rt l (k+1):=by
 intro j m hj f;rcases Nat.lt_or_ge j k with g|g
 ·exact h j m g f
 ·obtain rfl:j=k:=by omega
  rw [hn] at f;cases f;exact hk
theorem dB_.step {a:Nat} {p:PatP} (h:dB_ M L P a) (hp:P[a]?=some p) (hk:RowK M L p.rt p.runs p.runs.length):dB_ M L P (a+1):=by
 intro q f;rw [an_ hp,List.mem_append] at f;rcases f with f|f
 ·exact h q f
 ·simp at f;subst f;exact ih_.2 fun k n g=>hk k n (List.getElem?_eq_some_iff.1 g).1 g
theorem gp_:dB_ M L P 0:=fun p f=>by simp at f
theorem mB_ {f:Int ->Option Int} (h:dB_ M L P P.length) (hs:cE_ f (P.flatMap PatP.runs)):cg_ M L P=decide ((P.flatMap PatP.runs).length =L.length):=by
 unfold cg_;have g:(P.all fun p=>hc_ M L p.rt p.runs)=true:=List.all_eq_true.2 fun p j=>h p (by rw [List.take_length];exact j);rw [g,T_ hs.1,Bool.true_and,Bool.true_and]
theorem jn_ {rt n:Int} {pv:Option Int} (h:ch_ M L rt pv n=true):0<=n/\n<(L.length:Int):=by
 unfold ch_ at h;simp only [Bool.and_eq_true,decide_eq_true_eq] at h;exact⟨h.1,h.2.1⟩
theorem ij_ {rt n:Int} {pv:Option Int} (h:n<0):ch_ M L rt pv n=false:=by
 unfold ch_;rw [F_ (by omega),Bool.false_and]
theorem hd_ {rt n:Int} {pv:Option Int} (h:(L.length:Int)<=n):ch_ M L rt pv n=false:=by
 unfold ch_;rw [F_ (show ¬ n<(L.length:Int) by omega),Bool.false_and,Bool.and_false]
theorem jo_ {rt n:Int} {pv:Option Int} (h:rtOf M L n≠rt):ch_ M L rt pv n=false:=by
 unfold ch_;rw [F_ h];simp
theorem gq_ {n:Int} {l:List Int} (h0:0<=n) (h1:n<(L.length:Int)):ch_ M L (rtOf M L n) (c5_ l 0) n=true:=by
 unfold ch_ c5_;rw [T_ h0,T_ h1,T_ rfl];rfl
theorem he_ {n m:Int} {l:List Int} {k:Nat} (h0:0<=n) (h1:n<(L.length:Int)) (hm:l[k]?=some m):ch_ M L (rtOf M L n) (c5_ l (k+1)) n=aE_ (ao_ L m) (ao_ L n):=by
 unfold ch_ c5_;rw [T_ h0,T_ h1,T_ rfl];simp [hm]
theorem d8_ (h:FitL M L) {n:Nat} {r:RunP} (hr:L[n]?=some r): ∃ t:Nat, ∃ q,r.trip=t/\M.trips[t]?=some q/\q.route=rtOf M L n/\ao_ L n=r:=by
 have g:((n:Nat):Int)∈natI L.length:=aY_.2 ⟨by omega,by have:=(List.getElem?_eq_some_iff.1 hr).1;omega⟩;obtain⟨q,x,j,f,p,_⟩:=h.route g
 have e:ao_ L n=r:=by
  have:=b8_ g;rw [Int.toNat_natCast,hr] at this;exact(Option.some.inj this).symm
 rw [e] at j f;exact⟨r.trip.toNat,q,by omega,f,p,e⟩
end
def dK_ (x:Int):Nat ->List PatP ->Int×Int
 |_,[]=>(-1, -1)
 |i,p::r=>if 0<=idx (fun y=>x==y) p.runs then((i:Int),idx (fun y=>x==y) p.runs) else dK_ x (i+1) r
def ofP (P:List PatP) (x:Int):Int×Int:=dK_ x 0 P
theorem oa_ (A:Option Addr) (n c:Nat) (P:List PatP) (x:Int) (we:World) (hP:bm_ we A n P) (hn:n<=100000) (hps: ∀ p∈P,p.runs.length<=100000):
 Calls Tryz.prog 45 #[.slice A n c,.int .i64 x] we (rb_ (.tuple #[.int .i64 (ofP P x).1,.int .i64 (ofP P x).2]) we):=by
 have U:=H_ hP;have N:=H_ hps;have X:=H_ hP.len;obtain⟨r,d⟩:=e_ (ofP P x);rw [d];have g:Hd (dK_ x 0 (P.drop 0)=r):=d;clear hP hps d;go_enter Tryz.func45,Tryz.ntmps45
 go_wp2
 go_loopw [11] (fun s wr=> ∃ i:Nat,i<=n/\s= .int .i64 i/\Hd (dK_ x i (P.drop i)=r)/\Hd (Below we.heap.size we wr)) (fun s _=>n-(intOf s).toNat)
 ·exact⟨0,Nat.zero_le _,rfl,g,Below.refl _ _⟩
 ·clear g;obtain⟨i,hi,rfl,g,L⟩:=hrel;by_cases Z:i<n
  ·have aB:(i:Int)<(n:Int):=by omega
   obtain⟨bp,op,p,A1,n1,d1,rfl,M,a,g0,g1,r1,_⟩:=U.o.get Z;have b:n1<=1099511627776:=by rw [<-r1.len];have:=N.o p (List.mem_of_getElem? a);omega
   have z0:=c_ L.o M g0;have z1:=c_ L.o M g1;have T:=H_ (r1.below L.o);have f:=g.o;rw [a1_ a] at f;unfold dK_ at f;have j:=H_ f;obtain⟨aA,G⟩:=e_ p.rt;rw [G] at z0;obtain⟨rs,Q⟩:=e_ p.runs;rw [Q] at T j;clear g0 g1 r1 f a G Q g;obtain⟨w4,bx,S,F,q,J⟩:=box1 wr 68 [.int .i64 aA,.slice A1 n1 d1];have q1:=J.cell 1 rfl;have h4:=h_ L q;have z:=H_ (hY_ A1 n1 d1 rs x w4 (T.o.below q) b);obtain⟨k,hk⟩:=e_ (idx (fun y=>x==y) rs);rw [hk] at z j;clear q J hk;go_wp2_with fail;refine z.o.mono ?_;rintro e w5 ⟨rfl,rfl⟩;by_cases D:0<=k
   ·have Y:decide (0<=k)=true:=T_ D;have f:=j.o;rw [if_pos D] at f;subst f;clear j z
    go_wp2
    clear S F;go_returns;exact⟨rfl,h4.o⟩
   ·have Y:decide (0<=k)=false:=F_ D;have f:=j.o;rw [if_neg D] at f;have f:=H_ f;rename_i R;clear R j z
    go_wp2
    clear S F;go_roundw
    ·exact⟨i+1,by omega,by go_num,f,h4⟩
    ·simp [intOf];omega
  ·obtain rfl:i=n:=by omega
   have f:=g.o;rw [List.drop_eq_nil_of_le (by rw [X.o];exact Nat.le_refl _)] at f;unfold dK_ at f;subst f;clear g
   go_wp2
   go_returns;exact⟨rfl,L.o⟩
theorem oM_ (A:Option Addr) (n c:Nat) (l:List Int) (A':Option Addr) (n' c':Nat) (l':List Int) (w:World) (hr:Rd w 1 (numE .i64) A n l) (hr':Rd w 1 (numE .i64) A' n' l') (hn:n<=1099511627776) (hn':n'<=1099511627776):
 Calls Tryz.prog 91 #[.slice A n c,.slice A' n' c'] w (rb_ (.bool (decide (l=l'))) w):=by
 go_enter Tryz.func91,Tryz.ntmps91;by_cases q:n=n'
 ·subst q
  go_wp2
  go_loopw [13] (fun i wr=> ∃ (k:Nat),k<=n/\i= .int .i64 k/\Below w.heap.size w wr/\Hd (l.take k=l'.take k)) (fun i _=>n-(intOf i).toNat)
  ·exact⟨0,Nat.zero_le _,rfl,Below.refl _ _,rfl⟩
  ·obtain⟨k,hk,rfl,g,j⟩:=hrel;by_cases p:k<n
   ·obtain⟨b,o,x,rfl,aC,D,g0⟩:=(hr.below g).num p;obtain⟨b',o',y,rfl,aA,f,f0⟩:=(hr'.below g).num p;have D:=H_ D;have f:=H_ f;rename_i G J;clear G J;have aB:(k:Int)<(n:Int):=by omega
    by_cases z:x=y
    ·subst z
     go_wp2
     go_quiet (fail)
     go_wp2
     go_roundw
     ·exact⟨k+1,by omega,by go_num,dF_ g _,by show _=_;rw [an_ D.o,an_ f.o,j.o]⟩
     ·simp [intOf];omega
    ·have hn:(x !=y)=true:=by simp [z]
     have F:Hd (l≠l'):=by
      intro e;have:=D.o;rw [e,f.o] at this;exact z (Option.some.inj this).symm
     clear z
     go_wp2
     go_quiet (fail)
     go_wp2
     go_returns;exact⟨am_ (by symm;rw [decide_eq_false_iff_not];exact F.o),dF_ g _⟩
   ·go_wp2
    go_returns;exact⟨am_ (by symm;rw [decide_eq_true_eq];have:=j.o;rwa [List.take_of_length_le (by rw [hr.len];omega),List.take_of_length_le (by rw [hr'.len];omega)] at this),g⟩
 ·have aD:((n:Int) !=(n':Int))=true:=by simp;omega
  go_wp2
  go_returns;exact⟨am_ (by symm;rw [decide_eq_false_iff_not];intro e;exact q (by rw [<-hr.len, <-hr'.len,e])),Below.refl _ _⟩
theorem ob_ {p q:PatP} (h1:p.rt=q.rt) (h2:p.runs=q.runs):p=q:=by cases p;cases q;cases h1;cases h2;rfl
theorem jS_ (r1 r2:Int) (A1 A2:Option Addr) (n1 c1 n2 c2:Nat) (p q:PatP) (we:World) (e1:r1=p.rt) (e2:r2=q.rt) (h1:Rd we 1 (numE .i64) A1 n1 p.runs) (h2:Rd we 1 (numE .i64) A2 n2 q.runs) (hn1:n1<=1099511627776) (hn2:n2<=1099511627776):
 Calls Tryz.prog 90 #[.agg #[.int .i64 r1,.slice A1 n1 c1],.agg #[.int .i64 r2,.slice A2 n2 c2]] we (rb_ (.bool (decide (p=q))) we):=by
 have P:=H_ h1;have Q:=H_ h2;obtain⟨v,T⟩:=e_ (decide (p=q));rw [T];have G:=H_ T;obtain⟨w1,w2,b1,b2,J,L,n,y,z,R,S,j,M,N,aA,aB⟩:=b5_ we 68 68 [.int .i64 r1,.slice A1 n1 c1] [.int .i64 r2,.slice A2 n2 c2];have p0:=M.cell 0 rfl;have p1:=M.cell 1 rfl;have q0:=N.cell 0 rfl;have q1:=N.cell 1 rfl;have F:=H_ (oM_ A1 n1 c1 p.runs A2 n2 c2 q.runs w2 (P.o.below j.o) (Q.o.below j.o) hn1 hn2);clear h1 h2 R S M N T;by_cases g:r1=r2
 ·have f:decide (p.runs=q.runs)=v:=by rw [<-G.o,decide_eq_decide];exact⟨fun h=>ob_ (by rw [<-e1, <-e2];exact g) h,fun h=>by rw [h]⟩
  rw [f] at F;subst g;clear f e1 e2;go_enter Tryz.func90,Tryz.ntmps90;go_wp2_with fail;refine F.o.mono ?_;rintro e w3 ⟨rfl,D⟩;have U:=h_ j D;clear J L n y z D
  go_wp2
  go_returns;exact⟨rfl,U.o⟩
 ·have f:v=false:=by rw [<-G.o];exact F_ fun h=>g (by rw [e1,e2,h])
  have aC:(r1==r2)=false:=by simp [g]
  subst f;clear g e1 e2;go_enter Tryz.func90,Tryz.ntmps90
  go_wp2
  clear J L n y z;go_returns;exact⟨rfl,j.o⟩
theorem kI_ (A:Option Addr) (n c:Nat) (P:List PatP) (A':Option Addr) (n' c':Nat) (Q:List PatP) (we:World) (hP:bm_ we A n P) (hQ:bm_ we A' n' Q) (hn:n<=100000) (hn':n'<=100000) (hp: ∀ p∈P,p.runs.length<=100000) (hq: ∀ p∈Q,p.runs.length<=100000):
 Calls Tryz.prog 89 #[.slice A n c,.slice A' n' c',.func (.func 90) #[] #[]] we (rb_ (.bool (decide (P=Q))) we):=by
 have aC:=H_ hP;have aD:=H_ hQ;have aG:=H_ hp;have aH:=H_ hq;have N:=H_ hP.len;have R:=H_ hQ.len;clear hP hQ hp hq;go_enter Tryz.func89,Tryz.ntmps89;by_cases r:n=n'
 ·subst r
  go_wp2
  go_loopw [17] (fun i wr=> ∃ (k:Nat),k<=n/\i= .int .i64 k/\Hd (Below we.heap.size we wr)/\Hd (P.take k=Q.take k)) (fun i _=>n-(intOf i).toNat)
  ·exact⟨0,Nat.zero_le _,rfl,Below.refl _ _,rfl⟩
  ·obtain⟨k,hk,rfl,hb,G⟩:=hrel;by_cases b:k<n
   ·have aK:(k:Int)<(n:Int):=by omega
    obtain⟨bp,op,p,A1,n1,d1,rfl,X,hp,g0,g1,s1,_⟩:=aC.o.get b;obtain⟨bq,oq,q,A2,n2,d2,rfl,Y,hq,k0,k1,s2,_⟩:=aD.o.get b;have aE:n1<=1099511627776:=by rw [<-s1.len];have:=aG.o p (List.mem_of_getElem? hp);omega
    have aF:n2<=1099511627776:=by rw [<-s2.len];have:=aH.o q (List.mem_of_getElem? hq);omega
    have aA:=H_ hp;have aB:=H_ hq;obtain⟨rp,J⟩:=e_ p.rt;obtain⟨rq,L⟩:=e_ q.rt;rw [J] at g0;rw [L] at k0;have z0:=c_ hb.o X g0;have z1:=c_ hb.o X g1;obtain⟨w4,b4,aI,S,z,M⟩:=box1 wr 68 [.int .i64 rp,.slice A1 n1 d1];have h4:=h_ hb z;have y0:=c_ h4.o Y k0;have y1:=c_ h4.o Y k1;obtain⟨w5,b5,aJ,T,g,F⟩:=box1 w4 68 [.int .i64 rq,.slice A2 n2 d2];have h5:=h_ h4 g;have f:=M.below g;have v0:=f.cell 0 rfl;have v1:=f.cell 1 rfl;have u0:=F.cell 0 rfl;have u1:=F.cell 1 rfl;have Z:=H_ (jS_ rp rq A1 A2 n1 d1 n2 d2 p q w5 J.symm L.symm (s1.below h5.o) (s2.below h5.o) aE aF)
    have hy:Hd (∀ v,decide (p=q)=v ->v=true ->P.take (k+1)=Q.take (k+1)):=fun v h D=>by
     subst D;rw [an_ aA.o,an_ aB.o,G.o,of_decide_eq_true h]
    have s:Hd (∀ v,decide (p=q)=v ->v=false ->P≠Q):=fun v h D e=>by
     subst D;have h1:=aA.o;rw [e,aB.o] at h1;exact of_decide_eq_false h (Option.some.inj h1).symm
    obtain⟨v,D⟩:=e_ (decide (p=q));rw [D] at Z;have y:=H_ (hy.o v D);have j:=H_ (s.o v D);clear hy s D hp hq g0 g1 k0 k1 s1 s2 J L z g M F f G;go_wp2_with fail;refine Z.o.mono ?_;rintro e w6 ⟨rfl,U⟩;have h6:=h_ h5 U;clear U aI aJ S T z0 z1 y0 y1 v0 v1 u0 u1
    cases v with
    |true=>
     have a:=H_ (y.o rfl);clear y j
     go_wp2
     go_roundw
     ·exact⟨k+1,by omega,by go_num,h6,a⟩
     ·simp [intOf];omega
    |false=>
     have d:=H_ (j.o rfl);clear y j
     go_wp2
     go_returns;exact⟨am_ (by symm;rw [decide_eq_false_iff_not];exact d.o),h6.o⟩
   ·go_wp2
    go_returns;exact⟨am_ (by symm;rw [decide_eq_true_eq];have:=G.o;rwa [List.take_of_length_le (by rw [N.o];omega),List.take_of_length_le (by rw [R.o];omega)] at this),hb.o⟩
 ·have d:((n:Int) !=(n':Int))=true:=by simp;omega
  go_wp2
  go_returns;exact⟨am_ (by symm;rw [decide_eq_false_iff_not];intro e;exact r (by rw [<-N.o, <-R.o,e])),Below.refl _ _⟩
theorem k5_ (A:Option Addr) (n c:Nat) (P:List PatP) (A':Option Addr) (n' c':Nat) (Q:List PatP) (we:World) (hP:bm_ we A n P) (hQ:bm_ we A' n' Q) (hn:n<=100000) (hn':n'<=100000) (hp: ∀ p∈P,p.runs.length<=100000) (hq: ∀ p∈Q,p.runs.length<=100000):
 Calls Tryz.prog 47 #[.slice A n c,.slice A' n' c'] we (rb_ (.bool (decide (P=Q))) we):=by
 have h:=H_ (kI_ A n c P A' n' c' Q we hP hQ hn hn' hp hq);clear hP hQ hp hq;go_enter Tryz.func47,Tryz.ntmps47;go_wp2_with fail;refine h.o.mono ?_;rintro e w2 ⟨rfl,g⟩;have f:=H_ g;clear g
 go_wp2
 go_returns;exact⟨rfl,f.o⟩
theorem gM_ {w w':World} {m:Nat} (h:w.mapTurned w' m) {X:List Nat} (hX:m∈X):But w w' X:=But.of_grown h.grown hX
theorem nU_ {P:Program} {k e:TypeId} {w:World} {m N:Nat} {f:Int ->Option Int} (h:MapI P k e w m f N) {t:TypeId} (ht:P.underlying t=some (.map k e)) (ty:TypeId):(Builtin.len_ #[t] ty #[.map (some m)]).run P w= .ok (.int .i64 N) w:=by
 obtain⟨D,g,j,_⟩:=h;rw [g.len ht ty,j]
theorem pT_ {P:Program} {w:World} {ops:Array Oper} {rest:List Oper} {o:Oper} {a:Act} {Q:Exit ->Act ->World ->Prop} (hg:o.guard=none) (m:Operand) (t:TypeId)
 (hop:o.op=Op.call {callee:=Callee.builtin Builtin.len,args:=#[m],argTypes:=#[t]}) {b N:Nat} (hm:a.eval m= .map (some b))
 (hrun:(Builtin.len_ #[t] o.type #[.map (some b)]).run P w= .ok (.int .i64 N) w) (hK:wpList P ops Q rest (a.put o.dst (.int .i64 N)) w):wpList P ops Q (o::rest) a w:=by
 refine wpList_plain hg fun K' f=>?_;unfold Oper.wp;simp [execOp,hop,resolve,invoke,builtin,hm,hrun,Result.andThen];exact f _ _ hK
theorem hA_ {M:ab_} {L:List RunP} (h:errC M L=0): ¬ 16384<L.length:=by
 intro f;unfold errC at h;rw [if_pos f] at h;cases h
theorem jR_ (M:ab_) (V:WV) (A:Option Addr) (n c:Nat) (L:List RunP) (A2:Option Addr) (m c2:Nat) (P:List PatP) (we:World) (hr:RW we M V) (hf:Few M) (hsp:Sp we) (hL:be_ we A n L) (hn:n<=100000) (hl: ∀ r∈L,r.arr.length<=100000/\r.dep.length<=100000)
 (hP:bm_ we A2 m P) (hm:m<=100000) (hps: ∀ p∈P,p.runs.length<=100000):
 Calls Tryz.prog 41 #[wVal M V,.slice A n c,.slice A2 m c2] we (rb_ (.int .i64 (chkP M L P)) we):=by
 have dV:=H_ (fun w h1 h2 h3=>h9_ M V A n c L w h1 hf h2 h3 hn);have cN:=H_ hr;have fC:=H_ hsp;have cA:=H_ hL;have eR:=H_ hP;have dS:=H_ hl;have dW:=H_ hps;have bC:=H_ hL.len;have cE:=H_ hP.len;obtain⟨aI,aC⟩:=e_ (chkP M L P);rw [aC];have R:=H_ aC;clear aC;obtain⟨w1,b1,fD,dJ,eT,bM,B1,fM⟩:=eW we 31 M V;obtain⟨a0,a1,a2,a3,a4,a5,aP,aD,aR,aT,aH,n0,n1,n2,n3,n4,n5,nP,nD,nR,nT,nH,c0,c1,c2,c3,c4,c5,cP,cD,cR,cT,cH⟩:=V;simp only [wVal] at*;obtain⟨p0,p1,p2,p3,p4,p5,p6,p7,p8,p9,fG,fH⟩:=c_12 B1;have cY:=H_ B1;clear B1 eT hr hsp hL hP hl hps hf;go_enter Tryz.func41,Tryz.ntmps41;go_wp2_with fail;refine(dV.o w1 (cN.o.below bM.o) (fC.o.below bM.o) (cA.o.below bM.o)).mono ?_;rintro e w2 ⟨rfl,cG⟩;have bA:=h_ bM cG;have bX:=H_ (cY.o.below cG);clear cG p0 p1 p2 p3 p4 p5 p6 p7 p8 p9 fG fH dV cY;by_cases he:errC M L=0
 ·have dF:=H_ (eT_ (hA_ he) he);have Y:Hd ((if cg_ M L P then 0 else 2)=aI):=by rw [<-R.o];exact(if_pos he).symm
  simp only [he];clear he R;obtain⟨mk,bH⟩:=e_ w2.heap.size;have M3:MapI Tryz.prog 3 3 (w2.alloc (.map #[] 0)) w2.heap.size (fun _=>none) 0:=MapI.new w2;have ha:Below w2.heap.size w2 (w2.alloc (.map #[] 0)):=(Below.refl _ w2).alloc (Nat.le_refl _) _;have cM:(Instr.makeMap 119 none).run Tryz.prog w2= .ok (.map (some w2.heap.size)) (w2.alloc (.map #[] 0)):=by kernel_rfl
  obtain⟨w3,eC⟩:=e_ (w2.alloc (.map #[] 0));rw [eC] at M3 ha cM;rw [bH] at cM;have dQ:Hd (we.heap.size<=mk):=by rw [<-bH];exact bA.o.size
  have dB:=h_ bA ha;have cX:=H_ (bX.o.below ha);have cF:Hd (b1<mk):=by have:=bX.o.lt;show _<_;omega
  rw [bH] at M3;have bS:Hd (cE_ (fun _=>none) (gone P 0 [] 0)):=by rw [ea_];exact m1_
  have aS:Hd (0=(gone P 0 [] 0).length):=by rw [ea_];rfl
  have M3:=H_ M3;clear bX bA ha
  go_wp2
  clear eC bH cM;go_loopw [22] (fun vi wr=> ∃ (a:Nat) (f:Int ->Option Int) (N:Nat),a<=m/\vi= .int .i64 a/\Hd (MapI Tryz.prog 3 3 wr mk f N)/\Hd (cE_ f (gone P a [] 0))/\Hd (dB_ M L P a)/\Hd (N=(gone P a [] 0).length)/\N<=a*100000/\Hd (But w3 wr [mk])) (fun vi _=>m-(intOf vi).toNat)
  ·exact⟨0,_,0,Nat.zero_le _,rfl,M3,bS,gp_,aS,by omega,But.refl _ _⟩
  ·clear M3 bS aS;obtain⟨a,f,N,ha,rfl,hM,D,aY,hN,eQ,F⟩:=hrel;have i:Hd (Below we.heap.size we wr):=dB.o.trans (F.o.below dB.o.size (by simpa using dQ.o));by_cases eS:a<m
   ·have fU:(a:Int)<(m:Int):=by omega
    obtain⟨bp,op,p,X1,m1,d1,rfl,cJ,hp,g0,g1,s1,fB⟩:=eR.o.get eS;have fZ:m1<=100000:=by rw [<-s1.len];exact dW.o p (List.mem_of_getElem? hp)
    have eI:=H_ s1;have aA:=H_ hp;have cL:Hd (p.runs.length=m1):=s1.len;obtain⟨cW,aX⟩:=e_ p.rt;have aE:=H_ aX;rw [aX] at g0;have z0:=c_ i.o cJ g0;have z1:=c_ i.o cJ g1;have fK:=Nat.lt_of_lt_of_le cJ i.o.size;have eB:Hd (cE_ f (gone P a p.runs 0)):=by rw [eV_ (l':=[])];exact D.o
    have aS:Hd (N=(gone P a p.runs 0).length):=by rw [eV_ (l':=[])];exact hN.o
    obtain⟨w4,bx,fE,dL,s,bY⟩:=box1 wr 68 [.int .i64 cW,.slice X1 m1 d1];have fL:=H_ s;have dG:=H_ (hM.o.below s);have dC:=h_ i s
    have dU:Hd (mk<bx):=by have h1:=hM.o.lt;have h2:wr.heap.size<=bx:=by omega
                           show _<_;omega
    have aU:=H_ (F.o.trans (But.of_below s [mk]));have p1:=bY.cell 1 rfl;have cZ:=H_ bY;clear s1 hp aX s bY hM D hN fB
    go_wp2
    clear fE dL p1 g0 g1 z0 z1 F;go_loopw [29] (fun vk wr=> ∃ (k:Nat) (f:Int ->Option Int) (N:Nat),k<=m1/\vk= .int .i64 k/\Hd (MapI Tryz.prog 3 3 wr mk f N)/\Hd (cE_ f (gone P a p.runs k))/\Hd (RowK M L p.rt p.runs k)/\Hd (N=(gone P a p.runs k).length)/\N<=a*100000+k/\Hd (But w4 wr [mk])) (fun vk _=>m1-(intOf vk).toNat)
    ·exact⟨0,f,N,Nat.zero_le _,rfl,dG,eB,ig_ _ _,aS,Nat.le_trans eQ (Nat.le_add_right _ _),But.refl _ _⟩
    ·clear dG eB aS;obtain⟨k,f,N,hk,rfl,hM,D,aK,hN,fT,F⟩:=hrel;have z:Hd (Below we.heap.size we wr):=dC.o.trans (F.o.below dC.o.size (by simpa using dQ.o));by_cases eX:k<m1
     ·have fV:(k:Int)<(m1:Int):=by omega
      obtain⟨b5,o5,x,rfl,cI,hx,v5⟩:=eI.o.num eX;have fI:=c_ z.o cI v5;have bB:=H_ (cZ.o.keep (F.o.keep bx cZ.o.lt (by simp;have:=dU.o;omega)));have bZ:=H_ (cX.o.keep ((aU.o.trans F.o).keep b1 cX.o.lt (by simp;have:=cF.o;omega)));have q0:=bB.o.cell 0 rfl;have q1:=bB.o.cell 1 rfl;have bR:=bZ.o.cell 10 rfl;have bO:=bZ.o.lt;have aO:=bB.o.lt;have X:=H_ hx;clear hx bB bZ;by_cases bN:x<0
      ·have J:Hd (cg_ M L P=false):=ee_ aA.o X.o (ij_ bN);have bW:decide (x<0)=true:=T_ bN
       go_wp2
       refine wb_ wr.heap.size ?_;intro C hC
       repeat(go_big_quiet_step (first
        |((intro _;with_reducible rfl))
       ))
       intro w9 j;clear hC
       go_wp2
       go_returns;exact⟨ah_ (by rw [<-Y.o,J.o];rfl),b_ z j⟩
      ·by_cases cV:(n:Int)<=x
       ·have J:Hd (cg_ M L P=false):=ee_ aA.o X.o (hd_ (by rw [bC.o];exact cV));have bW:decide (x<0)=false:=F_ bN;have eE:decide ((n:Int)<=x)=true:=T_ cV
        go_wp2
        refine wb_ wr.heap.size ?_;intro C hC
        repeat(go_big_quiet_step (first
         |((intro _;with_reducible rfl))
        ))
        intro w9 j;clear hC
        go_wp2
        go_returns;exact⟨ah_ (by rw [<-Y.o,J.o];rfl),b_ z j⟩
       ·obtain⟨xk,rfl⟩:=Int.eq_ofNat_of_zero_le (show 0<=x by omega);have eD:xk<n:=by omega
        have gA:(xk:Int)<(n:Int):=by omega
        have bW:decide ((xk:Int)<0)=false:=F_ (by omega);have eE:decide (n<=xk)=false:=F_ (by omega);have cS:(Lit.int .i64 (xk:Int)).wf =true:=wf64 (by omega) (by omega);have b:=fun(U:World) (hU:Below wr.heap.size wr U)=>((hM.o.below hU).look Tryz.underlying119 Tryz.underlying3 Tryz.underlying3 (by kernel_rfl) cS).2;clear bN cV
        cases Q:f (xk:Int) with
        |some v=>
         obtain⟨rfl,bU⟩:=D.o.some Q;rw [Q] at b;have Z:=H_ b;have J:Hd (cg_ M L P=false):=mC_ aA.o X.o bU;clear b bU Q;simp only [Option.getD_some] at Z
         go_wp2
         refine wb_ wr.heap.size ?_;intro C hC
         repeat(go_big_quiet_step (first
          |((intro _;with_reducible rfl))
          |(intro G;have g:=b_ z G;simp only [Z.o _ G,Result.andThen];exact⟨trivial,rfl⟩)
         ))
         intro w9 j;clear hC
         go_wp2
         go_returns;exact⟨ah_ (by rw [<-Y.o,J.o];rfl),b_ z j⟩
        |none=>
         rw [Q] at b;have Z:=H_ b;simp only [Option.getD_none] at Z;clear b;obtain⟨bL,oL,r,A1,n1,e1,eJ,n2,e2,rfl,y,bI,t0,t1,t2,t3,bP,bQ,bF,bG⟩:=cA.o.get eD;obtain⟨kt,q,dA,hq,dY,dZ⟩:=d8_ dF.o bI;have eV:kt<nT:=by have h1:M.trips.length=nT:=cN.o.rT.len;have:=(List.getElem?_eq_some_iff.1 hq).1;omega
         obtain⟨bT,oT,q',rfl,bE,dX,dP⟩:=cN.o.rT.get eV;obtain rfl:q=q':=Option.some.inj (hq.symm.trans dX);have z0:=dP 0 _ rfl;have fO:(kt:Int)<(nT:Int):=by omega
         rw [dA] at t0;rw [dY,Nat.add_zero] at z0;obtain⟨rq,cO⟩:=e_ (rtOf M L (xk:Int));rw [cO] at z0;have aZ:=H_ cO;have aN:(0:Int)<=(xk:Int)/\(xk:Int)<(L.length:Int):=by rw [bC.o];omega
         have aN:=H_ aN;clear hq dX dP dY cO;by_cases cQ:rq=cW
         ·subst cQ;have eZ:(rq !=rq)=false:=by simp
          rcases Nat.eq_zero_or_pos k with dR|dR
          ·subst dR;simp only [Nat.add_zero] at fI;have aG:Hd (RowK M L p.rt p.runs (0+1)):=aK.o.step X.o (by rw [aE.o, <-aZ.o];exact gq_ aN.o.1 aN.o.2);have d:Hd (cE_ (updI f (xk:Int) 1) (gone P a p.runs (0+1))):=by show cE_ _ _;rw [cP_ X.o];exact D.o.push Q
           have cB:Hd (N+1=(gone P a p.runs (0+1)).length):=by show _=_;rw [cP_ X.o,List.length_append, <-hN.o];rfl
           have fX:decide ((0:Int)<((0:Nat):Int))=false:=by decide
           clear bP bQ bF bG bI t1 t2 t3
           go_wp2
           refine wb_ wr.heap.size ?_;intro C hC
           repeat(go_big_quiet_step (first
            |((intro _;with_reducible rfl))
            |(intro G;have g:=b_ z G;simp only [Z.o _ G,c_ G bO bR,c_ g y t0,c_ g bE z0,c_ G aO q0,Result.andThen];exact⟨trivial,rfl⟩)
           ))
           intro w9 j;clear hC;have eO:=h_ z j;have aQ:=H_ (hM.o.below j);have S:=H_ (F.o.trans (But.of_below j [mk]));clear j Z;obtain⟨W7,eA,M7,T⟩:=aQ.o.store (v:=1) Tryz.underlying119 Tryz.underlying3 Tryz.underlying3 (by omega) cS (by decide);rw [Q] at M7;have aB:=H_ (S.o.trans (gM_ T (by simp)));have M7:=H_ M7;clear T Q aQ S
           go_wp2
           go_roundw
           ·exact⟨0+1,_,N+1,by omega,by go_num,M7,d,aG,cB,by omega,aB⟩
           ·simp [intOf];omega
          ·obtain⟨k',rfl⟩: ∃ k',k=k'+1:=⟨k-1,by omega⟩
           obtain⟨b6,o6,x',dD,eU,cU,v6⟩:=eI.o.num (show k'<m1 by omega);obtain⟨rfl,rfl⟩:b5=b6/\o5=o6:=by simpa using dD
           have aW:=jn_ (aK.o k' x' (by omega) cU);obtain⟨xp,rfl⟩:=Int.eq_ofNat_of_zero_le aW.1;have eF:xp<n:=by have:=aW.2;rw [bC.o] at this;omega
           have fS:(xp:Int)<(n:Int):=by omega
           obtain⟨eK,fF,r',A3,n3,e3,A4,n4,e4,dE,dK,bJ,s0,s1,s2,s3,eG,eH,dM,dO⟩:=cA.o.get eF;obtain⟨rfl,rfl⟩:bL=eK/\oL=fF:=by simpa using dE
           obtain⟨gB,q9,eL,eM,eN,bV⟩:=d8_ dF.o bJ;clear eL eM eN;have aL:=H_ (fun w (h:Below we.heap.size we w)=>fi_ (r'.trip,r'.no,(A3,n3,e3),(A4,n4,e4)) (r.trip,r.no,(A1,n1,e1),(eJ,n2,e2)) r' r w ⟨rfl,rfl,eG.below h,dM,eH.below h,dO⟩ ⟨rfl,rfl,bP.below h,bF,bQ.below h,bG⟩ (by have:=dS.o r' (List.mem_of_getElem? bJ);omega) (by have:=dS.o r' (List.mem_of_getElem? bJ);omega));simp only [rnE,SlV.v] at aL;rw [dA] at aL;have fW:decide ((0:Int)<((k'+1:Nat):Int))=true:=T_ (by omega);have fQ:decide ((0:Int)<(k':Int)+1)=true:=T_ (by omega);have fR:decide (0<k'+1)=true:=T_ (by omega);have fP:IntKind.i64.wrap (((k'+1:Nat):Int)-1)=(k':Int):=by rw [show((k'+1:Nat):Int)-1=(k':Int) by omega];exact IntWalk.i64_in _ (by omega)
           have fN:(k':Int)<(m1:Int):=by omega
           have aM:ch_ M L p.rt (c5_ p.runs (k'+1)) (xk:Int)=aE_ r' r:=by rw [aE.o, <-aZ.o,he_ aN.o.1 aN.o.2 cU,dZ,bV]
           clear cU dD aW bI bJ dE dZ bV bP bQ eG eH bF bG dM dO eU dK
           cases bD:aE_ r' r with
           |false=>
            rw [bD] at aL aM;have J:Hd (cg_ M L P=false):=ee_ aA.o X.o aM;clear bD aM Q
            go_wp2
            refine wb_ wr.heap.size ?_;intro C hC
            repeat(go_big_quiet_step (first
             |((intro _;with_reducible rfl))
             |(intro G;have g:=b_ z G;simp only [Z.o _ G,c_ G bO bR,c_ g y t0,c_ g bE z0,c_ G aO q0,c_ G aO q1,c_ g cI v6,c_ g y t1,c_ g y t2,c_ g y t3,c_ g y s0,c_ g y s1,c_ g y s2,c_ g y s3,Result.andThen];exact⟨trivial,rfl⟩)
             |(intro G;have g:=b_ z G;(with_reducible refine(aL.o _ g).mono ?_);rintro e fJ ⟨rfl,hw⟩;exact⟨rfl,u_ G hw⟩)))
            intro w9 j;clear hC
            go_wp2
            go_returns;exact⟨ah_ (by rw [<-Y.o,J.o];rfl),b_ z j⟩
           |true=>
            rw [bD] at aL aM;have aG:Hd (RowK M L p.rt p.runs (k'+1+1)):=aK.o.step X.o aM;have d:Hd (cE_ (updI f (xk:Int) 1) (gone P a p.runs (k'+1+1))):=by show cE_ _ _;rw [cP_ X.o];exact D.o.push Q
            have cB:Hd (N+1=(gone P a p.runs (k'+1+1)).length):=by show _=_;rw [cP_ X.o,List.length_append, <-hN.o];rfl
            clear bD aM
            go_wp2
            refine wb_ wr.heap.size ?_;intro C hC
            repeat(go_big_quiet_step (first
             |((intro _;with_reducible rfl))
             |(intro G;have g:=b_ z G;simp only [Z.o _ G,c_ G bO bR,c_ g y t0,c_ g bE z0,c_ G aO q0,c_ G aO q1,c_ g cI v6,c_ g y t1,c_ g y t2,c_ g y t3,c_ g y s0,c_ g y s1,c_ g y s2,c_ g y s3,Result.andThen];exact⟨trivial,rfl⟩)
             |(intro G;have g:=b_ z G;(with_reducible refine(aL.o _ g).mono ?_);rintro e fJ ⟨rfl,hw⟩;exact⟨rfl,u_ G hw⟩)))
            intro w9 j;clear hC;have eO:=h_ z j;have aQ:=H_ (hM.o.below j);have S:=H_ (F.o.trans (But.of_below j [mk]));clear j Z;obtain⟨W7,eA,M7,T⟩:=aQ.o.store (v:=1) Tryz.underlying119 Tryz.underlying3 Tryz.underlying3 (by omega) cS (by decide);rw [Q] at M7;have aB:=H_ (S.o.trans (gM_ T (by simp)));have M7:=H_ M7;clear T Q aQ S
            go_wp2
            go_roundw
            ·exact⟨k'+1+1,_,N+1,by omega,by go_num,M7,d,aG,cB,by omega,aB⟩
            ·simp [intOf];omega
         ·have eZ:(rq !=cW)=true:=by simp [cQ]
          have J:Hd (cg_ M L P=false):=ee_ aA.o X.o (jo_ (by rw [aZ.o,aE.o];exact cQ));clear Q bP bQ bF bG bI t1 t2 t3
          go_wp2
          refine wb_ wr.heap.size ?_;intro C hC
          repeat(go_big_quiet_step (first
           |((intro _;with_reducible rfl))
           |(intro G;have g:=b_ z G;simp only [Z.o _ G,c_ G bO bR,c_ g y t0,c_ g bE z0,c_ G aO q0,Result.andThen];exact⟨trivial,rfl⟩)
          ))
          intro w9 j;clear hC
          go_wp2
          go_returns;exact⟨ah_ (by rw [<-Y.o,J.o];rfl),b_ z j⟩
     ·obtain rfl:k=m1:=by omega
      have fA:Hd (cE_ f (gone P (a+1) [] 0)):=by have:=D.o;rw [<-cL.o,d9_ (l:=[]) aA.o] at this;exact this
      have eP:Hd (N=(gone P (a+1) [] 0).length):=by have:=hN.o;rw [<-cL.o,d9_ (l:=[]) aA.o] at this;exact this
      have bK:Hd (dB_ M L P (a+1)):=aY.o.step aA.o (by rw [cL.o];exact aK.o);have cK:=H_ (aU.o.trans F.o)
      go_wp2
      go_roundw
      ·exact⟨a+1,f,N,by omega,by go_num,hM,fA,bK,eP,by omega,cK⟩
      ·simp [intOf];omega
   ·obtain rfl:a=m:=by omega
    have z:=i;have aV:=mB_ (P:=P) (M:=M) (L:=L) (by rw [cE.o];exact aY.o) (by have:=D.o;rw [<-cE.o,e6_] at this;exact this);have cC:N=(P.flatMap PatP.runs).length :=by have:=hN.o;rw [<-cE.o,e6_] at this;exact this
    have dT:=nU_ hM.o Tryz.underlying119 3;rw [<-cC,bC.o] at aV;have aJ:=H_ Y.o;by_cases dH:N=n
    ·subst dH;have aF:(0:Int)=aI:=by rw [<-aJ.o,aV];simp
     have eY:((N:Int) !=(N:Int))=false:=by simp
     have aF:=H_ aF;clear Y aJ aV cC;go_wp2_with (at_builtin;refine pT_ ?b1 (.tmp 88) 119 ?b2 ?b3 dT ?_)
     all_goals try rfl
     go_returns;exact⟨ah_ aF.o,z.o⟩
    ·have aF:(2:Int)=aI:=by rw [<-aJ.o,aV,F_ dH];rfl
     have eY:((N:Int) !=(n:Int))=true:=by simp;omega
     have aF:=H_ aF;clear Y aJ aV cC;go_wp2_with (at_builtin;refine pT_ ?b4 (.tmp 88) 119 ?b5 ?b6 dT ?_)
     all_goals try rfl
     go_returns;exact⟨ah_ aF.o,z.o⟩
 ·have Y:Hd (errC M L=aI):=by rw [<-R.o];exact(if_neg he).symm
  have fY:(errC M L !=0)=true:=by simp [he]
  clear he R
  go_wp2
  clear fD dJ;go_returns;exact⟨ah_ Y.o,bA.o⟩
