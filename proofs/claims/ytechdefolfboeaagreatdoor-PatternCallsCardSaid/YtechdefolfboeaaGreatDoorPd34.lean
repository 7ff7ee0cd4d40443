/- Merged. -/
import Derived.Test.YtechdefolfboeaaGreatDoorPd33
set_option linter.unusedVariables false
set_option linter.unusedSimpArgs false
set_option maxRecDepth 100000
set_option maxHeartbeats 2000000
namespace Go.Proofs.YtechdefolfboeaaGreatDoor
open Go.RowKit B K
section
variable {M:ab_} {L:List RunP}
theorem eT_ (hn: ¬ 16384<L.length) (h:errC M L=0):FitL M L:=⟨(i2_ hn h).fit,eq_ (i2_ hn h).good⟩
theorem oj_ (hn: ¬ 16384<L.length):(resP M L).length <=L.length:=by
 unfold resP;split
 ·rename_i h;exact fK_ (eT_ hn h)
 ·exact Nat.zero_le _
theorem lp_ (hn: ¬ 16384<L.length) {p:PatP} (hp:p∈resP M L):p.runs.length<=L.length:=by
 unfold resP at hp;split at hp
 ·rename_i h;have f:=(gX_ (eT_ hn h)).length_eq;unfold natI at f;rw [List.length_map,List.length_range] at f;rw [<-f];obtain⟨a,b,e⟩:=List.append_of_mem hp;rw [e];simp;omega
 ·simp at hp
end
theorem kU_ {L:List RunP} (h:dp_ L=true): ∀ r∈L,r.arr.length<=40/\r.dep.length<=40:=by
 intro r f;unfold dp_ at h;rw [Bool.and_eq_true,List.all_eq_true] at h;have:=h.2 r f;simpa using this
theorem oI_ (A A1:Option Addr) (n c m c1:Nat) (rt pos t:Int) (L:List RunP) (l:List Int) (we:World) (hL:be_ we A n L) (hn:n<=100000) (hl:Rd we 1 (numE .i64) A1 m l) (hm:m<=100000) (k:Nat) (x:Int) (hx:l[k]?=some x) (hin:inR L pos x=true) (hdl:(ao_ L x).dep.length <=100000):
 Calls Tryz.prog 87 #[.agg #[.slice A n c,.int .i64 rt,.slice A1 m c1,.int .i64 pos,.int .i64 t],.int .i64 (k:Int)] we (rb_ (.bool (decide (t<=b0_ L pos x))) we):=by
 unfold inR at hin;simp only [Bool.and_eq_true,decide_eq_true_eq] at hin;obtain⟨b,s,i3,i4⟩:=hin;have Z:k<m:=by have:=(List.getElem?_eq_some_iff.1 hx).1;have:=hl.len;omega
 have g:=b8_ (aY_.2 ⟨b,s⟩);have q:=hL.len;obtain⟨bR,oR,y,rfl,X,e,gy⟩:=hl.num Z;obtain rfl:x=y:=Option.some.inj (hx.symm.trans e);obtain⟨N,rfl⟩:=Int.eq_ofNat_of_zero_le b;obtain⟨P,rfl⟩:=Int.eq_ofNat_of_zero_le i3;rw [Int.toNat_natCast] at g;have Y:N<n:=by omega
 obtain⟨bL,oL,r,x1,xm,xc,x2,xn,xd,rfl,U,d,g0,g1,g2,g3,_,rd,_,_⟩:=hL.get Y;obtain rfl:ao_ L N=r:=Option.some.inj (g.symm.trans d);have f:P<(ao_ L N).dep.length :=by omega
 have J:P<xn:=by rw [<-rd.len];exact f
 obtain⟨bD,oD,z,rfl,T,i,gz⟩:=rd.num J;have G:b0_ L P N=z:=by rw [fC_ f];exact Option.some.inj ((List.getElem?_eq_getElem f).symm.trans i)
 rw [G];have aD:(k:Int)<(m:Int):=by omega
 have aB:(N:Int)<(n:Int):=by omega
 have aC:(P:Int)<(xn:Int):=by omega
 obtain⟨w1,b1,a,D,R,M,p,aA⟩:=cm_ we 121 [.slice (some ⟨bL,oL,none⟩) n c,.int .i64 rt,.slice (some ⟨bR,oR,none⟩) m c1,.int .i64 P,.int .i64 t];have p0:=p.cell 0 rfl;have p2:=p.cell 2 rfl;have p3:=p.cell 3 rfl;have p4:=p.cell 4 rfl;have Q:=p.lt;clear p R hL hl hx e g d rd i G hdl b s i3 i4 q f;go_enter Tryz.func87,Tryz.ntmps87;go_wp2_with fail;clear a D
 go_wp2
 refine wb_ w1.heap.size ?_;intro C hC
 repeat(go_big_quiet_step (first
  |((intro _;with_reducible rfl))
  |(intro F;have j:=b_ M F;simp only [c_ F Q p0,c_ F Q p2,c_ F Q p3,c_ F Q p4,c_ j X gy,c_ j U g3,c_ j T gz,Result.andThen];exact⟨trivial,rfl⟩)
 ))
 intro w9 S;clear hC
 go_wp2
 go_returns;exact⟨rfl,b_ M S⟩
def pM_ (n:Nat) (p:Nat ->Bool) (w:World) (e:Ending) (w':World):Prop:= ∃ k:Nat,e= .returned (.int .i64 (k:Int))/\k<=n/\(∀ i,i<k ->p i=false)/\(k<n ->p k=true)/\Below w.heap.size w w'
theorem lu_ (g:Nat) (v:Value) (eg: ∀ args w,(callFunc g args).run Tryz.prog w= .ok (.enter g args) w) (n:Nat) (hn:n<=100000) (p:Nat ->Bool) (hmono: ∀ i j,i<=j ->j<n ->p i=true ->p j=true) (w:World)
 (hp: ∀ (W:World) (k:Nat),Below w.heap.size w W ->k<n ->Calls Tryz.prog g #[v,.int .i64 (k:Int)] W (rb_ (.bool (p k)) W)):
 Calls Tryz.prog 86 #[.int .i64 (n:Int),.func (.func g) #[v] #[]] w (pM_ n p w):=by
 have T:=H_ hp;have M:=H_ hmono;have z:Hd (Below w.heap.size w w):=Below.refl _ _;have a:Hd (∀ x,x<0 ->p x=false):=fun x hx=>by omega
 have y:Hd (∀ x,n<=x ->x<n ->p x=true):=fun x y b=>by omega
 clear hp hmono;go_enter Tryz.func86,Tryz.ntmps86
 go_wp2
 go_loopw [5,6] (fun Y Z wr=> ∃ (i j:Nat),i<=j/\j<=n/\Y= .int .i64 i/\Z= .int .i64 j/\Hd (∀ x,x<i ->p x=false)/\Hd (∀ x,j<=x ->x<n ->p x=true)/\Hd (Below w.heap.size w wr)) (fun Y Z _=>(intOf Z).toNat -(intOf Y).toNat)
 ·exact⟨0,n,Nat.zero_le _,Nat.le_refl _,rfl,rfl,a,y,z⟩
 ·clear a y z;obtain⟨i,j,aD,L,rfl,rfl,c,d,P⟩:=hrel;by_cases aE:i<j
  ·have aA:(i:Int)<(j:Int):=by omega
   obtain⟨h,r⟩:=e_ ((i+j) / 2);have aC:((i:Int)+(j:Int)) / 2=(h:Int):=by omega
   have G:h<n:=by omega
   have J:i<=h/\h<j:=by omega
   have Q:=H_ (T.o wr h P.o G);have f:=H_ J;have jb:j<=100000:=by omega
   have ib:i<=100000:=by omega
   have aB:h<=100000:=by omega
   clear r J;obtain⟨q,X⟩:=e_ (p h);rw [X] at Q;have N:=H_ X;clear X;go_wp2_with fail;refine Q.o.mono ?_;rintro e w2 ⟨rfl,D⟩;have F:=h_ P D;clear D Q P
   cases q with
   |true=>
    have S:Hd (∀ x,h<=x ->x<n ->p x=true):=fun x y b=>M.o h x y b N.o
    go_wp2
    go_roundw
    ·exact⟨i,h,f.o.1,by omega,rfl,rfl,c,S,F⟩
    ·simp [intOf]<;>(have:=f.o;omega)
   |false=>
    have R:Hd (∀ x,x<h+1 ->p x=false):=fun x hx=>by
     cases U:p x with
     |false=>rfl
     |true=>have:=M.o x h (by omega) G U;rw [N.o] at this;cases this
    go_wp2
    go_roundw
    ·exact⟨h+1,j,by have:=f.o;omega,L,by go_num,rfl,R,d,F⟩
    ·simp [intOf]<;>(have:=f.o;omega)
  ·obtain rfl:i=j:=by omega
   have s:Hd (i<n ->p i=true):=fun h=>d.o i (Nat.le_refl _) h
   go_wp2
   go_returns;exact⟨i,rfl,L,c.o,s.o,P.o⟩
theorem ex_ {L:List RunP} {l:List Int} {pos t:Int} {k:Nat} {x:Int} (hx:l[k]?=some x) (h:inR L pos x=false):bf_ L l pos t=l.length:=by
 unfold bf_;rw [if_neg];intro f;have:=List.all_eq_true.1 f x (List.mem_of_getElem? hx);rw [h] at this;cases this
theorem jy_ {L:List RunP} {l:List Int} {pos t:Int} {k:Nat} (hall: ∀ (i:Nat) x,l[i]?=some x ->inR L pos x=true) (hk:k<=l.length) (h1: ∀ (i:Nat) x,i<k ->l[i]?=some x ->decide (t<=b0_ L pos x)=false) (h2:k<l.length -> ∀ x,l[k]?=some x ->decide (t<=b0_ L pos x)=true):bf_ L l pos t=k:=by
 unfold bf_;rw [if_pos (List.all_eq_true.2 fun x g=>by obtain⟨i,f⟩:=List.getElem?_of_mem g;exact hall i x f)];rcases Nat.lt_or_ge k l.length with h|h
 ·refine(List.findIdx_eq h).2 ⟨h2 h _ (List.getElem?_eq_getElem h),fun j n=>?_⟩;exact h1 j _ n (List.getElem?_eq_getElem (by omega))
 ·obtain rfl:k=l.length:=by omega
  refine List.findIdx_eq_length_of_false fun x g=>?_;obtain⟨i,f⟩:=List.getElem?_of_mem g;exact h1 i x (List.getElem?_eq_some_iff.1 f).1 f
def ds_ (L:List RunP) (l:List Int) (pos t:Int) (k:Nat):Bool:=match l[k]? with
 |some x=>decide (t<=b0_ L pos x)
 |none=>false
theorem eo_ {L:List RunP} {l:List Int} {pos t:Int} {k:Nat} {x:Int} (h:l[k]?=some x):ds_ L l pos t k=decide (t<=b0_ L pos x):=by unfold ds_;rw [h]
theorem ky_ {L:List RunP} {l:List Int} {pos t:Int} (h: ∀ (i:Nat) y z,l[i]?=some y ->l[i+1]?=some z ->b0_ L pos y<=b0_ L pos z): ∀ i j,i<=j ->j<l.length ->ds_ L l pos t i=true ->ds_ L l pos t j=true:=by
 intro i j aA D p
 induction j with
 |zero=>
  obtain rfl:i=0:=by omega
  exact p
 |succ j ih=>
  rcases Nat.lt_or_ge i (j+1) with q|q
  ·have n:=ih (by omega) (by omega);have f:l[j]?=some l[j]:=List.getElem?_eq_getElem (by omega);have g:l[j+1]?=some l[j+1]:=List.getElem?_eq_getElem D;rw [eo_ f,decide_eq_true_eq] at n;rw [eo_ g,decide_eq_true_eq];exact Int.le_trans n (h j _ _ f g)
  ·obtain rfl:i=j+1:=by omega
   exact p
def fy_ (L:List RunP) (l:List Int) (pos:Int) (k:Nat) (f:Bool):Prop:=f=false -> ∀ (i:Nat) y z,i+1<k ->l[i]?=some y ->l[i+1]?=some z ->b0_ L pos y<=b0_ L pos z
theorem dq_ (A A1:Option Addr) (n c m c1:Nat) (rt pos t:Int) (L:List RunP) (l:List Int) (we:World) (hL:be_ we A n L) (hn:n<=100000) (hl:Rd we 1 (numE .i64) A1 m l) (hm:m<=100000) (hdl: ∀ r∈L,r.dep.length<=100000):
 Calls Tryz.prog 42 #[.slice A n c,.agg #[.int .i64 rt,.slice A1 m c1],.int .i64 pos,.int .i64 t] we (rb_ (.int .i64 (bf_ L l pos t:Nat)) we):=by
 have p:=H_ hl.len;have U:=H_ hL.len;obtain⟨R,hR⟩:=e_ (bf_ L l pos t);rw [hR];have X:=H_ hR;have aJ:=H_ hL;have aK:=H_ hl;have aS:=H_ hdl;obtain⟨w1,w2,b1,b2,bA,cA,aF,aO,aP,bI,bJ,aL,B1,B2,cE,cF⟩:=b5_ we 68 121 [.int .i64 rt,.slice A1 m c1] [.slice A n c,.int .i64 rt,.slice A1 m c1,.int .i64 pos,.int .i64 t];have p1:=B1.cell 1 rfl;have aM:=H_ B2;have l1:=B1.lt;have l2:=B2.lt;have bF:=H_ p1;have aH:Bx w1 b1 68 [.int .i64 rt,.slice A1 m c1]:=by rw [<-bA, <-aF];exact Bx.new _ _ _
 have o0:=aH.cell 0 rfl;have o1:=aH.cell 1 rfl;clear aH;have Y:Hd (Below w2.heap.size w2 w2):=Below.refl _ _;have aU:Hd (∀ (i:Nat) x,i<0 ->l[i]?=some x ->inR L pos x=true):=fun i x h=>by omega
 have aT:Hd (fy_ L l pos 0 false):=fun _ i y z h=>by omega
 clear B1 B2 bI bJ hL hl hdl hR;go_enter Tryz.func42,Tryz.ntmps42
 go_wp2
 clear bA cA aF aO aP p1 o0 o1;go_loopw [22,10] (fun iv cC wr=> ∃ (k:Nat) (f:Bool),k<=m/\iv= .int .i64 k/\cC= .bool f/\Hd (∀ (i:Nat) x,i<k ->l[i]?=some x ->inR L pos x=true)/\Hd (fy_ L l pos k f)/\Hd (Below w2.heap.size w2 wr)) (fun iv _ _=>m-(intOf iv).toNat)
 ·exact⟨0,false,Nat.zero_le _,rfl,rfl,aU,aT,Y⟩
 ·clear aU aT Y;obtain⟨k,f,hk,rfl,rfl,aA,b,j⟩:=hrel;have g:=h_ aL j.o;have p1:=c_ j.o l1 bF.o;by_cases bV:k<m
  ·have cO:(k:Int)<(m:Int):=by omega
   obtain⟨bR,oR,x,rfl,bN,M,gx⟩:=(aK.o.below g.o).num bV;have T:=H_ M;clear M;by_cases cT:x<0
   ·have Q:Hd (m=R):=by show _=_;rw [<-X.o, <-p.o];exact(ex_ T.o (by unfold inR;rw [F_ (by omega)];simp)).symm
    go_wp2
    go_returns;exact⟨by rw [<-Q.o];rfl,g.o⟩
   ·by_cases cU:(n:Int)<=x
    ·have Q:Hd (m=R):=by show _=_;rw [<-X.o, <-p.o];exact(ex_ T.o (by unfold inR;rw [show decide (x<(L.length:Int))=false from F_ (by have:=U.o;omega)];simp)).symm
     go_wp2
     go_returns;exact⟨by rw [<-Q.o];rfl,g.o⟩
    ·by_cases cQ:pos<0
     ·have Q:Hd (m=R):=by show _=_;rw [<-X.o, <-p.o];exact(ex_ T.o (by unfold inR;rw [show decide (0<=pos)=false from F_ (by omega)];simp)).symm
      go_wp2
      go_returns;exact⟨by rw [<-Q.o];rfl,g.o⟩
     ·obtain⟨ka,rfl⟩:=Int.eq_ofNat_of_zero_le (show 0<=x by omega);obtain⟨N,rfl⟩:=Int.eq_ofNat_of_zero_le (show 0<=pos by omega);have bT:ka<n:=by omega
      have aI:=eg_ (L:=L) (k:=ka) (by have:=U.o;omega);obtain⟨bL,oL,r,x1,xm,xc,x2,xn,xd,rfl,aQ,hr,_,_,_,g3,_,rd,_,_⟩:=(aJ.o.below g.o).get bT;obtain rfl:ao_ L ka=r:=Option.some.inj (aI.symm.trans hr);have aG:(ao_ L ka).dep.length =xn:=rd.len;have cJ:(ka:Int)<(n:Int):=by omega
      have cN:=aS.o _ (List.mem_of_getElem? hr);have cS:=H_ hr;have cD:=H_ aI;have aE:=H_ aG;clear aI hr aG;by_cases cR:(xn:Int)<=(N:Int)
      ·have Q:Hd (m=R):=by show _=_;rw [<-X.o, <-p.o];exact(ex_ T.o (by unfold inR;rw [show decide ((N:Int)<((ao_ L ka).dep.length :Int))=false from F_ (by have:=aE.o;omega)];simp)).symm
       clear rd
       go_wp2
       go_returns;exact⟨by rw [<-Q.o];rfl,g.o⟩
      ·have bX:Hd (inR L (N:Int) (ka:Int)=true):=by
        show _=_;unfold inR;rw [T_ (by omega),T_ (by have:=U.o;omega),T_ (by omega),T_ (by have:=aE.o;omega)];rfl
       have aB:Hd (∀ (i:Nat) x,i<k+1 ->l[i]?=some x ->inR L (N:Int) x=true):=fun i y hi hy=>by
        rcases Nat.lt_or_ge i k with h|h
        ·exact aA.o i y h hy
        ·obtain rfl:i=k:=by omega
         rw [T.o] at hy;cases hy;exact bX.o
       have aW:N<xn:=by omega
       have cL:(N:Int)<(xn:Int):=by omega
       obtain⟨bD,oD,z,rfl,bK,hz,gz⟩:=rd.num aW;have J:N<(ao_ L ka).dep.length :=by have:=aE.o;omega
       have bP:Hd (b0_ L (N:Int) (ka:Int)=z):=by show _=_;rw [fC_ J];exact Option.some.inj ((List.getElem?_eq_getElem J).symm.trans hz)
       have cP:m<=9223372036854775807:=by omega
       clear rd hz J
       cases f with
       |true=>
        have d:Hd (fy_ L l (N:Int) (k+1) true):=fun h=>by cases h
        go_wp2
        refine wb_ wr.heap.size ?_;intro C hC
        repeat(go_big_quiet_step (first
         |((intro _;with_reducible rfl))
        ))
        intro w9 G;clear hC;have D:=h_ j G;clear G j g
        go_wp2
        go_roundw
        ·exact⟨k+1,true,by omega,by go_num,rfl,aB,d,D⟩
        ·simp [intOf]<;>omega
       |false=>
        cases k with
        |zero=>
         rw [Nat.add_zero] at gx;have d:Hd (fy_ L l (N:Int) (0+1) false):=fun _ i y z h=>by omega
         go_wp2
         refine wb_ wr.heap.size ?_;intro C hC
         repeat(go_big_quiet_step (first
          |((intro _;with_reducible rfl))
         ))
         intro w9 G;clear hC;have D:=h_ j G;clear G j g
         go_wp2
         go_roundw
         ·exact⟨0+1,false,by omega,by go_num,rfl,aB,d,D⟩
         ·simp [intOf]<;>omega
        |succ k=>
         obtain⟨_,_,y,bH,_,hy,gy⟩:=(aK.o.below g.o).num (show k<m by omega);cases bH;have aC:=aA.o k y (by omega) hy;unfold inR at aC;simp only [Bool.and_eq_true,decide_eq_true_eq] at aC;obtain⟨y1,y2,_,y4⟩:=aC;obtain⟨kb,rfl⟩:=Int.eq_ofNat_of_zero_le y1;have aN:=eg_ (L:=L) (k:=kb) (by omega);obtain⟨_,_,s,z1,zm,zc,z2,zn,zd,bG,_,hs,_,_,_,f3,_,sd,_,_⟩:=(aJ.o.below g.o).get (show kb<n by have:=U.o;omega);cases bG;obtain rfl:ao_ L kb=s:=Option.some.inj (aN.symm.trans hs);have J:N<(ao_ L kb).dep.length :=by omega
         have aX:N<zn:=by rw [<-sd.len];exact J
         obtain⟨bE,oE,u,rfl,bM,hu,gu⟩:=sd.num aX;have bO:Hd (b0_ L (N:Int) (kb:Int)=u):=by show _=_;rw [fC_ J];exact Option.some.inj ((List.getElem?_eq_getElem J).symm.trans hu)
         have cB:=H_ hy;have cK:(kb:Int)<(n:Int):=by have:=U.o;omega
         have bW:(N:Int)<(zn:Int):=by omega
         have cH:(0:Int)<(k:Int)+1:=by omega
         have bZ:IntKind.i64.wrap ((k:Int)+1-1)=k:=by rw [IntWalk.i64_in _ (by omega)];omega
         have cI:(k:Int)<(m:Int):=by omega
         have bC:Hd (∀ q,decide (z<u)=q ->fy_ L l (N:Int) (k+1+1) q):=fun q hq bY i y' z' hi h1 h2=>by
          rcases Nat.lt_or_ge i k with h|h
          ·exact b.o rfl i y' z' (by omega) h1 h2
          ·obtain rfl:i=k:=by omega
           rw [cB.o] at h1;rw [T.o] at h2;cases h1;cases h2;rw [bP.o,bO.o];rw [bY,decide_eq_false_iff_not] at hq;omega
         clear hy aN hs sd hu J y1 y2 y4 b;obtain⟨q,hq⟩:=e_ (decide (z<u));have d:=H_ (bC.o q hq);clear bC
         go_wp2
         refine wb_ wr.heap.size ?_;intro C hC
         repeat(go_big_quiet_step (first
          |((intro _;with_reducible rfl))
          |(intro Z;have cM:=b_ g Z;simp only [c_ Z aQ g3,c_ Z aQ f3,c_ Z bK gz,c_ Z bM gu,c_ Z bN gy,c_ Z (Nat.lt_of_lt_of_le l1 j.o.size) p1,Result.andThen];exact⟨trivial,rfl⟩)
         ))
         intro w9 G;clear hC;have D:=h_ j G;clear G j g bZ hq
         go_wp2
         go_roundw
         ·exact⟨k+1+1,q,by omega,by go_num,rfl,aB,d,D⟩
         ·simp [intOf]<;>omega
  ·obtain rfl:m=k:=by omega
   have F:Hd (∀ (i:Nat) x,l[i]?=some x ->inR L pos x=true):=fun i x M=>aA.o i x (by have:=(List.getElem?_eq_some_iff.1 M).1;have:=p.o;omega) M
   have a:Hd (∀ (W:World) (k:Nat),Below w2.heap.size w2 W ->k<m ->Calls Tryz.prog 87 #[.agg #[.slice A n c,.int .i64 rt,.slice A1 m c1,.int .i64 pos,.int .i64 t],.int .i64 (k:Int)] W (rb_ (.bool (ds_ L l pos t k)) W)):=fun W k hW hk=>by
    have bU:k<l.length:=by rw [p.o];exact hk
    have M:l[k]?=some l[k]:=List.getElem?_eq_getElem bU;rw [eo_ M];have bB:=b_ aL hW;refine oI_ A A1 n c m c1 rt pos t L l W (aJ.o.below bB) hn (aK.o.below bB) hm k _ M (F.o k _ M) ?_;have P:=F.o k _ M;unfold inR at P;simp only [Bool.and_eq_true,decide_eq_true_eq] at P;exact aS.o _ (List.mem_of_getElem? (b8_ (aY_.2 ⟨P.1,P.2.1⟩)))
   have aD:Hd (∀ k,k<=m ->(∀ i,i<k ->ds_ L l pos t i=false) ->(k<m ->ds_ L l pos t k=true) ->k=R):=fun k hk h1 h2=>by
    rw [<-X.o];exact(jy_ F.o (by rw [p.o];exact hk) (fun i x hi M=>by have:=h1 i hi;rwa [eo_ M] at this) (fun h x M=>by have:=h2 (by rw [<-p.o];exact h);rwa [eo_ M] at this)).symm
   obtain⟨y0,y1,y2,y3,y4⟩:=d_5 j.o l2 aM.o
   cases f with
   |false=>
    have aZ:=H_ (lu_ 87 (.agg #[.slice A n c,.int .i64 rt,.slice A1 m c1,.int .i64 pos,.int .i64 t]) (enters_of Tryz.func87 (by kernel_rfl) rfl) m hm (ds_ L l pos t) (by rw [<-p.o];exact ky_ (fun i y z hy hz=>b.o rfl i y z (by have:=(List.getElem?_eq_some_iff.1 hz).1;have:=p.o;omega) hy hz)) wr (fun W k hW hk=>a.o W k (b_ j hW) hk));clear b aA a F;go_wp2_with fail;refine aZ.o.mono ?_;rintro e w3 ⟨k,rfl,hk,h1,h2,S⟩;have D:=h_ g S;have Q:=H_ (aD.o k hk h1 h2);clear S aZ h1 h2 j g
    go_wp2
    go_returns;exact⟨by rw [<-Q.o];rfl,D.o⟩
   |true=>
    obtain⟨wo,rfl⟩: ∃ wo:World,wo=wr:=⟨_,rfl⟩
    have h0:Hd (∀ x,x<0 ->ds_ L l pos t x=false):=fun x M=>by omega
    have Y:=j;clear b aA F y0 y1 y2 y3 y4
    go_wp2
    go_loopw [93] (fun iv wr=> ∃ i:Nat,i<=m/\iv= .int .i64 i/\Hd (∀ x,x<i ->ds_ L l pos t x=false)/\Hd (Below w2.heap.size w2 wr)) (fun iv _=>m-(intOf iv).toNat)
    ·exact⟨0,Nat.zero_le _,rfl,h0,Y⟩
    ·clear h0 Y j g p1;obtain⟨i,bS,rfl,hi,j⟩:=hrel;have g:=h_ aL j.o;have p1:=c_ j.o l1 bF.o;by_cases aV:i<m
     ·have cG:(i:Int)<(m:Int):=by omega
      have Z:=H_ (a.o wr i j.o aV);obtain⟨q,hq⟩:=e_ (ds_ L l pos t i);rw [hq] at Z;have aY:=H_ hq;obtain⟨y0,y1,y2,y3,y4⟩:=d_5 j.o l2 aM.o;clear hq;go_wp2_with fail;refine Z.o.mono ?_;rintro e w3 ⟨rfl,S⟩;have D:=h_ j S;have aR:=h_ g S;clear S Z j g y0 y1 y2 y3 y4 p1
      cases q with
      |true=>
       have Q:=H_ (aD.o i bS hi.o (fun _=>aY.o))
       go_wp2
       go_returns;exact⟨by rw [<-Q.o];rfl,aR.o⟩
      |false=>
       have bQ:Hd (∀ x,x<i+1 ->ds_ L l pos t x=false):=fun x M=>by
        rcases Nat.lt_or_ge x i with h|h
        ·exact hi.o x h
        ·obtain rfl:x=i:=by omega
         exact aY.o
       go_wp2
       go_roundw
       ·exact⟨i+1,by omega,by go_num,bQ,D⟩
       ·simp [intOf]<;>omega
     ·obtain rfl:m=i:=by omega
      have Q:=H_ (aD.o m (Nat.le_refl _) hi.o (fun h=>absurd h (Nat.lt_irrefl _)))
      go_wp2
      go_returns;exact⟨by rw [<-Q.o];rfl,g.o⟩
def P0:List PatP:=[⟨0,[0]⟩,⟨0,[1]⟩]
theorem srt0:srtR L0 [0,1]=[0,1]:=by
 symm
 refine eS_ (List.Perm.refl _) ?_;simp only [List.pairwise_cons,List.mem_cons,forall_eq_or_imp,List.not_mem_nil,false_implies,implies_true,and_true,List.Pairwise.nil];rfl
theorem pu_:cV_ M0 L0=P0:=by
 have h:cV_ M0 L0=ofL L0 ((0:Nat):Int) (srtR L0 [0,1])++[]:=rfl;rw [h,srt0];rfl
theorem pR_:resP M0 L0=P0:=by unfold resP;rw [if_pos err0,pu_]
theorem cat0:bf_ L0 [0] 1 9=0:=rfl
theorem cat1:bf_ L0 [0] 1 10=1:=rfl
theorem kh_: ∀ r∈L0,r.dep.length<=100000:=by
 intro r f;simp only [L0,List.mem_cons,List.not_mem_nil,or_false] at f;rcases f with rfl|rfl<;>decide
theorem kd_ (we:World):Calls Tryz.prog 43 #[] we fun e w'=> ∃ V,e= .returned (wVal M0 V)/\RW w' M0 V/\Below we.heap.size we w':=by
 obtain⟨v0,p,aG,c,aD,B0⟩:=box1 we 31 [.int .i64 0,.slice none 0 0,.slice none 0 0,.slice none 0 0,.slice none 0 0,.slice none 0 0,.slice none 0 0,.slice none 0 0,.slice none 0 0,.slice none 0 0,.slice none 0 0,.slice none 0 0];obtain⟨v1,b1,aP,aH,Y,B1⟩:=box1 v0 9 [.string (⟨#[97]⟩:ByteArray),.string (⟨#[98]⟩:ByteArray),.string (⟨#[99]⟩:ByteArray)];obtain⟨v2,b2,aQ,aI,F,B2⟩:=box1 v1 9 [.string (⟨#[114]⟩:ByteArray)];obtain⟨v3,b3,aR,aJ,y,B3⟩:=box1 v2 9 [.string (⟨#[116]⟩:ByteArray),.string (⟨#[117]⟩:ByteArray)];obtain⟨v4,b4,aS,aK,q,B4⟩:=box1 v3 3 [.int .i64 0,.int .i64 1,.int .i64 2];obtain⟨v5,b5,aT,aL,n,B5⟩:=box1 v4 2 [.int .i64 3,.int .i64 3];obtain⟨v6,b6,aU,aM,j,B6⟩:=box1 v5 2 [.int .i64 1];obtain⟨v7,a,aV,aN,g,B7⟩:=box1 v6 51 [.slice (some ⟨b4,0,none⟩) 3 3,.slice (some ⟨b5,0,none⟩) 2 2,.slice (some ⟨b6,0,none⟩) 1 1]
 obtain⟨v8,b8,aW,aO,f,B8⟩:=box1 v7 53 [.int .i64 0,.int .i64 5,.int .i64 0,.int .i64 5,.int .i64 0,.int .i64 6,.int .i64 0,.int .i64 6];have L:Below we.heap.size we v0:=aD;have M:Below we.heap.size we v1:=u_ L Y;have N:Below we.heap.size we v2:=u_ M F;have P:Below we.heap.size we v3:=u_ N y;have Q:Below we.heap.size we v4:=u_ P q;have R:Below we.heap.size we v5:=u_ Q n;have S:Below we.heap.size we v6:=u_ R j;have U:Below we.heap.size we v7:=u_ S g;have X:Below we.heap.size we v8:=u_ U f;have C0:=H_ (((((((((B0).below Y).below F).below y).below q).below n).below j).below g).below f);have C1:=H_ ((((((((B1).below F).below y).below q).below n).below j).below g).below f);have C2:=H_ (((((((B2).below y).below q).below n).below j).below g).below f);have C3:=H_ ((((((B3).below q).below n).below j).below g).below f);have C4:=H_ (((((B4).below n).below j).below g).below f)
 have C5:=H_ ((((B5).below j).below g).below f);have C6:=H_ (((B6).below g).below f);have C7:=H_ ((B7).below f);have C8:=H_ (B8);have aB:=H_ X;have aE:Hd (we.heap.size<=p):=by show _<=_;omega
 clear B0 B1 B2 B3 B4 B5 B6 B7 B8 L M N P Q R S U X;have b:=C0.o;obtain⟨z,G⟩:=b.row [.int .i64 99,.slice (some ⟨b1,0,none⟩) 3 3,.slice none 0 0,.slice none 0 0,.slice (some ⟨b2,0,none⟩) 1 1,.slice (some ⟨b3,0,none⟩) 2 2,.slice none 0 0,.slice none 0 0,.slice none 0 0,.slice (some ⟨a,0,none⟩) 1 1,.slice (some ⟨b8,0,none⟩) 2 2,.slice none 0 0];obtain⟨wF,aC⟩:=e_ (v8.setRow p (List.toArray [.int .i64 99,.slice (some ⟨b1,0,none⟩) 3 3,.slice none 0 0,.slice none 0 0,.slice (some ⟨b2,0,none⟩) 1 1,.slice (some ⟨b3,0,none⟩) 2 2,.slice none 0 0,.slice none 0 0,.slice none 0 0,.slice (some ⟨a,0,none⟩) 1 1,.slice (some ⟨b8,0,none⟩) 2 2,.slice none 0 0]));rw [aC] at z G;have d:Hd (Below we.heap.size we wF):=aB.o.trans (G.below aB.o.size (m_ aE.o));have aF:Hd (∀ k,k<v8.heap.size ->k≠p ->wF.heap[k]?=v8.heap[k]?):=fun k i Z=>G.keep k i (by simpa using Z);have z:=H_ z;clear G
 have J:p<b1/\p<b2/\p<b3/\p<b4/\p<b5/\p<b6/\p<a/\p<b8:=by
  have h1:=Y.size;have h2:=F.size;have h3:=y.size;have h4:=q.size;have h5:=n.size;have h6:=j.size;have h7:=g.size;have h8:=f.size;have h0:=C0.o.lt;have g0:p<v0.heap.size:=by rw [<-aG, <-c];simp
  refine⟨?_,?_,?_,?_,?_,?_,?_,?_⟩<;>omega
 have aA:=H_ J;clear J;go_enter Tryz.func43,Tryz.ntmps43;go_wp2_with (with_reducible refine ac_ (.tmp 0) (.tmp 13) 31 (by with_reducible rfl) ?x1 ?x2 ?x3 b ?x4 ?x5 ?x6 aC ?_)
 all_goals try rfl
 all_goals try kernel_rfl
 refine ar_ (s:=0) (t:=31) rfl rfl z.o (by kernel_rfl) (by kernel_rfl) rfl ?_;have D:=fun(k:Nat) (T:TypeId) (u:List Value) (h:Bx v8 k T u) (i:p<k)=>(show Bx wF k T u from(aF.o k h.lt (by omega)).trans h)
 obtain⟨q1,q2,q3,q4,q5,q6,q7,q8⟩:=aA.o;have D1:=Rd.of_bx (enc:=strE) (l:=[(⟨#[97]⟩:ByteArray),(⟨#[98]⟩:ByteArray),(⟨#[99]⟩:ByteArray)]) ad_ (D _ _ _ C1.o q1);have D2:=Rd.of_bx (enc:=strE) (l:=[(⟨#[114]⟩:ByteArray)]) ad_ (D _ _ _ C2.o q2);have D3:=Rd.of_bx (enc:=strE) (l:=[(⟨#[116]⟩:ByteArray),(⟨#[117]⟩:ByteArray)]) ad_ (D _ _ _ C3.o q3);have D4:=Rd.of_bx (enc:=numE .i64) (l:=[0,1,2]) aj_ (D _ _ _ C4.o q4);have D5:=Rd.of_bx (enc:=numE .i64) (l:=[3,3]) aj_ (D _ _ _ C5.o q5);have D6:=Rd.of_bx (enc:=numE .i64) (l:=[1]) aj_ (D _ _ _ C6.o q6);have D7:=D _ _ _ C7.o q7;have D8:=Rd.of_bx (enc:=aL_) (l:=[⟨0,5,0,5⟩,⟨0,6,0,6⟩]) bF_ (D _ _ _ C8.o q8)
 refine⟨⟨some ⟨b1,0,none⟩,none,none,some ⟨b2,0,none⟩,some ⟨b3,0,none⟩,none,none,none,some ⟨a,0,none⟩,some ⟨b8,0,none⟩,none,3,0,0,1,2,0,0,0,1,2,0,3,0,0,1,2,0,0,0,1,2,0⟩,rfl,
  ⟨D1,Rd.nil,Rd.nil,D2,D3,Rd.nil,Rd.nil,Rd.nil,⟨rfl,fun k r i=>?_⟩,D8,Rd.nil⟩,d.o⟩
 have Z:k=0:=by have:=(List.getElem?_eq_some_iff.1 i).1;simp [M0] at this;omega
 subst Z;obtain rfl:(⟨[0,1,2],[3,3],[1]⟩:ba_)=r:=by simpa [M0] using i
 exact⟨a,0,rfl,D7.lt,⟨_,_,_,D7.cell 0 rfl,D4,by decide,by decide⟩,⟨_,_,_,D7.cell 1 rfl,D5,by decide,by decide⟩,⟨_,_,_,D7.cell 2 rfl,D6,by decide,by decide⟩⟩
theorem fn_ (we:World):Calls Tryz.prog 44 #[] we fun e w'=> ∃ b,e= .returned (.slice (some ⟨b,0,none⟩) 2 2)/\be_ w' (some ⟨b,0,none⟩) 2 L0/\Below we.heap.size we w':=by
 obtain⟨v0,s,S,G,Q,Z⟩:=box1 we 2 [.int .i64 5,.int .i64 8,.int .i64 12];obtain⟨v1,b1,T,L,J,a⟩:=box1 v0 2 [.int .i64 5,.int .i64 9,.int .i64 12];obtain⟨v2,b2,U,M,F,c⟩:=box1 v1 2 [.int .i64 6,.int .i64 7,.int .i64 9];obtain⟨v3,b3,X,N,g,d⟩:=box1 v2 2 [.int .i64 6,.int .i64 7,.int .i64 9];obtain⟨v4,b4,Y,P,f,i⟩:=box1 v3 47 [.int .i64 0,.int .i64 0,.slice (some ⟨s,0,none⟩) 3 3,.slice (some ⟨b1,0,none⟩) 3 3,.int .i64 1,.int .i64 0,.slice (some ⟨b2,0,none⟩) 3 3,.slice (some ⟨b3,0,none⟩) 3 3];have p:Below we.heap.size we v0:=Q;have q:Below we.heap.size we v1:=u_ p J;have y:Below we.heap.size we v2:=u_ q F;have z:Below we.heap.size we v3:=u_ y g;have D:Below we.heap.size we v4:=u_ z f;have C0:=H_ (((((Z).below J).below F).below g).below f);have C1:=H_ ((((a).below F).below g).below f);have C2:=H_ (((c).below g).below f);have C3:=H_ ((d).below f);have C4:=H_ (i);have R:=H_ D
 clear Z a c d i p q y z D;go_enter Tryz.func44,Tryz.ntmps44
 go_wp2
 clear S G T L U M X N Y P;go_returns;have D0:=Rd.of_bx (enc:=numE .i64) (l:=[5,8,12]) aj_ C0.o;have D1:=Rd.of_bx (enc:=numE .i64) (l:=[5,9,12]) aj_ C1.o;have D2:=Rd.of_bx (enc:=numE .i64) (l:=[6,7,9]) aj_ C2.o;have D3:=Rd.of_bx (enc:=numE .i64) (l:=[6,7,9]) aj_ C3.o;have D4:=Rd.of_bx (enc:=rnE) (l:=[(0,0,(some ⟨s,0,none⟩,3,3),(some ⟨b1,0,none⟩,3,3)),(1,0,(some ⟨b2,0,none⟩,3,3),(some ⟨b3,0,none⟩,3,3))]) hF_ C4.o;refine⟨b4,rfl,⟨_,D4,rfl,fun k e r j n=>?_⟩,R.o⟩
 match k,j,n with
 |0,j,n=>
  simp [L0] at j n;subst j n;exact⟨rfl,rfl,D0,⟨Nat.le_refl _,Nat.le_of_ble_eq_true rfl⟩,D1,⟨Nat.le_refl _,Nat.le_of_ble_eq_true rfl⟩⟩
 |1,j,n=>
  simp [L0] at j n;subst j n;exact⟨rfl,rfl,D2,⟨Nat.le_refl _,Nat.le_of_ble_eq_true rfl⟩,D3,⟨Nat.le_refl _,Nat.le_of_ble_eq_true rfl⟩⟩
 |k+2,j,n=>simp at j
