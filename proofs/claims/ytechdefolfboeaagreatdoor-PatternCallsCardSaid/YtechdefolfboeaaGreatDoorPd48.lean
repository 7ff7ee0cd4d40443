/- Merged. -/
import Derived.Test.YtechdefolfboeaaGreatDoorPd28
set_option linter.unusedVariables false
set_option linter.unusedSimpArgs false
set_option maxRecDepth 100000
set_option maxHeartbeats 8000000
namespace Go.Proofs.YtechdefolfboeaaGreatDoor
open Go.RowKit B K
theorem nC_:(Tryz.prog.info? 47).map (fun i=>(i.zero,i.size,i.bytes))=some (some (.agg #[.int .i64 0,.int .i64 0,.slice none 0 0,.slice none 0 0]),4,64):=by kernel_rfl
def d0_ (base:Nat) (w:World) (v:SlV) (l:List Int):Prop:=w.ownsRow base 2 1 v.v l.length (l.flatMap (numE .i64))
structure RunO (base:Nat) (w:World) (e:RnE) (r:RunP):Prop where
 trip:e.1=r.trip
 no:e.2.1=r.no
 arr:d0_ base w e.2.2.1 r.arr
 dep:d0_ base w e.2.2.2 r.dep
def cD_ (base:Nat) (w:World) (v:Value) (L:List RunP):Prop:= ∃ E:List RnE,w.ownsRow base 47 4 v E.length (E.flatMap rnE)/\aD_ (RunO base) w E L
section
variable {base:Nat} {w w':World} {v:Value} {L:List RunP}
theorem d0_.rd {v:SlV} {l:List Int} (h:d0_ base w v l): ∃ A c,v=(A,l.length,c)/\Rd w 1 (numE .i64) A l.length l/\l.length<=c/\c<=9223372036854775807:=by
 obtain⟨A,n,c⟩:=v;obtain⟨A',c',e,f,g,j⟩:=Rd.of_own aj_ rfl h
 injection e with e1 e2 e3
 subst e1 e2 e3;exact⟨_,_,rfl,f,g,j⟩
theorem RunO.t {e:RnE} {r:RunP} (h:RunO base w e r):RunT w e r:=by
 obtain⟨A1,c1,f,j,n,p⟩:=h.arr.rd;obtain⟨A2,c2,g,q,y,z⟩:=h.dep.rd;refine⟨h.trip,h.no,?_,?_,?_,?_⟩<;>first|rw [f]|rw [g]
 ·exact j
 ·exact⟨n,p⟩
 ·exact q
 ·exact⟨y,z⟩
theorem cD_.below (h:cD_ base w v L) (hb:Below w.heap.size w w'):cD_ base w' v L:=by
 obtain⟨E,f,g⟩:=h;exact⟨E,aa_ f hb,g.up fun e r h=>⟨h.trip,h.no,aa_ h.arr hb,aa_ h.dep hb⟩⟩
theorem cD_.nil:cD_ base w (.slice none 0 0) []:=⟨[],World.ownsRow_nil _ _ _ _,aD_.nil⟩
theorem cD_.rd (h:cD_ base w v L): ∃ A c,v= .slice A L.length c/\be_ w A L.length L/\L.length<=c/\c<=9223372036854775807:=by
 obtain⟨E,n,f⟩:=h;obtain⟨A,c,e,g,j,y⟩:=Rd.of_own hF_ rfl n;rw [f.len] at e g j;exact⟨A,c,e,⟨⟨E,g,⟨f.len,fun k e r p q=>(f.at_ k e r p q).t⟩⟩⟩,j,y⟩
theorem RunO.kept {e:RnE} {r:RunP} {n:Nat} {xs:List Value} (hv:w.ownsRow base 47 4 v n xs) (hg:w.grownBy w' v.ownBlock) (h:RunO base w e r):RunO base w' e r:=by
 have f: ∀ {s:SlV} {l:List Int},d0_ base w s l ->d0_ base w' s l:=fun {s l} g=>by
  refine World.ownsRow.kept g hg ?_
  cases p:s.v.ownBlock with
  |none=>exact .inl rfl
  |some q=>exact .inr fun j=>b7_ hv g (k:=q) (by decide) p j
 exact⟨h.trip,h.no,f h.arr,f h.dep⟩
theorem cD_.add (h:cD_ base w v L) {e:RnE} {r:RunP} (he:RunO base w e r) (hlen:L.length+1<=1099511627776) (hB:base<=w.heap.size):
 ∃ v' w1,(Builtin.append_ #[32,32] 32 #[v,.slice (some ⟨w.heap.size,0,none⟩) 1 1]).run Tryz.prog (w.alloc (.cells (rnE e).toArray 47))= .ok v' w1/\cD_ base w1 v' (L++[r])/\Below base w w1:=by
 obtain⟨E,q,z⟩:=h;obtain⟨g,c,w1,p,j,n,aA⟩:=a7_ (enc:=rnE) Tryz.underlying32 nC_ rfl (by decide) hF_ o6_ w base v E e q (by rw [z.len];omega) (by decide) hB;have f:=(Below.refl w.heap.size w).alloc (Nat.le_refl _) (.cells (rnE e).toArray 47);have y:Below base w w1:=(f.mono hB).grown n (Nat.le_trans hB f.size) (fun k D=>(q.lt k D).1);refine⟨_,w1,p,⟨E++[e],by rw [List.length_append] at j ⊢;exact j,aD_.snoc (z.up fun e r h=>?_) ?_⟩,y⟩
 ·exact RunO.kept (aa_ q f) n ⟨h.trip,h.no,aa_ h.arr f,aa_ h.dep f⟩
 ·exact RunO.kept (aa_ q f) n ⟨he.trip,he.no,aa_ he.arr f,aa_ he.dep f⟩
end
theorem h8_ (A:Option Addr) (n c:Nat) (l:List Int) (w:World) (hr:Rd w 1 (numE .i64) A n l) (hn:n<=1099511627776):
 Calls Tryz.prog 75 #[.slice A n c] w fun e w'=> ∃ A m d,e= .returned (.slice A m d)/\d0_ w.heap.size w' (A,m,d) l/\Below w.heap.size w w':=by
 have g:=hr.len;obtain⟨v,w1,f,own,p,_⟩:=a9_ (enc:=(numE .i64)) Tryz.underlying45 bc_ rfl (by decide) aj_ bw_ c (l:=[]) (bW_ w w.heap.size 2 1 (Nat.le_refl _)) (hr.below ((Below.refl _ w).alloc (Nat.le_refl _) _)) (by simpa using hn) (by decide) (by simp);have z:Hd (Below w.heap.size w w1):=((Below.refl _ w).alloc (Nat.le_refl _) _).grown p (by simp) (fun k D=>by simp [Value.ownBlock] at D;omega);simp only [List.length_nil,Nat.zero_add,List.nil_append] at f own
 have F: ∃ s:SlV,v=s.v:=by
  obtain⟨q,y,e,_⟩:=Rd.of_own (l:=l) aj_ rfl (by rw [g];exact own);exact⟨(q,l.length,y),e⟩
 obtain⟨s,rfl⟩:=F;have own:Hd (d0_ w.heap.size w1 s l):=by show d0_ _ _ _ _;unfold d0_;rw [g];exact own
 rename_i j;clear j p hr g;go_enter Tryz.func75,Tryz.ntmps75;go_wp2_with (at_builtin;refine ap_ (.tmp 3) (.tmp 4) 45 f ?_);go_returns;exact⟨s.1,s.2.1,s.2.2,rfl,own.o,z.o⟩
theorem jQ_ (A:Option Addr) (n c:Nat) (L:List RunP) (w:World) (hL:be_ w A n L) (hn:n<=100000) (hA: ∀ r∈L,r.arr.length<=100000/\r.dep.length<=100000):
 Calls Tryz.prog 28 #[.slice A n c] w fun e w'=> ∃ v,e= .returned v/\cD_ w.heap.size w' v L/\Below w.heap.size w w':=by
 have aA:=H_ hA;have J:=H_ hL.len;clear hA;go_enter Tryz.func28,Tryz.ntmps28
 go_wp2
 go_loopw [3,4] (fun vo vi wr=> ∃ (i:Nat) (P:Option Addr) (Q:Nat),i<=n/\vo= .slice P i Q/\vi= .int .i64 i/\Hd (cD_ w.heap.size wr (.slice P i Q) (L.take i))/\Hd (Below w.heap.size w wr)) (fun _ vi _=>n-(intOf vi).toNat)
 ·exact⟨0,none,0,Nat.zero_le _,rfl,rfl,by rw [List.take_zero];exact cD_.nil,Below.refl _ _⟩
 ·obtain⟨i,P,Q,hi,rfl,rfl,k,j⟩:=hrel;by_cases aD:i<n
  ·have aI:(i:Int)<(n:Int):=by omega
   obtain⟨b,o,r,A1,n1,c1,A2,n2,c2,rfl,y,hr,g0,g1,g2,g3,r1,r2,_,_⟩:=hL.get aD;have N:=aA.o r (List.mem_of_getElem? hr);have aG:=H_ r1;have aH:=H_ r2;have aJ:n1<=100000:=by rw [<-r1.len];exact N.1
   have aK:n2<=100000:=by rw [<-r2.len];exact N.2
   have aF:Hd (L.take (i+1)=L.take i++[r]):=an_ hr;have aC:Hd ((L.take i).length =i):=by show _=_;rw [List.length_take,J.o];omega
   clear r1 r2 hr N
   go_wp2
   refine wM_ w.heap.size [0,0,0,0,0,0,0,0,0,0,0,0,0,0,0,0,3,0,0,0,0,0,3,4,2,2,2] j.o.size ?_;intro C hC;simp only [af_,aV_,Nat.reduceLeDiff,Nat.reduceEqDiff, ↓reduceIte]
   repeat(go_big_quiet_step (first
    |(intro _;with_reducible rfl)
    |(intro hc;have z:=j.o.trans hc;simp only [c_ z y g0,c_ z y g1,c_ z y g2,c_ z y g3,Result.andThen];exact⟨trivial,rfl⟩)))
   clear hC;intro C' G;clear G;intro wq f;replace f:Below wr.heap.size wr wq:=by rw [f];exact⟨rfl,rfl,rfl,Nat.le_refl _,fun _ _=>rfl⟩
   have Y:=h_ j f;have a:Hd (Below w.heap.size wr wq):=f.mono j.o.size;have X:=H_ (k.o.below f);clear f k g0 g1 g2 g3;refine as_ (by decide) ?_;go_wp2_with fail;refine(h8_ A1 n1 c1 r.arr wq (aG.o.below Y.o) (by omega)).mono ?_;rintro e w5 ⟨A5,m5,d5,rfl,p1,q⟩;have M:Hd (Below w.heap.size wr w5):=a.o.trans (q.mono Y.o.size);have T:=H_ (X.o.below q);have R:=h_ Y q;have F:=H_ (aB_ p1 Y.o.size);clear q p1 X Y a;go_wp2_with fail;refine⟨fun _=>M.o,?_⟩;refine as_ (by decide) ?_;go_wp2_with fail;refine(h8_ A2 n2 c2 r.dep w5 (aH.o.below R.o) (by omega)).mono ?_;rintro e w6 ⟨A6,m6,d6,rfl,p2,g⟩;have Z:Hd (Below w.heap.size wr w6):=M.o.trans (g.mono R.o.size);have U:=H_ (T.o.below g);have s:=h_ R g;have F:=H_ (aa_ F.o g);have d:=H_ (aB_ p2 R.o.size);clear g p2 T R M;go_wp2_with fail;refine⟨fun _=>Z.o,?_⟩;refine au_ ?_;intro C' G
   repeat(go_big_quiet_step (first|(intro _;with_reducible rfl)))
   refine wpQuiet_nil ?_;clear G;obtain⟨v7,w7,p,D,S⟩:=U.o.add (e:=(r.trip,r.no,(A5,m5,d5),(A6,m6,d6))) (r:=r) ⟨rfl,rfl,F.o,d.o⟩ (by rw [aC.o];omega) s.o.size;have p:(Builtin.append_ #[32,32] 32 #[.slice P i Q,.slice (some ⟨w6.heap.size,0,none⟩) 1 1]).run Tryz.prog (w6.alloc (.cells #[.int .i64 r.trip,.int .i64 r.no,(.slice A5 m5 d5),(.slice A6 m6 d6)] 47))= .ok v7 w7:=p;have h7:=H_ (s.o.trans S);have D:Hd (cD_ w.heap.size w7 v7 (L.take (i+1))):=by show cD_ _ _ _ _;rw [aF.o];exact D
   obtain⟨A7,c7,e7,_⟩:=D.o.rd;rw [show(L.take (i+1)).length =i+1 by rw [List.length_take,J.o];omega] at e7;subst e7;clear S F d U s Z;refine aM_ _ _ _ (by simp) ?_;simp only [List.map_cons,List.map_nil];go_wp2_with (at_builtin;refine ap_ (.tmp 11) (.tmp 35) 32 p ?_)
   go_wp2
   go_roundw
   ·exact⟨i+1,A7,c7,by omega,rfl,by go_num,D,h7⟩
   ·simp [intOf];omega
  ·have aB:i=n:=by omega
   subst aB;have aE:Hd (cD_ w.heap.size wr (.slice P i Q) L):=by have:=k.o;rw [List.take_of_length_le (by rw [J.o];omega)] at this;exact this
   clear k
   go_wp2
   go_returns;exact⟨_,rfl,aE.o,j.o⟩
theorem b9_ (x:Int×Int×Int):(az_ x).length =3:=rfl
theorem eI_ (x:Int×Int×Int): ∀ u∈az_ x,u.oneCell'=true:=fun u f=>by simp [az_] at f;rcases f with rfl|rfl|rfl<;>rfl
theorem dW_ (A:Option Addr) (n c:Nat) (l:List Str) (w:World) (hr:Rd w 1 strE A n l) (hn:n<=1099511627776):
 Calls Tryz.prog 73 #[.slice A n c] w fun e w'=> ∃ A c',e= .returned (.slice A n c')/\w'.ownsRow w.heap.size 9 1 (.slice A n c') n (l.flatMap strE)/\Below w.heap.size w w':=by
 have g:=hr.len;obtain⟨v,w1,f,own,p,_⟩:=a9_ (enc:=strE) Tryz.underlying22 ax_ rfl (by decide) ad_ aH_ c (l:=[]) (bW_ w w.heap.size 9 1 (Nat.le_refl _)) (hr.below ((Below.refl _ w).alloc (Nat.le_refl _) _)) (by simpa using hn) (by decide) (by simp);have q:Hd (Below w.heap.size w w1):=((Below.refl _ w).alloc (Nat.le_refl _) _).grown p (by simp) (fun k y=>by simp [Value.ownBlock] at y;omega);simp only [List.length_nil,Nat.zero_add,List.nil_append] at f own;obtain⟨A',c',rfl,_⟩:=Rd.of_own ad_ g own;have own:=H_ own;rename_i j;clear j p hr g;go_enter Tryz.func73,Tryz.ntmps73;go_wp2_with (at_builtin;refine ap_ (.tmp 3) (.tmp 4) 22 f ?_);go_returns;exact⟨_,_,rfl,own.o,q.o⟩
theorem n6_ (A:Option Addr) (n c:Nat) (l:List Int) (w:World) (hr:Rd w 1 (numE .i64) A n l) (hn:n<=1099511627776):
 Calls Tryz.prog 74 #[.slice A n c] w fun e w'=> ∃ A c',e= .returned (.slice A n c')/\w'.ownsRow w.heap.size 3 1 (.slice A n c') n (l.flatMap (numE .i64))/\Below w.heap.size w w':=by
 have g:=hr.len;obtain⟨v,w1,f,own,p,_⟩:=a9_ (enc:=(numE .i64)) Tryz.underlying49 eb_ rfl (by decide) aj_ bw_ c (l:=[]) (bW_ w w.heap.size 3 1 (Nat.le_refl _)) (hr.below ((Below.refl _ w).alloc (Nat.le_refl _) _)) (by simpa using hn) (by decide) (by simp);have q:Hd (Below w.heap.size w w1):=((Below.refl _ w).alloc (Nat.le_refl _) _).grown p (by simp) (fun k y=>by simp [Value.ownBlock] at y;omega);simp only [List.length_nil,Nat.zero_add,List.nil_append] at f own;obtain⟨A',c',rfl,_⟩:=Rd.of_own aj_ g own;have own:=H_ own;rename_i j;clear j p hr g;go_enter Tryz.func74,Tryz.ntmps74;go_wp2_with (at_builtin;refine ap_ (.tmp 3) (.tmp 4) 49 f ?_);go_returns;exact⟨_,_,rfl,own.o,q.o⟩
theorem i5_ (A:Option Addr) (n c:Nat) (l:List Int) (w:World) (hr:Rd w 1 (numE .i64) A n l) (hn:n<=1099511627776):
 Calls Tryz.prog 75 #[.slice A n c] w fun e w'=> ∃ A c',e= .returned (.slice A n c')/\w'.ownsRow w.heap.size 2 1 (.slice A n c') n (l.flatMap (numE .i64))/\Below w.heap.size w w':=by
 have g:=hr.len;obtain⟨v,w1,f,own,p,_⟩:=a9_ (enc:=(numE .i64)) Tryz.underlying45 bc_ rfl (by decide) aj_ bw_ c (l:=[]) (bW_ w w.heap.size 2 1 (Nat.le_refl _)) (hr.below ((Below.refl _ w).alloc (Nat.le_refl _) _)) (by simpa using hn) (by decide) (by simp);have q:Hd (Below w.heap.size w w1):=((Below.refl _ w).alloc (Nat.le_refl _) _).grown p (by simp) (fun k y=>by simp [Value.ownBlock] at y;omega);simp only [List.length_nil,Nat.zero_add,List.nil_append] at f own;obtain⟨A',c',rfl,_⟩:=Rd.of_own aj_ g own;have own:=H_ own;rename_i j;clear j p hr g;go_enter Tryz.func75,Tryz.ntmps75;go_wp2_with (at_builtin;refine ap_ (.tmp 3) (.tmp 4) 45 f ?_);go_returns;exact⟨_,_,rfl,own.o,q.o⟩
theorem n7_ (A:Option Addr) (n c:Nat) (l:List (Int×Int×Int)) (w:World) (hr:Rd w 3 az_ A n l) (hn:n<=1099511627776):
 Calls Tryz.prog 69 #[.slice A n c] w fun e w'=> ∃ A c',e= .returned (.slice A n c')/\w'.ownsRow w.heap.size 99 3 (.slice A n c') n (l.flatMap az_)/\Below w.heap.size w w':=by
 have g:=hr.len;obtain⟨v,w1,f,own,p,_⟩:=a9_ (enc:=az_) Tryz.underlying25 fb_ rfl (by decide) b9_ eI_ c (l:=[]) (bW_ w w.heap.size 99 3 (Nat.le_refl _)) (hr.below ((Below.refl _ w).alloc (Nat.le_refl _) _)) (by simpa using hn) (by decide) (by simp);have q:Hd (Below w.heap.size w w1):=((Below.refl _ w).alloc (Nat.le_refl _) _).grown p (by simp) (fun k y=>by simp [Value.ownBlock] at y;omega);simp only [List.length_nil,Nat.zero_add,List.nil_append] at f own;obtain⟨A',c',rfl,_⟩:=Rd.of_own b9_ g own;have own:=H_ own;rename_i j;clear j p hr g;go_enter Tryz.func69,Tryz.ntmps69;go_wp2_with (at_builtin;refine ap_ (.tmp 3) (.tmp 4) 25 f ?_);go_returns;exact⟨_,_,rfl,own.o,q.o⟩
theorem n4_ (A:Option Addr) (n c:Nat) (l:List cc_) (w:World) (hr:Rd w 6 aJ_ A n l) (hn:n<=1099511627776):
 Calls Tryz.prog 70 #[.slice A n c] w fun e w'=> ∃ A c',e= .returned (.slice A n c')/\w'.ownsRow w.heap.size 104 6 (.slice A n c') n (l.flatMap aJ_)/\Below w.heap.size w w':=by
 have g:=hr.len;obtain⟨v,w1,f,own,p,_⟩:=a9_ (enc:=aJ_) Tryz.underlying26 fa_ rfl (by decide) bL_ fD_ c (l:=[]) (bW_ w w.heap.size 104 6 (Nat.le_refl _)) (hr.below ((Below.refl _ w).alloc (Nat.le_refl _) _)) (by simpa using hn) (by decide) (by simp);have q:Hd (Below w.heap.size w w1):=((Below.refl _ w).alloc (Nat.le_refl _) _).grown p (by simp) (fun k y=>by simp [Value.ownBlock] at y;omega);simp only [List.length_nil,Nat.zero_add,List.nil_append] at f own;obtain⟨A',c',rfl,_⟩:=Rd.of_own bL_ g own;have own:=H_ own;rename_i j;clear j p hr g;go_enter Tryz.func70,Tryz.ntmps70;go_wp2_with (at_builtin;refine ap_ (.tmp 3) (.tmp 4) 26 f ?_);go_returns;exact⟨_,_,rfl,own.o,q.o⟩
theorem n8_ (A:Option Addr) (n c:Nat) (l:List bM_) (w:World) (hr:Rd w 4 aL_ A n l) (hn:n<=1099511627776):
 Calls Tryz.prog 71 #[.slice A n c] w fun e w'=> ∃ A c',e= .returned (.slice A n c')/\w'.ownsRow w.heap.size 53 4 (.slice A n c') n (l.flatMap aL_)/\Below w.heap.size w w':=by
 have g:=hr.len;obtain⟨v,w1,f,own,p,_⟩:=a9_ (enc:=aL_) Tryz.underlying28 fd_ rfl (by decide) bF_ fW_ c (l:=[]) (bW_ w w.heap.size 53 4 (Nat.le_refl _)) (hr.below ((Below.refl _ w).alloc (Nat.le_refl _) _)) (by simpa using hn) (by decide) (by simp);have q:Hd (Below w.heap.size w w1):=((Below.refl _ w).alloc (Nat.le_refl _) _).grown p (by simp) (fun k y=>by simp [Value.ownBlock] at y;omega);simp only [List.length_nil,Nat.zero_add,List.nil_append] at f own;obtain⟨A',c',rfl,_⟩:=Rd.of_own bF_ g own;have own:=H_ own;rename_i j;clear j p hr g;go_enter Tryz.func71,Tryz.ntmps71;go_wp2_with (at_builtin;refine ap_ (.tmp 3) (.tmp 4) 28 f ?_);go_returns;exact⟨_,_,rfl,own.o,q.o⟩
theorem n5_ (A:Option Addr) (n c:Nat) (l:List HazP) (w:World) (hr:Rd w 5 hazE A n l) (hn:n<=1099511627776):
 Calls Tryz.prog 72 #[.slice A n c] w fun e w'=> ∃ A c',e= .returned (.slice A n c')/\w'.ownsRow w.heap.size 108 5 (.slice A n c') n (l.flatMap hazE)/\Below w.heap.size w w':=by
 have g:=hr.len;obtain⟨v,w1,f,own,p,_⟩:=a9_ (enc:=hazE) Tryz.underlying29 eC_ rfl (by decide) bU_ e8_ c (l:=[]) (bW_ w w.heap.size 108 5 (Nat.le_refl _)) (hr.below ((Below.refl _ w).alloc (Nat.le_refl _) _)) (by simpa using hn) (by decide) (by simp);have q:Hd (Below w.heap.size w w1):=((Below.refl _ w).alloc (Nat.le_refl _) _).grown p (by simp) (fun k y=>by simp [Value.ownBlock] at y;omega);simp only [List.length_nil,Nat.zero_add,List.nil_append] at f own;obtain⟨A',c',rfl,_⟩:=Rd.of_own bU_ g own;have own:=H_ own;rename_i j;clear j p hr g;go_enter Tryz.func72,Tryz.ntmps72;go_wp2_with (at_builtin;refine ap_ (.tmp 3) (.tmp 4) 29 f ?_);go_returns;exact⟨_,_,rfl,own.o,q.o⟩
theorem NSt.grown {we W0 w w1:World} {bw n:Nat} {vs:List Value} {rows:List Row5} {L:List RE3} {D:List ba_} {u:Value} {xs:List Value} (h:NSt we W0 w bw vs rows L D) (ho:w.ownsRow W0.heap.size 51 3 u n xs) (h0:we.heap.size<=W0.heap.size) (hW:W0.heap.size<=w.heap.size) (hg:w.grownBy w1 u.ownBlock) (hr: ∀ r∈rows,r.1≠51):NSt we W0 w1 bw vs rows L D:=by
 have j: ∀ {base size n:Nat} {e:TypeId} {v:Value} {xs:List Value},w.ownsRow base e size v n xs ->e≠51 ->w1.ownsRow base e size v n xs:=fun {base size n e v xs} y p=>by
  refine World.ownsRow.kept y hg ?_
  cases g:v.ownBlock with
  |none=>exact .inl rfl
  |some q=>exact .inr fun h0=>b7_ ho y (k:=q) p g h0
 refine⟨?_,⟨hg.os.trans h.but.os,hg.tape.trans h.but.tape,hg.output.trans h.but.output,Nat.le_trans h.but.size hg.size,fun i z J=>?_⟩,h.bx.keep (hg.block bw h.bx.lt fun g=>dh_ ho h.bx (by decide) bw g.symm rfl),fun r f=>⟨(h.own r f).1,j (h.own r f).2 (hr r f)⟩,h.rt.up fun e r p=>p.up fun _ e' _ _ _ _ G _ ho=>j ho (by rcases G with rfl|rfl<;>decide)⟩
 ·exact h.bel.grown hg (Nat.le_trans h0 hW) fun k F=>Nat.le_trans h0 (ho.lt k F).1
 ·exact(hg.block i (Nat.lt_of_lt_of_le z h.but.size) fun g=>by have:=(ho.lt i g.symm).1;omega).trans (h.but.keep i z J)
def ph_ (M:ab_) (we:World) (e:Ending) (w':World):Prop:= ∃ V:WV,e= .returned (wVal M V)/\RW w' M V/\Below we.heap.size we w'
theorem i6_ (M:ab_) (V:WV) (we:World) (hr:RW we M V) (hf:Few M):Calls Tryz.prog 27 #[wVal M V] we (ph_ M we):=by
 obtain⟨a0,a1,a2,a3,a4,a5,aP,aD,aR,aT,aH,Q,R,S,T,U,X,nP,c,nR,nT,d,c0,c1,c2,c3,c4,c5,cP,cD,cR,cT,cH⟩:=V;have gD:=H_ hr;have L0:Hd (M.stops.length=Q):=hr.r0.len;have L1:Hd (M.nPaths.length=R):=hr.r1.len;have dK:Hd (M.nDoors.length=S):=hr.r2.len;have L3:Hd (M.nRoutes.length=T):=hr.r3.len;have L4:Hd (M.nTrips.length=U):=hr.r4.len;have L5:Hd (M.nHazs.length=X):=hr.r5.len;have LP:Hd (M.paths.length=nP):=hr.rP.len;have LD:Hd (M.doors.length=c):=hr.rD.len;have cS:Hd (M.routes.length=nR):=hr.rR.len;have LT:Hd (M.trips.length=nT):=hr.rT.len;have LH:Hd (M.hazs.length=d):=hr.rH.len;have m0:Q<=100000:=by rw [<-L0.o];exact hf.s0
 have m1:R<=100000:=by rw [<-L1.o];exact hf.s1
 have m2:S<=100000:=by rw [<-dK.o];exact hf.s2
 have m3:T<=100000:=by rw [<-L3.o];exact hf.s3
 have m4:U<=100000:=by rw [<-L4.o];exact hf.s4
 have m5:X<=100000:=by rw [<-L5.o];exact hf.s5
 have mP:nP<=100000:=by rw [<-LP.o];exact hf.sP
 have mD:c<=100000:=by rw [<-LD.o];exact hf.sD
 have mR:nR<=100000:=by rw [<-cS.o];exact hf.sR
 have mT:nT<=100000:=by rw [<-LT.o];exact hf.sT
 have mH:d<=100000:=by rw [<-LH.o];exact hf.sH
 have gF:=H_ hf.sr;simp only [wVal];clear hr hf;obtain⟨w1,w2,b1,b2,gI,gJ,eJ,eK,eL,fX,fY,gH,B1,B2,gO,eR⟩:=b5_ we 31 31 [.int .i64 M.hz,.slice a0 Q c0,.slice a1 R c1,.slice a2 S c2,.slice a3 T c3,.slice a4 U c4,.slice a5 X c5,.slice aP nP cP,.slice aD c cD,.slice aR nR cR,.slice aT nT cT,.slice aH d cH] [.int .i64 0,.slice none 0 0,.slice none 0 0,.slice none 0 0,.slice none 0 0,.slice none 0 0,.slice none 0 0,.slice none 0 0,.slice none 0 0,.slice none 0 0,.slice none 0 0,.slice none 0 0];obtain⟨D,bn,gL,eN,aW,dJ⟩:=box1 w2 24 [.slice a0 Q c0,.slice a1 R c1,.slice a2 S c2,.slice a3 T c3,.slice a4 U c4,.slice a5 X c5];have bA:=h_ gH aW;have eC:=H_ (B1.below aW);have eE:=H_ (B2.below aW);have eF:=H_ dJ;have l1:=eC.o.lt;have l2:=eE.o.lt;have ln:=eF.o.lt
 have P:Hd (∀ wr,Below D.heap.size D wr ->RW wr M ⟨a0,a1,a2,a3,a4,a5,aP,aD,aR,aT,aH,Q,R,S,T,U,X,nP,c,nR,nT,d,c0,c1,c2,c3,c4,c5,cP,cD,cR,cT,cH⟩):=fun wr h=>(gD.o.below bA.o).below h;obtain⟨p0,p1,p2,p3,p4,p5,p6⟩:=c_7 B1;obtain⟨r0,r1,r2,r3,r4,r5,r6,r7,r8,r9,fF,fG⟩:=c_12 eC.o;obtain⟨y0,y1,y2,y3,y4,y5⟩:=c_6 eF.o;clear B1 B2 dJ fX fY aW;have qP:Hd (∀ w,Below D.heap.size D w ->Calls Tryz.prog 69 #[.slice aP nP cP] w fun e w'=> ∃ A Y,e= .returned (.slice A nP Y)/\w'.ownsRow w.heap.size 99 3 (.slice A nP Y) nP (M.paths.flatMap az_)/\Below w.heap.size w w'):=fun w h=>n7_ aP nP cP M.paths w (P.o w h).rP (by omega);have qD:Hd (∀ w,Below D.heap.size D w ->Calls Tryz.prog 70 #[.slice aD c cD] w fun e w'=> ∃ A Y,e= .returned (.slice A c Y)/\w'.ownsRow w.heap.size 104 6 (.slice A c Y) c (M.doors.flatMap aJ_)/\Below w.heap.size w w'):=fun w h=>n4_ aD c cD M.doors w (P.o w h).rD (by omega)
 have qT:Hd (∀ w,Below D.heap.size D w ->Calls Tryz.prog 71 #[.slice aT nT cT] w fun e w'=> ∃ A Y,e= .returned (.slice A nT Y)/\w'.ownsRow w.heap.size 53 4 (.slice A nT Y) nT (M.trips.flatMap aL_)/\Below w.heap.size w w'):=fun w h=>n8_ aT nT cT M.trips w (P.o w h).rT (by omega);have qH:Hd (∀ w,Below D.heap.size D w ->Calls Tryz.prog 72 #[.slice aH d cH] w fun e w'=> ∃ A Y,e= .returned (.slice A d Y)/\w'.ownsRow w.heap.size 108 5 (.slice A d Y) d (M.hazs.flatMap hazE)/\Below w.heap.size w w'):=fun w h=>n5_ aH d cH M.hazs w (P.o w h).rH (by omega);have q0:Hd (∀ w,Below D.heap.size D w ->Calls Tryz.prog 73 #[.slice a0 Q c0] w fun e w'=> ∃ A Y,e= .returned (.slice A Q Y)/\w'.ownsRow w.heap.size 9 1 (.slice A Q Y) Q (M.stops.flatMap strE)/\Below w.heap.size w w'):=fun w h=>dW_ a0 Q c0 M.stops w (P.o w h).r0 (by omega)
 have q1:Hd (∀ w,Below D.heap.size D w ->Calls Tryz.prog 73 #[.slice a1 R c1] w fun e w'=> ∃ A Y,e= .returned (.slice A R Y)/\w'.ownsRow w.heap.size 9 1 (.slice A R Y) R (M.nPaths.flatMap strE)/\Below w.heap.size w w'):=fun w h=>dW_ a1 R c1 M.nPaths w (P.o w h).r1 (by omega);have q2:Hd (∀ w,Below D.heap.size D w ->Calls Tryz.prog 73 #[.slice a2 S c2] w fun e w'=> ∃ A Y,e= .returned (.slice A S Y)/\w'.ownsRow w.heap.size 9 1 (.slice A S Y) S (M.nDoors.flatMap strE)/\Below w.heap.size w w'):=fun w h=>dW_ a2 S c2 M.nDoors w (P.o w h).r2 (by omega);have q3:Hd (∀ w,Below D.heap.size D w ->Calls Tryz.prog 73 #[.slice a3 T c3] w fun e w'=> ∃ A Y,e= .returned (.slice A T Y)/\w'.ownsRow w.heap.size 9 1 (.slice A T Y) T (M.nRoutes.flatMap strE)/\Below w.heap.size w w'):=fun w h=>dW_ a3 T c3 M.nRoutes w (P.o w h).r3 (by omega)
 have q4:Hd (∀ w,Below D.heap.size D w ->Calls Tryz.prog 73 #[.slice a4 U c4] w fun e w'=> ∃ A Y,e= .returned (.slice A U Y)/\w'.ownsRow w.heap.size 9 1 (.slice A U Y) U (M.nTrips.flatMap strE)/\Below w.heap.size w w'):=fun w h=>dW_ a4 U c4 M.nTrips w (P.o w h).r4 (by omega);have q5:Hd (∀ w,Below D.heap.size D w ->Calls Tryz.prog 73 #[.slice a5 X c5] w fun e w'=> ∃ A Y,e= .returned (.slice A X Y)/\w'.ownsRow w.heap.size 9 1 (.slice A X Y) X (M.nHazs.flatMap strE)/\Below w.heap.size w w'):=fun w h=>dW_ a5 X c5 M.nHazs w (P.o w h).r5 (by omega);go_enter Tryz.func27,Tryz.ntmps27;go_upto_region 2 with fail;clear gI gJ eJ eK eL gL eN p0 p1 p2 p3 p4 p5 p6
 refine a0_ (fun fl x w=>GS D [(fl 4,x 4,KOwn D.heap.size 99 3 nP (M.paths.flatMap az_)),(fl 7,x 7,KOwn D.heap.size 104 6 c (M.doors.flatMap aJ_)),(fl 10,x 10,KOwn D.heap.size 53 4 nT (M.trips.flatMap aL_)),(fl 13,x 13,KOwn D.heap.size 108 5 d (M.hazs.flatMap hazE)),(fl 15,x 15,KBox D.heap.size 31 [.int .i64 0,.slice none 0 0,.slice none 0 0,.slice none 0 0,.slice none 0 0,.slice none 0 0,.slice none 0 0,.slice none 0 0,.slice none 0 0,.slice none 0 0,.slice none 0 0,.slice none 0 0])] [] [fl 4,fl 7,fl 10,fl 13] (fl 14) (x 14) (x 15) 31 [.int .i64 M.hz,.slice none 0 0,.slice none 0 0,.slice none 0 0,.slice none 0 0,.slice none 0 0,.slice none 0 0,(x 4),(x 7),.slice none 0 0,(x 10),(x 13)] (fl 16) w) (by kernel_rfl) (by kernel_rfl) (by kernel_rfl) (by kernel_rfl) (by kernel_rfl) ?_ ?_
 ·intro x0;refine GS.start ?_ ?_ ?_ rfl rfl
  ·intro e he;simp only [List.mem_cons,List.not_mem_nil,or_false] at he;rcases he with rfl|rfl|rfl|rfl|rfl<;>first|exact KNil.mono _ _ _|exact KOwn.mono _ _ _ _ _|exact KBox.mono _ _ _
  ·intro e he;simp only [List.mem_cons,List.not_mem_nil,or_false] at he;rcases he with rfl|rfl|rfl|rfl|rfl<;>rfl
  ·intro e he;cases he
 intro base O bL hO;have z:Hd (∀ F,evX base O F (.tmp 1)= .pointer (some ⟨b1,0,none⟩)/\evX base O F (.tmp 4)=F 15/\evX base O F (.tmp 9)=F 0/\evX base O F (.tmp 10)=F 1/\evX base O F (.tmp 11)=F 2/\evX base O F (.tmp 12)=F 3/\evX base O F (.tmp 13)=F 4/\evX base O F (.tmp 14)=F 5/\evX base O F (.tmp 15)=F 6/\evX base O F (.tmp 16)=F 7/\evX base O F (.tmp 17)=F 8/\evX base O F (.tmp 18)=F 9/\evX base O F (.tmp 19)=F 10/\evX base O F (.tmp 20)=F 11/\evX base O F (.tmp 21)=F 12/\evX base O F (.tmp 22)=F 13/\evX base O F (.tmp 23)=F 14):=fun F=>by rw [bL,hO];exact⟨rfl,rfl,rfl,rfl,rfl,rfl,rfl,rfl,rfl,rfl,rfl,rfl,rfl,rfl,rfl,rfl,rfl⟩
 clear bL hO;apply gd_ (n:=0);rfl
 ·intro _ g w _ m n _ _ r _ K t;have e1:=(r _).trans (z.o g).1;clear r n;go_simp;exact t _ _ rfl m
 apply gd_ (n:=1);rfl
 ·intro _ g w _ m n _ _ r _ K t;have d0:=n.at_ 0 rfl rfl;have e9:=(r _).trans ((z.o g).2.2.1.trans d0);clear r n;have m0:=c_ m.bel l1 r0;go_simp;exact t _ _ rfl m
 apply gd_ (n:=2);rfl
 ·intro _ g w _ m n _ _ r _ K t;have e1:=(r _).trans (z.o g).1;clear r n;go_simp;exact t _ _ rfl m
 apply gd_ (n:=3);rfl
 ·intro _ g w _ m n _ _ r _ K t;have d2:=n.at_ 2 rfl rfl;have gZ:=(r _).trans ((z.o g).2.2.2.2.1.trans d2);clear r n;have m0:=c_ m.bel l1 r7;go_simp;exact t _ _ rfl m
 refine ga_ (n:=4) (fun _=>True) ?_ ?_
 ·intro _ g w _ m n p _ r _ K t;have d3:=n.at_ 3 rfl rfl;have hA:=(r _).trans ((q4_ (z.o g)).2.1.trans d3);clear r n;go_simp;refine(qP.o w m.bel).mono ?_;rintro e dH ⟨A,Y,rfl,G,j⟩;exact⟨_,rfl,t _ _ trivial (m.step 0 rfl p (by simp) j (aB_ G m.bel.size) bk_)⟩
 apply gd_ (n:=5);rfl
 ·intro _ g w _ m n _ _ r _ K t;have e1:=(r _).trans (z.o g).1;clear r n;go_simp;exact t _ _ rfl m
 apply gd_ (n:=6);rfl
 ·intro _ g w _ m n _ _ r _ K t;have d5:=n.at_ 5 rfl rfl;have hD:=(r _).trans ((q4_ (z.o g)).2.2.2.1.trans d5);clear r n;have m0:=c_ m.bel l1 r8;go_simp;exact t _ _ rfl m
 refine ga_ (n:=7) (fun _=>True) ?_ ?_
 ·intro _ g w _ m n p _ r _ K t;have d6:=n.at_ 6 rfl rfl;have hE:=(r _).trans ((q4_ (q4_ (z.o g))).1.trans d6);clear r n;go_simp;refine(qD.o w m.bel).mono ?_;rintro e dH ⟨A,Y,rfl,G,j⟩;exact⟨_,rfl,t _ _ trivial (m.step 1 rfl p (by simp) j (aB_ G m.bel.size) bk_)⟩
 apply gd_ (n:=8);rfl
 ·intro _ g w _ m n _ _ r _ K t;have e1:=(r _).trans (z.o g).1;clear r n;go_simp;exact t _ _ rfl m
 apply gd_ (n:=9);rfl
 ·intro _ g w _ m n _ _ r _ K t;have d8:=n.at_ 8 rfl rfl;have hF:=(r _).trans ((q4_ (q4_ (z.o g))).2.2.1.trans d8);clear r n;have m0:=c_ m.bel l1 fF;go_simp;exact t _ _ rfl m
 refine ga_ (n:=10) (fun _=>True) ?_ ?_
 ·intro _ g w _ m n p _ r _ K t;have d9:=n.at_ 9 rfl rfl;have hH:=(r _).trans ((q4_ (q4_ (z.o g))).2.2.2.1.trans d9);clear r n;go_simp;refine(qT.o w m.bel).mono ?_;rintro e dH ⟨A,Y,rfl,G,j⟩;exact⟨_,rfl,t _ _ trivial (m.step 2 rfl p (by simp) j (aB_ G m.bel.size) bk_)⟩
 apply gd_ (n:=11);rfl
 ·intro _ g w _ m n _ _ r _ K t;have e1:=(r _).trans (z.o g).1;clear r n;go_simp;exact t _ _ rfl m
 apply gd_ (n:=12);rfl
 ·intro _ g w _ m n _ _ r _ K t;have fQ:=n.at_ 11 rfl rfl;have hJ:=(r _).trans ((q4_ (q4_ (q4_ (z.o g)))).2.1.trans fQ);clear r n;have m0:=c_ m.bel l1 fG;go_simp;exact t _ _ rfl m
 refine ga_ (n:=13) (fun _=>True) ?_ ?_
 ·intro _ g w _ m n p _ r _ K t;have fR:=n.at_ 12 rfl rfl;have hK:=(r _).trans ((q4_ (q4_ (q4_ (z.o g)))).2.2.1.trans fR);clear r n;go_simp;refine(qH.o w m.bel).mono ?_;rintro e dH ⟨A,Y,rfl,G,j⟩;exact⟨_,rfl,t _ _ trivial (m.step 3 rfl p (by simp) j (aB_ G m.bel.size) bk_)⟩
 refine ga_ (n:=14) (fun _=>True) ?_ ?_
 ·intro _ g w _ m n p q r _ K t;have d1:=n.at_ 1 rfl rfl;have gY:=(r _).trans ((z.o g).2.2.2.1.trans d1);have fS:=(r _).trans (q4_ (z.o g)).2.2.1;have fT:=(r _).trans (q4_ (q4_ (z.o g))).2.1;have fU:=(r _).trans (q4_ (q4_ (q4_ (z.o g)))).1;have fV:=(r _).trans (q4_ (q4_ (q4_ (z.o g)))).2.2.2.1;clear r n;obtain⟨gT,bP⟩:=m.wit 0 rfl (al_ q 4 rfl);obtain⟨dS,dX,aJ,_⟩:=Rd.of_own b9_ LP.o bP;rw [aJ] at fS;clear bP;obtain⟨gU,bQ⟩:=m.wit 1 rfl (al_ q 7 rfl);obtain⟨dT,dY,aK,_⟩:=Rd.of_own bL_ LD.o bQ;rw [aK] at fT;clear bQ;obtain⟨gV,bR⟩:=m.wit 2 rfl (al_ q 10 rfl);obtain⟨dU,dZ,aL,_⟩:=Rd.of_own bF_ LT.o bR;rw [aL] at fU;clear bR;obtain⟨gW,bS⟩:=m.wit 3 rfl (al_ q 13 rfl);obtain⟨dV,eA,aM,_⟩:=Rd.of_own bU_ LH.o bS;rw [aM] at fV;clear bS
  have aO:=m.built (xb':= .agg (List.toArray [.int .i64 M.hz,.slice none 0 0,.slice none 0 0,.slice none 0 0,.slice none 0 0,.slice none 0 0,.slice none 0 0,(g 4),(g 7),.slice none 0 0,(g 10),(g 13)])) p (by simp [al_ q 4 rfl,al_ q 7 rfl,al_ q 10 rfl,al_ q 13 rfl]) rfl;go_simp;rw [<-aJ];rw [<-aK];rw [<-aL];rw [<-aM];exact t _ _ trivial aO
 refine ga_ (n:=15) (fun _=>True) ?_ ?_
 ·intro _ _ w _ m n p _ r _ K t;clear r n;have aO:=m.bel.size;go_simp;exact t _ _ trivial (m.stepO 4 rfl p (ag_ _ _ _) ⟨_,rfl,aO,Bx.new w _ _⟩ bk_)
 refine ga_ (n:=16) (fun _=>True) ?_ ?_
 ·intro f g w _ m n p q r _ K t;have e4:=(r _).trans (z.o g).2.1;have fW:=(r _).trans (q4_ (q4_ (q4_ (q4_ (z.o g)))));clear r n;have bJ:=m.ini p;obtain⟨gq,eS,gC,a⟩:=bJ.get 4 rfl (al_ q 15 rfl);obtain⟨N,fZ⟩:=m.bd (al_ q 14 rfl);obtain⟨dS,dX,aJ,_⟩:=Rd.of_own b9_ LP.o (bJ.get 0 rfl (N _ (by simp)));obtain⟨dT,dY,aK,_⟩:=Rd.of_own bL_ LD.o (bJ.get 1 rfl (N _ (by simp)));obtain⟨dU,dZ,aL,_⟩:=Rd.of_own bF_ LT.o (bJ.get 2 rfl (N _ (by simp)));obtain⟨dV,eA,aM,_⟩:=Rd.of_own bU_ LH.o (bJ.get 3 rfl (N _ (by simp)));have eI: ∀ e∈[f 4,f 7,f 10,f 13,f 15],e=true:=by simp [al_ q 15 rfl,N (f 4) (by simp),N (f 7) (by simp),N (f 10) (by simp),N (f 13) (by simp)]
  exact aP_ (.tmp 4) (.tmp 23) 31 rfl (e4.trans eS) (fW.trans fZ) a (by kernel_rfl) rfl (by simp [aJ,aK,aL,aM,Value.oneCell']) (fun w' hB eG=>t _ _ trivial (m.put p (al_ q 14 rfl) (by simpa using eI) eS gC a.lt hB eG))
 clear z;intro F wo hG hI;clear hI;have y:=hG.bel;obtain⟨hQ,bo,aG,bN,cL,eM,aI,aC⟩:=hG.fin rfl;clear hG;have fB:=aG.get 0 rfl rfl;have fC:=aG.get 1 rfl rfl;have fD:=aG.get 2 rfl rfl;have fE:=aG.get 3 rfl rfl;have gN:=aG.get 4 rfl rfl;simp only [List.append_eq,List.cons_append,List.nil_append,aA_,List.setIfInBounds_toArray,List.set_cons_zero,List.set_cons_succ,Nat.zero_add,Nat.reduceAdd];obtain⟨gz,eU,_,bI⟩:=gN;rw [bN] at eU;cases eU;have o0:=ae_ fB bI (by decide) aC;have o1:=ae_ fC bI (by decide) aC;have o2:=ae_ fD bI (by decide) aC;have o3:=ae_ fE bI (by decide) aC;obtain⟨EP,kP,eP,_⟩:=Rd.of_own b9_ LP.o o0;obtain⟨ED,kD,eD,_⟩:=Rd.of_own bL_ LD.o o1;obtain⟨ET,kT,eT,_⟩:=Rd.of_own bF_ LT.o o2;obtain⟨EH,kH,eH,_⟩:=Rd.of_own bU_ LH.o o3;rw [eP] at o0 aI;rw [eD] at o1 aI;rw [eT] at o2 aI;rw [eH] at o3 aI;have cG:=bA.o.size
 have dL:NSt we D wo bo [.int .i64 M.hz,.slice none 0 0,.slice none 0 0,.slice none 0 0,.slice none 0 0,.slice none 0 0,.slice none 0 0,.slice EP nP kP,.slice ED c kD,.slice none 0 0,.slice ET nT kT,.slice EH d kH] [] [] []:=⟨b_ bA y,But.of_below y _,aI,fun r hr=>(by cases hr),aD_.nil⟩
 have dM:=H_ ((((dL.add o0 cG (by decide)).add o1 cG (by decide)).add o2 cG (by decide)).add o3 cG (by decide));have aS:=H_ y;have bM:=H_ cL;have aF:Hd (D.heap.size<=wo.heap.size):=y.size;have z0:=c_ y ln y0;have z1:=c_ y ln y1;have z2:=c_ y ln y2;have z3:=c_ y ln y3;have z4:=c_ y ln y4;have z5:=c_ y ln y5;have aV:=Nat.lt_of_lt_of_le ln y.size;simp only [eP,eD,eT,eH,bN];obtain⟨aB,eZ⟩: ∃ q,q=wo:=⟨_,rfl⟩
 subst eZ;clear o0 o1 o2 o3 eP eD eT eH bI bN aI aC eM y cL aG fB fC fD fE dL r0 r1 r2 r3 r4 r5 r6 r7 r8 fF fG qP qD qT qH;clear y0 y1 y2 y3 y4 y5
 go_wp2
 refine wM_ aB.heap.size [0,0,3,0,0,3,0,0,3,0,0,3,0,0,3,0,0,3,4,2,2] (Nat.le_refl _) ?_;intro C hC;simp only [af_,aV_,Nat.reduceLeDiff,Nat.reduceEqDiff, ↓reduceIte]
 repeat(go_big_quiet_step (first
  |(intro _;with_reducible rfl)
  |(intro hc;simp only [c_ hc aV z0,c_ hc aV z1,c_ hc aV z2,c_ hc aV z3,c_ hc aV z4,c_ hc aV z5,Result.andThen];exact⟨trivial,rfl⟩)))
 clear hC;intro C' aQ;clear aQ;intro wq a;replace a:Below aB.heap.size aB wq:=by rw [a];exact⟨rfl,rfl,rfl,Nat.le_refl _,fun _ _=>rfl⟩
 have cq:=H_ a;have cU:=H_ (dM.o.go a);clear a dM z0 z1 z2 z3 z4 z5 aV;refine as_ (by decide) ?_;go_wp2_with fail;refine(q0.o wq (aS.o.trans (cq.o.mono aF.o))).mono ?_;rintro e fJ ⟨B0,x0,rfl,G,j⟩;have bZ:Hd (Below aB.heap.size aB fJ):=b_ cq j;have bC:=H_ ((cU.o.go j).add G cU.o.bel.size (by decide));clear G j q0 cU cq;go_wp2_with fail;refine⟨fun _=>bZ.o,?_⟩;refine as_ (by decide) ?_;go_wp2_with fail;refine(q1.o fJ (aS.o.trans (bZ.o.mono aF.o))).mono ?_;rintro e fK ⟨B1,x1,rfl,G,j⟩;have cA:Hd (Below aB.heap.size aB fK):=b_ bZ j;have bD:=H_ ((bC.o.go j).add G bC.o.bel.size (by decide));clear G j q1 bC bZ;go_wp2_with fail;refine⟨fun _=>cA.o,?_⟩;refine as_ (by decide) ?_;go_wp2_with fail;refine(q2.o fK (aS.o.trans (cA.o.mono aF.o))).mono ?_;rintro e fL ⟨B2,x2,rfl,G,j⟩;have cB:Hd (Below aB.heap.size aB fL):=b_ cA j;have bE:=H_ ((bD.o.go j).add G bD.o.bel.size (by decide));clear G j q2 bD cA
 go_wp2_with fail;refine⟨fun _=>cB.o,?_⟩;refine as_ (by decide) ?_;go_wp2_with fail;refine(q3.o fL (aS.o.trans (cB.o.mono aF.o))).mono ?_;rintro e fM ⟨B3,x3,rfl,G,j⟩;have cC:Hd (Below aB.heap.size aB fM):=b_ cB j;have bF:=H_ ((bE.o.go j).add G bE.o.bel.size (by decide));clear G j q3 bE cB;go_wp2_with fail;refine⟨fun _=>cC.o,?_⟩;refine as_ (by decide) ?_;go_wp2_with fail;refine(q4.o fM (aS.o.trans (cC.o.mono aF.o))).mono ?_;rintro e fN ⟨B4,x4,rfl,G,j⟩;have cE:Hd (Below aB.heap.size aB fN):=b_ cC j;have bG:=H_ ((bF.o.go j).add G bF.o.bel.size (by decide));clear G j q4 bF cC;go_wp2_with fail;refine⟨fun _=>cE.o,?_⟩;refine as_ (by decide) ?_;go_wp2_with fail;refine(q5.o fN (aS.o.trans (cE.o.mono aF.o))).mono ?_;rintro e fO ⟨B5,x5,rfl,G,j⟩;have eB:Hd (Below aB.heap.size aB fO):=b_ cE j;have bH:=H_ ((bG.o.go j).add G bG.o.bel.size (by decide));clear G j q5 bG cE;go_wp2_with fail
 refine⟨fun _=>eB.o,?_⟩;refine au_ ?_;intro C' aQ
 repeat(go_big_quiet_step (first|(intro _;with_reducible rfl)))
 refine wpQuiet_nil ?_;clear aQ;have J:=bH.o.bx;have k1:=J.cell 1 rfl;have f1:=J.frozen 1;have k2:=J.cell 2 rfl;have f2:=J.frozen 2;have k3:=J.cell 3 rfl;have f3:=J.frozen 3;have k4:=J.cell 4 rfl;have f4:=J.frozen 4;have k5:=J.cell 5 rfl;have f5:=J.frozen 5;have k6:=J.cell 6 rfl;have f6:=J.frozen 6;have cJ:=J.lt;have aE:we.heap.size<=bo:=Nat.le_trans bA.o.size bM.o;have N7:=((((((bH.o.set aE 1 (.slice B0 Q x0)).set aE 2 (.slice B1 R x1)).set aE 3 (.slice B2 S x2)).set aE 4 (.slice B3 T x3)).set aE 5 (.slice B4 U x4)).set aE 6 (.slice B5 X x5))
 obtain⟨wS,eY⟩:=e_ ((((((fO.setCell ⟨bo,1,none⟩ (.slice B0 Q x0)).setCell ⟨bo,2,none⟩ (.slice B1 R x1)).setCell ⟨bo,3,none⟩ (.slice B2 S x2)).setCell ⟨bo,4,none⟩ (.slice B3 T x3)).setCell ⟨bo,5,none⟩ (.slice B4 U x4)).setCell ⟨bo,6,none⟩ (.slice B5 X x5));rw [eY] at N7
 have N8:NSt we D wS bo [.int .i64 M.hz,.slice B0 Q x0,.slice B1 R x1,.slice B2 S x2,.slice B3 T x3,.slice B4 U x4,.slice B5 X x5,.slice EP nP kP,.slice ED c kD,.slice none 0 0,.slice ET nT kT,.slice EH d kH] [(9,1,.slice B5 X x5,X,M.nHazs.flatMap strE),(9,1,.slice B4 U x4,U,M.nTrips.flatMap strE),(9,1,.slice B3 T x3,T,M.nRoutes.flatMap strE),(9,1,.slice B2 S x2,S,M.nDoors.flatMap strE),(9,1,.slice B1 R x1,R,M.nPaths.flatMap strE),(9,1,.slice B0 Q x0,Q,M.stops.flatMap strE),(108,5,.slice EH d kH,d,M.hazs.flatMap hazE),(53,4,.slice ET nT kT,nT,M.trips.flatMap aL_),(104,6,.slice ED c kD,c,M.doors.flatMap aJ_),(99,3,.slice EP nP kP,nP,M.paths.flatMap az_)] [] []:=N7
 have N9:Hd (NSt we D wS bo [.int .i64 M.hz,.slice B0 Q x0,.slice B1 R x1,.slice B2 S x2,.slice B3 T x3,.slice B4 U x4,.slice B5 X x5,.slice EP nP kP,.slice ED c kD,.slice none 0 0,.slice ET nT kT,.slice EH d kH] [(9,1,.slice B5 X x5,X,M.nHazs.flatMap strE),(9,1,.slice B4 U x4,U,M.nTrips.flatMap strE),(9,1,.slice B3 T x3,T,M.nRoutes.flatMap strE),(9,1,.slice B2 S x2,S,M.nDoors.flatMap strE),(9,1,.slice B1 R x1,R,M.nPaths.flatMap strE),(9,1,.slice B0 Q x0,Q,M.stops.flatMap strE),(108,5,.slice EH d kH,d,M.hazs.flatMap hazE),(53,4,.slice ET nT kT,nT,M.trips.flatMap aL_),(104,6,.slice ED c kD,c,M.doors.flatMap aJ_),(99,3,.slice EP nP kP,nP,M.paths.flatMap az_)] [] (M.routes.take 0)):=N8;have cM:Hd (wS.ownsRow D.heap.size 51 3 (.slice none 0 0) 0 (([]:List RE3).flatMap re3E)):=World.ownsRow_nil _ _ _ _;clear N7 N8 bH eB J;refine aM_ _ _ _ (by simp) ?_;simp only [List.map_cons,List.map_nil]
 go_wp2
 clear eY k1 k2 k3 k4 k5 k6 f1 f2 f3 f4 f5 f6 cJ aS aF aE
 go_loopw [5] (fun iv wr=> ∃ (i:Nat) (Au:Option Addr) (cu:Nat) (L:List RE3),i<=nR/\iv= .int .i64 i/\Hd (NSt we D wr bo [.int .i64 M.hz,.slice B0 Q x0,.slice B1 R x1,.slice B2 S x2,.slice B3 T x3,.slice B4 U x4,.slice B5 X x5,.slice EP nP kP,.slice ED c kD,.slice Au i cu,.slice ET nT kT,.slice EH d kH] [(9,1,.slice B5 X x5,X,M.nHazs.flatMap strE),(9,1,.slice B4 U x4,U,M.nTrips.flatMap strE),(9,1,.slice B3 T x3,T,M.nRoutes.flatMap strE),(9,1,.slice B2 S x2,S,M.nDoors.flatMap strE),(9,1,.slice B1 R x1,R,M.nPaths.flatMap strE),(9,1,.slice B0 Q x0,Q,M.stops.flatMap strE),(108,5,.slice EH d kH,d,M.hazs.flatMap hazE),(53,4,.slice ET nT kT,nT,M.trips.flatMap aL_),(104,6,.slice ED c kD,c,M.doors.flatMap aJ_),(99,3,.slice EP nP kP,nP,M.paths.flatMap az_)] L (M.routes.take i))/\Hd (wr.ownsRow D.heap.size 51 3 (.slice Au i cu) i (L.flatMap re3E))) (fun iv _=>nR-(intOf iv).toNat)
 ·exact⟨0,none,0,[],Nat.zero_le _,rfl,N9,cM⟩
 ·clear N9 cM;obtain⟨i,Au,cu,L,hi,rfl,hN,own⟩:=hrel;have aN:=H_ (hN.o.but.below (Nat.le_refl _) (m_ bM.o));have x9:=c_ aN.o l1 r9;have bK:L.length=i:=by rw [hN.o.rt.len,List.length_take,cS.o];omega
  by_cases gB:i<nR
  ·have gP:(i:Int)<(nR:Int):=by omega
   obtain⟨b,o,r,rfl,cZ,hx,⟨s0,e0,d0,g0,dE,_⟩,⟨s1,e1,d1,g1,dF,_⟩,⟨s2,e2,d2,g2,dG,_⟩⟩:=(P.o D (Below.refl _ _)).rR.get gB;have cI:=gF.o r (List.mem_of_getElem? hx);obtain rfl:r.stops.length=e0:=dE.len;obtain rfl:r.rides.length=e1:=dF.len;obtain rfl:r.stays.length=e2:=dG.len;have gG:Hd (M.routes.take (i+1)=M.routes.take i++[r]):=an_ hx;have f0:=c_ aN.o cZ g0;have f1:=c_ aN.o cZ g1;have f2:=c_ aN.o cZ g2;obtain⟨wx,bx,fA,eO,aX,cQ⟩:=box1 wr 51 [.slice s0 r.stops.length d0,.slice s1 r.rides.length d1,.slice s2 r.stays.length d2];obtain⟨h0,h1,h2⟩:=c_3 cQ;have cK:=cQ.lt;have Nx:=H_ (hN.o.go aX);have cO:=H_ (aa_ own.o aX);have gM:=h_ aN aX;have u9:=Nx.o.bx.cell 9 rfl;have cJ:=Nx.o.bx.lt;have dP:=H_ dE;have dQ:=H_ dF;have dR:=H_ dG;have gQ:r.stops.length<=100000:=cI.1;have gR:r.rides.length<=100000:=cI.2.1;have gS:r.stays.length<=100000:=cI.2.2;clear hN own cQ aX aN g0 g1 g2 dE dF dG hx cI
   go_wp2_with fail;clear fA eO f0 f1 f2 x9
   go_wp2
   refine wM_ wx.heap.size [0,0,0,0,3,0,0,3,0,0,3,4,2,2,2,2] (Nat.le_refl _) ?_;intro C hC;simp only [af_,aV_,Nat.reduceLeDiff,Nat.reduceEqDiff, ↓reduceIte]
   repeat(go_big_quiet_step (first
    |(intro _;with_reducible rfl)
    |(intro hc;simp only [c_ hc cJ u9,c_ hc cK h0,c_ hc cK h1,c_ hc cK h2,Result.andThen];exact⟨trivial,rfl⟩)))
   clear hC;intro C' aQ;clear aQ;intro wq a;replace a:Below wx.heap.size wx wq:=by rw [a];exact⟨rfl,rfl,rfl,Nat.le_refl _,fun _ _=>rfl⟩
   have cq:=H_ a;have Nq:=H_ (Nx.o.go a);have cN:=H_ (aa_ cO.o a);have hq:=h_ gM a;clear a Nx cO h0 h1 h2 u9 cK cJ;refine as_ (by decide) ?_;go_wp2_with fail;refine(n6_ s0 r.stops.length d0 r.stops wq (dP.o.below hq.o) (by omega)).mono ?_;rintro e fH ⟨V0,y0,rfl,G,j⟩;have cX:Hd (Below wx.heap.size wx fH):=b_ cq j;have cV:=H_ (Nq.o.go j);have bV:=H_ (aa_ cN.o j);have dA:=h_ hq j;have O0:=H_ (aB_ G Nq.o.bel.size);clear G j Nq cN hq cq dP;go_wp2_with fail;refine⟨fun _=>cX.o,?_⟩;refine as_ (by decide) ?_;go_wp2_with fail;refine(i5_ s1 r.rides.length d1 r.rides fH (dQ.o.below dA.o) (by omega)).mono ?_;rintro e fI ⟨V1,y1,rfl,G,j⟩;have cY:Hd (Below wx.heap.size wx fI):=b_ cX j;have cW:=H_ (cV.o.go j);have bW:=H_ (aa_ bV.o j);have dB:=h_ dA j;have O1:=H_ (aB_ G cV.o.bel.size);have o0:=H_ (aa_ O0.o j);clear G j cV bV dA cX dQ O0;have O0:=o0;clear o0;go_wp2_with fail;refine⟨fun _=>cY.o,?_⟩
   refine as_ (by decide) ?_;go_wp2_with fail;refine(i5_ s2 r.stays.length d2 r.stays fI (dR.o.below dB.o) (by omega)).mono ?_;rintro e bB ⟨V2,y2,rfl,G,j⟩;have dW:Hd (Below wx.heap.size wx bB):=b_ cY j;have dO:=H_ (cW.o.go j);have bX:=H_ (aa_ bW.o j);have eQ:=h_ dB j;have O2:=H_ (aB_ G cW.o.bel.size);have o0:=H_ (aa_ O0.o j);have o1:=H_ (aa_ O1.o j);clear G j cW bW dB cY dR O0 O1;have O0:=o0;clear o0;have O1:=o1;clear o1;go_wp2_with fail;refine⟨fun _=>dW.o,?_⟩;refine au_ ?_;intro C' aQ
   repeat(go_big_quiet_step (first|(intro _;with_reducible rfl)))
   refine wpQuiet_nil ?_;clear aQ;have ha:=(Below.refl bB.heap.size bB).alloc (Nat.le_refl _) (.cells (re3E ((V0,r.stops.length,y0),(V1,r.rides.length,y1),(V2,r.stays.length,y2))).toArray 51);have aY:bB.ownsRow D.heap.size 51 3 (.slice Au i cu) L.length (L.flatMap re3E):=by rw [bK];exact bX.o
   obtain⟨g,c8,w8,aU,bT,bO,gA⟩:=a7_ (enc:=re3E) Tryz.underlying27 eN_ rfl (by decide) c7_ gD_ bB D.heap.size (.slice Au i cu) L ((V0,r.stops.length,y0),(V1,r.rides.length,y1),(V2,r.stays.length,y2)) aY (by rw [bK];omega) (by decide) eQ.o.size
   have eV:RouT we.heap.size w8 ((V0,r.stops.length,y0),(V1,r.rides.length,y1),(V2,r.stays.length,y2)) r:=by
    have dC: ∀ {bY n:Nat} {e:TypeId} {v:Value} {F:List Value},bB.ownsRow we.heap.size e bY v n F ->e≠51 ->w8.ownsRow we.heap.size e bY v n F:=fun {bY n e v F} h3 he=>by
     refine World.ownsRow.kept (aa_ h3 ha) bO ?_
     cases hq:v.ownBlock with
     |none=>exact .inl rfl
     |some q=>exact .inr fun h0=>b7_ (aa_ aY ha) (aa_ h3 ha) (k:=q) he hq h0
    exact⟨dC O0.o (by decide),dC O1.o (by decide),dC O2.o (by decide)⟩
   have aZ:=(dO.o.go ha).grown (aa_ aY ha) bA.o.size (Nat.le_trans eQ.o.size ha.size) bO (fun r hr=>by simp at hr;rcases hr with rfl|rfl|rfl|rfl|rfl|rfl|rfl|rfl|rfl|rfl<;>(dsimp only;decide))
   have N8:NSt we D w8 bo [.int .i64 M.hz,.slice B0 Q x0,.slice B1 R x1,.slice B2 S x2,.slice B3 T x3,.slice B4 U x4,.slice B5 X x5,.slice EP nP kP,.slice ED c kD,.slice Au i cu,.slice ET nT kT,.slice EH d kH] [(9,1,.slice B5 X x5,X,M.nHazs.flatMap strE),(9,1,.slice B4 U x4,U,M.nTrips.flatMap strE),(9,1,.slice B3 T x3,T,M.nRoutes.flatMap strE),(9,1,.slice B2 S x2,S,M.nDoors.flatMap strE),(9,1,.slice B1 R x1,R,M.nPaths.flatMap strE),(9,1,.slice B0 Q x0,Q,M.stops.flatMap strE),(108,5,.slice EH d kH,d,M.hazs.flatMap hazE),(53,4,.slice ET nT kT,nT,M.trips.flatMap aL_),(104,6,.slice ED c kD,c,M.doors.flatMap aJ_),(99,3,.slice EP nP kP,nP,M.paths.flatMap az_)] (L++[((V0,r.stops.length,y0),(V1,r.rides.length,y1),(V2,r.stays.length,y2))]) (M.routes.take (i+1)):=⟨aZ.bel,aZ.but,aZ.bx,aZ.own,by rw [gG.o];exact aZ.rt.snoc eV⟩
   have c9:=N8.bx.cell 9 rfl;have f9:=N8.bx.frozen 9;have hP:=N8.bx.lt;rw [List.length_append,List.length_singleton,bK] at bT;have bU:=ae_ bT N8.bx (by decide) (But.of_set w8 ⟨bo,9,none⟩ (.slice (some ⟨g,0,none⟩) (i+1) c8) (by simp));have N9:=N8.set (Nat.le_trans bA.o.size bM.o) 9 (.slice (some ⟨g,0,none⟩) (i+1) c8);obtain⟨w9,gK⟩:=e_ (w8.setCell ⟨bo,9,none⟩ (.slice (some ⟨g,0,none⟩) (i+1) c8));rw [gK] at bU N9
   have fP:Hd (NSt we D w9 bo [.int .i64 M.hz,.slice B0 Q x0,.slice B1 R x1,.slice B2 S x2,.slice B3 T x3,.slice B4 U x4,.slice B5 X x5,.slice EP nP kP,.slice ED c kD,.slice (some ⟨g,0,none⟩) (i+1) c8,.slice ET nT kT,.slice EH d kH] [(9,1,.slice B5 X x5,X,M.nHazs.flatMap strE),(9,1,.slice B4 U x4,U,M.nTrips.flatMap strE),(9,1,.slice B3 T x3,T,M.nRoutes.flatMap strE),(9,1,.slice B2 S x2,S,M.nDoors.flatMap strE),(9,1,.slice B1 R x1,R,M.nPaths.flatMap strE),(9,1,.slice B0 Q x0,Q,M.stops.flatMap strE),(108,5,.slice EH d kH,d,M.hazs.flatMap hazE),(53,4,.slice ET nT kT,nT,M.trips.flatMap aL_),(104,6,.slice ED c kD,c,M.doors.flatMap aJ_),(99,3,.slice EP nP kP,nP,M.paths.flatMap az_)] (L++[((V0,r.stops.length,y0),(V1,r.rides.length,y1),(V2,r.stays.length,y2))]) (M.routes.take (i+1))):=N9;have dD:=H_ bU;rw [bK] at aU;simp only [re3E,SlV.v] at aU
   clear bT bU N8 N9 aZ eV bO gA aY ha O0 O1 O2 dO bX dW;refine aM_ _ _ _ (by simp) ?_;simp only [List.map_cons,List.map_nil];go_wp2_with (at_builtin;refine ap_ (.tmp 57) (.tmp 68) 27 aU ?_);go_roundw
   ·exact⟨i+1,_,_,_,by omega,by go_num,fP,dD⟩
   ·simp [intOf];omega
  ·obtain rfl:i=nR:=by omega
   have J:=hN.o.bx;obtain⟨k0,k1,k2,k3,k4,k5,k6,k7,k8,k9,hL,hM⟩:=c_12 J;have Z:=eE.o.below aN.o;obtain⟨cF,aA⟩:=Z.row [.int .i64 M.hz,.slice B0 Q x0,.slice B1 R x1,.slice B2 S x2,.slice B3 T x3,.slice B4 U x4,.slice B5 X x5,.slice EP nP kP,.slice ED c kD,.slice Au i cu,.slice ET nT kT,.slice EH d kH];obtain⟨wF,eX⟩:=e_ (wr.setRow b2 (List.toArray [.int .i64 M.hz,.slice B0 Q x0,.slice B1 R x1,.slice B2 S x2,.slice B3 T x3,.slice B4 U x4,.slice B5 X x5,.slice EP nP kP,.slice ED c kD,.slice Au i cu,.slice ET nT kT,.slice EH d kH]));rw [eX] at cF aA;have aO:Hd (Below we.heap.size we wF):=hN.o.bel.trans (aA.below hN.o.bel.size (m_ eR.o))
   have gE:Hd (RW wF M ⟨B0,B1,B2,B3,B4,B5,EP,ED,Au,ET,EH,Q,R,S,T,U,X,nP,c,i,nT,d,x0,x1,x2,x3,x4,x5,kP,kD,cu,kT,kH⟩):=by
    have s0:=bg_ (ae_ (hN.o.own (9,1,.slice B0 Q x0,Q,M.stops.flatMap strE) (by simp)).2 Z (hN.o.own (9,1,.slice B0 Q x0,Q,M.stops.flatMap strE) (by simp)).1.symm aA) ad_ L0.o;have s1:=bg_ (ae_ (hN.o.own (9,1,.slice B1 R x1,R,M.nPaths.flatMap strE) (by simp)).2 Z (hN.o.own (9,1,.slice B1 R x1,R,M.nPaths.flatMap strE) (by simp)).1.symm aA) ad_ L1.o;have s2:=bg_ (ae_ (hN.o.own (9,1,.slice B2 S x2,S,M.nDoors.flatMap strE) (by simp)).2 Z (hN.o.own (9,1,.slice B2 S x2,S,M.nDoors.flatMap strE) (by simp)).1.symm aA) ad_ dK.o;have s3:=bg_ (ae_ (hN.o.own (9,1,.slice B3 T x3,T,M.nRoutes.flatMap strE) (by simp)).2 Z (hN.o.own (9,1,.slice B3 T x3,T,M.nRoutes.flatMap strE) (by simp)).1.symm aA) ad_ L3.o;have s4:=bg_ (ae_ (hN.o.own (9,1,.slice B4 U x4,U,M.nTrips.flatMap strE) (by simp)).2 Z (hN.o.own (9,1,.slice B4 U x4,U,M.nTrips.flatMap strE) (by simp)).1.symm aA) ad_ L4.o
    have s5:=bg_ (ae_ (hN.o.own (9,1,.slice B5 X x5,X,M.nHazs.flatMap strE) (by simp)).2 Z (hN.o.own (9,1,.slice B5 X x5,X,M.nHazs.flatMap strE) (by simp)).1.symm aA) ad_ L5.o;have sP:=bg_ (ae_ (hN.o.own (99,3,.slice EP nP kP,nP,M.paths.flatMap az_) (by simp)).2 Z (hN.o.own (99,3,.slice EP nP kP,nP,M.paths.flatMap az_) (by simp)).1.symm aA) b9_ LP.o;have sD:=bg_ (ae_ (hN.o.own (104,6,.slice ED c kD,c,M.doors.flatMap aJ_) (by simp)).2 Z (hN.o.own (104,6,.slice ED c kD,c,M.doors.flatMap aJ_) (by simp)).1.symm aA) bL_ LD.o;have sT:=bg_ (ae_ (hN.o.own (53,4,.slice ET nT kT,nT,M.trips.flatMap aL_) (by simp)).2 Z (hN.o.own (53,4,.slice ET nT kT,nT,M.trips.flatMap aL_) (by simp)).1.symm aA) bF_ LT.o;have sH:=bg_ (ae_ (hN.o.own (108,5,.slice EH d kH,d,M.hazs.flatMap hazE) (by simp)).2 Z (hN.o.own (108,5,.slice EH d kH,d,M.hazs.flatMap hazE) (by simp)).1.symm aA) bU_ LH.o
    have rr:=aD_.routes (hN.o.rt.up fun e r he=>he.up fun _ e' _ _ _ _ ht _ G=>ae_ G Z (by rcases ht with rfl|rfl<;>decide) aA) (bg_ (ae_ own.o Z (by decide) aA) c7_ bK);rw [List.take_of_length_le (by rw [cS.o];exact Nat.le_refl _)] at rr;exact⟨s0,s1,s2,s3,s4,s5,sP,sD,rr,sT,sH⟩
   replace cF:=H_ cF;have Z:=H_ Z;rename_i gX;clear hN own J aA aN;go_wp2_with (refine ac_ (.tmp 2) (.tmp 71) 31 rfl rfl rfl rfl Z.o (by kernel_rfl) rfl rfl eX ?_);refine ar_ (s:=2) (t:=31) rfl rfl cF.o (by kernel_rfl) (by kernel_rfl) rfl ?_;exact⟨_,rfl,gE.o,aO.o⟩
theorem gS_ (A:Option Addr) (n c:Nat) (l:List Int) (A':Option Addr) (n' c':Nat) (l':List Int) (w:World) (hr:Rd w 1 (numE .i64) A n l) (hr':Rd w 1 (numE .i64) A' n' l') (hn:n<=1099511627776) (hn':n'<=1099511627776):
 Calls Tryz.prog 46 #[.slice A n c,.slice A' n' c'] w (rb_ (.bool (decide (l=l'))) w):=by
 go_enter Tryz.func46,Tryz.ntmps46;by_cases y:n=n'
 ·subst y
  go_wp2
  go_loopw [5] (fun i wr=> ∃ (k:Nat),k<=n/\i= .int .i64 k/\Below w.heap.size w wr/\Hd (l.take k=l'.take k)) (fun i _=>n-(intOf i).toNat)
  ·exact⟨0,Nat.zero_le _,rfl,Below.refl _ _,rfl⟩
  ·obtain⟨k,hk,rfl,g,p⟩:=hrel;by_cases q:k<n
   ·obtain⟨b,o,M,rfl,aC,D,L⟩:=(hr.below g).get q;obtain⟨b',o',N,rfl,aA,f,j⟩:=(hr'.below g).get q;have Q:=L 0 _ rfl;have P:=j 0 _ rfl;simp only [Nat.add_zero,Nat.mul_one] at Q P;have D:=H_ D;have f:=H_ f;rename_i G J;clear G J L j;have aB:(k:Int)<(n:Int):=by omega
    by_cases z:M=N
    ·subst z
     go_wp2
     go_quiet (fail)
     go_wp2
     go_roundw
     ·exact⟨k+1,by omega,by go_num,dF_ g _,by show _=_;rw [an_ D.o,an_ f.o,p.o]⟩
     ·simp [intOf];omega
    ·have hn:(M==N)=false:=by simp [z]
     have F:Hd (l≠l'):=by
      intro e;have:=D.o;rw [e,f.o] at this;exact z (Option.some.inj this).symm
     clear z
     go_wp2
     go_quiet (fail)
     go_wp2
     go_returns;exact⟨am_ (by symm;rw [decide_eq_false_iff_not];exact F.o),dF_ g _⟩
   ·go_wp2
    go_returns;exact⟨am_ (by symm;rw [decide_eq_true_eq];have:=p.o;rwa [List.take_of_length_le (by rw [hr.len];omega),List.take_of_length_le (by rw [hr'.len];omega)] at this),g⟩
 ·have aD:((n:Int) !=(n':Int))=true:=by simp;omega
  go_wp2
  go_returns;exact⟨am_ (by symm;rw [decide_eq_false_iff_not];intro e;exact y (by rw [<-hr.len, <-hr'.len,e])),Below.refl _ _⟩
