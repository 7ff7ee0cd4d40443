/- Merged. -/
import Derived.Test.YtechdefolfboeaaGreatDoorPd20
import Derived.Test.YtechdefolfboeaaGreatDoorPd21
set_option linter.unusedVariables false
set_option linter.unusedSimpArgs false
set_option maxHeartbeats 4000000
namespace Go.Proofs.YtechdefolfboeaaGreatDoor
open Go.RowKit B K
theorem iJ_ {M:ab_} (h:Few M):FewS (b4_ M):=by
 have y:=aw_ (f:=bO_ M) (fun i g=>fs_ M g) _ (Nat.le_refl _);have p:=aw_ (f:=bN_ M) (fun i g=>fq_ M g) _ (Nat.le_refl _);have z:=aw_ (f:=bJ_ M) (fun i g=>ft_ M g) _ (Nat.le_refl _);have D:=aw_ (f:=bP_ M) (fun i g=>fu_ M g) _ (Nat.le_refl _);have q:=aw_ (f:=bv_ M) (fun i g=>fr_ M g) _ (Nat.le_refl _);refine⟨h.s0,by show(aI_ _ _).length <=_;rw [y];exact h.sP,by show(aI_ _ _).length <=_;rw [p];exact h.sD,by show(aI_ _ _).length <=_;rw [z];exact h.sR,by show(aI_ _ _).length <=_;rw [D];exact h.sT,by show(aI_ _ _).length <=_;rw [q];exact h.sH,fun r F=>?_⟩;obtain⟨k,j,n⟩:=List.mem_filterMap.1 (show r∈aI_ (bJ_ M) M.routes.length from F);have j:=List.mem_range.1 j;unfold bJ_ at n;rw [List.getElem?_eq_getElem j] at n;cases n;simpa using h.sr _ (List.getElem_mem j)
theorem oD_ {l:List Value} (h:l.length=12): ∃ v0 v1 v2 v3 v4 v5 v6 v7 v8 v9 va vb,l=[v0,v1,v2,v3,v4,v5,v6,v7,v8,v9,va,vb]:=by
 match l,h with
 |[v0,v1,v2,v3,v4,v5,v6,v7,v8,v9,va,vb],_=>exact⟨v0,v1,v2,v3,v4,v5,v6,v7,v8,v9,va,vb,rfl⟩
theorem e7_ (M:ab_):cu_ aN_ M=(bS_ M&&okS (b4_ M)):=rfl
set_option maxRecDepth 100000 in
theorem k7_ (M:ab_) (V:WV) (we:World) (hr:RW we M V) (hf:Few M) (hsp:Sp we):Calls Tryz.prog 55 #[wVal M V] we (RetW we (cu_ aN_ M)):=by
 have aI:=H_ hr;have aZ:=H_ (fun w1 S=>lk_ M V w1 S hf);have aU:=H_ (fun w1 S hw=>mS_ M V w1 S hf hw);have h0:Hd (0<we.heap.size):=by have:=World.block_lt_of_cell? we ⟨0,0,none⟩ (hsp 0 (by omega));show _<_;omega
 have aS:=H_ hsp;have aN:=H_ (fun(V':SV) w1 S hs=>mK_ (b4_ M) V' w1 S (iJ_ hf) hs);clear hf hsp;obtain⟨a0,a1,a2,a3,a4,a5,aP,aD,aR,aT,aH,n0,n1,n2,n3,n4,n5,nP,nD,nR,nT,nH,c0,c1,c2,c3,c4,c5,cP,cD,cR,cT,cH⟩:=V;simp only [wVal] at*;obtain⟨w1,aW,aJ,B1⟩:=box0 we 31 [.int .i64 M.hz,.slice a0 n0 c0,.slice a1 n1 c1,.slice a2 n2 c2,.slice a3 n3 c3,.slice a4 n4 c4,.slice a5 n5 c5,.slice aP nP cP,.slice aD nD cD,.slice aR nR cR,.slice aT nT cT,.slice aH nH cH];obtain⟨w2,bD,i,B2⟩:=box0 w1 81 [.int .i64 0,.int .i64 0,.int .i64 0];obtain⟨bn,aB⟩:=e_ we.heap.size;obtain⟨Q,aQ⟩:=e_ (bn+1);have U:w1.heap.size=Q:=by rw [<-aQ, <-aB, <-aW];simp
 rw [aB] at B1;rw [U] at B2;have aV:Hd (Below we.heap.size we w2):=u_ aJ i;have T:Hd (we.heap.size<=Q):=by show _<=_;omega
 have b:=B1.below i;have BW:=H_ B2;have S:=H_ (aI.o.below aV.o);obtain⟨p0,p1,p2,p3,p4,p5,p6,p7,p8,p9,bF,bG⟩:=c_12 b;have B1:=H_ b;rename_i g1;clear g1 b B2 aJ i hr aI;go_enter Tryz.func55,Tryz.ntmps55;go_wp2_with fail;refine(aZ.o w2 S.o).mono ?_;rintro e w3 ⟨rfl,L⟩;have q:Hd (Below we.heap.size we w3):=b_ aV L;have p:=H_ L;obtain⟨r0,r1,r2,r3,r4,r5,r6,r7,r8,r9,bH,bI⟩:=c_12 (B1.o.below L);clear aW bD aB aQ U L aZ p0 p1 p2 p3 p4 p5 p6 p7 p8 p9 bF bG
 cases P:bS_ M with
 |false=>
  have bC:Hd (cu_ aN_ M=false):=by show _=_;rw [e7_,P];rfl
  clear P;have aF:=BW.o.below p.o;obtain⟨g,n⟩:=aF.row [.int .i64 2,.int .i64 0,.int .i64 0];obtain⟨wF,J⟩:=e_ (w3.setRow Q (List.toArray [.int .i64 2,.int .i64 0,.int .i64 0]));rw [J] at g n;have d:=q.o;have G:Hd (Below we.heap.size we wF):=d.trans (n.below d.size (m_ T.o));have g:=H_ g;clear n d;go_wp2_with (with_reducible refine ac_ (.tmp 2) (.tmp 8) 81 (by with_reducible rfl) ?x1 ?x2 ?x3 aF ?x4 ?x5 ?x6 J ?_)
  all_goals try rfl
  all_goals try kernel_rfl
  refine ar_ (s:=2) (t:=81) rfl rfl g.o (by kernel_rfl) (by kernel_rfl) rfl ?_;exact⟨_,_,_,rfl,⟨fun h=>absurd h (by decide),fun h=>by rw [bC.o] at h;cases h⟩,G.o⟩
 |true=>
  have bA:=H_ P;clear P;go_wp2_with fail;refine(aU.o w3 (S.o.below p.o) bA.o).mono ?_;rintro e w4 ⟨V',rfl,aG,y⟩;clear r0 r1 r2 r3 r4 r5 r6 r7 r8 r9 bH bI;go_wp2_with fail;refine(aN.o V' w4 aG (fp_ aS.o h0.o (b_ q y))).mono ?_;rintro e w5 ⟨vs,c,k,a,rfl,hl,X,hc,r⟩;obtain⟨v0,v1,v2,v3,v4,v5,v6,v7,v8,v9,va,vb,rfl⟩:=oD_ hl;have bB:Hd (c=0↔cu_ aN_ M=true):=by show _↔_;rw [e7_,bA.o,Bool.true_and];exact hc
  have Y:Hd (Below we.heap.size we w5):=(b_ q y).trans (r.mono (b_ q y).size);have Z:=(b_ p y).trans (r.mono (b_ p y).size);have f:=BW.o.below Z;clear hc y r aG aU aN;obtain⟨w6,bE,z,B6⟩:=box0 w5 31 [.int .i64 0,.slice none 0 0,.slice none 0 0,.slice none 0 0,.slice none 0 0,.slice none 0 0,.slice none 0 0,.slice none 0 0,.slice none 0 0,.slice none 0 0,.slice none 0 0,.slice none 0 0];obtain⟨w7,bJ,j,B7⟩:=box0 w6 81 [.int .i64 0,.int .i64 0,.int .i64 0];obtain⟨b6,F⟩:=e_ w5.heap.size;obtain⟨b7,aK⟩:=e_ (b6+1);have aA:w6.heap.size=b7:=by rw [<-aK, <-F, <-bE];simp
  rw [F] at B6;rw [aA] at B7;have aC:=B6.below j;obtain⟨B8,D⟩:=aC.row [v0,v1,v2,v3,v4,v5,v6,v7,v8,v9,va,vb];obtain⟨w8,aX⟩:=e_ (w7.setRow b6 (List.toArray [v0,v1,v2,v3,v4,v5,v6,v7,v8,v9,va,vb]));rw [aX] at B8 D;have aE:=B7.keep (D.keep b7 B7.lt (by simp;omega));obtain⟨B9,N⟩:=aE.row [.int .i64 c,.int .i64 k,.int .i64 a];obtain⟨w9,aY⟩:=e_ (w8.setRow b7 (List.toArray [.int .i64 c,.int .i64 k,.int .i64 a]));rw [aY] at B9 N;have aM:=f.lt;have R:Bx w9 Q 81 [.int .i64 0,.int .i64 0,.int .i64 0]:=((f.below z).below j).keep ((N.keep Q (((f.below z).below j).keep (D.keep Q ((f.below z).below j).lt (by simp;omega))).lt (by simp;omega)).trans (D.keep Q ((f.below z).below j).lt (by simp;omega)));obtain⟨g,n⟩:=R.row [.int .i64 c,.int .i64 k,.int .i64 a];obtain⟨wF,J⟩:=e_ (w9.setRow Q (List.toArray [.int .i64 c,.int .i64 k,.int .i64 a]));rw [J] at g n;have h7:=b_ Y (u_ z j)
  have aL:we.heap.size<=b6:=by rw [<-F];exact Y.o.size
  have h8:=h7.trans (D.below h7.size (m_ aL));have h9:=h8.trans (N.below h8.size (fun x hx=>by simp only [List.mem_singleton] at hx;subst hx;omega));have G:Hd (Below we.heap.size we wF):=h9.trans (n.below h9.size (m_ T.o));obtain⟨z0,z1,z2⟩:=c_3 B9;have g:=H_ g;have aO:=H_ X;clear hl X n aM aL h7 h8 h9 D N B9 z j B6 f Z B8 B7;rename_i gF;clear gF;go_wp2_with (first|(with_reducible refine ac_ (.tmp 3) (.tmp 13) 31 (by with_reducible rfl) ?k1 ?k2 ?k3 aC ?k4 ?k5 ?k6 aX ?_)|(with_reducible refine ac_ (.tmp 4) (.tmp 14) 81 (by with_reducible rfl) ?y1 ?y2 ?y3 aE ?y4 ?y5 ?y6 aY ?_)|(with_reducible refine ac_ (.tmp 2) (.tmp 15) 81 (by with_reducible rfl) ?z1 ?z2 ?z3 R ?z4 ?z5 ?z6 J ?_))
  all_goals try(simp only [List.all_eq_true];exact aO.o)
  all_goals try rfl
  all_goals try kernel_rfl
  refine ar_ (s:=2) (t:=81) rfl rfl g.o (by kernel_rfl) (by kernel_rfl) rfl ?_;exact⟨_,_,_,rfl,bB.o,G.o⟩
