/- Merged. -/
import Derived.Test.YtechdefolfboeaaGreatDoorPo33
set_option linter.unusedVariables false
set_option linter.unusedSimpArgs false
set_option maxRecDepth 100000
set_option maxHeartbeats 2000000
namespace Go.Proofs.YtechdefolfboeaaGreatDoor
open Go.RowKit B K
section
variable {M:WorldP} {L:List RunP}
theorem fitL_of (hn: ¬ 16384<L.length) (h:errC M L=0):FitL M L:=⟨(okC_of hn h).fit,goodW_rt (okC_of hn h).good⟩
end
theorem light_runs {L:List RunP} (h:lightB L=true): ∀ r∈L,r.arr.length≤40∧r.dep.length≤40:=by
 intro r hr;unfold lightB at h;rw [Bool.and_eq_true,List.all_eq_true] at h;have:=h.2 r hr;simpa using this
def UnlikeN (L:List RunP) (i:Nat):Prop:= ∀ a b,b<a→a<i→ ∀ r s,L[a]?=some r→L[b]?=some s→ ¬ (r.trip=s.trip∧r.no=s.no)
def UnlikeK (L:List RunP) (i k:Nat):Prop:= ∀ b,b<k→ ∀ r s,L[i]?=some r→L[b]?=some s→ ¬ (r.trip=s.trip∧r.no=s.no)
theorem UnlikeK.zero (L:List RunP) (i:Nat):UnlikeK L i 0:=fun b h=>absurd h (by omega)
theorem UnlikeN.zero (L:List RunP):UnlikeN L 0:=fun a b _ h=>absurd h (by omega)
theorem UnlikeK.step {L:List RunP} {i k:Nat} {r s:RunP} (h:UnlikeK L i k) (hr:L[i]?=some r) (hs:L[k]?=some s) (hne: ¬ (r.trip=s.trip∧r.no=s.no)):UnlikeK L i (k+1):=by
 intro b hb r' s' h1 h2;rcases Nat.lt_or_ge b k with hk|hk
 ·exact h b hk r' s' h1 h2
 ·obtain rfl:b=k:=by omega
  rw [hr] at h1;rw [hs] at h2;cases h1;cases h2;exact hne
theorem UnlikeN.step {L:List RunP} {i:Nat} (h:UnlikeN L i) (hk:UnlikeK L i i):UnlikeN L (i+1):=by
 intro a b hba ha r s h1 h2;rcases Nat.lt_or_ge a i with h3|h3
 ·exact h a b hba h3 r s h1 h2
 ·obtain rfl:a=i:=by omega
  exact hk b hba r s h1 h2
def P0:List PatP:=[⟨0,[0]⟩,⟨0,[1]⟩]
theorem srt0:srtR L0 [0,1]=[0,1]:=by
 symm
 refine srtR_unique (List.Perm.refl _) ?_;simp only [List.pairwise_cons,List.mem_cons,forall_eq_or_imp,List.not_mem_nil,false_implies,implies_true,and_true,List.Pairwise.nil];rfl
theorem makeP0:makeP M0 L0=P0:=by
 have h:makeP M0 L0=ofL L0 ((0:Nat):Int) (srtR L0 [0,1])++[]:=rfl;rw [h,srt0];rfl
theorem resP0:resP M0 L0=P0:=by unfold resP;rw [if_pos err0,makeP0]
theorem cat0:catchP L0 [0] 1 9=0:=rfl
theorem cat1:catchP L0 [0] 1 10=1:=rfl
theorem dep0_le: ∀ r∈L0,r.dep.length≤100000:=by
 intro r hr;simp only [L0,List.mem_cons,List.not_mem_nil,or_false] at hr;rcases hr with rfl|rfl<;>decide
theorem world20_any (we:World):Calls Tryz.prog 43 #[] we fun e w'=> ∃ V,e= .returned (wVal M0 V)∧RW w' M0 V∧Below we.heap.size we w':=by
 obtain⟨v0,b0,hv0,hb0E,hb0,B0⟩:=box1 we 31 [.int .i64 0,.slice none 0 0,.slice none 0 0,.slice none 0 0,.slice none 0 0,.slice none 0 0,.slice none 0 0,.slice none 0 0,.slice none 0 0,.slice none 0 0,.slice none 0 0,.slice none 0 0];obtain⟨v1,b1,hv1,hb1E,hb1,B1⟩:=box1 v0 9 [.string (⟨#[97]⟩:ByteArray),.string (⟨#[98]⟩:ByteArray),.string (⟨#[99]⟩:ByteArray)];obtain⟨v2,b2,hv2,hb2E,hb2,B2⟩:=box1 v1 9 [.string (⟨#[114]⟩:ByteArray)];obtain⟨v3,b3,hv3,hb3E,hb3,B3⟩:=box1 v2 9 [.string (⟨#[116]⟩:ByteArray),.string (⟨#[117]⟩:ByteArray)];obtain⟨v4,b4,hv4,hb4E,hb4,B4⟩:=box1 v3 3 [.int .i64 0,.int .i64 1,.int .i64 2];obtain⟨v5,b5,hv5,hb5E,hb5,B5⟩:=box1 v4 2 [.int .i64 3,.int .i64 3];obtain⟨v6,b6,hv6,hb6E,hb6,B6⟩:=box1 v5 2 [.int .i64 1];obtain⟨v7,b7,hv7,hb7E,hb7,B7⟩:=box1 v6 51 [.slice (some ⟨b4,0,none⟩) 3 3,.slice (some ⟨b5,0,none⟩) 2 2,.slice (some ⟨b6,0,none⟩) 1 1]
 obtain⟨v8,b8,hv8,hb8E,hb8,B8⟩:=box1 v7 53 [.int .i64 0,.int .i64 5,.int .i64 0,.int .i64 5,.int .i64 0,.int .i64 6,.int .i64 0,.int .i64 6];have hup0:Below we.heap.size we v0:=hb0;have hup1:Below we.heap.size we v1:=u_ hup0 hb1;have hup2:Below we.heap.size we v2:=u_ hup1 hb2;have hup3:Below we.heap.size we v3:=u_ hup2 hb3;have hup4:Below we.heap.size we v4:=u_ hup3 hb4;have hup5:Below we.heap.size we v5:=u_ hup4 hb5;have hup6:Below we.heap.size we v6:=u_ hup5 hb6;have hup7:Below we.heap.size we v7:=u_ hup6 hb7;have hup8:Below we.heap.size we v8:=u_ hup7 hb8;have C0:=H_ (((((((((B0).below hb1).below hb2).below hb3).below hb4).below hb5).below hb6).below hb7).below hb8);have C1:=H_ ((((((((B1).below hb2).below hb3).below hb4).below hb5).below hb6).below hb7).below hb8);have C2:=H_ (((((((B2).below hb3).below hb4).below hb5).below hb6).below hb7).below hb8)
 have C3:=H_ ((((((B3).below hb4).below hb5).below hb6).below hb7).below hb8);have C4:=H_ (((((B4).below hb5).below hb6).below hb7).below hb8);have C5:=H_ ((((B5).below hb6).below hb7).below hb8);have C6:=H_ (((B6).below hb7).below hb8);have C7:=H_ ((B7).below hb8);have C8:=H_ (B8);have hup:=H_ hup8;have hge:Hid (we.heap.size≤b0):=by show _≤_;omega
 clear B0 B1 B2 B3 B4 B5 B6 B7 B8 hup0 hup1 hup2 hup3 hup4 hup5 hup6 hup7 hup8;have hC0:=C0.out;obtain⟨hBF,hbF⟩:=hC0.row [.int .i64 99,.slice (some ⟨b1,0,none⟩) 3 3,.slice none 0 0,.slice none 0 0,.slice (some ⟨b2,0,none⟩) 1 1,.slice (some ⟨b3,0,none⟩) 2 2,.slice none 0 0,.slice none 0 0,.slice none 0 0,.slice (some ⟨b7,0,none⟩) 1 1,.slice (some ⟨b8,0,none⟩) 2 2,.slice none 0 0];obtain⟨wF,hwF⟩: ∃ q,v8.setRow b0 (List.toArray [.int .i64 99,.slice (some ⟨b1,0,none⟩) 3 3,.slice none 0 0,.slice none 0 0,.slice (some ⟨b2,0,none⟩) 1 1,.slice (some ⟨b3,0,none⟩) 2 2,.slice none 0 0,.slice none 0 0,.slice none 0 0,.slice (some ⟨b7,0,none⟩) 1 1,.slice (some ⟨b8,0,none⟩) 2 2,.slice none 0 0])=q:=⟨_,rfl⟩
 rw [hwF] at hBF hbF;have hfin:Hid (Below we.heap.size we wF):=hup.out.trans (hbF.below hup.out.size (m_ hge.out));have hne:Hid (∀ k,k<v8.heap.size→k≠b0→wF.heap[k]?=v8.heap[k]?):=fun k hk hk0=>hbF.keep k hk (by simpa using hk0);have hBF:=H_ hBF;clear hbF
 have hlt0:b0<b1∧b0<b2∧b0<b3∧b0<b4∧b0<b5∧b0<b6∧b0<b7∧b0<b8:=by
  have h1:=hb1.size;have h2:=hb2.size;have h3:=hb3.size;have h4:=hb4.size;have h5:=hb5.size;have h6:=hb6.size;have h7:=hb7.size;have h8:=hb8.size;have h0:=C0.out.lt;have g0:b0<v0.heap.size:=by rw [←hv0,←hb0E];simp
  refine⟨?_,?_,?_,?_,?_,?_,?_,?_⟩<;>omega
 have hltH:=H_ hlt0;clear hlt0;go_enter Tryz.func43,Tryz.ntmps43;go_wp2_with (with_reducible refine wpList_store_bx (.tmp 0) (.tmp 13) 31 (by with_reducible rfl) ?x1 ?x2 ?x3 hC0 ?x4 ?x5 ?x6 hwF ?_)
 all_goals try rfl
 all_goals try kernel_rfl
 refine bodyPost_bx (s:=0) (t:=31) rfl rfl hBF.out (by kernel_rfl) (by kernel_rfl) rfl ?_;have D:=fun(k:Nat) (T:TypeId) (u:List Value) (h:Bx v8 k T u) (hk:b0<k)=>(show Bx wF k T u from(hne.out k h.lt (by omega)).trans h)
 obtain⟨q1,q2,q3,q4,q5,q6,q7,q8⟩:=hltH.out;have D1:=Rd.of_bx (enc:=strE) (l:=[(⟨#[97]⟩:ByteArray),(⟨#[98]⟩:ByteArray),(⟨#[99]⟩:ByteArray)]) strE_len (D _ _ _ C1.out q1);have D2:=Rd.of_bx (enc:=strE) (l:=[(⟨#[114]⟩:ByteArray)]) strE_len (D _ _ _ C2.out q2);have D3:=Rd.of_bx (enc:=strE) (l:=[(⟨#[116]⟩:ByteArray),(⟨#[117]⟩:ByteArray)]) strE_len (D _ _ _ C3.out q3);have D4:=Rd.of_bx (enc:=numE .i64) (l:=[0,1,2]) num_len (D _ _ _ C4.out q4);have D5:=Rd.of_bx (enc:=numE .i64) (l:=[3,3]) num_len (D _ _ _ C5.out q5);have D6:=Rd.of_bx (enc:=numE .i64) (l:=[1]) num_len (D _ _ _ C6.out q6);have D7:=D _ _ _ C7.out q7;have D8:=Rd.of_bx (enc:=tripP) (l:=[⟨0,5,0,5⟩,⟨0,6,0,6⟩]) tripP_len (D _ _ _ C8.out q8)
 refine⟨⟨some ⟨b1,0,none⟩,none,none,some ⟨b2,0,none⟩,some ⟨b3,0,none⟩,none,none,none,some ⟨b7,0,none⟩,some ⟨b8,0,none⟩,none,3,0,0,1,2,0,0,0,1,2,0,3,0,0,1,2,0,0,0,1,2,0⟩,rfl,
  ⟨D1,Rd.nil,Rd.nil,D2,D3,Rd.nil,Rd.nil,Rd.nil,⟨rfl,fun k r hk=>?_⟩,D8,Rd.nil⟩,hfin.out⟩
 have hk0:k=0:=by have:=(List.getElem?_eq_some_iff.1 hk).1;simp [M0] at this;omega
 subst hk0;obtain rfl:(⟨[0,1,2],[3,3],[1]⟩:RouteP)=r:=by simpa [M0] using hk
 exact⟨b7,0,rfl,D7.lt,⟨_,_,_,D7.cell 0 rfl,D4,by decide,by decide⟩,⟨_,_,_,D7.cell 1 rfl,D5,by decide,by decide⟩,⟨_,_,_,D7.cell 2 rfl,D6,by decide,by decide⟩⟩
theorem runs20_any (we:World):Calls Tryz.prog 44 #[] we fun e w'=> ∃ b,e= .returned (.slice (some ⟨b,0,none⟩) 2 2)∧RRuns w' (some ⟨b,0,none⟩) 2 L0∧Below we.heap.size we w':=by
 obtain⟨v0,b0,hv0,hb0E,hb0,B0⟩:=box1 we 2 [.int .i64 5,.int .i64 8,.int .i64 12];obtain⟨v1,b1,hv1,hb1E,hb1,B1⟩:=box1 v0 2 [.int .i64 5,.int .i64 9,.int .i64 12];obtain⟨v2,b2,hv2,hb2E,hb2,B2⟩:=box1 v1 2 [.int .i64 6,.int .i64 7,.int .i64 9];obtain⟨v3,b3,hv3,hb3E,hb3,B3⟩:=box1 v2 2 [.int .i64 6,.int .i64 7,.int .i64 9];obtain⟨v4,b4,hv4,hb4E,hb4,B4⟩:=box1 v3 47 [.int .i64 0,.int .i64 0,.slice (some ⟨b0,0,none⟩) 3 3,.slice (some ⟨b1,0,none⟩) 3 3,.int .i64 1,.int .i64 0,.slice (some ⟨b2,0,none⟩) 3 3,.slice (some ⟨b3,0,none⟩) 3 3];have hup0:Below we.heap.size we v0:=hb0;have hup1:Below we.heap.size we v1:=u_ hup0 hb1;have hup2:Below we.heap.size we v2:=u_ hup1 hb2;have hup3:Below we.heap.size we v3:=u_ hup2 hb3;have hup4:Below we.heap.size we v4:=u_ hup3 hb4;have C0:=H_ (((((B0).below hb1).below hb2).below hb3).below hb4);have C1:=H_ ((((B1).below hb2).below hb3).below hb4)
 have C2:=H_ (((B2).below hb3).below hb4);have C3:=H_ ((B3).below hb4);have C4:=H_ (B4);have hup:=H_ hup4;clear B0 B1 B2 B3 B4 hup0 hup1 hup2 hup3 hup4;go_enter Tryz.func44,Tryz.ntmps44;go_wp2_with fail;clear hv0 hb0E hv1 hb1E hv2 hb2E hv3 hb3E hv4 hb4E;go_returns;have D0:=Rd.of_bx (enc:=numE .i64) (l:=[5,8,12]) num_len C0.out;have D1:=Rd.of_bx (enc:=numE .i64) (l:=[5,9,12]) num_len C1.out;have D2:=Rd.of_bx (enc:=numE .i64) (l:=[6,7,9]) num_len C2.out;have D3:=Rd.of_bx (enc:=numE .i64) (l:=[6,7,9]) num_len C3.out;have D4:=Rd.of_bx (enc:=rnE) (l:=[(0,0,(some ⟨b0,0,none⟩,3,3),(some ⟨b1,0,none⟩,3,3)),(1,0,(some ⟨b2,0,none⟩,3,3),(some ⟨b3,0,none⟩,3,3))]) rnE_len C4.out;refine⟨b4,rfl,⟨_,D4,rfl,fun k e r he hr=>?_⟩,hup.out⟩
 match k,he,hr with
 |0,he,hr=>
  simp [L0] at he hr;subst he hr;exact⟨rfl,rfl,D0,⟨Nat.le_refl _,Nat.le_of_ble_eq_true rfl⟩,D1,⟨Nat.le_refl _,Nat.le_of_ble_eq_true rfl⟩⟩
 |1,he,hr=>
  simp [L0] at he hr;subst he hr;exact⟨rfl,rfl,D2,⟨Nat.le_refl _,Nat.le_of_ble_eq_true rfl⟩,D3,⟨Nat.le_refl _,Nat.le_of_ble_eq_true rfl⟩⟩
 |k+2,he,hr=>simp at he
theorem can_any (A A1:Option Addr) (n c m c1:Nat) (rt pos t:Int) (L:List RunP) (l:List Int) (we:World) (hL:RRuns we A n L) (hn:n≤100000) (hl:Rd we 1 (numE .i64) A1 m l) (hm:m≤100000) (k:Nat) (x:Int) (hx:l[k]?=some x) (hin:inR L pos x=true) (hdl:(runAt L x).dep.length ≤100000):
 Calls Tryz.prog 87 #[.agg #[.slice A n c,.int .i64 rt,.slice A1 m c1,.int .i64 pos,.int .i64 t],.int .i64 (k:Int)] we fun e w'=>e= .returned (.bool (decide (t≤depAt L pos x)))∧Below we.heap.size we w':=by
 unfold inR at hin;simp only [Bool.and_eq_true,decide_eq_true_eq] at hin;obtain⟨i1,i2,i3,i4⟩:=hin;have hkm:k<m:=by have:=(List.getElem?_eq_some_iff.1 hx).1;have:=hl.len;omega
 have gra:=runAt_get (natI_mem.2 ⟨i1,i2⟩);have hL60:=hL.len;obtain⟨bR,oR,y,rfl,hbR,hy,gy⟩:=hl.num hkm;obtain rfl:x=y:=Option.some.inj (hx.symm.trans hy);obtain⟨ka,rfl⟩:=Int.eq_ofNat_of_zero_le i1;obtain⟨kp,rfl⟩:=Int.eq_ofNat_of_zero_le i3;rw [Int.toNat_natCast] at gra;have hka:ka<n:=by omega
 obtain⟨bL,oL,r,x1,xm,xc,x2,xn,xd,rfl,hbL,hr,g0,g1,g2,g3,_,rd,_,_⟩:=hL.get hka;obtain rfl:runAt L ka=r:=Option.some.inj (gra.symm.trans hr);have hkp:kp<(runAt L ka).dep.length :=by omega
 have hkpx:kp<xn:=by rw [←rd.len];exact hkp
 obtain⟨bD,oD,z,rfl,hbD,hz,gz⟩:=rd.num hkpx;have hdz:depAt L kp ka=z:=by rw [depAt_nat hkp];exact Option.some.inj ((List.getElem?_eq_getElem hkp).symm.trans hz)
 rw [hdz];have hkI:(k:Int)<(m:Int):=by omega
 have hkaI:(ka:Int)<(n:Int):=by omega
 have hkpI:(kp:Int)<(xn:Int):=by omega
 obtain⟨w1,b1,hw1,hbE1,hb1,hup,B1,hge1⟩:=enter1 we 121 [.slice (some ⟨bL,oL,none⟩) n c,.int .i64 rt,.slice (some ⟨bR,oR,none⟩) m c1,.int .i64 kp,.int .i64 t];have p0:=B1.cell 0 rfl;have p2:=B1.cell 2 rfl;have p3:=B1.cell 3 rfl;have p4:=B1.cell 4 rfl;have lb:=B1.lt;clear B1 hb1 hL hl hx hy gra hr rd hz hdz hdl i1 i2 i3 i4 hL60 hkp;go_enter Tryz.func87,Tryz.ntmps87;go_wp2_with fail;clear hw1 hbE1;go_upto_region 1 with fail;refine wb_ w1.heap.size ?_;intro C hC
 repeat(go_big_quiet_step (first
  |((intro _;with_reducible rfl))
  |(intro hc;have hcw:=b_ hup hc;have m0:=c_ hc lb p0;have m1:=c_ hc lb p2;have m2:=c_ hc lb p3;have m3:=c_ hc lb p4;have m4:=c_ hcw hbR gy;have m5:=c_ hcw hbL g3;have m6:=c_ hcw hbD gz;simp only [m0,m1,m2,m3,m4,m5,m6,Result.andThen];exact⟨trivial,rfl⟩)
 ))
 refine wpQuiet_nil ?_;intro w9 hb9;clear hC;go_wp2_with fail;go_returns;exact⟨rfl,b_ hup hb9⟩
def RetSe (n:Nat) (p:Nat→Bool) (w:World) (e:Ending) (w':World):Prop:= ∃ k:Nat,e= .returned (.int .i64 (k:Int))∧k≤n∧(∀ i,i<k→p i=false)∧(k<n→p k=true)∧Below w.heap.size w w'
theorem search_any (g:Nat) (v:Value) (eg: ∀ args w,(callFunc g args).run Tryz.prog w= .ok (.enter g args) w) (n:Nat) (hn:n≤100000) (p:Nat→Bool) (hmono: ∀ i j,i≤j→j<n→p i=true→p j=true) (w:World)
 (hp: ∀ (W:World) (k:Nat),Below w.heap.size w W→k<n→Calls Tryz.prog g #[v,.int .i64 (k:Int)] W fun e w'=>e= .returned (.bool (p k))∧Below W.heap.size W w'):
 Calls Tryz.prog 86 #[.int .i64 (n:Int),.func (.func g) #[v] #[]] w (RetSe n p w):=by
 have hpH:=H_ hp;have hmH:=H_ hmono;have hb0:Hid (Below w.heap.size w w):=Below.refl _ _;have h0:Hid (∀ x,x<0→p x=false):=fun x hx=>by omega
 have h1:Hid (∀ x,n≤x→x<n→p x=true):=fun x h1 h2=>by omega
 clear hp hmono;go_enter Tryz.func86,Tryz.ntmps86;go_wp2_with fail;go_loopw [5,6] (fun iv jv wr=> ∃ (i j:Nat),i≤j∧j≤n∧iv= .int .i64 i∧jv= .int .i64 j∧Hid (∀ x,x<i→p x=false)∧Hid (∀ x,j≤x→x<n→p x=true)∧Hid (Below w.heap.size w wr)) (fun iv jv _=>(intOf jv).toNat -(intOf iv).toNat)
 case atStart=>exact⟨0,n,Nat.zero_le _,Nat.le_refl _,rfl,rfl,h0,h1,hb0⟩
 case round=>
  clear h0 h1 hb0;obtain⟨i,j,hij,hjn,rfl,rfl,hi,hj,hb⟩:=hrel;by_cases hlt:i<j
  ·have hltI:(i:Int)<(j:Int):=by omega
   obtain⟨h,hh⟩: ∃ h,(i+j) / 2=h:=⟨_,rfl⟩
   have hhI:((i:Int)+(j:Int)) / 2=(h:Int):=by omega
   have hhn:h<n:=by omega
   have hih:i≤h∧h<j:=by omega
   have hc:=H_ (hpH.out wr h hb.out hhn);have hhH:=H_ hih;have jb:j≤100000:=by omega
   have ib:i≤100000:=by omega
   have hb9:h≤100000:=by omega
   clear hh hih;obtain⟨q,hq⟩: ∃ q,p h=q:=⟨_,rfl⟩
   rw [hq] at hc;have hqH:=H_ hq;clear hq;go_wp2_with fail;refine hc.out.mono ?_;rintro e w2 ⟨rfl,hb2⟩;have hbz:=h_ hb hb2;clear hb2 hc hb
   cases q with
   |true=>
    have hj':Hid (∀ x,h≤x→x<n→p x=true):=fun x h1 h2=>hmH.out h x h1 h2 hqH.out;go_wp2_with fail;go_roundw
    case rel=>exact⟨i,h,hhH.out.1,by omega,rfl,rfl,hi,hj',hbz⟩
    case measure=>simp [intOf]<;>(have:=hhH.out;omega)
   |false=>
    have hi':Hid (∀ x,x<h+1→p x=false):=fun x hx=>by
     cases hpx:p x with
     |false=>rfl
     |true=>have:=hmH.out x h (by omega) hhn hpx;rw [hqH.out] at this;cases this
    go_wp2_with fail;go_roundw
    case rel=>exact⟨h+1,j,by have:=hhH.out;omega,hjn,by go_num,rfl,hi',hj,hbz⟩
    case measure=>simp [intOf]<;>(have:=hhH.out;omega)
  ·obtain rfl:i=j:=by omega
   have hk:Hid (i<n→p i=true):=fun h=>hj.out i (Nat.le_refl _) h;go_wp2_with fail;go_returns;exact⟨i,rfl,hjn,hi.out,hk.out,hb.out⟩
theorem catch_bad {L:List RunP} {l:List Int} {pos t:Int} {k:Nat} {x:Int} (hx:l[k]?=some x) (h:inR L pos x=false):catchP L l pos t=l.length:=by
 unfold catchP;rw [if_neg];intro ha;have:=List.all_eq_true.1 ha x (List.mem_of_getElem? hx);rw [h] at this;cases this
theorem catch_first {L:List RunP} {l:List Int} {pos t:Int} {k:Nat} (hall: ∀ (i:Nat) x,l[i]?=some x→inR L pos x=true) (hk:k≤l.length) (h1: ∀ (i:Nat) x,i<k→l[i]?=some x→decide (t≤depAt L pos x)=false) (h2:k<l.length→ ∀ x,l[k]?=some x→decide (t≤depAt L pos x)=true):catchP L l pos t=k:=by
 unfold catchP;rw [if_pos (List.all_eq_true.2 fun x hx=>by obtain⟨i,hi⟩:=List.getElem?_of_mem hx;exact hall i x hi)];rcases Nat.lt_or_ge k l.length with h|h
 ·refine(List.findIdx_eq h).2 ⟨h2 h _ (List.getElem?_eq_getElem h),fun j hj=>?_⟩;exact h1 j _ hj (List.getElem?_eq_getElem (by omega))
 ·obtain rfl:k=l.length:=by omega
  refine List.findIdx_eq_length_of_false fun x hx=>?_;obtain⟨i,hi⟩:=List.getElem?_of_mem hx;exact h1 i x (List.getElem?_eq_some_iff.1 hi).1 hi
def canAt (L:List RunP) (l:List Int) (pos t:Int) (k:Nat):Bool:=match l[k]? with
 |some x=>decide (t≤depAt L pos x)
 |none=>false
theorem canAt_eq {L:List RunP} {l:List Int} {pos t:Int} {k:Nat} {x:Int} (h:l[k]?=some x):canAt L l pos t k=decide (t≤depAt L pos x):=by unfold canAt;rw [h]
theorem canAt_mono {L:List RunP} {l:List Int} {pos t:Int} (h: ∀ (i:Nat) y z,l[i]?=some y→l[i+1]?=some z→depAt L pos y≤depAt L pos z): ∀ i j,i≤j→j<l.length→canAt L l pos t i=true→canAt L l pos t j=true:=by
 intro i j hij hj hi
 induction j with
 |zero=>
  obtain rfl:i=0:=by omega
  exact hi
 |succ j ih=>
  rcases Nat.lt_or_ge i (j+1) with h2|h2
  ·have h3:=ih (by omega) (by omega);have e1:l[j]?=some l[j]:=List.getElem?_eq_getElem (by omega);have e2:l[j+1]?=some l[j+1]:=List.getElem?_eq_getElem hj;rw [canAt_eq e1,decide_eq_true_eq] at h3;rw [canAt_eq e2,decide_eq_true_eq];exact Int.le_trans h3 (h j _ _ e1 e2)
  ·obtain rfl:i=j+1:=by omega
   exact hi
def FallsB (L:List RunP) (l:List Int) (pos:Int) (k:Nat) (f:Bool):Prop:=f=false→ ∀ (i:Nat) y z,i+1<k→l[i]?=some y→l[i+1]?=some z→depAt L pos y≤depAt L pos z
theorem paCatch_any (A A1:Option Addr) (n c m c1:Nat) (rt pos t:Int) (L:List RunP) (l:List Int) (we:World) (hL:RRuns we A n L) (hn:n≤100000) (hl:Rd we 1 (numE .i64) A1 m l) (hm:m≤100000) (hdl: ∀ r∈L,r.dep.length≤100000):
 Calls Tryz.prog 42 #[.slice A n c,.agg #[.int .i64 rt,.slice A1 m c1],.int .i64 pos,.int .i64 t] we fun e w'=>e= .returned (.int .i64 (catchP L l pos t:Nat))∧Below we.heap.size we w':=by
 have hlm:=H_ hl.len;have hLn:=H_ hL.len;obtain⟨R,hR⟩: ∃ R,catchP L l pos t=R:=⟨_,rfl⟩
 rw [hR];have hRH:=H_ hR;have hLH:=H_ hL;have hlH:=H_ hl;have hdH:=H_ hdl;obtain⟨w1,w2,b1,b2,hw1,hw2,hbE1,hbE2,hbF2,hb1,hb2,hup,B1,B2,hge1,hge2⟩:=enter2 we 68 121 [.int .i64 rt,.slice A1 m c1] [.slice A n c,.int .i64 rt,.slice A1 m c1,.int .i64 pos,.int .i64 t];have p1:=B1.cell 1 rfl;have B2H:=H_ B2;have l1:=B1.lt;have l2:=B2.lt;have p1H:=H_ p1;have B1a:Bx w1 b1 68 [.int .i64 rt,.slice A1 m c1]:=by rw [←hw1,←hbE1];exact Bx.new _ _ _
 have o0:=B1a.cell 0 rfl;have o1:=B1a.cell 1 rfl;clear B1a;have hb0:Hid (Below w2.heap.size w2 w2):=Below.refl _ _;have hi0:Hid (∀ (i:Nat) x,i<0→l[i]?=some x→inR L pos x=true):=fun i x h=>by omega
 have hf0:Hid (FallsB L l pos 0 false):=fun _ i y z h=>by omega
 clear B1 B2 hb1 hb2 hL hl hdl hR;go_enter Tryz.func42,Tryz.ntmps42;go_wp2_with fail;clear hw1 hw2 hbE1 hbE2 hbF2 p1 o0 o1;go_loopw [22,10] (fun iv v10 wr=> ∃ (k:Nat) (f:Bool),k≤m∧iv= .int .i64 k∧v10= .bool f∧Hid (∀ (i:Nat) x,i<k→l[i]?=some x→inR L pos x=true)∧Hid (FallsB L l pos k f)∧Hid (Below w2.heap.size w2 wr)) (fun iv _ _=>m-(intOf iv).toNat)
 case atStart=>exact⟨0,false,Nat.zero_le _,rfl,rfl,hi0,hf0,hb0⟩
 case round=>
  clear hi0 hf0 hb0;obtain⟨k,f,hk,rfl,rfl,hin,hfm,hb⟩:=hrel;have hbe:=h_ hup hb.out;have p1:=c_ hb.out l1 p1H.out;by_cases hkm:k<m
  ·have hkI:(k:Int)<(m:Int):=by omega
   obtain⟨bR,oR,x,rfl,hbR,hx,gx⟩:=(hlH.out.below hbe.out).num hkm;have hxH:=H_ hx;clear hx;by_cases hx0:x<0
   ·have hE:Hid (m=R):=by show _=_;rw [←hRH.out,←hlm.out];exact(catch_bad hxH.out (by unfold inR;rw [F_ (by omega)];simp)).symm
    go_wp2_with fail;go_returns;exact⟨by rw [←hE.out];rfl,hbe.out⟩
   ·by_cases hxn:(n:Int)≤x
    ·have hE:Hid (m=R):=by show _=_;rw [←hRH.out,←hlm.out];exact(catch_bad hxH.out (by unfold inR;rw [show decide (x<(L.length:Int))=false from F_ (by have:=hLn.out;omega)];simp)).symm
     go_wp2_with fail;go_returns;exact⟨by rw [←hE.out];rfl,hbe.out⟩
    ·by_cases hp0:pos<0
     ·have hE:Hid (m=R):=by show _=_;rw [←hRH.out,←hlm.out];exact(catch_bad hxH.out (by unfold inR;rw [show decide (0≤pos)=false from F_ (by omega)];simp)).symm
      go_wp2_with fail;go_returns;exact⟨by rw [←hE.out];rfl,hbe.out⟩
     ·obtain⟨ka,rfl⟩:=Int.eq_ofNat_of_zero_le (show 0≤x by omega);obtain⟨kp,rfl⟩:=Int.eq_ofNat_of_zero_le (show 0≤pos by omega);have hka:ka<n:=by omega
      have gra:=runAt_nat (L:=L) (k:=ka) (by have:=hLn.out;omega);obtain⟨bL,oL,r,x1,xm,xc,x2,xn,xd,rfl,hbL,hr,_,_,_,g3,_,rd,_,_⟩:=(hLH.out.below hbe.out).get hka;obtain rfl:runAt L ka=r:=Option.some.inj (gra.symm.trans hr);have hxnl:(runAt L ka).dep.length =xn:=rd.len;have hkaI:(ka:Int)<(n:Int):=by omega
      have hdb:=hdH.out _ (List.mem_of_getElem? hr);have hrH:=H_ hr;have graH:=H_ gra;have hxlH:=H_ hxnl;clear gra hr hxnl;by_cases hpl:(xn:Int)≤(kp:Int)
      ·have hE:Hid (m=R):=by show _=_;rw [←hRH.out,←hlm.out];exact(catch_bad hxH.out (by unfold inR;rw [show decide ((kp:Int)<((runAt L ka).dep.length :Int))=false from F_ (by have:=hxlH.out;omega)];simp)).symm
       clear rd;go_wp2_with fail;go_returns;exact⟨by rw [←hE.out];rfl,hbe.out⟩
      ·have hok:Hid (inR L (kp:Int) (ka:Int)=true):=by
        show _=_;unfold inR;rw [T_ (by omega),T_ (by have:=hLn.out;omega),T_ (by omega),T_ (by have:=hxlH.out;omega)];rfl
       have hin':Hid (∀ (i:Nat) x,i<k+1→l[i]?=some x→inR L (kp:Int) x=true):=fun i y hi hy=>by
        rcases Nat.lt_or_ge i k with h|h
        ·exact hin.out i y h hy
        ·obtain rfl:i=k:=by omega
         rw [hxH.out] at hy;cases hy;exact hok.out
       have hkpx:kp<xn:=by omega
       have hkpI:(kp:Int)<(xn:Int):=by omega
       obtain⟨bD,oD,z,rfl,hbD,hz,gz⟩:=rd.num hkpx;have hkd:kp<(runAt L ka).dep.length :=by have:=hxlH.out;omega
       have hdz:Hid (depAt L (kp:Int) (ka:Int)=z):=by show _=_;rw [depAt_nat hkd];exact Option.some.inj ((List.getElem?_eq_getElem hkd).symm.trans hz)
       have hm9:m≤9223372036854775807:=by omega
       clear rd hz hkd
       cases f with
       |true=>
        have hfn:Hid (FallsB L l (kp:Int) (k+1) true):=fun h=>by cases h
        go_wp2_with fail;go_upto_region 8 with fail;refine wb_ wr.heap.size ?_;intro C hC
        repeat(go_big_quiet_step (first
         |((intro _;with_reducible rfl))
        ))
        refine wpQuiet_nil ?_;intro w9 hb9;clear hC;have hbz:=h_ hb hb9;clear hb9 hb hbe;go_wp2_with fail;go_roundw
        case rel=>exact⟨k+1,true,by omega,by go_num,rfl,hin',hfn,hbz⟩
        case measure=>simp [intOf]<;>omega
       |false=>
        cases k with
        |zero=>
         rw [Nat.add_zero] at gx;have hfn:Hid (FallsB L l (kp:Int) (0+1) false):=fun _ i y z h=>by omega
         go_wp2_with fail;go_upto_region 8 with fail;refine wb_ wr.heap.size ?_;intro C hC
         repeat(go_big_quiet_step (first
          |((intro _;with_reducible rfl))
         ))
         refine wpQuiet_nil ?_;intro w9 hb9;clear hC;have hbz:=h_ hb hb9;clear hb9 hb hbe;go_wp2_with fail;go_roundw
         case rel=>exact⟨0+1,false,by omega,by go_num,rfl,hin',hfn,hbz⟩
         case measure=>simp [intOf]<;>omega
        |succ k=>
         obtain⟨_,_,y,hAy,_,hy,gy⟩:=(hlH.out.below hbe.out).num (show k<m by omega);cases hAy;have hoky:=hin.out k y (by omega) hy;unfold inR at hoky;simp only [Bool.and_eq_true,decide_eq_true_eq] at hoky;obtain⟨y1,y2,_,y4⟩:=hoky;obtain⟨kb,rfl⟩:=Int.eq_ofNat_of_zero_le y1;have grb:=runAt_nat (L:=L) (k:=kb) (by omega);obtain⟨_,_,s,z1,zm,zc,z2,zn,zd,hAL,_,hs,_,_,_,f3,_,sd,_,_⟩:=(hLH.out.below hbe.out).get (show kb<n by have:=hLn.out;omega);cases hAL;obtain rfl:runAt L kb=s:=Option.some.inj (grb.symm.trans hs);have hkd:kp<(runAt L kb).dep.length :=by omega
         have hkpz:kp<zn:=by rw [←sd.len];exact hkd
         obtain⟨bE,oE,u,rfl,hbE,hu,gu⟩:=sd.num hkpz;have hdu:Hid (depAt L (kp:Int) (kb:Int)=u):=by show _=_;rw [depAt_nat hkd];exact Option.some.inj ((List.getElem?_eq_getElem hkd).symm.trans hu)
         have hyH:=H_ hy;have hkbI:(kb:Int)<(n:Int):=by have:=hLn.out;omega
         have hkpzI:(kp:Int)<(zn:Int):=by omega
         have hk0I:(0:Int)<(k:Int)+1:=by omega
         have hs1:IntKind.i64.wrap ((k:Int)+1-1)=k:=by rw [IntWalk.i64_in _ (by omega)];omega
         have hkI':(k:Int)<(m:Int):=by omega
         have hzu:Hid (∀ q,decide (z<u)=q→FallsB L l (kp:Int) (k+1+1) q):=fun q hq hqf i y' z' hi h1 h2=>by
          rcases Nat.lt_or_ge i k with h|h
          ·exact hfm.out rfl i y' z' (by omega) h1 h2
          ·obtain rfl:i=k:=by omega
           rw [hyH.out] at h1;rw [hxH.out] at h2;cases h1;cases h2;rw [hdz.out,hdu.out];rw [hqf,decide_eq_false_iff_not] at hq;omega
         clear hy grb hs sd hu hkd y1 y2 y4 hfm;obtain⟨q,hq⟩: ∃ q,decide (z<u)=q:=⟨_,rfl⟩
         have hfn:=H_ (hzu.out q hq);clear hzu;go_wp2_with fail;go_upto_region 8 with fail;refine wb_ wr.heap.size ?_;intro C hC
         repeat(go_big_quiet_step (first
          |((intro _;with_reducible rfl))
          |(intro hc;have hcw:=b_ hbe hc;have k0:=c_ hc hbL g3;have k1:=c_ hc hbL f3;have k2:=c_ hc hbD gz;have k3:=c_ hc hbE gu;have k4:=c_ hc hbR gy;have k5:=c_ hc (Nat.lt_of_lt_of_le l1 hb.out.size) p1;simp only [k0,k1,k2,k3,k4,k5,Result.andThen];exact⟨trivial,rfl⟩)
         ))
         refine wpQuiet_nil ?_;intro w9 hb9;clear hC;have hbz:=h_ hb hb9;clear hb9 hb hbe hs1 hq;go_wp2_with fail;go_roundw
         case rel=>exact⟨k+1+1,q,by omega,by go_num,rfl,hin',hfn,hbz⟩
         case measure=>simp [intOf]<;>omega
  ·obtain rfl:m=k:=by omega
   have hall:Hid (∀ (i:Nat) x,l[i]?=some x→inR L pos x=true):=fun i x hx=>hin.out i x (by have:=(List.getElem?_eq_some_iff.1 hx).1;have:=hlm.out;omega) hx
   have hcan:Hid (∀ (W:World) (k:Nat),Below w2.heap.size w2 W→k<m→Calls Tryz.prog 87 #[.agg #[.slice A n c,.int .i64 rt,.slice A1 m c1,.int .i64 pos,.int .i64 t],.int .i64 (k:Int)] W fun e w'=>e= .returned (.bool (canAt L l pos t k))∧Below W.heap.size W w'):=fun W k hW hk=>by
    have hkl:k<l.length:=by rw [hlm.out];exact hk
    have hx:l[k]?=some l[k]:=List.getElem?_eq_getElem hkl;rw [canAt_eq hx];have hwe:=b_ hup hW;refine can_any A A1 n c m c1 rt pos t L l W (hLH.out.below hwe) hn (hlH.out.below hwe) hm k _ hx (hall.out k _ hx) ?_;have hin1:=hall.out k _ hx;unfold inR at hin1;simp only [Bool.and_eq_true,decide_eq_true_eq] at hin1;exact hdH.out _ (List.mem_of_getElem? (runAt_get (natI_mem.2 ⟨hin1.1,hin1.2.1⟩)))
   have hres:Hid (∀ k,k≤m→(∀ i,i<k→canAt L l pos t i=false)→(k<m→canAt L l pos t k=true)→k=R):=fun k hk h1 h2=>by
    rw [←hRH.out];exact(catch_first hall.out (by rw [hlm.out];exact hk) (fun i x hi hx=>by have:=h1 i hi;rwa [canAt_eq hx] at this) (fun h x hx=>by have:=h2 (by rw [←hlm.out];exact h);rwa [canAt_eq hx] at this)).symm
   obtain⟨y0,y1,y2,y3,y4⟩:=d_5 hb.out l2 B2H.out
   cases f with
   |false=>
    have hse:=H_ (search_any 87 (.agg #[.slice A n c,.int .i64 rt,.slice A1 m c1,.int .i64 pos,.int .i64 t]) (enters_of Tryz.func87 (by kernel_rfl) rfl) m hm (canAt L l pos t) (by rw [←hlm.out];exact canAt_mono (fun i y z hy hz=>hfm.out rfl i y z (by have:=(List.getElem?_eq_some_iff.1 hz).1;have:=hlm.out;omega) hy hz)) wr (fun W k hW hk=>hcan.out W k (b_ hb hW) hk));clear hfm hin hcan hall;go_wp2_with fail;refine hse.out.mono ?_;rintro e w3 ⟨k,rfl,hk,h1,h2,hb3⟩;have hbz:=h_ hbe hb3;have hE:=H_ (hres.out k hk h1 h2);clear hb3 hse h1 h2 hb hbe;go_wp2_with fail;go_returns;exact⟨by rw [←hE.out];rfl,hbz.out⟩
   |true=>
    obtain⟨wo,rfl⟩: ∃ wo:World,wo=wr:=⟨_,rfl⟩
    have h0:Hid (∀ x,x<0→canAt L l pos t x=false):=fun x hx=>by omega
    have hb0:=hb;clear hfm hin hall y0 y1 y2 y3 y4;go_wp2_with fail;go_loopw [93] (fun iv wr=> ∃ i:Nat,i≤m∧iv= .int .i64 i∧Hid (∀ x,x<i→canAt L l pos t x=false)∧Hid (Below w2.heap.size w2 wr)) (fun iv _=>m-(intOf iv).toNat)
    case atStart=>exact⟨0,Nat.zero_le _,rfl,h0,hb0⟩
    case round=>
     clear h0 hb0 hb hbe p1;obtain⟨i,him,rfl,hi,hb⟩:=hrel;have hbe:=h_ hup hb.out;have p1:=c_ hb.out l1 p1H.out;by_cases him2:i<m
     ·have himI:(i:Int)<(m:Int):=by omega
      have hc:=H_ (hcan.out wr i hb.out him2);obtain⟨q,hq⟩: ∃ q,canAt L l pos t i=q:=⟨_,rfl⟩
      rw [hq] at hc;have hqH:=H_ hq;obtain⟨y0,y1,y2,y3,y4⟩:=d_5 hb.out l2 B2H.out;clear hq;go_wp2_with fail;refine hc.out.mono ?_;rintro e w3 ⟨rfl,hb3⟩;have hbz:=h_ hb hb3;have hbz2:=h_ hbe hb3;clear hb3 hc hb hbe y0 y1 y2 y3 y4 p1
      cases q with
      |true=>
       have hE:=H_ (hres.out i him hi.out (fun _=>hqH.out));go_wp2_with fail;go_returns;exact⟨by rw [←hE.out];rfl,hbz2.out⟩
      |false=>
       have hi':Hid (∀ x,x<i+1→canAt L l pos t x=false):=fun x hx=>by
        rcases Nat.lt_or_ge x i with h|h
        ·exact hi.out x h
        ·obtain rfl:x=i:=by omega
         exact hqH.out
       go_wp2_with fail;go_roundw
       case rel=>exact⟨i+1,by omega,by go_num,hi',hbz⟩
       case measure=>simp [intOf]<;>omega
     ·obtain rfl:m=i:=by omega
      have hE:=H_ (hres.out m (Nat.le_refl _) hi.out (fun h=>absurd h (Nat.lt_irrefl _)));go_wp2_with fail;go_returns;exact⟨by rw [←hE.out];rfl,hbe.out⟩
