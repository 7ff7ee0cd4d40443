/- Merged. -/
import Derived.Test.YtechdefolfboeaaGreatDoorPo42
import Derived.Test.YtechdefolfboeaaGreatDoorPo46
set_option linter.unusedVariables false
set_option linter.unusedSimpArgs false
set_option maxHeartbeats 4000000
namespace Go.Proofs.YtechdefolfboeaaGreatDoor
open Go.RowKit B
theorem letter_any (c:Int) (w:World):Calls Tryz.prog 250 #[.int .u8 c] w fun e w'=>e= .returned (.bool (letB c))∧w=w':=by
 unfold letB;by_cases h1:97≤c
 ·have e1:decide (97≤c)=true:=T_ h1;rw [e1];go_enter Tryz.func250,Tryz.ntmps250
  go_wp2
  go_returns;exact⟨by simp,rfl⟩
 ·have e1:decide (97≤c)=false:=F_ h1;rw [e1];go_enter Tryz.func250,Tryz.ntmps250
  go_wp2
  go_returns;exact⟨by simp,rfl⟩
theorem digit_any (c:Int) (w:World):Calls Tryz.prog 261 #[.int .u8 c] w fun e w'=>e= .returned (.bool (digB c))∧w=w':=by
 unfold digB;by_cases h1:48≤c
 ·have e1:decide (48≤c)=true:=T_ h1;rw [e1];go_enter Tryz.func261,Tryz.ntmps261
  go_wp2
  go_returns;exact⟨by simp,rfl⟩
 ·have e1:decide (48≤c)=false:=F_ h1;rw [e1];go_enter Tryz.func261,Tryz.ntmps261
  go_wp2
  go_returns;exact⟨by simp,rfl⟩
theorem more_any (c:Int) (w:World):Calls Tryz.prog 251 #[.int .u8 c] w fun e w'=>e= .returned (.bool (moreB c))∧w=w':=by
 have hL:=H_ (letter_any c);have hD:=H_ (digit_any c);unfold moreB;obtain⟨l,hl⟩: ∃ q,letB c=q:=⟨_,rfl⟩
 obtain⟨d,hd⟩: ∃ q,digB c=q:=⟨_,rfl⟩
 rw [hl] at hL ⊢;rw [hd] at hD ⊢;clear hl hd
 cases l with
 |true=>
  go_enter Tryz.func251,Tryz.ntmps251;go_wp2_with fail;refine(hL.out _).mono ?_;rintro e w' ⟨rfl,rfl⟩;go_wp2_with fail;go_returns;exact⟨rfl,rfl⟩
 |false=>
  cases d with
  |true=>
   go_enter Tryz.func251,Tryz.ntmps251;go_wp2_with fail;refine(hL.out _).mono ?_;rintro e w' ⟨rfl,rfl⟩;go_wp2_with fail;refine(hD.out _).mono ?_;rintro e w' ⟨rfl,rfl⟩;go_wp2_with fail;go_returns;exact⟨rfl,rfl⟩
  |false=>
   by_cases h1:c=45
   ·have e1:(c==45)=true:=by simp [h1]
    have e2:=T_ h1;rw [e2];clear h1 e2;go_enter Tryz.func251,Tryz.ntmps251;go_wp2_with fail;refine(hL.out _).mono ?_;rintro e w' ⟨rfl,rfl⟩;go_wp2_with fail;refine(hD.out _).mono ?_;rintro e w' ⟨rfl,rfl⟩;go_wp2_with fail;go_returns;exact⟨rfl,rfl⟩
   ·have e1:(c==45)=false:=by simp [h1]
    rw [F_ h1];by_cases h2:c=95
    ·have e3:(c==95)=true:=by simp [h2]
     rw [T_ h2];clear h1 h2;go_enter Tryz.func251,Tryz.ntmps251;go_wp2_with fail;refine(hL.out _).mono ?_;rintro e w' ⟨rfl,rfl⟩;go_wp2_with fail;refine(hD.out _).mono ?_;rintro e w' ⟨rfl,rfl⟩;go_wp2_with fail;go_returns;exact⟨rfl,rfl⟩
    ·have e3:(c==95)=false:=by simp [h2]
     rw [F_ h2];clear h1 h2;go_enter Tryz.func251,Tryz.ntmps251;go_wp2_with fail;refine(hL.out _).mono ?_;rintro e w' ⟨rfl,rfl⟩;go_wp2_with fail;refine(hD.out _).mono ?_;rintro e w' ⟨rfl,rfl⟩;go_wp2_with fail;go_returns;exact⟨rfl,rfl⟩
theorem word_any (s:Str) (w:World):Calls Tryz.prog 242 #[.string s] w fun e w'=>e= .returned (.bool (wordB s))∧w=w':=by
 by_cases h0:s.size=0
 ·have e0:((s.size:Int)==0)=true:=by simp [h0]
  have hw:Hid (wordB s=false):=by show _=_;unfold wordB;simp [h0]
  rw [hw.out];clear h0;go_enter Tryz.func242,Tryz.ntmps242;go_wp2_with fail;go_returns;exact⟨rfl,rfl⟩
 have e0:((s.size:Int)==0)=false:=by simp [h0]
 by_cases h24:24<s.size
 ·have e1:decide ((24:Int)<(s.size:Int))=true:=T_ (by omega);have e1':decide (24<s.size)=true:=T_ h24;have hw:Hid (wordB s=false):=by show _=_;unfold wordB;rw [F_ (show ¬ s.size≤24 by omega)];simp
  rw [hw.out];go_enter Tryz.func242,Tryz.ntmps242;go_wp2_with fail;go_returns;exact⟨rfl,rfl⟩
 have e1:decide ((24:Int)<(s.size:Int))=false:=F_ (by omega);have e1':decide (24<s.size)=false:=F_ h24;have hpos:0<s.size:=by omega
 have hgo:=H_ (wordB_go h0 (by omega));rw [hgo.out];obtain⟨a,ha⟩: ∃ q,letB ((s[0]'hpos).toNat :Int)=q:=⟨_,rfl⟩
 rw [ha];have haH:=H_ ha;clear h0 ha hgo
 cases a with
 |false=>
  go_enter Tryz.func242,Tryz.ntmps242;go_wp2_with fail;refine(letter_any _ _).mono ?_;rintro e w' ⟨rfl,rfl⟩;rw [haH.out];go_wp2_with fail;go_returns;exact⟨by simp,rfl⟩
 |true=>
  rw [Bool.true_and];go_enter Tryz.func242,Tryz.ntmps242;go_wp2_with fail;refine(letter_any _ _).mono ?_;rintro e w' ⟨rfl,rfl⟩;rw [haH.out];go_wp2_with fail;go_loopw [3] (fun i wr=> ∃ (k:Nat),k≤s.size∧i= .int .i64 k∧Hid (∀ b∈s.data.toList.take k,moreB (b.toNat:Int)=true)∧w=wr) (fun i _=>s.size-(intOf i).toNat)
  case atStart=>exact⟨0,Nat.zero_le _,rfl,fun b hb=>by simp at hb,rfl⟩
  case round=>
   obtain⟨k,hk,rfl,hall,rfl⟩:=hrel;by_cases hks:k<s.size
   ·have hkI:(k:Int)<(s.size:Int):=by omega
    obtain⟨a,ha⟩: ∃ q,moreB ((s[k]'hks).toNat :Int)=q:=⟨_,rfl⟩
    have hat:=str_at s k hks;have haH2:=H_ ha
    cases a with
    |false=>
     have hno:Hid ((s.data.toList.all fun b=>moreB (b.toNat:Int))=false):=by
      show _=_;rw [Bool.eq_false_iff];intro h;have:=List.all_eq_true.1 h _ (List.mem_of_getElem? hat);rw [ha] at this;cases this
     clear hat ha;go_wp2_with fail;refine(more_any _ _).mono ?_;rintro e w' ⟨rfl,rfl⟩;rw [haH2.out];go_wp2_with fail;go_returns;exact⟨ret_bool hno.out.symm,rfl⟩
    |true=>
     have hnx:Hid (∀ b∈s.data.toList.take (k+1),moreB (b.toNat:Int)=true):=fun b hb=>by
      rw [take_at hat,List.mem_append] at hb;rcases hb with hb|hb
      ·exact hall.out b hb
      ·simp only [List.mem_singleton] at hb;subst hb;exact ha
     clear hat ha;go_wp2_with fail;refine(more_any _ _).mono ?_;rintro e w' ⟨rfl,rfl⟩;rw [haH2.out];go_wp2_with fail;go_roundw
     case rel=>exact⟨k+1,by omega,by go_num,hnx,by first|rfl|trivial⟩
     case measure=>simp [intOf];omega
   ·have hyes:Hid ((s.data.toList.all fun b=>moreB (b.toNat:Int))=true):=by
     show _=_;refine List.all_eq_true.2 fun b hb=>hall.out b ?_
     rwa [List.take_of_length_le (by simp;omega)]
    go_wp2_with fail;go_returns;exact⟨ret_bool hyes.out.symm,rfl⟩
set_option maxRecDepth 100000 in
theorem reserved_any (s:Str) (w:World):Calls Tryz.prog 243 #[.string s] w fun e w'=>e= .returned (.bool (resB s))∧Below w.heap.size w w':=by
 have hb1:Below w.heap.size w (w.alloc (.cells (resv.flatMap strE).toArray 9)):=(Below.refl _ w).alloc (Nat.le_refl _) _;have hR0:=Rd.lit w 1 strE strE_len 9 resv;obtain⟨w1,hw1⟩: ∃ q,w.alloc (.cells (resv.flatMap strE).toArray 9)=q:=⟨_,rfl⟩
 rw [hw1] at hb1 hR0;have hw1':w.alloc (.cells #[.string ⟨#[104,111,114,105,122,111,110]⟩,.string ⟨#[115,116,111,112]⟩,.string ⟨#[112,97,116,104]⟩,.string ⟨#[100,111,111,114]⟩,.string ⟨#[114,111,117,116,101]⟩,.string ⟨#[116,114,105,112]⟩,.string ⟨#[104,97,122,97,114,100]⟩,.string ⟨#[102,114,111,109]⟩,.string ⟨#[101,118,101,114,121]⟩,.string ⟨#[111,112,101,110]⟩,.string ⟨#[99,108,111,115,101,100]⟩,.string ⟨#[111,102]⟩,.string ⟨#[111,110]⟩,.string ⟨#[117,110,116,105,108]⟩,.string ⟨#[115,116,97,121]⟩] 9)=w1:=hw1;have hRH:=H_ hR0;have hbH:=H_ hb1;have hl:resv.length=15:=rfl;obtain⟨L,hL⟩: ∃ L,resv=L:=⟨_,rfl⟩
 have hLr:Hid (resB s=L.any fun x=>sq x s):=by show _=_;rw [←hL];rfl
 rw [hLr.out];rw [hL] at hRH hl;have hlH:=H_ hl;clear hb1 hR0 hw1 hL hl;go_enter Tryz.func243,Tryz.ntmps243;go_wp2_with fail;clear hw1';go_loopw [4] (fun i wr=> ∃ (k:Nat),k≤15∧i= .int .i64 k∧Hid (∀ x∈L.take k,sq x s=false)∧w1=wr) (fun i _=>15-(intOf i).toNat)
 case atStart=>exact⟨0,Nat.zero_le _,rfl,fun b hb=>by simp at hb,rfl⟩
 case round=>
  obtain⟨k,hk,rfl,hall,rfl⟩:=hrel;by_cases hks:k<15
  ·have hkI:(k:Int)<15:=by omega
   obtain⟨b,o,x,eA,hb,hx,f0⟩:=hRH.out.str (k:=k) (by rw [hlH.out];exact hks);cases eA;rw [Nat.zero_add] at f0
   cases hxs:sq x s with
   |true=>
    have hyes:Hid ((L.any fun x=>sq x s)=true):=List.any_eq_true.2 ⟨x,List.mem_of_getElem? hx,hxs⟩;have e3:(x.toList==s.toList)=true:=hxs;clear hx hxs;go_wp2_with fail;go_returns;exact⟨ret_bool hyes.out.symm,hbH.out⟩
   |false=>
    have hnx:Hid (∀ y∈L.take (k+1),sq y s=false):=fun y hy=>by
     rw [take_at hx,List.mem_append] at hy;rcases hy with hy|hy
     ·exact hall.out y hy
     ·simp only [List.mem_singleton] at hy;subst hy;exact hxs
    have e3:(x.toList==s.toList)=false:=hxs;clear hx hxs;go_wp2_with fail;go_roundw
    case rel=>exact⟨k+1,by omega,by go_num,hnx,by first|rfl|trivial⟩
    case measure=>simp [intOf];omega
  ·have hno:Hid ((L.any fun x=>sq x s)=false):=by
    show _=_;rw [Bool.eq_false_iff];intro h;obtain⟨x,hx,hxs⟩:=List.any_eq_true.1 h;have:=hall.out x (by rwa [List.take_of_length_le (by rw [hlH.out];omega)]);rw [this] at hxs;cases hxs
   go_wp2_with fail;go_returns;exact⟨ret_bool hno.out.symm,hbH.out⟩
theorem name_any (s:Str) (w:World):Calls Tryz.prog 213 #[.string s] w fun e w'=>e= .returned (.bool (nameB s))∧Below w.heap.size w w':=by
 have hR:=H_ (reserved_any s);have hW:=H_ (word_any s);unfold nameB;obtain⟨a,ha⟩: ∃ q,wordB s=q:=⟨_,rfl⟩
 obtain⟨b,hb⟩: ∃ q,resB s=q:=⟨_,rfl⟩
 rw [ha] at hW ⊢;rw [hb] at hR ⊢;clear ha hb
 cases a with
 |false=>
  go_enter Tryz.func213,Tryz.ntmps213;go_wp2_with fail;refine(hW.out _).mono ?_;rintro e w' ⟨rfl,rfl⟩;go_wp2_with fail;go_returns;exact⟨rfl,Below.refl _ _⟩
 |true=>
  go_enter Tryz.func213,Tryz.ntmps213;go_wp2_with fail;refine(hW.out _).mono ?_;rintro e w' ⟨rfl,rfl⟩;go_wp2_with fail;refine(hR.out _).mono ?_;rintro e w' ⟨rfl,hb⟩;have hbH:=H_ hb;clear hb;go_wp2_with fail;go_returns;exact⟨by cases b<;>rfl,hbH.out⟩
set_option maxRecDepth 100000 in
theorem check5_any (X:SheetP) (V:SV) (we:World) (hr:RS we X V) (hf:FewS X):Calls Tryz.prog 143 #[sVal X V] we (RetE we (sheetB nameB X)):=by
 obtain⟨a0,aP,aD,aR,aT,aH,n0,nP,nD,nR,nT,nH,c0,cP,cD,cR,cT,cH⟩:=V;have lP:X.paths.length=nP:=hr.rP.len;have lD:X.doors.length=nD:=hr.rD.len;have lR:X.routes.length=nR:=hr.rR.len;have lT:X.trips.length=nT:=hr.rT.len;have lH:X.hazs.length=nH:=hr.rH.len;have l0:X.stops.length=n0:=hr.r0.len;have hlens:Hid (lensS X=(decide (n0≤256)&&(decide (nP≤1024)&&(decide (nD≤256)&&(decide (nR≤256)&&(decide (nT≤1024)&&decide (nH≤256))))))):=by show _=_;unfold lensS;rw [l0,lP,lD,lR,lT,lH]
 have LR:=H_ lR;have hfs:=H_ hf.sr;have hfl:=H_ hf;simp only [sVal];have hb1:=below_alloc we #[.int .i64 X.hz,.slice a0 n0 c0,.slice aP nP cP,.slice aD nD cD,.slice aR nR cR,.slice aT nT cT,.slice aH nH cH] 136;have B1:=Bx.new we 136 [.int .i64 X.hz,.slice a0 n0 c0,.slice aP nP cP,.slice aD nD cD,.slice aR nR cR,.slice aT nT cT,.slice aH nH cH];obtain⟨w1,hw1⟩: ∃ q,we.alloc (.cells #[.int .i64 X.hz,.slice a0 n0 c0,.slice aP nP cP,.slice aD nD cD,.slice aR nR cR,.slice aT nT cT,.slice aH nH cH] 136)=q:=⟨_,rfl⟩
 rw [hw1] at hb1;change Bx (we.alloc (.cells #[.int .i64 X.hz,.slice a0 n0 c0,.slice aP nP cP,.slice aD nD cD,.slice aR nR cR,.slice aT nT cT,.slice aH nH cH] 136)) _ _ _ at B1;rw [hw1] at B1;obtain⟨bn,hbn⟩: ∃ q,we.heap.size=q:=⟨_,rfl⟩
 rw [hbn] at B1;have hup:Hid (∀ U,Below w1.heap.size w1 U→Below we.heap.size we U):=fun U hU=>u_ hb1 hU;have hR:=H_ (hr.below hb1);obtain⟨p0,p1,p2,p3,p4,p5,p6⟩:=c_7 B1;have B1:=H_ B1;have hb1H:=H_ hb1;rename_i b1X;clear b1X hr hf hb1 l0 lP lD lR lT lH;go_enter Tryz.func143,Tryz.ntmps143;by_cases k0:n0≤256
 ·by_cases k1:nP≤1024
  ·by_cases k2:nD≤256
   ·by_cases k3:nR≤256
    ·by_cases k4:nT≤1024
     ·by_cases k5:nH≤256
      ·have hlenT:Hid (lensS X=true):=by show _=_;rw [hlens.out];simp [k0,k1,k2,k3,k4,k5]
       go_wp2_with fail;refine(names_any X ⟨a0,aP,aD,aR,aT,aH,n0,nP,nD,nR,nT,nH,c0,cP,cD,cR,cT,cH⟩ w1 hR.out hfl.out).mono ?_;rintro e w2 ⟨A,n,c,rfl,hra,hc1,hc2,hb2⟩;clear p0 p1 p2 p3 p4 p5 p6 hw1;have hla:=hra.len;have hra:=H_ hra;have hb2:=H_ hb2;have hla:=H_ hla;rename_i x1 x2 x3;clear x1 x2 x3 hlens;go_wp2_with fail;go_loopw [4] (fun iv wr=> ∃ i:Nat,i≤n∧iv= .int .i64 i∧Hid (((namesL X).take i).all nameB=true)∧Hid (Below w2.heap.size w2 wr)) (fun iv _=>n-(intOf iv).toNat)
       case atStart=>exact⟨0,Nat.zero_le _,rfl,rfl,Below.refl _ _⟩
       case round=>
        obtain⟨i,hi,rfl,hall,hb⟩:=hrel;have hbu:Hid (Below w1.heap.size w1 wr):=b_ hb2 hb.out;by_cases hin:i<n
        ·have hinI:(i:Int)<(n:Int):=by omega
         obtain⟨b,o,s,rfl,hb0,hs,g0⟩:=(hra.out.below hb.out).str hin;go_wp2_with fail;refine(name_any s _).mono ?_;rintro e w3 ⟨rfl,hb3⟩;have hbu3:Hid (Below w1.heap.size w1 w3):=b_ hbu hb3;have hb3:=h_ hb hb3;rename_i x1;clear x1
         cases hns:nameB s with
         |true=>
          have hnx:=H_ (all_snoc hall.out hs hns);clear hs hns;go_wp2_with fail;go_roundw
          case rel=>exact⟨i+1,by omega,by go_num,hnx,hb3⟩
          case measure=>simp [intOf];omega
         |false=>
          have hno:=H_ (all_not hs hns);clear hs hns;go_wp2_with fail;go_returns;exact RetE.no (by decide) (sheetB_nam hno.out) (hup.out _ hbu3.out)
        ·obtain rfl:i=n:=by omega
         have hN:=H_ (all_done hall.out hla.out);clear hall hb hra hla hi hin hb2;obtain⟨p0,p1,p2,p3,p4,p5,p6⟩:=c_7 (B1.out.below hbu.out);go_wp2_with fail;refine(nums_any X ⟨a0,aP,aD,aR,aT,aH,n0,nP,nD,nR,nT,nH,c0,cP,cD,cR,cT,cH⟩ wr (hR.out.below hbu.out) hfl.out).mono ?_;rintro e w4 ⟨A',n',c',rfl,hra,hc1',hc2',hb4⟩;clear p0 p1 p2 p3 p4 p5 p6;have hla:=hra.len;have hra:=H_ hra;have hbu4:Hid (Below w1.heap.size w1 w4):=b_ hbu hb4;have hla:=H_ hla;rename_i x1 x2;clear x1 x2 hb4;go_wp2_with fail;go_loopw [6] (fun iv wr=> ∃ i:Nat,i≤n'∧iv= .int .i64 i∧Hid (((numsL X).take i).all (fun x=>decide (W.chk x=0))=true)∧Hid (Below w4.heap.size w4 wr)) (fun iv _=>n'-(intOf iv).toNat)
         case atStart=>exact⟨0,Nat.zero_le _,rfl,rfl,Below.refl _ _⟩
         case round=>
          clear hbu;obtain⟨i,hi,rfl,hall,hb⟩:=hrel;have hbu:Hid (Below w1.heap.size w1 wr):=b_ hbu4 hb.out;by_cases hin:i<n'
          ·have hinI:(i:Int)<(n':Int):=by omega
           obtain⟨b,o,x,rfl,hb0,hs,g0⟩:=(hra.out.below hb.out).num hin;go_wp2_with fail;refine(rchkW_any x _).mono ?_;rintro e w5 ⟨rfl,rfl⟩;by_cases hx:W.chk x=0
           ·have hnx:=H_ (all_snoc (f:=fun x=>decide (W.chk x=0)) hall.out hs (T_ hx));clear hs;go_wp2_with fail;go_roundw
            case rel=>exact⟨i+1,by omega,by go_num,hnx,hb⟩
            case measure=>simp [intOf];omega
           ·have hno:=H_ (all_not (f:=fun x=>decide (W.chk x=0)) hs (F_ hx));have hne:(W.chk x !=0)=true:=by simp [hx]
            clear hs;go_wp2_with fail;go_returns;exact RetE.no (by decide) (sheetB_num hno.out) (hup.out _ hbu.out)
          ·obtain rfl:i=n':=by omega
           have hM:=H_ (all_done hall.out hla.out);clear hall hb hra hla hi hin;obtain⟨w6,hw6⟩: ∃ q,q=wr:=⟨_,rfl⟩
           subst hw6;go_wp2_with fail;go_loopw [7] (fun iv wr=> ∃ i:Nat,i≤nR∧iv= .int .i64 i∧Hid ((X.routes.take i).all shapeB=true)∧Hid (Below w1.heap.size w1 wr)) (fun iv _=>nR-(intOf iv).toNat)
           case atStart=>exact⟨0,Nat.zero_le _,rfl,rfl,hbu⟩
           case round=>
            clear hbu;obtain⟨i,hi,rfl,hall,hb⟩:=hrel;have y0:=(B1.out.below hb.out).cell 4 rfl;by_cases hin:i<nR
            ·have hinI:(i:Int)<(nR:Int):=by omega
             obtain⟨b,o,r,rfl,hbs,hx,f0,⟨s1,m1,d1,f1,rs1,e11,e12⟩,⟨s2,m2,d2,f2,rs2,e21,e22⟩,⟨s3,m3,d3,f3,rs3,e31,e32⟩⟩:=(hR.out.below hb.out).rR.get hin;obtain⟨q1,q2,q3⟩:=hfs.out r (List.mem_of_getElem? hx);have hsh:shapeB r=(decide (2≤m1)&&(decide (m1≤32)&&(decide (m2+1=m1)&&decide (m3+2=m1)))):=by unfold shapeB;rw [rs1.len,rs2.len,rs3.len]
             have hm1:m1≤100000:=by have:=rs1.len;omega
             have hm2:m2≤100000:=by have:=rs2.len;omega
             have hm3:m3≤100000:=by have:=rs3.len;omega
             have hshH:=H_ hsh;have hxH:=H_ hx;have hbz:Hid (Below w1.heap.size w1 (wr.alloc (.cells #[.string r.name,.slice s1 m1 d1,.slice s2 m2 d2,.slice s3 m3 d3] 177))):=b_ hb (below_alloc wr _ _);clear rs1 rs2 rs3 hsh hx q1 q2 q3;by_cases j0:2≤m1
             ·by_cases j1:m1≤32
              ·by_cases j2:m2+1=m1
               ·have g2:(m2:Int)=(m1:Int)-1:=by omega
                by_cases j3:m3+2=m1
                ·have g3:(m3:Int)=(m1:Int)-2:=by omega
                 have hnx:=H_ (all_snoc hall.out hxH.out (by rw [hshH.out];simp;omega));go_wp2_with fail;go_roundw
                 case rel=>exact⟨i+1,by omega,by go_num,hnx,hbz⟩
                 case measure=>simp [intOf];omega
                ·have g3:((m3:Int) !=(m1:Int)-2)=true:=by simp;omega
                 go_wp2_with fail;go_returns;exact RetE.no (by decide) (sheetB_shp (all_not hxH.out (by rw [hshH.out];simp;omega))) (hup.out _ hbz.out)
               ·have g2:((m2:Int) !=(m1:Int)-1)=true:=by simp;omega
                go_wp2_with fail;go_returns;exact RetE.no (by decide) (sheetB_shp (all_not hxH.out (by rw [hshH.out];simp;omega))) (hup.out _ hbz.out)
              ·have g1:32<m1:=by omega
               go_wp2_with fail;go_returns;exact RetE.no (by decide) (sheetB_shp (all_not hxH.out (by rw [hshH.out];simp;omega))) (hup.out _ hbz.out)
             ·have g0:m1<2:=by omega
              go_wp2_with fail;go_returns;exact RetE.no (by decide) (sheetB_shp (all_not hxH.out (by rw [hshH.out];simp;omega))) (hup.out _ hbz.out)
            ·obtain rfl:i=nR:=by omega
             have hZ:=H_ (all_done hall.out LR.out);clear hall hi hin;go_wp2_with fail;go_returns;exact RetE.yes (by unfold sheetB;rw [hlenT.out,hN.out,hM.out,hZ.out];rfl) (hup.out _ hb.out)
      ·have k5':256<nH:=by omega
       go_wp2_with fail;go_returns;exact RetE.no (by decide) (sheetB_len (by rw [hlens.out];simp;omega)) hb1H.out
     ·have k4':1024<nT:=by omega
      go_wp2_with fail;go_returns;exact RetE.no (by decide) (sheetB_len (by rw [hlens.out];simp;omega)) hb1H.out
    ·have k3':256<nR:=by omega
     go_wp2_with fail;go_returns;exact RetE.no (by decide) (sheetB_len (by rw [hlens.out];simp;omega)) hb1H.out
   ·have k2':256<nD:=by omega
    go_wp2_with fail;go_returns;exact RetE.no (by decide) (sheetB_len (by rw [hlens.out];simp;omega)) hb1H.out
  ·have k1':1024<nP:=by omega
   go_wp2_with fail;go_returns;exact RetE.no (by decide) (sheetB_len (by rw [hlens.out];simp;omega)) hb1H.out
 ·have k0':256<n0:=by omega
  go_wp2_with fail;go_returns;exact RetE.no (by decide) (sheetB_len (by rw [hlens.out];simp;omega)) hb1H.out
