/- Texts of one chain, merged. -/
import Derived.Test.YtechdefolfboeaaGreatDoorCc1
import Derived.Test.YtechdefolfboeaaGreatDoorCc5
import Derived.Test.YtechdefolfboeaaGreatDoorCc16
import Derived.Test.YtechdefolfboeaaGreatDoorCc23
import Derived.Test.YtechdefolfboeaaGreatDoorCc34
set_option linter.unusedVariables false
set_option linter.unusedSimpArgs false
set_option maxHeartbeats 4000000
namespace Go.Proofs.YtechdefolfboeaaGreatDoor
open Go.RowKit B
theorem drop_at' {α:Type} {l:List α} {i:Nat} {x:α} (h:l[i]?=some x):l.drop i=x::l.drop (i+1):=by
 obtain⟨hi,hx⟩:=List.getElem?_eq_some_iff.1 h
 rw [List.drop_eq_getElem_cons hi,hx]
set_option maxRecDepth 100000 in
theorem twice_any (Ls:List (List Str)) (l0 l1 l2 l3 l4 l5:List Str) (hLs:Ls=[l0,l1,l2,l3,l4,l5]) (A0 A1 A2 A3 A4 A5:Option Addr) (n0 n1 n2 n3 n4 n5 c0 c1 c2 c3 c4 c5:Nat) (we:World)
 (h0:Rd we 1 strE A0 n0 l0) (h1:Rd we 1 strE A1 n1 l1) (h2:Rd we 1 strE A2 n2 l2) (h3:Rd we 1 strE A3 n3 l3) (h4:Rd we 1 strE A4 n4 l4) (h5:Rd we 1 strE A5 n5 l5)
 (m0:n0≤100000) (m1:n1≤100000) (m2:n2≤100000) (m3:n3≤100000) (m4:n4≤100000) (m5:n5≤100000):
 Calls Tryz.prog 145 #[.agg #[.slice A0 n0 c0,.slice A1 n1 c1,.slice A2 n2 c2,.slice A3 n3 c3,.slice A4 n4 c4,.slice A5 n5 c5]] we (RetW we (uniqB Ls.flatten)):=by
 obtain⟨vs,hvs⟩: ∃ q,[Value.slice A0 n0 c0,.slice A1 n1 c1,.slice A2 n2 c2,.slice A3 n3 c3,.slice A4 n4 c4,.slice A5 n5 c5]=q:=⟨_,rfl⟩
 have hvsH:=Lib.hid hvs
 have hSl:Hid (∀ k,k<6→ ∃ A n c l,vs[k]?=some (.slice A n c)∧Ls[k]?=some l∧Rd we 1 strE A n l∧n≤100000):=fun k hk=>by
  subst hLs hvs
  match k,hk with
  |0,_=>exact⟨_,_,_,_,rfl,rfl,h0,m0⟩
  |1,_=>exact⟨_,_,_,_,rfl,rfl,h1,m1⟩
  |2,_=>exact⟨_,_,_,_,rfl,rfl,h2,m2⟩
  |3,_=>exact⟨_,_,_,_,rfl,rfl,h3,m3⟩
  |4,_=>exact⟨_,_,_,_,rfl,rfl,h4,m4⟩
  |5,_=>exact⟨_,_,_,_,rfl,rfl,h5,m5⟩
  |k+6,hk=>omega
 have hL6:Hid (Ls.length=6):=by subst hLs;rfl
 have hTot:Hid (Ls.flatten.length≤600000):=by
  subst hLs
  have:=h0.len;have:=h1.len;have:=h2.len;have:=h3.len;have:=h4.len;have:=h5.len
  show _≤_
  simp;omega
 clear h0 h1 h2 h3 h4 h5 hLs hvs
 have hb1:=below_alloc we #[.slice A0 n0 c0,.slice A1 n1 c1,.slice A2 n2 c2,.slice A3 n3 c3,.slice A4 n4 c4,.slice A5 n5 c5] 24
 have B1:=Bx.new we 24 [.slice A0 n0 c0,.slice A1 n1 c1,.slice A2 n2 c2,.slice A3 n3 c3,.slice A4 n4 c4,.slice A5 n5 c5]
 obtain⟨w1,hw1⟩: ∃ q,we.alloc (.cells #[.slice A0 n0 c0,.slice A1 n1 c1,.slice A2 n2 c2,.slice A3 n3 c3,.slice A4 n4 c4,.slice A5 n5 c5] 24)=q:=⟨_,rfl⟩
 change Bx (we.alloc (.cells #[.slice A0 n0 c0,.slice A1 n1 c1,.slice A2 n2 c2,.slice A3 n3 c3,.slice A4 n4 c4,.slice A5 n5 c5] 24)) _ _ _ at B1
 rw [hw1] at hb1 B1
 have hb2:=below_alloc w1 #[.int .i64 0,.int .i64 0,.int .i64 0] 81
 have B2:=Bx.new w1 81 [.int .i64 0,.int .i64 0,.int .i64 0]
 obtain⟨w2,hw2⟩: ∃ q,w1.alloc (.cells #[.int .i64 0,.int .i64 0,.int .i64 0] 81)=q:=⟨_,rfl⟩
 change Bx (w1.alloc (.cells #[.int .i64 0,.int .i64 0,.int .i64 0] 81)) _ _ _ at B2
 rw [hw2] at hb2 B2
 obtain⟨bn,hbn⟩: ∃ q,we.heap.size=q:=⟨_,rfl⟩
 obtain⟨bw,hq1⟩: ∃ q,bn+1=q:=⟨_,rfl⟩
 have hbwE:w1.heap.size=bw:=by rw [←hq1,←hbn,←hw1];simp
 rw [hbn] at B1
 rw [hbwE] at B2
 have B1':=B1.below hb2
 obtain⟨p0,p1,p2,p3,p4,p5⟩:=c_6 B1'
 have hbew:Hid (we.heap.size≤bw):=by have:=hb1.size;show _≤_;omega
 have hup:Hid (Below we.heap.size we w2):=u_ hb1 hb2
 have B2H:=Lib.hid B2
 clear B1 hb1 hb2 B1' B2
 go_enter Tryz.func145,Tryz.ntmps145
 go_wp2_with fail
 refine(lists_any A0 A1 A2 A3 A4 A5 n0 n1 n2 n3 n4 n5 c0 c1 c2 c3 c4 c5 w2).mono ?_;rintro e w3 ⟨g,rfl,hBg,hb3⟩
 rw [hvsH.out] at hBg
 have hBg:=Lib.hid hBg
 have hup3:Hid (Below we.heap.size we w3):=b_ hup hb3
 have B3:=Lib.hid (B2H.out.below hb3)
 rename_i x1
 clear x1 p0 p1 p2 p3 p4 p5 hw1 hw2 hbn hq1 hbwE hb3 hup B2H hvsH
 go_wp2_with fail
 go_loopw [5,3] (fun kv v wr=> ∃ (k:Nat) (l:List Str),k≤6∧kv= .int .i64 k∧Hid (wr.ownsRow w3.heap.size 9 1 v l.length (l.flatMap strE))∧Hid (l++(Ls.drop k).flatten =Ls.flatten)∧Hid (uniqB l=true)∧Hid (Below w3.heap.size w3 wr)) (fun kv _ _=>6-(intOf kv).toNat)
 case atStart=>exact⟨0,[],by omega,rfl,World.ownsRow_nil _ _ _ _,by show _=_;simp,rfl,Below.refl _ _⟩
 case round=>
  obtain⟨k,l,hk,rfl,own,hl,hu,hb⟩:=hrel
  by_cases hk6:k<6
  ·have hkI:(k:Int)<6:=by omega
   obtain⟨A,n,c,lk,hvk,hLk,hrk,hn⟩:=hSl.out k hk6
   have z0:=(hBg.out.below hb.out).cell k hvk
   have hlk:Hid (lk.length=n):=hrk.len
   have hrk3:=Lib.hid (hrk.below hup3.out)
   have hl':Hid (l++(lk.drop 0++(Ls.drop (k+1)).flatten)=Ls.flatten):=by
    have:=hl.out
    rw [drop_at' hLk,List.flatten_cons] at this
    exact this
   have hgl:=hBg.out.lt
   have hvkH:=Lib.hid hvk
   clear hl hvk hLk hrk
   go_wp2_with fail
   go_loopw [6,3] (fun iv v wx=> ∃ (i:Nat) (l:List Str),i≤n∧iv= .int .i64 i∧Hid (wx.ownsRow w3.heap.size 9 1 v l.length (l.flatMap strE))∧Hid (l++(lk.drop i++(Ls.drop (k+1)).flatten)=Ls.flatten)∧Hid (uniqB l=true)∧Hid (Below w3.heap.size w3 wx)) (fun iv _ _=>n-(intOf iv).toNat)
   case atStart=>exact⟨0,l,Nat.zero_le _,rfl,own,hl',hu,hb⟩
   case round=>
    clear own hl' hu hb z0
    obtain⟨i,l,hi,rfl,own,hl,hu,hb⟩:=hrel
    have z0:=(hBg.out.below hb.out).cell (v:= .slice A n c) k hvkH.out
    by_cases hin:i<n
    ·have hinI:(i:Int)<(n:Int):=by omega
     obtain⟨b,o,x,rfl,hb0,hx,g0⟩:=(hrk3.out.below hb.out).str hin
     obtain⟨As,cs,hv,hrs,_⟩:=Rd.of_own strE_len rfl own.out
     subst hv
     have hl2:Hid ((l++[x])++(lk.drop (i+1)++(Ls.drop (k+1)).flatten)=Ls.flatten):=by have:=hl.out;rw [drop_at' hx] at this;show _=_;rw [←this];simp
     have hlen:l.length+1≤600000:=by have h1:=congrArg List.length hl2.out;rw [List.length_append,List.length_append] at h1;simp only [List.length_singleton] at h1;have:=hTot.out;omega
     have hpl:=Lib.hid (fun U=>place_any As l.length cs l x U)
     have hrsH:=Lib.hid hrs
     obtain⟨L,hL⟩: ∃ L,l.length=L:=⟨_,rfl⟩
     rw [hL] at own hpl hrsH hrs hlen ⊢
     have hLH:=Lib.hid hL
     obtain⟨pi,hpi⟩: ∃ q,placeI l x=q:=⟨_,rfl⟩
     rw [hpi] at hpl
     have hpiH:=Lib.hid hpi
     clear hx hrs hL hpi hl
     go_wp2_with fail
     refine(hpl.out _ hrsH.out (by omega)).mono ?_;rintro e wz ⟨rfl,rfl⟩
     by_cases hp:0≤pi
     ·have hno:Hid (uniqB Ls.flatten=false):=by
       show _=_
       have h1:=placeI_nonneg.1 (by rw [hpiH.out];exact hp:0≤placeI l x)
       rw [←hl2.out]
       refine uniqB_pre _ _ ?_
       rw [uniqB_snoc,h1];simp
      go_wp2_with fail
      refine(wrong_any 6 ((k:Int)+1) (i:Int) wr).mono ?_;rintro e w9 ⟨rfl,hb9⟩
      have hBw:=(B3.out.below hb.out).below hb9
      obtain⟨hBF,hbF⟩:=hBw.row [.int .i64 6,.int .i64 ((k:Int)+1),.int .i64 (i:Int)]
      obtain⟨wF,hwF⟩: ∃ q,w9.setRow bw (List.toArray [.int .i64 6,.int .i64 ((k:Int)+1),.int .i64 (i:Int)])=q:=⟨_,rfl⟩
      rw [hwF] at hBF hbF
      have h39:=b_ hup3 (u_ hb.out hb9)
      have hfin:Hid (Below we.heap.size we wF):=h39.trans (hbF.below h39.size (fun x hx=>by simp only [List.mem_singleton] at hx;subst hx;exact hbew.out))
      have hBF:=Lib.hid hBF
      rename_i q1
      clear q1 hbF h39 own hl2 hpl hrsH hb9 hu
      go_wp2_with (with_reducible refine wpList_store_bx (.tmp 2) (.tmp 37) 81 (by with_reducible rfl) ?x1 ?x2 ?x3 hBw ?x4 ?x5 ?x6 hwF ?_)
      case x1=>rfl
      case x2=>rfl
      case x3=>rfl
      case x4=>kernel_rfl
      case x5=>rfl
      case x6=>rfl
      refine bodyPost_bx (s:=2) (t:=81) rfl rfl hBF.out (by kernel_rfl) (by kernel_rfl) rfl ?_
      exact⟨_,_,_,rfl,by simp [hno.out],hfin.out⟩
     ·have hu2:Hid (uniqB (l++[x])=true):=by
       show _=_
       rw [uniqB_snoc,hu.out]
       cases h1:(l.any fun y=>sq y x) with
       |false=>rfl
       |true=>exact absurd (by rw [←hpiH.out];exact placeI_nonneg.2 h1) hp
      have own0:wr.ownsRow w3.heap.size 9 1 (.slice As L cs) l.length (l.flatMap strE):=by rw [hLH.out];exact own.out
      obtain⟨v9,w9,hrun,own9,hb9⟩:=own_lits (enc:=strE) Tryz.underlying22 info_tStr rfl (by decide) strE_len strE_one [x] own0 (by rw [hLH.out];simp;omega) (by decide) hb.out.size
      have hrun:(Builtin.append_ #[22,22] 22 #[.slice As L cs,.slice (some ⟨wr.heap.size,0,none⟩) 1 1]).run Tryz.prog (wr.alloc (.cells #[.string x] 9))= .ok v9 w9:=hrun
      have hb9:=Lib.hid (hb.out.trans hb9)
      have own9:=Lib.hid own9
      rename_i q1 q2 q3
      clear q1 q2 q3 own0 own hu hb hpl hrsH
      go_wp2_with (at_builtin;refine wpList_append_run ?y1 (.tmp 38) (.tmp 46) 22 ?y2 ?y3 ?y4 hrun ?_)
      case y1=>rfl
      case y2=>rfl
      try(case y3=>rfl)
      try(case y4=>rfl)
      go_roundw
      case rel=>exact⟨i+1,l++[x],by omega,by go_num,own9,hl2,hu2,hb9⟩
      case measure=>simp [intOf];omega
    ·obtain rfl:i=n:=by omega
     have hl2:Hid (l++(Ls.drop (k+1)).flatten =Ls.flatten):=by have:=hl.out;rw [List.drop_eq_nil_of_le (by rw [hlk.out];omega),List.nil_append] at this;exact this
     clear hl hi hin
     go_wp2_with fail
     go_roundw
     case rel=>exact⟨k+1,l,by omega,by go_num,own,hl2,hu,hb⟩
     case measure=>simp [intOf];omega
  ·obtain rfl:k=6:=by omega
   have hall:Hid (uniqB Ls.flatten=true):=by
    have h1:=hl.out
    rw [List.drop_eq_nil_of_le (by rw [hL6.out];omega),List.flatten_nil,List.append_nil] at h1
    show _=_
    rw [←h1];exact hu.out
   have hBw:=B3.out.below hb.out
   obtain⟨hBF,hbF⟩:=hBw.row [.int .i64 0,.int .i64 0,.int .i64 0]
   obtain⟨wF,hwF⟩: ∃ q,wr.setRow bw (List.toArray [.int .i64 0,.int .i64 0,.int .i64 0])=q:=⟨_,rfl⟩
   rw [hwF] at hBF hbF
   have h39:=b_ hup3 hb.out
   have hfin:Hid (Below we.heap.size we wF):=h39.trans (hbF.below h39.size (fun x hx=>by simp only [List.mem_singleton] at hx;subst hx;exact hbew.out))
   have hBF:=Lib.hid hBF
   rename_i q1
   clear q1 hbF h39 own hl hu hb
   go_wp2_with (with_reducible refine wpList_store_bx (.tmp 2) (.tmp 48) 81 (by with_reducible rfl) ?u1 ?u2 ?u3 hBw ?u4 ?u5 ?u6 hwF ?_)
   case u1=>rfl
   case u2=>rfl
   case u3=>rfl
   case u4=>kernel_rfl
   case u5=>rfl
   case u6=>rfl
   refine bodyPost_bx (s:=2) (t:=81) rfl rfl hBF.out (by kernel_rfl) (by kernel_rfl) rfl ?_
   exact⟨_,_,_,rfl,by simp [hall.out],hfin.out⟩
end Go.Proofs.YtechdefolfboeaaGreatDoor
