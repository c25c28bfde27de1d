/- Part of the proof of TspBack. No condition: lemmas alone. -/
import Derived.Test.YtgmppconibklcaaGreatDoorM42
set_option linter.unusedVariables false
set_option linter.unusedSimpArgs false
set_option maxRecDepth 100000
namespace Go.Proofs.YtgmppconibklcaaGreatDoor
open Go Go.RowKit
namespace Am
variable {gl:Nat→Option (List D)}
theorem z8Y {k:Nd} {a:Nat} (hf:Fine k) (h:Dr.z1D k=some a):(Nt.lim a).length≤100000:=by
 unfold Dr.z1D at h;split at h
 ·injection h with h;subst h;have h1:=Nt.zdf k.bytes;have h2:256^k.bytes.length≤Nt.B^k.bytes.length:=Nat.pow_le_pow_left (by decide) _;have h3:=Nt.zcP (Nat.lt_of_lt_of_le h1 h2);have h4:=Dr.z2d k;have h5:=hf.mx;omega
 ·cases h
theorem zaC {l:List Nd} (hf:∀ k∈l,Fine k):(Nt.lim (Rq.z0i l).2.1).length≤100000:=by
 have h0:(Nt.lim 0).length≤100000:=by rw [Nt.z2e];simp
 cases l with
 | nil=>exact h0
 | cons k t=>
  simp only [Rq.z0i];split
  ·split
   ·rename_i a ha;exact z8Y (hf k (by simp)) ha
   ·exact h0
  ·exact h0
theorem InR.fin {n:Nd} {q:Rq.Info} {x:E} {e rr:Bool} (h:Rq.z0P n=if (e&&rr)=true then some q else none) (hx:X10 x) (hq:(e&&rr)=true→x=infX q (Nt.lim q.serial) (Nt.lim q.nonce)):InR n (.tup [x,bX (e&&rr)]) [] []:=by
 cases hb:(e&&rr) with
 | true=>
  rw [hb] at h hq;exact ⟨⟨x,by rw [h];rfl,hx,fun q' h'=>by rw [h] at h';injection h' with h';subst h';exact hq rfl⟩,rfl,rfl⟩
 | false=>
  rw [hb] at h;exact InR.no hx h
set_option maxHeartbeats 40000000 in
theorem zjA {nc nt:Int} {nk:Bool} {nb:List UInt8} {k0 k1 k2 k3 k4:Nd} {L:List Nd} (cS:OK gl 91 [nX (Nd.mk nc nt nk nb (k0::k1::k2::k3::k4::L)),iX 5,iX 7] (.b true)) (c0:OK gl 92 [nX k0] (.b true)) (im s3 b3 b4:Bool) (p ia ib:List UInt8) (l3:List Nat) (tt u e:Int)
  (c1:OK gl 94 [nX k1] (.tup [sX ⟨p.toArray⟩,bX false])) (c2:OK gl 93 [nX k2] (.tup [sX ⟨ia.toArray⟩,rX (z05 ib),bX im])) (c3:OK gl 126 [nX k3] (.tup [rX (nuR .u32 l3),bX s3]))
  (c4:OK gl 127 [sX ⟨k4.bytes.toArray⟩] (.tup [iX tt,iX u,iX e])) (c5:OK gl 97 [nX k3,iX 2] (.b b3)) (c6:OK gl 97 [nX k4,iX 24] (.b b4))
   (hI:Rq.z0P (Nd.mk nc nt nk nb (k0::k1::k2::k3::k4::L))=none):z1Y Tryz.prog gl Tabs 69 [nX (Nd.mk nc nt nk nb (k0::k1::k2::k3::k4::L))] [] (InR (Nd.mk nc nt nk nb (k0::k1::k2::k3::k4::L))):=by
 generalize hR:InR (Nd.mk nc nt nk nb (k0::k1::k2::k3::k4::L))=R;have hno:∀ c0 c1 c2 c3 c4 c5 c6 c7 c8 c9:C,(E.agg [c0,c1,c2,c3,c4,c5,c6,c7,c8,c9]).isD=true→R (.tup [.agg [c0,c1,c2,c3,c4,c5,c6,c7,c8,c9],bX false]) [] []:=fun _ _ _ _ _ _ _ _ _ _ h=>by rw [←hR];exact InR.no (X10.mk h) hI
 clear hI hR;refine z4J false Tryz.func69 rfl (by show 1≤_;decide) ?_;rw [z0Z];unfold Tryz.f69;dsimp only;repeat' (first
  | (first|refine sq_ ?_|refine bk_ ?_)
  | ((first|refine rg_ fun Q hQ=>?_|refine if_ fun Q hQ=>?_|refine dr_ (id:=17) [2,15,16] [32,240,289,401,545,673,817,993,1297,1377,1681,1697,1761,1873] (by kernel_rfl) fun Q hQ=>?_|refine ct_ (by first|with_reducible assumption|assumption) ?_|refine cd_ (by first|with_reducible assumption|assumption) ?_ ?_);simp -implicitDefEqProofs [*])
  | ((first|refine bs_ ?_ ?_|refine cs_ ?_ ?_)<;>(intro hc;have hb:=hc;(try simp only [hk_,ne_eq] at hc);(try have ⟨hc1,hc2⟩:_∧_:=hc);(try subst_vars))<;>first|contradiction|(exfalso;omega)|(simp -implicitDefEqProofs [*])|skip)
  | ((first|(refine atQ hQ ?_;clear hQ)|refine atQ (by assumption) ?_|refine z04 ?_|refine z06 ?_|refine z07 ?_);try simp only [sk_,if_true,if_false,↓reduceIte,Nat.reduceEqDiff])
  | (first|exact z0f|refine cn_ (by decide) ?_|refine cc_ (by intro e1 e2 e3;simp_all) ?_|refine And.intro (by decide +kernel) ?_)
  | (show EndK _ _ _ _ _ _ _ _;simp -implicitDefEqProofs [*])
  | ((simp (disch:=omega) only [if_pos,if_neg]);(try (simp -implicitDefEqProofs [*]))))
 all_goals exact hno _ _ _ _ _ _ _ _ _ _ (by rfl)
set_option maxHeartbeats 40000000 in
theorem zjz {nc nt:Int} {nk:Bool} {nb:List UInt8} {k0 k1 k2 k3 k4:Nd} {L:List Nd} (cS:OK gl 91 [nX (Nd.mk nc nt nk nb (k0::k1::k2::k3::k4::L)),iX 5,iX 7] (.b true)) (c0:OK gl 92 [nX k0] (.b true)) (s3 b3 b4:Bool) (p ia ib:List UInt8) (l3:List Nat) (tt u e:Int)
  (c1:OK gl 94 [nX k1] (.tup [sX ⟨p.toArray⟩,bX true])) (c2:OK gl 93 [nX k2] (.tup [sX ⟨ia.toArray⟩,rX (z05 ib),bX false])) (c3:OK gl 126 [nX k3] (.tup [rX (nuR .u32 l3),bX s3]))
  (c4:OK gl 127 [sX ⟨k4.bytes.toArray⟩] (.tup [iX tt,iX u,iX e])) (c5:OK gl 97 [nX k3,iX 2] (.b b3)) (c6:OK gl 97 [nX k4,iX 24] (.b b4))
   (hI:Rq.z0P (Nd.mk nc nt nk nb (k0::k1::k2::k3::k4::L))=none):z1Y Tryz.prog gl Tabs 69 [nX (Nd.mk nc nt nk nb (k0::k1::k2::k3::k4::L))] [] (InR (Nd.mk nc nt nk nb (k0::k1::k2::k3::k4::L))):=by
 generalize hR:InR (Nd.mk nc nt nk nb (k0::k1::k2::k3::k4::L))=R;have hno:∀ c0 c1 c2 c3 c4 c5 c6 c7 c8 c9:C,(E.agg [c0,c1,c2,c3,c4,c5,c6,c7,c8,c9]).isD=true→R (.tup [.agg [c0,c1,c2,c3,c4,c5,c6,c7,c8,c9],bX false]) [] []:=fun _ _ _ _ _ _ _ _ _ _ h=>by rw [←hR];exact InR.no (X10.mk h) hI
 clear hI hR;refine z4J false Tryz.func69 rfl (by show 1≤_;decide) ?_;rw [z0Z];unfold Tryz.f69;dsimp only;repeat' (first
  | (first|refine sq_ ?_|refine bk_ ?_)
  | ((first|refine rg_ fun Q hQ=>?_|refine if_ fun Q hQ=>?_|refine dr_ (id:=17) [2,15,16] [32,240,289,401,545,673,817,993,1297,1377,1681,1697,1761,1873] (by kernel_rfl) fun Q hQ=>?_|refine ct_ (by first|with_reducible assumption|assumption) ?_|refine cd_ (by first|with_reducible assumption|assumption) ?_ ?_);simp -implicitDefEqProofs [*])
  | ((first|refine bs_ ?_ ?_|refine cs_ ?_ ?_)<;>(intro hc;have hb:=hc;(try simp only [hk_,ne_eq] at hc);(try have ⟨hc1,hc2⟩:_∧_:=hc);(try subst_vars))<;>first|contradiction|(exfalso;omega)|(simp -implicitDefEqProofs [*])|skip)
  | ((first|(refine atQ hQ ?_;clear hQ)|refine atQ (by assumption) ?_|refine z04 ?_|refine z06 ?_|refine z07 ?_);try simp only [sk_,if_true,if_false,↓reduceIte,Nat.reduceEqDiff])
  | (first|exact z0f|refine cn_ (by decide) ?_|refine cc_ (by intro e1 e2 e3;simp_all) ?_|refine And.intro (by decide +kernel) ?_)
  | (show EndK _ _ _ _ _ _ _ _;simp -implicitDefEqProofs [*])
  | ((simp (disch:=omega) only [if_pos,if_neg]);(try (simp -implicitDefEqProofs [*]))))
 all_goals exact hno _ _ _ _ _ _ _ _ _ _ (by rfl)
set_option maxHeartbeats 40000000 in
theorem zjy {nc nt:Int} {nk:Bool} {nb:List UInt8} {k0 k1 k2 k3 k4:Nd} {L:List Nd} (cS:OK gl 91 [nX (Nd.mk nc nt nk nb (k0::k1::k2::k3::k4::L)),iX 5,iX 7] (.b true)) (c0:OK gl 92 [nX k0] (.b true)) (b3 b4:Bool) (p ia ib:List UInt8) (l3:List Nat) (tt u e:Int)
  (c1:OK gl 94 [nX k1] (.tup [sX ⟨p.toArray⟩,bX true])) (c2:OK gl 93 [nX k2] (.tup [sX ⟨ia.toArray⟩,rX (z05 ib),bX true])) (c3:OK gl 126 [nX k3] (.tup [rX (nuR .u32 l3),bX false]))
  (c4:OK gl 127 [sX ⟨k4.bytes.toArray⟩] (.tup [iX tt,iX u,iX e])) (c5:OK gl 97 [nX k3,iX 2] (.b b3)) (c6:OK gl 97 [nX k4,iX 24] (.b b4))
   (hI:Rq.z0P (Nd.mk nc nt nk nb (k0::k1::k2::k3::k4::L))=none):z1Y Tryz.prog gl Tabs 69 [nX (Nd.mk nc nt nk nb (k0::k1::k2::k3::k4::L))] [] (InR (Nd.mk nc nt nk nb (k0::k1::k2::k3::k4::L))):=by
 generalize hR:InR (Nd.mk nc nt nk nb (k0::k1::k2::k3::k4::L))=R;have hno:∀ c0 c1 c2 c3 c4 c5 c6 c7 c8 c9:C,(E.agg [c0,c1,c2,c3,c4,c5,c6,c7,c8,c9]).isD=true→R (.tup [.agg [c0,c1,c2,c3,c4,c5,c6,c7,c8,c9],bX false]) [] []:=fun _ _ _ _ _ _ _ _ _ _ h=>by rw [←hR];exact InR.no (X10.mk h) hI
 clear hI hR;refine z4J false Tryz.func69 rfl (by show 1≤_;decide) ?_;rw [z0Z];unfold Tryz.f69;dsimp only;repeat' (first
  | (first|refine sq_ ?_|refine bk_ ?_)
  | ((first|refine rg_ fun Q hQ=>?_|refine if_ fun Q hQ=>?_|refine dr_ (id:=17) [2,15,16] [32,240,289,401,545,673,817,993,1297,1377,1681,1697,1761,1873] (by kernel_rfl) fun Q hQ=>?_|refine ct_ (by first|with_reducible assumption|assumption) ?_|refine cd_ (by first|with_reducible assumption|assumption) ?_ ?_);simp -implicitDefEqProofs [*])
  | ((first|refine bs_ ?_ ?_|refine cs_ ?_ ?_)<;>(intro hc;have hb:=hc;(try simp only [hk_,ne_eq] at hc);(try have ⟨hc1,hc2⟩:_∧_:=hc);(try subst_vars))<;>first|contradiction|(exfalso;omega)|(simp -implicitDefEqProofs [*])|skip)
  | ((first|(refine atQ hQ ?_;clear hQ)|refine atQ (by assumption) ?_|refine z04 ?_|refine z06 ?_|refine z07 ?_);try simp only [sk_,if_true,if_false,↓reduceIte,Nat.reduceEqDiff])
  | (first|exact z0f|refine cn_ (by decide) ?_|refine cc_ (by intro e1 e2 e3;simp_all) ?_|refine And.intro (by decide +kernel) ?_)
  | (show EndK _ _ _ _ _ _ _ _;simp -implicitDefEqProofs [*])
  | ((simp (disch:=omega) only [if_pos,if_neg]);(try (simp -implicitDefEqProofs [*]))))
 all_goals exact hno _ _ _ _ _ _ _ _ _ _ (by rfl)
set_option maxHeartbeats 40000000 in
theorem zjx {nc nt:Int} {nk:Bool} {nb:List UInt8} {k0 k1 k2 k3 k4:Nd} {L:List Nd} (cS:OK gl 91 [nX (Nd.mk nc nt nk nb (k0::k1::k2::k3::k4::L)),iX 5,iX 7] (.b true)) (c0:OK gl 92 [nX k0] (.b true)) (b4:Bool) (p ia ib:List UInt8) (l3:List Nat) (tt u e:Int)
  (c1:OK gl 94 [nX k1] (.tup [sX ⟨p.toArray⟩,bX true])) (c2:OK gl 93 [nX k2] (.tup [sX ⟨ia.toArray⟩,rX (z05 ib),bX true])) (c3:OK gl 126 [nX k3] (.tup [rX (nuR .u32 l3),bX true]))
  (c4:OK gl 127 [sX ⟨k4.bytes.toArray⟩] (.tup [iX tt,iX u,iX e])) (c5:OK gl 97 [nX k3,iX 2] (.b false)) (c6:OK gl 97 [nX k4,iX 24] (.b b4))
   (hI:Rq.z0P (Nd.mk nc nt nk nb (k0::k1::k2::k3::k4::L))=none):z1Y Tryz.prog gl Tabs 69 [nX (Nd.mk nc nt nk nb (k0::k1::k2::k3::k4::L))] [] (InR (Nd.mk nc nt nk nb (k0::k1::k2::k3::k4::L))):=by
 generalize hR:InR (Nd.mk nc nt nk nb (k0::k1::k2::k3::k4::L))=R;have hno:∀ c0 c1 c2 c3 c4 c5 c6 c7 c8 c9:C,(E.agg [c0,c1,c2,c3,c4,c5,c6,c7,c8,c9]).isD=true→R (.tup [.agg [c0,c1,c2,c3,c4,c5,c6,c7,c8,c9],bX false]) [] []:=fun _ _ _ _ _ _ _ _ _ _ h=>by rw [←hR];exact InR.no (X10.mk h) hI
 clear hI hR;refine z4J false Tryz.func69 rfl (by show 1≤_;decide) ?_;rw [z0Z];unfold Tryz.f69;dsimp only;repeat' (first
  | (first|refine sq_ ?_|refine bk_ ?_)
  | ((first|refine rg_ fun Q hQ=>?_|refine if_ fun Q hQ=>?_|refine dr_ (id:=17) [2,15,16] [32,240,289,401,545,673,817,993,1297,1377,1681,1697,1761,1873] (by kernel_rfl) fun Q hQ=>?_|refine ct_ (by first|with_reducible assumption|assumption) ?_|refine cd_ (by first|with_reducible assumption|assumption) ?_ ?_);simp -implicitDefEqProofs [*])
  | ((first|refine bs_ ?_ ?_|refine cs_ ?_ ?_)<;>(intro hc;have hb:=hc;(try simp only [hk_,ne_eq] at hc);(try have ⟨hc1,hc2⟩:_∧_:=hc);(try subst_vars))<;>first|contradiction|(exfalso;omega)|(simp -implicitDefEqProofs [*])|skip)
  | ((first|(refine atQ hQ ?_;clear hQ)|refine atQ (by assumption) ?_|refine z04 ?_|refine z06 ?_|refine z07 ?_);try simp only [sk_,if_true,if_false,↓reduceIte,Nat.reduceEqDiff])
  | (first|exact z0f|refine cn_ (by decide) ?_|refine cc_ (by intro e1 e2 e3;simp_all) ?_|refine And.intro (by decide +kernel) ?_)
  | (show EndK _ _ _ _ _ _ _ _;simp -implicitDefEqProofs [*])
  | ((simp (disch:=omega) only [if_pos,if_neg]);(try (simp -implicitDefEqProofs [*]))))
 all_goals exact hno _ _ _ _ _ _ _ _ _ _ (by rfl)
set_option maxHeartbeats 40000000 in
theorem zjw {nc nt:Int} {nk:Bool} {nb:List UInt8} {k0 k1 k2 k3 k4:Nd} {L:List Nd} (cS:OK gl 91 [nX (Nd.mk nc nt nk nb (k0::k1::k2::k3::k4::L)),iX 5,iX 7] (.b true)) (c0:OK gl 92 [nX k0] (.b true))  (p ia ib:List UInt8) (l3:List Nat) (tt u e:Int)
  (c1:OK gl 94 [nX k1] (.tup [sX ⟨p.toArray⟩,bX true])) (c2:OK gl 93 [nX k2] (.tup [sX ⟨ia.toArray⟩,rX (z05 ib),bX true])) (c3:OK gl 126 [nX k3] (.tup [rX (nuR .u32 l3),bX true]))
  (c4:OK gl 127 [sX ⟨k4.bytes.toArray⟩] (.tup [iX tt,iX u,iX e])) (c5:OK gl 97 [nX k3,iX 2] (.b true)) (c6:OK gl 97 [nX k4,iX 24] (.b false))
   (hI:Rq.z0P (Nd.mk nc nt nk nb (k0::k1::k2::k3::k4::L))=none):z1Y Tryz.prog gl Tabs 69 [nX (Nd.mk nc nt nk nb (k0::k1::k2::k3::k4::L))] [] (InR (Nd.mk nc nt nk nb (k0::k1::k2::k3::k4::L))):=by
 generalize hR:InR (Nd.mk nc nt nk nb (k0::k1::k2::k3::k4::L))=R;have hno:∀ c0 c1 c2 c3 c4 c5 c6 c7 c8 c9:C,(E.agg [c0,c1,c2,c3,c4,c5,c6,c7,c8,c9]).isD=true→R (.tup [.agg [c0,c1,c2,c3,c4,c5,c6,c7,c8,c9],bX false]) [] []:=fun _ _ _ _ _ _ _ _ _ _ h=>by rw [←hR];exact InR.no (X10.mk h) hI
 clear hI hR;refine z4J false Tryz.func69 rfl (by show 1≤_;decide) ?_;rw [z0Z];unfold Tryz.f69;dsimp only;repeat' (first
  | (first|refine sq_ ?_|refine bk_ ?_)
  | ((first|refine rg_ fun Q hQ=>?_|refine if_ fun Q hQ=>?_|refine dr_ (id:=17) [2,15,16] [32,240,289,401,545,673,817,993,1297,1377,1681,1697,1761,1873] (by kernel_rfl) fun Q hQ=>?_|refine ct_ (by first|with_reducible assumption|assumption) ?_|refine cd_ (by first|with_reducible assumption|assumption) ?_ ?_);simp -implicitDefEqProofs [*])
  | ((first|refine bs_ ?_ ?_|refine cs_ ?_ ?_)<;>(intro hc;have hb:=hc;(try simp only [hk_,ne_eq] at hc);(try have ⟨hc1,hc2⟩:_∧_:=hc);(try subst_vars))<;>first|contradiction|(exfalso;omega)|(simp -implicitDefEqProofs [*])|skip)
  | ((first|(refine atQ hQ ?_;clear hQ)|refine atQ (by assumption) ?_|refine z04 ?_|refine z06 ?_|refine z07 ?_);try simp only [sk_,if_true,if_false,↓reduceIte,Nat.reduceEqDiff])
  | (first|exact z0f|refine cn_ (by decide) ?_|refine cc_ (by intro e1 e2 e3;simp_all) ?_|refine And.intro (by decide +kernel) ?_)
  | (show EndK _ _ _ _ _ _ _ _;simp -implicitDefEqProofs [*])
  | ((simp (disch:=omega) only [if_pos,if_neg]);(try (simp -implicitDefEqProofs [*]))))
 all_goals exact hno _ _ _ _ _ _ _ _ _ _ (by rfl)
set_option maxHeartbeats 40000000 in
theorem zjv {nc nt:Int} {nk:Bool} {nb:List UInt8} {k0 k1 k2 k3 k4:Nd} {L:List Nd} (cS:OK gl 91 [nX (Nd.mk nc nt nk nb (k0::k1::k2::k3::k4::L)),iX 5,iX 7] (.b true)) (c0:OK gl 92 [nX k0] (.b true))  (p ia ib:List UInt8) (l3:List Nat) (tt u e:Int)
  (c1:OK gl 94 [nX k1] (.tup [sX ⟨p.toArray⟩,bX true])) (c2:OK gl 93 [nX k2] (.tup [sX ⟨ia.toArray⟩,rX (z05 ib),bX true])) (c3:OK gl 126 [nX k3] (.tup [rX (nuR .u32 l3),bX true]))
  (c4:OK gl 127 [sX ⟨k4.bytes.toArray⟩] (.tup [iX tt,iX u,iX e])) (c5:OK gl 97 [nX k3,iX 2] (.b true)) (c6:OK gl 97 [nX k4,iX 24] (.b true))
  (he:(e != 0)=true) (hI:Rq.z0P (Nd.mk nc nt nk nb (k0::k1::k2::k3::k4::L))=none):z1Y Tryz.prog gl Tabs 69 [nX (Nd.mk nc nt nk nb (k0::k1::k2::k3::k4::L))] [] (InR (Nd.mk nc nt nk nb (k0::k1::k2::k3::k4::L))):=by
 generalize hR:InR (Nd.mk nc nt nk nb (k0::k1::k2::k3::k4::L))=R;have hno:∀ c0 c1 c2 c3 c4 c5 c6 c7 c8 c9:C,(E.agg [c0,c1,c2,c3,c4,c5,c6,c7,c8,c9]).isD=true→R (.tup [.agg [c0,c1,c2,c3,c4,c5,c6,c7,c8,c9],bX false]) [] []:=fun _ _ _ _ _ _ _ _ _ _ h=>by rw [←hR];exact InR.no (X10.mk h) hI
 clear hI hR;refine z4J false Tryz.func69 rfl (by show 1≤_;decide) ?_;rw [z0Z];unfold Tryz.f69;dsimp only;repeat' (first
  | (first|refine sq_ ?_|refine bk_ ?_)
  | ((first|refine rg_ fun Q hQ=>?_|refine if_ fun Q hQ=>?_|refine dr_ (id:=17) [2,15,16] [32,240,289,401,545,673,817,993,1297,1377,1681,1697,1761,1873] (by kernel_rfl) fun Q hQ=>?_|refine ct_ (by first|with_reducible assumption|assumption) ?_|refine cd_ (by first|with_reducible assumption|assumption) ?_ ?_);simp -implicitDefEqProofs [*])
  | ((first|refine bs_ ?_ ?_|refine cs_ ?_ ?_)<;>(intro hc;have hb:=hc;(try simp only [hk_,ne_eq] at hc);(try have ⟨hc1,hc2⟩:_∧_:=hc);(try subst_vars))<;>first|contradiction|(exfalso;omega)|(simp -implicitDefEqProofs [*])|skip)
  | ((first|(refine atQ hQ ?_;clear hQ)|refine atQ (by assumption) ?_|refine z04 ?_|refine z06 ?_|refine z07 ?_);try simp only [sk_,if_true,if_false,↓reduceIte,Nat.reduceEqDiff])
  | (first|exact z0f|refine cn_ (by decide) ?_|refine cc_ (by intro e1 e2 e3;simp_all) ?_|refine And.intro (by decide +kernel) ?_)
  | (show EndK _ _ _ _ _ _ _ _;simp -implicitDefEqProofs [*])
  | ((simp (disch:=omega) only [if_pos,if_neg]);(try (simp -implicitDefEqProofs [*]))))
 all_goals exact hno _ _ _ _ _ _ _ _ _ _ (by rfl)
end Am
end Go.Proofs.YtgmppconibklcaaGreatDoor

