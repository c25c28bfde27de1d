/- Part of the proof of TspBack. No condition: lemmas alone. -/
import Derived.Test.YtgmppconibklcaaGreatDoorM43
set_option linter.unusedVariables false
set_option linter.unusedSimpArgs false
set_option maxRecDepth 100000
namespace Go.Proofs.YtgmppconibklcaaGreatDoor
open Go Go.RowKit
namespace Am
variable {gl:Nat→Option (List D)}
set_option maxHeartbeats 40000000 in
theorem zfD {nc nt:Int} {nk:Bool} {nb:List UInt8} {k0 k1 k2 k3 k4:Nd} {L:List Nd} (cS:OK gl 91 [nX (Nd.mk nc nt nk nb (k0::k1::k2::k3::k4::L)),iX 5,iX 7] (.b true)) (c0:OK gl 92 [nX k0] (.b true)) (p ia ib:List UInt8) (sr:Nat) (tt u:Int)
  (c1:OK gl 94 [nX k1] (.tup [sX ⟨p.toArray⟩,bX true])) (c2:OK gl 93 [nX k2] (.tup [sX ⟨ia.toArray⟩,rX (z05 ib),bX true])) (c3:OK gl 126 [nX k3] (.tup [rX (nuR .u32 (Nt.lim sr)),bX true]))
  (c4:OK gl 127 [sX ⟨k4.bytes.toArray⟩] (.tup [iX tt,iX u,iX 0])) (c5:OK gl 97 [nX k3,iX 2] (.b true)) (c6:OK gl 97 [nX k4,iX 24] (.b true))
  (h5:Nd) (cF:OK gl 95 [rX (ndR L)] (.e (nX h5))) (cq:OK gl 91 [nX h5,iX 1,iX 2] (.b false)) (has:Bool) (na:Nat) (rr:Bool)
  (cN:OK gl 96 [rX (ndR L)] (.tup [bX has,rX (nuR .u32 (Nt.lim na)),rX (ndR [])])) (cR:OK gl 67 [infX ⟨p,ia,ib,sr,tt,u,0,0,has,na⟩ (Nt.lim sr) (Nt.lim na)] (.b rr))
  (hI:Rq.z0P (Nd.mk nc nt nk nb (k0::k1::k2::k3::k4::L))=if (([]:List Nd).isEmpty&&rr)=true then some ⟨p,ia,ib,sr,tt,u,0,0,has,na⟩ else none):z1Y Tryz.prog gl Tabs 69 [nX (Nd.mk nc nt nk nb (k0::k1::k2::k3::k4::L))] [] (InR (Nd.mk nc nt nk nb (k0::k1::k2::k3::k4::L))):=by
 generalize hR:InR (Nd.mk nc nt nk nb (k0::k1::k2::k3::k4::L))=R;have hfin:∀ (rr':Bool),(([]:List Nd).isEmpty&&rr)=rr'→R (.tup [infX ⟨p,ia,ib,sr,tt,u,0,0,has,na⟩ (Nt.lim sr) (Nt.lim na),bX rr']) [] []:=fun rr' h=>by rw [←hR,←h];exact InR.fin hI (X10.mk (by rfl)) (fun _=>rfl)
 clear hI hR;refine z4J false Tryz.func69 rfl (by show 1≤_;decide) ?_;rw [z0Z];unfold Tryz.f69;dsimp only;repeat' (first
  | (first|refine sq_ ?_|refine bk_ ?_)
  | ((first|refine rg_ fun Q hQ=>?_|refine if_ fun Q hQ=>?_|refine dr_ (id:=17) [2,15,16] [32,240,289,401,545,673,817,993,1297,1377,1681,1697,1761,1873] (by kernel_rfl) fun Q hQ=>?_|refine ct_ (by first|with_reducible assumption|assumption) ?_|refine cd_ (by first|with_reducible assumption|assumption) ?_ ?_);simp -implicitDefEqProofs [*])
  | ((first|refine bs_ ?_ ?_|refine cs_ ?_ ?_)<;>(intro hc;have hb:=hc;(try simp only [hk_,ne_eq] at hc);(try have ⟨hc1,hc2⟩:_∧_:=hc);(try subst_vars))<;>first|contradiction|(exfalso;omega)|(simp -implicitDefEqProofs [*])|skip)
  | ((first|(refine atQ hQ ?_;clear hQ)|refine atQ (by assumption) ?_|refine z04 ?_|refine z06 ?_|refine z07 ?_);try simp only [sk_,if_true,if_false,↓reduceIte,Nat.reduceEqDiff])
  | (first|exact z0f|refine cn_ (by decide) ?_|refine cc_ (by intro e1 e2 e3;simp_all) ?_|refine And.intro (by decide +kernel) ?_)
  | (show EndK _ _ _ _ _ _ _ _;simp -implicitDefEqProofs [*])
  | ((simp (disch:=omega) only [if_pos,if_neg]);(try (simp -implicitDefEqProofs [*]))))
 all_goals exact hfin _ rfl
set_option maxHeartbeats 40000000 in
theorem zfC {nc nt:Int} {nk:Bool} {nb:List UInt8} {k0 k1 k2 k3 k4:Nd} {L:List Nd} (cS:OK gl 91 [nX (Nd.mk nc nt nk nb (k0::k1::k2::k3::k4::L)),iX 5,iX 7] (.b true)) (c0:OK gl 92 [nX k0] (.b true)) (p ia ib:List UInt8) (sr:Nat) (tt u:Int)
  (c1:OK gl 94 [nX k1] (.tup [sX ⟨p.toArray⟩,bX true])) (c2:OK gl 93 [nX k2] (.tup [sX ⟨ia.toArray⟩,rX (z05 ib),bX true])) (c3:OK gl 126 [nX k3] (.tup [rX (nuR .u32 (Nt.lim sr)),bX true]))
  (c4:OK gl 127 [sX ⟨k4.bytes.toArray⟩] (.tup [iX tt,iX u,iX 0])) (c5:OK gl 97 [nX k3,iX 2] (.b true)) (c6:OK gl 97 [nX k4,iX 24] (.b true))
  (h5:Nd) (cF:OK gl 95 [rX (ndR L)] (.e (nX h5))) (cq:OK gl 91 [nX h5,iX 1,iX 2] (.b false)) (has:Bool) (na:Nat) (y:Nd) (t':List Nd) (rr:Bool)
  (cN:OK gl 96 [rX (ndR L)] (.tup [bX has,rX (nuR .u32 (Nt.lim na)),rX (ndR (y::t'))])) (cR:OK gl 67 [infX ⟨p,ia,ib,sr,tt,u,0,0,has,na⟩ (Nt.lim sr) (Nt.lim na)] (.b rr))
  (hI:Rq.z0P (Nd.mk nc nt nk nb (k0::k1::k2::k3::k4::L))=if ((y::t').isEmpty&&rr)=true then some ⟨p,ia,ib,sr,tt,u,0,0,has,na⟩ else none):z1Y Tryz.prog gl Tabs 69 [nX (Nd.mk nc nt nk nb (k0::k1::k2::k3::k4::L))] [] (InR (Nd.mk nc nt nk nb (k0::k1::k2::k3::k4::L))):=by
 generalize hR:InR (Nd.mk nc nt nk nb (k0::k1::k2::k3::k4::L))=R;have hfin:∀ (rr':Bool),((y::t').isEmpty&&rr)=rr'→R (.tup [infX ⟨p,ia,ib,sr,tt,u,0,0,has,na⟩ (Nt.lim sr) (Nt.lim na),bX rr']) [] []:=fun rr' h=>by rw [←hR,←h];exact InR.fin hI (X10.mk (by rfl)) (fun _=>rfl)
 clear hI hR;have hy:((((t'.length:Int)+1)==0):Bool)=false:=by rw [beq_eq_false_iff_ne];omega
 refine z4J false Tryz.func69 rfl (by show 1≤_;decide) ?_;rw [z0Z];unfold Tryz.f69;dsimp only;repeat' (first
  | (first|refine sq_ ?_|refine bk_ ?_)
  | ((first|refine rg_ fun Q hQ=>?_|refine if_ fun Q hQ=>?_|refine dr_ (id:=17) [2,15,16] [32,240,289,401,545,673,817,993,1297,1377,1681,1697,1761,1873] (by kernel_rfl) fun Q hQ=>?_|refine ct_ (by first|with_reducible assumption|assumption) ?_|refine cd_ (by first|with_reducible assumption|assumption) ?_ ?_);simp -implicitDefEqProofs [*])
  | ((first|refine bs_ ?_ ?_|refine cs_ ?_ ?_)<;>(intro hc;have hb:=hc;(try simp only [hk_,ne_eq] at hc);(try have ⟨hc1,hc2⟩:_∧_:=hc);(try subst_vars))<;>first|contradiction|(exfalso;omega)|(simp -implicitDefEqProofs [*])|skip)
  | ((first|(refine atQ hQ ?_;clear hQ)|refine atQ (by assumption) ?_|refine z04 ?_|refine z06 ?_|refine z07 ?_);try simp only [sk_,if_true,if_false,↓reduceIte,Nat.reduceEqDiff])
  | (first|exact z0f|refine cn_ (by decide) ?_|refine cc_ (by intro e1 e2 e3;simp_all) ?_|refine And.intro (by decide +kernel) ?_)
  | (show EndK _ _ _ _ _ _ _ _;simp -implicitDefEqProofs [*])
  | ((simp (disch:=omega) only [if_pos,if_neg]);(try (simp -implicitDefEqProofs [*]))))
 all_goals exact hfin _ rfl
set_option maxHeartbeats 40000000 in
theorem zfE {nc nt:Int} {nk:Bool} {nb:List UInt8} {k0 k1 k2 k3 k4 k5:Nd} {t:List Nd} (cS:OK gl 91 [nX (Nd.mk nc nt nk nb (k0::k1::k2::k3::k4::k5::t)),iX 5,iX 7] (.b true)) (c0:OK gl 92 [nX k0] (.b true)) (p ia ib:List UInt8) (sr:Nat) (tt u:Int)
  (c1:OK gl 94 [nX k1] (.tup [sX ⟨p.toArray⟩,bX true])) (c2:OK gl 93 [nX k2] (.tup [sX ⟨ia.toArray⟩,rX (z05 ib),bX true])) (c3:OK gl 126 [nX k3] (.tup [rX (nuR .u32 (Nt.lim sr)),bX true]))
  (c4:OK gl 127 [sX ⟨k4.bytes.toArray⟩] (.tup [iX tt,iX u,iX 0])) (c5:OK gl 97 [nX k3,iX 2] (.b true)) (c6:OK gl 97 [nX k4,iX 24] (.b true))
  (cF:OK gl 95 [rX (ndR (k5::t))] (.e (nX k5))) (cq:OK gl 91 [nX k5,iX 1,iX 2] (.b true)) (s m:Int)
  (cA:∀ a b c d e f h g:D,z0M Tryz.prog gl Tabs 128 [.one (.ref 15 0),nX k5] [infO a b c d e f 0 0 h g] (.b false) [] [infO a b c d e f s m h g]) (hI:Rq.z0P (Nd.mk nc nt nk nb (k0::k1::k2::k3::k4::k5::t))=none):z1Y Tryz.prog gl Tabs 69 [nX (Nd.mk nc nt nk nb (k0::k1::k2::k3::k4::k5::t))] [] (InR (Nd.mk nc nt nk nb (k0::k1::k2::k3::k4::k5::t))):=by
 generalize hR:InR (Nd.mk nc nt nk nb (k0::k1::k2::k3::k4::k5::t))=R;have hno:∀ c0 c1 c2 c3 c4 c5 c6 c7 c8 c9:C,(E.agg [c0,c1,c2,c3,c4,c5,c6,c7,c8,c9]).isD=true→R (.tup [.agg [c0,c1,c2,c3,c4,c5,c6,c7,c8,c9],bX false]) [] []:=fun _ _ _ _ _ _ _ _ _ _ h=>by rw [←hR];exact InR.no (X10.mk h) hI
 clear hI hR;refine z4J false Tryz.func69 rfl (by show 1≤_;decide) ?_;rw [z0Z];unfold Tryz.f69;dsimp only;repeat' (first
  | (first|refine sq_ ?_|refine bk_ ?_)
  | ((first|refine rg_ fun Q hQ=>?_|refine if_ fun Q hQ=>?_|refine dr_ (id:=17) [2,15,16] [32,240,289,401,545,673,817,993,1297,1377,1681,1697,1761,1873] (by kernel_rfl) fun Q hQ=>?_|refine ct_ (by first|with_reducible assumption|assumption) ?_|refine cd_ (by first|with_reducible assumption|assumption) ?_ ?_|refine ct_ (cA _ _ _ _ _ _ _ _) ?_|refine cd_ (cA _ _ _ _ _ _ _ _) ?_ ?_);simp -implicitDefEqProofs [*])
  | ((first|refine bs_ ?_ ?_|refine cs_ ?_ ?_)<;>(intro hc;have hb:=hc;(try simp only [hk_,ne_eq] at hc);(try have ⟨hc1,hc2⟩:_∧_:=hc);(try subst_vars))<;>first|contradiction|(exfalso;omega)|(simp -implicitDefEqProofs [*])|skip)
  | ((first|(refine atQ hQ ?_;clear hQ)|refine atQ (by assumption) ?_|refine z04 ?_|refine z06 ?_|refine z07 ?_);try simp only [sk_,if_true,if_false,↓reduceIte,Nat.reduceEqDiff])
  | (first|exact z0f|refine cn_ (by decide) ?_|refine cc_ (by intro e1 e2 e3;simp_all) ?_|refine And.intro (by decide +kernel) ?_)
  | (show EndK _ _ _ _ _ _ _ _;simp -implicitDefEqProofs [*])
  | ((simp (disch:=omega) only [if_pos,if_neg]);(try (simp -implicitDefEqProofs [*]))))
 all_goals exact hno _ _ _ _ _ _ _ _ _ _ (by rfl)
end Am
end Go.Proofs.YtgmppconibklcaaGreatDoor

