/- Part of the proof of TspBack. No condition: lemmas alone. -/
import Derived.Test.YtgmppconibklcaaGreatDoorM44
import Derived.Test.YtgmppconibklcaaGreatDoorM45
import Derived.Test.YtgmppconibklcaaGreatDoorM35
import Derived.Test.YtgmppconibklcaaGreatDoorM22
import Derived.Test.YtgmppconibklcaaGreatDoorM42
import Derived.Test.YtgmppconibklcaaGreatDoorM0
import Derived.ChangeArms
import Derived.DataReads
import Derived.SizedLaws
import GoSem.ClaimJoined
set_option linter.unusedVariables false
set_option linter.unusedSimpArgs false
set_option maxRecDepth 100000
namespace Go.Proofs.YtgmppconibklcaaGreatDoor
open Go Go.RowKit
namespace Am
variable {gl:Nat→Option (List D)}
set_option maxHeartbeats 4000000 in
theorem zhq (n:Nd) (cS:OK gl 91 [nX n,iX 5,iX 7] (.b false)) (hI:Rq.z0P n=none):z1Y Tryz.prog gl Tabs 69 [nX n] [] (InR n):=by
 refine z4J false Tryz.func69 rfl (by show 1≤_;decide) ?_;rw [z0Z];unfold Tryz.f69;dsimp only;repeat' (first
  | (first|refine sq_ ?_|refine bk_ ?_)
  | ((first|refine rg_ fun Q hQ=>?_|refine if_ fun Q hQ=>?_|refine dr_ (id:=17) [2,15,16] [32,240,289,401,545,673,817,993,1297,1377,1681,1697,1761,1873] (by kernel_rfl) fun Q hQ=>?_|refine ct_ (by first|with_reducible assumption|assumption) ?_|refine cd_ (by first|with_reducible assumption|assumption) ?_ ?_);simp -implicitDefEqProofs [*])
  | ((first|refine bs_ ?_ ?_|refine cs_ ?_ ?_)<;>(intro hc;have hb:=hc;(try simp only [hk_,ne_eq] at hc);(try have ⟨hc1,hc2⟩:_∧_:=hc);(try subst_vars))<;>first|contradiction|(exfalso;omega)|(simp -implicitDefEqProofs [*])|skip)
  | ((first|(refine atQ hQ ?_;clear hQ)|refine atQ (by assumption) ?_|refine z04 ?_|refine z06 ?_|refine z07 ?_);try simp only [sk_,if_true,if_false,↓reduceIte,Nat.reduceEqDiff])
  | (first|exact z0f|refine cn_ (by decide) ?_|refine cc_ (by intro e1 e2 e3;simp_all) ?_|refine And.intro (by decide +kernel) ?_)
  | (show EndK _ _ _ _ _ _ _ _;simp -implicitDefEqProofs [*])
  | ((simp (disch:=omega) only [if_pos,if_neg]);(try (simp -implicitDefEqProofs [*]))))
 refine InR.no ?_ hI;exact X10.mk (by rfl)
set_option maxHeartbeats 4000000 in
theorem zhr {nc nt:Int} {nk:Bool} {nb:List UInt8} {k0 k1 k2 k3 k4:Nd} {L:List Nd} (cS:OK gl 91 [nX (Nd.mk nc nt nk nb (k0::k1::k2::k3::k4::L)),iX 5,iX 7] (.b true)) (c0:OK gl 92 [nX k0] (.b false)) (hI:Rq.z0P (Nd.mk nc nt nk nb (k0::k1::k2::k3::k4::L))=none):z1Y Tryz.prog gl Tabs 69 [nX (Nd.mk nc nt nk nb (k0::k1::k2::k3::k4::L))] [] (InR (Nd.mk nc nt nk nb (k0::k1::k2::k3::k4::L))):=by
 refine z4J false Tryz.func69 rfl (by show 1≤_;decide) ?_;rw [z0Z];unfold Tryz.f69;dsimp only;repeat' (first
  | (first|refine sq_ ?_|refine bk_ ?_)
  | ((first|refine rg_ fun Q hQ=>?_|refine if_ fun Q hQ=>?_|refine dr_ (id:=17) [2,15,16] [32,240,289,401,545,673,817,993,1297,1377,1681,1697,1761,1873] (by kernel_rfl) fun Q hQ=>?_|refine ct_ (by first|with_reducible assumption|assumption) ?_|refine cd_ (by first|with_reducible assumption|assumption) ?_ ?_);simp -implicitDefEqProofs [*])
  | ((first|refine bs_ ?_ ?_|refine cs_ ?_ ?_)<;>(intro hc;have hb:=hc;(try simp only [hk_,ne_eq] at hc);(try have ⟨hc1,hc2⟩:_∧_:=hc);(try subst_vars))<;>first|contradiction|(exfalso;omega)|(simp -implicitDefEqProofs [*])|skip)
  | ((first|(refine atQ hQ ?_;clear hQ)|refine atQ (by assumption) ?_|refine z04 ?_|refine z06 ?_|refine z07 ?_);try simp only [sk_,if_true,if_false,↓reduceIte,Nat.reduceEqDiff])
  | (first|exact z0f|refine cn_ (by decide) ?_|refine cc_ (by intro e1 e2 e3;simp_all) ?_|refine And.intro (by decide +kernel) ?_)
  | (show EndK _ _ _ _ _ _ _ _;simp -implicitDefEqProofs [*])
  | ((simp (disch:=omega) only [if_pos,if_neg]);(try (simp -implicitDefEqProofs [*]))))
 refine InR.no ?_ hI;exact X10.mk (by rfl)
theorem zfB (n:Nd) (hr:Dr.right n=true) (hf:Fine n):z1Y Tryz.prog gl Tabs 69 [nX n] [] (InR n):=by
 have cS:=z2V (gl:=gl) n 5 7;have eS:sq n 5 7=Rq.z0t n 5 7:=zf2 n 5 7;cases hsq:sq n 5 7 with
 | false=>
  rw [hsq] at cS eS;exact zhq n cS (by unfold Rq.z0P;rw [←eS];rfl)
 | true=>
  rw [hsq] at cS eS;obtain ⟨k0,k1,k2,k3,k4,L,hk⟩:=kids5 eS.symm;obtain ⟨nc,nt,nk,nb,nks⟩:=n;simp only [zlK] at hk;subst hk;have hk:(Nd.mk nc nt nk nb (k0::k1::k2::k3::k4::L)).kids=k0::k1::k2::k3::k4::L:=rfl;have fk:∀ k∈k0::k1::k2::k3::k4::L,Fine k:=fun k h=>z1p hf h
  have f0:Fine k0:=fk _ (by simp);have f1:Fine k1:=fk _ (by simp);have f2:Fine k2:=fk _ (by simp);have f3:Fine k3:=fk _ (by simp);have f4:Fine k4:=fk _ (by simp);have fL:∀ k∈L,Fine k:=fun k h=>fk _ (by simp [h])
  have c0:=zgY (gl:=gl) k0 f0;cases h0:(Dr.intOf k0==some 1&&(k0.cls==0&&k0.tag==2)) with
  | false=>
   rw [h0] at c0;refine zhr cS c0 ?_;have e:=zgZ k0;unfold isT at e;rw [h0] at e;have e0:Rq.kid (Nd.mk nc nt nk nb (k0::k1::k2::k3::k4::L)) 0=k0:=rfl;unfold Rq.z0P;rw [e0,e,Bool.and_false];rfl
  | true=>
   rw [h0] at c0;have hI:=zbv hr eS.symm hk h0;have b1:=z0S f1;have b4:=z0S f4;have c1:=z9J (gl:=gl) k1 b1;have c2:=z6u (gl:=gl) k2 f2;have c3:=zlZ (gl:=gl) k3 f3;have c4:=zeS (gl:=gl) k4.bytes (by omega);have c5:=z9Q (gl:=gl) k3 2;have c6:=z9Q (gl:=gl) k4 24;have hsl:(Nt.lim ((Dr.z1D k3).getD 0)).length≤100000:=by
    cases hn:Dr.z1D k3 with
    | none=>simp [Nt.z2e]
    | some a=>exact z8Y f3 hn
   generalize oidO k1=o1 at hI c1;generalize impO k2=o2 at hI c2;obtain ⟨ia,ib,im⟩:=o2;generalize Dr.z1D k3=o3 at hI c3 hsl;generalize hb3:(k3.cls==0&&k3.tag==2)=b3 at hI c5;generalize hb4:(k4.cls==0&&k4.tag==24)=b4 at hI c6;generalize Pr.z1q k4.bytes=o5 at hI c4;clear hb3 hb4;cases o1 with
   | none=>exact zjA cS c0 im _ b3 b4 [] ia ib _ _ _ _ c1 c2 c3 c4 c5 c6 (by rw [hI];simp)
   | some p=>
    cases im with
    | false=>exact zjz cS c0 _ b3 b4 p ia ib _ _ _ _ c1 c2 c3 c4 c5 c6 (by rw [hI];simp)
    | true=>
     cases o3 with
     | none=>exact zjy cS c0 b3 b4 p ia ib _ _ _ _ c1 c2 c3 c4 c5 c6 (by rw [hI];simp)
     | some sr=>
      cases b3 with
      | false=>exact zjx cS c0 b4 p ia ib _ _ _ _ c1 c2 c3 c4 c5 c6 (by rw [hI];simp)
      | true=>
       cases b4 with
       | false=>exact zjw cS c0 p ia ib _ _ _ _ c1 c2 c3 c4 c5 c6 (by rw [hI];simp)
       | true=>
        cases o5 with
        | none=>exact zjv cS c0 p ia ib _ _ _ _ c1 c2 c3 c4 c5 c6 rfl (by rw [hI];simp)
        | some tu=>
         obtain ⟨tt,u⟩:=tu;simp only [Option.getD_some,Option.isSome_some,Bool.and_self,if_true] at c1 c3 c4 hI hsl;have tail:∀ (s m:Int) (l:List Nd),(∀ k∈l,Fine k)→OK gl 67 [infX ⟨p,ia,ib,sr,tt,u,s,m,(Rq.z0i l).1,(Rq.z0i l).2.1⟩ (Nt.lim sr) (Nt.lim (Rq.z0i l).2.1)] (.b (Rq.z0J ⟨p,ia,ib,sr,tt,u,s,m,(Rq.z0i l).1,(Rq.z0i l).2.1⟩)):=fun s m l fl=>
          z6k ⟨p,ia,ib,sr,tt,u,s,m,(Rq.z0i l).1,(Rq.z0i l).2.1⟩ _ _ (Nt.z2U _) (Nt.z2U _) (Nt.z4j _) (Nt.z4j _) (by omega) (by have:=zaC fl;omega)
         have plain:∀ (h5:Nd),OK gl 95 [rX (ndR L)] (.e (nX h5))→OK gl 91 [nX h5,iX 1,iX 2] (.b false)→Rq.z2i L=some ((0,0),L)→z1Y Tryz.prog gl Tabs 69 [nX (Nd.mk nc nt nk nb (k0::k1::k2::k3::k4::L))] [] (InR (Nd.mk nc nt nk nb (k0::k1::k2::k3::k4::L))):=fun h5 cF cq hA=>by
          rw [hA] at hI;simp only at hI;have cN:=zdw (gl:=gl) L fL;have cR:=tail 0 0 L fL;cases hl:(Rq.z0i L).2.2 with
          | nil=>
           rw [hl] at hI cN;exact zfD cS c0 p ia ib sr tt u c1 c2 c3 c4 c5 c6 h5 cF cq _ _ _ cN cR hI
          | cons y t' =>
           rw [hl] at hI cN;exact zfC cS c0 p ia ib sr tt u c1 c2 c3 c4 c5 c6 h5 cF cq _ _ y t' _ cN cR hI
         cases L with
         | nil=>
          have cq:=z2V (gl:=gl) Nd.nil 1 2;exact plain Nd.nil (z1W []) cq rfl
         | cons k5 t=>
          have cq:=z2V (gl:=gl) k5 1 2;have eq5:sq k5 1 2=Rq.z0t k5 1 2:=zf2 k5 1 2;have cF:=z1W (gl:=gl) (k5::t);cases hs5:sq k5 1 2 with
          | false=>
           rw [hs5] at cq eq5;exact plain k5 cF cq (by simp only [Rq.z2i];rw [←eq5];rfl)
          | true=>
           rw [hs5] at cq eq5;have f5:Fine k5:=fL k5 (by simp);have ft:∀ k∈t,Fine k:=fun k h=>fL k (by simp [h])
           have cA:=fun a b c d e f h g=>zdj (gl:=gl) k5 f5 a b c d e f h g
           have hA:=zma k5;obtain ⟨ab,s,m⟩:Bool×Int×Int:=accR k5;generalize accR k5=r at cA hA;obtain ⟨rb,rs,rm⟩:=r;have hT:Rq.z2i (k5::t)=match Rq.zc4 k5 with
            | some a=>some (a,t)
            | none=>none:=by
            simp only [Rq.z2i];rw [←eq5];rfl
           rw [hT,hA] at hI;cases rb with
           | false=>
            simp only [Bool.false_eq_true,if_false] at hI;exact zfE cS c0 p ia ib sr tt u c1 c2 c3 c4 c5 c6 cF cq rs rm cA hI
           | true=>
            simp only [if_true] at hI;have cN:=zdw (gl:=gl) t ft;have cR:=tail rs rm t ft;cases hl:(Rq.z0i t).2.2 with
            | nil=>
             rw [hl] at hI cN;exact zjC cS c0 p ia ib sr tt u c1 c2 c3 c4 c5 c6 cF cq rs rm cA _ _ _ cN cR hI
            | cons y t' =>
             rw [hl] at hI cN;exact zjB cS c0 p ia ib sr tt u c1 c2 c3 c4 c5 c6 cF cq rs rm cA _ _ y t' _ cN cR hI
def inT (n:Nd):T:=match Rq.z0P n with
 | some q=> .tup [infX q (Nt.lim q.serial) (Nt.lim q.nonce),bX true]
 | none=> .tup [z7U 10,bX false]
theorem zfA (n:Nd) (hr:Dr.right n=true) (hf:Fine n):OK gl 69 [nX n] (inT n):=fun W0 im w vals ch lo hI hargs=>
 (zfB n hr hf W0 im w vals ch lo hI hargs).mono (by
  rintro e w' ⟨t,ws,os',⟨⟨x,rfl,h7,hx⟩,rfl,rfl⟩,v,G',rfl,hRT,hInv⟩;unfold inT;cases hq:Rq.z0P n with
  | some q=>
   rw [hq] at hRT;rw [hx q hq] at hRT;exact ⟨v,G',rfl,hRT,hInv⟩
  | none=>
   rw [hq] at hRT;obtain ⟨c0,c1,c2,c3,c4,c5,c6,c7,c8,c9,rfl,_⟩:=h7;refine ⟨v,G',rfl,?_,hInv⟩;obtain ⟨vs,rfl,h1,h2⟩:=hRT;refine ⟨vs,rfl,h1,fun j u y hu hy=>?_⟩;match j with
   | 0=>
    simp at hy;subst hy;exact zhY (h2 0 u _ hu rfl)
   | j+1=>exact h2 (j+1) u y hu (by simpa using hy))
def z6E (b:List UInt8):T:=match (Dr.read b).bind Rq.z0P with
 | some q=> .tup [infX q (Nt.lim q.serial) (Nt.lim q.nonce),iX 0]
 | none=> .tup [z1r,iX 60]
set_option maxHeartbeats 4000000 in
theorem zb8 (b:List UInt8) (hb:b.length≤15000):OK gl 68 [rX (z05 b),fnX 69] (z6E b):=by
 cases hr:Dr.read b with
 | none=>
  have hp:z6E b = .tup [z1r,iX 60]:=by unfold z6E;rw [hr];rfl
  have cR:=z68 (gl:=gl) (by omega) hr;rw [hp];clear hb hr hp;refine z0k Tryz.func68 rfl (by show 2≤_;decide) ?_;unfold Tryz.f68;dsimp only;repeat' (first
   | (first|refine sq_ ?_|refine bk_ ?_)
   | ((first|refine rg_ fun Q hQ=>?_|refine if_ fun Q hQ=>?_|refine ct_ (by first|with_reducible assumption|assumption) ?_|(refine z4o (cR) ?_;rintro t ws os' ⟨⟨x,y,hy,rfl⟩,rfl,rfl⟩));simp -implicitDefEqProofs [*,z1r])
   | ((first|refine bs_ ?_ ?_|refine cs_ ?_ ?_)<;>(intro hc;have hb:=hc;(try simp only [hk_,ne_eq] at hc);(try have ⟨hc1,hc2⟩:_∧_:=hc);(try subst_vars))<;>first|contradiction|(exfalso;omega)|(simp -implicitDefEqProofs [*,z1r])|skip)
   | ((first|(refine atQ hQ ?_;clear hQ)|refine atQ (by assumption) ?_|refine z04 ?_|refine z06 ?_|refine z07 ?_);try simp only [sk_,if_true,if_false,↓reduceIte,Nat.reduceEqDiff])
   | (show EndK _ _ _ _ _ _ _ _;simp -implicitDefEqProofs [*,z1r])
   | ((simp (disch:=omega) only [if_pos,if_neg]);(try (simp -implicitDefEqProofs [*,z1r]))))
 | some n=>
  obtain ⟨h1,h2,h3,h4⟩:=zaY hb hr;have cR:=z67 (gl:=gl) (by omega) hr;have cO:=zfA (gl:=gl) n h1 h2;have hp:z6E b=match Rq.z0P n with
   | some q=> .tup [infX q (Nt.lim q.serial) (Nt.lim q.nonce),iX 0]
   | none=> .tup [z1r,iX 60]:=by unfold z6E;rw [hr];rfl
  rw [hp];unfold inT at cO;cases hq:Rq.z0P n with
  | none=>
   rw [hq] at cO;clear hb hr hp hq h1 h2 h3 h4;refine z0k Tryz.func68 rfl (by show 2≤_;decide) ?_;unfold Tryz.f68;dsimp only;repeat' (first
    | (first|refine sq_ ?_|refine bk_ ?_)
    | ((first|refine rg_ fun Q hQ=>?_|refine if_ fun Q hQ=>?_|refine ct_ (by first|with_reducible assumption|assumption) ?_|(refine z4o (cR) ?_;rintro t ws os' ⟨⟨x,rfl⟩,rfl,rfl⟩));simp -implicitDefEqProofs [*,z1r,z7U,List.replicate])
    | ((first|refine bs_ ?_ ?_|refine cs_ ?_ ?_)<;>(intro hc;have hb:=hc;(try simp only [hk_,ne_eq] at hc);(try have ⟨hc1,hc2⟩:_∧_:=hc);(try subst_vars))<;>first|contradiction|(exfalso;omega)|(simp -implicitDefEqProofs [*,z1r,z7U,List.replicate])|skip)
    | ((first|(refine atQ hQ ?_;clear hQ)|refine atQ (by assumption) ?_|refine z04 ?_|refine z06 ?_|refine z07 ?_);try simp only [sk_,if_true,if_false,↓reduceIte,Nat.reduceEqDiff])
    | (show EndK _ _ _ _ _ _ _ _;simp -implicitDefEqProofs [*,z1r,z7U,List.replicate])
    | ((simp (disch:=omega) only [if_pos,if_neg]);(try (simp -implicitDefEqProofs [*,z1r,z7U,List.replicate]))))
  | some q=>
   rw [hq] at cO;clear hb hr hp hq h1 h2 h3 h4;refine z0k Tryz.func68 rfl (by show 2≤_;decide) ?_;unfold Tryz.f68;dsimp only;repeat' (first
    | (first|refine sq_ ?_|refine bk_ ?_)
    | ((first|refine rg_ fun Q hQ=>?_|refine if_ fun Q hQ=>?_|refine ct_ (by first|with_reducible assumption|assumption) ?_|(refine z4o (cR) ?_;rintro t ws os' ⟨⟨x,rfl⟩,rfl,rfl⟩));simp -implicitDefEqProofs [*])
    | ((first|refine bs_ ?_ ?_|refine cs_ ?_ ?_)<;>(intro hc;have hb:=hc;(try simp only [hk_,ne_eq] at hc);(try have ⟨hc1,hc2⟩:_∧_:=hc);(try subst_vars))<;>first|contradiction|(exfalso;omega)|(simp -implicitDefEqProofs [*])|skip)
    | ((first|(refine atQ hQ ?_;clear hQ)|refine atQ (by assumption) ?_|refine z04 ?_|refine z06 ?_|refine z07 ?_);try simp only [sk_,if_true,if_false,↓reduceIte,Nat.reduceEqDiff])
    | (show EndK _ _ _ _ _ _ _ _;simp -implicitDefEqProofs [*])
    | ((simp (disch:=omega) only [if_pos,if_neg]);(try (simp -implicitDefEqProofs [*]))))
set_option maxHeartbeats 4000000 in
theorem z4Y (b:List UInt8) (hb:b.length≤15000):OK gl 23 [rX (z05 b)] (z6E b):=by
 have cP:=zb8 (gl:=gl) b hb;unfold z6E at cP ⊢;cases hq:(Dr.read b).bind Rq.z0P with
 | none=>
  rw [hq] at cP;refine z0k Tryz.func23 rfl (by show 1≤_;decide) ?_;unfold Tryz.f23;dsimp only;repeat' (first
   | (first|refine sq_ ?_|refine bk_ ?_)
   | ((first|refine rg_ fun Q hQ=>?_|refine if_ fun Q hQ=>?_|refine ct_ (by first|with_reducible assumption|assumption) ?_);simp -implicitDefEqProofs [*,z1r])
   | ((first|refine bs_ ?_ ?_|refine cs_ ?_ ?_)<;>(intro hc;have hb:=hc;(try simp only [hk_,ne_eq] at hc);(try have ⟨hc1,hc2⟩:_∧_:=hc);(try subst_vars))<;>first|contradiction|(exfalso;omega)|(simp -implicitDefEqProofs [*,z1r])|skip)
   | ((first|(refine atQ hQ ?_;clear hQ)|refine atQ (by assumption) ?_|refine z04 ?_|refine z06 ?_|refine z07 ?_);try simp only [sk_,if_true,if_false,↓reduceIte,Nat.reduceEqDiff])
   | (show EndK _ _ _ _ _ _ _ _;simp -implicitDefEqProofs [*,z1r])
   | ((simp (disch:=omega) only [if_pos,if_neg]);(try (simp -implicitDefEqProofs [*,z1r]))))
 | some q=>
  rw [hq] at cP;refine z0k Tryz.func23 rfl (by show 1≤_;decide) ?_;unfold Tryz.f23;dsimp only;repeat' (first
   | (first|refine sq_ ?_|refine bk_ ?_)
   | ((first|refine rg_ fun Q hQ=>?_|refine if_ fun Q hQ=>?_|refine ct_ (by first|with_reducible assumption|assumption) ?_);simp -implicitDefEqProofs [*])
   | ((first|refine bs_ ?_ ?_|refine cs_ ?_ ?_)<;>(intro hc;have hb:=hc;(try simp only [hk_,ne_eq] at hc);(try have ⟨hc1,hc2⟩:_∧_:=hc);(try subst_vars))<;>first|contradiction|(exfalso;omega)|(simp -implicitDefEqProofs [*])|skip)
   | ((first|(refine atQ hQ ?_;clear hQ)|refine atQ (by assumption) ?_|refine z04 ?_|refine z06 ?_|refine z07 ?_);try simp only [sk_,if_true,if_false,↓reduceIte,Nat.reduceEqDiff])
   | (show EndK _ _ _ _ _ _ _ _;simp -implicitDefEqProofs [*])
   | ((simp (disch:=omega) only [if_pos,if_neg]);(try (simp -implicitDefEqProofs [*]))))
end Am
end Go.Proofs.YtgmppconibklcaaGreatDoor

namespace Go.Proofs.YtgmppconibklcaaGreatDoor
namespace Rq
open Dr
theorem zed (v:Int):(intB v).length≤8:=by
 unfold intB;have he:(eight v).length=8:=by simp [eight]
 have:=(z9s (eight v) (by intro h;rw [h] at he;cases he)).2.2;omega
theorem zkM (v:Int):wt (z44 v)≤18:=by
 have:=zed v;unfold z44;rw [wt,wts];omega
theorem zke (v:Int):wt (intN v)≤18:=by
 have:=zed v;unfold intN;rw [z25];omega
theorem zkP (s m:Int):wts (accN s m)≤46:=by
 have h1:=z6e (decide (0<s)) (intN s);have h2:=z6e (decide (0<m)) (z44 m);have h3:=z6e (decide (0<s∨0<m)) (seq (z0F s m));have h4:=zke s;have h5:=zkM m;have h6:wt (seq (z0F s m))≤46:=by
  unfold z0F;rw [z3h,z3g];omega
 unfold accN;omega
theorem ze7 {t u:Int} {l:Bs} (h:z3a t u=some l):l.length≤1000:=by
 have h1:=z3r h;unfold Pr.z1q at h1;split at h1
 ·rename_i hf;have:=hf.1.2.1;omega
 ·cases h1
theorem z9T {i:Info} (h:z0l i=true):Nt.bl i.serial≤64∧Nt.bl i.nonce≤160:=by
 unfold z0l z0J at h;simp only [Bool.and_eq_true,decide_eq_true_eq] at h;exact ⟨h.2.1.1.1.1.1.2,ze3 h.2.2⟩
theorem zkO {i:Info} (h:z0l i=true):wt (z0g i)≤i.policy.length+i.alg.length+i.impr.length+1300:=by
 obtain ⟨h1,h2⟩:=z9T h;have a1:=z6W i.policy;have a2:=zdo i.alg i.impr;have a3:=zc9 (a:=i.serial) (by omega);have a4:=zc9 h2;have a5:=zkP i.secs i.millis;have a6:=z6e i.has (natN i.nonce);have a7:=zke 1;have a8:((z3a i.time i.micros).getD []).length≤1000:=by
  cases hl:z3a i.time i.micros with
  | none=>simp
  | some l=>exact ze7 hl
 unfold z0g;rw [z3h,wts,wts,wts,wts,wts,z3g,z25];omega
theorem zbR {a:Nat} (h:Nt.bl a≤160):deep (natN a)≤1:=by
 unfold natN;rw [if_neg (by omega),z10];omega
theorem zhW {i:Info} (h:z0l i=true):deep (z0g i)≤4:=by
 obtain ⟨h1,h2⟩:=z9T h;have d1:=zbR (a:=i.serial) (by omega);have d2:=zbR h2;have hi:∀ v,deep (intN v)≤1:=fun v=>by unfold intN;rw [z10];omega
 have ho:deep (oidN i.policy)≤1:=by unfold oidN;rw [z10];omega
 have hm:deep (z44 i.millis)≤1:=by unfold z44;rw [deep,z0U];omega
 have himp:deep (impN i.alg i.impr)≤3:=by
  unfold impN;refine z2Y fun k hk=>?_
  simp only [List.mem_cons,List.not_mem_nil,or_false] at hk;rcases hk with rfl|rfl
  ·refine z2Y (m:=1) fun k hk=>?_
   simp only [List.mem_cons,List.not_mem_nil,or_false] at hk;subst hk;unfold oidN;rw [z10];omega
  ·rw [z10];omega
 have hacc:∀ k∈accN i.secs i.millis,deep k≤3:=by
  unfold accN;refine z2Z ?_;have:=z2Y (l:=z0F i.secs i.millis) (m:=1) (fun k hk=>by
   unfold z0F at hk;rcases List.mem_append.1 hk with hk|hk
   ·exact z2Z (hi _) k hk
   ·exact z2Z hm k hk)
  omega
 unfold z0g;refine z2Y fun k hk=>?_
 simp only [List.mem_cons,List.mem_append] at hk;rcases hk with rfl|rfl|rfl|rfl|rfl|hk|hk
 ·have:=hi 1;omega
 ·omega
 ·exact himp
 ·omega
 ·rw [z10];omega
 ·exact hacc k hk
 ·exact z2Z (by omega) k hk
theorem zfz {i:Info} (h:z0l i=true) (hz:i.policy.length+i.alg.length+i.impr.length≤3000):∃ o,put (z0g i)=some o∧write (z0g i)=(o,0)∧o.length≤4300∧wt (z0g i)≤4300∧deep (z0g i)≤32:=by
 have hr:=zfj h;unfold right at hr;obtain ⟨o,ho⟩:=Option.isSome_iff_exists.1 hr;have hw:=zkO h;have hp:=z9D _ ho (by omega);have hd:=zhW h;refine ⟨o,ho,?_,by omega,by omega,by omega⟩;unfold write;rw [ho];simp only;rw [if_neg (by omega),if_neg (by omega)]
end Rq
end Go.Proofs.YtgmppconibklcaaGreatDoor

namespace Go.Proofs.YtgmppconibklcaaGreatDoor
open Go Go.RowKit
namespace Am
variable {gl:Nat→Option (List D)}
theorem z3t {a k:Nat} (h:Nt.bl a≤32*k):(Nt.lim a).length≤k:=by
 refine Nt.zcP ?_;have h1:=Nt.zi9 a;have h2:(2:Nat)^Nt.bl a≤2^(32*k):=Nat.pow_le_pow_right (by decide) h;have h3:(2:Nat)^(32*k)=Nt.B^k:=by rw [Nat.pow_mul];rfl
 omega
theorem zgz (q:Rq.Req):reqX q=reqY q (Nt.lim q.nonce):=by
 show E.agg [_,_,_,_,.d (limD _),_,_]=_;rw [z60]
def zg3:Rq.Req:=⟨[],[],[],false,0,false,[]⟩
theorem zeP:z11=reqY zg3 []:=rfl
def zg4:Rq.Info:=⟨[],[],[],0,0,0,0,0,false,0⟩
theorem zeQ:z1r=infX zg4 [] []:=rfl
theorem zdJ:Dr.read []=none:=by kernel_rfl
theorem zlk {i:Rq.Info} {o:List UInt8} (h:Rq.z0l i=true) (ho:Dr.put (Rq.z0g i)=some o) (hl:o.length≤4300) (hd:Dr.deep (Rq.z0g i)≤32):z6E o = .tup [infX i (Nt.lim i.serial) (Nt.lim i.nonce),iX 0]:=by
 have hr:Dr.read o=some (Rq.z0g i):=(Dr.z4u o _).2 ⟨ho,hd,by omega⟩;unfold z6E;rw [hr];simp only [Option.bind_some,Rq.zcW h]
theorem zkS (i:Rq.Info) (sl nl:List Nat) (hs:Nt.Lb sl) (hn:Nt.Lb nl) (hsv:Nt.vl sl=i.serial) (hnv:Nt.vl nl=i.nonce) (hsz:sl.length≤100000) (hnz:nl.length≤100000)
  (hp:i.policy.length≤90000) (ha:i.alg.length≤90000) (hi:i.impr.length≤90000) (hm0: -9223372036854775808≤i.secs∧i.secs≤9223372036854775807) (hm1: -9223372036854775808≤i.millis∧i.millis≤9223372036854775807) (o:List UInt8) (ho:Rq.z0l i=true→Dr.put (Rq.z0g i)=some o∧Dr.write (Rq.z0g i)=(o,0)∧Dr.wt (Rq.z0g i)≤40000):
  OK gl 22 [infX i sl nl] (.tup [rX (z05 (if Rq.z0l i=true then o else [])),iX (if Rq.z0l i=true then 0 else 60)]):=by
 have h:=zar (gl:=gl) i sl nl hs hn hsv hnv hsz hnz hp ha hi hm0 hm1 (fun hr=>by
  obtain ⟨h1,h2,h3⟩:=ho hr;refine ⟨⟨by omega,?_⟩,by rw [h2,h1];rfl⟩;have:=Rq.zly (Rq.z0g i);omega) (fun l hl=>Rq.ze7 hl)
 cases hr:Rq.z0l i with
 | true=>
  rw [hr] at h;obtain ⟨h1,_,_⟩:=ho hr;rw [h1] at h;exact h
 | false=>rw [hr] at h;exact h
structure zmb (q:Rq.Req) (ls:List Nat) (i:Rq.Info) (sl nl:List Nat):Prop where
 a1:q.alg.length≤140737488355328
 a2:q.impr.length≤140737488355328
 a3:q.policy.length≤140737488355328
 a4:ls.length≤140737488355328
 a5:q.exts.length≤140737488355328
 a6:∀ e∈q.exts,e.oid.length≤140737488355328∧e.val.length≤140737488355328
 b1:i.policy.length≤140737488355328
 b2:i.alg.length≤140737488355328
 b3:i.impr.length≤140737488355328
 b4:sl.length≤140737488355328
 b5:nl.length≤140737488355328
 c1: -9223372036854775808≤i.secs∧i.secs≤9223372036854775807
 c2: -9223372036854775808≤i.millis∧i.millis≤9223372036854775807
theorem zcg (q:Rq.Req) (ls:List Nat) (i:Rq.Info) (sl nl:List Nat) (fail:Int) (b:List UInt8) (hz:zmb q ls i sl nl) (hL:Nt.Lb ls) (hv:Nt.vl ls=q.nonce) (hS:Nt.Lb sl) (hsv:Nt.vl sl=i.serial) (hN:Nt.Lb nl) (hnv:Nt.vl nl=i.nonce):
  OK gl 5 [reqY q ls,infX i sl nl,iX fail,rX (z05 b)] (.b true):=by
 have cL:=lLong (gl:=gl) q ls (zj5 q ls hz.a1 hz.a2 hz.a3 hz.a4 hz.a5 hz.a6);have cW:=lWordy (gl:=gl) i sl nl hz.b1 hz.b2 hz.b3 hz.b4 hz.b5;by_cases h1:szQ q ls>6000
 ·exact z83 q ls i sl nl fail b _ _ cL cW (.inl (decide_eq_true h1))
 rw [decide_eq_false h1] at cL;by_cases h2:szI i sl nl>3000
 ·exact z83 q ls i sl nl fail b _ _ cL cW (.inr (.inl ⟨rfl,decide_eq_true h2⟩))
 rw [decide_eq_false h2] at cW;by_cases h3:4000<b.length
 ·exact z83 q ls i sl nl fail b _ _ cL cW (.inr (.inr ⟨rfl,rfl,h3⟩))
 have hq:=zkj q.exts ((q.alg.length:Int)+q.impr.length+q.policy.length+4*(ls.length:Int)) (by unfold szQ at h1;omega);have hq1:Rq.z2z q≤6000:=by unfold Rq.z2z;omega
 have hq2:ls.length≤1500:=by omega
 have hq3:q.exts.length≤6000:=by have:=Rq.z9c q.exts;omega
 have hi:i.policy.length+i.alg.length+i.impr.length+4*sl.length+4*nl.length≤3000:=by unfold szI at h2;omega
 clear h1 h2
 /- the request -/
 obtain ⟨x,e,f,q1,ls1,r,A1,A2,A3,A4⟩:∃ x e f q1 ls1 r,OK gl 8 [reqY q ls] (.tup [rX (z05 x),iX e])∧OK gl 10 [rX (z05 x)] (.tup [reqY q1 ls1,iX f])∧OK gl 13 [reqY q1 ls1,reqY q ls] (.b r)∧(e=0→f=0∧r=true):=by
  have cWR:=z7a (gl:=gl) q ls (Rq.z7L hq1) hL hv (by omega);cases hr:Rq.z0q q with
  | true=>
   rw [hr] at cWR;obtain ⟨g1,g2,g3⟩:=zgQ hr hq1;have cP:=z3K (gl:=gl) _ g2;rw [g3,zgz] at cP;have hn:(Nt.lim q.nonce).length≤5:=z3t (by have:=Rq.z3G hr;omega);refine ⟨_,_,_,_,_,_,cWR,cP,zdM q q (Nt.lim q.nonce) ls (Nt.z2U _) hL (by omega) (by omega) (by omega),fun _=>⟨rfl,?_⟩⟩;have hc:cmpN (Nt.lim q.nonce) ls=0:=(z7W (Nt.z2U _) hL).2 (by rw [Nt.z4j,hv]);simp [z1Z,hc,z8C]
  | false=>
   rw [hr] at cWR;have cP:=z3K (gl:=gl) [] (by decide);have hp:z5U [] = .tup [z11,iX 60]:=by unfold z5U;rw [zdJ];rfl
   rw [hp,zeP] at cP;exact ⟨_,_,_,_,_,_,cWR,cP,zdM zg3 q [] ls Nt.Lb.nil hL (by decide) (by omega) (by decide),fun h=>by cases h⟩
 /- what a token says -/
 obtain ⟨y,g,k,i1,sl1,nl1,r1,B1,B2,B3,B4⟩:∃ y g k i1 sl1 nl1 r1,OK gl 22 [infX i sl nl] (.tup [rX (z05 y),iX g])∧OK gl 23 [rX (z05 y)] (.tup [infX i1 sl1 nl1,iX k])∧OK gl 24 [infX i sl nl,infX i1 sl1 nl1] (.b r1)∧(g=0→k=0∧r1=true):=by
  cases hr:Rq.z0l i with
  | true=>
   obtain ⟨o,o1,o2,o3,o4,o5⟩:=Rq.zfz hr (by omega);have cWI:=zkS (gl:=gl) i sl nl hS hN hsv hnv (by omega) (by omega) (by omega) (by omega) (by omega) hz.c1 hz.c2 o (fun _=>⟨o1,o2,by omega⟩);rw [hr] at cWI;have cP:=z4Y (gl:=gl) o (by omega);rw [zlk hr o1 o3 o5] at cP;obtain ⟨l1,l2⟩:=Rq.z9T hr;have n1:(Nt.lim i.serial).length≤2:=z3t (by omega);have n2:(Nt.lim i.nonce).length≤5:=z3t (by omega);refine ⟨_,_,_,_,_,_,_,cWI,cP,zb1 i i sl (Nt.lim i.serial) nl (Nt.lim i.nonce) hS (Nt.z2U _) hN (Nt.z2U _) (by omega) (by omega) (by omega) (by omega),fun _=>⟨rfl,?_⟩⟩;have hc:cmpN sl (Nt.lim i.serial)=0:=(z7W hS (Nt.z2U _)).2 (by rw [Nt.z4j,hsv]);have hd:cmpN nl (Nt.lim i.nonce)=0:=(z7W hN (Nt.z2U _)).2 (by rw [Nt.z4j,hnv]);simp [z8D,hc,hd]
  | false=>
   have cWI:=zkS (gl:=gl) i sl nl hS hN hsv hnv (by omega) (by omega) (by omega) (by omega) (by omega) hz.c1 hz.c2 [] (fun h=>by rw [hr] at h;cases h);rw [hr] at cWI;have cP:=z4Y (gl:=gl) [] (by decide);have hp:z6E [] = .tup [z1r,iX 60]:=by unfold z6E;rw [zdJ];rfl
   rw [hp,zeQ] at cP;exact ⟨_,_,_,_,_,_,_,cWI,cP,zb1 i zg4 sl [] nl [] hS Nt.Lb.nil hN Nt.Lb.nil (by omega) (by decide) (by omega) (by decide),fun h=>by cases h⟩
 /- the rejection -/
 obtain ⟨z,o,u,s1,f1,k1,r2,C1,C2,C3,C4⟩:∃ z o u s1 f1 k1 r2,OK gl 16 [rspX 2 fail []] (.tup [rX (z05 z),iX o])∧OK gl 18 [rX (z05 z)] (.tup [rspX s1 f1 k1,iX u])∧OK gl 20 [rspX s1 f1 k1,rspX 2 fail []] (.b r2)∧(o=0→u=0∧r2=true):=by
  cases hf:z22 fail with
  | true=>
   obtain ⟨_,_,g3,_⟩:=zdI (gl:=gl) fail hf;exact ⟨_,_,_,_,_,_,_,g3,zdT fail hf,zb0 2 fail [] 2 fail [],fun _=>⟨rfl,by simp⟩⟩
  | false=>exact ⟨_,_,_,_,_,_,_,zaq fail hf,zgS,zb0 0 0 [] 2 fail [],fun h=>by cases h⟩
 /- any bytes -/
 obtain ⟨m,q2,ls2,D1,D2⟩:∃ m q2 ls2,OK gl 10 [rX (z05 b)] (.tup [reqY q2 ls2,iX m])∧(m=0→OK gl 8 [reqY q2 ls2] (.tup [rX (z05 b),iX 0])):=by
  have cP:=z3K (gl:=gl) b (by omega);unfold z5U at cP;cases hb:(Dr.read b).bind Rq.z3H with
  | none=>
   rw [hb] at cP;exact ⟨60,zg3,[],cP,fun h=>by cases h⟩
  | some c=>
   rw [hb] at cP;obtain ⟨n,hn,hc⟩:=Option.bind_eq_some_iff.1 hb;obtain ⟨hp,_,_⟩:=(Dr.z4u b n).1 hn;obtain ⟨hr,hnode⟩:=Rq.zfk (Dr.z8I hn) hc;have hw:=Rq.zgM n hp;have cWR:=z7a (gl:=gl) c (Nt.lim c.nonce) (Rq.zd0 hr (by rw [hnode];omega)) (Nt.z2U _) (Nt.z4j _) (Nat.le_trans (z3t (k:=5) (by have:=Rq.z3G hr;omega)) (by decide));rw [hr,hnode,hp] at cWR;refine ⟨0,c,Nt.lim c.nonce,?_,fun _=>cWR⟩;rw [←zgz];exact cP
 obtain ⟨m',i2,sl2,nl2,E1,E2⟩:∃ m' i2 sl2 nl2,OK gl 23 [rX (z05 b)] (.tup [infX i2 sl2 nl2,iX m'])∧(m'=0→OK gl 22 [infX i2 sl2 nl2] (.tup [rX (z05 b),iX 0])):=by
  have cP:=z4Y (gl:=gl) b (by omega);unfold z6E at cP;cases hb:(Dr.read b).bind Rq.z0P with
  | none=>
   rw [hb] at cP;exact ⟨60,zg4,[],[],cP,fun h=>by cases h⟩
  | some c=>
   rw [hb] at cP;obtain ⟨n,hn,hc⟩:=Option.bind_eq_some_iff.1 hb;obtain ⟨hp,hdp,hbl⟩:=(Dr.z4u b n).1 hn;obtain ⟨hr,hnode⟩:=Rq.zcV (Dr.z8I hn) hc;have hw:=Rq.zgM n hp;obtain ⟨l1,l2⟩:=Rq.z9T hr;have n1:(Nt.lim c.serial).length≤2:=z3t (by omega);have n2:(Nt.lim c.nonce).length≤5:=z3t (by omega);have hr':=hr;unfold Rq.z0l Rq.z0J at hr';simp only [Bool.and_eq_true,decide_eq_true_eq] at hr';obtain ⟨⟨⟨p1,p2⟩,_⟩,⟨⟨⟨⟨⟨_,_⟩,p3⟩,p4⟩,p5⟩,p6⟩,_⟩:=hr';obtain ⟨p7,p8,p9⟩:=Rq.z7F p2;have hkids:∀ k∈(Rq.z0g c).kids,Dr.wt k≤Dr.wts (Rq.z0g c).kids:=fun k hk=>Rq.zg7 hk
   have hwk:=Rq.zkN (Rq.z0g c);rw [hnode] at hkids hwk;have s1:=hkids (Rq.oidN c.policy) (by rw [←hnode];unfold Rq.z0g;simp [Dr.seq]);have s2:=hkids (Rq.impN c.alg c.impr) (by rw [←hnode];unfold Rq.z0g;simp [Dr.seq]);have s3:Dr.wt (Rq.oidN c.alg)≤Dr.wt (Rq.impN c.alg c.impr):=by
    unfold Rq.impN;rw [Dr.z3h,Dr.wts,Dr.z3h,Dr.wts];omega
   have t1:=Rq.zh0 p1;have t2:=Rq.zh0 p7;have hwr:Dr.write (Rq.z0g c)=(b,0):=by
    rw [hnode];unfold Dr.write;rw [hp];simp only;rw [if_neg (by omega),if_neg (by omega)]
   have cWI:=zkS (gl:=gl) c (Nt.lim c.serial) (Nt.lim c.nonce) (Nt.z2U _) (Nt.z2U _) (Nt.z4j _) (Nt.z4j _) (by omega) (by omega) (by omega) (by omega) (by omega) ⟨by omega,by omega⟩ ⟨by omega,by omega⟩ b (fun _=>⟨by rw [hnode];exact hp,hwr,by rw [hnode];omega⟩);rw [hr] at cWI;exact ⟨0,c,Nt.lim c.serial,Nt.lim c.nonce,cP,fun _=>cWI⟩
 exact zm3 q ls i sl nl fail b cL cW (by omega) x e f q1 ls1 r A1 A2 A3 A4 y g k i1 sl1 nl1 r1 B1 B2 B3 B4 z o u s1 f1 k1 r2 C1 C2 C3 C4 m 0 q2 ls2 [] true D1 D2 m' i2 sl2 nl2 E1 E2
end Am
end Go.Proofs.YtgmppconibklcaaGreatDoor

namespace Go.Proofs.YtgmppconibklcaaGreatDoor
open Go Go.RowKit
inductive Shp (P:Program) (R:Nat):TypeId→List D→Prop
 | bool (t:TypeId) (b:Bool) (h:P.underlying t=some .bool):Shp P R t [.leaf (.bool b)]
 | int (t:TypeId) (k:IntKind) (n:Int) (h:P.underlying t=some (.int k)) (w:(Lit.int k n).wf=true):Shp P R t [.leaf (.int k n)]
 | str (t:TypeId) (s:ByteArray) (h:P.underlying t=some .string) (w:s.size≤R):Shp P R t [.leaf (.string s)]
 | slice (t e:TypeId) (xs:List (List D)) (h:P.underlying t=some (.slice e)) (hl:∀ x∈xs,x.length=P.cellsOf e) (hs:∀ x∈xs,Shp P R e x) (w:xs.length*P.bytesOf e≤R):Shp P R t [.row (P.cellsOf e) xs.flatten]
 | struct (t:TypeId) (fs:Array Field) (ds:List D) (h:P.underlying t=some (.struct fs)) (hl:ds.length=P.cellsOf t) (hs:∀ f∈fs.toList,Shp P R f.type ((ds.drop f.offset).take (P.cellsOf f.type))):Shp P R t ds
section
variable (P:Program)
def zay (m:Nat):List Field→Nat→Bool
 | [],n=>n==m
 | f::r,n=>f.offset==n&&zay m r (n+P.cellsOf f.type)
def zi5 (S:List TypeId):Bool:=S.all fun t=>match P.underlying t with
 | some .bool=>P.cellsOf t==1
 | some (.int _)=>P.cellsOf t==1
 | some .string=>P.cellsOf t==1
 | some (.slice e)=>S.contains e&&decide (0<P.cellsOf e)&&P.cellsOf t==1
 | some (.struct fs)=>fs.toList.all (fun f=>S.contains f.type)&&zay P (P.cellsOf t) fs.toList 0
 | _=>false
variable {P}
theorem zds {m:Nat}:∀ {l:List Field} {n:Nat},zay P m l n=true→n≤m
 | [],n,h=>by simp [zay] at h;omega
 | f::r,n,h=>by
  simp only [zay,Bool.and_eq_true] at h;have:=zds h.2;omega
theorem z0v.len {w:World} {Av:Nat→Prop} {us:List Value} {ds:List D} (h:z0v w Av us ds):us.length=ds.length:=h.1
theorem zdt {R:Nat} {w:World} {Av:Nat→Prop} {cs:List Value} {m:Nat} (hm:cs.length=m):∀ (l:List Field) (n:Nat),zay P m l n=true →
  (∀ f∈l,∃ ds,z0v w Av ((cs.drop f.offset).take (P.cellsOf f.type)) ds∧Shp P R f.type ds)→∃ ds,z0v w Av (cs.drop n) ds∧∀ f∈l,n≤f.offset∧Shp P R f.type ((ds.drop (f.offset-n)).take (P.cellsOf f.type))
 | [],n,h,_=>by
  simp only [zay,beq_iff_eq] at h;refine ⟨[],?_,fun f hf=>by cases hf⟩;rw [List.drop_eq_nil_of_le (by omega)];exact ⟨rfl,fun j u d hu=>by simp at hu⟩
 | f::r,n,h,hf=>by
  simp only [zay,Bool.and_eq_true,beq_iff_eq] at h;obtain ⟨h1,h2⟩:=h;have hle:=zds h2;obtain ⟨d1,a1,s1⟩:=hf f (by simp);obtain ⟨d2,a2,s2⟩:=zdt hm r _ h2 fun g hg=>hf g (List.mem_cons_of_mem _ hg)
  have hl1:d1.length=P.cellsOf f.type:=by
   rw [←a1.1,List.length_take,List.length_drop];omega
  refine ⟨d1++d2,?_,fun g hg=>?_⟩
  ·have e:cs.drop n=(cs.drop n).take (P.cellsOf f.type)++cs.drop (n+P.cellsOf f.type):=by
    rw [←List.drop_drop,List.take_append_drop]
   rw [e];rw [h1] at a1;exact a1.app a2
  ·rcases List.mem_cons.1 hg with rfl|hg
   ·refine ⟨by omega,?_⟩;rw [h1,Nat.sub_self,List.drop_zero,←hl1,List.take_left];exact s1
   ·obtain ⟨b1,b2⟩:=s2 g hg;refine ⟨by omega,?_⟩;have e:g.offset-n=d1.length+(g.offset-(n+P.cellsOf f.type)):=by omega
    rw [e,←List.drop_drop,List.drop_left];exact b2
theorem add_add (a:Addr) (i j:Nat):(a.add i).add j=a.add (i+j):=by
 unfold Addr.add;by_cases hi:i=0<;>by_cases hj:j=0<;>simp [hi,hj,Nat.add_assoc]
variable {H:Type} {enc:TypeId×Value→H} {w:World} {held:Bool}
theorem z5c {e:TypeId}:∀ {l:List (DataW H)} {d:DataW H},d∈l→∀ {n:Nat},n∈d.weights P e→n∈DataW.weightsAll P e l
 | x::r,d,hm,n,hn=>by
  rw [DataW.weightsAll];rcases List.mem_cons.1 hm with rfl|hm
  ·exact List.mem_append_left _ hn
  ·exact List.mem_append_right _ (z5c hm hn)
theorem z6K {R:Nat} {S:List TypeId} (hS:zi5 P S=true):∀ (fuel:Nat) (t:TypeId) (cs:List Value) (x:DataW H×List MemPlace),t∈S→DataW.trod enc P w 0 (fun _=>true) held fuel t cs=some x→(∀ n∈x.1.weights P t,n≤R) →
  ∃ ds,z0v w (fun _=>False) cs ds∧Shp P R t ds∧ds.length=P.cellsOf t
 | 0,t,cs,x,ht,h,hw=>by simp [DataW.trod] at h
 | fuel+1,t,cs,x,ht,h,hw=>by
  have hc:=List.all_eq_true.1 hS t ht;cases hu:P.underlying t with
  | none=>rw [hu] at hc;cases hc
  | some u=>
   rw [hu] at hc;cases u with
   | bool=>
    obtain ⟨b,rfl,rfl⟩:=DataW.trod_bool hu h;simp only [beq_iff_eq] at hc;exact ⟨_,z0v.z0D (.leaf _) .nil_,.bool t b hu,by rw [hc];rfl⟩
   | int k=>
    obtain ⟨n,rfl,rfl,hwf⟩:=DataW.trod_int hu h;simp only [beq_iff_eq] at hc;exact ⟨_,z0v.z0D (.leaf _) .nil_,.int t k n hu hwf,by rw [hc];rfl⟩
   | string=>
    obtain ⟨s,rfl,rfl,_⟩:=DataW.trod_string hu h;simp only [beq_iff_eq] at hc;have:s.data.toList.length≤R:=hw _ (by rw [DataW.weights.eq_def];exact List.mem_singleton.2 rfl);exact ⟨_,z0v.z0D (.leaf _) .nil_,.str t s hu (by show s.data.size≤R;rw [←Array.length_toList];exact this),by rw [hc];rfl⟩
   | slice e=>
    simp only [Bool.and_eq_true,decide_eq_true_eq,beq_iff_eq] at hc;obtain ⟨⟨he,hz⟩,hc1⟩:=hc;have he':e∈S:=by simpa using he
    rcases DataW.trod_slice hu h with ⟨rfl,rfl⟩|⟨a,len,cap,elems,rest,n,hn,rfl,rfl,hb,hlc,hm,hlen,hel,_,_⟩
    ·have hs:Shp P R t [.row (P.cellsOf e) ([]:List (List D)).flatten]:= .slice t e [] hu (fun x h=>by cases h) (fun x h=>by cases h) (by simp);exact ⟨_,z0v.z0D (Is.row_ (us:=[]) (by simp) hz (by simp) ⟨rfl,fun j u d hu=>by simp at hu⟩ (fun h=>by simp at h)) .nil_,hs,by rw [hc1];rfl⟩
    ·injection hn with hn;subst hn;have hwt:∀ m,m∈(elems.length+rest.length)*P.bytesOf e::(DataW.weightsAll P e (elems.map (·.1))++DataW.weightsAll P e (rest.map (·.1)))→m≤R:=fun m hm=>hw m (by
      rw [DataW.weights.eq_def];simp only [hu,List.length_map];exact hm)
     have each:∀ i,i<len→∃ ds:List D,ds.length=P.cellsOf e∧Shp P R e ds∧∀ j d,ds[j]? = some d→∃ u,w.cell? (a.add (i*P.cellsOf e+j))=some u∧Is w (fun _=>False) u d:=by
      intro i hi;have h1:=hel i hi;have hi':i<elems.length:=by omega
      rw [List.getElem?_eq_getElem hi',Option.bind_eq_some_iff] at h1;obtain ⟨cs',hcs,hy⟩:=h1;obtain ⟨_,hl',hcell⟩:=World.cells?_some hcs;obtain ⟨ds,h2,h3,h4⟩:=z6K hS fuel e cs' _ he' hy fun m hm=>hwt m (List.mem_cons_of_mem _ (List.mem_append_left _ (z5c (List.mem_map.2 ⟨_,List.getElem_mem hi',rfl⟩) hm)))
      refine ⟨ds,h4,h3,fun j d hd=>?_⟩;have hj:j<ds.length:=(List.getElem?_eq_some_iff.1 hd).1;have hj':j<cs'.length:=by rw [h2.1];exact hj
      have h5:=hcell j (by omega);rw [add_add,List.getElem?_eq_getElem hj'] at h5;exact ⟨_,h5,h2.2 j _ d (List.getElem?_eq_getElem hj') hd⟩
     let g:Nat→List D:=fun i=>if h:i<len then Classical.choose (each i h) else List.replicate (P.cellsOf e) (.leaf (.bool false))
     have hg:∀ i,(h:i<len)→g i=Classical.choose (each i h):=fun i h=>dif_pos h
     have hgl:∀ i,(g i).length=P.cellsOf e:=fun i=>by
      by_cases hi:i<len
      ·rw [hg i hi];exact (Classical.choose_spec (each i hi)).1
      ·show (if h:i<len then _ else _:List D).length=_;rw [dif_neg hi,List.length_replicate]
     have hflat:((List.range len).flatMap g).length=len*P.cellsOf e:=by rw [z1K hgl,List.length_range]
     have cellAt:∀ j d,((List.range len).flatMap g)[j]? = some d→∃ u,w.cell? (a.add j)=some u∧Is w (fun _=>False) u d:=by
      intro j d hd;have hj:j<len*P.cellsOf e:=by rw [←hflat];exact (List.getElem?_eq_some_iff.1 hd).1
      have hi:j / P.cellsOf e<len:=Nat.div_lt_of_lt_mul (by rw [Nat.mul_comm];exact hj);have hat:=z63 hgl (List.range len) (j / P.cellsOf e) (by rw [List.length_range];exact hi);rw [List.getElem_range] at hat;have hr:j%P.cellsOf e<P.cellsOf e:=Nat.mod_lt _ hz;have e1:j / P.cellsOf e*P.cellsOf e+j%P.cellsOf e=j:=Nat.div_add_mod' _ _;have hd2:(g (j / P.cellsOf e))[j%P.cellsOf e]? = some d:=by
       rw [←hat,List.getElem?_take,if_pos hr,List.getElem?_drop,e1,hd]
      rw [hg _ hi] at hd2;obtain ⟨u,h5,h6⟩:=(Classical.choose_spec (each _ hi)).2.2 _ d hd2;rw [e1] at h5;exact ⟨u,h5,h6⟩
     have hsp:len≠0→∃ b o,a=⟨b,o,none⟩:=fun h0=>by
      have h1:0<len*P.cellsOf e:=Nat.mul_pos (by omega) hz;have h2:(((List.range len).flatMap g)[0]?).isSome:=by rw [List.getElem?_eq_getElem (by rw [hflat];exact h1)];rfl
      obtain ⟨d,hd⟩:=Option.isSome_iff_exists.1 h2;obtain ⟨u,h3,_⟩:=cellAt 0 d hd;have h4:=World.cell?_spot h3;obtain ⟨b,o,sp⟩:=a;simp [Addr.add] at h4;subst h4;exact ⟨b,o,rfl⟩
     have hS2:Shp P R t [.row (P.cellsOf e) ((List.range len).map g).flatten]:=by
      refine .slice t e _ hu (fun x hx=>?_) (fun x hx=>?_) ?_
      ·obtain ⟨i,_,rfl⟩:=List.mem_map.1 hx;exact hgl i
      ·obtain ⟨i,hi,rfl⟩:=List.mem_map.1 hx;have hi:=List.mem_range.1 hi;rw [hg i hi];exact (Classical.choose_spec (each i hi)).2.1
      ·have:=hwt _ List.mem_cons_self;rw [List.length_map,List.length_range];rw [hlen] at this;exact Nat.le_trans (Nat.mul_le_mul_right _ (Nat.le_add_right _ _)) this
     refine ⟨_,z0v.z0D ?_ .nil_,hS2,by rw [hc1];rfl⟩;have ef:((List.range len).map g).flatten=(List.range len).flatMap g:=by rw [List.flatMap_def]
     rw [ef];have hget:∀ j,j<len*P.cellsOf e→∃ u d,w.cell? (a.add j)=some u∧((List.range len).flatMap g)[j]? = some d∧Is w (fun _=>False) u d:=fun j hj=>by
      have h2:((List.range len).flatMap g)[j]? = some (((List.range len).flatMap g)[j]'(by rw [hflat];exact hj)):=List.getElem?_eq_getElem _;obtain ⟨u,h3,h4⟩:=cellAt j _ h2;exact ⟨u,_,h3,h2,h4⟩
     let us:List Value:=(List.range (len*P.cellsOf e)).map fun j=>(w.cell? (a.add j)).getD (.bool false)
     have hus:∀ j u,us[j]? = some u→w.cell? (a.add j)=some u:=fun j u hu=>by
      have hj:j<len*P.cellsOf e:=by have:=(List.getElem?_eq_some_iff.1 hu).1;simpa [us] using this
      obtain ⟨u',d,h1,_,_⟩:=hget j hj;simp only [us,List.getElem?_map,List.getElem?_range hj,Option.map_some,h1,Option.getD_some,Option.some.injEq] at hu;rw [h1,hu]
     refine Is.row_ (us:=us) hflat hz hlc ⟨by simp [us,hflat],fun j u d hu hd=>?_⟩ fun h0=>?_
     ·obtain ⟨u',h1,h2⟩:=cellAt j d hd;have:=hus j u hu;rw [h1] at this;injection this with this;subst this;exact h2
     ·obtain ⟨b,o,rfl⟩:=hsp (by omega);refine ⟨b,o,rfl,id,fun j u hu=>?_⟩;have:=hus j u hu;unfold Addr.add at this;split at this
      ·rename_i hj;subst hj;exact this
      ·exact this
   | struct fs=>
    simp only [Bool.and_eq_true] at hc;obtain ⟨xs,n,hn,rfl,hl,hxl,hx⟩:=DataW.trod_struct hu h;injection hn with hn;subst hn;obtain ⟨ds,h1,h2⟩:=zdt (P:=P) (R:=R) (w:=w) (Av:=fun _=>False) hl fs.toList 0 hc.2 fun f hf=>by
     obtain ⟨i,hi⟩:=List.getElem?_of_mem hf;have hi':fs[i]? = some f:=by rw [←hi];simp
     have h3:=hx i f hi';have hi2:i<xs.length:=by
      have:=(List.getElem?_eq_some_iff.1 hi).1;rw [hxl];simpa using this
     rw [List.getElem?_eq_getElem hi2] at h3;have hfS:f.type∈S:=by have:=List.all_eq_true.1 hc.1 f hf;simpa using this
     obtain ⟨d,h4,h5,_⟩:=z6K hS fuel f.type _ _ hfS h3 fun m hm=>hw m (by
      rw [DataW.weights.eq_def];simp only [hu];exact DataW.weights_mem_each (j:=i) (t:=f.type) (d:=xs[i].1) (by rw [List.getElem?_map,hi];rfl) (by rw [List.getElem?_map,List.getElem?_eq_getElem hi2];rfl) m hm)
     exact ⟨d,h4,h5⟩
    rw [List.drop_zero] at h1;have hdl:ds.length=P.cellsOf t:=by rw [←h1.1,hl]
    exact ⟨ds,h1,.struct t fs ds hu hdl fun f hf=>by have:=(h2 f hf).2;rwa [Nat.sub_zero] at this,hdl⟩
   | _=>cases hc
end
end Go.Proofs.YtgmppconibklcaaGreatDoor

