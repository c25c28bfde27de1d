/- Part of the proof. No condition. -/
import Derived.Test.YtgmppconibklcaaGreatDoorM28
set_option maxHeartbeats 40000000
set_option maxRecDepth 100000
set_option linter.unusedVariables false
set_option linter.unusedSimpArgs false
namespace Go.Proofs.YtgmppconibklcaaGreatDoor
open Go Go.RowKit
namespace Am
variable {gl:Nat→Option (List D)}

structure CutI (l:List Nat) (k:Nat) (s:SF):Prop where
 e0:s.env 0=some (.e (rX (nuR .u64 l)))
 e3:s.env 3=some (.e (iX k))
 hk:k≤l.length
 hz:Nt.sz (l.take k)=Nt.sz l
theorem rCut (l:List Nat) (hz:l.length≤100000000):OK gl 166 [rX (nuR .u64 l)] (.e (rX (nuR .u64 (Nt.trim l)))):=by
 refine z0d Tryz.func166 rfl (by show 1≤_;decide) ?_;unfold Tryz.f166;dsimp only;repeat' (first
  | (first|refine sq_ ?_|refine bk_ ?_)
  | ((first|refine rg_ fun Q hQ=>?_|refine if_ fun Q hQ=>?_|refine ca_ ?_|show EndK _ _ _ _ _ _ _ _);simp -implicitDefEqProofs [*])
  | ((first|refine bs_ ?_ ?_|refine cs_ ?_ ?_)<;>(intro hc;have hb:=hc;(try simp only [hk_,ne_eq] at hc);(try have ⟨hc1,hc2⟩:_∧_:=hc);(try subst_vars))<;>first|contradiction|(exfalso;omega)|(simp -implicitDefEqProofs [*])|skip)
  | ((first|refine aq_ ?_|refine z05 ?_|refine z06 ?_|refine z07 ?_);try simp only [sk_,↓reduceIte,Nat.reduceEqDiff])
  | ((with_reducible show OptK _ _);(simp (disch:=omega) only [if_pos,if_neg]);(try (simp -implicitDefEqProofs [*]))))
 refine z0A (CutI l) l.length ?_ ?_
 ·exact ⟨by simp,by simp,Nat.le_refl _,by simp⟩
 ·rintro k s ⟨h0,h3,hk,hsz⟩;cases k with
  | zero=>
   have ht:Nt.trim l=[]:=by unfold Nt.trim;rw [←hsz];rfl
   clear hsz;exact am_
  | succ k=>
   obtain ⟨x,r,hd,_,htk⟩:=z0t (l:=l) (k:=k) (by omega);have hw:=z17 (k:=k) (by omega);have h1:k<l.length:=by omega
   have hl:(l.take k).length=k:=by simp;omega
   by_cases hx:x=0
   ·subst hx;have hsz2:Nt.sz (l.take k)=Nt.sz l:=by rw [←hsz,htk,Nt.zcU,if_pos rfl]
    clear hsz htk;repeat' (first
     | (first|refine sq_ ?_|refine bk_ ?_)
     | ((first|refine rg_ fun Q hQ=>?_|refine if_ fun Q hQ=>?_|refine ca_ ?_|show EndK _ _ _ _ _ _ _ _);simp -implicitDefEqProofs [*])
     | ((first|refine bs_ ?_ ?_|refine cs_ ?_ ?_)<;>(intro hc;have hb:=hc;(try simp only [hk_,ne_eq] at hc);(try have ⟨hc1,hc2⟩:_∧_:=hc);(try subst_vars))<;>first|contradiction|(exfalso;omega)|(simp -implicitDefEqProofs [*])|skip)
     | ((first|refine aq_ ?_|refine z05 ?_|refine z06 ?_|refine z07 ?_);try simp only [sk_,↓reduceIte,Nat.reduceEqDiff])
     | ((with_reducible show OptK _ _);(simp (disch:=omega) only [if_pos,if_neg]);(try (simp -implicitDefEqProofs [*]))))
    exact ⟨k,by omega,by simp [*],by simp,by omega,hsz2⟩
   ·have ht:Nt.trim l=l.take (k+1):=by unfold Nt.trim;rw [←hsz,htk,Nt.zcU,if_neg hx,hl,htk]
    clear hsz htk;exact am_
structure DigI (l:List Nat) (k:Nat) (s:SF):Prop where
 e0:s.env 0=some (.e (rX (nuR .u32 l)))
 ex:∃ j,j+k=l.length∧s.env 4=some (.e (iX j))∧((j=0∧s.env 3=some (.e (.one .nilS)))∨(0<j∧s.env 3=some (.e (.one (.gr 288 1 (nuL .u64 (l.take j)))))∧s.heap 288=some (.own 180 1 j)))
theorem wrap_u64 {x:Nat} (h:x<Nt.B):IntKind.wrap .u64 (x:Int)=x:=by rw [IntKind.wrap_u64];unfold Nt.B at h;omega
theorem za7 (l:List Nat) (hL:Nt.Lb l) (hz:l.length≤100000000):OK gl 104 [rX (nuR .u32 l)] (.e (rX (nuR .u64 (Nt.trim l)))):=by
 have cC:=rCut (gl:=gl) l hz;refine z0d Tryz.func104 rfl (by show 1≤_;decide) ?_;unfold Tryz.f104;dsimp only;repeat' (first
  | (first|refine sq_ ?_|refine bk_ ?_)
  | ((first|refine rg_ fun Q hQ=>?_|refine if_ fun Q hQ=>?_|refine ca_ ?_|show EndK _ _ _ _ _ _ _ _);simp -implicitDefEqProofs [*])
  | ((first|refine bs_ ?_ ?_|refine cs_ ?_ ?_)<;>(intro hc;have hb:=hc;(try simp only [hk_,ne_eq] at hc);(try have ⟨hc1,hc2⟩:_∧_:=hc);(try subst_vars))<;>first|contradiction|(exfalso;omega)|(simp -implicitDefEqProofs [*])|skip)
  | ((first|refine aq_ ?_|refine z05 ?_|refine z06 ?_|refine z07 ?_);try simp only [sk_,↓reduceIte,Nat.reduceEqDiff])
  | ((with_reducible show OptK _ _);(simp (disch:=omega) only [if_pos,if_neg]);(try (simp -implicitDefEqProofs [*]))))
 refine z0A (DigI l) l.length ?_ ?_
 ·exact ⟨by simp,0,by simp,by simp,.inl ⟨rfl,by simp⟩⟩
 ·rintro k s ⟨h0,j,hj,h4,h3⟩;cases k with
  | zero=>
   have hjl:j=l.length:=by omega
   subst hjl;rcases h3 with ⟨hj0,h3⟩|⟨_,h3,_⟩
   ·have hl0:l=[]:=List.length_eq_zero_iff.1 hj0;subst hl0;exact ama_
   ·exact ama_
  | succ k=>
   have h1:j<l.length:=by omega
   obtain ⟨x,r,hd,hx,htk⟩:=z0t h1;have hw:=z17 (k:=j+1) (by omega);have hwx:=wrap_u64 (hL x (List.mem_of_getElem? hx));have hmin:min j l.length=j:=by omega
   rcases h3 with ⟨rfl,h3⟩|⟨hj0,h3,h288⟩
   ·repeat' (first
     | (first|refine sq_ ?_|refine bk_ ?_)
     | ((first|refine rg_ fun Q hQ=>?_|refine if_ fun Q hQ=>?_|refine ca_ ?_|show EndK _ _ _ _ _ _ _ _);simp -implicitDefEqProofs [*,z08])
     | ((first|refine bs_ ?_ ?_|refine cs_ ?_ ?_)<;>(intro hc;have hb:=hc;(try simp only [hk_,ne_eq] at hc);(try have ⟨hc1,hc2⟩:_∧_:=hc);(try subst_vars))<;>first|contradiction|(exfalso;omega)|(simp -implicitDefEqProofs [*,z08])|skip)
     | ((first|refine aq_ ?_|refine z05 ?_|refine z06 ?_|refine z07 ?_);try simp only [sk_,↓reduceIte,Nat.reduceEqDiff])
     | ((with_reducible show OptK _ _);(simp (disch:=omega) only [if_pos,if_neg]);(try (simp -implicitDefEqProofs [*,z08]))))
    have h1t:List.take 1 l=[x]:=by rw [show 1=0+1 from rfl,htk];rfl
    exact ⟨k,by omega,by simp [h0],1,by omega,by simp,.inr ⟨by omega,by simp [h1t],by simp⟩⟩
   ·repeat' (first
     | (first|refine sq_ ?_|refine bk_ ?_)
     | ((first|refine rg_ fun Q hQ=>?_|refine if_ fun Q hQ=>?_|refine ca_ ?_|show EndK _ _ _ _ _ _ _ _);simp -implicitDefEqProofs [*,z08])
     | ((first|refine bs_ ?_ ?_|refine cs_ ?_ ?_)<;>(intro hc;have hb:=hc;(try simp only [hk_,ne_eq] at hc);(try have ⟨hc1,hc2⟩:_∧_:=hc);(try subst_vars))<;>first|contradiction|(exfalso;omega)|(simp -implicitDefEqProofs [*,z08])|skip)
     | ((first|refine aq_ ?_|refine z05 ?_|refine z06 ?_|refine z07 ?_);try simp only [sk_,↓reduceIte,Nat.reduceEqDiff])
     | ((with_reducible show OptK _ _);(simp (disch:=omega) only [if_pos,if_neg]);(try (simp -implicitDefEqProofs [*,z08]))))
    exact ⟨k,by omega,by simp [h0],j+1,by omega,by simpa using hw,.inr ⟨by omega,by simp [htk],by simp⟩⟩
structure CmpLI (a b:List Nat) (n:Nat) (s:SF):Prop where
 e0:s.env 0=some (.e (rX (nuR .u64 a)))
 e1:s.env 1=some (.e (rX (nuR .u64 b)))
 e5:s.env 5=some (.e (iX ((n:Int)-1)))
 hn:n≤a.length
 hc:cmpF a b a.length=cmpF a b n
theorem zkJ (a b:List Nat) (hz:a.length≤100000000) (hy:b.length≤100000000):OK gl 103 [rX (nuR .u64 a),rX (nuR .u64 b)] (.i .i64 (cmpI a b)):=by
 by_cases hl:a.length=b.length
 ·have hc0:cmpI a b=cmpF a b a.length:=by unfold cmpI;rw [if_pos hl]
  have hw:=z0f (x:=(a.length:Int)-1) (by omega) (by omega);refine z0d Tryz.func103 rfl (by show 2≤_;decide) ?_;unfold Tryz.f103;dsimp only;repeat' (first
   | (first|refine sq_ ?_|refine bk_ ?_)
   | ((first|refine rg_ fun Q hQ=>?_|refine if_ fun Q hQ=>?_|refine dr_ (id:=8) [0,1,5] [] (by kernel_rfl) fun Q hQ=>?_|refine dr_ (id:=10) [0,1,5] [] (by kernel_rfl) fun Q hQ=>?_|refine ca_ ?_|show EndK _ _ _ _ _ _ _ _);simp -implicitDefEqProofs [*])
   | ((first|refine bs_ ?_ ?_|refine cs_ ?_ ?_)<;>(intro hc;have hb:=hc;(try simp only [hk_,ne_eq] at hc);(try have ⟨hc1,hc2⟩:_∧_:=hc);(try subst_vars))<;>first|contradiction|(exfalso;omega)|(simp -implicitDefEqProofs [*])|skip)
   | ((first|refine aq_ ?_|refine z05 ?_|refine z06 ?_|refine z07 ?_);try simp only [sk_,↓reduceIte,Nat.reduceEqDiff])
   | (with_reducible refine And.intro ?_ ?_;focus (decide +kernel))
   | ((with_reducible show OptK _ _);(simp (disch:=omega) only [if_pos,if_neg]);(try (simp -implicitDefEqProofs [*]))))
  refine z0A (CmpLI a b) a.length ?_ ?_
  ·exact ⟨by simp,by simp,by simp [←hl,hw],Nat.le_refl _,rfl⟩
  ·rintro n s ⟨h0,h1,h5,hn,hc⟩;cases n with
   | zero=>
    have hc1:cmpI a b=0:=by rw [hc0,hc];rfl
    clear hc hc0;have d8:Drw 8 [0,1,5] []:=⟨⟩;have d10:Drw 10 [0,1,5] []:=⟨⟩;exact am_
   | succ n=>
    have g1:n<a.length:=by omega
    have g2:n<b.length:=by omega
    obtain ⟨x,r,hd,hx,_⟩:=z0t g1;obtain ⟨y,r2,hd2,hy2,_⟩:=z0t g2;have ha:a.getD n 0=x:=by rw [List.getD_eq_getElem?_getD,hx];rfl
    have hb:b.getD n 0=y:=by rw [List.getD_eq_getElem?_getD,hy2];rfl
    have hc2:cmpI a b=if x<y then -1 else if y<x then 1 else cmpF a b n:=by rw [hc0,hc,←ha,←hb];rfl
    have hw2:=z0f (x:=(n:Int)-1) (by omega) (by omega);rcases Nat.lt_trichotomy x y with hxy|hxy|hxy
    ·rw [if_pos hxy] at hc2;clear hc hc0 ha hb;have d8:Drw 8 [0,1,5] []:=⟨⟩;have d10:Drw 10 [0,1,5] []:=⟨⟩;exact am_
    ·subst hxy;rw [if_neg (Nat.lt_irrefl _),if_neg (Nat.lt_irrefl _)] at hc2;have hc3:cmpF a b a.length=cmpF a b n:=by rw [←hc0,hc2]
     clear hc hc0 ha hb hc2;repeat' (first
      | (first|refine sq_ ?_|refine bk_ ?_)
      | ((first|refine rg_ fun Q hQ=>?_|refine if_ fun Q hQ=>?_|refine dr_ (id:=8) [0,1,5] [] (by kernel_rfl) fun Q hQ=>?_|refine dr_ (id:=10) [0,1,5] [] (by kernel_rfl) fun Q hQ=>?_|refine ca_ ?_|show EndK _ _ _ _ _ _ _ _);simp -implicitDefEqProofs [*])
      | ((first|refine bs_ ?_ ?_|refine cs_ ?_ ?_)<;>(intro hc;have hb:=hc;(try simp only [hk_,ne_eq] at hc);(try have ⟨hc1,hc2⟩:_∧_:=hc);(try subst_vars))<;>first|contradiction|(exfalso;omega)|(simp -implicitDefEqProofs [*])|skip)
      | ((first|refine aq_ ?_|refine z05 ?_|refine z06 ?_|refine z07 ?_);try simp only [sk_,↓reduceIte,Nat.reduceEqDiff])
      | (with_reducible refine And.intro ?_ ?_;focus (decide +kernel))
      | ((with_reducible show OptK _ _);(simp (disch:=omega) only [if_pos,if_neg]);(try (simp -implicitDefEqProofs [*]))))
     exact ⟨n,by omega,by simp [h0],by simp [h1],by simp [hw2],by omega,hc3⟩
    ·have hxy2:¬x<y:=by omega
     rw [if_neg hxy2,if_pos hxy] at hc2;clear hc hc0 ha hb;have d8:Drw 8 [0,1,5] []:=⟨⟩;have d10:Drw 10 [0,1,5] []:=⟨⟩;exact am_
 ·have hc0:cmpI a b=if a.length<b.length then -1 else 1:=by unfold cmpI;rw [if_neg hl]
  refine z0d Tryz.func103 rfl (by show 2≤_;decide) ?_;unfold Tryz.f103;dsimp only;have d8:Drw 8 [0,1,5] []:=⟨⟩;have d10:Drw 10 [0,1,5] []:=⟨⟩;exact am_
theorem rCmp (a b:List Nat) (ha:Nt.Lb a) (hb:Nt.Lb b) (hz:a.length≤100000000) (hy:b.length≤100000000):OK gl 49 [rX (nuR .u32 a),rX (nuR .u32 b)] (.i .i64 (cmpN a b)):=by
 have c1:=za7 (gl:=gl) a ha hz;have c2:=za7 (gl:=gl) b hb hy;have c3:=zkJ (gl:=gl) (Nt.trim a) (Nt.trim b) (by have:=Nt.z1o a;have:=Nt.z7l a;omega) (by have:=Nt.z1o b;have:=Nt.z7l b;omega);refine z0d Tryz.func49 rfl (by show 2≤_;decide) ?_;unfold Tryz.f49;dsimp only;have z0:=@cmpN.eq_def;exact am_
theorem zgj (a b:List UInt8):OK gl 12 [rX (z04 a),rX (z04 b)] (.b (a==b)):=by
 refine z0d Tryz.func12 rfl (by show 2≤_;decide) ?_;unfold Tryz.f12;dsimp only;exact am_
end Am
end Go.Proofs.YtgmppconibklcaaGreatDoor

