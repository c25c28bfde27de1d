/- Part of the proof of TspBack. No condition: lemmas alone. -/
import Derived.Test.YtgmppconibklcaaGreatDoorM24
import Derived.Test.YtgmppconibklcaaGreatDoorM30
import Derived.Test.YtgmppconibklcaaGreatDoorM19
import Derived.Test.YtgmppconibklcaaGreatDoorM22
set_option linter.unusedVariables false
set_option linter.unusedSimpArgs false
set_option maxRecDepth 100000
namespace Go.Proofs.YtgmppconibklcaaGreatDoor
open Go Go.RowKit
namespace Am
variable {gl:Nat→Option (List D)}
theorem z5E (n:Nd) (t:Int) (hf:Fine n):OK gl 161 [nX n,iX t] (.b (Rq.isU n t)):=
 z0L rfl rfl z0I fun w vals hT hargs=>by
  obtain ⟨u,v,rfl,h,hu⟩:=hargs.two;have e0:=RD.z16 hu;subst e0;refine (zfX n t u _ w (zam h) hf hT).mono ?_;rintro e w' ⟨rfl,hb⟩;exact ⟨_,rfl,zal rfl,hb⟩
set_option maxHeartbeats 4000000 in
theorem zi6 (n:Nd) (a b:Int):OK gl 159 [nX n,iX a,iX b] (.b (sq n a b)):=by
 refine z0k Tryz.func159 rfl (by show 3≤_;decide) ?_;unfold Tryz.f159;dsimp only;repeat' (first
  | (first|refine sq_ ?_|refine bk_ ?_)
  | ((first|refine rg_ fun Q hQ=>?_|refine if_ fun Q hQ=>?_|refine ct_ (by first|with_reducible assumption|assumption) ?_);simp -implicitDefEqProofs [*,sq])
  | ((first|refine bs_ ?_ ?_|refine cs_ ?_ ?_)<;>(intro hc;have hb:=hc;(try simp only [hk_,ne_eq] at hc);(try have ⟨hc1,hc2⟩:_∧_:=hc);(try subst_vars))<;>first|contradiction|(exfalso;omega)|(simp -implicitDefEqProofs [*,sq])|skip)
  | ((first|(refine atQ hQ ?_;clear hQ)|refine atQ (by assumption) ?_|refine z04 ?_|refine z06 ?_|refine z07 ?_);try simp only [sk_,if_true,if_false,↓reduceIte,Nat.reduceEqDiff])
  | (show EndK _ _ _ _ _ _ _ _;simp -implicitDefEqProofs [*,sq])
  | ((simp (disch:=omega) only [if_pos,if_neg]);(try (simp -implicitDefEqProofs [*,sq]))))
set_option maxHeartbeats 4000000 in
theorem z6B (n:Nd) (hf:Fine n):OK gl 160 [nX n] (.tup [sX ⟨((Rq.z2D n).getD []).toArray⟩,bX (Rq.z2D n).isSome]):=by
 have c1:=z5E (gl:=gl) n 6 hf;have c2:=z8Q (gl:=gl) n.bytes (z0S hf);have he:Rq.z2D n=if Rq.isU n 6=true then Od.decO n.bytes else none:=rfl
 generalize Rq.isU n 6=b at *;generalize Od.decO n.bytes=o at *;clear hf;refine z0k Tryz.func160 rfl (by show 1≤_;decide) ?_;unfold Tryz.f160;dsimp only;cases b<;>cases o;all_goals
  simp at he c2;repeat' (first
   | (first|refine sq_ ?_|refine bk_ ?_)
   | ((first|refine rg_ fun Q hQ=>?_|refine if_ fun Q hQ=>?_|refine ct_ (by first|with_reducible assumption|assumption) ?_);simp -implicitDefEqProofs [*,he])
   | ((first|refine bs_ ?_ ?_|refine cs_ ?_ ?_)<;>(intro hc;have hb:=hc;(try simp only [hk_,ne_eq] at hc);(try have ⟨hc1,hc2⟩:_∧_:=hc);(try subst_vars))<;>first|contradiction|(exfalso;omega)|(simp -implicitDefEqProofs [*,he])|skip)
   | ((first|(refine atQ hQ ?_;clear hQ)|refine atQ (by assumption) ?_|refine z04 ?_|refine z06 ?_|refine z07 ?_);try simp only [sk_,if_true,if_false,↓reduceIte,Nat.reduceEqDiff])
   | (show EndK _ _ _ _ _ _ _ _;simp -implicitDefEqProofs [*,he])
   | ((simp (disch:=omega) only [if_pos,if_neg]);(try (simp -implicitDefEqProofs [*,he]))))
theorem ziI {n:Nd} (h:Rq.isU n 1=true):∃ x,n.bytes=[x]:=by
 have:=(Rq.z5y h (by decide)).2.1;unfold Dr.value at this;simp only [if_true,Bool.and_eq_true,beq_iff_eq] at this;match hb:n.bytes,this.1 with
 | [x],_=>exact ⟨x,rfl⟩
theorem kids23 {n:Nd} (h:Rq.z0t n 2 3=true):(∃ x y,n.kids=[x,y])∨∃ x y z,n.kids=[x,y,z]:=by
 unfold Rq.z0t at h;simp at h;match n.kids,h.1.2,h.2 with
 | [x,y],_,_=>exact .inl ⟨x,y,rfl⟩
 | [x,y,z],_,_=>exact .inr ⟨x,y,z,rfl⟩
theorem ze5 (c t:Int) (k:Bool) (b:List UInt8) (l:List Nd):(Nd.mk c t k b l).bytes=b:=rfl
theorem zlz (c t:Int) (k:Bool) (b:List UInt8) (l:List Nd):(Nd.mk c t k b l).kids=l:=rfl
theorem mk_cls (c t:Int) (k:Bool) (b:List UInt8) (l:List Nd):(Nd.mk c t k b l).cls=c:=rfl
theorem mk_tag (c t:Int) (k:Bool) (b:List UInt8) (l:List Nd):(Nd.mk c t k b l).tag=t:=rfl
theorem zlA (c t:Int) (k:Bool) (b:List UInt8) (l:List Nd):(Nd.mk c t k b l).cons=k:=rfl
attribute [local simp] ze5 zlz mk_cls mk_tag zlA
abbrev mkX (c t:Int) (k:Bool) (b:List UInt8) (l:List Nd):E:= .agg [.d (.leaf (.int .i64 c)),.d (.leaf (.int .i64 t)),.d (.leaf (.bool k)),.d (z05 b),.d (ndR l)]
theorem zm1 (c t:Int) (k:Bool) (b:List UInt8) (l:List Nd) (x y:Int):OK gl 159 [mkX c t k b l,iX x,iX y] (.b (sq (.mk c t k b l) x y)):=zi6 (.mk c t k b l) x y
theorem zm2 (c t:Int) (k:Bool) (b:List UInt8) (l:List Nd) (tag:Int) (hf:Fine (.mk c t k b l)):OK gl 161 [mkX c t k b l,iX tag] (.b (Rq.isU (.mk c t k b l) tag)):=z5E (.mk c t k b l) tag hf
set_option maxHeartbeats 40000000 in
theorem zbW (n:Nd) (hf:Fine n):OK gl 98 [nX n] (.tup [exX ((Rq.exOf n).getD Rq.z0y),bX (Rq.exOf n).isSome]):=by
 have he:Rq.exOf n=if (Rq.z0t n 2 3&&n.bytes.isEmpty)=true then (match Rq.z2D (Rq.kid n 0) with
  | none=>none
  | some o=>if (Rq.isU (Rq.kid n (n.kids.length-1)) 4&&decide ((Rq.kid n (n.kids.length-1)).bytes.length≤2000)&&(n.kids.length==2||(Rq.isU (Rq.kid n 1) 1&&((Rq.kid n 1).bytes.getD 0 0).toNat==255)))=true then some ⟨o,n.kids.length==3,(Rq.kid n (n.kids.length-1)).bytes⟩ else none) else none:=rfl
 have hk:=kids23 (n:=n);have w1:IntKind.wrap .i64 1=1:=by decide
 have w2:IntKind.wrap .i64 2=2:=by decide
 have q1:sq n 2 3=Rq.z0t n 2 3:=zhl n 2 3;obtain ⟨c,t,k,b,l⟩:=n;have c1:=zm1 (gl:=gl) c t k b l 2 3;rw [q1] at c1;generalize Rq.exOf (.mk c t k b l)=ex at *;have h1:∃ h,h=Rq.z0t (.mk c t k b l) 2 3:=⟨_,rfl⟩;obtain ⟨sb,h1⟩:=h1;rw [←h1] at c1 he hk;clear h1 q1;rcases sb with _|_
 ·simp at he;clear hk hf;subst he;refine z0k Tryz.func98 rfl (by show 1≤_;decide) ?_;unfold Tryz.f98;dsimp only;repeat' (first
   | (first|refine sq_ ?_|refine bk_ ?_)
   | ((first|refine rg_ fun Q hQ=>?_|refine if_ fun Q hQ=>?_|refine ct_ (by first|with_reducible assumption|assumption) ?_);simp -implicitDefEqProofs [*,Rq.z0y])
   | ((first|refine bs_ ?_ ?_|refine cs_ ?_ ?_)<;>(intro hc;have hb:=hc;(try simp only [hk_,ne_eq] at hc);(try have ⟨hc1,hc2⟩:_∧_:=hc);(try subst_vars))<;>first|contradiction|(exfalso;omega)|(simp -implicitDefEqProofs [*,Rq.z0y])|skip)
   | ((first|(refine atQ hQ ?_;clear hQ)|refine atQ (by assumption) ?_|refine z04 ?_|refine z06 ?_|refine z07 ?_);try simp only [sk_,if_true,if_false,↓reduceIte,Nat.reduceEqDiff])
   | (show EndK _ _ _ _ _ _ _ _;simp -implicitDefEqProofs [*,Rq.z0y])
   | ((simp (disch:=omega) only [if_pos,if_neg]);(try (simp -implicitDefEqProofs [*,Rq.z0y]))))
 ·rcases b with _|⟨b0,bt⟩
  ·rcases hk rfl with ⟨x,y,hk⟩|⟨x,y,z,hk⟩
   ·change l=[x,y] at hk;subst hk;have fx:Fine x:=z1p hf (by simp);have fy:Fine y:=z1p hf (by simp);have c2:=z6B (gl:=gl) x fx;have c3:=z5E (gl:=gl) y 4 fy;have hl:=z0S fy;simp [Rq.kid] at he;generalize Rq.z2D x=o at *;generalize Rq.isU y 4=u at *;clear hf fx fy;cases o<;>cases u<;>by_cases hy:y.bytes.length≤2000;all_goals
     simp [hy] at he c2;subst he;refine z0k Tryz.func98 rfl (by show 1≤_;decide) ?_;unfold Tryz.f98;dsimp only;repeat' (first
      | (first|refine sq_ ?_|refine bk_ ?_)
      | ((first|refine rg_ fun Q hQ=>?_|refine if_ fun Q hQ=>?_|refine ct_ (by first|with_reducible assumption|assumption) ?_);simp -implicitDefEqProofs [*,Rq.z0y,z0e])
      | ((first|refine bs_ ?_ ?_|refine cs_ ?_ ?_)<;>(intro hc;have hb:=hc;(try simp only [hk_,ne_eq] at hc);(try have ⟨hc1,hc2⟩:_∧_:=hc);(try subst_vars))<;>first|contradiction|(exfalso;omega)|(simp -implicitDefEqProofs [*,Rq.z0y,z0e])|skip)
      | ((first|(refine atQ hQ ?_;clear hQ)|refine atQ (by assumption) ?_|refine z04 ?_|refine z06 ?_|refine z07 ?_);try simp only [sk_,if_true,if_false,↓reduceIte,Nat.reduceEqDiff])
      | (show EndK _ _ _ _ _ _ _ _;simp -implicitDefEqProofs [*,Rq.z0y,z0e])
      | ((simp (disch:=omega) only [if_pos,if_neg]);(try (simp -implicitDefEqProofs [*,Rq.z0y,z0e]))))
   ·change l=[x,y,z] at hk;subst hk;obtain ⟨yc,yt,yk,yb,yl⟩:=y;have fx:Fine x:=z1p hf (by simp);have fy:Fine (.mk yc yt yk yb yl):=z1p hf (by simp);have fz:Fine z:=z1p hf (by simp);have c2:=z6B (gl:=gl) x fx;have c3:=z5E (gl:=gl) z 4 fz;have c4:=zm2 (gl:=gl) yc yt yk yb yl 1 fy;have hl:=z0S fz;have hu1:Rq.isU (.mk yc yt yk yb yl) 1=true→∃ x,yb=[x]:=ziI;simp [Rq.kid] at he;generalize Rq.isU (.mk yc yt yk yb yl) 1=ub at *;generalize Rq.z2D x=o at *;generalize Rq.isU z 4=u at *;clear hf fx fy fz;rcases ub with _|_
    ·clear hu1;cases o<;>cases u<;>by_cases hy:z.bytes.length≤2000;all_goals
      simp [hy] at he c2;subst he;refine z0k Tryz.func98 rfl (by show 1≤_;decide) ?_;unfold Tryz.f98;dsimp only;repeat' (first
       | (first|refine sq_ ?_|refine bk_ ?_)
       | ((first|refine rg_ fun Q hQ=>?_|refine if_ fun Q hQ=>?_|refine ct_ (by first|with_reducible assumption|assumption) ?_);simp -implicitDefEqProofs [*,Rq.z0y,z0e])
       | ((first|refine bs_ ?_ ?_|refine cs_ ?_ ?_)<;>(intro hc;have hb:=hc;(try simp only [hk_,ne_eq] at hc);(try have ⟨hc1,hc2⟩:_∧_:=hc);(try subst_vars))<;>first|contradiction|(exfalso;omega)|(simp -implicitDefEqProofs [*,Rq.z0y,z0e])|skip)
       | ((first|(refine atQ hQ ?_;clear hQ)|refine atQ (by assumption) ?_|refine z04 ?_|refine z06 ?_|refine z07 ?_);try simp only [sk_,if_true,if_false,↓reduceIte,Nat.reduceEqDiff])
       | (show EndK _ _ _ _ _ _ _ _;simp -implicitDefEqProofs [*,Rq.z0y,z0e])
       | ((simp (disch:=omega) only [if_pos,if_neg]);(try (simp -implicitDefEqProofs [*,Rq.z0y,z0e]))))
    ·obtain ⟨v,hv⟩:=hu1 rfl;subst hv;cases o<;>cases u<;>by_cases hy:z.bytes.length≤2000<;>by_cases hw:v=255;all_goals
      (first|(subst hw;simp [hy] at he c2)|(have hw':¬v.toNat=255:=fun h=>hw (UInt8.toNat_inj.1 h);simp [hy,hw'] at he c2))
      subst he;refine z0k Tryz.func98 rfl (by show 1≤_;decide) ?_;unfold Tryz.f98;dsimp only;repeat' (first
       | (first|refine sq_ ?_|refine bk_ ?_)
       | ((first|refine rg_ fun Q hQ=>?_|refine if_ fun Q hQ=>?_|refine ct_ (by first|with_reducible assumption|assumption) ?_);simp -implicitDefEqProofs [*,Rq.z0y,z0e])
       | ((first|refine bs_ ?_ ?_|refine cs_ ?_ ?_)<;>(intro hc;have hb:=hc;(try simp only [hk_,ne_eq] at hc);(try have ⟨hc1,hc2⟩:_∧_:=hc);(try subst_vars))<;>first|contradiction|(exfalso;omega)|(simp -implicitDefEqProofs [*,Rq.z0y,z0e])|skip)
       | ((first|(refine atQ hQ ?_;clear hQ)|refine atQ (by assumption) ?_|refine z04 ?_|refine z06 ?_|refine z07 ?_);try simp only [sk_,if_true,if_false,↓reduceIte,Nat.reduceEqDiff])
       | (show EndK _ _ _ _ _ _ _ _;simp -implicitDefEqProofs [*,Rq.z0y,z0e])
       | ((simp (disch:=omega) only [if_pos,if_neg]);(try (simp -implicitDefEqProofs [*,Rq.z0y,z0e]))))
  ·simp [ze5] at he;clear hk hf;subst he;refine z0k Tryz.func98 rfl (by show 1≤_;decide) ?_;unfold Tryz.f98;dsimp only;repeat' (first
    | (first|refine sq_ ?_|refine bk_ ?_)
    | ((first|refine rg_ fun Q hQ=>?_|refine if_ fun Q hQ=>?_|refine ct_ (by first|with_reducible assumption|assumption) ?_);simp -implicitDefEqProofs [*,Rq.z0y])
    | ((first|refine bs_ ?_ ?_|refine cs_ ?_ ?_)<;>(intro hc;have hb:=hc;(try simp only [hk_,ne_eq] at hc);(try have ⟨hc1,hc2⟩:_∧_:=hc);(try subst_vars))<;>first|contradiction|(exfalso;omega)|(simp -implicitDefEqProofs [*,Rq.z0y])|skip)
    | ((first|(refine atQ hQ ?_;clear hQ)|refine atQ (by assumption) ?_|refine z04 ?_|refine z06 ?_|refine z07 ?_);try simp only [sk_,if_true,if_false,↓reduceIte,Nat.reduceEqDiff])
    | (show EndK _ _ _ _ _ _ _ _;simp -implicitDefEqProofs [*,Rq.z0y])
    | ((simp (disch:=omega) only [if_pos,if_neg]);(try (simp -implicitDefEqProofs [*,Rq.z0y]))))
end Am
end Go.Proofs.YtgmppconibklcaaGreatDoor

