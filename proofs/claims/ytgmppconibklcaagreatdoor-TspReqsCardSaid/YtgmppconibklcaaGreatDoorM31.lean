/- Part of the proof. No condition. -/
import Derived.Test.YtgmppconibklcaaGreatDoorM22
import Derived.Test.YtgmppconibklcaaGreatDoorM28
import Derived.Test.YtgmppconibklcaaGreatDoorM18
import Derived.Test.YtgmppconibklcaaGreatDoorM21
set_option maxHeartbeats 40000000
set_option maxRecDepth 100000
set_option linter.unusedVariables false
set_option linter.unusedSimpArgs false
namespace Go.Proofs.YtgmppconibklcaaGreatDoor
open Go Go.RowKit
namespace Am
variable {gl:Nat→Option (List D)}
theorem z5J (n:Nd) (t:Int) (hf:Fine n):OK gl 161 [nX n,iX t] (.b (Rq.isU n t)):=
 z0v rfl rfl z0q fun w vals hT hargs=>by
  obtain ⟨u,v,rfl,h,hu⟩:=hargs.two;have e0:=RD.z0M hu;subst e0;refine (zh1 n t u _ w (zaV h) hf hT).mono ?_;rintro e w' ⟨rfl,hb⟩;exact ⟨_,rfl,z4v rfl,hb⟩
theorem zjA (n:Nd) (a b:Int):OK gl 159 [nX n,iX a,iX b] (.b (sq n a b)):=by
 refine z0d Tryz.func159 rfl (by show 3≤_;decide) ?_;unfold Tryz.f159;dsimp only;have z0:=@sq.eq_def;exact am_
theorem z6H (n:Nd) (hf:Fine n):OK gl 160 [nX n] (.tup [sX ⟨((Rq.z2R n).getD []).toArray⟩,bX (Rq.z2R n).isSome]):=by
 have c1:=z5J (gl:=gl) n 6 hf;have c2:=z9d (gl:=gl) n.bytes (z2b hf);have he:Rq.z2R n=if Rq.isU n 6=true then Od.decO n.bytes else none:=rfl
 generalize Rq.isU n 6=b at *;generalize Od.decO n.bytes=o at *;clear hf;refine z0d Tryz.func160 rfl (by show 1≤_;decide) ?_;unfold Tryz.f160;dsimp only;cases b<;>cases o;all_goals
  simp at he c2;have z0:=@he;exact am_
theorem zka {n:Nd} (h:Rq.isU n 1=true):∃ x,n.bytes=[x]:=by
 have:=(Rq.z5A h (by decide)).2.1;unfold Dr.value at this;simp only [if_true,Bool.and_eq_true,beq_iff_eq] at this;match hb:n.bytes,this.1 with
 | [x],_=>exact ⟨x,rfl⟩
theorem kids23 {n:Nd} (h:Rq.z0U n 2 3=true):(∃ x y,n.kids=[x,y])∨∃ x y z,n.kids=[x,y,z]:=by
 unfold Rq.z0U at h;simp at h;match n.kids,h.1.2,h.2 with
 | [x,y],_,_=>exact .inl ⟨x,y,rfl⟩
 | [x,y,z],_,_=>exact .inr ⟨x,y,z,rfl⟩
theorem zf2 (c t:Int) (k:Bool) (b:List UInt8) (l:List Nd):(Nd.mk c t k b l).bytes=b:=rfl
theorem zns (c t:Int) (k:Bool) (b:List UInt8) (l:List Nd):(Nd.mk c t k b l).kids=l:=rfl
theorem mk_cls (c t:Int) (k:Bool) (b:List UInt8) (l:List Nd):(Nd.mk c t k b l).cls=c:=rfl
theorem mk_tag (c t:Int) (k:Bool) (b:List UInt8) (l:List Nd):(Nd.mk c t k b l).tag=t:=rfl
theorem znt (c t:Int) (k:Bool) (b:List UInt8) (l:List Nd):(Nd.mk c t k b l).cons=k:=rfl
attribute [local simp] zf2 zns mk_cls mk_tag znt
abbrev mkX (c t:Int) (k:Bool) (b:List UInt8) (l:List Nd):E:= .agg [.d (.leaf (.int .i64 c)),.d (.leaf (.int .i64 t)),.d (.leaf (.bool k)),.d (z04 b),.d (ndR l)]
theorem znX (c t:Int) (k:Bool) (b:List UInt8) (l:List Nd) (x y:Int):OK gl 159 [mkX c t k b l,iX x,iX y] (.b (sq (.mk c t k b l) x y)):=zjA (.mk c t k b l) x y
theorem znY (c t:Int) (k:Bool) (b:List UInt8) (l:List Nd) (tag:Int) (hf:Fine (.mk c t k b l)):OK gl 161 [mkX c t k b l,iX tag] (.b (Rq.isU (.mk c t k b l) tag)):=z5J (.mk c t k b l) tag hf
theorem zde {p:Prop} (h:p:=by
  subst he;refine z0d Tryz.func98 rfl (by show 1≤_;decide) ?_;unfold Tryz.f98;dsimp only;have z0:=@Rq.z0E.eq_def;exact ama_):p:=h
theorem zia {p:Prop} (h:p:=by
  clear hk hf;subst he;refine z0d Tryz.func98 rfl (by show 1≤_;decide) ?_;unfold Tryz.f98;dsimp only;have z0:=@Rq.z0E.eq_def;exact am_):p:=h
theorem zcw (n:Nd) (hf:Fine n):OK gl 98 [nX n] (.tup [exX ((Rq.exOf n).getD Rq.z0E),bX (Rq.exOf n).isSome]):=by
 have he:Rq.exOf n=if (Rq.z0U n 2 3&&n.bytes.isEmpty)=true then (match Rq.z2R (Rq.kid n 0) with
  | none=>none
  | some o=>if (Rq.isU (Rq.kid n (n.kids.length-1)) 4&&decide ((Rq.kid n (n.kids.length-1)).bytes.length≤2000)&&(n.kids.length==2||(Rq.isU (Rq.kid n 1) 1&&((Rq.kid n 1).bytes.getD 0 0).toNat==255)))=true then some ⟨o,n.kids.length==3,(Rq.kid n (n.kids.length-1)).bytes⟩ else none) else none:=rfl
 have hk:=kids23 (n:=n);have w1:IntKind.wrap .i64 1=1:=by decide
 have w2:IntKind.wrap .i64 2=2:=by decide
 have q1:sq n 2 3=Rq.z0U n 2 3:=ziU n 2 3;obtain ⟨c,t,k,b,l⟩:=n;have c1:=znX (gl:=gl) c t k b l 2 3;rw [q1] at c1;generalize Rq.exOf (.mk c t k b l)=ex at *;have h1:∃ h,h=Rq.z0U (.mk c t k b l) 2 3:=⟨_,rfl⟩;obtain ⟨sb,h1⟩:=h1;rw [←h1] at c1 he hk;clear h1 q1;rcases sb with _|_
 ·simp at he;exact zia
 ·rcases b with _|⟨b0,bt⟩
  ·rcases hk rfl with ⟨x,y,hk⟩|⟨x,y,z,hk⟩
   ·change l=[x,y] at hk;subst hk;have fx:Fine x:=z1D hf (by simp);have fy:Fine y:=z1D hf (by simp);have c2:=z6H (gl:=gl) x fx;have c3:=z5J (gl:=gl) y 4 fy;have hl:=z2b fy;simp [Rq.kid] at he;generalize Rq.z2R x=o at *;generalize Rq.isU y 4=u at *;clear hf fx fy;cases o<;>cases u<;>by_cases hy:y.bytes.length≤2000;all_goals
     simp [hy] at he c2;exact zde
   ·change l=[x,y,z] at hk;subst hk;obtain ⟨yc,yt,yk,yb,yl⟩:=y;have fx:Fine x:=z1D hf (by simp);have fy:Fine (.mk yc yt yk yb yl):=z1D hf (by simp);have fz:Fine z:=z1D hf (by simp);have c2:=z6H (gl:=gl) x fx;have c3:=z5J (gl:=gl) z 4 fz;have c4:=znY (gl:=gl) yc yt yk yb yl 1 fy;have hl:=z2b fz;have hu1:Rq.isU (.mk yc yt yk yb yl) 1=true→∃ x,yb=[x]:=zka;simp [Rq.kid] at he;generalize Rq.isU (.mk yc yt yk yb yl) 1=ub at *;generalize Rq.z2R x=o at *;generalize Rq.isU z 4=u at *;clear hf fx fy fz;rcases ub with _|_
    ·clear hu1;cases o<;>cases u<;>by_cases hy:z.bytes.length≤2000;all_goals
      simp [hy] at he c2;exact zde
    ·obtain ⟨v,hv⟩:=hu1 rfl;subst hv;cases o<;>cases u<;>by_cases hy:z.bytes.length≤2000<;>by_cases hw:v=255;all_goals
      (first|(subst hw;simp [hy] at he c2)|(have hw':¬v.toNat=255:=fun h=>hw (UInt8.toNat_inj.1 h);simp [hy,hw'] at he c2))
      exact zde
  ·simp [zf2] at he;exact zia
end Am
end Go.Proofs.YtgmppconibklcaaGreatDoor

