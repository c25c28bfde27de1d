/- Part of the proof of TspBack. No condition: lemmas alone. -/
import Derived.Test.YtgmppconibklcaaGreatDoorM32
import Derived.Test.YtgmppconibklcaaGreatDoorM33
set_option linter.unusedVariables false
set_option linter.unusedSimpArgs false
set_option maxRecDepth 100000
namespace Go.Proofs.YtgmppconibklcaaGreatDoor
open Go Go.RowKit
namespace Am
variable {gl:Nat→Option (List D)}
def inR (o:Option Int) (m:Int):Bool:=o.isSome&&(decide (1≤o.getD 0)&&decide (o.getD 0≤m))
def z48 (many:Bool) (s:Int) (l:List Nd):Bool×Int×Int:=
 if ((l.headD Nd.nil).cls==2&&((l.headD Nd.nil).tag==0&&!(l.headD Nd.nil).cons))=true then
  (if inR (Dr.intOf (Dr.prim 2 (l.headD Nd.nil).bytes)) 999=true then (((l.drop 1).length==0)&&many,s,(Dr.intOf (Dr.prim 2 (l.headD Nd.nil).bytes)).getD 0) else (false,s,0))
 else ((l.length==0)&&many,s,0)
def accR (n:Nd):Bool×Int×Int:=
 if ((n.kids.headD Nd.nil).cls==0&&(n.kids.headD Nd.nil).tag==2)=true then
  (if inR (Dr.intOf (n.kids.headD Nd.nil)) 1000000=true then z48 (decide (0<n.kids.length)) ((Dr.intOf (n.kids.headD Nd.nil)).getD 0) (n.kids.drop 1) else (false,0,0))
 else z48 (decide (0<n.kids.length)) 0 n.kids
theorem zcX {o:Option Int} {m:Int}:inR o m=true↔∃ v,o=some v∧1≤v∧v≤m:=by
 unfold inR;cases o with
 | none=>simp
 | some v=>simp
theorem zky {v m:Int} (h:¬(1≤v∧v≤m)):inR (some v) m=false:=by
 rw [←Bool.not_eq_true];intro hh;obtain ⟨u,e,hu⟩:=zcX.1 hh;injection e with e;subst e;exact h hu
theorem isM (c t:Int) (k:Bool) (b:List UInt8) (l:List Nd) (tag:Int):OK gl 97 [mkX c t k b l,iX tag] (.b (c==0&&t==tag)):=z9Q (.mk c t k b l) tag
theorem zbu (c t:Int) (k:Bool) (b:List UInt8) (l:List Nd) (hf:Fine (.mk c t k b l)):OK gl 118 [mkX c t k b l] (.tup [iX ((Dr.intOf (.mk c t k b l)).getD 0),bX (Dr.intOf (.mk c t k b l)).isSome]):=zi0 (.mk c t k b l) hf
theorem z7M {n:Nd} (t:Int) (h:Fine n):Fine (Dr.prim t n.bytes):=by
 have h1:=z1w n;have h2:=z0S h;refine ⟨?_,?_⟩
 ·unfold Dr.prim;rw [Dr.wt];simp only [Dr.wts];omega
 ·unfold Dr.prim;rw [Dr.mx];simp only [Dr.mxs];omega
theorem zaj (many:Bool) (s:Int) (l:List Nd):(match Rq.z2m l with
  | none=>none
  | some (m,l')=>if l'.isEmpty&&many then some (s,m) else none)=if (z48 many s l).1=true then some (z48 many s l).2 else none:=by
 cases l with
 | nil=>cases many<;>simp [Rq.z2m,z48,Nd.nil,Nd.cls,Nd.tag]
 | cons k t=>
  simp only [Rq.z2m,z48,List.headD_cons,List.drop_succ_cons,List.drop_zero];have hkb:(k.cls==2&&(k.tag==0&&!k.cons))=decide (k.cls=2∧k.tag=0∧k.cons=false):=by simp [Bool.decide_and];rfl
  rw [hkb];by_cases hk:k.cls=2∧k.tag=0∧k.cons=false
  ·rw [if_pos hk,if_pos (decide_eq_true hk)];cases hi:Dr.intOf (Dr.prim 2 k.bytes) with
   | none=>simp [inR]
   | some v=>
    by_cases hv:1≤v∧v≤999
    ·rw [if_pos (zcX.2 ⟨v,rfl,hv⟩)];simp only [if_pos hv,Option.getD_some];cases t<;>cases many<;>simp
    ·simp [if_neg hv,zky hv]
  ·rw [if_neg hk,decide_eq_false hk];simp only [Bool.false_eq_true,if_false];cases many<;>simp
theorem zma (n:Nd):Rq.zc4 n=if (accR n).1=true then some (accR n).2 else none:=by
 unfold Rq.zc4 accR;have hm:(!n.kids.isEmpty)=decide (0<n.kids.length):=by cases n.kids<;>simp
 rw [hm];generalize decide (0<n.kids.length)=many;cases hk:n.kids with
 | nil=>exact zaj many 0 []
 | cons k t=>
  simp only [Rq.z2M,List.headD_cons,List.drop_succ_cons,List.drop_zero];have hkb:(k.cls==0&&k.tag==2)=decide (k.cls=0∧k.tag=2):=by simp [Bool.decide_and];rfl
  rw [hkb];by_cases h:k.cls=0∧k.tag=2
  ·rw [if_pos h,if_pos (decide_eq_true h)];cases hi:Dr.intOf k with
   | none=>simp [inR]
   | some v=>
    by_cases hv:1≤v∧v≤1000000
    ·rw [if_pos (zcX.2 ⟨v,rfl,hv⟩)];simp only [if_pos hv,Option.getD_some];exact zaj many v t
    ·simp [if_neg hv,zky hv]
  ·rw [if_neg h,decide_eq_false h];simp only [Bool.false_eq_true,if_false];exact zaj many 0 (k::t)
abbrev infO (a b c d e f:D) (s m:Int) (h n:D):O:= .var 46 [.d a,.d b,.d c,.d d,.d e,.d f,.d (.leaf (.int .i64 s)),.d (.leaf (.int .i64 m)),.d h,.d n]
set_option maxHeartbeats 40000000 in
theorem zdj (n:Nd) (hf:Fine n) (a b c d e f h g:D):z0M Tryz.prog gl Tabs 128 [.one (.ref 15 0),nX n] [infO a b c d e f 0 0 h g] (.b (accR n).1) [] [infO a b c d e f (accR n).2.1 (accR n).2.2 h g]:=by
 refine zej false Tryz.func128 rfl (by show 2≤_;decide) ?_;unfold Tryz.f128;dsimp only;have fk:∀ k∈n.kids,Fine k:=fun k h=>z1p hf h
 rcases hk:n.kids with _|⟨k,_|⟨k2,t⟩⟩
 ·clear fk;repeat' (first
   | (first|refine sq_ ?_|refine bk_ ?_)
   | ((first|refine rg_ fun Q hQ=>?_|refine if_ fun Q hQ=>?_|refine dr_ (id:=7) [0,3,5,7] [15,31,47,48,63,241,273,321] (by kernel_rfl) fun Q hQ=>?_|refine dr_ (id:=13) [0,3,5,10] [15,31,47,48,63,241,273,321,641,913,929] (by kernel_rfl) fun Q hQ=>?_|refine ct_ (by first|with_reducible assumption|assumption) ?_|refine cd_ (by first|with_reducible assumption|assumption) ?_ ?_|refine ct_ (z1W _) ?_|refine cd_ (z1W _) ?_ ?_|refine ct_ (isM _ _ _ _ _ _) ?_|refine cd_ (isM _ _ _ _ _ _) ?_ ?_);simp -implicitDefEqProofs [*,z1P,accR,z48,inR])
   | ((first|refine bs_ ?_ ?_|refine cs_ ?_ ?_)<;>(intro hc;have hb:=hc;(try simp only [hk_,ne_eq] at hc);(try have ⟨hc1,hc2⟩:_∧_:=hc);(try subst_vars))<;>first|contradiction|(exfalso;omega)|(simp -implicitDefEqProofs [*,z1P,accR,z48,inR])|skip)
   | ((first|(refine atQ hQ ?_;clear hQ)|refine atQ (by assumption) ?_|refine z04 ?_|refine z06 ?_|refine z07 ?_);try simp only [sk_,if_true,if_false,↓reduceIte,Nat.reduceEqDiff])
   | (first|exact z0f|refine cn_ (by decide) ?_|refine cc_ (by intro e1 e2 e3;simp_all) ?_|refine And.intro (by decide +kernel) ?_)
   | (show EndK _ _ _ _ _ _ _ _;simp -implicitDefEqProofs [*,z1P,accR,z48,inR])
   | ((simp (disch:=omega) only [if_pos,if_neg]);(try (simp -implicitDefEqProofs [*,z1P,accR,z48,inR]))))
 ·have f1:Fine k:=fk k (by rw [hk];simp);have f2:=z7M 2 f1;have hb:=z0S f1;have cP:=zfU (gl:=gl) 2 k.bytes (by omega);clear fk hb;obtain ⟨c,t,kk,bs,l⟩:=k;cases h1:Dr.intOf (.mk c t kk bs l)<;>cases h2:Dr.intOf (.mk 0 2 false bs []);all_goals
   have cI:=zbu (gl:=gl) _ _ _ _ _ f1;have cJ:=zbu (gl:=gl) _ _ _ _ _ f2;simp only [zeE] at cP cJ;rw [h1] at cI;rw [h2] at cJ;clear f1 f2;repeat' (first
    | (first|refine sq_ ?_|refine bk_ ?_)
    | ((first|refine rg_ fun Q hQ=>?_|refine if_ fun Q hQ=>?_|refine dr_ (id:=7) [0,3,5,7] [15,31,47,48,63,241,273,321] (by kernel_rfl) fun Q hQ=>?_|refine dr_ (id:=13) [0,3,5,10] [15,31,47,48,63,241,273,321,641,913,929] (by kernel_rfl) fun Q hQ=>?_|refine ct_ (by first|with_reducible assumption|assumption) ?_|refine cd_ (by first|with_reducible assumption|assumption) ?_ ?_|refine ct_ (z1W _) ?_|refine cd_ (z1W _) ?_ ?_|refine ct_ (isM _ _ _ _ _ _) ?_|refine cd_ (isM _ _ _ _ _ _) ?_ ?_);simp -implicitDefEqProofs [*,z1P,accR,z48,inR,Dr.prim])
    | ((first|refine bs_ ?_ ?_|refine cs_ ?_ ?_)<;>(intro hc;have hb:=hc;(try simp only [hk_,ne_eq] at hc);(try have ⟨hc1,hc2⟩:_∧_:=hc);(try subst_vars))<;>first|contradiction|(exfalso;omega)|(simp -implicitDefEqProofs [*,z1P,accR,z48,inR,Dr.prim])|skip)
    | ((first|(refine atQ hQ ?_;clear hQ)|refine atQ (by assumption) ?_|refine z04 ?_|refine z06 ?_|refine z07 ?_);try simp only [sk_,if_true,if_false,↓reduceIte,Nat.reduceEqDiff])
    | (first|exact z0f|refine cn_ (by decide) ?_|refine cc_ (by intro e1 e2 e3;simp_all) ?_|refine And.intro (by decide +kernel) ?_)
    | (show EndK _ _ _ _ _ _ _ _;simp -implicitDefEqProofs [*,z1P,accR,z48,inR,Dr.prim])
    | ((simp (disch:=omega) only [if_pos,if_neg]);(try (simp -implicitDefEqProofs [*,z1P,accR,z48,inR,Dr.prim]))))
 ·have f1:Fine k:=fk k (by rw [hk];simp);have f2:=z7M 2 f1;have f3:Fine k2:=fk k2 (by rw [hk];simp);have f4:=z7M 2 f3;have hb:=z0S f1;have hb2:=z0S f3;have cP:=zfU (gl:=gl) 2 k.bytes (by omega);have cP2:=zfU (gl:=gl) 2 k2.bytes (by omega);clear fk hb hb2 f3;obtain ⟨c,t1,kk,bs,l⟩:=k;obtain ⟨c',t',kk',bs',l'⟩:=k2;cases h1:Dr.intOf (.mk c t1 kk bs l)<;>cases h2:Dr.intOf (.mk 0 2 false bs [])<;>cases h3:Dr.intOf (.mk 0 2 false bs' []);all_goals
   have cI:=zbu (gl:=gl) _ _ _ _ _ f1;have cJ:=zbu (gl:=gl) _ _ _ _ _ f2;have cK:=zbu (gl:=gl) _ _ _ _ _ f4;simp only [zeE] at cP cJ cK cP2;rw [h1] at cI;rw [h2] at cJ;rw [h3] at cK;clear f1 f2 f4;repeat' (first
    | (first|refine sq_ ?_|refine bk_ ?_)
    | ((first|refine rg_ fun Q hQ=>?_|refine if_ fun Q hQ=>?_|refine dr_ (id:=7) [0,3,5,7] [15,31,47,48,63,241,273,321] (by kernel_rfl) fun Q hQ=>?_|refine dr_ (id:=13) [0,3,5,10] [15,31,47,48,63,241,273,321,641,913,929] (by kernel_rfl) fun Q hQ=>?_|refine ct_ (by first|with_reducible assumption|assumption) ?_|refine cd_ (by first|with_reducible assumption|assumption) ?_ ?_|refine ct_ (z1W _) ?_|refine cd_ (z1W _) ?_ ?_|refine ct_ (isM _ _ _ _ _ _) ?_|refine cd_ (isM _ _ _ _ _ _) ?_ ?_);simp -implicitDefEqProofs [*,z1P,accR,z48,inR,Dr.prim])
    | ((first|refine bs_ ?_ ?_|refine cs_ ?_ ?_)<;>(intro hc;have hb:=hc;(try simp only [hk_,ne_eq] at hc);(try have ⟨hc1,hc2⟩:_∧_:=hc);(try subst_vars))<;>first|contradiction|(exfalso;omega)|(simp -implicitDefEqProofs [*,z1P,accR,z48,inR,Dr.prim])|skip)
    | ((first|(refine atQ hQ ?_;clear hQ)|refine atQ (by assumption) ?_|refine z04 ?_|refine z06 ?_|refine z07 ?_);try simp only [sk_,if_true,if_false,↓reduceIte,Nat.reduceEqDiff])
    | (first|exact z0f|refine cn_ (by decide) ?_|refine cc_ (by intro e1 e2 e3;simp_all) ?_|refine And.intro (by decide +kernel) ?_)
    | (show EndK _ _ _ _ _ _ _ _;simp -implicitDefEqProofs [*,z1P,accR,z48,inR,Dr.prim])
    | ((simp (disch:=omega) only [if_pos,if_neg]);(try (simp -implicitDefEqProofs [*,z1P,accR,z48,inR,Dr.prim]))))
  all_goals first|exact List.length_eq_zero_iff.1 (by omega)|(rintro rfl;simp at hc)
end Am
end Go.Proofs.YtgmppconibklcaaGreatDoor

