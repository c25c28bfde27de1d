/- Part of the proof of TspBack. No condition: lemmas alone. -/
import Derived.Test.YtgmppconibklcaaGreatDoorM31
set_option linter.unusedVariables false
set_option linter.unusedSimpArgs false
set_option maxRecDepth 100000
namespace Go.Proofs.YtgmppconibklcaaGreatDoor
open Go Go.RowKit
namespace Am
variable {gl:Nat→Option (List D)}
abbrev infX (i:Rq.Info) (sl nl:List Nat):E:= .agg [.d (.leaf (.string ⟨i.policy.toArray⟩)),.d (.leaf (.string ⟨i.alg.toArray⟩)),.d (z05 i.impr),.d (nuR .u32 sl),.d (.leaf (.int .i64 i.time)),.d (.leaf (.int .i64 i.micros)),.d (.leaf (.int .i64 i.secs)),.d (.leaf (.int .i64 i.millis)),.d (.leaf (.bool i.has)),.d (nuR .u32 nl)]
set_option maxHeartbeats 8000000 in
theorem z6k (i:Rq.Info) (sl nl:List Nat) (hs:Nt.Lb sl) (hn:Nt.Lb nl) (hsv:Nt.vl sl=i.serial) (hnv:Nt.vl nl=i.nonce) (hsz:sl.length≤100000000) (hnz:nl.length≤100000000):OK gl 67 [infX i sl nl] (.b (Rq.z0J i)):=by
 have cB:=nBits (gl:=gl) sl hs hsz;have cN:=zki (gl:=gl) i.has nl hn hnz;rw [hsv] at cB;rw [hnv] at cN;refine z0k Tryz.func67 rfl (by show 1≤_;decide) ?_;unfold Tryz.f67;dsimp only;repeat' (first
  | (first|refine sq_ ?_|refine bk_ ?_)
  | ((first|refine rg_ fun Q hQ=>?_|refine if_ fun Q hQ=>?_|refine ct_ (by first|with_reducible assumption|assumption) ?_);simp -implicitDefEqProofs [*,Rq.z0J])
  | ((first|refine bs_ ?_ ?_|refine cs_ ?_ ?_)<;>(intro hc;have hb:=hc;(try simp only [hk_,ne_eq] at hc);(try have ⟨hc1,hc2⟩:_∧_:=hc);(try subst_vars))<;>first|contradiction|(exfalso;omega)|(simp -implicitDefEqProofs [*,Rq.z0J])|skip)
  | ((first|(refine atQ hQ ?_;clear hQ)|refine atQ (by assumption) ?_|refine z04 ?_|refine z06 ?_|refine z07 ?_);try simp only [sk_,if_true,if_false,↓reduceIte,Nat.reduceEqDiff])
  | (show EndK _ _ _ _ _ _ _ _;simp -implicitDefEqProofs [*,Rq.z0J])
  | ((simp (disch:=omega) only [if_pos,if_neg]);(try (simp -implicitDefEqProofs [*,Rq.z0J]))))
 all_goals (intros;first|omega|(exfalso;omega))
theorem z97 (n:Int):(Dr.intN n).bytes=Dr.intB n:=rfl
set_option maxHeartbeats 40000000 in
theorem zar (i:Rq.Info) (sl nl:List Nat) (hs:Nt.Lb sl) (hn:Nt.Lb nl) (hsv:Nt.vl sl=i.serial) (hnv:Nt.vl nl=i.nonce) (hsz:sl.length≤100000) (hnz:nl.length≤100000)
  (hp:i.policy.length≤90000) (ha:i.alg.length≤90000) (hi:i.impr.length≤90000) (hm0: -9223372036854775808≤i.secs∧i.secs≤9223372036854775807) (hm1: -9223372036854775808≤i.millis∧i.millis≤9223372036854775807)
  (hW:Rq.z0l i=true→Fine (Rq.z0g i)∧Dr.write (Rq.z0g i)=((Dr.put (Rq.z0g i)).getD [],0)) (hlt:∀ l,Rq.z3a i.time i.micros=some l→l.length≤1000):
  OK gl 22 [infX i sl nl] (.tup [rX (z05 (if Rq.z0l i=true then (Dr.put (Rq.z0g i)).getD [] else [])),iX (if Rq.z0l i=true then 0 else 60)]):=by
 have cO:=tOid (gl:=gl) i.policy (by omega);have cI:=zdx (gl:=gl) i.alg i.impr (by omega) (by omega);have cR:=z6k (gl:=gl) i sl nl hs hn hsv hnv (by omega) (by omega);have cL:=xLong (gl:=gl) i.time i.micros;have cS:=dNat (gl:=gl) sl hs (by omega);have cN:=dNat (gl:=gl) nl hn (by omega);rw [hsv] at cS;rw [hnv] at cN;have c1:=dInt (gl:=gl) 1 (by decide) (by decide);have c2:=dInt (gl:=gl) i.secs hm0.1 hm0.2;have c3:=dInt (gl:=gl) i.millis hm1.1 hm1.2;clear hs hn hsv hnv hsz hnz hm0 hm1 hp ha;cases hl:Rq.z3a i.time i.micros with
 | none=>
  have he:z7C i.time i.micros≠0:=fun h=>by
   have:=z94 i.time i.micros;rw [h,hl] at this;cases this
  rw [hl] at cL;have hr:Rq.z0l i=false:=by unfold Rq.z0l;rw [hl];simp
  refine z0k Tryz.func22 rfl (by show 1≤_;decide) ?_;unfold Tryz.f22;dsimp only;repeat' (first
   | (first|refine sq_ ?_|refine bk_ ?_)
   | ((first|refine rg_ fun Q hQ=>?_|refine if_ fun Q hQ=>?_|refine dr_ (id:=6) [1,4,6,8] [16,64,96,241,369,497,737] (by kernel_rfl) fun Q hQ=>?_|refine dr_ (id:=10) [1,10,11] [16,160,176,241,369,497,737,785,865,913,928,945,1089] (by kernel_rfl) fun Q hQ=>?_|refine dr_ (id:=12) [1,10,11] [16,160,176,241,369,497,737,785,865,913,928,945,1089,1217,1232,1248] (by kernel_rfl) fun Q hQ=>?_|refine dr_ (id:=15) [1,10] [16,160,241,369,497,737,785,865,913,928,945,1089,1217,1232,1248,1393,1440,1456,1536,1552] (by kernel_rfl) fun Q hQ=>?_|refine ct_ (by first|with_reducible assumption|assumption) ?_|refine cd_ (by first|with_reducible assumption|assumption) ?_ ?_);simp -implicitDefEqProofs [*])
   | ((first|refine bs_ ?_ ?_|refine cs_ ?_ ?_)<;>(intro hc;have hb:=hc;(try simp only [hk_,ne_eq] at hc);(try have ⟨hc1,hc2⟩:_∧_:=hc);(try subst_vars))<;>first|contradiction|(exfalso;omega)|(simp -implicitDefEqProofs [*])|skip)
   | ((first|(refine atQ hQ ?_;clear hQ)|refine atQ (by assumption) ?_|refine z04 ?_|refine z06 ?_|refine z07 ?_);try simp only [sk_,if_true,if_false,↓reduceIte,Nat.reduceEqDiff])
   | (first|exact z0f|refine cn_ (by decide) ?_|refine cc_ (by intro e1 e2 e3;simp_all) ?_|refine And.intro (by decide +kernel) ?_)
   | (show EndK _ _ _ _ _ _ _ _;simp -implicitDefEqProofs [*])
   | ((simp (disch:=omega) only [if_pos,if_neg]);(try (simp -implicitDefEqProofs [*]))))
 | some lt=>
  have he:z7C i.time i.micros=0:=by
   have:=z94 i.time i.micros;rw [hl] at this;simpa using this
  rw [hl,he] at cL;by_cases hr:Rq.z0l i=true
  ·have hr0:=hr;unfold Rq.z0l at hr0;rw [hl] at hr0;simp only [Bool.and_eq_true,Option.isSome_some] at hr0;obtain ⟨⟨⟨r1,r2⟩,_⟩,r3⟩:=hr0;have hrest:=r3;unfold Rq.z0J at hrest;simp only [Bool.and_eq_true,decide_eq_true_eq] at hrest;have hs0:0≤i.secs:=by omega
   have hm0:0≤i.millis:=by omega
   obtain ⟨hW1,hW2⟩:=hW hr;have cW:∀ (c t:Int) (k:Bool) (b:List UInt8) (l:List Nd),Nd.mk c t k b l=Rq.z0g i→OK gl 36 [.agg [.d (.leaf (.int .i64 c)),.d (.leaf (.int .i64 t)),.d (.leaf (.bool k)),.d (z05 b),.d (ndR l)]] (.tup [rX (z05 ((Dr.put (Rq.z0g i)).getD [])),iX 0]):=fun c t k b l h=>by
    have:=z6T (gl:=gl) _ hW1 c t k b l h
    rwa [hW2] at this
   have cP:=zfU (gl:=gl) 24 lt (by have:=hlt lt hl;omega);have hin:Rq.z0g i=Dr.seq (Dr.intN 1::Rq.oidN i.policy::Rq.impN i.alg i.impr::Dr.natN i.serial::Dr.prim 24 lt::(Rq.accN i.secs i.millis++Rq.opt i.has (Dr.natN i.nonce))):=by unfold Rq.z0g;rw [hl];rfl
   have hz5:Dr.wts [Dr.intN 1,Rq.oidN i.policy,Rq.impN i.alg i.impr,Dr.natN i.serial,Dr.prim 24 lt]≤10000000:=by
    have h9:=hW1.wt;rw [hin] at h9;unfold Dr.seq at h9;rw [Dr.wt] at h9;simp only [Dr.wts,List.length_nil] at h9 ⊢;omega
   have cSq:=ziP (gl:=gl) _ _ hz5;clear hrest hz5;refine z0k Tryz.func22 rfl (by show 1≤_;decide) ?_;unfold Tryz.f22;dsimp only;repeat' (first
    | (first|refine sq_ ?_|refine bk_ ?_)
    | ((first|refine rg_ fun Q hQ=>?_|refine if_ fun Q hQ=>?_|refine dr_ (id:=6) [1,4,6,8] [16,64,96,241,369,497,737] (by kernel_rfl) fun Q hQ=>?_|refine dr_ (id:=10) [1,10,11] [16,160,176,241,369,497,737,785,865,913,928,945,1089] (by kernel_rfl) fun Q hQ=>?_|refine dr_ (id:=12) [1,10,11] [16,160,176,241,369,497,737,785,865,913,928,945,1089,1217,1232,1248] (by kernel_rfl) fun Q hQ=>?_|refine dr_ (id:=15) [1,10] [16,160,241,369,497,737,785,865,913,928,945,1089,1217,1232,1248,1393,1440,1456,1536,1552] (by kernel_rfl) fun Q hQ=>?_|refine ct_ (by first|with_reducible assumption|assumption) ?_|refine cd_ (by first|with_reducible assumption|assumption) ?_ ?_|refine ct_ (tSeq0) ?_|refine cd_ (tSeq0) ?_ ?_|refine ct_ (cW _ _ _ _ _ (by simp [*,Rq.accN,Rq.z0F,Rq.opt,Dr.seq,Rq.z44,z97])) ?_|refine cd_ (cW _ _ _ _ _ (by simp [*,Rq.accN,Rq.z0F,Rq.opt,Dr.seq,Rq.z44,z97])) ?_ ?_);simp -implicitDefEqProofs [*,z0e,hin,Rq.accN,Rq.z0F,Rq.opt,Dr.seq,Rq.z44])
    | ((first|refine bs_ ?_ ?_|refine cs_ ?_ ?_)<;>(intro hc;have hb:=hc;(try simp only [hk_,ne_eq] at hc);(try have ⟨hc1,hc2⟩:_∧_:=hc);(try subst_vars))<;>first|contradiction|(exfalso;omega)|(simp -implicitDefEqProofs [*,z0e,hin,Rq.accN,Rq.z0F,Rq.opt,Dr.seq,Rq.z44])|skip)
    | ((first|(refine atQ hQ ?_;clear hQ)|refine atQ (by assumption) ?_|refine z04 ?_|refine z06 ?_|refine z07 ?_);try simp only [sk_,if_true,if_false,↓reduceIte,Nat.reduceEqDiff])
    | (first|exact z0f|refine cn_ (by decide) ?_|refine cc_ (by intro e1 e2 e3;simp_all) ?_|refine And.intro (by decide +kernel) ?_)
    | (show EndK _ _ _ _ _ _ _ _;simp -implicitDefEqProofs [*,z0e,hin,Rq.accN,Rq.z0F,Rq.opt,Dr.seq,Rq.z44])
    | ((simp (disch:=omega) only [if_pos,if_neg]);(try (simp -implicitDefEqProofs [*,z0e,hin,Rq.accN,Rq.z0F,Rq.opt,Dr.seq,Rq.z44]))))
  ·have hr':Rq.z2B i.policy=true→Rq.z3O i.alg i.impr=true→Rq.z0J i=false:=fun a b=>by
    unfold Rq.z0l at hr;rw [hl,a,b] at hr;simpa using hr
   refine z0k Tryz.func22 rfl (by show 1≤_;decide) ?_;unfold Tryz.f22;dsimp only;repeat' (first
    | (first|refine sq_ ?_|refine bk_ ?_)
    | ((first|refine rg_ fun Q hQ=>?_|refine if_ fun Q hQ=>?_|refine dr_ (id:=6) [1,4,6,8] [16,64,96,241,369,497,737] (by kernel_rfl) fun Q hQ=>?_|refine dr_ (id:=10) [1,10,11] [16,160,176,241,369,497,737,785,865,913,928,945,1089] (by kernel_rfl) fun Q hQ=>?_|refine dr_ (id:=12) [1,10,11] [16,160,176,241,369,497,737,785,865,913,928,945,1089,1217,1232,1248] (by kernel_rfl) fun Q hQ=>?_|refine dr_ (id:=15) [1,10] [16,160,241,369,497,737,785,865,913,928,945,1089,1217,1232,1248,1393,1440,1456,1536,1552] (by kernel_rfl) fun Q hQ=>?_|refine ct_ (by first|with_reducible assumption|assumption) ?_|refine cd_ (by first|with_reducible assumption|assumption) ?_ ?_);simp -implicitDefEqProofs [*])
    | ((first|refine bs_ ?_ ?_|refine cs_ ?_ ?_)<;>(intro hc;have hb:=hc;(try simp only [hk_,ne_eq] at hc);(try have ⟨hc1,hc2⟩:_∧_:=hc);(try subst_vars))<;>first|contradiction|(exfalso;omega)|(simp -implicitDefEqProofs [*])|skip)
    | ((first|(refine atQ hQ ?_;clear hQ)|refine atQ (by assumption) ?_|refine z04 ?_|refine z06 ?_|refine z07 ?_);try simp only [sk_,if_true,if_false,↓reduceIte,Nat.reduceEqDiff])
    | (first|exact z0f|refine cn_ (by decide) ?_|refine cc_ (by intro e1 e2 e3;simp_all) ?_|refine And.intro (by decide +kernel) ?_)
    | (show EndK _ _ _ _ _ _ _ _;simp -implicitDefEqProofs [*])
    | ((simp (disch:=omega) only [if_pos,if_neg]);(try (simp -implicitDefEqProofs [*]))))
end Am
end Go.Proofs.YtgmppconibklcaaGreatDoor

