/- Part of the proof of TspBack. No condition: lemmas alone. -/
import Derived.Test.YtgmppconibklcaaGreatDoorM39
import Derived.Test.YtgmppconibklcaaGreatDoorM40
set_option linter.unusedVariables false
set_option linter.unusedSimpArgs false
set_option maxRecDepth 100000
namespace Go.Proofs.YtgmppconibklcaaGreatDoor
open Go Go.RowKit
namespace Am
variable {gl:Nat→Option (List D)}
theorem z1l {x:Int} (h1: -4611686018427387904≤x) (h2:x≤4611686018427387904):IntKind.wrap .i64 x=x:=by rw [IntKind.wrap_i64];omega
def szL:List Rq.Ex→Int→Int
 | [],n=>n
 | e::l,n=>if n≤6000 then szL l (n+1+e.oid.length+e.val.length) else n
theorem zkj:∀ (l:List Rq.Ex) (n:Int),szL l n≤6000→n+(Rq.z41 l:Int)≤6000
 | [],n,h=>by simpa [szL,Rq.z41] using h
 | e::l,n,h=>by
  simp only [szL] at h;split at h
  ·have:=zkj l _ h;rw [Rq.z2H]
   push_cast
   omega
  ·omega
def szQ (q:Rq.Req) (ls:List Nat):Int:=szL q.exts ((q.alg.length:Int)+q.impr.length+q.policy.length+4*(ls.length:Int))
structure RszI (q:Rq.Req) (ls:List Nat) (k:Nat) (s:SF):Prop where
 h1:s.env 1=some (.e (iX 6000))
 h2:s.env 2=some (.e (.one (.ref 32 0)))
 g2:s.heap 32=some (.var 27 [.d (.leaf (.string ⟨q.alg.toArray⟩)),.d (z05 q.impr),.d (.leaf (.string ⟨q.policy.toArray⟩)),.d (.leaf (.bool q.has)),.d (nuR .u32 ls),.d (.leaf (.bool q.cert)),.d (exR q.exts)])
 ex:∃ (j:Nat) (n:Int),j+k=q.exts.length∧s.env 6=some (.e (iX j))∧s.env 5=some (.e (iX n))∧szL (q.exts.drop j) n=szQ q ls∧0≤n∧n≤2000000000000000
set_option maxHeartbeats 40000000 in
theorem zj5 (q:Rq.Req) (ls:List Nat) (z1:q.alg.length≤140737488355328) (z2:q.impr.length≤140737488355328) (z3:q.policy.length≤140737488355328) (z4:ls.length≤140737488355328) (z5:q.exts.length≤140737488355328) (z6:∀ e∈q.exts,e.oid.length≤140737488355328∧e.val.length≤140737488355328):
  OK gl 25 [reqY q ls,iX 6000] (.i .i64 (szQ q ls)):=by
 have w0:=z1l (x:=(q.alg.length:Int)+q.impr.length) (by omega) (by omega);have w1:=z1l (x:=(q.alg.length:Int)+q.impr.length+q.policy.length) (by omega) (by omega);have w2:=z1l (x:=4*(ls.length:Int)) (by omega) (by omega);have w3:=z1l (x:=(q.alg.length:Int)+q.impr.length+q.policy.length+4*(ls.length:Int)) (by omega) (by omega);refine z0k Tryz.func25 rfl (by show 2≤_;decide) ?_;unfold Tryz.f25;dsimp only;repeat' (first
  | (first|refine sq_ ?_|refine bk_ ?_)
  | ((first|refine rg_ fun Q hQ=>?_|refine if_ fun Q hQ=>?_|refine dr_ (id:=5) [1,2,5,6] [32] (by kernel_rfl) fun Q hQ=>?_|refine ct_ (by first|with_reducible assumption|assumption) ?_|refine cd_ (by first|with_reducible assumption|assumption) ?_ ?_);simp -implicitDefEqProofs [*])
  | ((first|refine bs_ ?_ ?_|refine cs_ ?_ ?_)<;>(intro hc;have hb:=hc;(try simp only [hk_,ne_eq] at hc);(try have ⟨hc1,hc2⟩:_∧_:=hc);(try subst_vars))<;>first|contradiction|(exfalso;omega)|(simp -implicitDefEqProofs [*])|skip)
  | ((first|(refine atQ hQ ?_;clear hQ)|refine atQ (by assumption) ?_|refine z04 ?_|refine z06 ?_|refine z07 ?_);try simp only [sk_,if_true,if_false,↓reduceIte,Nat.reduceEqDiff])
  | (first|exact z0f|refine cn_ (by decide) ?_|refine cc_ (by intro e1 e2 e3;simp_all) ?_|refine And.intro (by decide +kernel) ?_)
  | (show EndK _ _ _ _ _ _ _ _;simp -implicitDefEqProofs [*])
  | ((simp (disch:=omega) only [if_pos,if_neg]);(try (simp -implicitDefEqProofs [*]))))
 refine z3y (RszI q ls) q.exts.length ?_ ?_
 ·exact ⟨by simp,by simp,by simp,0,_,by simp,by simp,by simp [w0,w1,w2,w3],rfl,by omega,by omega⟩
 ·rintro k s ⟨g1,g2,e2,j,n,hj,e6,e5,hs,n0,n1⟩;clear w0 w1 w2 w3;cases k with
  | zero=>
   have d1:q.exts.drop j=[]:=List.drop_eq_nil_of_le (by omega);rw [d1,szL] at hs;have hjl:j=q.exts.length:=by omega
   subst hjl;repeat' (first
    | (first|refine sq_ ?_|refine bk_ ?_)
    | ((first|refine rg_ fun Q hQ=>?_|refine if_ fun Q hQ=>?_|refine dr_ (id:=5) [1,2,5,6] [32] (by kernel_rfl) fun Q hQ=>?_|refine ct_ (by first|with_reducible assumption|assumption) ?_|refine cd_ (by first|with_reducible assumption|assumption) ?_ ?_);simp -implicitDefEqProofs [*])
    | ((first|refine bs_ ?_ ?_|refine cs_ ?_ ?_)<;>(intro hc;have hb:=hc;(try simp only [hk_,ne_eq] at hc);(try have ⟨hc1,hc2⟩:_∧_:=hc);(try subst_vars))<;>first|contradiction|(exfalso;omega)|(simp -implicitDefEqProofs [*])|skip)
    | ((first|(refine atQ hQ ?_;clear hQ)|refine atQ (by assumption) ?_|refine z04 ?_|refine z06 ?_|refine z07 ?_);try simp only [sk_,if_true,if_false,↓reduceIte,Nat.reduceEqDiff])
    | (first|exact z0f|refine cn_ (by decide) ?_|refine cc_ (by intro e1 e2 e3;simp_all) ?_|refine And.intro (by decide +kernel) ?_)
    | (show EndK _ _ _ _ _ _ _ _;simp -implicitDefEqProofs [*])
    | ((simp (disch:=omega) only [if_pos,if_neg]);(try (simp -implicitDefEqProofs [*]))))
  | succ k=>
   have l1:j<q.exts.length:=by omega
   obtain ⟨x,r,hd,hx,_⟩:=z29 l1;obtain ⟨y1,y2⟩:=z6 x (List.mem_of_getElem? hx);have hw:=z1l (x:=(j:Int)+1) (by omega) (by omega);have d1:q.exts.drop (j+1)=r:=by rw [←List.drop_drop,hd];rfl
   by_cases hn:n≤6000
   ·rw [hd,szL,if_pos hn] at hs;have v1:=z1l (x:=n+1) (by omega) (by omega);have v2:=z1l (x:=n+1+x.oid.length) (by omega) (by omega);have v3:=z1l (x:=n+1+x.oid.length+x.val.length) (by omega) (by omega);clear z6;repeat' (first
     | (first|refine sq_ ?_|refine bk_ ?_)
     | ((first|refine rg_ fun Q hQ=>?_|refine if_ fun Q hQ=>?_|refine dr_ (id:=5) [1,2,5,6] [32] (by kernel_rfl) fun Q hQ=>?_|refine ct_ (by first|with_reducible assumption|assumption) ?_|refine cd_ (by first|with_reducible assumption|assumption) ?_ ?_);simp -implicitDefEqProofs [*])
     | ((first|refine bs_ ?_ ?_|refine cs_ ?_ ?_)<;>(intro hc;have hb:=hc;(try simp only [hk_,ne_eq] at hc);(try have ⟨hc1,hc2⟩:_∧_:=hc);(try subst_vars))<;>first|contradiction|(exfalso;omega)|(simp -implicitDefEqProofs [*])|skip)
     | ((first|(refine atQ hQ ?_;clear hQ)|refine atQ (by assumption) ?_|refine z04 ?_|refine z06 ?_|refine z07 ?_);try simp only [sk_,if_true,if_false,↓reduceIte,Nat.reduceEqDiff])
     | (first|exact z0f|refine cn_ (by decide) ?_|refine cc_ (by intro e1 e2 e3;simp_all) ?_|refine And.intro (by decide +kernel) ?_)
     | (show EndK _ _ _ _ _ _ _ _;simp -implicitDefEqProofs [*])
     | ((simp (disch:=omega) only [if_pos,if_neg]);(try (simp -implicitDefEqProofs [*]))))
    exact ⟨k,by omega,by simp [g1],by simp [g2],by simp [e2],j+1,n+1+x.oid.length+x.val.length,by omega,by simp,by simp,by rw [d1];exact hs,by omega,by omega⟩
   ·rw [hd,szL,if_neg hn] at hs;clear z6;repeat' (first
     | (first|refine sq_ ?_|refine bk_ ?_)
     | ((first|refine rg_ fun Q hQ=>?_|refine if_ fun Q hQ=>?_|refine dr_ (id:=5) [1,2,5,6] [32] (by kernel_rfl) fun Q hQ=>?_|refine ct_ (by first|with_reducible assumption|assumption) ?_|refine cd_ (by first|with_reducible assumption|assumption) ?_ ?_);simp -implicitDefEqProofs [*])
     | ((first|refine bs_ ?_ ?_|refine cs_ ?_ ?_)<;>(intro hc;have hb:=hc;(try simp only [hk_,ne_eq] at hc);(try have ⟨hc1,hc2⟩:_∧_:=hc);(try subst_vars))<;>first|contradiction|(exfalso;omega)|(simp -implicitDefEqProofs [*])|skip)
     | ((first|(refine atQ hQ ?_;clear hQ)|refine atQ (by assumption) ?_|refine z04 ?_|refine z06 ?_|refine z07 ?_);try simp only [sk_,if_true,if_false,↓reduceIte,Nat.reduceEqDiff])
     | (first|exact z0f|refine cn_ (by decide) ?_|refine cc_ (by intro e1 e2 e3;simp_all) ?_|refine And.intro (by decide +kernel) ?_)
     | (show EndK _ _ _ _ _ _ _ _;simp -implicitDefEqProofs [*])
     | ((simp (disch:=omega) only [if_pos,if_neg]);(try (simp -implicitDefEqProofs [*]))))
set_option maxHeartbeats 4000000 in
theorem lLong (q:Rq.Req) (ls:List Nat) (c:OK gl 25 [reqY q ls,iX 6000] (.i .i64 (szQ q ls))):OK gl 6 [reqY q ls] (.b (decide (szQ q ls>6000))):=by
 refine z0k Tryz.func6 rfl (by show 1≤_;decide) ?_;unfold Tryz.f6;dsimp only;repeat' (first
  | (first|refine sq_ ?_|refine bk_ ?_)
  | ((first|refine rg_ fun Q hQ=>?_|refine if_ fun Q hQ=>?_|refine ct_ (by first|with_reducible assumption|assumption) ?_);simp -implicitDefEqProofs [*])
  | ((first|refine bs_ ?_ ?_|refine cs_ ?_ ?_)<;>(intro hc;have hb:=hc;(try simp only [hk_,ne_eq] at hc);(try have ⟨hc1,hc2⟩:_∧_:=hc);(try subst_vars))<;>first|contradiction|(exfalso;omega)|(simp -implicitDefEqProofs [*])|skip)
  | ((first|(refine atQ hQ ?_;clear hQ)|refine atQ (by assumption) ?_|refine z04 ?_|refine z06 ?_|refine z07 ?_);try simp only [sk_,if_true,if_false,↓reduceIte,Nat.reduceEqDiff])
  | (show EndK _ _ _ _ _ _ _ _;simp -implicitDefEqProofs [*])
  | ((simp (disch:=omega) only [if_pos,if_neg]);(try (simp -implicitDefEqProofs [*]))))
def szI (i:Rq.Info) (sl nl:List Nat):Int:=(i.policy.length:Int)+i.alg.length+i.impr.length+4*(sl.length:Int)+4*(nl.length:Int)
set_option maxHeartbeats 4000000 in
theorem lWordy (i:Rq.Info) (sl nl:List Nat) (z1:i.policy.length≤140737488355328) (z2:i.alg.length≤140737488355328) (z3:i.impr.length≤140737488355328) (z4:sl.length≤140737488355328) (z5:nl.length≤140737488355328):OK gl 21 [infX i sl nl] (.b (decide (szI i sl nl>3000))):=by
 have w0:=z1l (x:=(i.policy.length:Int)+i.alg.length) (by omega) (by omega);have w1:=z1l (x:=(i.policy.length:Int)+i.alg.length+i.impr.length) (by omega) (by omega);have w2:=z1l (x:=4*(sl.length:Int)) (by omega) (by omega);have w3:=z1l (x:=(i.policy.length:Int)+i.alg.length+i.impr.length+4*(sl.length:Int)) (by omega) (by omega);have w4:=z1l (x:=4*(nl.length:Int)) (by omega) (by omega);have w5:=z1l (x:=(i.policy.length:Int)+i.alg.length+i.impr.length+4*(sl.length:Int)+4*(nl.length:Int)) (by omega) (by omega);refine z0k Tryz.func21 rfl (by show 1≤_;decide) ?_;unfold Tryz.f21;dsimp only;repeat' (first
  | (first|refine sq_ ?_|refine bk_ ?_)
  | ((first|refine rg_ fun Q hQ=>?_|refine if_ fun Q hQ=>?_|refine ct_ (by first|with_reducible assumption|assumption) ?_);simp -implicitDefEqProofs [*,szI])
  | ((first|refine bs_ ?_ ?_|refine cs_ ?_ ?_)<;>(intro hc;have hb:=hc;(try simp only [hk_,ne_eq] at hc);(try have ⟨hc1,hc2⟩:_∧_:=hc);(try subst_vars))<;>first|contradiction|(exfalso;omega)|(simp -implicitDefEqProofs [*,szI])|skip)
  | ((first|(refine atQ hQ ?_;clear hQ)|refine atQ (by assumption) ?_|refine z04 ?_|refine z06 ?_|refine z07 ?_);try simp only [sk_,if_true,if_false,↓reduceIte,Nat.reduceEqDiff])
  | (show EndK _ _ _ _ _ _ _ _;simp -implicitDefEqProofs [*,szI])
  | ((simp (disch:=omega) only [if_pos,if_neg]);(try (simp -implicitDefEqProofs [*,szI]))))
end Am
end Go.Proofs.YtgmppconibklcaaGreatDoor

