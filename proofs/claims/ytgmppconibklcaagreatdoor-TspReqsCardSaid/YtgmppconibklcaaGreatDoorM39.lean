/- Part of the proof. No condition. -/
import Derived.Test.YtgmppconibklcaaGreatDoorM37
import Derived.Test.YtgmppconibklcaaGreatDoorM38
import Derived.Test.YtgmppconibklcaaGreatDoorM28
set_option maxHeartbeats 40000000
set_option maxRecDepth 100000
set_option linter.unusedVariables false
set_option linter.unusedSimpArgs false
namespace Go.Proofs.YtgmppconibklcaaGreatDoor
open Go Go.RowKit
namespace Am
variable {gl:Nat→Option (List D)}
theorem z35 {x:Int} (h1: -4611686018427387904≤x) (h2:x≤4611686018427387904):IntKind.wrap .i64 x=x:=by rw [IntKind.wrap_i64];omega
def szL:List Rq.Ex→Int→Int
 | [],n=>n
 | e::l,n=>if n≤6000 then szL l (n+1+e.oid.length+e.val.length) else n
theorem zlN:∀ (l:List Rq.Ex) (n:Int),szL l n≤6000→n+(Rq.z42 l:Int)≤6000
 | [],n,h=>by simpa [szL,Rq.z42] using h
 | e::l,n,h=>by
  simp only [szL] at h;split at h
  ·have:=zlN l _ h;rw [Rq.z2V]
   push_cast
   omega
  ·omega
def szQ (q:Rq.Req) (ls:List Nat):Int:=szL q.exts ((q.alg.length:Int)+q.impr.length+q.policy.length+4*(ls.length:Int))
structure RszI (q:Rq.Req) (ls:List Nat) (k:Nat) (s:SF):Prop where
 h1:s.env 1=some (.e (iX 6000))
 h2:s.env 2=some (.e (.one (.ref 32 0)))
 g2:s.heap 32=some (.var 27 [.d (.leaf (.string ⟨q.alg.toArray⟩)),.d (z04 q.impr),.d (.leaf (.string ⟨q.policy.toArray⟩)),.d (.leaf (.bool q.has)),.d (nuR .u32 ls),.d (.leaf (.bool q.cert)),.d (exR q.exts)])
 ex:∃ (j:Nat) (n:Int),j+k=q.exts.length∧s.env 6=some (.e (iX j))∧s.env 5=some (.e (iX n))∧szL (q.exts.drop j) n=szQ q ls∧0≤n∧n≤2000000000000000
theorem zkH (q:Rq.Req) (ls:List Nat) (z1:q.alg.length≤140737488355328) (z2:q.impr.length≤140737488355328) (z3:q.policy.length≤140737488355328) (z4:ls.length≤140737488355328) (z5:q.exts.length≤140737488355328) (z6:∀ e∈q.exts,e.oid.length≤140737488355328∧e.val.length≤140737488355328):
  OK gl 25 [reqY q ls,iX 6000] (.i .i64 (szQ q ls)):=by
 have w0:=z35 (x:=(q.alg.length:Int)+q.impr.length) (by omega) (by omega);have w1:=z35 (x:=(q.alg.length:Int)+q.impr.length+q.policy.length) (by omega) (by omega);have w2:=z35 (x:=4*(ls.length:Int)) (by omega) (by omega);have w3:=z35 (x:=(q.alg.length:Int)+q.impr.length+q.policy.length+4*(ls.length:Int)) (by omega) (by omega);refine z0d Tryz.func25 rfl (by show 2≤_;decide) ?_;unfold Tryz.f25;dsimp only;repeat' (first
  | (first|refine sq_ ?_|refine bk_ ?_)
  | ((first|refine rg_ fun Q hQ=>?_|refine if_ fun Q hQ=>?_|refine dr_ (id:=5) [1,2,5,6] [32] (by kernel_rfl) fun Q hQ=>?_|refine ca_ ?_|show EndK _ _ _ _ _ _ _ _);simp -implicitDefEqProofs [*])
  | ((first|refine bs_ ?_ ?_|refine cs_ ?_ ?_)<;>(intro hc;have hb:=hc;(try simp only [hk_,ne_eq] at hc);(try have ⟨hc1,hc2⟩:_∧_:=hc);(try subst_vars))<;>first|contradiction|(exfalso;omega)|(simp -implicitDefEqProofs [*])|skip)
  | ((first|refine aq_ ?_|refine z05 ?_|refine z06 ?_|refine z07 ?_);try simp only [sk_,↓reduceIte,Nat.reduceEqDiff])
  | (with_reducible refine And.intro ?_ ?_;focus (decide +kernel))
  | ((with_reducible show OptK _ _);(simp (disch:=omega) only [if_pos,if_neg]);(try (simp -implicitDefEqProofs [*]))))
 refine z0A (RszI q ls) q.exts.length ?_ ?_
 ·exact ⟨by simp,by simp,by simp,0,_,by simp,by simp,by simp [w0,w1,w2,w3],rfl,by omega,by omega⟩
 ·rintro k s ⟨g1,g2,e2,j,n,hj,e6,e5,hs,n0,n1⟩;clear w0 w1 w2 w3;cases k with
  | zero=>
   have d1:q.exts.drop j=[]:=List.drop_eq_nil_of_le (by omega);rw [d1,szL] at hs;have hjl:j=q.exts.length:=by omega
   subst hjl;have d5:Drw 5 [1,2,5,6] [32]:=⟨⟩;exact am_
  | succ k=>
   have l1:j<q.exts.length:=by omega
   obtain ⟨x,r,hd,hx,_⟩:=z0t l1;obtain ⟨y1,y2⟩:=z6 x (List.mem_of_getElem? hx);have hw:=z35 (x:=(j:Int)+1) (by omega) (by omega);have d1:q.exts.drop (j+1)=r:=by rw [←List.drop_drop,hd];rfl
   by_cases hn:n≤6000
   ·rw [hd,szL,if_pos hn] at hs;have v1:=z35 (x:=n+1) (by omega) (by omega);have v2:=z35 (x:=n+1+x.oid.length) (by omega) (by omega);have v3:=z35 (x:=n+1+x.oid.length+x.val.length) (by omega) (by omega);clear z6;repeat' (first
     | (first|refine sq_ ?_|refine bk_ ?_)
     | ((first|refine rg_ fun Q hQ=>?_|refine if_ fun Q hQ=>?_|refine dr_ (id:=5) [1,2,5,6] [32] (by kernel_rfl) fun Q hQ=>?_|refine ca_ ?_|show EndK _ _ _ _ _ _ _ _);simp -implicitDefEqProofs [*])
     | ((first|refine bs_ ?_ ?_|refine cs_ ?_ ?_)<;>(intro hc;have hb:=hc;(try simp only [hk_,ne_eq] at hc);(try have ⟨hc1,hc2⟩:_∧_:=hc);(try subst_vars))<;>first|contradiction|(exfalso;omega)|(simp -implicitDefEqProofs [*])|skip)
     | ((first|refine aq_ ?_|refine z05 ?_|refine z06 ?_|refine z07 ?_);try simp only [sk_,↓reduceIte,Nat.reduceEqDiff])
     | (with_reducible refine And.intro ?_ ?_;focus (decide +kernel))
     | ((with_reducible show OptK _ _);(simp (disch:=omega) only [if_pos,if_neg]);(try (simp -implicitDefEqProofs [*]))))
    exact ⟨k,by omega,by simp [g1],by simp [g2],by simp [e2],j+1,n+1+x.oid.length+x.val.length,by omega,by simp,by simp,by rw [d1];exact hs,by omega,by omega⟩
   ·rw [hd,szL,if_neg hn] at hs;clear z6;repeat' (first
     | (first|refine sq_ ?_|refine bk_ ?_)
     | ((first|refine rg_ fun Q hQ=>?_|refine if_ fun Q hQ=>?_|refine dr_ (id:=5) [1,2,5,6] [32] (by kernel_rfl) fun Q hQ=>?_|refine ca_ ?_|show EndK _ _ _ _ _ _ _ _);simp -implicitDefEqProofs [*])
     | ((first|refine bs_ ?_ ?_|refine cs_ ?_ ?_)<;>(intro hc;have hb:=hc;(try simp only [hk_,ne_eq] at hc);(try have ⟨hc1,hc2⟩:_∧_:=hc);(try subst_vars))<;>first|contradiction|(exfalso;omega)|(simp -implicitDefEqProofs [*])|skip)
     | ((first|refine aq_ ?_|refine z05 ?_|refine z06 ?_|refine z07 ?_);try simp only [sk_,↓reduceIte,Nat.reduceEqDiff])
     | (with_reducible refine And.intro ?_ ?_;focus (decide +kernel))
     | ((with_reducible show OptK _ _);(simp (disch:=omega) only [if_pos,if_neg]);(try (simp -implicitDefEqProofs [*]))))
theorem lLong (q:Rq.Req) (ls:List Nat) (c:OK gl 25 [reqY q ls,iX 6000] (.i .i64 (szQ q ls))):OK gl 6 [reqY q ls] (.b (decide (szQ q ls>6000))):=by
 refine z0d Tryz.func6 rfl (by show 1≤_;decide) ?_;unfold Tryz.f6;dsimp only;exact am_
def szI (i:Rq.Info) (sl nl:List Nat):Int:=(i.policy.length:Int)+i.alg.length+i.impr.length+4*(sl.length:Int)+4*(nl.length:Int)
end Am
end Go.Proofs.YtgmppconibklcaaGreatDoor

