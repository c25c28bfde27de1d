/- Part of the proof of TspBack. No condition: lemmas alone. -/
import Derived.Test.YtgmppconibklcaaGreatDoorM36
import Derived.Test.YtgmppconibklcaaGreatDoorM38
import Derived.Test.YtgmppconibklcaaGreatDoorM37
set_option linter.unusedVariables false
set_option linter.unusedSimpArgs false
set_option maxRecDepth 100000
namespace Go.Proofs.YtgmppconibklcaaGreatDoor
open Go Go.RowKit
namespace Am
variable {gl:Nat→Option (List D)}
def zaP (a b:Rq.Ex):Bool:=a.oid==b.oid&&(a.crit==b.crit&&a.val==b.val)
def z5k:List Rq.Ex→List Rq.Ex→Bool
 | [],[]=>true
 | a::l,b::m=>zaP a b&&z5k l m
 | _,_=>false
theorem z8C:∀ l:List Rq.Ex,z5k l l=true
 | []=>rfl
 | a::l=>by simp [z5k,zaP,z8C l]
set_option maxHeartbeats 4000000 in
theorem zj4 (a b:Rq.Ex):OK gl 50 [exX a,exX b] (.b (zaP a b)):=by
 refine z0k Tryz.func50 rfl (by show 2≤_;decide) ?_;unfold Tryz.f50;dsimp only;repeat' (first
  | (first|refine sq_ ?_|refine bk_ ?_)
  | ((first|refine rg_ fun Q hQ=>?_|refine if_ fun Q hQ=>?_|refine ct_ (by first|with_reducible assumption|assumption) ?_);simp -implicitDefEqProofs [*,zaP])
  | ((first|refine bs_ ?_ ?_|refine cs_ ?_ ?_)<;>(intro hc;have hb:=hc;(try simp only [hk_,ne_eq] at hc);(try have ⟨hc1,hc2⟩:_∧_:=hc);(try subst_vars))<;>first|contradiction|(exfalso;omega)|(simp -implicitDefEqProofs [*,zaP])|skip)
  | ((first|(refine atQ hQ ?_;clear hQ)|refine atQ (by assumption) ?_|refine z04 ?_|refine z06 ?_|refine z07 ?_);try simp only [sk_,if_true,if_false,↓reduceIte,Nat.reduceEqDiff])
  | (show EndK _ _ _ _ _ _ _ _;simp -implicitDefEqProofs [*,zaP])
  | ((simp (disch:=omega) only [if_pos,if_neg]);(try (simp -implicitDefEqProofs [*,zaP]))))
 all_goals (simp at *;simp [*])

set_option maxHeartbeats 4000000 in
theorem zb0 (s f:Int) (k:List UInt8) (s' f':Int) (k':List UInt8):OK gl 20 [rspX s f k,rspX s' f' k'] (.b (s==s'&&(f==f'&&k==k'))):=by
 refine z0k Tryz.func20 rfl (by show 2≤_;decide) ?_;unfold Tryz.f20;dsimp only;repeat' (first
  | (first|refine sq_ ?_|refine bk_ ?_)
  | ((first|refine rg_ fun Q hQ=>?_|refine if_ fun Q hQ=>?_|refine ct_ (by first|with_reducible assumption|assumption) ?_);simp -implicitDefEqProofs [*])
  | ((first|refine bs_ ?_ ?_|refine cs_ ?_ ?_)<;>(intro hc;have hb:=hc;(try simp only [hk_,ne_eq] at hc);(try have ⟨hc1,hc2⟩:_∧_:=hc);(try subst_vars))<;>first|contradiction|(exfalso;omega)|(simp -implicitDefEqProofs [*])|skip)
  | ((first|(refine atQ hQ ?_;clear hQ)|refine atQ (by assumption) ?_|refine z04 ?_|refine z06 ?_|refine z07 ?_);try simp only [sk_,if_true,if_false,↓reduceIte,Nat.reduceEqDiff])
  | (show EndK _ _ _ _ _ _ _ _;simp -implicitDefEqProofs [*])
  | ((simp (disch:=omega) only [if_pos,if_neg]);(try (simp -implicitDefEqProofs [*]))))
abbrev reqY (q:Rq.Req) (ls:List Nat):E:= .agg [.d (.leaf (.string ⟨q.alg.toArray⟩)),.d (z05 q.impr),.d (.leaf (.string ⟨q.policy.toArray⟩)),.d (.leaf (.bool q.has)),.d (nuR .u32 ls),.d (.leaf (.bool q.cert)),.d (exR q.exts)]
def z1Z (q p:Rq.Req) (ls ms:List Nat):Bool:=q.alg==p.alg&&(q.impr==p.impr&&(q.policy==p.policy&&(q.has==p.has&&(cmpN ls ms==0&&(q.cert==p.cert&&z5k q.exts p.exts)))))
structure SamI (q p:Rq.Req) (ls ms:List Nat) (k:Nat) (s:SF):Prop where
 h2:s.env 2=some (.e (.one (.ref 32 0)))
 h3:s.env 3=some (.e (.one (.ref 48 0)))
 g2:s.heap 32=some (.var 27 [.d (.leaf (.string ⟨q.alg.toArray⟩)),.d (z05 q.impr),.d (.leaf (.string ⟨q.policy.toArray⟩)),.d (.leaf (.bool q.has)),.d (nuR .u32 ls),.d (.leaf (.bool q.cert)),.d (exR q.exts)])
 g3:s.heap 48=some (.var 27 [.d (.leaf (.string ⟨p.alg.toArray⟩)),.d (z05 p.impr),.d (.leaf (.string ⟨p.policy.toArray⟩)),.d (.leaf (.bool p.has)),.d (nuR .u32 ms),.d (.leaf (.bool p.cert)),.d (exR p.exts)])
 ex:∃ j,j+k=q.exts.length∧s.env 5=some (.e (iX j))∧z5k (q.exts.drop j) (p.exts.drop j)=z5k q.exts p.exts
theorem zaO:∀ {a b:List Rq.Ex},a.length≠b.length→z5k a b=false
 | [],[],h=>absurd rfl h
 | [],_::_,_=>rfl
 | _::_,[],_=>rfl
 | a::l,b::m,h=>by simp only [z5k];rw [zaO (a:=l) (b:=m) (by simpa using h),Bool.and_false]
set_option maxHeartbeats 40000000 in
theorem zdM (q p:Rq.Req) (ls ms:List Nat) (hl:Nt.Lb ls) (hm:Nt.Lb ms) (hz:ls.length≤100000000) (hy:ms.length≤100000000) (hx:q.exts.length≤100000000):OK gl 13 [reqY q ls,reqY p ms] (.b (z1Z q p ls ms)):=by
 have cC:=rCmp (gl:=gl) ls ms hl hm hz hy;clear hl hm hz hy;obtain ⟨qa,qi,qp,qh,qn,qc,qe⟩:=q;obtain ⟨pa,pi,pp,ph,pn,pc,pe⟩:=p;simp only at hx;refine z0k Tryz.func13 rfl (by show 2≤_;decide) ?_;unfold Tryz.f13;dsimp only;by_cases h1:qa=pa
 ·by_cases h2:qi=pi
  ·by_cases h3:qp=pp
   ·by_cases h4:qh=ph
    ·by_cases h5:cmpN ls ms=0
     ·by_cases h6:qc=pc
      ·by_cases h7:qe.length=pe.length
       ·have hf:z1Z ⟨qa,qi,qp,qh,qn,qc,qe⟩ ⟨pa,pi,pp,ph,pn,pc,pe⟩ ls ms=z5k qe pe:=by simp [z1Z, *]
        rw [hf];clear hf;subst h1 h2 h3 h4 h6;repeat' (first
         | (first|refine sq_ ?_|refine bk_ ?_)
         | ((first|refine rg_ fun Q hQ=>?_|refine if_ fun Q hQ=>?_|refine dr_ (id:=6) [2,3,5] [32,48] (by kernel_rfl) fun Q hQ=>?_|refine ct_ (by first|with_reducible assumption|assumption) ?_|refine cd_ (by first|with_reducible assumption|assumption) ?_ ?_);simp -implicitDefEqProofs [*])
         | ((first|refine bs_ ?_ ?_|refine cs_ ?_ ?_)<;>(intro hc;have hb:=hc;(try simp only [hk_,ne_eq] at hc);(try have ⟨hc1,hc2⟩:_∧_:=hc);(try subst_vars))<;>first|contradiction|(exfalso;omega)|(simp -implicitDefEqProofs [*])|skip)
         | ((first|(refine atQ hQ ?_;clear hQ)|refine atQ (by assumption) ?_|refine z04 ?_|refine z06 ?_|refine z07 ?_);try simp only [sk_,if_true,if_false,↓reduceIte,Nat.reduceEqDiff])
         | (first|exact z0f|refine cn_ (by decide) ?_|refine cc_ (by intro e1 e2 e3;simp_all) ?_|refine And.intro (by decide +kernel) ?_)
         | (show EndK _ _ _ _ _ _ _ _;simp -implicitDefEqProofs [*])
         | ((simp (disch:=omega) only [if_pos,if_neg]);(try (simp -implicitDefEqProofs [*]))))
        refine z3y (SamI ⟨qa,qi,qp,qh,qn,qc,qe⟩ ⟨qa,qi,qp,qh,pn,qc,pe⟩ ls ms) qe.length ?_ ?_
        ·exact ⟨by simp,by simp,by simp,by simp,0,by simp,by simp,rfl⟩
        ·rintro k s ⟨g2,g3,e2,e3,j,hj,e5,hs⟩;simp only at hj hs e2 e3;cases k with
         | zero=>
          have d1:qe.drop j=[]:=List.drop_eq_nil_of_le (by omega);have d2:pe.drop j=[]:=List.drop_eq_nil_of_le (by omega);have hT:z5k qe pe=true:=by rw [←hs,d1,d2];rfl
          have hjl:j=qe.length:=by omega
          subst hjl;clear hs hj;repeat' (first
           | (first|refine sq_ ?_|refine bk_ ?_)
           | ((first|refine rg_ fun Q hQ=>?_|refine if_ fun Q hQ=>?_|refine dr_ (id:=6) [2,3,5] [32,48] (by kernel_rfl) fun Q hQ=>?_|refine ct_ (by first|with_reducible assumption|assumption) ?_|refine cd_ (by first|with_reducible assumption|assumption) ?_ ?_);simp -implicitDefEqProofs [*])
           | ((first|refine bs_ ?_ ?_|refine cs_ ?_ ?_)<;>(intro hc;have hb:=hc;(try simp only [hk_,ne_eq] at hc);(try have ⟨hc1,hc2⟩:_∧_:=hc);(try subst_vars))<;>first|contradiction|(exfalso;omega)|(simp -implicitDefEqProofs [*])|skip)
           | ((first|(refine atQ hQ ?_;clear hQ)|refine atQ (by assumption) ?_|refine z04 ?_|refine z06 ?_|refine z07 ?_);try simp only [sk_,if_true,if_false,↓reduceIte,Nat.reduceEqDiff])
           | (first|exact z0f|refine cn_ (by decide) ?_|refine cc_ (by intro e1 e2 e3;simp_all) ?_|refine And.intro (by decide +kernel) ?_)
           | (show EndK _ _ _ _ _ _ _ _;simp -implicitDefEqProofs [*])
           | ((simp (disch:=omega) only [if_pos,if_neg]);(try (simp -implicitDefEqProofs [*]))))
         | succ k=>
          have l1:j<qe.length:=by omega
          have l2:j<pe.length:=by omega
          obtain ⟨x,r,hd,hx,_⟩:=z29 l1;obtain ⟨y,r2,hd2,hy,_⟩:=z29 l2;have hw:=z6H (k:=j+1) (by omega);have cE:=zj4 (gl:=gl) x y;have d1:qe.drop (j+1)=r:=by rw [←List.drop_drop,hd];rfl
          have d2:pe.drop (j+1)=r2:=by rw [←List.drop_drop,hd2];rfl
          rw [hd,hd2,z5k] at hs;cases hE:zaP x y with
          | false=>
           rw [hE] at hs cE;have hF:z5k qe pe=false:=by rw [←hs];rfl
           clear hs;repeat' (first
            | (first|refine sq_ ?_|refine bk_ ?_)
            | ((first|refine rg_ fun Q hQ=>?_|refine if_ fun Q hQ=>?_|refine dr_ (id:=6) [2,3,5] [32,48] (by kernel_rfl) fun Q hQ=>?_|refine ct_ (by first|with_reducible assumption|assumption) ?_|refine cd_ (by first|with_reducible assumption|assumption) ?_ ?_);simp -implicitDefEqProofs [*])
            | ((first|refine bs_ ?_ ?_|refine cs_ ?_ ?_)<;>(intro hc;have hb:=hc;(try simp only [hk_,ne_eq] at hc);(try have ⟨hc1,hc2⟩:_∧_:=hc);(try subst_vars))<;>first|contradiction|(exfalso;omega)|(simp -implicitDefEqProofs [*])|skip)
            | ((first|(refine atQ hQ ?_;clear hQ)|refine atQ (by assumption) ?_|refine z04 ?_|refine z06 ?_|refine z07 ?_);try simp only [sk_,if_true,if_false,↓reduceIte,Nat.reduceEqDiff])
            | (first|exact z0f|refine cn_ (by decide) ?_|refine cc_ (by intro e1 e2 e3;simp_all) ?_|refine And.intro (by decide +kernel) ?_)
            | (show EndK _ _ _ _ _ _ _ _;simp -implicitDefEqProofs [*])
            | ((simp (disch:=omega) only [if_pos,if_neg]);(try (simp -implicitDefEqProofs [*]))))
          | true=>
           rw [hE] at hs cE;have hs2:z5k r r2=z5k qe pe:=by rw [←hs];rfl
           clear hs;repeat' (first
            | (first|refine sq_ ?_|refine bk_ ?_)
            | ((first|refine rg_ fun Q hQ=>?_|refine if_ fun Q hQ=>?_|refine dr_ (id:=6) [2,3,5] [32,48] (by kernel_rfl) fun Q hQ=>?_|refine ct_ (by first|with_reducible assumption|assumption) ?_|refine cd_ (by first|with_reducible assumption|assumption) ?_ ?_);simp -implicitDefEqProofs [*])
            | ((first|refine bs_ ?_ ?_|refine cs_ ?_ ?_)<;>(intro hc;have hb:=hc;(try simp only [hk_,ne_eq] at hc);(try have ⟨hc1,hc2⟩:_∧_:=hc);(try subst_vars))<;>first|contradiction|(exfalso;omega)|(simp -implicitDefEqProofs [*])|skip)
            | ((first|(refine atQ hQ ?_;clear hQ)|refine atQ (by assumption) ?_|refine z04 ?_|refine z06 ?_|refine z07 ?_);try simp only [sk_,if_true,if_false,↓reduceIte,Nat.reduceEqDiff])
            | (first|exact z0f|refine cn_ (by decide) ?_|refine cc_ (by intro e1 e2 e3;simp_all) ?_|refine And.intro (by decide +kernel) ?_)
            | (show EndK _ _ _ _ _ _ _ _;simp -implicitDefEqProofs [*])
            | ((simp (disch:=omega) only [if_pos,if_neg]);(try (simp -implicitDefEqProofs [*]))))
           exact ⟨k,by omega,by simp [g2],by simp [g3],by simp [e2],by simp [e3],j+1,by simp only;omega,by simpa using hw,by simp only;rw [d1,d2,hs2]⟩
       ·have hf:z1Z ⟨qa,qi,qp,qh,qn,qc,qe⟩ ⟨pa,pi,pp,ph,pn,pc,pe⟩ ls ms=false:=by simp [z1Z,zaO h7]
        rw [hf];clear hf;repeat' (first
         | (first|refine sq_ ?_|refine bk_ ?_)
         | ((first|refine rg_ fun Q hQ=>?_|refine if_ fun Q hQ=>?_|refine dr_ (id:=6) [2,3,5] [32,48] (by kernel_rfl) fun Q hQ=>?_|refine ct_ (by first|with_reducible assumption|assumption) ?_|refine cd_ (by first|with_reducible assumption|assumption) ?_ ?_);simp -implicitDefEqProofs [*])
         | ((first|refine bs_ ?_ ?_|refine cs_ ?_ ?_)<;>(intro hc;have hb:=hc;(try simp only [hk_,ne_eq] at hc);(try have ⟨hc1,hc2⟩:_∧_:=hc);(try subst_vars))<;>first|contradiction|(exfalso;omega)|(simp -implicitDefEqProofs [*])|skip)
         | ((first|(refine atQ hQ ?_;clear hQ)|refine atQ (by assumption) ?_|refine z04 ?_|refine z06 ?_|refine z07 ?_);try simp only [sk_,if_true,if_false,↓reduceIte,Nat.reduceEqDiff])
         | (first|exact z0f|refine cn_ (by decide) ?_|refine cc_ (by intro e1 e2 e3;simp_all) ?_|refine And.intro (by decide +kernel) ?_)
         | (show EndK _ _ _ _ _ _ _ _;simp -implicitDefEqProofs [*])
         | ((simp (disch:=omega) only [if_pos,if_neg]);(try (simp -implicitDefEqProofs [*]))))
      ·have hf:z1Z ⟨qa,qi,qp,qh,qn,qc,qe⟩ ⟨pa,pi,pp,ph,pn,pc,pe⟩ ls ms=false:=by simp [z1Z,h6]
       rw [hf];clear hf;repeat' (first
        | (first|refine sq_ ?_|refine bk_ ?_)
        | ((first|refine rg_ fun Q hQ=>?_|refine if_ fun Q hQ=>?_|refine dr_ (id:=6) [2,3,5] [32,48] (by kernel_rfl) fun Q hQ=>?_|refine ct_ (by first|with_reducible assumption|assumption) ?_|refine cd_ (by first|with_reducible assumption|assumption) ?_ ?_);simp -implicitDefEqProofs [*])
        | ((first|refine bs_ ?_ ?_|refine cs_ ?_ ?_)<;>(intro hc;have hb:=hc;(try simp only [hk_,ne_eq] at hc);(try have ⟨hc1,hc2⟩:_∧_:=hc);(try subst_vars))<;>first|contradiction|(exfalso;omega)|(simp -implicitDefEqProofs [*])|skip)
        | ((first|(refine atQ hQ ?_;clear hQ)|refine atQ (by assumption) ?_|refine z04 ?_|refine z06 ?_|refine z07 ?_);try simp only [sk_,if_true,if_false,↓reduceIte,Nat.reduceEqDiff])
        | (first|exact z0f|refine cn_ (by decide) ?_|refine cc_ (by intro e1 e2 e3;simp_all) ?_|refine And.intro (by decide +kernel) ?_)
        | (show EndK _ _ _ _ _ _ _ _;simp -implicitDefEqProofs [*])
        | ((simp (disch:=omega) only [if_pos,if_neg]);(try (simp -implicitDefEqProofs [*]))))
     ·have hf:z1Z ⟨qa,qi,qp,qh,qn,qc,qe⟩ ⟨pa,pi,pp,ph,pn,pc,pe⟩ ls ms=false:=by simp [z1Z,h5]
      rw [hf];clear hf;repeat' (first
       | (first|refine sq_ ?_|refine bk_ ?_)
       | ((first|refine rg_ fun Q hQ=>?_|refine if_ fun Q hQ=>?_|refine dr_ (id:=6) [2,3,5] [32,48] (by kernel_rfl) fun Q hQ=>?_|refine ct_ (by first|with_reducible assumption|assumption) ?_|refine cd_ (by first|with_reducible assumption|assumption) ?_ ?_);simp -implicitDefEqProofs [*])
       | ((first|refine bs_ ?_ ?_|refine cs_ ?_ ?_)<;>(intro hc;have hb:=hc;(try simp only [hk_,ne_eq] at hc);(try have ⟨hc1,hc2⟩:_∧_:=hc);(try subst_vars))<;>first|contradiction|(exfalso;omega)|(simp -implicitDefEqProofs [*])|skip)
       | ((first|(refine atQ hQ ?_;clear hQ)|refine atQ (by assumption) ?_|refine z04 ?_|refine z06 ?_|refine z07 ?_);try simp only [sk_,if_true,if_false,↓reduceIte,Nat.reduceEqDiff])
       | (first|exact z0f|refine cn_ (by decide) ?_|refine cc_ (by intro e1 e2 e3;simp_all) ?_|refine And.intro (by decide +kernel) ?_)
       | (show EndK _ _ _ _ _ _ _ _;simp -implicitDefEqProofs [*])
       | ((simp (disch:=omega) only [if_pos,if_neg]);(try (simp -implicitDefEqProofs [*]))))
    ·have hf:z1Z ⟨qa,qi,qp,qh,qn,qc,qe⟩ ⟨pa,pi,pp,ph,pn,pc,pe⟩ ls ms=false:=by simp [z1Z,h4]
     rw [hf];clear hf;repeat' (first
      | (first|refine sq_ ?_|refine bk_ ?_)
      | ((first|refine rg_ fun Q hQ=>?_|refine if_ fun Q hQ=>?_|refine dr_ (id:=6) [2,3,5] [32,48] (by kernel_rfl) fun Q hQ=>?_|refine ct_ (by first|with_reducible assumption|assumption) ?_|refine cd_ (by first|with_reducible assumption|assumption) ?_ ?_);simp -implicitDefEqProofs [*])
      | ((first|refine bs_ ?_ ?_|refine cs_ ?_ ?_)<;>(intro hc;have hb:=hc;(try simp only [hk_,ne_eq] at hc);(try have ⟨hc1,hc2⟩:_∧_:=hc);(try subst_vars))<;>first|contradiction|(exfalso;omega)|(simp -implicitDefEqProofs [*])|skip)
      | ((first|(refine atQ hQ ?_;clear hQ)|refine atQ (by assumption) ?_|refine z04 ?_|refine z06 ?_|refine z07 ?_);try simp only [sk_,if_true,if_false,↓reduceIte,Nat.reduceEqDiff])
      | (first|exact z0f|refine cn_ (by decide) ?_|refine cc_ (by intro e1 e2 e3;simp_all) ?_|refine And.intro (by decide +kernel) ?_)
      | (show EndK _ _ _ _ _ _ _ _;simp -implicitDefEqProofs [*])
      | ((simp (disch:=omega) only [if_pos,if_neg]);(try (simp -implicitDefEqProofs [*]))))
   ·have hf:z1Z ⟨qa,qi,qp,qh,qn,qc,qe⟩ ⟨pa,pi,pp,ph,pn,pc,pe⟩ ls ms=false:=by simp [z1Z,h3]
    rw [hf];clear hf;repeat' (first
     | (first|refine sq_ ?_|refine bk_ ?_)
     | ((first|refine rg_ fun Q hQ=>?_|refine if_ fun Q hQ=>?_|refine dr_ (id:=6) [2,3,5] [32,48] (by kernel_rfl) fun Q hQ=>?_|refine ct_ (by first|with_reducible assumption|assumption) ?_|refine cd_ (by first|with_reducible assumption|assumption) ?_ ?_);simp -implicitDefEqProofs [*])
     | ((first|refine bs_ ?_ ?_|refine cs_ ?_ ?_)<;>(intro hc;have hb:=hc;(try simp only [hk_,ne_eq] at hc);(try have ⟨hc1,hc2⟩:_∧_:=hc);(try subst_vars))<;>first|contradiction|(exfalso;omega)|(simp -implicitDefEqProofs [*])|skip)
     | ((first|(refine atQ hQ ?_;clear hQ)|refine atQ (by assumption) ?_|refine z04 ?_|refine z06 ?_|refine z07 ?_);try simp only [sk_,if_true,if_false,↓reduceIte,Nat.reduceEqDiff])
     | (first|exact z0f|refine cn_ (by decide) ?_|refine cc_ (by intro e1 e2 e3;simp_all) ?_|refine And.intro (by decide +kernel) ?_)
     | (show EndK _ _ _ _ _ _ _ _;simp -implicitDefEqProofs [*])
     | ((simp (disch:=omega) only [if_pos,if_neg]);(try (simp -implicitDefEqProofs [*]))))
  ·have hf:z1Z ⟨qa,qi,qp,qh,qn,qc,qe⟩ ⟨pa,pi,pp,ph,pn,pc,pe⟩ ls ms=false:=by simp [z1Z,h2]
   rw [hf];clear hf;repeat' (first
    | (first|refine sq_ ?_|refine bk_ ?_)
    | ((first|refine rg_ fun Q hQ=>?_|refine if_ fun Q hQ=>?_|refine dr_ (id:=6) [2,3,5] [32,48] (by kernel_rfl) fun Q hQ=>?_|refine ct_ (by first|with_reducible assumption|assumption) ?_|refine cd_ (by first|with_reducible assumption|assumption) ?_ ?_);simp -implicitDefEqProofs [*])
    | ((first|refine bs_ ?_ ?_|refine cs_ ?_ ?_)<;>(intro hc;have hb:=hc;(try simp only [hk_,ne_eq] at hc);(try have ⟨hc1,hc2⟩:_∧_:=hc);(try subst_vars))<;>first|contradiction|(exfalso;omega)|(simp -implicitDefEqProofs [*])|skip)
    | ((first|(refine atQ hQ ?_;clear hQ)|refine atQ (by assumption) ?_|refine z04 ?_|refine z06 ?_|refine z07 ?_);try simp only [sk_,if_true,if_false,↓reduceIte,Nat.reduceEqDiff])
    | (first|exact z0f|refine cn_ (by decide) ?_|refine cc_ (by intro e1 e2 e3;simp_all) ?_|refine And.intro (by decide +kernel) ?_)
    | (show EndK _ _ _ _ _ _ _ _;simp -implicitDefEqProofs [*])
    | ((simp (disch:=omega) only [if_pos,if_neg]);(try (simp -implicitDefEqProofs [*]))))
 ·have hf:z1Z ⟨qa,qi,qp,qh,qn,qc,qe⟩ ⟨pa,pi,pp,ph,pn,pc,pe⟩ ls ms=false:=by simp [z1Z,h1]
  rw [hf];clear hf;repeat' (first
   | (first|refine sq_ ?_|refine bk_ ?_)
   | ((first|refine rg_ fun Q hQ=>?_|refine if_ fun Q hQ=>?_|refine dr_ (id:=6) [2,3,5] [32,48] (by kernel_rfl) fun Q hQ=>?_|refine ct_ (by first|with_reducible assumption|assumption) ?_|refine cd_ (by first|with_reducible assumption|assumption) ?_ ?_);simp -implicitDefEqProofs [*])
   | ((first|refine bs_ ?_ ?_|refine cs_ ?_ ?_)<;>(intro hc;have hb:=hc;(try simp only [hk_,ne_eq] at hc);(try have ⟨hc1,hc2⟩:_∧_:=hc);(try subst_vars))<;>first|contradiction|(exfalso;omega)|(simp -implicitDefEqProofs [*])|skip)
   | ((first|(refine atQ hQ ?_;clear hQ)|refine atQ (by assumption) ?_|refine z04 ?_|refine z06 ?_|refine z07 ?_);try simp only [sk_,if_true,if_false,↓reduceIte,Nat.reduceEqDiff])
   | (first|exact z0f|refine cn_ (by decide) ?_|refine cc_ (by intro e1 e2 e3;simp_all) ?_|refine And.intro (by decide +kernel) ?_)
   | (show EndK _ _ _ _ _ _ _ _;simp -implicitDefEqProofs [*])
   | ((simp (disch:=omega) only [if_pos,if_neg]);(try (simp -implicitDefEqProofs [*]))))
def z8D (i j:Rq.Info) (s s' n n':List Nat):Bool:=i.policy==j.policy&&(i.alg==j.alg&&(i.impr==j.impr&&(cmpN s s'==0&&(i.time==j.time&&(i.micros==j.micros&&(i.secs==j.secs&&(i.millis==j.millis&&(i.has==j.has&&cmpN n n'==0))))))))
set_option maxHeartbeats 40000000 in
theorem zb1 (i j:Rq.Info) (s s' n n':List Nat) (h1:Nt.Lb s) (h2:Nt.Lb s') (h3:Nt.Lb n) (h4:Nt.Lb n') (z1:s.length≤100000000) (z2:s'.length≤100000000) (z3:n.length≤100000000) (z4:n'.length≤100000000):
  OK gl 24 [infX i s n,infX j s' n'] (.b (z8D i j s s' n n')):=by
 have c1:=rCmp (gl:=gl) s s' h1 h2 z1 z2;have c2:=rCmp (gl:=gl) n n' h3 h4 z3 z4;clear h1 h2 h3 h4 z1 z2 z3 z4;refine z0k Tryz.func24 rfl (by show 2≤_;decide) ?_;unfold Tryz.f24;dsimp only;repeat' (first
  | (first|refine sq_ ?_|refine bk_ ?_)
  | ((first|refine rg_ fun Q hQ=>?_|refine if_ fun Q hQ=>?_|refine ct_ (by first|with_reducible assumption|assumption) ?_);simp -implicitDefEqProofs [*,z8D])
  | ((first|refine bs_ ?_ ?_|refine cs_ ?_ ?_)<;>(intro hc;have hb:=hc;(try simp only [hk_,ne_eq] at hc);(try have ⟨hc1,hc2⟩:_∧_:=hc);(try subst_vars))<;>first|contradiction|(exfalso;omega)|(simp -implicitDefEqProofs [*,z8D])|skip)
  | ((first|(refine atQ hQ ?_;clear hQ)|refine atQ (by assumption) ?_|refine z04 ?_|refine z06 ?_|refine z07 ?_);try simp only [sk_,if_true,if_false,↓reduceIte,Nat.reduceEqDiff])
  | (show EndK _ _ _ _ _ _ _ _;simp -implicitDefEqProofs [*,z8D])
  | ((simp (disch:=omega) only [if_pos,if_neg]);(try (simp -implicitDefEqProofs [*,z8D]))))
end Am
end Go.Proofs.YtgmppconibklcaaGreatDoor

