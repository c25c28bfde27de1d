/- Part of the proof. No condition. -/
import Derived.Test.YtgmppconibklcaaGreatDoorM34
import Derived.Test.YtgmppconibklcaaGreatDoorM36
import Derived.Test.YtgmppconibklcaaGreatDoorM35
import Derived.Test.YtgmppconibklcaaGreatDoorM28
set_option maxHeartbeats 40000000
set_option maxRecDepth 100000
set_option linter.unusedVariables false
set_option linter.unusedSimpArgs false
namespace Go.Proofs.YtgmppconibklcaaGreatDoor
open Go Go.RowKit
namespace Am
variable {gl:Nat→Option (List D)}
def zhC (a b:Rq.Ex):Bool:=a.oid==b.oid&&(a.crit==b.crit&&a.val==b.val)
def z5g:List Rq.Ex→List Rq.Ex→Bool
 | [],[]=>true
 | a::l,b::m=>zhC a b&&z5g l m
 | _,_=>false
theorem z8S:∀ l:List Rq.Ex,z5g l l=true
 | []=>rfl
 | a::l=>by simp [z5g,zhC,z8S l]
theorem zkG (a b:Rq.Ex):OK gl 50 [exX a,exX b] (.b (zhC a b)):=by
 refine z0d Tryz.func50 rfl (by show 2≤_;decide) ?_;unfold Tryz.f50;dsimp only;have z0:=@zhC.eq_def;exact am_;all_goals (simp at *;simp [*])

abbrev reqY (q:Rq.Req) (ls:List Nat):E:= .agg [.d (.leaf (.string ⟨q.alg.toArray⟩)),.d (z04 q.impr),.d (.leaf (.string ⟨q.policy.toArray⟩)),.d (.leaf (.bool q.has)),.d (nuR .u32 ls),.d (.leaf (.bool q.cert)),.d (exR q.exts)]
def z1P (q p:Rq.Req) (ls ms:List Nat):Bool:=q.alg==p.alg&&(q.impr==p.impr&&(q.policy==p.policy&&(q.has==p.has&&(cmpN ls ms==0&&(q.cert==p.cert&&z5g q.exts p.exts)))))
structure SamI (q p:Rq.Req) (ls ms:List Nat) (k:Nat) (s:SF):Prop where
 h2:s.env 2=some (.e (.one (.ref 32 0)))
 h3:s.env 3=some (.e (.one (.ref 48 0)))
 g2:s.heap 32=some (.var 27 [.d (.leaf (.string ⟨q.alg.toArray⟩)),.d (z04 q.impr),.d (.leaf (.string ⟨q.policy.toArray⟩)),.d (.leaf (.bool q.has)),.d (nuR .u32 ls),.d (.leaf (.bool q.cert)),.d (exR q.exts)])
 g3:s.heap 48=some (.var 27 [.d (.leaf (.string ⟨p.alg.toArray⟩)),.d (z04 p.impr),.d (.leaf (.string ⟨p.policy.toArray⟩)),.d (.leaf (.bool p.has)),.d (nuR .u32 ms),.d (.leaf (.bool p.cert)),.d (exR p.exts)])
 ex:∃ j,j+k=q.exts.length∧s.env 5=some (.e (iX j))∧z5g (q.exts.drop j) (p.exts.drop j)=z5g q.exts p.exts
theorem zbn:∀ {a b:List Rq.Ex},a.length≠b.length→z5g a b=false
 | [],[],h=>absurd rfl h
 | [],_::_,_=>rfl
 | _::_,[],_=>rfl
 | a::l,b::m,h=>by simp only [z5g];rw [zbn (a:=l) (b:=m) (by simpa using h),Bool.and_false]
theorem zeq (q p:Rq.Req) (ls ms:List Nat) (hl:Nt.Lb ls) (hm:Nt.Lb ms) (hz:ls.length≤100000000) (hy:ms.length≤100000000) (hx:q.exts.length≤100000000):OK gl 13 [reqY q ls,reqY p ms] (.b (z1P q p ls ms)):=by
 have cC:=rCmp (gl:=gl) ls ms hl hm hz hy;clear hl hm hz hy;obtain ⟨qa,qi,qp,qh,qn,qc,qe⟩:=q;obtain ⟨pa,pi,pp,ph,pn,pc,pe⟩:=p;simp only at hx;refine z0d Tryz.func13 rfl (by show 2≤_;decide) ?_;unfold Tryz.f13;dsimp only;by_cases h1:qa=pa
 ·by_cases h2:qi=pi
  ·by_cases h3:qp=pp
   ·by_cases h4:qh=ph
    ·by_cases h5:cmpN ls ms=0
     ·by_cases h6:qc=pc
      ·by_cases h7:qe.length=pe.length
       ·have hf:z1P ⟨qa,qi,qp,qh,qn,qc,qe⟩ ⟨pa,pi,pp,ph,pn,pc,pe⟩ ls ms=z5g qe pe:=by simp [z1P, *]
        rw [hf];clear hf;subst h1 h2 h3 h4 h6;repeat' (first
         | (first|refine sq_ ?_|refine bk_ ?_)
         | ((first|refine rg_ fun Q hQ=>?_|refine if_ fun Q hQ=>?_|refine dr_ (id:=6) [2,3,5] [32,48] (by kernel_rfl) fun Q hQ=>?_|refine ca_ ?_|refine ce_ ?_ ?_|show EndK _ _ _ _ _ _ _ _);simp -implicitDefEqProofs [*])
         | ((first|refine bs_ ?_ ?_|refine cs_ ?_ ?_)<;>(intro hc;have hb:=hc;(try simp only [hk_,ne_eq] at hc);(try have ⟨hc1,hc2⟩:_∧_:=hc);(try subst_vars))<;>first|contradiction|(exfalso;omega)|(simp -implicitDefEqProofs [*])|skip)
         | ((first|refine aq_ ?_|refine z05 ?_|refine z06 ?_|refine z07 ?_);try simp only [sk_,↓reduceIte,Nat.reduceEqDiff])
         | (first|exact z0h|refine cn_ (by decide) ?_|refine cc_ (by intro e1 e2 e3;simp_all) ?_|refine And.intro (by decide +kernel) ?_)
         | ((with_reducible show OptK _ _);(simp (disch:=omega) only [if_pos,if_neg]);(try (simp -implicitDefEqProofs [*]))))
        refine z0A (SamI ⟨qa,qi,qp,qh,qn,qc,qe⟩ ⟨qa,qi,qp,qh,pn,qc,pe⟩ ls ms) qe.length ?_ ?_
        ·exact ⟨by simp,by simp,by simp,by simp,0,by simp,by simp,rfl⟩
        ·rintro k s ⟨g2,g3,e2,e3,j,hj,e5,hs⟩;simp only at hj hs e2 e3;cases k with
         | zero=>
          have d1:qe.drop j=[]:=List.drop_eq_nil_of_le (by omega);have d2:pe.drop j=[]:=List.drop_eq_nil_of_le (by omega);have hT:z5g qe pe=true:=by rw [←hs,d1,d2];rfl
          have hjl:j=qe.length:=by omega
          subst hjl;clear hs hj;have d6:Drw 6 [2,3,5] [32,48]:=⟨⟩;exact am_
         | succ k=>
          have l1:j<qe.length:=by omega
          have l2:j<pe.length:=by omega
          obtain ⟨x,r,hd,hx,_⟩:=z0t l1;obtain ⟨y,r2,hd2,hy,_⟩:=z0t l2;have hw:=z17 (k:=j+1) (by omega);have cE:=zkG (gl:=gl) x y;have d1:qe.drop (j+1)=r:=by rw [←List.drop_drop,hd];rfl
          have d2:pe.drop (j+1)=r2:=by rw [←List.drop_drop,hd2];rfl
          rw [hd,hd2,z5g] at hs;cases hE:zhC x y with
          | false=>
           rw [hE] at hs cE;have hF:z5g qe pe=false:=by rw [←hs];rfl
           clear hs;have d6:Drw 6 [2,3,5] [32,48]:=⟨⟩;exact am_
          | true=>
           rw [hE] at hs cE;have hs2:z5g r r2=z5g qe pe:=by rw [←hs];rfl
           clear hs;repeat' (first
            | (first|refine sq_ ?_|refine bk_ ?_)
            | ((first|refine rg_ fun Q hQ=>?_|refine if_ fun Q hQ=>?_|refine dr_ (id:=6) [2,3,5] [32,48] (by kernel_rfl) fun Q hQ=>?_|refine ca_ ?_|refine ce_ ?_ ?_|show EndK _ _ _ _ _ _ _ _);simp -implicitDefEqProofs [*])
            | ((first|refine bs_ ?_ ?_|refine cs_ ?_ ?_)<;>(intro hc;have hb:=hc;(try simp only [hk_,ne_eq] at hc);(try have ⟨hc1,hc2⟩:_∧_:=hc);(try subst_vars))<;>first|contradiction|(exfalso;omega)|(simp -implicitDefEqProofs [*])|skip)
            | ((first|refine aq_ ?_|refine z05 ?_|refine z06 ?_|refine z07 ?_);try simp only [sk_,↓reduceIte,Nat.reduceEqDiff])
            | (first|exact z0h|refine cn_ (by decide) ?_|refine cc_ (by intro e1 e2 e3;simp_all) ?_|refine And.intro (by decide +kernel) ?_)
            | ((with_reducible show OptK _ _);(simp (disch:=omega) only [if_pos,if_neg]);(try (simp -implicitDefEqProofs [*]))))
           exact ⟨k,by omega,by simp [g2],by simp [g3],by simp [e2],by simp [e3],j+1,by simp only;omega,by simpa using hw,by simp only;rw [d1,d2,hs2]⟩
       ·have hf:z1P ⟨qa,qi,qp,qh,qn,qc,qe⟩ ⟨pa,pi,pp,ph,pn,pc,pe⟩ ls ms=false:=by simp [z1P,zbn h7]
        rw [hf];clear hf;have d6:Drw 6 [2,3,5] [32,48]:=⟨⟩;exact am_
      ·have hf:z1P ⟨qa,qi,qp,qh,qn,qc,qe⟩ ⟨pa,pi,pp,ph,pn,pc,pe⟩ ls ms=false:=by simp [z1P,h6]
       rw [hf];clear hf;have d6:Drw 6 [2,3,5] [32,48]:=⟨⟩;exact am_
     ·have hf:z1P ⟨qa,qi,qp,qh,qn,qc,qe⟩ ⟨pa,pi,pp,ph,pn,pc,pe⟩ ls ms=false:=by simp [z1P,h5]
      rw [hf];clear hf;have d6:Drw 6 [2,3,5] [32,48]:=⟨⟩;exact am_
    ·have hf:z1P ⟨qa,qi,qp,qh,qn,qc,qe⟩ ⟨pa,pi,pp,ph,pn,pc,pe⟩ ls ms=false:=by simp [z1P,h4]
     rw [hf];clear hf;have d6:Drw 6 [2,3,5] [32,48]:=⟨⟩;exact am_
   ·have hf:z1P ⟨qa,qi,qp,qh,qn,qc,qe⟩ ⟨pa,pi,pp,ph,pn,pc,pe⟩ ls ms=false:=by simp [z1P,h3]
    rw [hf];clear hf;have d6:Drw 6 [2,3,5] [32,48]:=⟨⟩;exact am_
  ·have hf:z1P ⟨qa,qi,qp,qh,qn,qc,qe⟩ ⟨pa,pi,pp,ph,pn,pc,pe⟩ ls ms=false:=by simp [z1P,h2]
   rw [hf];clear hf;have d6:Drw 6 [2,3,5] [32,48]:=⟨⟩;exact am_
 ·have hf:z1P ⟨qa,qi,qp,qh,qn,qc,qe⟩ ⟨pa,pi,pp,ph,pn,pc,pe⟩ ls ms=false:=by simp [z1P,h1]
  rw [hf];clear hf;have d6:Drw 6 [2,3,5] [32,48]:=⟨⟩;exact am_
def sameIn (i j:Rq.Info) (s s' n n':List Nat):Bool:=i.policy==j.policy&&(i.alg==j.alg&&(i.impr==j.impr&&(cmpN s s'==0&&(i.time==j.time&&(i.micros==j.micros&&(i.secs==j.secs&&(i.millis==j.millis&&(i.has==j.has&&cmpN n n'==0))))))))
end Am
end Go.Proofs.YtgmppconibklcaaGreatDoor

