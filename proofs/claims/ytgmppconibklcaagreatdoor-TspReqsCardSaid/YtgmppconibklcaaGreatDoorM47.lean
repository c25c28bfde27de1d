/- Part of the proof. No condition. -/
import Derived.Test.YtgmppconibklcaaGreatDoorM46
import Derived.Test.YtgmppconibklcaaGreatDoorM19
import Derived.Test.YtgmppconibklcaaGreatDoorM28
import Derived.Test.YtgmppconibklcaaGreatDoorM35
set_option maxHeartbeats 40000000
set_option maxRecDepth 100000
set_option linter.unusedVariables false
set_option linter.unusedSimpArgs false
namespace Go.Proofs.YtgmppconibklcaaGreatDoor
open Go Go.RowKit
namespace Am
variable {gl:Nat→Option (List D)}
structure SmnI (c t:Int) (k:Bool) (b:List UInt8) (l l':List Nd) (m:Nat) (s:SF):Prop where
 e2:s.env 2=some (.e (.one (.ref 32 0)))
 e3:s.env 3=some (.e (.one (.ref 48 0)))
 g2:s.heap 32=some (.var 61 [.d (.leaf (.int .i64 c)),.d (.leaf (.int .i64 t)),.d (.leaf (.bool k)),.d (z04 b),.d (ndR l)])
 g3:s.heap 48=some (.var 61 [.d (.leaf (.int .i64 c)),.d (.leaf (.int .i64 t)),.d (.leaf (.bool k)),.d (z04 b),.d (ndR l')])
 ex:∃ j,j+m=l.length∧s.env 5=some (.e (iX j))∧Dr.z4c (l.drop j) (l'.drop j)=Dr.z4c l l'
theorem zbm:∀ (l l':List Nd),l.length≠l'.length→Dr.z4c l l'=false
 | [],[],h=>absurd rfl h
 | [],_::_,_=>rfl
 | _::_,[],_=>rfl
 | _::l,_::l',h=>by
  rw [Dr.z4c,zbm l l' (fun e=>h (by simp [e])),Bool.and_false]
theorem bytes_beq (b b':List UInt8):((⟨b.toArray⟩:ByteArray)==⟨b'.toArray⟩)=(b==b'):=by
 show (b.toArray==b'.toArray)=(b==b');simp
theorem zgi (c t c' t':Int) (k k':Bool) (b b':List UInt8) (l l':List Nd) (hl:l.length≤10000000) (hl':l'.length≤10000000) (ih:∀ x∈l,∀ y∈l',OK gl 48 [nX x,nX y] (.b (Dr.same x y))):OK gl 48 [mkY c t k b l,mkY c' t' k' b' l'] (.b (Dr.same (.mk c t k b l) (.mk c' t' k' b' l'))):=by
 have he:Dr.same (.mk c t k b l) (.mk c' t' k' b' l')=(c==c'&&t==t'&&k==k'&&b==b'&&Dr.z4c l l'):=by rw [Dr.same]
 have hbb:=bytes_beq b b';by_cases hq:(c==c'&&t==t'&&k==k'&&b==b')=true
 ·simp only [Bool.and_eq_true,beq_iff_eq] at hq;obtain ⟨⟨⟨rfl,rfl⟩,rfl⟩,rfl⟩:=hq;rw [show (c==c&&t==t&&k==k&&b==b&&Dr.z4c l l')=Dr.z4c l l' from by simp] at he;by_cases hll:l.length=l'.length
  ·clear hbb;generalize hr:Dr.same (.mk c t k b l) (.mk c t k b l')=r at *;clear hr;refine z0d Tryz.func48 rfl (by show 2≤_;decide) ?_;unfold Tryz.f48;dsimp only;repeat' (first
    | (first|refine sq_ ?_|refine bk_ ?_)
    | ((first|refine rg_ fun Q hQ=>?_|refine if_ fun Q hQ=>?_|refine dr_ (id:=6) [2,3,5] [32,48] (by kernel_rfl) fun Q hQ=>?_|refine ca_ ?_|refine ce_ ?_ ?_|show EndK _ _ _ _ _ _ _ _);simp -implicitDefEqProofs [*])
    | ((first|refine bs_ ?_ ?_|refine cs_ ?_ ?_)<;>(intro hc;have hb:=hc;(try simp only [hk_,ne_eq] at hc);(try have ⟨hc1,hc2⟩:_∧_:=hc);(try subst_vars))<;>first|contradiction|(exfalso;omega)|(simp -implicitDefEqProofs [*])|skip)
    | ((first|refine aq_ ?_|refine z05 ?_|refine z06 ?_|refine z07 ?_);try simp only [sk_,↓reduceIte,Nat.reduceEqDiff])
    | (first|exact z0h|refine cn_ (by decide) ?_|refine cc_ (by intro e1 e2 e3;simp_all) ?_|refine And.intro (by decide +kernel) ?_)
    | ((with_reducible show OptK _ _);(simp (disch:=omega) only [if_pos,if_neg]);(try (simp -implicitDefEqProofs [*]))))
   refine z0A (SmnI c t k b l l') l.length ?_ ?_
   ·exact ⟨by simp,by simp,by simp,by simp,0,by simp,by simp,by simp⟩
   ·rintro m s ⟨e2,e3,g2,g3,j,hj,e5,hs⟩;cases m with
    | zero=>
     have hjl:j=l.length:=by omega
     have hd1:l.drop j=[]:=List.drop_eq_nil_of_le (by omega);have hd2:l'.drop j=[]:=List.drop_eq_nil_of_le (by omega);rw [hd1,hd2] at hs;have hs:Dr.z4c l l'=true:=hs.symm;rw [hs] at he;clear ih hd1 hd2;have d6:Drw 6 [2,3,5] [32,48]:=⟨⟩;exact am_;all_goals omega
    | succ m=>
     have g1:j<l.length:=by omega
     have g4:j<l'.length:=by omega
     obtain ⟨x,r1,hd,hxx,_⟩:=z0t g1;obtain ⟨y,r2,hd2,hyy,_⟩:=z0t g4;have cK:=ih x (List.mem_of_getElem? hxx) y (List.mem_of_getElem? hyy);have hw:=z17 (k:=j+1) (by omega);have hr1:r1=l.drop (j+1):=by rw [←List.drop_drop,hd];rfl
     have hr2:r2=l'.drop (j+1):=by rw [←List.drop_drop,hd2];rfl
     rw [hd,hd2,Dr.z4c] at hs;cases hxy:Dr.same x y with
     | false=>
      rw [hxy] at cK hs;have hs:Dr.z4c l l'=false:=hs.symm;rw [hs] at he;clear ih hr1 hr2 hxx hyy;have d6:Drw 6 [2,3,5] [32,48]:=⟨⟩;exact am_;all_goals omega
     | true=>
      rw [hxy] at cK hs;rw [Bool.true_and,hr1,hr2] at hs;clear ih hr1 hr2 hxx hyy;repeat' (first
       | (first|refine sq_ ?_|refine bk_ ?_)
       | ((first|refine rg_ fun Q hQ=>?_|refine if_ fun Q hQ=>?_|refine dr_ (id:=6) [2,3,5] [32,48] (by kernel_rfl) fun Q hQ=>?_|refine ca_ ?_|refine ce_ ?_ ?_|show EndK _ _ _ _ _ _ _ _);simp -implicitDefEqProofs [*])
       | ((first|refine bs_ ?_ ?_|refine cs_ ?_ ?_)<;>(intro hc;have hb:=hc;(try simp only [hk_,ne_eq] at hc);(try have ⟨hc1,hc2⟩:_∧_:=hc);(try subst_vars))<;>first|contradiction|(exfalso;omega)|(simp -implicitDefEqProofs [*])|skip)
       | ((first|refine aq_ ?_|refine z05 ?_|refine z06 ?_|refine z07 ?_);try simp only [sk_,↓reduceIte,Nat.reduceEqDiff])
       | (first|exact z0h|refine cn_ (by decide) ?_|refine cc_ (by intro e1 e2 e3;simp_all) ?_|refine And.intro (by decide +kernel) ?_)
       | ((with_reducible show OptK _ _);(simp (disch:=omega) only [if_pos,if_neg]);(try (simp -implicitDefEqProofs [*]))))
      all_goals first|omega|exact ⟨m,by omega,by simp [e2],by simp [e3],by simp [g2],by simp [g3],j+1,by omega,by simpa using hw,hs⟩
  ·have hs:=zbm l l' hll;rw [hs] at he;refine z0d Tryz.func48 rfl (by show 2≤_;decide) ?_;unfold Tryz.f48;dsimp only;have d6:Drw 6 [2,3,5] [32,48]:=⟨⟩;exact am_;all_goals omega
 ·have hq:(c==c'&&t==t'&&k==k'&&b==b')=false:=by simpa using hq
  rw [hq,Bool.false_and] at he;generalize Dr.same (.mk c t k b l) (.mk c' t' k' b' l')=r at *;generalize hB:(b==b')=B at *;clear hB ih;refine z0d Tryz.func48 rfl (by show 2≤_;decide) ?_;unfold Tryz.f48;dsimp only;repeat' (first
   | (first|refine sq_ ?_|refine bk_ ?_)
   | ((first|refine rg_ fun Q hQ=>?_|refine if_ fun Q hQ=>?_|refine dr_ (id:=6) [2,3,5] [32,48] (by kernel_rfl) fun Q hQ=>?_|refine ca_ ?_|refine ce_ ?_ ?_|show EndK _ _ _ _ _ _ _ _);simp -implicitDefEqProofs [*])
   | ((first|refine bs_ ?_ ?_|refine cs_ ?_ ?_)<;>(intro hc;have hb:=hc;(try simp only [hk_,ne_eq] at hc);(try have ⟨hc1,hc2⟩:_∧_:=hc);(try subst_vars))<;>first|contradiction|(exfalso;omega)|(simp -implicitDefEqProofs [*])|skip)
   | ((first|refine aq_ ?_|refine z05 ?_|refine z06 ?_|refine z07 ?_);try simp only [sk_,↓reduceIte,Nat.reduceEqDiff])
   | (first|exact z0h|refine cn_ (by decide) ?_|refine cc_ (by intro e1 e2 e3;simp_all) ?_|refine And.intro (by decide +kernel) ?_)
   | ((with_reducible show OptK _ _);(simp (disch:=omega) only [if_pos,if_neg]);(try (simp -implicitDefEqProofs [*]))))
  all_goals (exfalso;simp [bytes_beq] at hq)
theorem zep:∀ (m:Nat) (a b:Nd),Dr.wt a≤m→Dr.wt a≤10000000→Dr.wt b≤10000000→OK gl 48 [nX a,nX b] (.b (Dr.same a b))
 | 0,.mk c t k b l,_,h,_,_=>by rw [Dr.wt] at h;omega
 | m+1,.mk c t k b l,.mk c' t' k' b' l',h,hz,hy=>by
  rw [Dr.wt] at h hz hy;have h1:=z1E l;have h2:=z1E l';refine zgi c t c' t' k k' b b' l l' (by omega) (by omega) fun x hx y hy'=>?_
  obtain ⟨i,hi,rfl⟩:=List.getElem_of_mem hx;obtain ⟨j,hj,rfl⟩:=List.getElem_of_mem hy';have h3:=z2I hi;have h4:=z2I hj;exact zep m _ _ (by omega) (by omega) (by omega)
theorem zlS (a b:Nd) (h:Dr.wt a≤10000000) (h':Dr.wt b≤10000000):OK gl 48 [nX a,nX b] (.b (Dr.same a b)):=zep _ a b (Nat.le_refl _) h h'
end Am
end Go.Proofs.YtgmppconibklcaaGreatDoor

namespace Go.Proofs.YtgmppconibklcaaGreatDoor
open Go Go.RowKit
namespace Am
variable {gl:Nat→Option (List D)}
def hdr:List UInt8→Nat×Nat×Int
 | []=>(0,0,30)
 | c::r=>
  if c.toNat<128 then (c.toNat,1,0)
  else if c.toNat=128∨132<c.toNat then (0,0,32)
  else if r.length<c.toNat-128 then (0,0,30)
  else if Nt.be (r.take (c.toNat-128))<128∨Nt.be (r.take (c.toNat-128)) / 2^(8*(c.toNat-128-1))=0 then (0,0,32)
  else (Nt.be (r.take (c.toNat-128)),c.toNat-128+1,0)
theorem z9t (r:List UInt8):Dr.z3l r=if (hdr r).2.2=0 then some ((hdr r).1,(hdr r).2.1) else none:=by
 cases r with
 | nil=>rfl
 | cons c r=>
  obtain ⟨h,hh⟩:∃ h,h=hdr (c::r):=⟨_,rfl⟩;rw [←hh];simp only [hdr] at hh;simp only [Dr.z3l];by_cases h1:c.toNat<128
  ·rw [if_pos h1] at hh ⊢;subst hh;rfl
  ·rw [if_neg h1] at hh ⊢;by_cases h2:c.toNat=128∨132<c.toNat
   ·rw [if_pos h2] at hh;rw [if_neg (by omega)];subst hh;rfl
   ·rw [if_neg h2] at hh;by_cases h3:r.length<c.toNat-128
    ·rw [if_pos h3] at hh;rw [if_neg (by omega)];subst hh;rfl
    ·rw [if_neg h3] at hh;rw [if_pos (by omega)];generalize Nt.be (r.take (c.toNat-128))=n at *;generalize n / 2^(8*(c.toNat-128-1))=m at *;by_cases h4:n<128∨m=0
     ·rw [if_pos h4] at hh;rw [if_neg (by omega)];subst hh;rfl
     ·rw [if_neg h4] at hh;rw [if_pos (by omega)];subst hh;rfl
theorem zl9 {n k:Nat} (h0:128≤n) (hk:1≤k) (h2:n<256^k):(Dr.lenB n).length=k+1↔¬n / 2^(8*(k-1))=0:=by
 have hp:2^(8*(k-1))=256^(k-1):=by rw [Nat.pow_mul]
 rw [hp];constructor
 ·intro h hz;have hlt:n<256^(k-1):=by
   rcases Nat.div_eq_zero_iff.1 hz with h|h
   ·exact absurd h (by have:=Nat.pow_pos (n:=k-1) (show 0<256 by decide);omega)
   ·exact h
  unfold Dr.lenB at h;rw [if_neg (by omega),List.length_cons,Nt.z0o] at h;rw [←hp] at hlt;have:=(Nat.log2_lt (by omega)).2 hlt;omega
 ·intro h;have hle:256^(k-1)≤n:=by
   by_cases hh:256^(k-1)≤n
   ·exact hh
   ·exact absurd (Nat.div_eq_of_lt (by omega)) h
  rw [Dr.zdz h0 hk hle h2,List.length_cons,Nt.z0o]
structure HdI (b q:List UInt8) (a e K:Nat) (m:Nat) (s:SF):Prop where
 e0:s.env 0=some (.e (rX (z04 b)))
 e1:s.env 1=some (.e (iX a))
 e2:s.env 2=some (.e (iX e))
 e10:s.env 10=some (.e (iX K))
 ex:∃ i,i+m=K∧s.env 12=some (.e (iX i))∧s.env 11=some (.e (iX (Nt.be (q.take i):Nat)))
abbrev hdrT (a:Nat) (h:Nat×Nat×Int):T:= .tup [iX h.1,iX (if h.2.2=0 then ((a+1+h.2.1:Nat):Int) else 0),iX h.2.2]
theorem zeL {p:Prop} (h:p:=by
  repeat' (first
   | (first|refine sq_ ?_|refine bk_ ?_)
   | ((first|refine rg_ fun Q hQ=>?_|refine if_ fun Q hQ=>?_|refine ca_ ?_|show EndK _ _ _ _ _ _ _ _);simp -implicitDefEqProofs [*])
   | ((first|refine bs_ ?_ ?_|refine cs_ ?_ ?_)<;>(intro hc;have hb:=hc;(try simp only [hk_,ne_eq] at hc);(try have ⟨hc1,hc2⟩:_∧_:=hc);(try subst_vars))<;>first|contradiction|(exfalso;omega)|(simp -implicitDefEqProofs [*])|skip)
   | ((first|refine aq_ ?_|refine z05 ?_|refine z06 ?_|refine z07 ?_);try simp only [sk_,↓reduceIte,Nat.reduceEqDiff])
   | ((with_reducible show OptK _ _);(simp (disch:=omega) only [if_pos,if_neg]);(try (simp -implicitDefEqProofs [*]))))
  all_goals omega):p:=h
theorem zeB {p:Prop} (h:p:=by
  refine z0d Tryz.func162 rfl (by show 3≤_;decide) ?_;unfold Tryz.f162;dsimp only;exact am_;all_goals omega):p:=h
theorem zda (b:List UInt8) (a e:Nat) (he:e≤b.length) (hb:b.length≤1000000) (ha:a≤1000000):OK gl 162 [rX (z04 b),iX a,iX e] (hdrT a (hdr ((b.drop (a+1)).take (e-a-1)))):=by
 have w1:IntKind.wrap .i64 ((a:Int)+1)=(a:Int)+1:=z0f (by omega) (by omega);have w2:IntKind.wrap .i64 ((a:Int)+2)=(a:Int)+2:=z0f (by omega) (by omega);have t1:((a:Int)+1).toNat=a+1:=by omega
 by_cases hA:e≤a+1
 ·have hr:(b.drop (a+1)).take (e-a-1)=[]:=by rw [show e-a-1=0 by omega];rfl
  rw [hr];clear hr;refine z0d Tryz.func162 rfl (by show 3≤_;decide) ?_;unfold Tryz.f162;dsimp only;have z0:=@hdr.eq_def;exact am_;all_goals omega
 ·have hl1:a+1<b.length:=by omega
  obtain ⟨c,q,hd,hxx,_⟩:=z0t hl1;have hq:b.drop (a+2)=q:=by rw [←List.drop_drop (i:=1),hd];rfl
  have hr:(b.drop (a+1)).take (e-a-1)=c::q.take (e-a-2):=by
   rw [hd,show e-a-1=e-a-2+1 by omega,List.take_succ_cons]
  rw [hr];have hql:(q.take (e-a-2)).length=e-a-2:=by
   have:q.length=b.length-(a+2):=by rw [←hq,List.length_drop]
   rw [List.length_take];omega
  clear hr hxx;have hc:=c.toNat_lt;have wc:IntKind.wrap .i64 (c.toNat:Int)=c.toNat:=z0f (by omega) (by omega);by_cases h1:c.toNat<128
  ·have hh:hdr (c::q.take (e-a-2))=(c.toNat,1,0):=by rw [hdr,if_pos h1]
   rw [hh];clear hh hq;refine z0d Tryz.func162 rfl (by show 3≤_;decide) ?_;unfold Tryz.f162;dsimp only;exact zeL
  ·by_cases h2:c.toNat=128∨132<c.toNat
   ·have hh:hdr (c::q.take (e-a-2))=(0,0,32):=by rw [hdr,if_neg h1,if_pos h2]
    rw [hh];clear hh hq;have w3:IntKind.wrap .i64 ((c.toNat:Int)-128)=(c.toNat:Int)-128:=z0f (by omega) (by omega);exact zeB
   ·obtain ⟨K,hK⟩:∃ K,K=c.toNat-128:=⟨_,rfl⟩;have w3:IntKind.wrap .i64 ((c.toNat:Int)-128)=(K:Int):=by rw [z0f (by omega) (by omega)];omega
    have w4:IntKind.wrap .i64 ((a:Int)+2+(K:Int))=(a:Int)+2+(K:Int):=z0f (by omega) (by omega);by_cases h3:e-a-2<K
    ·have hh:hdr (c::q.take (e-a-2))=(0,0,30):=by rw [hdr,if_neg h1,if_neg h2,if_pos (by rw [hql,←hK];exact h3)]
     rw [hh];clear hh hq;exact zeB
    ·have htk:(q.take (e-a-2)).take K=q.take K:=by rw [List.take_take];congr 1;omega
     have hh:hdr (c::q.take (e-a-2))=if Nt.be (q.take K)<128∨Nt.be (q.take K) / 2^(8*(K-1))=0 then (0,0,32) else (Nt.be (q.take K),K+1,0):=by
      rw [hdr,if_neg h1,if_neg h2,if_neg (by rw [hql,←hK];exact h3),←hK,htk]
     have hqk:K≤q.length:=by
      have:q.length=b.length-(a+2):=by rw [←hq,List.length_drop]
      omega
     clear htk hql;have hnb:=Nt.zaP (q.take K);rw [List.length_take,Nat.min_eq_left hqk] at hnb;have hK4:(256:Nat)^K≤256^4:=Nat.pow_le_pow_right (by decide) (by omega);have hK1:1≤K:=by omega
     have hK2:K≤4:=by omega
     have hc128:(128:Int)≤(c.toNat:Int):=by omega
     have hy:(Nt.be (q.take K)<128∨Nt.be (q.take K) / 2^(8*(K-1))=0)→hdr (c::q.take (e-a-2))=(0,0,32):=fun h=>by rw [hh,if_pos h]
     have hn:¬(Nt.be (q.take K)<128∨Nt.be (q.take K) / 2^(8*(K-1))=0)→hdr (c::q.take (e-a-2))=(Nt.be (q.take K),K+1,0):=fun h=>by rw [hh,if_neg h]
     generalize hdr (c::q.take (e-a-2))=H at *;clear hK hh h2 h1;refine z0d Tryz.func162 rfl (by show 3≤_;decide) ?_;unfold Tryz.f162;dsimp only;repeat' (first
      | (first|refine sq_ ?_|refine bk_ ?_)
      | ((first|refine rg_ fun Q hQ=>?_|refine if_ fun Q hQ=>?_|refine ca_ ?_|show EndK _ _ _ _ _ _ _ _);simp -implicitDefEqProofs [*])
      | ((first|refine bs_ ?_ ?_|refine cs_ ?_ ?_)<;>(intro hc;have hb:=hc;(try simp only [hk_,ne_eq] at hc);(try have ⟨hc1,hc2⟩:_∧_:=hc);(try subst_vars))<;>first|contradiction|(exfalso;omega)|(simp -implicitDefEqProofs [*])|skip)
      | ((first|refine aq_ ?_|refine z05 ?_|refine z06 ?_|refine z07 ?_);try simp only [sk_,↓reduceIte,Nat.reduceEqDiff])
      | ((with_reducible show OptK _ _);(simp (disch:=omega) only [if_pos,if_neg]);(try (simp -implicitDefEqProofs [*]))))
     refine z0A (HdI b (b.drop (a+2)) a e K) K ?_ ?_
     ·exact ⟨by simp,by simp,by simp,by simp,0,by simp,by simp,by simp [Nt.be]⟩
     ·rintro m s ⟨e0,e1,e2,e10,i,hi,e12,e11⟩;cases m with
      | zero=>
       obtain rfl:i=K:=by omega
       generalize Nt.be ((b.drop (a+2)).take i)=n at *;have c1:=zd9 (gl:=gl) n (by omega);have hmin:=fun h=>zl9 (n:=n) (k:=i) h hK1 hnb
       generalize Dr.lenB n=lb at *;generalize n / 2^(8*(i-1))=z at *;have w9:IntKind.wrap .i64 ((i:Int)+1)=(i:Int)+1:=z0f (by omega) (by omega);clear hnb hK4 hd;by_cases hn1:n<128
       ·have hH:=hy (.inl hn1);clear hy hn hmin;exact am_;all_goals first|omega|(intros;omega)
       ·have hm:=hmin (by omega);by_cases hz:z=0
        ·have hH:=hy (.inr hz);have hne:¬lb.length=i+1:=fun h=>(hm.1 h) hz
         clear hy hn hmin hm;exact am_;all_goals first|omega|(intros;omega)
        ·have hH:=hn (by omega);have hle:=hm.2 hz;clear hy hn hmin hm;exact zeL
      | succ m=>
       have g:i<(b.drop (a+2)).length:=by omega
       obtain ⟨x,r,hdx,hxx,htk⟩:=z0t g;have hd2:b.drop (a+2+i)=x::r:=by rw [←List.drop_drop];exact hdx
       have hbe:Nt.be ((b.drop (a+2)).take (i+1))=Nt.be ((b.drop (a+2)).take i)*256+x.toNat:=by rw [htk,Nt.zdU]
       have hx:=x.toNat_lt;have hni:=Nt.zaP ((b.drop (a+2)).take i);have hil:((b.drop (a+2)).take i).length≤3:=by rw [List.length_take];omega
       have hi3:=Nat.pow_le_pow_right (show 1≤256 by decide) hil;rw [List.length_drop] at g;have w5:IntKind.wrap .i64 ((Nt.be ((b.drop (a+2)).take i):Nat)*256:Int)=((Nt.be ((b.drop (a+2)).take i):Nat):Int)*256:=z0f (by omega) (by omega);have w6:IntKind.wrap .i64 (((Nt.be ((b.drop (a+2)).take i):Nat):Int)*256+(x.toNat:Int))=((Nt.be ((b.drop (a+2)).take (i+1)):Nat):Int):=by rw [z0f (by omega) (by omega),hbe];push_cast;rfl
       have wx:IntKind.wrap .i64 (x.toNat:Int)=x.toNat:=z0f (by omega) (by omega);have w7:IntKind.wrap .i64 ((a:Int)+2+(i:Int))=(a:Int)+2+(i:Int):=z0f (by omega) (by omega);have t7:((a:Int)+2+(i:Int)).toNat=a+2+i:=by omega
       have w8:IntKind.wrap .i64 ((i:Int)+1)=(i:Int)+1:=z0f (by omega) (by omega);clear hbe hxx hdx hni hil hi3 htk;generalize Nt.be ((b.drop (a+2)).take i)=n at *;clear hy hn hd;repeat' (first
        | (first|refine sq_ ?_|refine bk_ ?_)
        | ((first|refine rg_ fun Q hQ=>?_|refine if_ fun Q hQ=>?_|refine ca_ ?_|show EndK _ _ _ _ _ _ _ _);simp -implicitDefEqProofs [*])
        | ((first|refine bs_ ?_ ?_|refine cs_ ?_ ?_)<;>(intro hc;have hb:=hc;(try simp only [hk_,ne_eq] at hc);(try have ⟨hc1,hc2⟩:_∧_:=hc);(try subst_vars))<;>first|contradiction|(exfalso;omega)|(simp -implicitDefEqProofs [*])|skip)
        | ((first|refine aq_ ?_|refine z05 ?_|refine z06 ?_|refine z07 ?_);try simp only [sk_,↓reduceIte,Nat.reduceEqDiff])
        | ((with_reducible show OptK _ _);(simp (disch:=omega) only [if_pos,if_neg]);(try (simp -implicitDefEqProofs [*]))))
       all_goals first|omega|exact ⟨m,by omega,by simp [e0],by simp [e1],by simp [e2],by simp [e10],i+1,by omega,by simp [w8],by simp⟩
end Am
end Go.Proofs.YtgmppconibklcaaGreatDoor

namespace Go.Proofs.YtgmppconibklcaaGreatDoor
open Go Go.RowKit
namespace Am
variable {gl:Nat→Option (List D)}
abbrev fltX (a c:Int):E:= .agg [.d (.leaf (.int .i64 a)),.d (.leaf (.int .i64 c))]
def RfT (a:Nat) (o:Option (Nd×Nat)) (t:T):Prop:=match o with
 | some (n,k)=>t = .tup [nX n,iX ((a+k:Nat):Int),fltX 0 0]
 | none=>∃ x y:Int,y≠0∧t = .tup [nX Nd.nil,iX 0,fltX x y]
def RfR (a:Nat) (o:Option (Nd×Nat)):T→List O→List O→Prop:=fun t ws os=>RfT a o t∧ws=[]∧os=[]
def RfC (gl:Nat→Option (List D)) (b:List UInt8) (a e d f:Nat):Prop:=z3q Tryz.prog gl Tabs 99 [rX (z04 b),iX a,iX e,iX d] [] (RfR a (Dr.rdN f d ((b.drop a).take (e-a))))
theorem z6X {p:Prop} (h:p:=by
  repeat' (first
   | (first|refine sq_ ?_|refine bk_ ?_)
   | ((first|refine rg_ fun Q hQ=>?_|refine if_ fun Q hQ=>?_|refine dr_ (id:=15) [0,1,3,8,10,12,13,14] [128,160,192,737,881] (by kernel_rfl) fun Q hQ=>?_|refine dr_ (id:=20) [8,10,19] [128,160,304] (by kernel_rfl) fun Q hQ=>?_|refine ca_ ?_|show EndK _ _ _ _ _ _ _ _);simp -implicitDefEqProofs [*])
   | ((first|refine bs_ ?_ ?_|refine cs_ ?_ ?_)<;>(intro hc;have hb:=hc;(try simp only [hk_,ne_eq] at hc);(try have ⟨hc1,hc2⟩:_∧_:=hc);(try subst_vars))<;>first|contradiction|(exfalso;omega)|(simp -implicitDefEqProofs [*])|skip)
   | ((first|refine aq_ ?_|refine z05 ?_|refine z06 ?_|refine z07 ?_);try simp only [sk_,↓reduceIte,Nat.reduceEqDiff])
   | (with_reducible refine And.intro ?_ ?_;focus (decide +kernel))
   | ((with_reducible show OptK _ _);(simp (disch:=omega) only [if_pos,if_neg]);(try (simp -implicitDefEqProofs [*]))))
  all_goals first|omega|exact ⟨⟨_,_,by decide,rfl⟩,rfl,rfl⟩):p:=h
theorem z7A (b:List UInt8) (a e d f:Nat) (h:e≤a):RfC gl b a e d f:=by
 have hn:Dr.rdN f d ((b.drop a).take (e-a))=none:=by
  rw [show e-a=0 by omega,List.take_zero];cases f<;>rw [Dr.rdN]
 unfold RfC;rw [hn];refine z6c false Tryz.func99 rfl (by show 4≤_;decide) ?_;rw [z1m];unfold Tryz.f99;dsimp only;exact z6X
theorem z6i (t:UInt8):∃ (C G:Nat) (Q:Bool),C=t.toNat / 64∧G=t.toNat%32∧Q=(t.toNat / 32%2==1)∧(t.toNat:Int) / 64=(C:Int)∧(t.toNat:Int).tmod 32=(G:Int)∧((t.toNat / 32:Nat):Int).tmod 2=(if Q=true then 1 else 0)∧IntKind.wrap .i64 (C:Int)=C∧IntKind.wrap .i64 (t.toNat:Int)=t.toNat:=by
 have ht:=t.toNat_lt;refine ⟨_,_,_,rfl,rfl,rfl,by omega,rfl,?_,z0f (by omega) (by omega),z0f (by omega) (by omega)⟩;rw [show ((t.toNat / 32:Nat):Int).tmod 2=((t.toNat / 32%2:Nat):Int) from rfl];by_cases h:t.toNat / 32%2=1
 ·rw [if_pos (by rw [beq_iff_eq];exact h)];omega
 ·rw [if_neg (by rw [beq_iff_eq];exact h)];omega
theorem zi3 (b:List UInt8) (a e d f:Nat) (t:UInt8) (q:List UInt8) (hb:b.length≤1000000) (he:e≤b.length) (ha:a<e) (hd:b.drop a=t::q) (hd33:d≤33) (hf:0<f)
  (hbad:Dr.may (t.toNat / 64:Nat) (t.toNat%32:Nat) (t.toNat / 32%2==1)=false∨(hdr (q.take (e-a-1))).2.2≠0∨(q.take (e-a-1)).length-(hdr (q.take (e-a-1))).2.1<(hdr (q.take (e-a-1))).1∨32<d):RfC gl b a e d f:=by
 obtain ⟨f,rfl⟩:∃ f',f=f'+1:=⟨f-1,by omega⟩;have hr:(b.drop a).take (e-a)=t::q.take (e-a-1):=by
  rw [hd];cases h:e-a with
  | zero=>omega
  | succ m=>rfl
 have hn:Dr.rdN (f+1) d ((b.drop a).take (e-a))=none:=by
  rw [hr,Dr.rdN];split
  ·rename_i hm;rcases hbad with h|h|h
   ·rw [h] at hm;cases hm
   ·rw [z9t,if_neg h]
   ·rw [z9t];by_cases h0:(hdr (q.take (e-a-1))).2.2=0
    ·rw [if_pos h0];simp only;rw [if_pos h]
    ·rw [if_neg h0]
  ·rfl
 unfold RfC;rw [hn];have hql:(q.take (e-a-1)).length=e-a-1:=by
  have h:=congrArg List.length hd;rw [List.length_drop,List.length_cons] at h;rw [List.length_take];omega
 have cH:=zda (gl:=gl) b a e he hb (by omega);have hq1:b.drop (a+1)=q:=by rw [←List.drop_drop,hd];rfl
 rw [hq1] at cH;rw [hql] at hbad;have hsz:(hdr (q.take (e-a-1))).2.2=0→(hdr (q.take (e-a-1))).2.1≤e-a-1∧(hdr (q.take (e-a-1))).1<4294967296:=fun h=>by
  have:=Dr.z1K (r:=q.take (e-a-1)) (n:=(hdr (q.take (e-a-1))).1) (j:=(hdr (q.take (e-a-1))).2.1) (by rw [z9t,if_pos h]);rw [hql] at this;exact ⟨this.1,this.2.2⟩
 have c1:=rMay (gl:=gl) ((t.toNat / 64:Nat):Int) ((t.toNat%32:Nat):Int) (t.toNat / 32%2==1);obtain ⟨C,G,Q,hC,hG,hQ,p1,p2,p3,wC,wt⟩:=z6i t;rw [←hC,←hG,←hQ] at c1 hbad;obtain ⟨⟨size,j,code⟩,hH⟩:∃ H,H=hdr (q.take (e-a-1)):=⟨_,rfl⟩;rw [←hH] at cH hbad hsz;simp only at hbad hsz;unfold hdrT at cH;simp only at cH;have w32:(t.toNat:Int) / 32=((t.toNat / 32:Nat):Int):=rfl;have hN:t.toNat / 32≤8:=by have:=t.toNat_lt;omega
 have wN:=z17 (k:=t.toNat / 32) (by omega);generalize t.toNat / 32=N at *;clear hn hr hq1 hql hH hC hG hQ;cases hm:Dr.may C G Q with
 | false=>
  rw [hm] at c1;clear cH hsz hbad;cases Q;all_goals
   simp at p3;refine z6c false Tryz.func99 rfl (by show 4≤_;decide) ?_;rw [z1m];unfold Tryz.f99;dsimp only;exact z6X
 | true=>
  rw [hm] at c1 hbad;by_cases hc0:code=0
  ·subst hc0;obtain ⟨hj,hs32⟩:=hsz rfl;rw [if_pos rfl] at cH;have w1:IntKind.wrap .i64 ((e:Int)-((a:Int)+1+(j:Int)))=(e:Int)-((a:Int)+1+(j:Int)):=z0f (by omega) (by omega);have hb2:(e:Int)-((a:Int)+1+(j:Int))<size∨(32:Int)<d:=by
    rcases hbad with h|h|h|h
    ·cases h
    ·exact absurd rfl h
    ·left;omega
    ·right;omega
   clear hbad hsz hj;cases Q;all_goals
    simp at p3;refine z6c false Tryz.func99 rfl (by show 4≤_;decide) ?_;rw [z1m];unfold Tryz.f99;dsimp only;exact z6X
  ·rw [if_neg hc0] at cH;clear hsz hbad;cases Q;all_goals
    simp at p3;refine z6c false Tryz.func99 rfl (by show 4≤_;decide) ?_;rw [z1m];unfold Tryz.f99;dsimp only;repeat' (first
     | (first|refine sq_ ?_|refine bk_ ?_)
     | ((first|refine rg_ fun Q hQ=>?_|refine if_ fun Q hQ=>?_|refine dr_ (id:=15) [0,1,3,8,10,12,13,14] [128,160,192,737,881] (by kernel_rfl) fun Q hQ=>?_|refine dr_ (id:=20) [8,10,19] [128,160,304] (by kernel_rfl) fun Q hQ=>?_|refine ca_ ?_|show EndK _ _ _ _ _ _ _ _);simp -implicitDefEqProofs [*])
     | ((first|refine bs_ ?_ ?_|refine cs_ ?_ ?_)<;>(intro hc;have hb:=hc;(try simp only [hk_,ne_eq] at hc);(try have ⟨hc1,hc2⟩:_∧_:=hc);(try subst_vars))<;>first|contradiction|(exfalso;omega)|(simp -implicitDefEqProofs [*])|skip)
     | ((first|refine aq_ ?_|refine z05 ?_|refine z06 ?_|refine z07 ?_);try simp only [sk_,↓reduceIte,Nat.reduceEqDiff])
     | (with_reducible refine And.intro ?_ ?_;focus (decide +kernel))
     | ((with_reducible show OptK _ _);(simp (disch:=omega) only [if_pos,if_neg]);(try (simp -implicitDefEqProofs [*]))))
    all_goals first|omega|exact ⟨⟨_,_,hc0,rfl⟩,rfl,rfl⟩
theorem zec {b q:List UInt8} {a e j size:Nat} (hq1:b.drop (a+1)=q) (h:j+size≤e-a-1):((q.take (e-a-1)).drop j).take size=(b.drop (a+1+j)).take size:=by
 rw [List.drop_take,List.take_take,←hq1,List.drop_drop]
 congr 1
 omega
theorem zgl (b:List UInt8) (a e d f:Nat) (t:UInt8) (q:List UInt8) (hb:b.length≤20000) (he:e≤b.length) (ha:a<e) (hd:b.drop a=t::q) (hd32:d≤32) (hf:0<f)
  (hm:Dr.may (t.toNat / 64:Nat) (t.toNat%32:Nat) (t.toNat / 32%2==1)=true) (hp:(t.toNat / 32%2==1)=false) (size j:Nat) (hH:hdr (q.take (e-a-1))=(size,j,0)) (hj:j+size≤e-a-1):RfC gl b a e d f:=by
 obtain ⟨f,rfl⟩:∃ f',f=f'+1:=⟨f-1,by omega⟩;have hr:(b.drop a).take (e-a)=t::q.take (e-a-1):=by
  rw [hd];cases h:e-a with
  | zero=>omega
  | succ m=>rfl
 have hq1:b.drop (a+1)=q:=by rw [←List.drop_drop,hd];rfl
 have hql:(q.take (e-a-1)).length=e-a-1:=by
  have h:=congrArg List.length hd;rw [List.length_drop,List.length_cons] at h;rw [List.length_take];omega
 have hs:=zec (e:=e) (j:=j) (size:=size) hq1 hj;have hn:Dr.rdN (f+1) d ((b.drop a).take (e-a))=if t.toNat / 64=2∨Dr.value (t.toNat%32:Nat) ((b.drop (a+1+j)).take size)=true then some (.mk (t.toNat / 64:Nat) (t.toNat%32:Nat) false ((b.drop (a+1+j)).take size) [],1+j+size) else none:=by
  rw [hr,Dr.rdN,if_pos hm,z9t,hH];simp only [if_true];rw [if_neg (by omega),hp,hs];rfl
 unfold RfC;rw [hn];have cH:=zda (gl:=gl) b a e he (by omega) (by omega);rw [hq1,hH] at cH;unfold hdrT at cH;simp only [if_true] at cH;have c1:=rMay (gl:=gl) ((t.toNat / 64:Nat):Int) ((t.toNat%32:Nat):Int) (t.toNat / 32%2==1);rw [hm] at c1;rw [hp] at hm c1;obtain ⟨C,G,Q,hC,hG,hQ,p1,p2,p3,wC,wt⟩:=z6i t;rw [hp] at hQ;subst hQ;rw [←hC,←hG] at c1 hm ⊢;simp only [Bool.false_eq_true,if_false] at p3;have hsl:((b.drop (a+1+j)).take size).length≤20000:=by rw [List.length_take,List.length_drop];omega
 obtain ⟨s,hse⟩:∃ s,s=(b.drop (a+1+j)).take size:=⟨_,rfl⟩;rw [←hse] at hsl ⊢;have cR:=zi2 (gl:=gl) (.mk C G false s []) (by rw [Dr.wt,Dr.wts];omega) (by rw [Dr.mx,Dr.mxs];simp;omega);have hright:Dr.right (.mk C G false s [])=decide (C=2∨Dr.value G s=true):=by
  by_cases hv:C=2∨Dr.value G s=true
  ·rw [decide_eq_true hv];show (Dr.put _).isSome=true;rw [zeO hm (fun h0=>by rcases hv with h|h;omega;exact h)];rfl
  ·rw [decide_eq_false hv];show (Dr.put _).isSome=false;obtain ⟨c',t',h1,h2,h3,_⟩:=Dr.z7R hm;have h0:C=0:=by omega
   subst h0;have:Dr.value (G:Int) s=false:=by
    cases hh:Dr.value (G:Int) s with
    | false=>rfl
    | true=>exact absurd (.inr hh) hv
   rw [show ((0:Nat):Int)=0 from rfl,zdf this];rfl
 rw [hright] at cR;have w32:(t.toNat:Int) / 32=((t.toNat / 32:Nat):Int):=rfl;have hN:t.toNat / 32≤8:=by have:=t.toNat_lt;omega
 have wN:=z17 (k:=t.toNat / 32) (by omega);generalize t.toNat / 32=N at *;have w1:IntKind.wrap .i64 ((e:Int)-((a:Int)+1+(j:Int)))=(e:Int)-((a:Int)+1+(j:Int)):=z0f (by omega) (by omega);have w2:IntKind.wrap .i64 ((a:Int)+1+(j:Int)+(size:Int))=(a:Int)+1+(j:Int)+(size:Int):=z0f (by omega) (by omega);have t1:((a:Int)+1+(j:Int)).toNat=a+1+j:=by omega
 have t2:((a:Int)+1+(j:Int)+(size:Int)).toNat=a+1+j+size:=by omega
 have hsz:s.length≤140737488355328:=by omega
 have hb2:a+1+j+size≤b.length:=by omega
 have hje:a+1+j+size≤e:=by omega
 have hlt:¬((e:Int)-((a:Int)+1+(j:Int))<size):=by omega
 generalize hv:decide (C=2∨Dr.value G s=true)=v at *;have hvt:v=true→(C=2∨Dr.value G s=true):=fun h=>by subst h;exact of_decide_eq_true hv
 have hvf:v=false→¬(C=2∨Dr.value G s=true):=fun h=>by subst h;exact of_decide_eq_false hv
 clear hn hr hq1 hql hH hC hG hp hs hv hright hj hsl hN hf hb;have hcast:((a+(1+j+size):Nat):Int)=(a:Int)+1+(j:Int)+(size:Int):=by push_cast;omega
 have hse':True→(b.drop (a+1+j)).take size=s:=fun _=>hse.symm
 clear hse;cases v with
 | true=>
  rw [if_pos (hvt rfl)];clear hvt hvf;refine z6c false Tryz.func99 rfl (by show 4≤_;decide) ?_;rw [z1m];unfold Tryz.f99;dsimp only;repeat' (first
   | (first|refine sq_ ?_|refine bk_ ?_)
   | ((first|refine rg_ fun Q hQ=>?_|refine if_ fun Q hQ=>?_|refine dr_ (id:=15) [0,1,3,8,10,12,13,14] [128,160,192,737,881] (by kernel_rfl) fun Q hQ=>?_|refine dr_ (id:=20) [8,10,19] [128,160,304] (by kernel_rfl) fun Q hQ=>?_|refine ca_ ?_|show EndK _ _ _ _ _ _ _ _);simp -implicitDefEqProofs [*,z08])
   | ((first|refine bs_ ?_ ?_|refine cs_ ?_ ?_)<;>(intro hc;have hb:=hc;(try simp only [hk_,ne_eq] at hc);(try have ⟨hc1,hc2⟩:_∧_:=hc);(try subst_vars))<;>first|contradiction|(exfalso;omega)|(simp -implicitDefEqProofs [*,z08])|skip)
   | ((first|refine aq_ ?_|refine z05 ?_|refine z06 ?_|refine z07 ?_);try simp only [sk_,↓reduceIte,Nat.reduceEqDiff])
   | (with_reducible refine And.intro ?_ ?_;focus (decide +kernel))
   | ((with_reducible show OptK _ _);(simp (disch:=omega) only [if_pos,if_neg]);(try (simp -implicitDefEqProofs [*,z08]))))
  refine z6O ?_;clear p1 p2 p3 wC wt w32 wN w1 t1 t2 hsz hlt hd hd32 ha he;repeat' (first
   | (first|refine sq_ ?_|refine bk_ ?_)
   | ((first|refine rg_ fun Q hQ=>?_|refine if_ fun Q hQ=>?_|refine dr_ (id:=15) [0,1,3,8,10,12,13,14] [128,160,192,737,881] (by kernel_rfl) fun Q hQ=>?_|refine dr_ (id:=20) [8,10,19] [128,160,304] (by kernel_rfl) fun Q hQ=>?_|refine ca_ ?_|show EndK _ _ _ _ _ _ _ _);simp -implicitDefEqProofs [*])
   | ((first|refine bs_ ?_ ?_|refine cs_ ?_ ?_)<;>(intro hc;have hb:=hc;(try simp only [hk_,ne_eq] at hc);(try have ⟨hc1,hc2⟩:_∧_:=hc);(try subst_vars))<;>first|contradiction|(exfalso;omega)|(simp -implicitDefEqProofs [*])|skip)
   | ((first|refine aq_ ?_|refine z05 ?_|refine z06 ?_|refine z07 ?_);try simp only [sk_,↓reduceIte,Nat.reduceEqDiff])
   | (with_reducible refine And.intro ?_ ?_;focus (decide +kernel))
   | ((with_reducible show OptK _ _);(simp (disch:=omega) only [if_pos,if_neg]);(try (simp -implicitDefEqProofs [*]))))
  exact ⟨by unfold RfT;simp only;rw [hcast];rfl,rfl,rfl⟩
 | false=>
  rw [if_neg (hvf rfl)];clear hvt hvf;refine z6c false Tryz.func99 rfl (by show 4≤_;decide) ?_;rw [z1m];unfold Tryz.f99;dsimp only;repeat' (first
   | (first|refine sq_ ?_|refine bk_ ?_)
   | ((first|refine rg_ fun Q hQ=>?_|refine if_ fun Q hQ=>?_|refine dr_ (id:=15) [0,1,3,8,10,12,13,14] [128,160,192,737,881] (by kernel_rfl) fun Q hQ=>?_|refine dr_ (id:=20) [8,10,19] [128,160,304] (by kernel_rfl) fun Q hQ=>?_|refine ca_ ?_|show EndK _ _ _ _ _ _ _ _);simp -implicitDefEqProofs [*,z08])
   | ((first|refine bs_ ?_ ?_|refine cs_ ?_ ?_)<;>(intro hc;have hb:=hc;(try simp only [hk_,ne_eq] at hc);(try have ⟨hc1,hc2⟩:_∧_:=hc);(try subst_vars))<;>first|contradiction|(exfalso;omega)|(simp -implicitDefEqProofs [*,z08])|skip)
   | ((first|refine aq_ ?_|refine z05 ?_|refine z06 ?_|refine z07 ?_);try simp only [sk_,↓reduceIte,Nat.reduceEqDiff])
   | (with_reducible refine And.intro ?_ ?_;focus (decide +kernel))
   | ((with_reducible show OptK _ _);(simp (disch:=omega) only [if_pos,if_neg]);(try (simp -implicitDefEqProofs [*,z08]))))
  refine z6O ?_;clear p1 p2 p3 wC wt w32 wN w1 t1 t2 hsz hlt hd hd32 ha he;exact z6X
end Am
end Go.Proofs.YtgmppconibklcaaGreatDoor

