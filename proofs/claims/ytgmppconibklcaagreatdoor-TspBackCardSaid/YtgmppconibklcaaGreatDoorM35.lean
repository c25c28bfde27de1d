/- Part of the proof of TspBack. No condition: lemmas alone. -/
import Derived.Test.YtgmppconibklcaaGreatDoorM34
set_option linter.unusedVariables false
set_option linter.unusedSimpArgs false
set_option maxRecDepth 100000
namespace Go.Proofs.YtgmppconibklcaaGreatDoor
open Go Go.RowKit
namespace Am
variable {gl:Nat→Option (List D)}
theorem z68 {b:List UInt8} (hb:b.length≤40000) (h:Dr.read b=none):z1Y Tryz.prog gl Tabs 55 [rX (z05 b)] [] (fun t ws os=>(∃ x y:Int,y≠0∧t = .tup [nX Nd.nil,.agg [.d (.leaf (.int .i64 x)),.d (.leaf (.int .i64 y))]])∧ws=[]∧os=[]):=fun W0 im w vals ch lo hI hargs=>
 (z9f b hb W0 im w vals ch lo hI hargs).mono (by
  rintro e w' ⟨t,ws,os',⟨⟨x,y,rfl,hy⟩,rfl,rfl⟩,hp⟩;rw [h] at hy hp;exact ⟨_,_,_,⟨⟨x,y,by simpa using hy,rfl⟩,rfl,rfl⟩,hp⟩)
theorem z67 {b:List UInt8} {n:Nd} (hb:b.length≤40000) (h:Dr.read b=some n):z1Y Tryz.prog gl Tabs 55 [rX (z05 b)] [] (fun t ws os=>(∃ x:Int,t = .tup [nX n,.agg [.d (.leaf (.int .i64 x)),.d (.leaf (.int .i64 0))]])∧ws=[]∧os=[]):=fun W0 im w vals ch lo hI hargs=>
 (z9f b hb W0 im w vals ch lo hI hargs).mono (by
  rintro e w' ⟨t,ws,os',⟨⟨x,y,rfl,hy⟩,rfl,rfl⟩,hp⟩;rw [h] at hy hp;have:y=0:=by simpa using hy
  subst this;exact ⟨_,_,_,⟨⟨x,rfl⟩,rfl,rfl⟩,hp⟩)
abbrev fnX (g:FuncId):E:= .one (.d (.leaf (.func (.func g) #[] #[])))
def z7U (k:Nat):E:= .agg (List.replicate k .dead)
theorem zhY {G:Gh} {v:Value} {cs:List C} (h:RE G v (.agg cs)):RE G v (z7U cs.length):=by
 obtain ⟨us,rfl,h1,h2⟩:=h;refine ⟨us,rfl,by simp [h1],fun j u c hu hc=>?_⟩;have hj:j<cs.length:=by
  have:=(List.getElem?_eq_some_iff.1 hc).1;simpa using this
 rw [List.getElem?_replicate] at hc;rw [if_pos hj] at hc;injection hc with hc;subst hc;exact RC.one (h2 j u _ hu (List.getElem?_eq_getElem hj))
def rqT (n:Nd):T:=match Rq.z3H n with
 | some q=> .tup [reqX q,bX true]
 | none=> .tup [z7U 7,bX false]
theorem zgA (n:Nd) (hr:Dr.right n=true) (hf:Fine n) (hw:Dr.wt n≤100000) (hm:Dr.mx n≤20000):OK gl 41 [nX n] (rqT n):=fun W0 im w vals ch lo hI hargs=>
 (zgB zbW n hr hf hw hm W0 im w vals ch lo hI hargs).mono (by
  rintro e w' ⟨t,ws,os',⟨⟨x,rfl,h7,hx⟩,rfl,rfl⟩,v,G',rfl,hRT,hInv⟩;unfold rqT;cases hq:Rq.z3H n with
  | some q=>
   rw [hq] at hRT;rw [hx q hq] at hRT;exact ⟨v,G',rfl,hRT,hInv⟩
  | none=>
   rw [hq] at hRT;obtain ⟨c0,c1,c2,c3,c4,c5,c6,rfl,_⟩:=h7;refine ⟨v,G',rfl,?_,hInv⟩;obtain ⟨vs,rfl,h1,h2⟩:=hRT;refine ⟨vs,rfl,h1,fun j u y hu hy=>?_⟩;match j with
   | 0=>
    simp at hy;subst hy;exact zhY (h2 0 u _ hu rfl)
   | j+1=>exact h2 (j+1) u y hu (by simpa using hy))
def z11:E:= .agg [.d (.leaf (.string ⟨#[]⟩)),.d (z05 []),.d (.leaf (.string ⟨#[]⟩)),.d (.leaf (.bool false)),.d (z05 []),.d (.leaf (.bool false)),.d (exR [])]
def z5U (b:List UInt8):T:=match (Dr.read b).bind Rq.z3H with
 | some q=> .tup [reqX q,iX 0]
 | none=> .tup [z11,iX 60]
theorem zaY {b:List UInt8} {n:Nd} (hb:b.length≤15000) (hr:Dr.read b=some n):Dr.right n=true∧Fine n∧Dr.wt n≤100000∧Dr.mx n≤20000:=by
 have hp:=((Dr.z4u b n).1 hr).1;have hw:=Dr.zkd n hp;have hm:=Dr.zkt n hp;exact ⟨by unfold Dr.right;rw [hp];rfl,⟨by omega,by omega⟩,by omega,by omega⟩
set_option maxHeartbeats 4000000 in
theorem zb7 (b:List UInt8) (hb:b.length≤15000):OK gl 40 [rX (z05 b),fnX 41] (z5U b):=by
 cases hr:Dr.read b with
 | none=>
  have hp:z5U b = .tup [z11,iX 60]:=by unfold z5U;rw [hr];rfl
  have cR:=z68 (gl:=gl) (by omega) hr;rw [hp];clear hb hr hp;refine z0k Tryz.func40 rfl (by show 2≤_;decide) ?_;unfold Tryz.f40;dsimp only;repeat' (first
   | (first|refine sq_ ?_|refine bk_ ?_)
   | ((first|refine rg_ fun Q hQ=>?_|refine if_ fun Q hQ=>?_|refine ct_ (by first|with_reducible assumption|assumption) ?_|(refine z4o (cR) ?_;rintro t ws os' ⟨⟨x,y,hy,rfl⟩,rfl,rfl⟩));simp -implicitDefEqProofs [*,z11])
   | ((first|refine bs_ ?_ ?_|refine cs_ ?_ ?_)<;>(intro hc;have hb:=hc;(try simp only [hk_,ne_eq] at hc);(try have ⟨hc1,hc2⟩:_∧_:=hc);(try subst_vars))<;>first|contradiction|(exfalso;omega)|(simp -implicitDefEqProofs [*,z11])|skip)
   | ((first|(refine atQ hQ ?_;clear hQ)|refine atQ (by assumption) ?_|refine z04 ?_|refine z06 ?_|refine z07 ?_);try simp only [sk_,if_true,if_false,↓reduceIte,Nat.reduceEqDiff])
   | (show EndK _ _ _ _ _ _ _ _;simp -implicitDefEqProofs [*,z11])
   | ((simp (disch:=omega) only [if_pos,if_neg]);(try (simp -implicitDefEqProofs [*,z11]))))
 | some n=>
  obtain ⟨h1,h2,h3,h4⟩:=zaY hb hr;have cR:=z67 (gl:=gl) (by omega) hr;have cO:=zgA (gl:=gl) n h1 h2 h3 h4;have hp:z5U b=match Rq.z3H n with
   | some q=> .tup [reqX q,iX 0]
   | none=> .tup [z11,iX 60]:=by unfold z5U;rw [hr];rfl
  rw [hp];unfold rqT at cO;cases hq:Rq.z3H n with
  | none=>
   rw [hq] at cO;clear hb hr hp hq h1 h2 h3 h4;refine z0k Tryz.func40 rfl (by show 2≤_;decide) ?_;unfold Tryz.f40;dsimp only;repeat' (first
    | (first|refine sq_ ?_|refine bk_ ?_)
    | ((first|refine rg_ fun Q hQ=>?_|refine if_ fun Q hQ=>?_|refine ct_ (by first|with_reducible assumption|assumption) ?_|(refine z4o (cR) ?_;rintro t ws os' ⟨⟨x,rfl⟩,rfl,rfl⟩));simp -implicitDefEqProofs [*,z11,z7U,List.replicate])
    | ((first|refine bs_ ?_ ?_|refine cs_ ?_ ?_)<;>(intro hc;have hb:=hc;(try simp only [hk_,ne_eq] at hc);(try have ⟨hc1,hc2⟩:_∧_:=hc);(try subst_vars))<;>first|contradiction|(exfalso;omega)|(simp -implicitDefEqProofs [*,z11,z7U,List.replicate])|skip)
    | ((first|(refine atQ hQ ?_;clear hQ)|refine atQ (by assumption) ?_|refine z04 ?_|refine z06 ?_|refine z07 ?_);try simp only [sk_,if_true,if_false,↓reduceIte,Nat.reduceEqDiff])
    | (show EndK _ _ _ _ _ _ _ _;simp -implicitDefEqProofs [*,z11,z7U,List.replicate])
    | ((simp (disch:=omega) only [if_pos,if_neg]);(try (simp -implicitDefEqProofs [*,z11,z7U,List.replicate]))))
  | some q=>
   rw [hq] at cO;clear hb hr hp hq h1 h2 h3 h4;refine z0k Tryz.func40 rfl (by show 2≤_;decide) ?_;unfold Tryz.f40;dsimp only;repeat' (first
    | (first|refine sq_ ?_|refine bk_ ?_)
    | ((first|refine rg_ fun Q hQ=>?_|refine if_ fun Q hQ=>?_|refine ct_ (by first|with_reducible assumption|assumption) ?_|(refine z4o (cR) ?_;rintro t ws os' ⟨⟨x,rfl⟩,rfl,rfl⟩));simp -implicitDefEqProofs [*,z11])
    | ((first|refine bs_ ?_ ?_|refine cs_ ?_ ?_)<;>(intro hc;have hb:=hc;(try simp only [hk_,ne_eq] at hc);(try have ⟨hc1,hc2⟩:_∧_:=hc);(try subst_vars))<;>first|contradiction|(exfalso;omega)|(simp -implicitDefEqProofs [*,z11])|skip)
    | ((first|(refine atQ hQ ?_;clear hQ)|refine atQ (by assumption) ?_|refine z04 ?_|refine z06 ?_|refine z07 ?_);try simp only [sk_,if_true,if_false,↓reduceIte,Nat.reduceEqDiff])
    | (show EndK _ _ _ _ _ _ _ _;simp -implicitDefEqProofs [*,z11])
    | ((simp (disch:=omega) only [if_pos,if_neg]);(try (simp -implicitDefEqProofs [*,z11]))))
set_option maxHeartbeats 4000000 in
theorem z3K (b:List UInt8) (hb:b.length≤15000):OK gl 10 [rX (z05 b)] (z5U b):=by
 have cP:=zb7 (gl:=gl) b hb;unfold z5U at cP ⊢;cases hq:(Dr.read b).bind Rq.z3H with
 | none=>
  rw [hq] at cP;refine z0k Tryz.func10 rfl (by show 1≤_;decide) ?_;unfold Tryz.f10;dsimp only;repeat' (first
   | (first|refine sq_ ?_|refine bk_ ?_)
   | ((first|refine rg_ fun Q hQ=>?_|refine if_ fun Q hQ=>?_|refine ct_ (by first|with_reducible assumption|assumption) ?_);simp -implicitDefEqProofs [*,z11])
   | ((first|refine bs_ ?_ ?_|refine cs_ ?_ ?_)<;>(intro hc;have hb:=hc;(try simp only [hk_,ne_eq] at hc);(try have ⟨hc1,hc2⟩:_∧_:=hc);(try subst_vars))<;>first|contradiction|(exfalso;omega)|(simp -implicitDefEqProofs [*,z11])|skip)
   | ((first|(refine atQ hQ ?_;clear hQ)|refine atQ (by assumption) ?_|refine z04 ?_|refine z06 ?_|refine z07 ?_);try simp only [sk_,if_true,if_false,↓reduceIte,Nat.reduceEqDiff])
   | (show EndK _ _ _ _ _ _ _ _;simp -implicitDefEqProofs [*,z11])
   | ((simp (disch:=omega) only [if_pos,if_neg]);(try (simp -implicitDefEqProofs [*,z11]))))
 | some q=>
  rw [hq] at cP;refine z0k Tryz.func10 rfl (by show 1≤_;decide) ?_;unfold Tryz.f10;dsimp only;repeat' (first
   | (first|refine sq_ ?_|refine bk_ ?_)
   | ((first|refine rg_ fun Q hQ=>?_|refine if_ fun Q hQ=>?_|refine ct_ (by first|with_reducible assumption|assumption) ?_);simp -implicitDefEqProofs [*])
   | ((first|refine bs_ ?_ ?_|refine cs_ ?_ ?_)<;>(intro hc;have hb:=hc;(try simp only [hk_,ne_eq] at hc);(try have ⟨hc1,hc2⟩:_∧_:=hc);(try subst_vars))<;>first|contradiction|(exfalso;omega)|(simp -implicitDefEqProofs [*])|skip)
   | ((first|(refine atQ hQ ?_;clear hQ)|refine atQ (by assumption) ?_|refine z04 ?_|refine z06 ?_|refine z07 ?_);try simp only [sk_,if_true,if_false,↓reduceIte,Nat.reduceEqDiff])
   | (show EndK _ _ _ _ _ _ _ _;simp -implicitDefEqProofs [*])
   | ((simp (disch:=omega) only [if_pos,if_neg]);(try (simp -implicitDefEqProofs [*]))))
end Am
end Go.Proofs.YtgmppconibklcaaGreatDoor

