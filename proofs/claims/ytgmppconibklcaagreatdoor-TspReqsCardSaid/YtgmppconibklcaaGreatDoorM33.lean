/- Part of the proof. No condition. -/
import Derived.Test.YtgmppconibklcaaGreatDoorM32
import Derived.Test.YtgmppconibklcaaGreatDoorM28
set_option maxHeartbeats 40000000
set_option maxRecDepth 100000
set_option linter.unusedVariables false
set_option linter.unusedSimpArgs false
namespace Go.Proofs.YtgmppconibklcaaGreatDoor
open Go Go.RowKit
namespace Am
variable {gl:Nat→Option (List D)}
theorem zgW {b:List UInt8} (hb:b.length≤40000) (h:Dr.read b=none):z3q Tryz.prog gl Tabs 55 [rX (z04 b)] [] (fun t ws os=>(∃ x y:Int,y≠0∧t = .tup [nX Nd.nil,.agg [.d (.leaf (.int .i64 x)),.d (.leaf (.int .i64 y))]])∧ws=[]∧os=[]):=fun W0 im w vals ch lo hI hargs=>
 (z9A b hb W0 im w vals ch lo hI hargs).mono (by
  rintro e w' ⟨t,ws,os',⟨⟨x,y,rfl,hy⟩,rfl,rfl⟩,hp⟩;rw [h] at hy hp;exact ⟨_,_,_,⟨⟨x,y,by simpa using hy,rfl⟩,rfl,rfl⟩,hp⟩)
theorem z9D {b:List UInt8} {n:Nd} (hb:b.length≤40000) (h:Dr.read b=some n):z3q Tryz.prog gl Tabs 55 [rX (z04 b)] [] (fun t ws os=>(∃ x:Int,t = .tup [nX n,.agg [.d (.leaf (.int .i64 x)),.d (.leaf (.int .i64 0))]])∧ws=[]∧os=[]):=fun W0 im w vals ch lo hI hargs=>
 (z9A b hb W0 im w vals ch lo hI hargs).mono (by
  rintro e w' ⟨t,ws,os',⟨⟨x,y,rfl,hy⟩,rfl,rfl⟩,hp⟩;rw [h] at hy hp;have:y=0:=by simpa using hy
  subst this;exact ⟨_,_,_,⟨⟨x,rfl⟩,rfl,rfl⟩,hp⟩)
abbrev fnX (g:FuncId):E:= .one (.d (.leaf (.func (.func g) #[] #[])))
def zgU (k:Nat):E:= .agg (List.replicate k .dead)
theorem znU {G:Gh} {v:Value} {cs:List C} (h:RE G v (.agg cs)):RE G v (zgU cs.length):=by
 obtain ⟨us,rfl,h1,h2⟩:=h;refine ⟨us,rfl,by simp [h1],fun j u c hu hc=>?_⟩;have hj:j<cs.length:=by
  have:=(List.getElem?_eq_some_iff.1 hc).1;simpa using this
 rw [List.getElem?_replicate] at hc;rw [if_pos hj] at hc;injection hc with hc;subst hc;exact RC.one (h2 j u _ hu (List.getElem?_eq_getElem hj))
def rqT (n:Nd):T:=match Rq.z34 n with
 | some q=> .tup [reqX q,bX true]
 | none=> .tup [zgU 7,bX false]
theorem zhP (n:Nd) (hr:Dr.right n=true) (hf:Fine n) (hw:Dr.wt n≤100000) (hm:Dr.mx n≤20000):OK gl 41 [nX n] (rqT n):=fun W0 im w vals ch lo hI hargs=>
 (zhQ zcw n hr hf hw hm W0 im w vals ch lo hI hargs).mono (by
  rintro e w' ⟨t,ws,os',⟨⟨x,rfl,h7,hx⟩,rfl,rfl⟩,v,G',rfl,hRT,hInv⟩;unfold rqT;cases hq:Rq.z34 n with
  | some q=>
   rw [hq] at hRT;rw [hx q hq] at hRT;exact ⟨v,G',rfl,hRT,hInv⟩
  | none=>
   rw [hq] at hRT;obtain ⟨c0,c1,c2,c3,c4,c5,c6,rfl,_⟩:=h7;refine ⟨v,G',rfl,?_,hInv⟩;obtain ⟨vs,rfl,h1,h2⟩:=hRT;refine ⟨vs,rfl,h1,fun j u y hu hy=>?_⟩;match j with
   | 0=>
    simp at hy;subst hy;exact znU (h2 0 u _ hu rfl)
   | j+1=>exact h2 (j+1) u y hu (by simpa using hy))
def z1n:E:= .agg [.d (.leaf (.string ⟨#[]⟩)),.d (z04 []),.d (.leaf (.string ⟨#[]⟩)),.d (.leaf (.bool false)),.d (z04 []),.d (.leaf (.bool false)),.d (exR [])]
def z62 (b:List UInt8):T:=match (Dr.read b).bind Rq.z34 with
 | some q=> .tup [reqX q,iX 0]
 | none=> .tup [z1n,iX 60]
theorem zbx {b:List UInt8} {n:Nd} (hb:b.length≤15000) (hr:Dr.read b=some n):Dr.right n=true∧Fine n∧Dr.wt n≤100000∧Dr.mx n≤20000:=by
 have hp:=((Dr.za2 b n).1 hr).1;have hw:=Dr.zlJ n hp;have hm:=Dr.ziK n hp;exact ⟨by unfold Dr.right;rw [hp];rfl,⟨by omega,by omega⟩,by omega,by omega⟩
theorem zig {p:Prop} (h:p:=by
  refine z0d Tryz.func40 rfl (by show 2≤_;decide) ?_;unfold Tryz.f40;dsimp only;have z0:=@z1n.eq_def;exact am_):p:=h
theorem zbI (b:List UInt8) (hb:b.length≤15000):OK gl 40 [rX (z04 b),fnX 41] (z62 b):=by
 cases hr:Dr.read b with
 | none=>
  have hp:z62 b = .tup [z1n,iX 60]:=by unfold z62;rw [hr];rfl
  have cR:=zgW (gl:=gl) (by omega) hr;rw [hp];clear hb hr hp;exact zig
 | some n=>
  obtain ⟨h1,h2,h3,h4⟩:=zbx hb hr;have cR:=z9D (gl:=gl) (by omega) hr;have cO:=zhP (gl:=gl) n h1 h2 h3 h4;have hp:z62 b=match Rq.z34 n with
   | some q=> .tup [reqX q,iX 0]
   | none=> .tup [z1n,iX 60]:=by unfold z62;rw [hr];rfl
  rw [hp];unfold rqT at cO;cases hq:Rq.z34 n with
  | none=>
   rw [hq] at cO;clear hb hr hp hq h1 h2 h3 h4;refine z0d Tryz.func40 rfl (by show 2≤_;decide) ?_;unfold Tryz.f40;dsimp only;repeat' (first
    | (first|refine sq_ ?_|refine bk_ ?_)
    | ((first|refine rg_ fun Q hQ=>?_|refine if_ fun Q hQ=>?_|refine ca_ ?_|(refine z4s (cR) ?_;rintro t ws os' ⟨⟨x,rfl⟩,rfl,rfl⟩)|show EndK _ _ _ _ _ _ _ _);simp -implicitDefEqProofs [*,z1n,zgU,List.replicate])
    | ((first|refine bs_ ?_ ?_|refine cs_ ?_ ?_)<;>(intro hc;have hb:=hc;(try simp only [hk_,ne_eq] at hc);(try have ⟨hc1,hc2⟩:_∧_:=hc);(try subst_vars))<;>first|contradiction|(exfalso;omega)|(simp -implicitDefEqProofs [*,z1n,zgU,List.replicate])|skip)
    | ((first|refine aq_ ?_|refine z05 ?_|refine z06 ?_|refine z07 ?_);try simp only [sk_,↓reduceIte,Nat.reduceEqDiff])
    | ((with_reducible show OptK _ _);(simp (disch:=omega) only [if_pos,if_neg]);(try (simp -implicitDefEqProofs [*,z1n,zgU,List.replicate]))))
  | some q=>
   rw [hq] at cO;clear hb hr hp hq h1 h2 h3 h4;exact zig
theorem z7G (b:List UInt8) (hb:b.length≤15000):OK gl 10 [rX (z04 b)] (z62 b):=by
 have cP:=zbI (gl:=gl) b hb;unfold z62 at cP ⊢;cases hq:(Dr.read b).bind Rq.z34 with
 | none=>
  rw [hq] at cP;refine z0d Tryz.func10 rfl (by show 1≤_;decide) ?_;unfold Tryz.f10;dsimp only;have z0:=@z1n.eq_def;exact am_
 | some q=>
  rw [hq] at cP;refine z0d Tryz.func10 rfl (by show 1≤_;decide) ?_;unfold Tryz.f10;dsimp only;exact am_
end Am
end Go.Proofs.YtgmppconibklcaaGreatDoor

