/- Part of the proof. No condition. -/
import Derived.Test.YtgmppconibklcaaGreatDoorM42
import Derived.Test.YtgmppconibklcaaGreatDoorM43
import Derived.Test.YtgmppconibklcaaGreatDoorM33
import Derived.Test.YtgmppconibklcaaGreatDoorM28
import Derived.Test.YtgmppconibklcaaGreatDoorM20
import Derived.Test.YtgmppconibklcaaGreatDoorM40
import Derived.Test.YtgmppconibklcaaGreatDoorM21
import Derived.KernelRfl
import Derived.Test.YtgmppconibklcaaGreatDoorM38
import Derived.Test.YtgmppconibklcaaGreatDoorM34
import Derived.Test.YtgmppconibklcaaGreatDoorM11
import Derived.Test.YtgmppconibklcaaGreatDoorM15
import Derived.Test.YtgmppconibklcaaGreatDoorM13
set_option maxHeartbeats 40000000
set_option maxRecDepth 100000
set_option linter.unusedVariables false
set_option linter.unusedSimpArgs false
namespace Go.Proofs.YtgmppconibklcaaGreatDoor
open Go Go.RowKit
namespace Am
variable {gl:Nat→Option (List D)}
def inT (n:Nd):T:=match Rq.z9s n with
 | some q=> .tup [infX q (Nt.lim q.serial) (Nt.lim q.nonce),bX true]
 | none=> .tup [zgU 10,bX false]
def prInf (b:List UInt8):T:=match (Dr.read b).bind Rq.z9s with
 | some q=> .tup [infX q (Nt.lim q.serial) (Nt.lim q.nonce),iX 0]
 | none=> .tup [zmp,iX 60]
end Am
end Go.Proofs.YtgmppconibklcaaGreatDoor

namespace Go.Proofs.YtgmppconibklcaaGreatDoor
namespace Rq
open Dr
end Rq
end Go.Proofs.YtgmppconibklcaaGreatDoor

namespace Go.Proofs.YtgmppconibklcaaGreatDoor
open Go Go.RowKit
namespace Am
variable {gl:Nat→Option (List D)}
theorem ziQ {a k:Nat} (h:Nt.bl a≤32*k):(Nt.lim a).length≤k:=by
 refine Nt.zdw ?_;have h1:=Nt.zh4 a;have h2:(2:Nat)^Nt.bl a≤2^(32*k):=Nat.pow_le_pow_right (by decide) h;have h3:(2:Nat)^(32*k)=Nt.B^k:=by rw [Nat.pow_mul];rfl
 omega
theorem zmP (q:Rq.Req):reqX q=reqY q (Nt.lim q.nonce):=by
 show E.agg [_,_,_,_,.d (limD _),_,_]=_;rw [zdv]
def zhc:Rq.Req:=⟨[],[],[],false,0,false,[]⟩
theorem zfP:z1n=reqY zhc []:=rfl
def zeroIn:Rq.Info:=⟨[],[],[],0,0,0,0,0,false,0⟩
structure Sizes (q:Rq.Req) (ls:List Nat) (i:Rq.Info) (sl nl:List Nat):Prop where
 a1:q.alg.length≤140737488355328
 a2:q.impr.length≤140737488355328
 a3:q.policy.length≤140737488355328
 a4:ls.length≤140737488355328
 a5:q.exts.length≤140737488355328
 a6:∀ e∈q.exts,e.oid.length≤140737488355328∧e.val.length≤140737488355328
 b1:i.policy.length≤140737488355328
 b2:i.alg.length≤140737488355328
 b3:i.impr.length≤140737488355328
 b4:sl.length≤140737488355328
 b5:nl.length≤140737488355328
 c1: -9223372036854775808≤i.secs∧i.secs≤9223372036854775807
 c2: -9223372036854775808≤i.millis∧i.millis≤9223372036854775807
end Am
end Go.Proofs.YtgmppconibklcaaGreatDoor

namespace Go.Proofs.YtgmppconibklcaaGreatDoor
open Go Go.RowKit
namespace Am
variable {gl:Nat→Option (List D)}
noncomputable abbrev runK (gl:Nat→Option (List D)):Cfg:=⟨Tryz.prog,gl,fun _=>none,fun _ _=>none,fun _=>false,1000000⟩
theorem z5i (n:Nat) {g:FuncId} {args:List E} {t:T} (h:runF (runK gl) n g args []=some (t,[],[])):OK gl g args t:=
 z8W (runK gl) z1h z0b (fun f g args os t ws os' h=>by cases h) n _ _ _ _ _ _ h
theorem zkF:OK gl 54 [iX 256] (.i .i64 32):=z5i 4 (by kernel_rfl)
theorem zkE:OK gl 54 [iX 384] (.i .i64 48):=z5i 4 (by kernel_rfl)
theorem zkD:OK gl 54 [iX 512] (.i .i64 64):=z5i 4 (by kernel_rfl)
end Am
end Go.Proofs.YtgmppconibklcaaGreatDoor

namespace Go.Proofs.YtgmppconibklcaaGreatDoor
open Go Go.RowKit
theorem zg3 (w:World):
  Calls Tryz.prog 52 #[.int .i64 384] w fun e w'=>e = .returned (.int .i64 48)∧Below w.heap.size w w':=by
 have hF:Calls Tryz.prog 106 #[.int .i64 384] w fun e w'=>∃ t p,e = .returned (.iface t (.pointer (some p)))∧Below w.heap.size w w':=by
  go_enter Tryz.func106,Tryz.ntmps106
  go_wp2_with fail
  go_ret
  refine ⟨_,_,rfl,((Below.refl _ w).alloc (Nat.le_refl _) _).alloc ?_ _⟩;unfold World.alloc;rw [Array.size_push];omega
 go_enter Tryz.func52,Tryz.ntmps52
 go_wp2_with fail
 refine hF.mono ?_;rintro e w1 ⟨t,p,rfl,hb⟩
 go_wp2_with fail
 go_ret
 exact ⟨rfl,hb⟩
theorem zg2 (w:World):
  Calls Tryz.prog 52 #[.int .i64 512] w fun e w'=>e = .returned (.int .i64 64)∧Below w.heap.size w w':=by
 have hF:Calls Tryz.prog 106 #[.int .i64 512] w fun e w'=>∃ t p,e = .returned (.iface t (.pointer (some p)))∧Below w.heap.size w w':=by
  go_enter Tryz.func106,Tryz.ntmps106
  go_wp2_with fail
  go_ret
  refine ⟨_,_,rfl,((Below.refl _ w).alloc (Nat.le_refl _) _).alloc ?_ _⟩;unfold World.alloc;rw [Array.size_push];omega
 go_enter Tryz.func52,Tryz.ntmps52
 go_wp2_with fail
 refine hF.mono ?_;rintro e w1 ⟨t,p,rfl,hb⟩
 go_wp2_with fail
 go_ret
 exact ⟨rfl,hb⟩
namespace Am
variable {gl:Nat→Option (List D)}
theorem z9T:OK gl 52 [iX 384] (.i .i64 48):=
 z0v rfl rfl z0q fun w vals hT hargs=>by
  obtain ⟨v,rfl,h⟩:=hargs.one_;have e:=RD.z0M h;subst e;refine (zg3 w).mono ?_;rintro e w' ⟨rfl,hb⟩;exact ⟨_,rfl,z4v rfl,hb⟩
theorem z9S:OK gl 52 [iX 512] (.i .i64 64):=
 z0v rfl rfl z0q fun w vals hT hargs=>by
  obtain ⟨v,rfl,h⟩:=hargs.one_;have e:=RD.z0M h;subst e;refine (zg2 w).mono ?_;rintro e w' ⟨rfl,hb⟩;exact ⟨_,rfl,z4v rfl,hb⟩
def o256:ByteArray:=⟨#[50,46,49,54,46,56,52,48,46,49,46,49,48,49,46,51,46,52,46,50,46,49]⟩
def o384:ByteArray:=⟨#[50,46,49,54,46,56,52,48,46,49,46,49,48,49,46,51,46,52,46,50,46,50]⟩
def o512:ByteArray:=⟨#[50,46,49,54,46,56,52,48,46,49,46,49,48,49,46,51,46,52,46,50,46,51]⟩
def z3s (a:ByteArray):Int:=if o256.toList=a.toList then 256 else if o384.toList=a.toList then 384 else if o512.toList=a.toList then 512 else 0
theorem zbk:OK gl 105 [iX 256] (.s o256):=z5i 5 (by kernel_rfl)
theorem zbj:OK gl 105 [iX 384] (.s o384):=z5i 5 (by kernel_rfl)
theorem zbi:OK gl 105 [iX 512] (.s o512):=z5i 5 (by kernel_rfl)
theorem zgh:OK gl 107 [iX 256] (.s o256):=z5i 5 (by kernel_rfl)
theorem zgg:OK gl 107 [iX 384] (.s o384):=z5i 5 (by kernel_rfl)
theorem zgf:OK gl 107 [iX 512] (.s o512):=z5i 5 (by kernel_rfl)
theorem zhz (a:ByteArray):OK gl 51 [sX a] (.i .i64 (z3s a)):=by
 have c1:=zbk (gl:=gl);have c2:=zbj (gl:=gl);have c3:=zbi (gl:=gl);unfold z3s;generalize o256=p at *;generalize o384=q at *;generalize o512=r at *;have u:Unr 4:=⟨⟩;have w3:IntKind.i64.wrap 3=3:=by decide
 by_cases h1:p.toList=a.toList<;>by_cases h2:q.toList=a.toList<;>by_cases h3:r.toList=a.toList;all_goals
  refine z0d Tryz.func51 rfl (by show 1≤_;decide) ?_;unfold Tryz.f51;dsimp only;exact am_
theorem rShaOf (a:ByteArray):OK gl 53 [sX a] (.i .i64 (z3s a)):=by
 have c1:=zgh (gl:=gl);have c2:=zgg (gl:=gl);have c3:=zgf (gl:=gl);unfold z3s;generalize o256=p at *;generalize o384=q at *;generalize o512=r at *;have u:Unr 4:=⟨⟩;have w3:IntKind.i64.wrap 3=3:=by decide
 by_cases h1:p.toList=a.toList<;>by_cases h2:q.toList=a.toList<;>by_cases h3:r.toList=a.toList;all_goals
  refine z0d Tryz.func53 rfl (by show 1≤_;decide) ?_;unfold Tryz.f53;dsimp only;have z0:=@z0j.eq_def;have z1:=@row?.eq_def;have z2:=@z2n.eq_def;exact am_
theorem z6r (a:ByteArray):z3s a=256∨z3s a=384∨z3s a=512∨z3s a=0:=by
 unfold z3s;by_cases h1:o256.toList=a.toList
 ·exact .inl (if_pos h1)
 ·rw [if_neg h1];by_cases h2:o384.toList=a.toList
  ·exact .inr (.inl (if_pos h2))
  ·rw [if_neg h2];by_cases h3:o512.toList=a.toList
   ·exact .inr (.inr (.inl (if_pos h3)))
   ·exact .inr (.inr (.inr (if_neg h3)))
def zli (q:Rq.Req):Bool:=z3s ⟨q.alg.toArray⟩ != 0&&(8*(q.impr.length:Int)==z3s ⟨q.alg.toArray⟩)
theorem tFits (q:Rq.Req) (ls:List Nat):OK gl 14 [reqY q ls] (.b (zli q)):=by
 have c1:=zhz (gl:=gl) ⟨q.alg.toArray⟩;have c2:=z8Q (gl:=gl);have c3:=z9T (gl:=gl);have c4:=z9S (gl:=gl);have hS:=z6r ⟨q.alg.toArray⟩;unfold zli;generalize z3s ⟨q.alg.toArray⟩=h at *;rcases hS with rfl|rfl|rfl|rfl;all_goals
  refine z0d Tryz.func14 rfl (by show 1≤_;decide) ?_;unfold Tryz.f14;dsimp only;repeat' (first
   | (first|refine sq_ ?_|refine bk_ ?_)
   | ((first|refine rg_ fun Q hQ=>?_|refine if_ fun Q hQ=>?_|refine dr_ (id:=2) [1,3] [16,97] (by kernel_rfl) fun Q hQ=>?_|refine ca_ ?_|refine ce_ ?_ ?_|show EndK _ _ _ _ _ _ _ _);simp -implicitDefEqProofs [*])
   | ((first|refine bs_ ?_ ?_|refine cs_ ?_ ?_)<;>(intro hc;have hb:=hc;(try simp only [hk_,ne_eq] at hc);(try have ⟨hc1,hc2⟩:_∧_:=hc);(try subst_vars))<;>first|contradiction|(exfalso;omega)|(simp -implicitDefEqProofs [*])|skip)
   | ((first|refine aq_ ?_|refine z05 ?_|refine z06 ?_|refine z07 ?_);try simp only [sk_,↓reduceIte,Nat.reduceEqDiff])
   | (first|exact z0h|refine cn_ (by decide) ?_|refine cc_ (by intro e1 e2 e3;simp_all) ?_|refine And.intro (by decide +kernel) ?_)
   | ((with_reducible show OptK _ _);(simp (disch:=omega) only [if_pos,if_neg]);(try (simp -implicitDefEqProofs [*]))))
 all_goals first|omega|(rw [Bool.eq_iff_iff];simp;omega)|skip
theorem rFits (q:Rq.Req) (ls:List Nat):OK gl 15 [reqY q ls] (.b (zli q)):=by
 have c1:=rShaOf (gl:=gl) ⟨q.alg.toArray⟩;have c2:=zkF (gl:=gl);have c3:=zkE (gl:=gl);have c4:=zkD (gl:=gl);have hS:=z6r ⟨q.alg.toArray⟩;unfold zli;generalize z3s ⟨q.alg.toArray⟩=h at *;rcases hS with rfl|rfl|rfl|rfl;all_goals
  refine z0d Tryz.func15 rfl (by show 1≤_;decide) ?_;unfold Tryz.f15;dsimp only;repeat' (first
   | (first|refine sq_ ?_|refine bk_ ?_)
   | ((first|refine rg_ fun Q hQ=>?_|refine if_ fun Q hQ=>?_|refine dr_ (id:=2) [1,3] [16,97] (by kernel_rfl) fun Q hQ=>?_|refine ca_ ?_|refine ce_ ?_ ?_|show EndK _ _ _ _ _ _ _ _);simp -implicitDefEqProofs [*])
   | ((first|refine bs_ ?_ ?_|refine cs_ ?_ ?_)<;>(intro hc;have hb:=hc;(try simp only [hk_,ne_eq] at hc);(try have ⟨hc1,hc2⟩:_∧_:=hc);(try subst_vars))<;>first|contradiction|(exfalso;omega)|(simp -implicitDefEqProofs [*])|skip)
   | ((first|refine aq_ ?_|refine z05 ?_|refine z06 ?_|refine z07 ?_);try simp only [sk_,↓reduceIte,Nat.reduceEqDiff])
   | (first|exact z0h|refine cn_ (by decide) ?_|refine cc_ (by intro e1 e2 e3;simp_all) ?_|refine And.intro (by decide +kernel) ?_)
   | ((with_reducible show OptK _ _);(simp (disch:=omega) only [if_pos,if_neg]);(try (simp -implicitDefEqProofs [*]))))
 all_goals first|omega|(rw [Bool.eq_iff_iff];simp;omega)|skip
end Am
end Go.Proofs.YtgmppconibklcaaGreatDoor

namespace Go.Proofs.YtgmppconibklcaaGreatDoor
open Go Go.RowKit
namespace Am
variable {gl:Nat→Option (List D)}
def znI (t:Int):Int:=if Dr.z2L t=true then 2 else if Dr.z1G t=true then 1 else 0
theorem rForm (t:Int):OK gl 151 [iX t] (.i .i64 (znI t)):=by
 refine z0d Tryz.func151 rfl (by show 1≤_;decide) ?_;unfold Tryz.f151;dsimp only;have z0:=@znI.eq_def;have z1:=@Dr.z2L.eq_def;have z2:=@Dr.z1G.eq_def;exact am_
theorem zkp (t:Int) (h:Dr.z2L t=true):Dr.z1G t=false:=by
 unfold Dr.z2L at h;simp at h;rcases h with rfl|rfl<;>rfl
theorem rMay (c t:Int) (k:Bool):OK gl 82 [iX c,iX t,bX k] (.b (Dr.may c t k)):=by
 have c1:=rForm (gl:=gl) t;have hs:=zkp t;unfold znI at c1;have he:Dr.may c t k=(decide (0≤t)&&decide (t≤30)&&(c==2||c==0&&(if k then Dr.z2L t else Dr.z1G t))):=rfl;generalize Dr.z2L t=a at *;generalize Dr.z1G t=b at *;generalize Dr.may c t k=r at *;subst he;have hab:¬(a=true∧b=true):=fun ⟨x,y⟩=>by rw [hs x] at y;cases y
 clear hs;cases a<;>cases b<;>cases k;all_goals simp at c1 hab
 all_goals
  refine z0d Tryz.func82 rfl (by show 3≤_;decide) ?_;unfold Tryz.f82;dsimp only;repeat' (first
   | (first|refine sq_ ?_|refine bk_ ?_)
   | ((first|refine rg_ fun Q hQ=>?_|refine if_ fun Q hQ=>?_|refine ca_ ?_|show EndK _ _ _ _ _ _ _ _);simp -implicitDefEqProofs [*])
   | ((first|refine bs_ ?_ ?_|refine cs_ ?_ ?_)<;>(intro hc;have hb:=hc;(try simp only [hk_,ne_eq] at hc);(try have ⟨hc1,hc2⟩:_∧_:=hc);(try subst_vars))<;>first|contradiction|(exfalso;omega)|(simp -implicitDefEqProofs [*])|skip)
   | ((first|refine aq_ ?_|refine z05 ?_|refine z06 ?_|refine z07 ?_);try simp only [sk_,↓reduceIte,Nat.reduceEqDiff])
   | ((with_reducible show OptK _ _);(simp (disch:=omega) only [if_pos,if_neg]);(try (simp -implicitDefEqProofs [*]))))
  all_goals (intros;omega)
def bel:List UInt8→List UInt8→Bool
 | [],[]=>false
 | [],_::_=>true
 | _::_,[]=>false
 | x::a,y::b=>if x=y then bel a b else decide (x.toNat<y.toNat)
structure BelI (a b:List UInt8) (k:Nat) (s:SF):Prop where
 e0:s.env 0=some (.e (rX (z04 a)))
 e1:s.env 1=some (.e (rX (z04 b)))
 ex:∃ j,j+k=a.length∧j≤b.length∧s.env 5=some (.e (iX j))∧bel (a.drop j) (b.drop j)=bel a b
theorem rBelow (a b:List UInt8) (ha:a.length≤100000000) (hb:b.length≤100000000):OK gl 83 [rX (z04 a),rX (z04 b)] (.b (bel a b)):=by
 refine z0d Tryz.func83 rfl (by show 2≤_;decide) ?_;unfold Tryz.f83;dsimp only;repeat' (first
  | (first|refine sq_ ?_|refine bk_ ?_)
  | ((first|refine rg_ fun Q hQ=>?_|refine if_ fun Q hQ=>?_|refine dr_ (id:=4) [0,1,5] [] (by kernel_rfl) fun Q hQ=>?_|refine dr_ (id:=5) [0,1,5] [] (by kernel_rfl) fun Q hQ=>?_|refine ca_ ?_|show EndK _ _ _ _ _ _ _ _);simp -implicitDefEqProofs [*])
  | ((first|refine bs_ ?_ ?_|refine cs_ ?_ ?_)<;>(intro hc;have hb:=hc;(try simp only [hk_,ne_eq] at hc);(try have ⟨hc1,hc2⟩:_∧_:=hc);(try subst_vars))<;>first|contradiction|(exfalso;omega)|(simp -implicitDefEqProofs [*])|skip)
  | ((first|refine aq_ ?_|refine z05 ?_|refine z06 ?_|refine z07 ?_);try simp only [sk_,↓reduceIte,Nat.reduceEqDiff])
  | (with_reducible refine And.intro ?_ ?_;focus (decide +kernel))
  | ((with_reducible show OptK _ _);(simp (disch:=omega) only [if_pos,if_neg]);(try (simp -implicitDefEqProofs [*]))))
 refine z0A (BelI a b) a.length ?_ ?_
 ·exact ⟨by simp,by simp,0,by simp,by simp,by simp,by simp⟩
 ·rintro k s ⟨h0,h1,j,hj,hjb,h5,hbe⟩;cases k with
  | zero=>
   have hjl:j=a.length:=by omega
   subst hjl;have hd:bel a b=decide (a.length<b.length):=by
    rw [←hbe,List.drop_length];rcases hd2:b.drop a.length with _|⟨y,r⟩
    ·have:=congrArg List.length hd2;simp at this;simp [bel];omega
    ·have:=congrArg List.length hd2;simp at this;simp [bel];omega
   clear hbe;have d4:Drw 4 [0,1,5] []:=⟨⟩;have d5:Drw 5 [0,1,5] []:=⟨⟩;exact am_
  | succ k=>
   have g1:j<a.length:=by omega
   by_cases g2:j<b.length
   ·obtain ⟨x,r,hd,hx,_⟩:=z0t g1;obtain ⟨y,r2,hd2,hy,_⟩:=z0t g2;have hw:=z17 (k:=j+1) (by omega);have hr:r=a.drop (j+1):=by rw [←List.drop_drop,hd];rfl
    have hr2:r2=b.drop (j+1):=by rw [←List.drop_drop,hd2];rfl
    rw [hd,hd2] at hbe;by_cases hxy:x=y
    ·subst hxy;have hbe2:bel (a.drop (j+1)) (b.drop (j+1))=bel a b:=by rw [←hr,←hr2,←hbe];simp [bel]
     clear hbe hr hr2;repeat' (first
      | (first|refine sq_ ?_|refine bk_ ?_)
      | ((first|refine rg_ fun Q hQ=>?_|refine if_ fun Q hQ=>?_|refine dr_ (id:=4) [0,1,5] [] (by kernel_rfl) fun Q hQ=>?_|refine dr_ (id:=5) [0,1,5] [] (by kernel_rfl) fun Q hQ=>?_|refine ca_ ?_|show EndK _ _ _ _ _ _ _ _);simp -implicitDefEqProofs [*])
      | ((first|refine bs_ ?_ ?_|refine cs_ ?_ ?_)<;>(intro hc;have hb:=hc;(try simp only [hk_,ne_eq] at hc);(try have ⟨hc1,hc2⟩:_∧_:=hc);(try subst_vars))<;>first|contradiction|(exfalso;omega)|(simp -implicitDefEqProofs [*])|skip)
      | ((first|refine aq_ ?_|refine z05 ?_|refine z06 ?_|refine z07 ?_);try simp only [sk_,↓reduceIte,Nat.reduceEqDiff])
      | (with_reducible refine And.intro ?_ ?_;focus (decide +kernel))
      | ((with_reducible show OptK _ _);(simp (disch:=omega) only [if_pos,if_neg]);(try (simp -implicitDefEqProofs [*]))))
     exact ⟨k,by omega,by simp [h0],by simp [h1],j+1,by omega,by omega,by simpa using hw,hbe2⟩
    ·have hne:¬x.toNat=y.toNat:=fun h=>hxy (UInt8.toNat_inj.1 h)
     have hbe2:bel a b=decide (x.toNat<y.toNat):=by rw [←hbe];simp [bel,hxy]
     clear hbe hr hr2;have d4:Drw 4 [0,1,5] []:=⟨⟩;have d5:Drw 5 [0,1,5] []:=⟨⟩;exact am_
   ·have hbl:b.length=j:=by omega
    have hd:bel a b=false:=by
     obtain ⟨x,r,hd,hx,_⟩:=z0t g1;rw [←hbe,hd,←hbl,List.drop_length];rfl
    have hle:¬a.length<b.length:=by omega
    clear hbe;repeat' (first
     | (first|refine sq_ ?_|refine bk_ ?_)
     | ((first|refine rg_ fun Q hQ=>?_|refine if_ fun Q hQ=>?_|refine dr_ (id:=4) [0,1,5] [] (by kernel_rfl) fun Q hQ=>?_|refine dr_ (id:=5) [0,1,5] [] (by kernel_rfl) fun Q hQ=>?_|refine ca_ ?_|show EndK _ _ _ _ _ _ _ _);simp -implicitDefEqProofs [*])
     | ((first|refine bs_ ?_ ?_|refine cs_ ?_ ?_)<;>(intro hc;have hb:=hc;(try simp only [hk_,ne_eq] at hc);(try have ⟨hc1,hc2⟩:_∧_:=hc);(try subst_vars))<;>first|contradiction|(exfalso;omega)|(simp -implicitDefEqProofs [*])|skip)
     | ((first|refine aq_ ?_|refine z05 ?_|refine z06 ?_|refine z07 ?_);try simp only [sk_,↓reduceIte,Nat.reduceEqDiff])
     | (with_reducible refine And.intro ?_ ?_;focus (decide +kernel))
     | ((with_reducible show OptK _ _);(simp (disch:=omega) only [if_pos,if_neg]);(try (simp -implicitDefEqProofs [*]))))
    all_goals omega
end Am
end Go.Proofs.YtgmppconibklcaaGreatDoor

namespace Go.Proofs.YtgmppconibklcaaGreatDoor
open Go Go.RowKit
namespace Am
variable {gl:Nat→Option (List D)}
theorem z8j:∀ (j n:Nat),Nt.beN (j+1) n=UInt8.ofNat (n / 256^j%256)::Nt.beN j n
 | 0,n=>by simp [Nt.beN]
 | j+1,n=>by
  have h:=z8j j (n / 256);rw [Nt.beN,h,Nat.div_div_eq_div_mul,Nat.mul_comm 256,←Nat.pow_succ];rfl
theorem zcA (m:Nat):IntKind.wrap .u8 ((m:Int).tmod 256)=((UInt8.ofNat (m%256)).toNat:Int):=by
 rw [IntKind.wrap_u8,UInt8.toNat_ofNat',show (m:Int).tmod 256=((m%256:Nat):Int) from rfl];omega
theorem by1 {x:Int} {b:UInt8} (l:List UInt8) (h:x=b.toNat):D.row 1 (D.leaf (.int .u8 x)::byL l)=z04 (b::l):=by subst h;rfl
theorem by2 {x:Int} {b:UInt8} (l:List UInt8) (h:x=b.toNat):D.leaf (.int .u8 x)::byL l=byL (b::l):=by subst h;rfl
structure LenI (n k:Nat) (s:SF):Prop where
 ex:∃ j,n / 256^j≤k∧s.env 0=some (.e (iX ((n / 256^j:Nat):Int)))∧(j=0∨256^(j-1)≤n)∧(j=0∧s.env 3=some (.e (.one .nilS))∨0<j∧s.env 3=some (.e (.one (.gr 336 1 (byL (Nt.beN j n)))))∧s.heap 336=some (.own 5 1 j))
theorem zd9 (n:Nat) (hn:n≤5000000000):OK gl 85 [iX n] (.e (rX (z04 (Dr.lenB n)))):=by
 by_cases h128:n<128
 ·have hl:Dr.lenB n=[UInt8.ofNat n]:=by unfold Dr.lenB;rw [if_pos h128]
  have hb:IntKind.wrap .u8 (n:Int)=((UInt8.ofNat n).toNat:Int):=by rw [IntKind.wrap_u8,UInt8.toNat_ofNat'];omega
  refine z0d Tryz.func85 rfl (by show 1≤_;decide) ?_;unfold Tryz.f85;dsimp only;repeat' (first
   | (first|refine sq_ ?_|refine bk_ ?_)
   | ((first|refine rg_ fun Q hQ=>?_|refine if_ fun Q hQ=>?_|refine ca_ ?_|show EndK _ _ _ _ _ _ _ _);simp -implicitDefEqProofs [*])
   | ((first|refine bs_ ?_ ?_|refine cs_ ?_ ?_)<;>(intro hc;have hb:=hc;(try simp only [hk_,ne_eq] at hc);(try have ⟨hc1,hc2⟩:_∧_:=hc);(try subst_vars))<;>first|contradiction|(exfalso;omega)|(simp -implicitDefEqProofs [*])|skip)
   | ((first|refine aq_ ?_|refine z05 ?_|refine z06 ?_|refine z07 ?_);try simp only [sk_,↓reduceIte,Nat.reduceEqDiff])
   | ((with_reducible show OptK _ _);(simp (disch:=omega) only [if_pos,if_neg]);(try (simp -implicitDefEqProofs [*]))))
  exact by1 [] (by rw [UInt8.toNat_ofNat'];omega)
 ·refine z0d Tryz.func85 rfl (by show 1≤_;decide) ?_;unfold Tryz.f85;dsimp only;repeat' (first
   | (first|refine sq_ ?_|refine bk_ ?_)
   | ((first|refine rg_ fun Q hQ=>?_|refine if_ fun Q hQ=>?_|refine ca_ ?_|show EndK _ _ _ _ _ _ _ _);simp -implicitDefEqProofs [*])
   | ((first|refine bs_ ?_ ?_|refine cs_ ?_ ?_)<;>(intro hc;have hb:=hc;(try simp only [hk_,ne_eq] at hc);(try have ⟨hc1,hc2⟩:_∧_:=hc);(try subst_vars))<;>first|contradiction|(exfalso;omega)|(simp -implicitDefEqProofs [*])|skip)
   | ((first|refine aq_ ?_|refine z05 ?_|refine z06 ?_|refine z07 ?_);try simp only [sk_,↓reduceIte,Nat.reduceEqDiff])
   | ((with_reducible show OptK _ _);(simp (disch:=omega) only [if_pos,if_neg]);(try (simp -implicitDefEqProofs [*]))))
  refine z0A (LenI n) n ?_ ?_
  ·exact ⟨0,by simp,by simp,.inl rfl,.inl ⟨rfl,by simp⟩⟩
  ·rintro k s ⟨j,hk,h0,hj,h3⟩;by_cases hm:n / 256^j=0
   ·have hlt:n<256^j:=by
     rcases Nat.div_eq_zero_iff.1 hm with h|h
     ·exact absurd h (by have:=Nat.pow_pos (n:=j) (show 0<256 by decide);omega)
     ·exact h
    rcases h3 with ⟨rfl,h3⟩|⟨hj0,h3,h336⟩
    ·simp at hlt;omega
    ·have hj4:j≤5:=by
      rcases hj with h|h
      ·omega
      ·by_cases h5:6≤j
       ·have:=Nat.pow_le_pow_right (show 1≤256 by decide) (show 5≤j-1 by omega);omega
       ·omega
     have hl:Dr.lenB n=UInt8.ofNat (128+j)::Nt.beN j n:=Dr.zdz (by omega) hj0 (by rcases hj with h|h;omega;exact h) hlt;have hb:IntKind.wrap .u8 (IntKind.wrap .i64 (128+(j:Int)))=((UInt8.ofNat (128+j)).toNat:Int):=by rw [z0f (by omega) (by omega),IntKind.wrap_u8,UInt8.toNat_ofNat'];omega
     have hlen:=Nt.z0o j n;rw [hm] at h0;clear hj hlt hm hk;repeat' (first
      | (first|refine sq_ ?_|refine bk_ ?_)
      | ((first|refine rg_ fun Q hQ=>?_|refine if_ fun Q hQ=>?_|refine ca_ ?_|show EndK _ _ _ _ _ _ _ _);simp -implicitDefEqProofs [*,z08])
      | ((first|refine bs_ ?_ ?_|refine cs_ ?_ ?_)<;>(intro hc;have hb:=hc;(try simp only [hk_,ne_eq] at hc);(try have ⟨hc1,hc2⟩:_∧_:=hc);(try subst_vars))<;>first|contradiction|(exfalso;omega)|(simp -implicitDefEqProofs [*,z08])|skip)
      | ((first|refine aq_ ?_|refine z05 ?_|refine z06 ?_|refine z07 ?_);try simp only [sk_,↓reduceIte,Nat.reduceEqDiff])
      | ((with_reducible show OptK _ _);(simp (disch:=omega) only [if_pos,if_neg]);(try (simp -implicitDefEqProofs [*,z08]))))
     exact by1 _ (by rw [show (128:UInt8)+UInt8.ofNat j=UInt8.ofNat (128+j) from by simp,UInt8.toNat_ofNat'];omega)
   ·have hpos:0<n / 256^j:=Nat.pos_of_ne_zero hm;obtain ⟨k,rfl⟩:∃ k',k=k'+1:=⟨k-1,by omega⟩;have hle:n / 256^j≤n:=Nat.div_le_self _ _;have hdd:n / 256^(j+1)=n / 256^j / 256:=by rw [Nat.pow_succ,Nat.div_div_eq_div_mul]
    have hw:=z17 (k:=n / 256^(j+1)) (by rw [hdd];omega);have hpw:256^j≤n:=by
     by_cases h:256^j≤n
     ·exact h
     ·exact absurd (Nat.div_eq_of_lt (by omega)) hm
    have hfr:=z8j j n;have hmb:=zcA (n / 256^j);have hlen:=Nt.z0o j n;have hq:((n / 256^j:Nat):Int) / 256=((n / 256^(j+1):Nat):Int):=by rw [hdd];omega
    have hk2:n / 256^(j+1)≤k:=by rw [hdd];omega
    have hj30:j≤4:=by
     by_cases h5:5≤j
     ·have:=Nat.pow_le_pow_right (show 1≤256 by decide) h5;omega
     ·omega
    generalize n / 256^j=m at *;generalize hm':n / 256^(j+1)=m' at *;clear hdd;rcases h3 with ⟨rfl,h3⟩|⟨hj0,h3,h336⟩
    ·repeat' (first
      | (first|refine sq_ ?_|refine bk_ ?_)
      | ((first|refine rg_ fun Q hQ=>?_|refine if_ fun Q hQ=>?_|refine ca_ ?_|show EndK _ _ _ _ _ _ _ _);simp -implicitDefEqProofs [*,z08])
      | ((first|refine bs_ ?_ ?_|refine cs_ ?_ ?_)<;>(intro hc;have hb:=hc;(try simp only [hk_,ne_eq] at hc);(try have ⟨hc1,hc2⟩:_∧_:=hc);(try subst_vars))<;>first|contradiction|(exfalso;omega)|(simp -implicitDefEqProofs [*,z08])|skip)
      | ((first|refine aq_ ?_|refine z05 ?_|refine z06 ?_|refine z07 ?_);try simp only [sk_,↓reduceIte,Nat.reduceEqDiff])
      | ((with_reducible show OptK _ _);(simp (disch:=omega) only [if_pos,if_neg]);(try (simp -implicitDefEqProofs [*,z08]))))
     refine ⟨k,by omega,⟨1,by simpa [hm'] using hk2,by simp [hm',hw],.inr (by simpa using hpw),.inr ⟨by omega,?_,by simp⟩⟩⟩;simp [hfr];exact by2 [] (by rw [UInt8.toNat_ofNat'];omega)
    ·repeat' (first
      | (first|refine sq_ ?_|refine bk_ ?_)
      | ((first|refine rg_ fun Q hQ=>?_|refine if_ fun Q hQ=>?_|refine ca_ ?_|show EndK _ _ _ _ _ _ _ _);simp -implicitDefEqProofs [*,z08])
      | ((first|refine bs_ ?_ ?_|refine cs_ ?_ ?_)<;>(intro hc;have hb:=hc;(try simp only [hk_,ne_eq] at hc);(try have ⟨hc1,hc2⟩:_∧_:=hc);(try subst_vars))<;>first|contradiction|(exfalso;omega)|(simp -implicitDefEqProofs [*,z08])|skip)
      | ((first|refine aq_ ?_|refine z05 ?_|refine z06 ?_|refine z07 ?_);try simp only [sk_,↓reduceIte,Nat.reduceEqDiff])
      | ((with_reducible show OptK _ _);(simp (disch:=omega) only [if_pos,if_neg]);(try (simp -implicitDefEqProofs [*,z08]))))
     refine ⟨k,by omega,⟨j+1,by omega,by simp [hm',hw],.inr (by simpa using hpw),.inr ⟨by omega,?_,by simp [hlen,Nat.add_comm]⟩⟩⟩;simp [hfr];exact by2 _ (by rw [UInt8.toNat_ofNat'];omega)
end Am
end Go.Proofs.YtgmppconibklcaaGreatDoor

namespace Go.Proofs.YtgmppconibklcaaGreatDoor
open Go Go.RowKit

namespace Od
theorem zlg (l:List UInt8) (n:Nat):n*10^l.length≤l.foldl (fun n c=>n*10+(c.toNat-48)) n:=by
 induction l generalizing n with
 | nil=>simp
 | cons c l ih=>
  refine Nat.le_trans ?_ (ih _);rw [List.length_cons,Nat.pow_succ,Nat.mul_comm (10^l.length) 10,←Nat.mul_assoc];exact Nat.mul_le_mul_right _ (show n*10≤n*10+(c.toNat-48) by omega)
theorem ziC {l:List UInt8} (h:19<l.length):numL l=none:=by
 unfold numL;split
 ·rfl
 ·rename_i h0;split
  ·rename_i ha;rw [if_neg];match l,h,h0,ha with
   | c::r,h,h0,ha=>
    have hc:48≤c.toNat∧c.toNat≤57:=by
     have:=List.all_eq_true.1 ha c (by simp);simpa [z1s] using this
    have hc2:c.toNat≠48:=fun e=>h0 (.inr ⟨by omega,by simp;exact UInt8.toNat_inj.1 (by rw [e];rfl)⟩)
    have h1:=zlg r (0*10+(c.toNat-48));have h2:1*10^19≤(0*10+(c.toNat-48))*10^r.length:=Nat.mul_le_mul (by omega) (Nat.pow_le_pow_right (by decide) (by simp at h;omega));show ¬val (c::r)<top;have h3:val (c::r)=r.foldl (fun n c=>n*10+(c.toNat-48)) (0*10+(c.toNat-48)):=rfl;have h4:top<1*10^19:=by decide
    omega
  ·rfl
end Od
def zjS (s:ByteArray) (e:Ending):Prop:=(∃ n,Od.numL s.data.toList=some n∧e = .returned (.tuple #[.int .u64 n,.bool true]))∨(Od.numL s.data.toList=none∧∃ v:Int,e = .returned (.tuple #[.int .u64 v,.bool false]))
theorem znl {s:ByteArray} {v:Value} (h:z2k s=v) (hv:v = .tuple #[.int .u64 0,.bool false]):Od.numL s.data.toList=none:=by
 unfold z2k at h;split at h
 ·subst h;simp at hv
 ·assumption
theorem zbP {s:ByteArray} {n:Nat} (h:z2k s = .tuple #[.int .u64 n,.bool true]):Od.numL s.data.toList=some n:=by
 unfold z2k at h;split at h
 ·rename_i m hm;rw [hm];simp at h;rw [Option.some.injEq];omega
 ·simp at h
theorem z90 {s:ByteArray} (h:z2k s = .tuple #[.int .u64 0,.bool false]) (v:Int):zjS s (.returned (.tuple #[.int .u64 v,.bool false])):= .inr ⟨znl h rfl,v,rfl⟩
theorem NInv.over {s:ByteArray} {pos n:Nat} (hI:NInv s pos n) (h:¬pos<s.size) (hb:9223372036854775807<n):Od.numL s.data.toList=none:=by
 refine Od.zeY (k:=pos) ?_;have h1:=hI.hn;have h2:Od.top=9223372036854775808:=rfl;omega
theorem zi9 {p:Prop} (h:p:=by
  go_wp2_with fail
  refine (z0l _ _ _ _ (by omega)).mono ?_;rintro _ w2 ⟨rfl,rfl⟩
  go_wp2_with fail
  go_ret2
  exact ⟨z90 Hf.out 0,rfl⟩):p:=h
theorem z8v (s:ByteArray) (w:World) (hs:s.size≤19) (h0:0<s.size) (hc:(s.size:Int)≤1∨(PlainAid.bt s 0==48)=false):
  Calls Tryz.prog 287 #[.string s] w fun e w'=>zjS s e∧w=w':=by
 have Hfin:Hid (¬(1<s.size∧PlainAid.bt s 0=48)):=by
  rintro ⟨a,b⟩;rcases hc with hc|hc
  ·omega
  ·rw [b] at hc;simp at hc
 have hb:=PlainAid.get_bt s;have hz0:((s.size:Int)==0)=false:=beq_eq_false_iff_ne.2 (by omega);have hz1:(s.size:Int)≤1∨¬(s.size:Int)≤1:=by omega
 rcases hz1 with hz1|hz1;all_goals rcases hc with hc|hc
 all_goals try (exfalso;omega)
 all_goals
  go_enter Tryz.func287,Tryz.ntmps287
  go_wp2_with fail
  clear hb
  go_loop [4,5] (fun t4 t5=>∃ pos n:Nat,t4 = .int .u64 n∧t5 = .int .i64 pos∧pos≤s.size∧Hid (NInv s pos n)) (fun _ t5=>s.size-(intOf t5).toNat)
  case atStart=>exact ⟨0,0,rfl,rfl,Nat.zero_le _,Nat.zero_le _,by simp [Od.val],by simp⟩
  case round=>
   obtain ⟨pos,n,rfl,rfl,hpos,HI⟩:=hrel;have hn10:n<10^pos:=by
    have h1:=Od.ze2 _ HI.out.hd;rw [←HI.out.hn,List.length_take] at h1;exact Nat.lt_of_lt_of_le h1 (Nat.pow_le_pow_right (by decide) (Nat.min_le_left _ _))
   by_cases hlt:pos<s.size
   ·have hn18:(n:Int)<1000000000000000000:=by
     have h1:10^pos≤10^18:=Nat.pow_le_pow_right (by decide) (by omega);omega
    have hlt8:s[pos].toNat<256:=s[pos].toNat_lt;clear hn10;by_cases hlo:s[pos].toNat<48
    ·have Hf:=Lib.hid (NInv.bad hlt (.inl (by omega)));exact zi9
    ·by_cases hhi:57<s[pos].toNat
     ·have Hf:=Lib.hid (NInv.bad hlt (.inr (by omega)));exact zi9
     ·have Hnext:=Lib.hid (HI.out.next hlt (by omega))
      go_wp2_with fail
      refine (z0c _ _ _ _ (by omega)).mono ?_;rintro _ w2 ⟨rfl,rfl⟩
      go_wp2_with fail
      go_roundw
      case rel=>exact ⟨pos+1,n*10+(s[pos].toNat-48),by go_num,by go_num,by omega,Hnext.out⟩
      case measure=>simp [intOf];omega
   ·have hn19:(n:Int)<10000000000000000000:=by
     have h1:10^pos≤10^19:=Nat.pow_le_pow_right (by decide) (by omega);omega
    clear hn10;by_cases hover:9223372036854775808≤(n:Int)
    ·have Hf:=Lib.hid (HI.out.over hlt (by omega));have hov2:¬(n:Int)<9223372036854775808:=by omega
     go_wp2_with fail
     go_ret2
     exact ⟨.inr ⟨Hf.out,_,rfl⟩,rfl⟩
    ·have Hf:=Lib.hid (zbP (HI.out.fin hlt (by omega) (by omega) Hfin.out));have hov2:(n:Int)<9223372036854775808:=by omega
     go_wp2_with fail
     go_ret2
     exact ⟨.inl ⟨n,Hf.out,rfl⟩,rfl⟩
theorem zif {p:Prop} (h:p:=by
  go_enter Tryz.func287,Tryz.ntmps287
  go_wp2_with fail
  go_ret2
  exact ⟨z90 Hf.out 0,rfl⟩):p:=h
theorem z9Y (s:ByteArray) (w:World) (hs:s.size≤1000000):
  Calls Tryz.prog 287 #[.string s] w fun e w'=>zjS s e∧w=w':=by
 by_cases h0:s.size=0
 ·have Hf:=Lib.hid (z6A h0);exact zif
 ·by_cases h19:19<s.size
  ·have Hf:Hid (Od.numL s.data.toList=none):=Od.ziC h19;have hz0:((s.size:Int)==0)=false:=beq_eq_false_iff_ne.2 (by omega);clear h0;go_enter Tryz.func287,Tryz.ntmps287
   go_wp2_with fail
   go_ret2
   exact ⟨.inr ⟨Hf.out,0,rfl⟩,rfl⟩
  ·by_cases hc:(s.size:Int)≤1∨(PlainAid.bt s 0==48)=false
   ·exact z8v s w (by omega) (by omega) hc
   ·have h1:1<s.size:=by omega
    have h48:PlainAid.bt s 0=48:=by
     have:¬(PlainAid.bt s 0==48)=false:=fun h=>hc (.inr h)
     simpa using this
    have Hf:=Lib.hid (z7K h1 h48);have hb:=PlainAid.get_bt s;have h48':(PlainAid.bt s 0==48)=true:=by simpa using h48
    have hz0:((s.size:Int)==0)=false:=beq_eq_false_iff_ne.2 (by omega);clear hc h48 h0;exact zif
end Go.Proofs.YtgmppconibklcaaGreatDoor

namespace Go.Proofs.YtgmppconibklcaaGreatDoor
open Go Go.RowKit

theorem zkQ {w w':World} {base:Nat} {v:Value} {l:List UInt8} (h:w.ownsRow base 5 1 v l.length (Lib.byteCells l)) (hg:w.grownBy w' none):w'.ownsRow base 5 1 v l.length (Lib.byteCells l):=
 h.kept hg (by cases v.ownBlock<;>simp)
theorem z8G {P:Program} {ops:Array Oper} {rest:List Oper} {o:Oper} {a:Act} {Q:Exit→Act→World→Prop} {w1:World} (hgd:o.guard=none) (s x:Operand) (t:TypeId)
  (ho:o.op = .call {callee:= .builtin .append,args:=#[s,x],argTypes:=#[t,t]}) (base:Nat) (i:TypeInfo) (ht:P.underlying t=some (.slice 5)) (hi:P.info? 5=some i) (hz:i.zero=some (.int .u8 0))
  (hsize:i.size=1) (hby:i.bytes=1) (v:Value) (l:List UInt8) (hs:a.eval s=v) (hown:w1.ownsRow base 5 1 v l.length (Lib.byteCells l))
  (vx:Value) (l2:List UInt8) (hx:a.eval x=vx) (hr:∃ B A c,vx = .slice A l2.length c∧Reads w1 B 1 A l2.length (Lib.byteCells l2)) (hl:l.length+l2.length≤100000000) (hbase:base≤w1.heap.size)
  (h:∀ v' w',AppB base w1 w' v v' (l++l2)→wpList P ops Q rest (a.put o.dst v') w'):wpList P ops Q (o::rest) a w1:=by
 obtain ⟨B,A,c,rfl,hr⟩:=hr;refine z0x _ hgd s x t ho base 5 i _ 1 1 ht hi hz hsize hby rfl (by omega) v l.length (Lib.byteCells l) hs hown B A l2.length c (Lib.byteCells l2) hx hr (by intro u hu;obtain ⟨c,_,rfl⟩:=List.mem_map.1 hu;rfl) (by simp only [maxLen];omega) (by omega) hbase (fun v' w' h1 h2 h3=>h v' w' ⟨?_,h2,?_⟩)
 ·rw [Lib.byteCells_append,List.length_append];exact h1
 ·intro g hg;rcases h3 with h3|h3
  ·exact .inl (by rw [←h3];exact hg)
  ·rw [h3] at hg;injection hg with hg;subst hg;exact .inr (Nat.le_refl _)
theorem zne (w:World) (base:Nat) (n:Int) (c:UInt8) (hc:n=(c.toNat:Int)) (hb:base≤w.heap.size):(w.alloc (.cells #[.int .u8 n] 5)).ownsRow base 5 1 (.slice (some ⟨w.heap.size,0,none⟩) 1 1) (List.length [c]) (Lib.byteCells [c]):=by
 subst hc;exact World.ownsRow_lit w #[.int .u8 (c.toNat:Int)] 1 hb (by decide) rfl
theorem zd5 (n:Nat) (w:World) (hn:(n:Int)≤18446744073709551615):
  Calls Tryz.prog 212 #[.int .u64 n] w fun e w'=>∃ v,e = .returned v∧w'.ownsRow w.heap.size 5 1 v (Od.b128 n).length (Lib.byteCells (Od.b128 n))∧Below w.heap.size w w':=by
 obtain ⟨i0,hi0,hz0,hz1,hz2⟩:=info_parts z7W;have hc0:((n%128:Nat):Int)=((UInt8.ofNat (n%128)).toNat:Int):=by rw [UInt8.toNat_ofNat'];omega
 have hown0:=zne w w.heap.size ((n%128:Nat):Int) _ hc0 (Nat.le_refl _);have hbel0:Below w.heap.size w (w.alloc (.cells #[.int .u8 ((n%128:Nat):Int)] 5)):=(Below.refl _ w).alloc (Nat.le_refl _) _;rw [show ((n%128:Nat):Int)=(n:Int)%128 by omega] at hown0 hbel0;have Hown0:=Lib.hid hown0;have Hbel0:=Lib.hid hbel0;clear hown0 hbel0 hc0;have H128:Hid (n / 128<128^10):=by
  have h1:(128:Nat)^10=1180591620717411303424:=by decide
  show _<_;omega
 go_enter Tryz.func212,Tryz.ntmps212
 go_wp2_with fail
 go_loopw [0,3] (fun t0 t3 wr=>∃ (m f:Nat) (out:List UInt8) (v:Value),v=t3∧t0 = .int .u64 m∧(m:Int)≤18446744073709551615∧out.length+f≤11∧Hid (m<128^f∧wr.ownsRow w.heap.size 5 1 v out.length (Lib.byteCells out)∧Below w.heap.size w wr∧Od.b128 n=Od.hiF f m++out)) (fun t0 _ _=>(intOf t0).toNat)
 case atStart=>exact ⟨n / 128,10,[UInt8.ofNat (n%128)],_,rfl,by go_num,by omega,by simp,H128.out,Hown0.out,Hbel0.out,rfl⟩
 case round=>
  obtain ⟨m,f,out,v,rfl,rfl,hm,hof,HA⟩:=hrel;have hz:=HA.out.2.2.1.size;obtain ⟨A,c,rfl,hr⟩:=z0P HA.out.2.1;clear hr;by_cases hm0:0<m
  ·obtain ⟨f',rfl⟩:∃ f',f=f'+1:=⟨f-1,by
    have h1:=HA.out.1;rcases Nat.eq_zero_or_pos f with h0|h0
    ·subst h0;simp at h1;omega
    ·omega⟩
   have hc1:(m:Int)%128+128=((UInt8.ofNat (m%128+128)).toNat:Int):=by rw [UInt8.toNat_ofNat'];omega
   have Hc1:=Lib.hid hc1;clear hc1;have Hfin:Hid (m / 128<128^f'∧Od.b128 n=Od.hiF f' (m / 128)++([UInt8.ofNat (m%128+128)]++out)):=by
    refine ⟨?_,?_⟩
    ·have:=HA.out.1;rw [Nat.pow_succ] at this;omega
    ·rw [HA.out.2.2.2];simp only [Od.hiF];rw [if_neg (by omega)];simp
   go_wp2_with (first
    | (refine z10 rfl (.tmp 15) (.tmp 20) 22 rfl w.heap.size i0 Tryz.underlying22 hi0 hz0 hz1 hz2 _ [] rfl (z7c _ _) _ (UInt8.ofNat (m%128+128)) (Hc1.out) 1 rfl (by simp) hz ?_;intro v2 w2 A2;have Hgr:=Lib.hid A2.grown;have hz2':=A2.grown.size;have HA2:=Lib.hid A2;clear A2)
    | (refine z8G rfl (.tmp 22) (.tmp 23) 22 rfl w.heap.size i0 Tryz.underlying22 hi0 hz0 hz1 hz2 _ _ rfl HA2.out.own _ out rfl (zah (zkQ HA.out.2.1 Hgr.out)) (by simp;omega) (by omega) ?_;intro v3 w3 A3))
   go_roundw
   case rel=>exact ⟨m / 128,f',_,v3,rfl,by go_num,by omega,by simp;omega,Hfin.out.1,A3.own,HA.out.2.2.1.trans (((HA2.out.trans A3).below (z7c _ _) hz).mono (Nat.le_refl _)),Hfin.out.2⟩
   case measure=>simp [intOf];omega
  ·obtain rfl:m=0:=by omega
   have Hfin:Hid (Od.b128 n=out):=by
    show _=_;rw [HA.out.2.2.2];cases f<;>simp [Od.hiF]
   go_wp2_with fail
   go_ret
   exact ⟨_,rfl,by rw [Hfin.out];exact HA.out.2.1,HA.out.2.2.1⟩
end Go.Proofs.YtgmppconibklcaaGreatDoor

namespace Go.Proofs.YtgmppconibklcaaGreatDoor
open Go Go.RowKit

namespace Od
structure NI (L:List UInt8) (i fr:Nat) (ns:List Nat):Prop where
 le:fr≤i
 len:ns.length≤i
 go:i≤L.length→(∃ pre,parts 46 L=pre++parts 46 (L.drop fr)∧z0w pre=some ns)∧∀ b∈(L.drop fr).take (i-fr),b≠46
 fin:L.length<i→z0w (parts 46 L)=some ns
theorem NI.start (L:List UInt8):NI L 0 0 []:=⟨Nat.le_refl _,Nat.le_refl _,fun _=>⟨⟨[],rfl,rfl⟩,by simp⟩,fun h=>by omega⟩
theorem z5w {a b:List (List UInt8)} {ns ms:List Nat} (ha:z0w a=some ns) (hb:z0w b=some ms):z0w (a++b)=some (ns++ms):=by
 induction a generalizing ns with
 | nil=>simp [z0w] at ha;subst ha;exact hb
 | cons p a ih=>
  simp only [List.cons_append,z0w] at ha ⊢;cases hp:numL p with
  | none=>rw [hp] at ha;simp at ha
  | some n=>
   cases hr:z0w a with
   | none=>rw [hp,hr] at ha;simp at ha
   | some r=>
    rw [hp,hr] at ha;simp only [Option.some.injEq] at ha;subst ha;rw [ih hr];rfl
theorem NI.next {L:List UInt8} {i fr:Nat} {ns:List Nat} (h:NI L i fr ns) (hi:i<L.length) (hc:L[i]≠46):NI L (i+1) fr ns:=by
 obtain ⟨h1,h2,h3,h4⟩:=h;obtain ⟨h5,h6⟩:=h3 (by omega);refine ⟨by omega,by omega,fun _=>⟨h5,?_⟩,fun h=>by omega⟩;intro b hb;have e:(L.drop fr).take (i+1-fr)=(L.drop fr).take (i-fr)++[L[i]]:=by
  have hl:i-fr<(L.drop fr).length:=by rw [List.length_drop];omega
  rw [show i+1-fr=(i-fr)+1 by omega,List.take_succ_eq_append_getElem hl,List.getElem_drop];simp only [Nat.add_sub_cancel' h1]
 rw [e] at hb;rcases List.mem_append.1 hb with hb|hb
 ·exact h6 b hb
 ·simp at hb;rw [hb];exact hc
theorem NI.part {L:List UInt8} {i fr:Nat} {ns:List Nat} (h:NI L i fr ns) (hi:i≤L.length) (hc:∀ h:i<L.length,L[i]=46):
  (L.drop fr).take (i-fr)∈parts 46 L∧∀ n,numL ((L.drop fr).take (i-fr))=some n→NI L (i+1) (i+1) (ns++[n]):=by
 obtain ⟨h1,h2,h3,h4⟩:=h;obtain ⟨⟨pre,h5,h5'⟩,h6⟩:=h3 hi;by_cases hlt:i<L.length
 ·have e:L.drop fr=(L.drop fr).take (i-fr)++46::L.drop (i+1):=by
   have h7:L.drop i=46::L.drop (i+1):=by rw [List.drop_eq_getElem_cons hlt,hc hlt]
   rw [←h7];have h8:=(List.take_append_drop (i-fr) (L.drop fr)).symm;rw [List.drop_drop] at h8;rw [show fr+(i-fr)=i by omega] at h8;exact h8
  have hp:parts 46 (L.drop fr)=(L.drop fr).take (i-fr)::parts 46 (L.drop (i+1)):=by
   rw [show parts 46 (L.drop fr)=parts 46 ((L.drop fr).take (i-fr)++46::L.drop (i+1)) from congrArg _ e];exact z7E h6
  refine ⟨by rw [h5,hp];simp,fun n hn=>⟨Nat.le_refl _,by simp;omega,fun _=>⟨⟨pre++[(L.drop fr).take (i-fr)],by rw [h5,hp];simp,z5w h5' (by simp [z0w,hn])⟩,by simp⟩,fun h=>by omega⟩⟩
 ·have he:i=L.length:=by omega
  have e:(L.drop fr).take (i-fr)=L.drop fr:=List.take_of_length_le (by rw [List.length_drop];omega);rw [e] at h6 ⊢;have hp:parts 46 (L.drop fr)=[L.drop fr]:=z63 h6;refine ⟨by rw [h5,hp];simp,fun n hn=>⟨Nat.le_refl _,by simp;omega,fun h=>by omega,fun _=>?_⟩⟩;rw [h5,hp];exact z5w h5' (by simp [z0w,hn])
end Od
theorem z9O {P:Program} {ops:Array Oper} {rest:List Oper} {o:Oper} {a:Act} {Q:Exit→Act→World→Prop} {w1:World} (hgd:o.guard=none) (s x:Operand) (t:TypeId)
  (ho:o.op = .call {callee:= .builtin .append,args:=#[s,x],argTypes:=#[t,t]}) (base:Nat) (i:TypeInfo) (ht:P.underlying t=some (.slice 180)) (hi:P.info? 180=some i) (hz:i.zero=some (.int .u64 0))
  (hsize:i.size=1) (hby:i.bytes=8) (v:Value) (l:List Nat) (hs:a.eval s=v) (hown:w1.ownsRow base 180 1 v l.length (u64s l))
  (n:Int) (c:Nat) (hc:n=(c:Int)) (cap:Nat) (hx:a.eval x = .slice (some ⟨w1.heap.size,0,none⟩) 1 cap) (hl:l.length≤1000000) (hbase:base≤w1.heap.size)
  (h:∀ v' w',w'.ownsRow base 180 1 v' (l++[c]).length (u64s (l++[c]))→Below base w1 w'→wpList P ops Q rest (a.put o.dst v') w'):wpList P ops Q (o::rest) a (w1.alloc (.cells #[.int .u64 n] 180)):=by
 subst hc;have hr:Reads (w1.alloc (.cells #[.int .u64 (c:Int)] 180)) (w1.heap.size+1) 1 (some ⟨w1.heap.size,0,none⟩) 1 [.int .u64 (c:Int)]:=
  ⟨rfl,fun _=>⟨_,rfl,by simp,fun j u hu=>by
   match j,hu with
   | 0,hu=>
    simp at hu;subst hu;have:=(Blk.new w1 180 #[.int .u64 (c:Int)]).cell 0;simp [Addr.add,this]⟩⟩
 refine z0x _ hgd s x t ho base 180 i _ 1 8 ht hi hz hsize hby rfl (by omega) v l.length (u64s l) hs (hown.alloc _) _ _ 1 cap _ hx hr (by intro u hu;simp at hu;subst hu;rfl) (by simp only [maxLen];omega) (by omega) (by simp;omega) (fun v' w' h1 h2 h3=>h v' w' ?_ ?_)
 ·have:u64s (l++[c])=u64s l++[.int .u64 (c:Int)]:=by simp [u64s]
  rw [this,List.length_append];exact h1
 ·exact ((Below.refl base w1).alloc hbase _).grown h2 (by simp;omega) (fun k hk=>(hown.lt k hk).1)
def z4D (s:ByteArray) (w:World) (e:Ending) (w':World):Prop:=
 match Od.z0w (Od.parts 46 s.data.toList) with
 | some ns=>∃ v,e = .returned (.tuple #[v,.bool (Od.z1q ns)])∧w'.ownsRow w.heap.size 180 1 v ns.length (u64s ns)∧Below w.heap.size w w'
 | none=>e = .returned (.tuple #[.slice none 0 0,.bool false])∧Below w.heap.size w w'
theorem zak {s:ByteArray} {w w':World} (h:Od.z0w (Od.parts 46 s.data.toList)=none) (hb:Below w.heap.size w w'):z4D s w (.returned (.tuple #[.slice none 0 0,.bool false])) w':=by
 unfold z4D;rw [h];exact ⟨rfl,hb⟩
theorem z1S {s:ByteArray} {w w':World} {ns:List Nat} {v:Value} {b:Bool} (h:Od.z0w (Od.parts 46 s.data.toList)=some ns) (hb:b=Od.z1q ns) (hr:w'.ownsRow w.heap.size 180 1 v ns.length (u64s ns)) (hbl:Below w.heap.size w w'):z4D s w (.returned (.tuple #[v,.bool b])) w':=by
 unfold z4D;rw [h,hb];exact ⟨v,rfl,hr,hbl⟩
theorem ziu (w:World) (base:Nat):w.ownsRow base 180 1 (.slice none 0 0) (List.length ([]:List Nat)) (u64s []):=World.ownsRow_nil _ _ _ _
theorem zfv (s:ByteArray) (a b:Nat):(s.extract a b).data.toList=(s.data.toList.drop a).take (b-a):=by rw [Lib.extract_data]
theorem zie {p:Prop} (h:p:=by
  clear hdot
  go_wp2_with fail
  refine (z9Y _ _ Hsz.out).mono ?_;rintro _ w2 ⟨hR,rfl⟩;rcases hR with ⟨n,hn,rfl⟩|⟨hn,x,rfl⟩
  ·have Hnext:=Lib.hid (Hpart.out.2 n hn);clear hn
   go_wp2_with (refine z9O rfl (.tmp 36) (.tmp 38) 151 rfl w.heap.size i0 Tryz.underlying151 hi0 hz0 hz1 hz2 _ ns rfl HA.out.1 _ n rfl 1 rfl (by omega) hz ?_;intro v2 w2 hown2 hb2)
   go_roundw
   case rel=>exact ⟨ns++[n],i+1,i+1,v2,rfl,by go_num,by go_num,by omega,by omega,by simp;omega,hown2,HA.out.2.1.trans hb2,Hnext.out⟩
   case measure=>simp [intOf];omega
  ·have Hbad:=Lib.hid (z9f Hpart.out.1 hn);clear hn
   go_wp2_with fail
   go_ret2
   exact zak Hbad.out HA.out.2.1):p:=h
theorem zi8 {p:Prop} (h:p:=by
  have Hok:Hid (false=Od.z1q (a::b::rest)):=by
   have:=Hy.out;have:=Hx.out;show false=_;unfold Od.z1q Od.top;rw [eq_comm,decide_eq_false_iff_not];simp;omega
  clear h2
  go_wp2_with fail
  go_ret2
  exact z1S Hnums.out Hok.out HA.out.1 HA.out.2.1):p:=h
theorem zi6 {p:Prop} (h:p:=by
  have Hok:Hid (true=Od.z1q (a::b::rest)):=by
   have:=Hy.out;have:=Hx.out;show true=_;unfold Od.z1q Od.top;rw [eq_comm,decide_eq_true_eq];simp;omega
  clear h2
  go_wp2_with fail
  go_ret2
  exact z1S Hnums.out Hok.out HA.out.1 HA.out.2.1):p:=h
theorem zd4 (s:ByteArray) (w:World) (hs:s.size≤100000):
  Calls Tryz.prog 211 #[.string s] w (z4D s w):=by
 obtain ⟨i0,hi0,hz0,hz1,hz2⟩:=info_parts zf8;have hL:s.size=s.data.toList.length:=Lib.size_eq s;have HL:=Lib.hid hL;clear hL;go_enter Tryz.func211,Tryz.ntmps211
 go_wp2_with fail
 go_loopw [4,5,6] (fun t4 t5 t6 wr=>∃ (ns:List Nat) (fr i:Nat) (v:Value),v=t4∧t5 = .int .i64 fr∧t6 = .int .i64 i∧fr≤i∧i≤s.size+1∧ns.length≤i∧Hid (wr.ownsRow w.heap.size 180 1 v ns.length (u64s ns)∧Below w.heap.size w wr∧Od.NI s.data.toList i fr ns)) (fun _ _ t6 _=>s.size+1-(intOf t6).toNat)
 case atStart=>exact ⟨[],0,0,_,rfl,rfl,rfl,Nat.le_refl _,Nat.zero_le _,Nat.le_refl _,ziu _ _,Below.refl _ _,Od.NI.start _⟩
 case round=>
  obtain ⟨ns,fr,i,v,rfl,rfl,rfl,hfr,hi,hnl,HA⟩:=hrel;have hz:=HA.out.2.1.size;by_cases hin:i≤s.size
  ·by_cases hdot:∃ h:i<s.size,s[i].toNat≠46
   ·obtain ⟨hlt,hne⟩:=hdot;have hne2:((s[i].toNat:Int)==46)=false:=by rw [beq_eq_false_iff_ne];omega
    have Hnext:Hid (Od.NI s.data.toList (i+1) fr ns):=HA.out.2.2.next (by rw [←HL.out];exact hlt) (by rw [z52 s i hlt];intro e;rw [e] at hne;exact hne rfl);clear hne
    go_wp2_with fail
    go_roundw
    case rel=>exact ⟨ns,fr,i+1,_,rfl,rfl,by go_num,by omega,by omega,by omega,HA.out.1,HA.out.2.1,Hnext.out⟩
    case measure=>simp [intOf];omega
   ·have hpart:=HA.out.2.2.part (by rw [←HL.out];exact hin) (fun h=>by
     have h':i<s.size:=by rw [HL.out];exact h
     rw [z52 s i h'];have:s[i].toNat=46:=by
      rcases Nat.decEq s[i].toNat 46 with h2|h2
      ·exact absurd ⟨h',h2⟩ hdot
      ·exact h2
     exact UInt8.toNat_inj.1 (by rw [this];rfl))
    rw [←zfv] at hpart;have Hpart:=Lib.hid hpart;clear hpart;have hsz:(s.extract fr i).size≤1000000:=by
     rw [Lib.size_eq,zfv,List.length_take,List.length_drop,←HL.out];omega
    have Hsz:=Lib.hid hsz;clear hsz;by_cases hlt:i<s.size
    ·have hne2:((s[i].toNat:Int)==46)=true:=by
      rw [beq_iff_eq];rcases Nat.decEq s[i].toNat 46 with h2|h2
      ·exact absurd ⟨hlt,h2⟩ hdot
      ·omega
     exact zie
    ·exact zie
  ·have hnums:=HA.out.2.2.fin (by rw [←HL.out];omega);have Hnums:=Lib.hid hnums;clear hnums;obtain ⟨A,c,hv,hr⟩:=z0P HA.out.1;match ns,hv,hr,hnl,HA,Hnums with
   | [],hv,hr,hnl,HA,Hnums=>
    subst hv;clear hr;simp only [List.length_nil]
    go_wp2_with fail
    go_ret2
    exact z1S Hnums.out (by decide) HA.out.1 HA.out.2.1
   | [a],hv,hr,hnl,HA,Hnums=>
    subst hv;clear hr;simp only [List.length_singleton]
    go_wp2_with fail
    go_ret2
    exact z1S Hnums.out (by simp [Od.z1q]) HA.out.1 HA.out.2.1
   | a::b::rest,hv,hr,hnl,HA,Hnums=>
    obtain ⟨ad,rfl,_,hcl⟩:=hr.2 (by simp);have c0:wr.cell? ad=some (.int .u64 (a:Int)):=by have h0:=hcl 0 (.int .u64 (a:Int)) rfl;rwa [show ad.add 0=ad by simp [Addr.add]] at h0
    have c1:wr.cell? (⟨ad.block,ad.off+1,none⟩:Addr)=some (.int .u64 (b:Int)):=hcl 1 _ rfl;subst hv;clear hcl hr;have hrl:rest.length≤100001:=by simp at hnl;omega
    clear hnl;simp only [List.length_cons];obtain ⟨y,hy⟩:∃ y:Int,y=(a:Int):=⟨_,rfl⟩;obtain ⟨x,hx⟩:∃ x:Int,x=(b:Int):=⟨_,rfl⟩;rw [←hy] at c0;rw [←hx] at c1;have hy0:0≤y:=by omega
    have hx0:0≤x:=by omega
    have Hy:=Lib.hid hy;have Hx:=Lib.hid hx;clear hy hx;by_cases h3:y≤2
    ·by_cases h2:y=2
     ·have e1:(y==2)=true:=by rw [beq_iff_eq];exact h2
      have h4:¬y<2:=by omega
      by_cases hb:x<9223372036854775728
      ·exact zi6
      ·exact zi8
     ·have e1:(y==2)=false:=by rw [beq_eq_false_iff_ne];exact h2
      have h4:y<2:=by omega
      by_cases hb:x<40
      ·exact zi6
      ·exact zi8
    ·have Hok:Hid (false=Od.z1q (a::b::rest)):=by
      have:=Hy.out;have:=Hx.out;show false=_;unfold Od.z1q Od.top;rw [eq_comm,decide_eq_false_iff_not];simp;omega
     go_wp2_with fail
     go_ret2
     exact z1S Hnums.out Hok.out HA.out.1 HA.out.2.1
end Go.Proofs.YtgmppconibklcaaGreatDoor

