/- Part of the proof. No condition. -/
import Derived.Test.YtgmppconibklcaaGreatDoorM30
import Derived.Test.YtgmppconibklcaaGreatDoorM35
import Derived.Test.YtgmppconibklcaaGreatDoorM28
set_option maxHeartbeats 40000000
set_option maxRecDepth 100000
set_option linter.unusedVariables false
set_option linter.unusedSimpArgs false
namespace Go.Proofs.YtgmppconibklcaaGreatDoor
open Go Go.RowKit
namespace Am
variable {gl:Nat→Option (List D)}
def z3C (n:Int):Bool:=n==0||n==2||n==5||n==14||n==15||n==16||n==25
theorem zbt (n:Int):OK gl 58 [iX n] (.b (z3C n)):=by
 refine z0d Tryz.func58 rfl (by show 1≤_;decide) ?_;unfold Tryz.f58;dsimp only;have z0:=@z3C.eq_def;exact am_
theorem z1g {n:Int} (h:z3C n=true):n=0∨n=2∨n=5∨n=14∨n=15∨n=16∨n=25:=by
 unfold z3C at h;simp only [Bool.or_eq_true,beq_iff_eq] at h;omega
abbrev rspX (s f:Int) (k:List UInt8):E:= .agg [.d (.leaf (.int .i64 s)),.d (.leaf (.int .i64 f)),.d (z04 k)]
@[simp] theorem size_mk' (l:List UInt8):(⟨l.toArray⟩:ByteArray).size=l.length:=by simp [ByteArray.size]
def z1Q (f:Int):List UInt8:=
 if f=0 then [7,128] else if f=2 then [5,32] else if f=5 then [2,4] else if f=14 then [1,0,2] else if f=15 then [0,0,1] else if f=16 then [7,0,0,128] else [6,0,0,0,64]
def rejN (f:Int):Nd:=Dr.seq [Dr.seq [Dr.intN 2,Dr.prim 3 (z1Q f)]]
def rejB (f:Int):List UInt8:=if z3C f=true then (Dr.write (rejN f)).1 else []
theorem bEqual (a b:List UInt8):OK gl 120 [rX (z04 a),rX (z04 b)] (.b (a==b)):=by
 refine z0d Tryz.func120 rfl (by show 2≤_;decide) ?_;unfold Tryz.f120;dsimp only;exact am_
theorem zj7 {n:Nd} (h1:decide (Dr.wt n≤9000000)=true) (h2:decide (Dr.mx n≤40000)=true):Fine n:=⟨of_decide_eq_true h1,of_decide_eq_true h2⟩
theorem int2:Dr.intOf (Dr.intN 2)=some 2:=Dr.z9r (by decide) (by decide)
theorem fine2:Fine (Dr.intN 2):=zj7 (by decide +kernel) (by decide +kernel)
def zhT (f:Int):List D:=
 if f=0 then [.leaf (.int .u8 7),.leaf (.int .u8 128)] else if f=2 then [.leaf (.int .u8 5),.leaf (.int .u8 32)] else if f=5 then [.leaf (.int .u8 2),.leaf (.int .u8 4)] else if f=14 then [.leaf (.int .u8 1),.leaf (.int .u8 0),.leaf (.int .u8 2)] else if f=15 then [.leaf (.int .u8 0),.leaf (.int .u8 0),.leaf (.int .u8 1)] else if f=16 then [.leaf (.int .u8 7),.leaf (.int .u8 0),.leaf (.int .u8 0),.leaf (.int .u8 128)] else [.leaf (.int .u8 6),.leaf (.int .u8 0),.leaf (.int .u8 0),.leaf (.int .u8 0),.leaf (.int .u8 64)]
theorem rejW {f:Int} (h:z3C f=true):(Dr.write (rejN f)).2=0:=by
 rcases z1g h with rfl|rfl|rfl|rfl|rfl|rfl|rfl<;>decide +kernel
theorem rejBe {f:Int} (h:z3C f=true):(Dr.write (rejN f)).1=rejB f:=by
 unfold rejB;rw [if_pos h]
theorem rejF {f:Int} (h:z3C f=true):Fine (rejN f):=by
 rcases z1g h with rfl|rfl|rfl|rfl|rfl|rfl|rfl<;>exact zj7 (by decide +kernel) (by decide +kernel)
theorem rejP {f:Int} (h:z3C f=true):OK gl 34 [iX 3,.one (.d (.row 1 (zhT f)))] (.e (nX (Dr.prim 3 (z1Q f)))):=by
 have e:D.row 1 (zhT f)=z04 (z1Q f):=by
  rcases z1g h with rfl|rfl|rfl|rfl|rfl|rfl|rfl<;>rfl
 rw [e];exact dPrim 3 (z1Q f) (by rcases z1g h with rfl|rfl|rfl|rfl|rfl|rfl|rfl<;>decide)
theorem z45 {f:Int} (h:z3C f=true):OK gl 16 [rspX 2 f []] (.tup [rX (z04 (rejB f)),iX 0]):=by
 have c1:=zbt (gl:=gl) f;rw [h] at c1;have c2:=dInt (gl:=gl) 2 (by decide) (by decide);have c3:=rejP (gl:=gl) h;have c4:=zaL (gl:=gl) (rejN f) (rejF h);rw [rejW h,rejBe h] at c4;have s1:=zmz (gl:=gl) (Dr.intN 2) [Dr.prim 3 (z1Q f)] (by rcases z1g h with rfl|rfl|rfl|rfl|rfl|rfl|rfl<;>decide +kernel);have s2:=zmz (gl:=gl) (Dr.seq [Dr.intN 2,Dr.prim 3 (z1Q f)]) [] (by rcases z1g h with rfl|rfl|rfl|rfl|rfl|rfl|rfl<;>decide +kernel);rcases z1g h with rfl|rfl|rfl|rfl|rfl|rfl|rfl;all_goals
  clear h;simp only [z1Q,zhT,Int.reduceEq,↓reduceIte] at c3 s1 s2;refine z0d Tryz.func16 rfl (by show 1≤_;decide) ?_;unfold Tryz.f16;dsimp only;repeat' (first
   | (first|refine sq_ ?_|refine bk_ ?_)
   | ((first|refine rg_ fun Q hQ=>?_|refine if_ fun Q hQ=>?_|refine dr_ (id:=7) [4] [64,257,337] (by kernel_rfl) fun Q hQ=>?_|refine ca_ ?_|refine ce_ ?_ ?_|refine ct_ (c4 _ _ _ _ _ rfl) ?_|refine cd_ (c4 _ _ _ _ _ rfl) ?_ ?_|show EndK _ _ _ _ _ _ _ _);simp -implicitDefEqProofs [*,z08])
   | ((first|refine bs_ ?_ ?_|refine cs_ ?_ ?_)<;>(intro hc;have hb:=hc;(try simp only [hk_,ne_eq] at hc);(try have ⟨hc1,hc2⟩:_∧_:=hc);(try subst_vars))<;>first|contradiction|(exfalso;omega)|(simp -implicitDefEqProofs [*,z08])|skip)
   | ((first|refine aq_ ?_|refine z05 ?_|refine z06 ?_|refine z07 ?_);try simp only [sk_,↓reduceIte,Nat.reduceEqDiff])
   | (first|exact z0h|refine cn_ (by decide) ?_|refine cc_ (by intro e1 e2 e3;simp_all) ?_|refine And.intro (by decide +kernel) ?_)
   | ((with_reducible show OptK _ _);(simp (disch:=omega) only [if_pos,if_neg]);(try (simp -implicitDefEqProofs [*,z08]))))
theorem zhM {f:Int} (h:z3C f=true):OK gl 65 [nX (rejN f)] (.tup [rspX 2 f [],bX true]):=by
 have c1:=zmi (gl:=gl) (Dr.intN 2) fine2;rw [int2] at c1;have c2:=z45 (gl:=gl) h;have c4:=zaL (gl:=gl) (rejN f) (rejF h);rw [rejW h,rejBe h] at c4;have cE:=bEqual (gl:=gl) (rejB f) (rejB f);simp only [beq_self_eq_true] at cE;have q1:sq (.mk 0 16 true [] [.mk 0 16 true [] [Dr.intN 2,.mk 0 3 false (z1Q f) []]]) 1 2=true:=rfl;have q2:sq (.mk 0 16 true [] [Dr.intN 2,.mk 0 3 false (z1Q f) []]) 1 2=true:=rfl;have s1:=z5B (gl:=gl) (.mk 0 16 true [] [.mk 0 16 true [] [Dr.intN 2,.mk 0 3 false (z1Q f) []]]) 1 2;have s2:=z5B (gl:=gl) (.mk 0 16 true [] [Dr.intN 2,.mk 0 3 false (z1Q f) []]) 1 2;have s3:=zgC (gl:=gl) (.mk 0 3 false (z1Q f) []) 3;rw [q1] at s1;rw [q2] at s2;rw [show rejN f = .mk 0 16 true [] [.mk 0 16 true [] [Dr.intN 2,.mk 0 3 false (z1Q f) []]] from rfl] at c4 ⊢;generalize rejB f=rb at *;rcases z1g h with rfl|rfl|rfl|rfl|rfl|rfl|rfl;all_goals
  clear h q1 q2;simp only [z1Q,Int.reduceEq,↓reduceIte] at c4 s1 s2 s3 ⊢;refine z0d Tryz.func65 rfl (by show 1≤_;decide) ?_;unfold Tryz.f65;dsimp only;repeat' (first
   | (first|refine sq_ ?_|refine bk_ ?_)
   | ((first|refine rg_ fun Q hQ=>?_|refine if_ fun Q hQ=>?_|refine dr_ (id:=11) [1,2,5,6,7] [16,32,96,112,209,321,513,737,1041] (by kernel_rfl) fun Q hQ=>?_|refine dr_ (id:=14) [2,5,6,8,9,10,11] [32,96,209,321,513,737,1041,1521,1601] (by kernel_rfl) fun Q hQ=>?_|refine ca_ ?_|refine ce_ ?_ ?_|refine ct_ (c4 _ _ _ _ _ rfl) ?_|refine cd_ (c4 _ _ _ _ _ rfl) ?_ ?_|show EndK _ _ _ _ _ _ _ _);simp -implicitDefEqProofs [*])
   | ((first|refine bs_ ?_ ?_|refine cs_ ?_ ?_)<;>(intro hc;have hb:=hc;(try simp only [hk_,ne_eq] at hc);(try have ⟨hc1,hc2⟩:_∧_:=hc);(try subst_vars))<;>first|contradiction|(exfalso;omega)|(simp -implicitDefEqProofs [*])|skip)
   | ((first|refine aq_ ?_|refine z05 ?_|refine z06 ?_|refine z07 ?_);try simp only [sk_,↓reduceIte,Nat.reduceEqDiff])
   | (first|exact z0h|refine cn_ (by decide) ?_|refine cc_ (by intro e1 e2 e3;simp_all) ?_|refine And.intro (by decide +kernel) ?_)
   | ((with_reducible show OptK _ _);(simp (disch:=omega) only [if_pos,if_neg]);(try (simp -implicitDefEqProofs [*]))))
  all_goals decide
end Am
end Go.Proofs.YtgmppconibklcaaGreatDoor

