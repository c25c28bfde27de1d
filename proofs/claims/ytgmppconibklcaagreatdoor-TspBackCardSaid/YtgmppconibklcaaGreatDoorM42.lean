/- Part of the proof of TspBack. No condition: lemmas alone. -/
import Derived.Test.YtgmppconibklcaaGreatDoorM40
import Derived.Test.YtgmppconibklcaaGreatDoorM41
import Derived.KernelRfl
import Derived.Test.YtgmppconibklcaaGreatDoorM34
set_option linter.unusedVariables false
set_option linter.unusedSimpArgs false
set_option maxRecDepth 100000
namespace Go.Proofs.YtgmppconibklcaaGreatDoor
open Go Go.RowKit
namespace Am
variable {gl:Nat→Option (List D)}
def z32:List UInt8:=List.replicate 32 0
def q0:Rq.Req:=⟨alg256,z32,[],false,0,false,[]⟩
def c0:List UInt8:=(Dr.put (Rq.node q0)).getD []
theorem zdN:Rq.z0q q0=true:=by decide +kernel
theorem c0_len:c0.length=54:=by decide +kernel
theorem b5_is:rejB 5=[48,9,48,7,2,1,2,3,2,2,4]:=by decide +kernel
theorem zgQ {q:Rq.Req} (h:Rq.z0q q=true) (hz:Rq.z2z q≤6000):(Dr.put (Rq.node q)).isSome=true∧((Dr.put (Rq.node q)).getD []).length≤15000∧z5U ((Dr.put (Rq.node q)).getD []) = .tup [reqX q,iX 0]:=by
 obtain ⟨o,ho,hw,hl⟩:=Rq.z8V h (by omega);have hd:Dr.deep (Rq.node q)≤32:=by
  have:(Dr.write (Rq.node q)).2=0:=by rw [hw]
  unfold Dr.write at this;rw [ho] at this;simp only at this;split at this
  ·cases this
  ·omega
 have hr:Dr.read o=some (Rq.node q):=(Dr.z4u o _).2 ⟨ho,hd,by omega⟩;refine ⟨by rw [ho];rfl,by rw [ho];simp only [Option.getD_some];omega,?_⟩;rw [ho];simp only [Option.getD_some];unfold z5U;rw [hr];simp only [Option.bind_some,Rq.zfl h]
abbrev A256:ByteArray:=⟨#[50,46,49,54,46,56,52,48,46,49,46,49,48,49,46,51,46,52,46,50,46,49]⟩
abbrev req0:E:= .agg [.d (.leaf (.string A256)),.d (z05 z32),.d (.leaf (.string ⟨#[]⟩)),.d (.leaf (.bool false)),.d (z05 []),.d (.leaf (.bool false)),.d (exR [])]
structure KnS (s:SF):Prop where
 e1:s.env 1=some (.e (rX (z05 [48,9,48,7,2,1,2,3,2,2,4])))
 e2:s.env 2=some (.e (iX 0))
 e3:s.env 3=some (.e (.one (.ref 48 0)))
 h48:s.heap 48=some (.var 27 [.d (.leaf (.string A256)),.sl 240 32 1,.d (.leaf (.string ⟨#[]⟩)),.d (.leaf (.bool false)),.nilS,.d (.leaf (.bool false)),.nilS])
 h240:∃ cs,s.heap 240=some (.var 5 cs)∧dsOf cs=some (byL z32)
set_option maxHeartbeats 40000000 in
theorem zec:OK gl 7 [] (.b true):=by
 have cB:=z4a (gl:=gl) (f:=5) rfl;obtain ⟨f1,f2,f3⟩:=zgQ zdN (by decide +kernel);have cW0:=z7a (gl:=gl) q0 [] (Rq.z7L (by decide +kernel)) Nt.Lb.nil rfl (by decide);rw [zdN] at cW0;have cP0:=z3K (gl:=gl) c0 f2;have cP1:z5U c0 = .tup [reqX q0,iX 0]:=f3;rw [cP1] at cP0;have cW:OK gl 8 [req0] (.tup [rX (z05 c0),iX 0]):=cW0;have hl0:Nt.lim 0=[]:=Nt.z2e;have cP:OK gl 10 [rX (z05 c0)] (.tup [req0,iX 0]):=by
  have:reqX q0=req0:=by
   show E.agg [_,_,_,_,.d (limD (Nt.lim 0)),_,_]=_;rw [hl0];rfl
  rw [←this];exact cP0
 have cA0:=zdT (gl:=gl) 5 rfl;rw [b5_is] at cB cA0;have cA:∀ (d d1 d2:D),OK gl 26 [req0,rX (z05 [48,9,48,7,2,1,2,3,2,2,4]),rX d,.agg [.d d1,.d d2],iX 0] (.tup [z1k,iX 90]):=fun d d1 d2=>zim q0 [] d d1 d2 _ 5 cA0
 have hz:z32.length=32:=by decide
 have cF:=zlS (gl:=gl) z32 (.leaf (.string ⟨#[]⟩)) (.leaf (.bool false)) (z05 []) (.leaf (.bool false)) (exR []) hz;have hc:=c0_len;clear f1 f2 f3 cW0 cP0 cP1 cA0 hl0;refine z0k Tryz.func7 rfl (by show 0≤_;decide) ?_;unfold Tryz.f7;dsimp only;repeat' (first
  | ((first|refine z0N (y:= .region 3 _ _) (KnS) ?_ ?_|refine z0N (y:= .seq (.region 3 _ _) _) (KnS) ?_ ?_;intro Q hQ))
  | (first|refine sq_ ?_|refine bk_ ?_)
  | ((first|refine rg_ fun Q hQ=>?_|refine if_ fun Q hQ=>?_|refine ct_ (by first|with_reducible assumption|assumption) ?_);simp -implicitDefEqProofs [*,z1k])
  | ((first|refine bs_ ?_ ?_|refine cs_ ?_ ?_)<;>(intro hc;have hb:=hc;(try simp only [hk_,ne_eq] at hc);(try have ⟨hc1,hc2⟩:_∧_:=hc);(try subst_vars))<;>first|contradiction|(exfalso;omega)|(simp -implicitDefEqProofs [*,z1k])|skip)
  | ((first|(refine atQ hQ ?_;clear hQ)|refine atQ (by assumption) ?_|refine z04 ?_|refine z06 ?_|refine z07 ?_);try simp only [sk_,if_true,if_false,↓reduceIte,Nat.reduceEqDiff])
  | (show EndK _ _ _ _ _ _ _ _;simp -implicitDefEqProofs [*,z1k])
  | ((simp (disch:=omega) only [if_pos,if_neg]);(try (simp -implicitDefEqProofs [*,z1k]))))
 ·exact ⟨by simp,by simp,by simp,by simp,_,by simp;rfl,by kernel_rfl⟩
 ·rintro s' ⟨e1,e2,e3,h48,cs,h240,hds⟩;refine zeT 240 ?_;have hrow:D.row 1 (byL z32)=z05 z32:=rfl;have hbl:(byL z32).length=32:=by decide
  repeat' (first
   | (first|refine sq_ ?_|refine bk_ ?_)
   | ((first|refine rg_ fun Q hQ=>?_|refine if_ fun Q hQ=>?_|refine ct_ (by first|with_reducible assumption|assumption) ?_|refine ct_ (cA _ _ _) ?_);simp -implicitDefEqProofs [*,z1k,setC])
   | ((first|refine bs_ ?_ ?_|refine cs_ ?_ ?_)<;>(intro hc;have hb:=hc;(try simp only [hk_,ne_eq] at hc);(try have ⟨hc1,hc2⟩:_∧_:=hc);(try subst_vars))<;>first|contradiction|(exfalso;omega)|(simp -implicitDefEqProofs [*,z1k,setC])|skip)
   | ((first|(refine atQ hQ ?_;clear hQ)|refine atQ (by assumption) ?_|refine z04 ?_|refine z06 ?_|refine z07 ?_);try simp only [sk_,if_true,if_false,↓reduceIte,Nat.reduceEqDiff])
   | (show EndK _ _ _ _ _ _ _ _;simp -implicitDefEqProofs [*,z1k,setC])
   | ((simp (disch:=omega) only [if_pos,if_neg]);(try (simp -implicitDefEqProofs [*,z1k,setC]))))
end Am
end Go.Proofs.YtgmppconibklcaaGreatDoor

namespace Go.Proofs.YtgmppconibklcaaGreatDoor
open Go Go.RowKit
namespace Am
variable {gl:Nat→Option (List D)}
structure BkS (q:Rq.Req) (ls:List Nat) (i:Rq.Info) (sl nl:List Nat) (fail:Int) (b:List UInt8) (s:SF):Prop where
 e2:s.env 2=some (.e (iX fail))
 e3:s.env 3=some (.e (rX (z05 b)))
 e4:s.env 4=some (.e (.one (.ref 64 0)))
 e5:s.env 5=some (.e (.one (.ref 80 0)))
 h64:s.heap 64=some (.var 27 [.d (.leaf (.string ⟨q.alg.toArray⟩)),.d (z05 q.impr),.d (.leaf (.string ⟨q.policy.toArray⟩)),.d (.leaf (.bool q.has)),.d (nuR .u32 ls),.d (.leaf (.bool q.cert)),.d (exR q.exts)])
 h80:s.heap 80=some (.var 46 [.d (.leaf (.string ⟨i.policy.toArray⟩)),.d (.leaf (.string ⟨i.alg.toArray⟩)),.d (z05 i.impr),.d (nuR .u32 sl),.d (.leaf (.int .i64 i.time)),.d (.leaf (.int .i64 i.micros)),.d (.leaf (.int .i64 i.secs)),.d (.leaf (.int .i64 i.millis)),.d (.leaf (.bool i.has)),.d (nuR .u32 nl)])
set_option maxHeartbeats 40000000 in
theorem z83 (q:Rq.Req) (ls:List Nat) (i:Rq.Info) (sl nl:List Nat) (fail:Int) (b:List UInt8) (lo wo:Bool) (cL:OK gl 6 [reqY q ls] (.b lo)) (cW:OK gl 21 [infX i sl nl] (.b wo)) (h:lo=true∨(lo=false∧wo=true)∨(lo=false∧wo=false∧4000<b.length)):
  OK gl 5 [reqY q ls,infX i sl nl,iX fail,rX (z05 b)] (.b true):=by
 have cK:=zec (gl:=gl);rcases h with rfl|⟨rfl,rfl⟩|⟨rfl,rfl,h⟩
 ·refine z0k Tryz.func5 rfl (by show 4≤_;decide) ?_;unfold Tryz.f5;dsimp only;repeat' (first
   | (first|refine sq_ ?_|refine bk_ ?_)
   | ((first|refine rg_ fun Q hQ=>?_|refine if_ fun Q hQ=>?_|refine ct_ (by first|with_reducible assumption|assumption) ?_);simp -implicitDefEqProofs [*])
   | ((first|refine bs_ ?_ ?_|refine cs_ ?_ ?_)<;>(intro hc;have hb:=hc;(try simp only [hk_,ne_eq] at hc);(try have ⟨hc1,hc2⟩:_∧_:=hc);(try subst_vars))<;>first|contradiction|(exfalso;omega)|(simp -implicitDefEqProofs [*])|skip)
   | ((first|(refine atQ hQ ?_;clear hQ)|refine atQ (by assumption) ?_|refine z04 ?_|refine z06 ?_|refine z07 ?_);try simp only [sk_,if_true,if_false,↓reduceIte,Nat.reduceEqDiff])
   | (show EndK _ _ _ _ _ _ _ _;simp -implicitDefEqProofs [*])
   | ((simp (disch:=omega) only [if_pos,if_neg]);(try (simp -implicitDefEqProofs [*]))))
 ·refine z0k Tryz.func5 rfl (by show 4≤_;decide) ?_;unfold Tryz.f5;dsimp only;repeat' (first
   | (first|refine sq_ ?_|refine bk_ ?_)
   | ((first|refine rg_ fun Q hQ=>?_|refine if_ fun Q hQ=>?_|refine ct_ (by first|with_reducible assumption|assumption) ?_);simp -implicitDefEqProofs [*])
   | ((first|refine bs_ ?_ ?_|refine cs_ ?_ ?_)<;>(intro hc;have hb:=hc;(try simp only [hk_,ne_eq] at hc);(try have ⟨hc1,hc2⟩:_∧_:=hc);(try subst_vars))<;>first|contradiction|(exfalso;omega)|(simp -implicitDefEqProofs [*])|skip)
   | ((first|(refine atQ hQ ?_;clear hQ)|refine atQ (by assumption) ?_|refine z04 ?_|refine z06 ?_|refine z07 ?_);try simp only [sk_,if_true,if_false,↓reduceIte,Nat.reduceEqDiff])
   | (show EndK _ _ _ _ _ _ _ _;simp -implicitDefEqProofs [*])
   | ((simp (disch:=omega) only [if_pos,if_neg]);(try (simp -implicitDefEqProofs [*]))))
 ·refine z0k Tryz.func5 rfl (by show 4≤_;decide) ?_;unfold Tryz.f5;dsimp only;repeat' (first
   | (first|refine sq_ ?_|refine bk_ ?_)
   | ((first|refine rg_ fun Q hQ=>?_|refine if_ fun Q hQ=>?_|refine ct_ (by first|with_reducible assumption|assumption) ?_);simp -implicitDefEqProofs [*])
   | ((first|refine bs_ ?_ ?_|refine cs_ ?_ ?_)<;>(intro hc;have hb:=hc;(try simp only [hk_,ne_eq] at hc);(try have ⟨hc1,hc2⟩:_∧_:=hc);(try subst_vars))<;>first|contradiction|(exfalso;omega)|(simp -implicitDefEqProofs [*])|skip)
   | ((first|(refine atQ hQ ?_;clear hQ)|refine atQ (by assumption) ?_|refine z04 ?_|refine z06 ?_|refine z07 ?_);try simp only [sk_,if_true,if_false,↓reduceIte,Nat.reduceEqDiff])
   | (show EndK _ _ _ _ _ _ _ _;simp -implicitDefEqProofs [*])
   | ((simp (disch:=omega) only [if_pos,if_neg]);(try (simp -implicitDefEqProofs [*]))))
set_option maxHeartbeats 40000000 in
theorem zm3 (q:Rq.Req) (ls:List Nat) (i:Rq.Info) (sl nl:List Nat) (fail:Int) (b:List UInt8) (cL:OK gl 6 [reqY q ls] (.b false)) (cW:OK gl 21 [infX i sl nl] (.b false)) (hb:b.length≤4000)
  (x:List UInt8) (e f:Int) (q1:Rq.Req) (ls1:List Nat) (r:Bool) (a1:OK gl 8 [reqY q ls] (.tup [rX (z05 x),iX e])) (a2:OK gl 10 [rX (z05 x)] (.tup [reqY q1 ls1,iX f])) (a3:OK gl 13 [reqY q1 ls1,reqY q ls] (.b r)) (hA:e=0→f=0∧r=true)
  (y:List UInt8) (g k:Int) (i1:Rq.Info) (sl1 nl1:List Nat) (r1:Bool) (b1:OK gl 22 [infX i sl nl] (.tup [rX (z05 y),iX g])) (b2:OK gl 23 [rX (z05 y)] (.tup [infX i1 sl1 nl1,iX k])) (b3:OK gl 24 [infX i sl nl,infX i1 sl1 nl1] (.b r1)) (hB:g=0→k=0∧r1=true)
  (z:List UInt8) (o u:Int) (s1 f1:Int) (k1:List UInt8) (r2:Bool) (c1:OK gl 16 [rspX 2 fail []] (.tup [rX (z05 z),iX o])) (c2:OK gl 18 [rX (z05 z)] (.tup [rspX s1 f1 k1,iX u])) (c3:OK gl 20 [rspX s1 f1 k1,rspX 2 fail []] (.b r2)) (hC:o=0→u=0∧r2=true)
  (m n:Int) (q2:Rq.Req) (ls2:List Nat) (w:List UInt8) (r3:Bool) (d1:OK gl 10 [rX (z05 b)] (.tup [reqY q2 ls2,iX m])) (d2:m=0→OK gl 8 [reqY q2 ls2] (.tup [rX (z05 b),iX 0]))
  (m':Int) (i2:Rq.Info) (sl2 nl2:List Nat) (e1:OK gl 23 [rX (z05 b)] (.tup [infX i2 sl2 nl2,iX m'])) (e2:m'=0→OK gl 22 [infX i2 sl2 nl2] (.tup [rX (z05 b),iX 0])):
  OK gl 5 [reqY q ls,infX i sl nl,iX fail,rX (z05 b)] (.b true):=by
 have cK:=zec (gl:=gl);have cS:=zfo (gl:=gl) b b;simp only [beq_self_eq_true] at cS;refine z0k Tryz.func5 rfl (by show 4≤_;decide) ?_;unfold Tryz.f5;dsimp only;repeat' (first
  | ((first|refine z0N (y:= .region 7 _ _) (BkS q ls i sl nl fail b) ?_ ?_|refine z0N (y:= .seq (.region 7 _ _) _) (BkS q ls i sl nl fail b) ?_ ?_;intro Q hQ))
  | (first|refine sq_ ?_|refine bk_ ?_)
  | ((first|refine rg_ fun Q hQ=>?_|refine if_ fun Q hQ=>?_|refine ct_ (by first|with_reducible assumption|assumption) ?_);simp -implicitDefEqProofs [*])
  | ((first|refine bs_ ?_ ?_|refine cs_ ?_ ?_)<;>(intro hc;have hb:=hc;(try simp only [hk_,ne_eq] at hc);(try have ⟨hc1,hc2⟩:_∧_:=hc);(try subst_vars))<;>first|contradiction|(exfalso;omega)|(simp -implicitDefEqProofs [*])|skip)
  | ((first|(refine atQ hQ ?_;clear hQ)|refine atQ (by assumption) ?_|refine z04 ?_|refine z06 ?_|refine z07 ?_);try simp only [sk_,if_true,if_false,↓reduceIte,Nat.reduceEqDiff])
  | (show EndK _ _ _ _ _ _ _ _;simp -implicitDefEqProofs [*])
  | ((simp (disch:=omega) only [if_pos,if_neg]);(try (simp -implicitDefEqProofs [*]))))
 any_goals exact BkS.mk (by simp [*]) (by simp [*]) (by simp [*]) (by simp [*]) (by simp [*]) (by simp [*])
 rintro s' ⟨v2,v3,v4,v5,g64,g80⟩;clear cL cW a1 a2 a3 hA;repeat' (first
  | ((first|refine z0N (y:= .region 11 _ _) (BkS q ls i sl nl fail b) ?_ ?_|refine z0N (y:= .seq (.region 11 _ _) _) (BkS q ls i sl nl fail b) ?_ ?_;intro Q hQ))
  | (first|refine sq_ ?_|refine bk_ ?_)
  | ((first|refine rg_ fun Q hQ=>?_|refine if_ fun Q hQ=>?_|refine ct_ (by first|with_reducible assumption|assumption) ?_);simp -implicitDefEqProofs [*])
  | ((first|refine bs_ ?_ ?_|refine cs_ ?_ ?_)<;>(intro hc;have hb:=hc;(try simp only [hk_,ne_eq] at hc);(try have ⟨hc1,hc2⟩:_∧_:=hc);(try subst_vars))<;>first|contradiction|(exfalso;omega)|(simp -implicitDefEqProofs [*])|skip)
  | ((first|(refine atQ hQ ?_;clear hQ)|refine atQ (by assumption) ?_|refine z04 ?_|refine z06 ?_|refine z07 ?_);try simp only [sk_,if_true,if_false,↓reduceIte,Nat.reduceEqDiff])
  | (show EndK _ _ _ _ _ _ _ _;simp -implicitDefEqProofs [*])
  | ((simp (disch:=omega) only [if_pos,if_neg]);(try (simp -implicitDefEqProofs [*]))))
 any_goals exact BkS.mk (by simp [*]) (by simp [*]) (by simp [*]) (by simp [*]) (by simp [*]) (by simp [*])
 clear v2 v3 v4 v5 g64 g80;rintro s' ⟨v2,v3,v4,v5,g64,g80⟩;clear b1 b2 b3 hB;repeat' (first
  | ((first|refine z0N (y:= .region 16 _ _) (BkS q ls i sl nl fail b) ?_ ?_|refine z0N (y:= .seq (.region 16 _ _) _) (BkS q ls i sl nl fail b) ?_ ?_;intro Q hQ))
  | (first|refine sq_ ?_|refine bk_ ?_)
  | ((first|refine rg_ fun Q hQ=>?_|refine if_ fun Q hQ=>?_|refine ct_ (by first|with_reducible assumption|assumption) ?_);simp -implicitDefEqProofs [*])
  | ((first|refine bs_ ?_ ?_|refine cs_ ?_ ?_)<;>(intro hc;have hb:=hc;(try simp only [hk_,ne_eq] at hc);(try have ⟨hc1,hc2⟩:_∧_:=hc);(try subst_vars))<;>first|contradiction|(exfalso;omega)|(simp -implicitDefEqProofs [*])|skip)
  | ((first|(refine atQ hQ ?_;clear hQ)|refine atQ (by assumption) ?_|refine z04 ?_|refine z06 ?_|refine z07 ?_);try simp only [sk_,if_true,if_false,↓reduceIte,Nat.reduceEqDiff])
  | (show EndK _ _ _ _ _ _ _ _;simp -implicitDefEqProofs [*])
  | ((simp (disch:=omega) only [if_pos,if_neg]);(try (simp -implicitDefEqProofs [*]))))
 any_goals exact BkS.mk (by simp [*]) (by simp [*]) (by simp [*]) (by simp [*]) (by simp [*]) (by simp [*])
 clear v2 v3 v4 v5 g64 g80;rintro s' ⟨v2,v3,v4,v5,g64,g80⟩;clear c1 c2 c3 hC;repeat' (first
  | ((first|refine z0N (y:= .region 21 _ _) (BkS q ls i sl nl fail b) ?_ ?_|refine z0N (y:= .seq (.region 21 _ _) _) (BkS q ls i sl nl fail b) ?_ ?_;intro Q hQ))
  | (first|refine sq_ ?_|refine bk_ ?_)
  | ((first|refine rg_ fun Q hQ=>?_|refine if_ fun Q hQ=>?_|refine ct_ (by first|with_reducible assumption|assumption) ?_|refine ct_ (d2 (by first|rfl|assumption)) ?_);simp -implicitDefEqProofs [*])
  | ((first|refine bs_ ?_ ?_|refine cs_ ?_ ?_)<;>(intro hc;have hb:=hc;(try simp only [hk_,ne_eq] at hc);(try have ⟨hc1,hc2⟩:_∧_:=hc);(try subst_vars))<;>first|contradiction|(exfalso;omega)|(simp -implicitDefEqProofs [*])|skip)
  | ((first|(refine atQ hQ ?_;clear hQ)|refine atQ (by assumption) ?_|refine z04 ?_|refine z06 ?_|refine z07 ?_);try simp only [sk_,if_true,if_false,↓reduceIte,Nat.reduceEqDiff])
  | (show EndK _ _ _ _ _ _ _ _;simp -implicitDefEqProofs [*])
  | ((simp (disch:=omega) only [if_pos,if_neg]);(try (simp -implicitDefEqProofs [*]))))
 any_goals exact BkS.mk (by simp [*]) (by simp [*]) (by simp [*]) (by simp [*]) (by simp [*]) (by simp [*])
 clear v2 v3 v4 v5 g64 g80;rintro s' ⟨v2,v3,v4,v5,g64,g80⟩;clear d1 d2;repeat' (first
  | (first|refine sq_ ?_|refine bk_ ?_)
  | ((first|refine rg_ fun Q hQ=>?_|refine if_ fun Q hQ=>?_|refine ct_ (by first|with_reducible assumption|assumption) ?_|refine ct_ (e2 (by first|rfl|assumption)) ?_);simp -implicitDefEqProofs [*])
  | ((first|refine bs_ ?_ ?_|refine cs_ ?_ ?_)<;>(intro hc;have hb:=hc;(try simp only [hk_,ne_eq] at hc);(try have ⟨hc1,hc2⟩:_∧_:=hc);(try subst_vars))<;>first|contradiction|(exfalso;omega)|(simp -implicitDefEqProofs [*])|skip)
  | ((first|(refine atQ hQ ?_;clear hQ)|refine atQ (by assumption) ?_|refine z04 ?_|refine z06 ?_|refine z07 ?_);try simp only [sk_,if_true,if_false,↓reduceIte,Nat.reduceEqDiff])
  | (show EndK _ _ _ _ _ _ _ _;simp -implicitDefEqProofs [*])
  | ((simp (disch:=omega) only [if_pos,if_neg]);(try (simp -implicitDefEqProofs [*]))))
end Am
end Go.Proofs.YtgmppconibklcaaGreatDoor

namespace Go.Proofs.YtgmppconibklcaaGreatDoor
open Go Go.RowKit
namespace Am
variable {gl:Nat→Option (List D)}
def X10 (x:E):Prop:=∃ c0 c1 c2 c3 c4 c5 c6 c7 c8 c9:C,x = .agg [c0,c1,c2,c3,c4,c5,c6,c7,c8,c9]∧x.isD=true
theorem X10.mk {c0 c1 c2 c3 c4 c5 c6 c7 c8 c9:C} (h:(E.agg [c0,c1,c2,c3,c4,c5,c6,c7,c8,c9]).isD=true):X10 (.agg [c0,c1,c2,c3,c4,c5,c6,c7,c8,c9]):=⟨_,_,_,_,_,_,_,_,_,_,rfl,h⟩
def InR (n:Nd):T→List O→List O→Prop:=fun t ws os=>(∃ x,t = .tup [x,bX (Rq.z0P n).isSome]∧X10 x∧∀ q,Rq.z0P n=some q→x=infX q (Nt.lim q.serial) (Nt.lim q.nonce))∧ws=[]∧os=[]
theorem InR.no {n:Nd} {x:E} (hx:X10 x) (h:Rq.z0P n=none):InR n (.tup [x,bX false]) [] []:=⟨⟨x,by rw [h];rfl,hx,fun q hq=>by rw [h] at hq;cases hq⟩,rfl,rfl⟩
def z1r:E:= .agg [.d (.leaf (.string ⟨#[]⟩)),.d (.leaf (.string ⟨#[]⟩)),.d (z05 []),.d (z05 []),.d (.leaf (.int .i64 0)),.d (.leaf (.int .i64 0)),.d (.leaf (.int .i64 0)),.d (.leaf (.int .i64 0)),.d (.leaf (.bool false)),.d (z05 [])]
theorem kids5 {n:Nd} (h:Rq.z0t n 5 7=true):∃ k0 k1 k2 k3 k4 L,n.kids=k0::k1::k2::k3::k4::L:=by
 unfold Rq.z0t at h;simp at h;match n.kids,h.1.2 with
 | k0::k1::k2::k3::k4::L,_=>exact ⟨_,_,_,_,_,_,rfl⟩
 | [_,_,_,_],h=>simp at h
 | [_,_,_],h=>simp at h
 | [_,_],h=>simp at h
 | [_],h=>simp at h
 | [],h=>simp at h
theorem zbv {n k0 k1 k2 k3 k4:Nd} {L:List Nd} (hr:Dr.right n=true) (hs:Rq.z0t n 5 7=true) (hk:n.kids=k0::k1::k2::k3::k4::L) (h0:(Dr.intOf k0==some 1&&(k0.cls==0&&k0.tag==2))=true):
  Rq.z0P n=if ((oidO k1).isSome&&((impO k2).2.2&&((Dr.z1D k3).isSome&&((k3.cls==0&&k3.tag==2)&&((k4.cls==0&&k4.tag==24)&&(Pr.z1q k4.bytes).isSome)))))=true then
   (match Rq.z2i L with
    | none=>none
    | some ((s,m),l)=>
     if (Rq.z0i l).2.2.isEmpty&&Rq.z0J ⟨(oidO k1).getD [],(impO k2).1,(impO k2).2.1,(Dr.z1D k3).getD 0,((Pr.z1q k4.bytes).getD (0,0)).1,((Pr.z1q k4.bytes).getD (0,0)).2,s,m,(Rq.z0i l).1,(Rq.z0i l).2.1⟩ then
      some ⟨(oidO k1).getD [],(impO k2).1,(impO k2).2.1,(Dr.z1D k3).getD 0,((Pr.z1q k4.bytes).getD (0,0)).1,((Pr.z1q k4.bytes).getD (0,0)).2,s,m,(Rq.z0i l).1,(Rq.z0i l).2.1⟩
     else none) else none:=by
 have hkr:=Rq.z1x hr;have r1:Dr.right k1=true:=hkr _ (by rw [hk];simp);have r2:Dr.right k2=true:=hkr _ (by rw [hk];simp);have e0:Rq.kid n 0=k0:=by simp [Rq.kid,hk]
 have e1:Rq.kid n 1=k1:=by simp [Rq.kid,hk]
 have e2:Rq.kid n 2=k2:=by simp [Rq.kid,hk]
 have e3:Rq.kid n 3=k3:=by simp [Rq.kid,hk]
 have e4:Rq.kid n 4=k4:=by simp [Rq.kid,hk]
 have h00:(Dr.intOf k0==some 1&&k0.tag==2)=true:=by
  simp only [Bool.and_eq_true] at h0 ⊢;exact ⟨h0.1,h0.2.2⟩
 obtain ⟨i1,i2⟩:=zhs r2;unfold Rq.z0P;rw [hs,e0,h00,e1,e2,e3,e4,←zcE r1];simp only [Bool.and_self,if_true];have ed:n.kids.drop 5=L:=by rw [hk];rfl
 rw [ed];cases ho:oidO k1 with
 | none=>simp
 | some p=>
  cases hi:Rq.z62 k2 with
  | none=>
   rw [hi] at i1;simp only [Option.isSome_none] at i1;simp [i1]
  | some ab=>
   obtain ⟨a,b⟩:=ab;have h2:=i2 a b hi;rw [h2];cases hn:Dr.z1D k3 with
   | none=>simp
   | some sr=>
    cases hl:Pr.z1q k4.bytes with
    | none=>simp
    | some tu=>
     obtain ⟨tt,u⟩:=tu;have hc:∀ b1 b2:Prop,[Decidable b1]→[Decidable b2]→True:=fun _ _ _ _=>trivial
     simp only [Option.isSome_some,Option.getD_some,Bool.true_and,Bool.and_true];by_cases h3:k3.cls=0
     ·simp only [h3];rfl
     ·have hw:Dr.z1D k3=none:=by
       unfold Dr.z1D;rw [if_neg];rintro ⟨hh,_⟩;unfold Dr.whole at hh;simp only [Bool.and_eq_true,beq_iff_eq] at hh;exact h3 hh.1.1
      rw [hw] at hn;cases hn
end Am
end Go.Proofs.YtgmppconibklcaaGreatDoor

