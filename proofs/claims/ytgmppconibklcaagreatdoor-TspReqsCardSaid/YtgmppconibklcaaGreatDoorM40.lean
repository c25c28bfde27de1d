/- Part of the proof. No condition. -/
import Derived.Test.YtgmppconibklcaaGreatDoorM38
import Derived.Test.YtgmppconibklcaaGreatDoorM39
import Derived.KernelRfl
import Derived.Test.YtgmppconibklcaaGreatDoorM28
import Derived.Test.YtgmppconibklcaaGreatDoorM32
set_option maxHeartbeats 40000000
set_option maxRecDepth 100000
set_option linter.unusedVariables false
set_option linter.unusedSimpArgs false
namespace Go.Proofs.YtgmppconibklcaaGreatDoor
open Go Go.RowKit
namespace Am
variable {gl:Nat→Option (List D)}
def z32:List UInt8:=List.replicate 32 0
def q0:Rq.Req:=⟨alg256,z32,[],false,0,false,[]⟩
def c0:List UInt8:=(Dr.put (Rq.node q0)).getD []
theorem zeM:Rq.z0i q0=true:=by decide +kernel
theorem c0_len:c0.length=54:=by decide +kernel
theorem b5_is:rejB 5=[48,9,48,7,2,1,2,3,2,2,4]:=by decide +kernel
theorem zn3 {q:Rq.Req} (h:Rq.z0i q=true) (hz:Rq.z2r q≤6000):(Dr.put (Rq.node q)).isSome=true∧((Dr.put (Rq.node q)).getD []).length≤15000∧z62 ((Dr.put (Rq.node q)).getD []) = .tup [reqX q,iX 0]:=by
 obtain ⟨o,ho,hw,hl⟩:=Rq.z69 h (by omega);have hd:Dr.deep (Rq.node q)≤32:=by
  have:(Dr.write (Rq.node q)).2=0:=by rw [hw]
  unfold Dr.write at this;rw [ho] at this;simp only at this;split at this
  ·cases this
  ·omega
 have hr:Dr.read o=some (Rq.node q):=(Dr.za2 o _).2 ⟨ho,hd,by omega⟩;refine ⟨by rw [ho];rfl,by rw [ho];simp only [Option.getD_some];omega,?_⟩;rw [ho];simp only [Option.getD_some];unfold z62;rw [hr];simp only [Option.bind_some,Rq.z8Y h]
abbrev A256:ByteArray:=⟨#[50,46,49,54,46,56,52,48,46,49,46,49,48,49,46,51,46,52,46,50,46,49]⟩
abbrev req0:E:= .agg [.d (.leaf (.string A256)),.d (z04 z32),.d (.leaf (.string ⟨#[]⟩)),.d (.leaf (.bool false)),.d (z04 []),.d (.leaf (.bool false)),.d (exR [])]
structure KnS (s:SF):Prop where
 e1:s.env 1=some (.e (rX (z04 [48,9,48,7,2,1,2,3,2,2,4])))
 e2:s.env 2=some (.e (iX 0))
 e3:s.env 3=some (.e (.one (.ref 48 0)))
 h48:s.heap 48=some (.var 27 [.d (.leaf (.string A256)),.sl 240 32 1,.d (.leaf (.string ⟨#[]⟩)),.d (.leaf (.bool false)),.nilS,.d (.leaf (.bool false)),.nilS])
 h240:∃ cs,s.heap 240=some (.var 5 cs)∧dsOf cs=some (byL z32)
theorem zf6:OK gl 7 [] (.b true):=by
 have cB:=z45 (gl:=gl) (f:=5) rfl;obtain ⟨f1,f2,f3⟩:=zn3 zeM (by decide +kernel);have cW0:=zbd (gl:=gl) q0 [] (Rq.z4Y (by decide +kernel)) Nt.Lb.nil rfl (by decide);rw [zeM] at cW0;have cP0:=z7G (gl:=gl) c0 f2;have cP1:z62 c0 = .tup [reqX q0,iX 0]:=f3;rw [cP1] at cP0;have cW:OK gl 8 [req0] (.tup [rX (z04 c0),iX 0]):=cW0;have hl0:Nt.lim 0=[]:=Nt.z1X;have cP:OK gl 10 [rX (z04 c0)] (.tup [req0,iX 0]):=by
  have:reqX q0=req0:=by
   show E.agg [_,_,_,_,.d (limD (Nt.lim 0)),_,_]=_;rw [hl0];rfl
  rw [←this];exact cP0
 have cA0:=zkM (gl:=gl) 5 rfl;rw [b5_is] at cB cA0;have cA:∀ (d d1 d2:D),OK gl 26 [req0,rX (z04 [48,9,48,7,2,1,2,3,2,2,4]),rX d,.agg [.d d1,.d d2],iX 0] (.tup [z2v,iX 90]):=fun d d1 d2=>zjQ q0 [] d d1 d2 _ 5 cA0
 have hz:z32.length=32:=by decide
 have cF:=znJ (gl:=gl) z32 (.leaf (.string ⟨#[]⟩)) (.leaf (.bool false)) (z04 []) (.leaf (.bool false)) (exR []) hz;have hc:=c0_len;clear f1 f2 f3 cW0 cP0 cP1 cA0 hl0;refine z0d Tryz.func7 rfl (by show 0≤_;decide) ?_;unfold Tryz.f7;dsimp only;repeat' (first
  | ((first|refine z0J (y:= .region 3 _ _) (KnS) ?_ ?_|refine z0J (y:= .seq (.region 3 _ _) _) (KnS) ?_ ?_;intro Q hQ))
  | (first|refine sq_ ?_|refine bk_ ?_)
  | ((first|refine rg_ fun Q hQ=>?_|refine if_ fun Q hQ=>?_|refine ca_ ?_|show EndK _ _ _ _ _ _ _ _);simp -implicitDefEqProofs [*,z2v])
  | ((first|refine bs_ ?_ ?_|refine cs_ ?_ ?_)<;>(intro hc;have hb:=hc;(try simp only [hk_,ne_eq] at hc);(try have ⟨hc1,hc2⟩:_∧_:=hc);(try subst_vars))<;>first|contradiction|(exfalso;omega)|(simp -implicitDefEqProofs [*,z2v])|skip)
  | ((first|refine aq_ ?_|refine z05 ?_|refine z06 ?_|refine z07 ?_);try simp only [sk_,↓reduceIte,Nat.reduceEqDiff])
  | ((with_reducible show OptK _ _);(simp (disch:=omega) only [if_pos,if_neg]);(try (simp -implicitDefEqProofs [*,z2v]))))
 ·exact ⟨by simp,by simp,by simp,by simp,_,by simp;rfl,by kernel_rfl⟩
 ·rintro s' ⟨e1,e2,e3,h48,cs,h240,hds⟩;refine z5Q 240 ?_;have hrow:D.row 1 (byL z32)=z04 z32:=rfl;have hbl:(byL z32).length=32:=by decide
  repeat' (first
   | (first|refine sq_ ?_|refine bk_ ?_)
   | ((first|refine rg_ fun Q hQ=>?_|refine if_ fun Q hQ=>?_|refine ca_ ?_|refine ct_ (cA _ _ _) ?_|show EndK _ _ _ _ _ _ _ _);simp -implicitDefEqProofs [*,z2v,setC])
   | ((first|refine bs_ ?_ ?_|refine cs_ ?_ ?_)<;>(intro hc;have hb:=hc;(try simp only [hk_,ne_eq] at hc);(try have ⟨hc1,hc2⟩:_∧_:=hc);(try subst_vars))<;>first|contradiction|(exfalso;omega)|(simp -implicitDefEqProofs [*,z2v,setC])|skip)
   | ((first|refine aq_ ?_|refine z05 ?_|refine z06 ?_|refine z07 ?_);try simp only [sk_,↓reduceIte,Nat.reduceEqDiff])
   | ((with_reducible show OptK _ _);(simp (disch:=omega) only [if_pos,if_neg]);(try (simp -implicitDefEqProofs [*,z2v,setC]))))
end Am
end Go.Proofs.YtgmppconibklcaaGreatDoor

namespace Go.Proofs.YtgmppconibklcaaGreatDoor
open Go Go.RowKit
namespace Am
variable {gl:Nat→Option (List D)}
structure BkS (q:Rq.Req) (ls:List Nat) (i:Rq.Info) (sl nl:List Nat) (fail:Int) (b:List UInt8) (s:SF):Prop where
 e2:s.env 2=some (.e (iX fail))
 e3:s.env 3=some (.e (rX (z04 b)))
 e4:s.env 4=some (.e (.one (.ref 64 0)))
 e5:s.env 5=some (.e (.one (.ref 80 0)))
 h64:s.heap 64=some (.var 27 [.d (.leaf (.string ⟨q.alg.toArray⟩)),.d (z04 q.impr),.d (.leaf (.string ⟨q.policy.toArray⟩)),.d (.leaf (.bool q.has)),.d (nuR .u32 ls),.d (.leaf (.bool q.cert)),.d (exR q.exts)])
 h80:s.heap 80=some (.var 46 [.d (.leaf (.string ⟨i.policy.toArray⟩)),.d (.leaf (.string ⟨i.alg.toArray⟩)),.d (z04 i.impr),.d (nuR .u32 sl),.d (.leaf (.int .i64 i.time)),.d (.leaf (.int .i64 i.micros)),.d (.leaf (.int .i64 i.secs)),.d (.leaf (.int .i64 i.millis)),.d (.leaf (.bool i.has)),.d (nuR .u32 nl)])
end Am
end Go.Proofs.YtgmppconibklcaaGreatDoor

namespace Go.Proofs.YtgmppconibklcaaGreatDoor
open Go Go.RowKit
namespace Am
variable {gl:Nat→Option (List D)}
def X10 (x:E):Prop:=∃ c0 c1 c2 c3 c4 c5 c6 c7 c8 c9:C,x = .agg [c0,c1,c2,c3,c4,c5,c6,c7,c8,c9]∧x.isD=true
theorem X10.mk {c0 c1 c2 c3 c4 c5 c6 c7 c8 c9:C} (h:(E.agg [c0,c1,c2,c3,c4,c5,c6,c7,c8,c9]).isD=true):X10 (.agg [c0,c1,c2,c3,c4,c5,c6,c7,c8,c9]):=⟨_,_,_,_,_,_,_,_,_,_,rfl,h⟩
def InR (n:Nd):T→List O→List O→Prop:=fun t ws os=>(∃ x,t = .tup [x,bX (Rq.z9s n).isSome]∧X10 x∧∀ q,Rq.z9s n=some q→x=infX q (Nt.lim q.serial) (Nt.lim q.nonce))∧ws=[]∧os=[]
theorem InR.no {n:Nd} {x:E} (hx:X10 x) (h:Rq.z9s n=none):InR n (.tup [x,bX false]) [] []:=⟨⟨x,by rw [h];rfl,hx,fun q hq=>by rw [h] at hq;cases hq⟩,rfl,rfl⟩
def zmp:E:= .agg [.d (.leaf (.string ⟨#[]⟩)),.d (.leaf (.string ⟨#[]⟩)),.d (z04 []),.d (z04 []),.d (.leaf (.int .i64 0)),.d (.leaf (.int .i64 0)),.d (.leaf (.int .i64 0)),.d (.leaf (.int .i64 0)),.d (.leaf (.bool false)),.d (z04 [])]
end Am
end Go.Proofs.YtgmppconibklcaaGreatDoor

