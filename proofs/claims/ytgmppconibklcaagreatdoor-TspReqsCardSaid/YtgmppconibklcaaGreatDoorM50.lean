/- Part of the proof. No condition. -/
import Derived.Test.YtgmppconibklcaaGreatDoorM49
import Derived.Test.YtgmppconibklcaaGreatDoorM20
import Derived.Test.YtgmppconibklcaaGreatDoorM28
import Derived.Test.YtgmppconibklcaaGreatDoorM48
import Derived.Test.YtgmppconibklcaaGreatDoorM33
import Derived.Test.YtgmppconibklcaaGreatDoorM44
set_option maxHeartbeats 40000000
set_option maxRecDepth 100000
set_option linter.unusedVariables false
set_option linter.unusedSimpArgs false
namespace Go.Proofs.YtgmppconibklcaaGreatDoor
open Go Go.RowKit
namespace Am
variable {gl:Nat→Option (List D)}
structure RnT (q:Rq.Req) (ls:List Nat) (L:List Nd) (id:Nat) (s:SF):Prop where
 e1:s.env 1=some (.e (.one (.ref 16 0)))
 g1:s.heap 16=some (.var 27 [.d (.leaf (.string ⟨q.alg.toArray⟩)),.d (z04 q.impr),.d (.leaf (.string ⟨q.policy.toArray⟩)),.d (.leaf (.bool q.has)),.d (nuR .u32 ls),.d (.leaf (.bool q.cert)),.d (exR q.exts)])
 e2:s.env 2=some (.e (.one (.ref 32 0)))
 g2:s.heap 32=some (.var 61 [.d (.leaf (.int .i64 0)),.d (.leaf (.int .i64 0)),.d (.leaf (.bool false)),.nilS,.nilS])
 e3:s.env 3=some (.e (.one (.gr id 5 (ndL L))))
 g3:s.heap id=some (.own 61 5 L.length)
structure RnI (q:Rq.Req) (ls:List Nat) (L:List Nd) (id:Nat) (k:Nat) (s:SF):Prop where
 e1:s.env 1=some (.e (.one (.ref 16 0)))
 g1:s.heap 16=some (.var 27 [.d (.leaf (.string ⟨q.alg.toArray⟩)),.d (z04 q.impr),.d (.leaf (.string ⟨q.policy.toArray⟩)),.d (.leaf (.bool q.has)),.d (nuR .u32 ls),.d (.leaf (.bool q.cert)),.d (exR q.exts)])
 e2:s.env 2=some (.e (.one (.ref 32 0)))
 g2:s.heap 32=some (.var 61 [.d (.leaf (.int .i64 0)),.d (.leaf (.int .i64 0)),.d (.leaf (.bool false)),.nilS,.nilS])
 e3:s.env 3=some (.e (.one (.gr id 5 (ndL L))))
 g3:s.heap id=some (.own 61 5 L.length)
 ex:∃ i,i+k=q.exts.length∧s.env 5=some (.e (iX i))∧(i=0∧s.env 4=some (.e (.one .nilS))∨0<i∧s.env 4=some (.e (.one (.gr 912 5 (ndL ((q.exts.take i).map Rq.exN)))))∧s.heap 912=some (.own 61 5 i))
theorem zer (q:Rq.Req) (ls:List Nat) (hr:Rq.z0i q=true) (hf:Rq.zaU q) (hL:Nt.Lb ls) (hv:Nt.vl ls=q.nonce) (hls:ls.length≤100000):OK gl 39 [reqY q ls] (.e (nX (Rq.node q))):=by
 obtain ⟨h1,h2,h3,h4,h5⟩:=Rq.z8t hr;have hx:∀ e∈q.exts,Rq.exOk e=true:=h5;have hbl:=Rq.z2O hr;have c1:=rInt1 (gl:=gl);have c2:=zkI (gl:=gl) q.alg q.impr hf.alg;have c3:=zmW (gl:=gl) q.policy hf.pol;have c4:=rNat (gl:=gl) ls hL (by omega) (by rw [hv];omega);rw [hv] at c4;have c5:=rTruth (gl:=gl);have hoid:=hf.oid;have hval:=hf.val;clear h1 h2 h3 h5 hbl hr hf hL hv hls;obtain ⟨alg,impr,pol,has,nonce,cert,exts⟩:=q;simp only at *;have hn:Rq.node ⟨alg,impr,pol,has,nonce,cert,exts⟩=Dr.seq (Dr.intN 1::Rq.impN alg impr::(Rq.opt (!pol.isEmpty) (Rq.oidN pol)++(Rq.opt has (Dr.natN nonce)++(Rq.opt cert Rq.z1u++Rq.opt (!exts.isEmpty) (Rq.ctxN exts))))):=rfl;rw [hn];clear hn;generalize Dr.intN 1=n1 at *;generalize Rq.impN alg impr=n2 at *;generalize Rq.oidN pol=n3 at *;generalize Dr.natN nonce=n4 at *;generalize Rq.z1u=n5 at *;obtain ⟨e,hpe⟩:∃ e,pol.isEmpty=e:=⟨_,rfl⟩;rw [hpe];have hA:Rq.opt (!e) n3++(Rq.opt has n4++(Rq.opt cert n5++Rq.opt (!exts.isEmpty) (Rq.ctxN exts)))=(Rq.opt (!e) n3++(Rq.opt has n4++Rq.opt cert n5))++Rq.opt (!exts.isEmpty) (Rq.ctxN exts):=by simp
 rw [hA];clear hA;obtain ⟨L,hL⟩:∃ L,L=n1::n2::(Rq.opt (!e) n3++(Rq.opt has n4++Rq.opt cert n5)):=⟨_,rfl⟩;have hLL:n1::n2::(Rq.opt (!e) n3++(Rq.opt has n4++Rq.opt cert n5)++Rq.opt (!exts.isEmpty) (Rq.ctxN exts))=L++Rq.opt (!exts.isEmpty) (Rq.ctxN exts):=by rw [hL];simp
 rw [hLL];clear hLL;have hL5:L.length≤5:=by rw [hL];cases e<;>cases has<;>cases cert<;>simp [Rq.opt]
 obtain ⟨L1,hL1⟩:∃ L1,L1=n1::n2::Rq.opt (!e) n3:=⟨_,rfl⟩;obtain ⟨L2,hL2⟩:∃ L2,L2=L1++Rq.opt has n4:=⟨_,rfl⟩;have hL3:L=L2++Rq.opt cert n5:=by rw [hL,hL2,hL1];simp
 have l1:L1.length≤3:=by rw [hL1];cases e<;>simp [Rq.opt]
 have l2:L2.length≤4:=by rw [hL2];cases has<;>simp [Rq.opt]<;>omega
 have hL1':True→L1=n1::n2::Rq.opt (!e) n3:=fun _=>hL1
 have hL2':True→L2=L1++Rq.opt has n4:=fun _=>hL2
 have hL3':True→L=L2++Rq.opt cert n5:=fun _=>hL3
 clear hL hL1 hL2 hL3;refine z0d Tryz.func39 rfl (by show 1≤_;decide) ?_;unfold Tryz.f39;dsimp only;repeat' (first
  | ((refine z0J (y:= .seq (.seq (.region 2 _ _) _) _) ((RnT ⟨alg,impr,pol,has,nonce,cert,exts⟩ ls [n1,n2] 224)) ?_ ?_;intro Q hQ))
  | (first|refine sq_ ?_|refine bk_ ?_)
  | ((first|refine rg_ fun Q hQ=>?_|refine if_ fun Q hQ=>?_|refine dr_ (id:=1) [1,2] [16,32] (by kernel_rfl) fun Q hQ=>?_|refine ca_ ?_|refine ce_ ?_ ?_|show EndK _ _ _ _ _ _ _ _);simp -implicitDefEqProofs [*])
  | ((first|refine bs_ ?_ ?_|refine cs_ ?_ ?_)<;>(intro hc;have hb:=hc;(try simp only [hk_,ne_eq] at hc);(try have ⟨hc1,hc2⟩:_∧_:=hc);(try subst_vars))<;>first|contradiction|(exfalso;omega)|(simp -implicitDefEqProofs [*])|skip)
  | ((first|refine aq_ ?_|refine z05 ?_|refine z06 ?_|refine z07 ?_);try simp only [sk_,↓reduceIte,Nat.reduceEqDiff])
  | (first|exact z0h|refine cn_ (by decide) ?_|refine cc_ (by intro e1 e2 e3;simp_all) ?_|refine And.intro (by decide +kernel) ?_)
  | ((with_reducible show OptK _ _);(simp (disch:=omega) only [if_pos,if_neg]);(try (simp -implicitDefEqProofs [*]))))
 ·exact ⟨by simp,by simp,by simp,by simp,by simp,by simp⟩
 rintro s ⟨e1,g1,e2,g2,e3,g3⟩;simp only at g1;clear c1 c2;repeat' (first
  | ((refine z0J (y:= .seq (.seq (.region 4 _ _) _) _) ((fun s=>∃ id,(id=224∨id=368)∧RnT ⟨alg,impr,pol,has,nonce,cert,exts⟩ ls L1 id s)) ?_ ?_;intro Q hQ))
  | (first|refine sq_ ?_|refine bk_ ?_)
  | ((first|refine rg_ fun Q hQ=>?_|refine if_ fun Q hQ=>?_|refine dr_ (id:=1) [1,2] [16,32] (by kernel_rfl) fun Q hQ=>?_|refine ca_ ?_|refine ce_ ?_ ?_|show EndK _ _ _ _ _ _ _ _);simp -implicitDefEqProofs [*,z08])
  | ((first|refine bs_ ?_ ?_|refine cs_ ?_ ?_)<;>(intro hc;have hb:=hc;(try simp only [hk_,ne_eq] at hc);(try have ⟨hc1,hc2⟩:_∧_:=hc);(try subst_vars))<;>first|contradiction|(exfalso;omega)|(simp -implicitDefEqProofs [*,z08])|skip)
  | ((first|refine aq_ ?_|refine z05 ?_|refine z06 ?_|refine z07 ?_);try simp only [sk_,↓reduceIte,Nat.reduceEqDiff])
  | (first|exact z0h|refine cn_ (by decide) ?_|refine cc_ (by intro e1 e2 e3;simp_all) ?_|refine And.intro (by decide +kernel) ?_)
  | ((with_reducible show OptK _ _);(simp (disch:=omega) only [if_pos,if_neg]);(try (simp -implicitDefEqProofs [*,z08]))))
 ·exact ⟨368,by omega,⟨by simp [e1],by simp [g1],by simp [e2],by simp [g2],by simp [*,hL1' trivial,Rq.opt],by simp [*,hL1' trivial,Rq.opt]⟩⟩
 ·exact ⟨224,by omega,⟨by simp [e1],by simp [g1],by simp [e2],by simp [g2],by simp [*,hL1' trivial,Rq.opt],by simp [*,hL1' trivial,Rq.opt]⟩⟩
 clear e1 g1 e2 g2 e3 g3 hL1' hpe c3;rintro s ⟨id,hid,⟨e1,g1,e2,g2,e3,g3⟩⟩;simp only at g1;have hn5:(L1.length*5+5) / 5*72≤140737488355328:=by omega
 have hn6:L1.length*5+5≤140737488355328:=by omega
 have f480:¬id=480:=by omega
 have f481:¬480=id:=by omega
 have f496:¬id=496:=by omega
 have f497:¬496=id:=by omega
 have f16:¬id=16:=by omega
 have f17:¬16=id:=by omega
 have f32:¬id=32:=by omega
 have f33:¬32=id:=by omega
 repeat' (first
  | ((refine z0J (y:= .seq (.seq (.region 6 _ _) _) _) ((fun s=>∃ id,(id=224∨id=368∨id=496)∧RnT ⟨alg,impr,pol,has,nonce,cert,exts⟩ ls L2 id s)) ?_ ?_;intro Q hQ))
  | (first|refine sq_ ?_|refine bk_ ?_)
  | ((first|refine rg_ fun Q hQ=>?_|refine if_ fun Q hQ=>?_|refine dr_ (id:=1) [1,2] [16,32] (by kernel_rfl) fun Q hQ=>?_|refine ca_ ?_|refine ce_ ?_ ?_|show EndK _ _ _ _ _ _ _ _);simp -implicitDefEqProofs [*,z08])
  | ((first|refine bs_ ?_ ?_|refine cs_ ?_ ?_)<;>(intro hc;have hb:=hc;(try simp only [hk_,ne_eq] at hc);(try have ⟨hc1,hc2⟩:_∧_:=hc);(try subst_vars))<;>first|contradiction|(exfalso;omega)|(simp -implicitDefEqProofs [*,z08])|skip)
  | ((first|refine aq_ ?_|refine z05 ?_|refine z06 ?_|refine z07 ?_);try simp only [sk_,↓reduceIte,Nat.reduceEqDiff])
  | (first|exact z0h|refine cn_ (by decide) ?_|refine cc_ (by intro e1 e2 e3;simp_all) ?_|refine And.intro (by decide +kernel) ?_)
  | ((with_reducible show OptK _ _);(simp (disch:=omega) only [if_pos,if_neg]);(try (simp -implicitDefEqProofs [*,z08]))))
 ·exact ⟨496,by omega,⟨by simp [*],by simp [*],by simp [*],by simp [*],by simp [*,hL2' trivial,Rq.opt],by simp [*,hL2' trivial,Rq.opt]⟩⟩
 ·exact ⟨id,by omega,⟨by simp [*],by simp [*],by simp [*],by simp [*],by simp [*,hL2' trivial,Rq.opt],by simp [*,hL2' trivial,Rq.opt]⟩⟩
 clear e1 g1 e2 g2 e3 g3 hL2' c4 hn5 hn6 hid;clear f480 f481 f496 f497 f16 f17 f32 f33;clear id;rintro s ⟨id,hid,⟨e1,g1,e2,g2,e3,g3⟩⟩;simp only at g1;have hn5:(L2.length*5+5) / 5*72≤140737488355328:=by omega
 have hn6:L2.length*5+5≤140737488355328:=by omega
 have f576:¬id=576:=by omega
 have f577:¬576=id:=by omega
 have f592:¬id=592:=by omega
 have f593:¬592=id:=by omega
 have f16:¬id=16:=by omega
 have f17:¬16=id:=by omega
 have f32:¬id=32:=by omega
 have f33:¬32=id:=by omega
 repeat' (first
  | ((first|refine z0J (y:= .region 8 _ _) ((fun s=>∃ id,(id=224∨id=368∨id=496∨id=592)∧RnT ⟨alg,impr,pol,has,nonce,cert,exts⟩ ls L id s)) ?_ ?_|refine z0J (y:= .seq (.region 8 _ _) _) ((fun s=>∃ id,(id=224∨id=368∨id=496∨id=592)∧RnT ⟨alg,impr,pol,has,nonce,cert,exts⟩ ls L id s)) ?_ ?_;intro Q hQ))
  | (first|refine sq_ ?_|refine bk_ ?_)
  | ((first|refine rg_ fun Q hQ=>?_|refine if_ fun Q hQ=>?_|refine dr_ (id:=1) [1,2] [16,32] (by kernel_rfl) fun Q hQ=>?_|refine ca_ ?_|refine ce_ ?_ ?_|show EndK _ _ _ _ _ _ _ _);simp -implicitDefEqProofs [*,z08])
  | ((first|refine bs_ ?_ ?_|refine cs_ ?_ ?_)<;>(intro hc;have hb:=hc;(try simp only [hk_,ne_eq] at hc);(try have ⟨hc1,hc2⟩:_∧_:=hc);(try subst_vars))<;>first|contradiction|(exfalso;omega)|(simp -implicitDefEqProofs [*,z08])|skip)
  | ((first|refine aq_ ?_|refine z05 ?_|refine z06 ?_|refine z07 ?_);try simp only [sk_,↓reduceIte,Nat.reduceEqDiff])
  | (first|exact z0h|refine cn_ (by decide) ?_|refine cc_ (by intro e1 e2 e3;simp_all) ?_|refine And.intro (by decide +kernel) ?_)
  | ((with_reducible show OptK _ _);(simp (disch:=omega) only [if_pos,if_neg]);(try (simp -implicitDefEqProofs [*,z08]))))
 ·exact ⟨592,by omega,⟨by simp [*],by simp [*],by simp [*],by simp [*],by simp [*,hL3' trivial,Rq.opt],by simp [*,hL3' trivial,Rq.opt]⟩⟩
 ·exact ⟨id,by omega,⟨by simp [*],by simp [*],by simp [*],by simp [*],by simp [*,hL3' trivial,Rq.opt],by simp [*,hL3' trivial,Rq.opt]⟩⟩
 clear e1 g1 e2 g2 e3 g3 hL3' c5 hn5 hn6 hid;clear f576 f577 f592 f593 f16 f17 f32 f33;clear id;rintro s ⟨id,hid,⟨e1,g1,e2,g2,e3,g3⟩⟩;simp only at g1;have f912:¬id=912:=by omega
 have f913:¬912=id:=by omega
 have f96:¬id=96:=by omega
 have f97:¬96=id:=by omega
 have f16:¬id=16:=by omega
 have f17:¬16=id:=by omega
 have f32:¬id=32:=by omega
 have f33:¬32=id:=by omega
 have f896:¬id=896:=by omega
 have f897:¬896=id:=by omega
 have f992:¬id=992:=by omega
 have f993:¬992=id:=by omega
 have f1008:¬id=1008:=by omega
 have f1009:¬1008=id:=by omega
 have f1024:¬id=1024:=by omega
 have f1025:¬1024=id:=by omega
 have f1040:¬id=1040:=by omega
 have f1041:¬1040=id:=by omega
 have f1056:¬id=1056:=by omega
 have f1057:¬1056=id:=by omega
 have f1072:¬id=1072:=by omega
 have f1073:¬1072=id:=by omega
 have hn7:(L.length*5+5) / 5*72≤140737488355328:=by omega
 have hn8:L.length*5+5≤140737488355328:=by omega
 clear hid;repeat' (first
  | (first|refine sq_ ?_|refine bk_ ?_)
  | ((first|refine rg_ fun Q hQ=>?_|refine if_ fun Q hQ=>?_|refine dr_ (id:=1) [1,2] [16,32] (by kernel_rfl) fun Q hQ=>?_|refine ca_ ?_|refine ce_ ?_ ?_|show EndK _ _ _ _ _ _ _ _);simp -implicitDefEqProofs [*])
  | ((first|refine bs_ ?_ ?_|refine cs_ ?_ ?_)<;>(intro hc;have hb:=hc;(try simp only [hk_,ne_eq] at hc);(try have ⟨hc1,hc2⟩:_∧_:=hc);(try subst_vars))<;>first|contradiction|(exfalso;omega)|(simp -implicitDefEqProofs [*])|skip)
  | ((first|refine aq_ ?_|refine z05 ?_|refine z06 ?_|refine z07 ?_);try simp only [sk_,↓reduceIte,Nat.reduceEqDiff])
  | (first|exact z0h|refine cn_ (by decide) ?_|refine cc_ (by intro e1 e2 e3;simp_all) ?_|refine And.intro (by decide +kernel) ?_)
  | ((with_reducible show OptK _ _);(simp (disch:=omega) only [if_pos,if_neg]);(try (simp -implicitDefEqProofs [*]))))
 refine z0A (RnI ⟨alg,impr,pol,has,nonce,cert,exts⟩ ls L id) exts.length ?_ ?_
 ·exact ⟨by simp [*],by simp [*],by simp [*],by simp [*],by simp [*],by simp [*],0,by simp,by simp,.inl ⟨rfl,by simp⟩⟩
 ·rintro k s ⟨e1,g1,e2,g2,e3,g3,i,hi,e5,h4⟩;simp only at g1 hi h4;cases k with
  | zero=>
   obtain rfl:i=exts.length:=by omega
   rw [List.take_length] at h4;clear hx hoid hval;rcases h4 with ⟨h0,h4⟩|⟨h0,h4,g912⟩
   ·have hx0:exts=[]:=List.length_eq_zero_iff.1 h0;subst hx0;have c7:=rSeq (gl:=gl) L;have d1:Drw 1 [1,2] [16,32]:=⟨⟩;have z0:=@Rq.opt.eq_def;exact ama_;all_goals omega
   ·have hne:exts.isEmpty=false:=by cases exts with|nil=>simp at h0|cons a l=>rfl
    have hml:(exts.map Rq.exN).length=exts.length:=List.length_map _;have hct:Rq.ctxN exts = .mk 2 0 true [] (exts.map Rq.exN):=rfl;rw [hne,hct];generalize exts.map Rq.exN=m at *;have c6:=rCtx (gl:=gl) 0 m;have c7:=rSeq (gl:=gl) (L++[.mk 2 0 true [] m]);clear hct;have d1:Drw 1 [1,2] [16,32]:=⟨⟩;have z0:=@Rq.opt.eq_def;exact ama_;all_goals omega
  | succ k=>
   have hil:i<exts.length:=by omega
   obtain ⟨x,r,hd,hxx,htk⟩:=z0t hil;have hmem:=List.mem_of_getElem? hxx;have cE:OK gl 81 [exX x] (.tup [nX (if Rq.exOk x=true then Rq.exN x else Nd.nil),iX (if Rq.exOk x=true then 0 else 62)]):=za6 x (hoid x hmem) (by have:=hval x hmem;omega);rw [hx x hmem] at cE;simp at cE;have hmt:(exts.take (i+1)).map Rq.exN=(exts.take i).map Rq.exN++[Rq.exN x]:=by rw [htk];simp
   have hw:IntKind.wrap .i64 ((i:Int)+1)=(i:Int)+1:=z0f (by omega) (by omega);have hlt:((exts.take i).map Rq.exN).length=i:=by simp;omega
   have hn5:(i*5+5) / 5*72≤140737488355328:=by omega
   have hn6:i*5+5≤140737488355328:=by omega
   generalize Rq.exN x=nx at *;clear hxx htk;rcases h4 with ⟨rfl,h4⟩|⟨h0,h4,g912⟩
   ·repeat' (first
     | (first|refine sq_ ?_|refine bk_ ?_)
     | ((first|refine rg_ fun Q hQ=>?_|refine if_ fun Q hQ=>?_|refine dr_ (id:=1) [1,2] [16,32] (by kernel_rfl) fun Q hQ=>?_|refine ca_ ?_|refine ce_ ?_ ?_|show EndK _ _ _ _ _ _ _ _);simp -implicitDefEqProofs [*,z08])
     | ((first|refine bs_ ?_ ?_|refine cs_ ?_ ?_)<;>(intro hc;have hb:=hc;(try simp only [hk_,ne_eq] at hc);(try have ⟨hc1,hc2⟩:_∧_:=hc);(try subst_vars))<;>first|contradiction|(exfalso;omega)|(simp -implicitDefEqProofs [*,z08])|skip)
     | ((first|refine aq_ ?_|refine z05 ?_|refine z06 ?_|refine z07 ?_);try simp only [sk_,↓reduceIte,Nat.reduceEqDiff])
     | (first|exact z0h|refine cn_ (by decide) ?_|refine cc_ (by intro e1 e2 e3;simp_all) ?_|refine And.intro (by decide +kernel) ?_)
     | ((with_reducible show OptK _ _);(simp (disch:=omega) only [if_pos,if_neg]);(try (simp -implicitDefEqProofs [*,z08]))))
    all_goals first|omega|exact ⟨k,by omega,⟨by simp [e1],by simp [g1],by simp [e2],by simp [g2],by simp [*],by simp [*],1,by show _=exts.length;omega,by simp,.inr ⟨by omega,by simp [hmt],by simp⟩⟩⟩
   ·generalize (exts.take i).map Rq.exN=mi at *;repeat' (first
     | (first|refine sq_ ?_|refine bk_ ?_)
     | ((first|refine rg_ fun Q hQ=>?_|refine if_ fun Q hQ=>?_|refine dr_ (id:=1) [1,2] [16,32] (by kernel_rfl) fun Q hQ=>?_|refine ca_ ?_|refine ce_ ?_ ?_|show EndK _ _ _ _ _ _ _ _);simp -implicitDefEqProofs [*,z08])
     | ((first|refine bs_ ?_ ?_|refine cs_ ?_ ?_)<;>(intro hc;have hb:=hc;(try simp only [hk_,ne_eq] at hc);(try have ⟨hc1,hc2⟩:_∧_:=hc);(try subst_vars))<;>first|contradiction|(exfalso;omega)|(simp -implicitDefEqProofs [*,z08])|skip)
     | ((first|refine aq_ ?_|refine z05 ?_|refine z06 ?_|refine z07 ?_);try simp only [sk_,↓reduceIte,Nat.reduceEqDiff])
     | (first|exact z0h|refine cn_ (by decide) ?_|refine cc_ (by intro e1 e2 e3;simp_all) ?_|refine And.intro (by decide +kernel) ?_)
     | ((with_reducible show OptK _ _);(simp (disch:=omega) only [if_pos,if_neg]);(try (simp -implicitDefEqProofs [*,z08]))))
    all_goals first|omega|exact ⟨k,by omega,⟨by simp [e1],by simp [g1],by simp [e2],by simp [g2],by simp [*],by simp [*],i+1,by show _=exts.length;omega,by simp [hw],.inr ⟨by omega,by simp [hmt],by simp⟩⟩⟩
end Am
end Go.Proofs.YtgmppconibklcaaGreatDoor

namespace Go.Proofs.YtgmppconibklcaaGreatDoor
open Go Go.RowKit
namespace Am
variable {gl:Nat→Option (List D)}
theorem zbB {p:Prop} (h:p:=by
  refine z0d Tryz.func9 rfl (by show 1≤_;decide) ?_;unfold Tryz.f9;dsimp only;exact am_):p:=h
theorem zi1 (q:Rq.Req) (ls:List Nat) (hf:Rq.zjR q) (hm:Rq.z0i q=true→Dr.mx (Rq.node q)≤20000) (hL:Nt.Lb ls) (hv:Nt.vl ls=q.nonce) (hls:ls.length≤100000):OK gl 9 [reqY q ls] (.tup [rX (z04 (if Rq.z0i q=true then (Dr.put (Rq.node q)).getD [] else [])),iX (if Rq.z0i q=true then 0 else 60)]):=by
 have c1:=zby (gl:=gl) q ls hf.1 hL hv hls;cases hr:Rq.z0i q with
 | false=>
  rw [hr] at c1;clear hm hf;exact zbB
 | true=>
  rw [hr] at c1;have c2:=zer (gl:=gl) q ls hr hf.1 hL hv hls;have c3:OK gl 38 [nX (Rq.node q)] (.tup [rX (z04 ((Dr.put (Rq.node q)).getD [])),bX (Dr.put (Rq.node q)).isSome]):=zlT (Rq.node q) (by have:=hf.node hr;omega) (hm hr);generalize (Dr.put (Rq.node q)).getD []=o at *;generalize (Dr.put (Rq.node q)).isSome=v at *;generalize Rq.node q=n at *;clear hm hf hr;exact zbB
end Am
end Go.Proofs.YtgmppconibklcaaGreatDoor

namespace Go.Proofs.YtgmppconibklcaaGreatDoor
open Go Go.RowKit
namespace Am
variable {gl:Nat→Option (List D)}
theorem zgm {b:List UInt8} (hb:b.length≤20000) (h:Dr.read b=none):z3q Tryz.prog gl Tabs 42 [rX (z04 b)] [] (fun t ws os=>(∃ x y:Int,y≠0∧t = .tup [nX Nd.nil,.agg [.d (.leaf (.int .i64 x)),.d (.leaf (.int .i64 y))]])∧ws=[]∧os=[]):=fun W0 im w vals ch lo hI hargs=>
 (zet b hb W0 im w vals ch lo hI hargs).mono (by
  rintro e w' ⟨t,ws,os',⟨⟨x,y,rfl,hy⟩,rfl,rfl⟩,hp⟩;rw [h] at hy hp;exact ⟨_,_,_,⟨⟨x,y,by simpa using hy,rfl⟩,rfl,rfl⟩,hp⟩)
theorem zgk {b:List UInt8} {n:Nd} (hb:b.length≤20000) (h:Dr.read b=some n):z3q Tryz.prog gl Tabs 42 [rX (z04 b)] [] (fun t ws os=>(∃ x:Int,t = .tup [nX n,.agg [.d (.leaf (.int .i64 x)),.d (.leaf (.int .i64 0))]])∧ws=[]∧os=[]):=fun W0 im w vals ch lo hI hargs=>
 (zet b hb W0 im w vals ch lo hI hargs).mono (by
  rintro e w' ⟨t,ws,os',⟨⟨x,y,rfl,hy⟩,rfl,rfl⟩,hp⟩;rw [h] at hy hp;have:y=0:=by simpa using hy
  subst this;exact ⟨_,_,_,⟨⟨x,rfl⟩,rfl,rfl⟩,hp⟩)
structure PqF (q:Rq.Req):Prop where
 alg:q.alg.length≤90000
 pol:q.policy.length≤90000
 impr:q.impr.length≤40000
 ex:∀ e∈q.exts,e.oid.length≤90000∧e.val.length≤20000
 no:(Nt.lim q.nonce).length≤100000
def reqC (q:Rq.Req) (c c':C):List C:=[.d (.leaf (.string ⟨q.alg.toArray⟩)),.d (z04 q.impr),.d (.leaf (.string ⟨q.policy.toArray⟩)),.d (.leaf (.bool q.has)),c,.d (.leaf (.bool q.cert)),c']
structure PqB (n:Nd) (q:Rq.Req) (s:SF):Prop where
 e2:s.env 2=some (.e (.one (.ref 32 0)))
 e4:s.env 4=some (.e (.one (.ref 64 0)))
 e6:s.env 6=some (.e (.one (.ref 96 0)))
 h2:s.heap 32=some (.var 27 [.d (.leaf (.string ⟨#[]⟩)),.nilS,.d (.leaf (.string ⟨#[]⟩)),.d (.leaf (.bool false)),.nilS,.d (.leaf (.bool false)),.nilS])
 h4:s.heap 64=some (.var 61 [.d (.leaf (.int .i64 n.cls)),.d (.leaf (.int .i64 n.tag)),.d (.leaf (.bool n.cons)),.d (z04 n.bytes),.d (ndR n.kids)])
 ex:∃ c c':C,s.heap 96=some (.var 27 (reqC q c c'))∧(c = .nilS∧q.nonce=0∨c = .d (nuR .u32 (Nt.lim q.nonce)))∧(q.exts=[]∧c' = .nilS∨c' = .gr 1280 3 (exL q.exts)∧s.heap 1280=some (.own 87 3 q.exts.length))
structure PqI (n:Nd) (k:Nat) (s:SF):Prop where
 ex:∃ (i:Nat) (q:Rq.Req),i+k=8∧2≤i∧s.env 9=some (.e (iX i))∧((n.kids.drop i).take (8-i)).foldl Rq.z1a q=Rq.z0C n∧PqF q∧q.exts.length≤40*i∧PqB n q s
structure PqJ (n x:Nd) (q:Rq.Req) (i:Nat) (m:Nat) (s:SF):Prop where
 e9:s.env 9=some (.e (iX i))
 e10:s.env 10=some (.e (.one (.ref 160 0)))
 h10:s.heap 160=some (.var 61 [.d (.leaf (.int .i64 x.cls)),.d (.leaf (.int .i64 x.tag)),.d (.leaf (.bool x.cons)),.d (z04 x.bytes),.d (ndR x.kids)])
 ex:∃ j,j+m=40∧s.env 11=some (.e (iX j))∧PqB n {q with exts:=q.exts++(x.kids.take j).map fun y=>(Rq.exOf y).getD Rq.z0E} s
theorem zma {n:Nd} {m:Nat} (i:Nat) (h:Dr.mx n≤m):Dr.mx (Rq.kid n i)≤m:=by
 unfold Rq.kid;rw [List.getD_eq_getElem?_getD];cases hx:n.kids[i]? with
 | none=>exact Nat.zero_le m
 | some x=>
  have h6:=Dr.z2s (List.mem_of_getElem? hx);have h7:=Dr.z0Y n;exact (by omega:Dr.mx x≤m)
theorem kid_wt (n:Nd) (i:Nat):Dr.wt (Rq.kid n i)≤Dr.wt n:=by
 have h7:=z0W n;unfold Rq.kid;rw [List.getD_eq_getElem?_getD];cases hx:n.kids[i]? with
 | none=>exact (by show 10≤_;omega)
 | some x=>
  have h6:=Rq.zhe (List.mem_of_getElem? hx);exact (by omega:Dr.wt x≤Dr.wt n)
theorem zll {n:Nd} (hm:Dr.mx n≤20000):((Rq.exOf n).getD Rq.z0E).oid.length≤90000∧((Rq.exOf n).getD Rq.z0E).val.length≤20000:=by
 rw [←Rq.z94];unfold Rq.zd7;split
 ·have b0:=z1r 0 hm;have b1:=z1r (n.kids.length-1) hm;refine ⟨?_,b1⟩;show (Rq.z0O (Rq.kid n 0)).length≤90000;unfold Rq.z0O;cases hd:Od.decO (Rq.kid n 0).bytes with
  | none=>simp
  | some t=>have:=Rq.zfr hd;simp;omega
 ·exact ⟨by decide,by decide⟩
theorem z7H {n:Nd} (hm:n.bytes.length≤20000):(Rq.z0O n).length≤90000:=by
 unfold Rq.z0O;cases hd:Od.decO n.bytes with
 | none=>simp
 | some t=>have:=Rq.zfr hd;simp;omega
theorem ziI {n:Nd} {m:Nat} (hm:n.bytes.length≤m):(Nt.lim ((Dr.z1z n).getD 0)).length≤m:=by
 unfold Dr.z1z;split
 ·have h1:=Nt.zaP n.bytes;have h2:256^n.bytes.length≤Nt.B^n.bytes.length:=Nat.pow_le_pow_left (by decide) _;exact Nat.le_trans (Nt.zdw (Nat.lt_of_lt_of_le h1 h2)) hm
 ·exact Nat.zero_le m
def zd2 (b:List UInt8):T:=match Dr.read b with
 | some n=>if (Rq.z0i (Rq.z0C n)&&Dr.same (Rq.node (Rq.z0C n)) n)=true then .tup [reqX (Rq.z0C n),iX 0] else .tup [z1n,iX 60]
 | none=> .tup [z1n,iX 60]
theorem zi4 (b:List UInt8) (hb:b.length≤15000):OK gl 11 [rX (z04 b)] (zd2 b):=by
 cases hr:Dr.read b with
 | none=>
  have hp:zd2 b = .tup [z1n,iX 60]:=by unfold zd2;rw [hr]
  have cR:=zgm (gl:=gl) (by omega) hr;rw [hp];clear hb hr hp;refine z0d Tryz.func11 rfl (by show 1≤_;decide) ?_;unfold Tryz.f11;dsimp only;have d26:Drw 26 [2,4,6] [32,64,96,289,449,465,1169,1264,1280,1393,1521]:=⟨⟩;have z0:=@z1n.eq_def;exact am_
 | some n=>
  have hp:zd2 b=if (Rq.z0i (Rq.z0C n)&&Dr.same (Rq.node (Rq.z0C n)) n)=true then .tup [reqX (Rq.z0C n),iX 0] else .tup [z1n,iX 60]:=by unfold zd2;rw [hr]
  have cR:=zgk (gl:=gl) (by omega) hr;obtain ⟨h1,h2,h3,h4⟩:=zbx hb hr;rw [hp];have hwp:=z0W n;have hwl:=z1E n.kids;have hkx:∀ x∈n.kids,Dr.wt x≤100000∧Dr.mx x≤20000:=fun x hx=>by
   have h5:=Rq.zhe hx;have h6:=Dr.z2s hx;have h7:=Dr.z0Y n;exact ⟨by omega,by omega⟩
  have hk1:Dr.wt (Rq.kid n 1)≤100000∧Dr.mx (Rq.kid n 1)≤20000:=⟨Nat.le_trans (kid_wt n 1) (by omega),zma 1 h4⟩;have cK:=rKid (gl:=gl) n 1 (by omega) (by omega);have cI:=zgo (gl:=gl) (Rq.kid n 1) (by omega) hk1.2;have k0:(Rq.kid (Rq.kid (Rq.kid n 1) 0) 0).bytes.length≤20000:=z1r 0 (zma 0 hk1.2);have k1:(Rq.kid (Rq.kid n 1) 1).bytes.length≤20000:=z1r 1 hk1.2;obtain ⟨q0,hq0⟩:∃ q0:Rq.Req,q0=⟨Rq.z0O (Rq.kid (Rq.kid (Rq.kid n 1) 0) 0),(Rq.kid (Rq.kid n 1) 1).bytes,[],false,0,false,[]⟩:=⟨_,rfl⟩;have hG:((n.kids.drop 2).take (8-2)).foldl Rq.z1a q0=Rq.z0C n:=by rw [hq0];rfl
  have hF0:PqF q0:=by rw [hq0];exact ⟨z7H k0,by simp,by show (Rq.kid (Rq.kid n 1) 1).bytes.length≤_;omega,by simp,by simp [Nt.z1X]⟩
  have hq0':True→q0=⟨Rq.z0O (Rq.kid (Rq.kid (Rq.kid n 1) 0) 0),(Rq.kid (Rq.kid n 1) 1).bytes,[],false,0,false,[]⟩:=fun _=>hq0
  have hkl:n.kids.length≤100000:=by omega
  have hwn:Dr.wt n≤10000000:=by omega
  clear hq0 hr hp hk1 hwp hwl h1 h2 h3 hb;generalize Rq.z0O (Rq.kid (Rq.kid (Rq.kid n 1) 0) 0)=alg at *;generalize (Rq.kid (Rq.kid n 1) 1).bytes=imp at *;generalize Rq.kid n 1=n1 at *;refine z0d Tryz.func11 rfl (by show 1≤_;decide) ?_;unfold Tryz.f11;dsimp only;repeat' (first
   | ((refine z0J (y:= .seq (.seq (.region 26 _ _) _) _) ((fun s=>PqB n (Rq.z0C n) s∧PqF (Rq.z0C n)∧(Rq.z0C n).exts.length≤320)) ?_ ?_;intro Q hQ))
   | (first|refine sq_ ?_|refine bk_ ?_)
   | ((first|refine rg_ fun Q hQ=>?_|refine if_ fun Q hQ=>?_|refine dr_ (id:=26) [2,4,6] [32,64,96,289,449,465,1169,1264,1280,1393,1521] (by kernel_rfl) fun Q hQ=>?_|refine ca_ ?_|refine ce_ ?_ ?_|(refine z4s (cR) ?_;rintro t ws os' ⟨⟨x,rfl⟩,rfl,rfl⟩)|show EndK _ _ _ _ _ _ _ _);simp -implicitDefEqProofs [*])
   | ((first|refine bs_ ?_ ?_|refine cs_ ?_ ?_)<;>(intro hc;have hb:=hc;(try simp only [hk_,ne_eq] at hc);(try have ⟨hc1,hc2⟩:_∧_:=hc);(try subst_vars))<;>first|contradiction|(exfalso;omega)|(simp -implicitDefEqProofs [*])|skip)
   | ((first|refine aq_ ?_|refine z05 ?_|refine z06 ?_|refine z07 ?_);try simp only [sk_,↓reduceIte,Nat.reduceEqDiff])
   | (first|exact z0h|refine cn_ (by decide) ?_|refine cc_ (by intro e1 e2 e3;simp_all) ?_|refine And.intro (by decide +kernel) ?_)
   | ((with_reducible show OptK _ _);(simp (disch:=omega) only [if_pos,if_neg]);(try (simp -implicitDefEqProofs [*]))))
  ·clear cR cK cI;refine z0A (PqI n) 6 ?_ ?_
   ·exact ⟨2,q0,rfl,by omega,by simp,hG,hF0,by rw [hq0' trivial];simp,⟨by simp,by simp,by simp,by simp,by simp,.nilS,.nilS,by rw [hq0' trivial];simp [reqC],.inl ⟨rfl,by rw [hq0' trivial]⟩,.inl ⟨by rw [hq0' trivial],rfl⟩⟩⟩
   ·clear hG hF0 hq0';rintro k s ⟨i,q,hik,hi2,e9,hfold,hF,hel,⟨e2,e4,e6,h2,h4,c,c',h96,hk,hk'⟩⟩;simp only [reqC] at h96;by_cases hin:i<n.kids.length∧i<8
    ·obtain ⟨hil,hi8⟩:=hin;obtain ⟨k,rfl⟩:∃ k',k=k'+1:=⟨k-1,by omega⟩;obtain ⟨x,r,hd,hx,htk⟩:=z0t hil;obtain ⟨hxw,hxm⟩:=hkx x (List.mem_of_getElem? hx);have hx5:=z1E x.kids;have hx6:=z0W x;have hxk:x.kids.length≤10000:=by omega
     have hxs:∀ y∈x.kids,Dr.wt y≤10000000∧Dr.mx y≤20000:=fun y hy=>by
      have h5:=Rq.zhe hy;have h6:=Dr.z2s hy;have h7:=Dr.z0Y x;exact ⟨by omega,by omega⟩
     have hxb:x.bytes.length≤20000:=by have h7:=Dr.z0Y x;omega
     have hr1:n.kids.drop (i+1)=r:=by rw [←List.drop_drop,hd];rfl
     rw [hd,show 8-i=(8-(i+1))+1 by omega,List.take_succ_cons,List.foldl_cons,←hr1] at hfold;have hw:IntKind.wrap .i64 ((i:Int)+1)=(i:Int)+1:=z0f (by omega) (by omega);have hik2:i+1+k=8:=by omega
     have hi3:2≤i+1:=by omega
     have hel2:q.exts.length≤40*(i+1):=by omega
     clear hkx hr1 htk hx hx5 hx6 hik;obtain ⟨c0,hc0⟩:∃ c0,True→c0=c:=⟨c,fun _=>rfl⟩;obtain ⟨c1,hc1⟩:∃ c1,True→c1=c':=⟨c',fun _=>rfl⟩;by_cases hc2:x.cls=2
     ·have hst:Rq.z1a q x={q with exts:=q.exts++(x.kids.take 40).map fun y=>(Rq.exOf y).getD Rq.z0E}:=by unfold Rq.z1a;rw [if_pos hc2]
      rw [hst] at hfold;clear hst;have hF2:PqF {q with exts:=q.exts++(x.kids.take 40).map fun y=>(Rq.exOf y).getD Rq.z0E}:=⟨hF.alg,hF.pol,hF.impr,fun e he=>by
       rcases List.mem_append.1 he with h|h
       ·exact hF.ex e h
       ·obtain ⟨y,hy,rfl⟩:=List.mem_map.1 h;exact zll (hxs y (List.mem_of_mem_take hy)).2,hF.no⟩
      have hlen2:({q with exts:=q.exts++(x.kids.take 40).map fun y=>(Rq.exOf y).getD Rq.z0E}:Rq.Req).exts.length≤40*(i+1):=by
       simp only [List.length_append,List.length_map,List.length_take];omega
      clear hF;rcases hk with ⟨rfl,hn0⟩|rfl<;>rcases hk' with ⟨he0,rfl⟩|⟨rfl,h1280⟩
      all_goals
       repeat' (first
        | (first|refine sq_ ?_|refine bk_ ?_)
        | ((first|refine rg_ fun Q hQ=>?_|refine if_ fun Q hQ=>?_|refine dr_ (id:=26) [2,4,6] [32,64,96,289,449,465,1169,1264,1280,1393,1521] (by kernel_rfl) fun Q hQ=>?_|refine ca_ ?_|refine ce_ ?_ ?_|show EndK _ _ _ _ _ _ _ _);simp -implicitDefEqProofs [*])
        | ((first|refine bs_ ?_ ?_|refine cs_ ?_ ?_)<;>(intro hc;have hb:=hc;(try simp only [hk_,ne_eq] at hc);(try have ⟨hc1,hc2⟩:_∧_:=hc);(try subst_vars))<;>first|contradiction|(exfalso;omega)|(simp -implicitDefEqProofs [*])|skip)
        | ((first|refine aq_ ?_|refine z05 ?_|refine z06 ?_|refine z07 ?_);try simp only [sk_,↓reduceIte,Nat.reduceEqDiff])
        | (first|exact z0h|refine cn_ (by decide) ?_|refine cc_ (by intro e1 e2 e3;simp_all) ?_|refine And.intro (by decide +kernel) ?_)
        | ((with_reducible show OptK _ _);(simp (disch:=omega) only [if_pos,if_neg]);(try (simp -implicitDefEqProofs [*]))))
       refine z0A (PqJ n x q i) 40 ?_ ?_
       ·have h0:({q with exts:=q.exts++(x.kids.take 0).map fun y=>(Rq.exOf y).getD Rq.z0E}:Rq.Req)=q:=by simp
        refine ⟨by simp [e9],by simp,by simp [hc2],0,rfl,by simp,?_⟩;rw [h0];exact ⟨by simp [e2],by simp [e4],by simp [e6],by simp [h2],by simp [h4],c0,c1,by simp [h96,reqC,hc0,hc1],by first|exact .inl ⟨hc0 trivial,by assumption⟩|exact .inr (hc0 trivial),by first|exact .inl ⟨by assumption,hc1 trivial⟩|exact .inr ⟨hc1 trivial,by simp [*]⟩⟩
       ·clear e9 e2 e4 e6 h2 h4 h96 hd
        (try clear hn0);(try clear he0);(try clear h1280)
        rintro m s ⟨e9,e10,h10,j,hj,e11,⟨e2,e4,e6,h2,h4,c',c'',h96,hk,hk'⟩⟩;simp only [reqC] at h96;clear hc0 hc1 c0 c1;obtain ⟨c0,hc0⟩:∃ c0,True→c0=c':=⟨c',fun _=>rfl⟩;obtain ⟨c1,hc1⟩:∃ c1,True→c1=c'':=⟨c'',fun _=>rfl⟩;by_cases hjk:j<x.kids.length∧j<40
        ·obtain ⟨hjl,hj40⟩:=hjk;obtain ⟨m,rfl⟩:∃ m',m=m'+1:=⟨m-1,by omega⟩;obtain ⟨y,r2,hdy,hyx,htk2⟩:=z0t hjl;obtain ⟨hyw,hym⟩:=hxs y (List.mem_of_getElem? hyx);have cE:OK gl 45 [nX y] (.tup [exX ((Rq.exOf y).getD Rq.z0E),bX (Rq.exOf y).isSome]):=rExtOf (gl:=gl) y hyw hym;have hwj:IntKind.wrap .i64 ((j:Int)+1)=(j:Int)+1:=z0f (by omega) (by omega);have hjm:j+1+m=40:=by omega
         obtain ⟨L,hL⟩:∃ L,L=q.exts++(x.kids.take j).map fun y=>(Rq.exOf y).getD Rq.z0E:=⟨_,rfl⟩
         have hLl:L.length≤40*(i+1):=by rw [hL,List.length_append,List.length_map,List.length_take];omega
         have hL2:True→q.exts++(x.kids.take (j+1)).map (fun y=>(Rq.exOf y).getD Rq.z0E)=L++[(Rq.exOf y).getD Rq.z0E]:=fun _=>by rw [htk2,List.map_append,←List.append_assoc,←hL];rfl
         have hn5:(L.length*3+3) / 3*48≤140737488355328:=by omega
         have hn6:L.length*3+3≤140737488355328:=by omega
         rw [←hL] at hk';clear hL hxs hfold hyx htk2 hyw hym hj;generalize (Rq.exOf y).getD Rq.z0E=e at *;generalize (Rq.exOf y).isSome=v at *;obtain ⟨eo,ec,ev⟩:=e;rcases hk with ⟨rfl,hn0⟩|rfl<;>rcases hk' with ⟨he,rfl⟩|⟨rfl,h1280⟩
         all_goals
          (try (replace he:True→L=[]:=fun _=>he))
          repeat' (first
           | (first|refine sq_ ?_|refine bk_ ?_)
           | ((first|refine rg_ fun Q hQ=>?_|refine if_ fun Q hQ=>?_|refine dr_ (id:=26) [2,4,6] [32,64,96,289,449,465,1169,1264,1280,1393,1521] (by kernel_rfl) fun Q hQ=>?_|refine ca_ ?_|refine ce_ ?_ ?_|show EndK _ _ _ _ _ _ _ _);simp -implicitDefEqProofs [*,z08])
           | ((first|refine bs_ ?_ ?_|refine cs_ ?_ ?_)<;>(intro hc;have hb:=hc;(try simp only [hk_,ne_eq] at hc);(try have ⟨hc1,hc2⟩:_∧_:=hc);(try subst_vars))<;>first|contradiction|(exfalso;omega)|(simp -implicitDefEqProofs [*,z08])|skip)
           | ((first|refine aq_ ?_|refine z05 ?_|refine z06 ?_|refine z07 ?_);try simp only [sk_,↓reduceIte,Nat.reduceEqDiff])
           | (first|exact z0h|refine cn_ (by decide) ?_|refine cc_ (by intro e1 e2 e3;simp_all) ?_|refine And.intro (by decide +kernel) ?_)
           | ((with_reducible show OptK _ _);(simp (disch:=omega) only [if_pos,if_neg]);(try (simp -implicitDefEqProofs [*,z08]))))
         all_goals exact ⟨m,by omega,⟨by simp [e9],by simp [e10],by simp [h10],j+1,hjm,by simp [hwj],⟨by simp [e2],by simp [e4],by simp [e6],by simp [h2],by simp [h4],c0,.gr 1280 3 (exL (L++[⟨eo,ec,ev⟩])),by (try have he:=he trivial;subst he);simp [h96,reqC,hc0,exL,z2W],by first|exact .inl ⟨hc0 trivial,by assumption⟩|exact .inr (hc0 trivial),.inr ⟨by rw [hL2 trivial],by rw [hL2 trivial];(try have he:=he trivial;subst he);simp [*]⟩⟩⟩⟩
        ·have htk:x.kids.take j=x.kids.take 40:=by
          by_cases h:j<x.kids.length
          ·rw [show j=40 by omega]
          ·rw [List.take_of_length_le (by omega),List.take_of_length_le (by omega)]
         rw [htk] at hk';clear htk hxs;generalize (x.kids.take 40).map (fun y=>(Rq.exOf y).getD Rq.z0E)=L at *;rcases hk with ⟨rfl,hn0⟩|rfl<;>rcases hk' with ⟨he,rfl⟩|⟨rfl,h1280⟩<;>by_cases hjl:j<x.kids.length
         all_goals
          (try have hj40:¬(j<40):=fun h=>hjk ⟨hjl,h⟩)
          clear hjk;repeat' (first
           | (first|refine sq_ ?_|refine bk_ ?_)
           | ((first|refine rg_ fun Q hQ=>?_|refine if_ fun Q hQ=>?_|refine dr_ (id:=26) [2,4,6] [32,64,96,289,449,465,1169,1264,1280,1393,1521] (by kernel_rfl) fun Q hQ=>?_|refine ca_ ?_|refine ce_ ?_ ?_|show EndK _ _ _ _ _ _ _ _);simp -implicitDefEqProofs [*])
           | ((first|refine bs_ ?_ ?_|refine cs_ ?_ ?_)<;>(intro hc;have hb:=hc;(try simp only [hk_,ne_eq] at hc);(try have ⟨hc1,hc2⟩:_∧_:=hc);(try subst_vars))<;>first|contradiction|(exfalso;omega)|(simp -implicitDefEqProofs [*])|skip)
           | ((first|refine aq_ ?_|refine z05 ?_|refine z06 ?_|refine z07 ?_);try simp only [sk_,↓reduceIte,Nat.reduceEqDiff])
           | (first|exact z0h|refine cn_ (by decide) ?_|refine cc_ (by intro e1 e2 e3;simp_all) ?_|refine And.intro (by decide +kernel) ?_)
           | ((with_reducible show OptK _ _);(simp (disch:=omega) only [if_pos,if_neg]);(try (simp -implicitDefEqProofs [*]))))
         all_goals exact ⟨k,by omega,⟨i+1,{q with exts:=q.exts++L},hik2,hi3,by simp [hw],hfold,hF2,hlen2,⟨by simp [e2],by simp [e4],by simp [e6],by simp [h2],by simp [h4],c0,c1,by simp [h96,reqC,hc0,hc1],by first|exact .inl ⟨hc0 trivial,by assumption⟩|exact .inr (hc0 trivial),by first|exact .inl ⟨by assumption,hc1 trivial⟩|exact .inr ⟨hc1 trivial,by simp [*]⟩⟩⟩⟩
     ·by_cases h6:x.tag=6
      ·have hst:Rq.z1a q x={q with policy:=Rq.z0O x}:=by unfold Rq.z1a;rw [if_neg hc2,if_pos h6]
       rw [hst] at hfold;have cO:OK gl 46 [nX x] (.e (sX ⟨(Rq.z0O x).toArray⟩)):=z7B (gl:=gl) x hxb;have hF2:PqF {q with policy:=Rq.z0O x}:=⟨hF.alg,z7H hxb,hF.impr,hF.ex,hF.no⟩;have hlen2:({q with policy:=Rq.z0O x}:Rq.Req).exts.length≤40*(i+1):=hel2;clear hst hF hxs;generalize Rq.z0O x=o at *;simp only [nX,h6] at cO;rcases hk with ⟨rfl,hn0⟩|rfl<;>rcases hk' with ⟨he0,rfl⟩|⟨rfl,h1280⟩
       all_goals
        repeat' (first
         | (first|refine sq_ ?_|refine bk_ ?_)
         | ((first|refine rg_ fun Q hQ=>?_|refine if_ fun Q hQ=>?_|refine dr_ (id:=26) [2,4,6] [32,64,96,289,449,465,1169,1264,1280,1393,1521] (by kernel_rfl) fun Q hQ=>?_|refine ca_ ?_|refine ce_ ?_ ?_|show EndK _ _ _ _ _ _ _ _);simp -implicitDefEqProofs [*])
         | ((first|refine bs_ ?_ ?_|refine cs_ ?_ ?_)<;>(intro hc;have hb:=hc;(try simp only [hk_,ne_eq] at hc);(try have ⟨hc1,hc2⟩:_∧_:=hc);(try subst_vars))<;>first|contradiction|(exfalso;omega)|(simp -implicitDefEqProofs [*])|skip)
         | ((first|refine aq_ ?_|refine z05 ?_|refine z06 ?_|refine z07 ?_);try simp only [sk_,↓reduceIte,Nat.reduceEqDiff])
         | (first|exact z0h|refine cn_ (by decide) ?_|refine cc_ (by intro e1 e2 e3;simp_all) ?_|refine And.intro (by decide +kernel) ?_)
         | ((with_reducible show OptK _ _);(simp (disch:=omega) only [if_pos,if_neg]);(try (simp -implicitDefEqProofs [*]))))
        exact ⟨k,by omega,⟨i+1,{q with policy:=o},hik2,hi3,by simp [hw],hfold,hF2,hlen2,⟨by simp [e2],by simp [e4],by simp [e6],by simp [h2],by simp [h4],c0,c1,by simp [h96,reqC,hc0,hc1],by first|exact .inl ⟨hc0 trivial,by assumption⟩|exact .inr (hc0 trivial),by first|exact .inl ⟨by assumption,hc1 trivial⟩|exact .inr ⟨hc1 trivial,by simp [*]⟩⟩⟩⟩
      ·by_cases h2':x.tag=2
       ·have hst:Rq.z1a q x={q with has:=true,nonce:=(Dr.z1z x).getD 0}:=by unfold Rq.z1a;rw [if_neg hc2,if_neg h6,if_pos h2']
        rw [hst] at hfold;have cN:OK gl 47 [nX x] (.tup [rX (nuR .u32 (Nt.lim ((Dr.z1z x).getD 0))),bX (Dr.z1z x).isSome]):=rNatOf (gl:=gl) x (by omega) hxm;have hF2:PqF {q with has:=true,nonce:=(Dr.z1z x).getD 0}:=⟨hF.alg,hF.pol,hF.impr,hF.ex,ziI (by omega)⟩;have hlen2:({q with has:=true,nonce:=(Dr.z1z x).getD 0}:Rq.Req).exts.length≤40*(i+1):=hel2;clear hst hF hxs;generalize (Dr.z1z x).getD 0=o at *;generalize (Dr.z1z x).isSome=v at *;simp only [nX,h2'] at cN;rcases hk with ⟨rfl,hn0⟩|rfl<;>rcases hk' with ⟨he0,rfl⟩|⟨rfl,h1280⟩
        all_goals
         repeat' (first
          | (first|refine sq_ ?_|refine bk_ ?_)
          | ((first|refine rg_ fun Q hQ=>?_|refine if_ fun Q hQ=>?_|refine dr_ (id:=26) [2,4,6] [32,64,96,289,449,465,1169,1264,1280,1393,1521] (by kernel_rfl) fun Q hQ=>?_|refine ca_ ?_|refine ce_ ?_ ?_|show EndK _ _ _ _ _ _ _ _);simp -implicitDefEqProofs [*])
          | ((first|refine bs_ ?_ ?_|refine cs_ ?_ ?_)<;>(intro hc;have hb:=hc;(try simp only [hk_,ne_eq] at hc);(try have ⟨hc1,hc2⟩:_∧_:=hc);(try subst_vars))<;>first|contradiction|(exfalso;omega)|(simp -implicitDefEqProofs [*])|skip)
          | ((first|refine aq_ ?_|refine z05 ?_|refine z06 ?_|refine z07 ?_);try simp only [sk_,↓reduceIte,Nat.reduceEqDiff])
          | (first|exact z0h|refine cn_ (by decide) ?_|refine cc_ (by intro e1 e2 e3;simp_all) ?_|refine And.intro (by decide +kernel) ?_)
          | ((with_reducible show OptK _ _);(simp (disch:=omega) only [if_pos,if_neg]);(try (simp -implicitDefEqProofs [*]))))
         exact ⟨k,by omega,⟨i+1,{q with has:=true,nonce:=o},hik2,hi3,by simp [hw],hfold,hF2,hlen2,⟨by simp [e2],by simp [e4],by simp [e6],by simp [h2],by simp [h4],.d (nuR .u32 (Nt.lim o)),c1,by simp [h96,reqC,hc0,hc1],.inr rfl,by first|exact .inl ⟨by assumption,hc1 trivial⟩|exact .inr ⟨hc1 trivial,by simp [*]⟩⟩⟩⟩
       ·by_cases h1':x.tag=1
        ·have hst:Rq.z1a q x={q with cert:=true}:=by unfold Rq.z1a;rw [if_neg hc2,if_neg h6,if_neg h2',if_pos h1']
         rw [hst] at hfold;have hF2:PqF {q with cert:=true}:=⟨hF.alg,hF.pol,hF.impr,hF.ex,hF.no⟩;have hlen2:({q with cert:=true}:Rq.Req).exts.length≤40*(i+1):=hel2;clear hst hF hxs;rcases hk with ⟨rfl,hn0⟩|rfl<;>rcases hk' with ⟨he0,rfl⟩|⟨rfl,h1280⟩
         all_goals
          repeat' (first
           | (first|refine sq_ ?_|refine bk_ ?_)
           | ((first|refine rg_ fun Q hQ=>?_|refine if_ fun Q hQ=>?_|refine dr_ (id:=26) [2,4,6] [32,64,96,289,449,465,1169,1264,1280,1393,1521] (by kernel_rfl) fun Q hQ=>?_|refine ca_ ?_|refine ce_ ?_ ?_|show EndK _ _ _ _ _ _ _ _);simp -implicitDefEqProofs [*])
           | ((first|refine bs_ ?_ ?_|refine cs_ ?_ ?_)<;>(intro hc;have hb:=hc;(try simp only [hk_,ne_eq] at hc);(try have ⟨hc1,hc2⟩:_∧_:=hc);(try subst_vars))<;>first|contradiction|(exfalso;omega)|(simp -implicitDefEqProofs [*])|skip)
           | ((first|refine aq_ ?_|refine z05 ?_|refine z06 ?_|refine z07 ?_);try simp only [sk_,↓reduceIte,Nat.reduceEqDiff])
           | (first|exact z0h|refine cn_ (by decide) ?_|refine cc_ (by intro e1 e2 e3;simp_all) ?_|refine And.intro (by decide +kernel) ?_)
           | ((with_reducible show OptK _ _);(simp (disch:=omega) only [if_pos,if_neg]);(try (simp -implicitDefEqProofs [*]))))
          exact ⟨k,by omega,⟨i+1,{q with cert:=true},hik2,hi3,by simp [hw],hfold,hF2,hlen2,⟨by simp [e2],by simp [e4],by simp [e6],by simp [h2],by simp [h4],c0,c1,by simp [h96,reqC,hc0,hc1],by first|exact .inl ⟨hc0 trivial,by assumption⟩|exact .inr (hc0 trivial),by first|exact .inl ⟨by assumption,hc1 trivial⟩|exact .inr ⟨hc1 trivial,by simp [*]⟩⟩⟩⟩
        ·have hst:Rq.z1a q x=q:=by unfold Rq.z1a;rw [if_neg hc2,if_neg h6,if_neg h2',if_neg h1']
         rw [hst] at hfold;have hF2:=hF;have hlen2:=hel2;clear hst hF hxs;rcases hk with ⟨rfl,hn0⟩|rfl<;>rcases hk' with ⟨he0,rfl⟩|⟨rfl,h1280⟩
         all_goals
          repeat' (first
           | (first|refine sq_ ?_|refine bk_ ?_)
           | ((first|refine rg_ fun Q hQ=>?_|refine if_ fun Q hQ=>?_|refine dr_ (id:=26) [2,4,6] [32,64,96,289,449,465,1169,1264,1280,1393,1521] (by kernel_rfl) fun Q hQ=>?_|refine ca_ ?_|refine ce_ ?_ ?_|show EndK _ _ _ _ _ _ _ _);simp -implicitDefEqProofs [*])
           | ((first|refine bs_ ?_ ?_|refine cs_ ?_ ?_)<;>(intro hc;have hb:=hc;(try simp only [hk_,ne_eq] at hc);(try have ⟨hc1,hc2⟩:_∧_:=hc);(try subst_vars))<;>first|contradiction|(exfalso;omega)|(simp -implicitDefEqProofs [*])|skip)
           | ((first|refine aq_ ?_|refine z05 ?_|refine z06 ?_|refine z07 ?_);try simp only [sk_,↓reduceIte,Nat.reduceEqDiff])
           | (first|exact z0h|refine cn_ (by decide) ?_|refine cc_ (by intro e1 e2 e3;simp_all) ?_|refine And.intro (by decide +kernel) ?_)
           | ((with_reducible show OptK _ _);(simp (disch:=omega) only [if_pos,if_neg]);(try (simp -implicitDefEqProofs [*]))))
          exact ⟨k,by omega,⟨i+1,q,hik2,hi3,by simp [hw],hfold,hF2,hlen2,⟨by simp [e2],by simp [e4],by simp [e6],by simp [h2],by simp [h4],c0,c1,by simp [h96,reqC,hc0,hc1],by first|exact .inl ⟨hc0 trivial,by assumption⟩|exact .inr (hc0 trivial),by first|exact .inl ⟨by assumption,hc1 trivial⟩|exact .inr ⟨hc1 trivial,by simp [*]⟩⟩⟩⟩
    ·have hq:Rq.z0C n=q:=by
      rw [←hfold];by_cases h:i<n.kids.length
      ·rw [show 8-i=0 by omega];rfl
      ·rw [List.drop_eq_nil_of_le (by omega),List.take_nil];rfl
     have hF2:=hF;have hlen2:q.exts.length≤320:=by omega
     clear hfold hkx hF;obtain ⟨c0,hc0⟩:∃ c0,True→c0=c:=⟨c,fun _=>rfl⟩;obtain ⟨c1,hc1⟩:∃ c1,True→c1=c':=⟨c',fun _=>rfl⟩;rcases hk with ⟨rfl,hn0⟩|rfl<;>rcases hk' with ⟨he0,rfl⟩|⟨rfl,h1280⟩<;>by_cases hil:i<n.kids.length
     all_goals
      (try have hi8:¬(i<8):=fun h=>hin ⟨hil,h⟩)
      clear hin;repeat' (first
       | (first|refine sq_ ?_|refine bk_ ?_)
       | ((first|refine rg_ fun Q hQ=>?_|refine if_ fun Q hQ=>?_|refine dr_ (id:=26) [2,4,6] [32,64,96,289,449,465,1169,1264,1280,1393,1521] (by kernel_rfl) fun Q hQ=>?_|refine ca_ ?_|refine ce_ ?_ ?_|show EndK _ _ _ _ _ _ _ _);simp -implicitDefEqProofs [*])
       | ((first|refine bs_ ?_ ?_|refine cs_ ?_ ?_)<;>(intro hc;have hb:=hc;(try simp only [hk_,ne_eq] at hc);(try have ⟨hc1,hc2⟩:_∧_:=hc);(try subst_vars))<;>first|contradiction|(exfalso;omega)|(simp -implicitDefEqProofs [*])|skip)
       | ((first|refine aq_ ?_|refine z05 ?_|refine z06 ?_|refine z07 ?_);try simp only [sk_,↓reduceIte,Nat.reduceEqDiff])
       | (first|exact z0h|refine cn_ (by decide) ?_|refine cc_ (by intro e1 e2 e3;simp_all) ?_|refine And.intro (by decide +kernel) ?_)
       | ((with_reducible show OptK _ _);(simp (disch:=omega) only [if_pos,if_neg]);(try (simp -implicitDefEqProofs [*]))))
      (try rw [hq])
      exact ⟨⟨by simp [e2],by simp [e4],by simp [e6],by simp [h2],by simp [h4],c0,c1,by simp [h96,reqC,hc0,hc1],by first|exact .inl ⟨hc0 trivial,by assumption⟩|exact .inr (hc0 trivial),by first|exact .inl ⟨by assumption,hc1 trivial⟩|exact .inr ⟨hc1 trivial,by simp [*]⟩⟩,hF2,hlen2⟩
  ·clear cR cK cI hG hF0 hq0' hkx;rintro s ⟨⟨e2,e4,e6,h2,h4,c,c',h96,hk,hk'⟩,hF,hel⟩;simp only [reqC] at h96;have hfit:Rq.zaU (Rq.z0C n):=⟨hF.alg,hF.pol,by have:=hF.impr;omega,fun e he=>(hF.ex e he).1,fun e he=>by have:=(hF.ex e he).2;omega,by omega⟩;have c1:=zby (gl:=gl) (Rq.z0C n) (Nt.lim (Rq.z0C n).nonce) hfit (Nt.z5z _) (Nt.zbX _) hF.no;have c2:Rq.z0i (Rq.z0C n)=true→OK gl 39 [reqY (Rq.z0C n) (Nt.lim (Rq.z0C n).nonce)] (.e (nX (Rq.node (Rq.z0C n)))):=fun hr=>zer (gl:=gl) (Rq.z0C n) (Nt.lim (Rq.z0C n).nonce) hr hfit (Nt.z5z _) (Nt.zbX _) hF.no
   have c3:Rq.z0i (Rq.z0C n)=true→OK gl 48 [nX (Rq.node (Rq.z0C n)),nX n] (.b (Dr.same (Rq.node (Rq.z0C n)) n)):=fun hr=>by
    have h1:=Rq.z9N (Rq.z2O hr);have h2:=Rq.z3a hr;have h3:=Rq.zje (l:=(Rq.z0C n).exts) (m:=110001) (fun e he=>by have:=hF.ex e he;omega);have h4:=hF.alg;have h5:=hF.pol;have h6:=hF.impr;unfold Rq.z2r at h1;have h7:110001*(Rq.z0C n).exts.length≤110001*32:=Nat.mul_le_mul_left _ h2;exact zlS (gl:=gl) (Rq.node (Rq.z0C n)) n (by omega) hwn
   clear hfit hF hel hwn;generalize Rq.node (Rq.z0C n)=m at *;generalize Dr.same m n=v at *;generalize Rq.z0C n=q at *;generalize Rq.z0i q=u at *;obtain ⟨alg,impr,pol,has,nonce,cert,exts⟩:=q;simp only at c1 c2 c3 h96 hk hk';rcases hk with ⟨rfl,rfl⟩|rfl<;>rcases hk' with ⟨rfl,rfl⟩|⟨rfl,h1280⟩<;>cases u
   all_goals
    (try have c2:=c2 rfl)
    (try have c3:=c3 rfl)
    (try simp only [Nt.z1X,reqY] at c1 c2)
    have d26:Drw 26 [2,4,6] [32,64,96,289,449,465,1169,1264,1280,1393,1521]:=⟨⟩;have z0:=@z1n.eq_def;exact am_
   all_goals (rw [Nt.z1X];rfl)

end Am
end Go.Proofs.YtgmppconibklcaaGreatDoor

namespace Go.Proofs.YtgmppconibklcaaGreatDoor
open Go Go.RowKit
namespace Am
variable {gl:Nat→Option (List D)}
theorem zkw (b:List UInt8):zd2 b=z62 b:=by
 unfold zd2 z62;cases hr:Dr.read b with
 | none=>rfl
 | some n=>
  have h:=Rq.zhW (Dr.z95 hr);show (if (Rq.z0i (Rq.z0C n)&&Dr.same (Rq.node (Rq.z0C n)) n)=true then T.tup [reqX (Rq.z0C n),iX 0] else .tup [z1n,iX 60])=match Rq.z34 n with
   | some q=> .tup [reqX q,iX 0]
   | none=> .tup [z1n,iX 60]
  rw [←h];unfold Rq.zhX;by_cases hc:(Rq.z0i (Rq.z0C n)&&Dr.same (Rq.node (Rq.z0C n)) n)=true
  ·rw [if_pos hc,if_pos hc]
  ·rw [if_neg hc,if_neg hc]
theorem zii {p:Prop} (h:p:=by
  refine z0d Tryz.func3 rfl (by show 2≤_;decide) ?_;unfold Tryz.f3;dsimp only;have d7:Drw 7 [2,5,6,7,8,9,10,11,12] [32,144,176,225,321,369,449,529,609]:=⟨⟩;exact am_):p:=h
theorem zbv (q:Rq.Req) (ls:List Nat) (b:List UInt8) (lo:Bool) (cL:OK gl 6 [reqY q ls] (.b lo)) (h:lo=true∨(lo=false∧4000<b.length)):OK gl 3 [reqY q ls,rX (z04 b)] (.b true):=by
 have cK:=zf6 (gl:=gl);rcases h with rfl|⟨rfl,h⟩;all_goals
  exact zii
theorem zhO (q:Rq.Req) (ls:List Nat) (b:List UInt8) (cL:OK gl 6 [reqY q ls] (.b false)) (hb:b.length≤4000) (x:List UInt8) (e g:Int) (c:Rq.Req) (cl:List Nat) (f:Bool)
  (A1:OK gl 8 [reqY q ls] (.tup [rX (z04 x),iX e])) (A2:OK gl 9 [reqY q ls] (.tup [rX (z04 x),iX e]))
  (B1:OK gl 10 [rX (z04 b)] (.tup [reqY c cl,iX g])) (B2:OK gl 11 [rX (z04 b)] (.tup [reqY c cl,iX g]))
  (S:OK gl 13 [reqY c cl,reqY c cl] (.b true)) (F1:OK gl 14 [reqY q ls] (.b f)) (F2:OK gl 15 [reqY q ls] (.b f)):
  OK gl 3 [reqY q ls,rX (z04 b)] (.b true):=by
 have cK:=zf6 (gl:=gl);have cB:OK gl 12 [rX (z04 x),rX (z04 x)] (.b true):=by
  have h:=zgj (gl:=gl) x x
  rwa [beq_self_eq_true] at h
 exact zii
structure zo8 (q:Rq.Req) (ls:List Nat):Prop where
 a1:q.alg.length≤140737488355328
 a2:q.impr.length≤140737488355328
 a3:q.policy.length≤140737488355328
 a4:ls.length≤140737488355328
 a5:q.exts.length≤140737488355328
 a6:∀ e∈q.exts,e.oid.length≤140737488355328∧e.val.length≤140737488355328
theorem zcO (q:Rq.Req) (ls:List Nat) (b:List UInt8) (hz:zo8 q ls) (hL:Nt.Lb ls) (hv:Nt.vl ls=q.nonce):OK gl 3 [reqY q ls,rX (z04 b)] (.b true):=by
 have cL:=lLong (gl:=gl) q ls (zkH q ls hz.a1 hz.a2 hz.a3 hz.a4 hz.a5 hz.a6);by_cases h1:szQ q ls>6000
 ·exact zbv q ls b _ cL (.inl (decide_eq_true h1))
 rw [decide_eq_false h1] at cL;by_cases h3:4000<b.length
 ·exact zbv q ls b _ cL (.inr ⟨rfl,h3⟩)
 have hq:=zlN q.exts ((q.alg.length:Int)+q.impr.length+q.policy.length+4*(ls.length:Int)) (by unfold szQ at h1;omega);have hq1:Rq.z2r q≤6000:=by unfold Rq.z2r;omega
 have hq2:ls.length≤1500:=by omega
 have hmx:Rq.z0i q=true→Dr.mx (Rq.node q)≤20000:=fun hr=>by
  obtain ⟨o,h2,h3,h4⟩:=Rq.z69 hr (by omega);have:=Dr.ziK _ h2;omega
 have cP:=z7G (gl:=gl) b (by omega);have cR:=zi4 (gl:=gl) b (by omega);rw [zkw] at cR;have cW:=zbd (gl:=gl) q ls (Rq.z4Y hq1) hL hv (by omega);have cV:=zi1 (gl:=gl) q ls (Rq.z4Y hq1) hmx hL hv (by omega);unfold z62 at cP cR;cases hp:(Dr.read b).bind Rq.z34 with
 | none=>
  rw [hp] at cP cR;rw [zfP] at cP cR;exact zhO q ls b cL (by omega) _ _ _ _ _ _ cW cV cP cR (zeq zhc zhc [] [] Nt.Lb.nil Nt.Lb.nil (by decide) (by decide) (by decide)) (tFits q ls) (rFits q ls)
 | some c=>
  rw [hp] at cP cR;simp only [zmP] at cP cR;obtain ⟨n,hn,hc⟩:=Option.bind_eq_some_iff.1 hp;obtain ⟨hr,_⟩:=Rq.z8X (Dr.z95 hn) hc;have hl:(Nt.lim c.nonce).length≤5:=ziQ (by have:=Rq.z2O hr;omega);have hx:=Rq.z3a hr;have hs:=zeq (gl:=gl) c c (Nt.lim c.nonce) (Nt.lim c.nonce) (Nt.z5z _) (Nt.z5z _) (by omega) (by omega) (by omega);have h0:cmpN (Nt.lim c.nonce) (Nt.lim c.nonce)=0:=(zjx (Nt.z5z _) (Nt.z5z _)).2 rfl;have he:z1P c c (Nt.lim c.nonce) (Nt.lim c.nonce)=true:=by simp [z1P,h0,z8S]
  rw [he] at hs;exact zhO q ls b cL (by omega) _ _ _ _ _ _ cW cV cP cR hs (tFits q ls) (rFits q ls)
end Am
end Go.Proofs.YtgmppconibklcaaGreatDoor

