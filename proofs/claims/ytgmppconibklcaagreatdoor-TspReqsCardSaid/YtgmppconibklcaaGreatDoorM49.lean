/- Part of the proof. No condition. -/
import Derived.Test.YtgmppconibklcaaGreatDoorM48
import Derived.Test.YtgmppconibklcaaGreatDoorM17
import Derived.Test.YtgmppconibklcaaGreatDoorM28
import Derived.Test.YtgmppconibklcaaGreatDoorM47
import Derived.Test.YtgmppconibklcaaGreatDoorM35
import Derived.Test.YtgmppconibklcaaGreatDoorM31
import Derived.Test.YtgmppconibklcaaGreatDoorM37
set_option maxHeartbeats 40000000
set_option maxRecDepth 100000
set_option linter.unusedVariables false
set_option linter.unusedSimpArgs false
namespace Go.Proofs.YtgmppconibklcaaGreatDoor
open Go Go.RowKit
namespace Am
variable {gl:Nat→Option (List D)}
theorem rWhole (n:Nd) (hw:Dr.wt n≤10000000) (hm:Dr.mx n≤20000):OK gl 101 [nX n] (.b (Dr.whole n)):=by
 have c1:=zi2 (gl:=gl) n hw hm;have he:Dr.whole n=(n.cls==0&&(n.tag==2||n.tag==10)&&Dr.right n):=rfl;rw [he];generalize Dr.right n=R at *;clear hw hm he;obtain ⟨c,t,k,b,l⟩:=n;have c1:OK gl 163 [mkY c t k b l] (.b R):=c1;show OK gl _ [mkY c t k b l] (.b (c==0&&(t==2||t==10)&&R));refine z0d Tryz.func101 rfl (by show 1≤_;decide) ?_;unfold Tryz.f101;dsimp only;exact am_
theorem zfR {n:Nd} (h:Dr.whole n=true):∃ x l,n.bytes=x::l:=by
 cases hb:n.bytes with
 | cons x l=>exact ⟨x,l,rfl⟩
 | nil=>
  obtain ⟨c,t,k,b,l⟩:=n;change b=[] at hb;subst hb;unfold Dr.whole at h;simp only [Bool.and_eq_true,Bool.or_eq_true,beq_iff_eq] at h;obtain ⟨⟨hc,ht⟩,hr⟩:=h;change c=0 at hc;subst hc;have hr:(Dr.put (.mk 0 t k [] l)).isSome=true:=hr;have ht:t=2∨t=10:=ht;have hmay:Dr.may 0 t true=false:=by rcases ht with rfl|rfl<;>rfl
  have hval:Dr.value t []=false:=by rcases ht with rfl|rfl<;>rfl
  exfalso;cases k with
  | true=>rw [zdg hmay] at hr;cases hr
  | false=>
   cases l with
   | nil=>rw [zdf hval] at hr;cases hr
   | cons a l=>rw [zm2 (by simp)] at hr;cases hr
theorem rNatOf (n:Nd) (hw:Dr.wt n≤10000000) (hm:Dr.mx n≤20000):OK gl 47 [nX n] (.tup [rX (nuR .u32 (Nt.lim ((Dr.z1z n).getD 0))),bX (Dr.z1z n).isSome]):=by
 have c1:=rWhole (gl:=gl) n hw hm;have hbl:n.bytes.length≤20000:=by have:=Dr.z0Y n;omega
 have c2:=zmV (gl:=gl) n.bytes (by omega);have he:Dr.z1z n=if Dr.whole n=true∧(n.bytes.getD 0 0).toNat≤127 then some (Nt.be n.bytes) else none:=rfl
 have hcons:=zfR (n:=n);generalize Dr.z1z n=o at *;generalize Nt.be n.bytes=v at *;cases hwh:Dr.whole n with
 | false=>
  rw [hwh] at c1 he;simp at he;subst he;clear hcons c2 hwh;refine z0d Tryz.func47 rfl (by show 1≤_;decide) ?_;unfold Tryz.f47;dsimp only;repeat' (first
   | (first|refine sq_ ?_|refine bk_ ?_)
   | ((first|refine rg_ fun Q hQ=>?_|refine if_ fun Q hQ=>?_|refine ca_ ?_|show EndK _ _ _ _ _ _ _ _);simp -implicitDefEqProofs [*])
   | ((first|refine bs_ ?_ ?_|refine cs_ ?_ ?_)<;>(intro hc;have hb:=hc;(try simp only [hk_,ne_eq] at hc);(try have ⟨hc1,hc2⟩:_∧_:=hc);(try subst_vars))<;>first|contradiction|(exfalso;omega)|(simp -implicitDefEqProofs [*])|skip)
   | ((first|refine aq_ ?_|refine z05 ?_|refine z06 ?_|refine z07 ?_);try simp only [sk_,↓reduceIte,Nat.reduceEqDiff])
   | ((with_reducible show OptK _ _);(simp (disch:=omega) only [if_pos,if_neg]);(try (simp -implicitDefEqProofs [*]))))
  all_goals rfl
 | true=>
  obtain ⟨x,bl,hx⟩:=hcons hwh;rw [hwh] at c1 he;rw [hx] at he;have hxn:=x.toNat_lt;by_cases h127:x.toNat≤127
  ·rw [if_pos ⟨rfl,by simpa using h127⟩] at he;subst he;clear hcons hwh hw hm;obtain ⟨c,t,k,b,l⟩:=n;change b=x::bl at hx;subst hx;have c1:OK gl 101 [mkY c t k (x::bl) l] (.b true):=c1;have c2:OK gl 102 [rX (z04 (x::bl))] (.e (rX (nuR .u32 (Nt.lim v)))):=c2;show OK gl _ [mkY c t k (x::bl) l] _;refine z0d Tryz.func47 rfl (by show 1≤_;decide) ?_;unfold Tryz.f47;dsimp only;exact am_;all_goals omega
  ·rw [if_neg (fun h=>h127 (by simpa using h.2))] at he;subst he;clear hcons hwh hw hm c2;obtain ⟨c,t,k,b,l⟩:=n;change b=x::bl at hx;subst hx;have c1:OK gl 101 [mkY c t k (x::bl) l] (.b true):=c1;show OK gl _ [mkY c t k (x::bl) l] _;refine z0d Tryz.func47 rfl (by show 1≤_;decide) ?_;unfold Tryz.f47;dsimp only;repeat' (first
    | (first|refine sq_ ?_|refine bk_ ?_)
    | ((first|refine rg_ fun Q hQ=>?_|refine if_ fun Q hQ=>?_|refine ca_ ?_|show EndK _ _ _ _ _ _ _ _);simp -implicitDefEqProofs [*])
    | ((first|refine bs_ ?_ ?_|refine cs_ ?_ ?_)<;>(intro hc;have hb:=hc;(try simp only [hk_,ne_eq] at hc);(try have ⟨hc1,hc2⟩:_∧_:=hc);(try subst_vars))<;>first|contradiction|(exfalso;omega)|(simp -implicitDefEqProofs [*])|skip)
    | ((first|refine aq_ ?_|refine z05 ?_|refine z06 ?_|refine z07 ?_);try simp only [sk_,↓reduceIte,Nat.reduceEqDiff])
    | ((with_reducible show OptK _ _);(simp (disch:=omega) only [if_pos,if_neg]);(try (simp -implicitDefEqProofs [*]))))
   all_goals first|omega|rfl
end Am
end Go.Proofs.YtgmppconibklcaaGreatDoor

namespace Go.Proofs.YtgmppconibklcaaGreatDoor
open Go Go.RowKit
namespace Am
variable {gl:Nat→Option (List D)}
theorem zeK {p:Prop} (h:p:=by
  refine z0d Tryz.func44 rfl (by show 2≤_;decide) ?_;unfold Tryz.f44;dsimp only;exact am_;all_goals omega):p:=h
theorem rKid (n:Nd) (i:Nat) (hz:n.kids.length≤10000000) (hi:i≤10000000):OK gl 44 [nX n,iX i] (.e (nX (Rq.kid n i))):=by
 by_cases h:i<n.kids.length
 ·obtain ⟨x,r,hd,hx,_⟩:=z0t h;have hk:Rq.kid n i=x:=by unfold Rq.kid;rw [List.getD_eq_getElem?_getD,hx];rfl
  exact zeK
 ·have hk:Rq.kid n i=Nd.nil:=by unfold Rq.kid;rw [List.getD_eq_getElem?_getD,List.getElem?_eq_none (by omega)];rfl
  exact zeK
theorem rKidm (n:Nd):OK gl 44 [nX n,iX (-1)] (.e (nX Nd.nil)):=by
 refine z0d Tryz.func44 rfl (by show 2≤_;decide) ?_;unfold Tryz.f44;dsimp only;exact am_
theorem zi5 (b:List UInt8):OK gl 150 [rX (z04 b)] (.e (nX (Dr.prim 4 b))):=by
 refine z0d Tryz.func150 rfl (by show 1≤_;decide) ?_;unfold Tryz.f150;dsimp only;have z0:=@Dr.prim.eq_def;exact am_
theorem rCtx (t:Int) (l:List Nd):OK gl 90 [iX t,rX (ndR l)] (.e (nX (.mk 2 t true [] l))):=by
 refine z0d Tryz.func90 rfl (by show 2≤_;decide) ?_;unfold Tryz.f90;dsimp only;exact am_
theorem rSeq (l:List Nd):OK gl 61 [rX (ndR l)] (.e (nX (Dr.seq l))):=by
 refine z0d Tryz.func61 rfl (by show 1≤_;decide) ?_;unfold Tryz.f61;dsimp only;have z0:=@Dr.seq.eq_def;exact am_
theorem rSeq2 (a b:Nd):OK gl 60 [nX a,nX b] (.e (nX (Dr.seq [a,b]))):=by
 have c1:=rSeq (gl:=gl) [a,b];refine z0d Tryz.func60 rfl (by show 2≤_;decide) ?_;unfold Tryz.f60;dsimp only;exact am_
theorem rInt1:OK gl 62 [iX 1] (.e (nX (Dr.intN 1))):=by
 have he:Dr.intN 1 = .mk 0 2 false [1] []:=rfl;rw [he];refine z0d Tryz.func62 rfl (by show 1≤_;decide) ?_;unfold Tryz.f62;dsimp only;repeat' (first
  | (first|refine sq_ ?_|refine bk_ ?_)
  | ((first|refine rg_ fun Q hQ=>?_|refine if_ fun Q hQ=>?_|refine ca_ ?_|show EndK _ _ _ _ _ _ _ _);simp -implicitDefEqProofs [*])
  | ((first|refine bs_ ?_ ?_|refine cs_ ?_ ?_)<;>(intro hc;have hb:=hc;(try simp only [hk_,ne_eq] at hc);(try have ⟨hc1,hc2⟩:_∧_:=hc);(try subst_vars))<;>first|contradiction|(exfalso;omega)|(simp -implicitDefEqProofs [*])|skip)
  | ((first|refine aq_ ?_|refine z05 ?_|refine z06 ?_|refine z07 ?_);try simp only [sk_,↓reduceIte,Nat.reduceEqDiff])
  | ((with_reducible show OptK _ _);(simp (disch:=omega) only [if_pos,if_neg]);(try (simp -implicitDefEqProofs [*]))))
 refine z6O ?_;repeat' (first
  | (first|refine sq_ ?_|refine bk_ ?_)
  | ((first|refine rg_ fun Q hQ=>?_|refine if_ fun Q hQ=>?_|refine ca_ ?_|show EndK _ _ _ _ _ _ _ _);simp -implicitDefEqProofs [*,z08])
  | ((first|refine bs_ ?_ ?_|refine cs_ ?_ ?_)<;>(intro hc;have hb:=hc;(try simp only [hk_,ne_eq] at hc);(try have ⟨hc1,hc2⟩:_∧_:=hc);(try subst_vars))<;>first|contradiction|(exfalso;omega)|(simp -implicitDefEqProofs [*,z08])|skip)
  | ((first|refine aq_ ?_|refine z05 ?_|refine z06 ?_|refine z07 ?_);try simp only [sk_,↓reduceIte,Nat.reduceEqDiff])
  | ((with_reducible show OptK _ _);(simp (disch:=omega) only [if_pos,if_neg]);(try (simp -implicitDefEqProofs [*,z08]))))
 exact by1 [] (by decide)
theorem z5O (s:List UInt8) (hs:s.length≤90000):OK gl 147 [sX ⟨s.toArray⟩] (.tup [rX (z04 ((Od.enc s).getD [])),iX (if (Od.enc s).isSome then 0 else 20)]):=
 z0v rfl rfl z0q fun w vals hT hargs=>by
  obtain ⟨v,rfl,h⟩:=hargs.one_;have e:=RD.z0M h;subst e;refine (z8Z ⟨s.toArray⟩ w (by simp [ByteArray.size];omega)).mono ?_;intro e w' hp;unfold z2e at hp;simp only at hp;cases ho:Od.enc s with
  | none=>
   rw [ho] at hp;obtain ⟨rfl,hb⟩:=hp;exact ⟨_,rfl,z2q (.z0D (z2D (show Is w' (Old w) (.slice none 0 0) (z04 ((none:Option (List UInt8)).getD [])) from Is.z1U _ _) (.bytes _)) (.z0D (.leaf _ rfl) .nil_)),hb⟩
  | some o=>
   rw [ho] at hp;obtain ⟨v,rfl,hown,hb⟩:=hp;exact ⟨_,rfl,z2q (.z0D (z2D (show Is w' (Old w) v (z04 ((some o).getD [])) from z1x hown (fun g hg=>hg)) (.bytes _)) (.z0D (.leaf _ rfl) .nil_)),hb⟩
theorem zmW (s:List UInt8) (hs:s.length≤90000):OK gl 87 [sX ⟨s.toArray⟩] (.e (nX (Rq.oidN s))):=by
 have c1:=z5O (gl:=gl) s hs;have he:Rq.oidN s = .mk 0 6 false ((Od.enc s).getD []) []:=rfl;rw [he];generalize (Od.enc s).getD []=o at *;generalize (Od.enc s).isSome=v at *;cases v;all_goals
  refine z0d Tryz.func87 rfl (by show 1≤_;decide) ?_;unfold Tryz.f87;dsimp only;exact am_
theorem zmY (s:List UInt8) (hs:s.length≤90000):OK gl 149 [sX ⟨s.toArray⟩] (.b (Rq.z1p s)):=by
 have c1:=z5O (gl:=gl) s hs;have he:Rq.z1p s=(Od.enc s).isSome:=rfl;rw [he];generalize (Od.enc s).getD []=o at *;generalize (Od.enc s).isSome=v at *;cases v;all_goals
  refine z0d Tryz.func149 rfl (by show 1≤_;decide) ?_;unfold Tryz.f149;dsimp only;exact am_
theorem zeu (s:List UInt8) (hs:s.length≤90000):OK gl 79 [sX ⟨s.toArray⟩] (.b (Rq.z1p s)):=by
 have c1:=z5O (gl:=gl) s hs;have he:Rq.z1p s=(Od.enc s).isSome:=rfl;rw [he];generalize (Od.enc s).getD []=o at *;generalize (Od.enc s).isSome=v at *;cases v;all_goals
  refine z0d Tryz.func79 rfl (by show 1≤_;decide) ?_;unfold Tryz.f79;dsimp only;exact am_
theorem z7B (n:Nd) (hn:n.bytes.length≤20000):OK gl 46 [nX n] (.e (sX ⟨(Rq.z0O n).toArray⟩)):=by
 have c1:=zaY (gl:=gl) n.bytes hn;have he:Rq.z0O n=(Od.decO n.bytes).getD []:=rfl;rw [he];generalize (Od.decO n.bytes).getD []=o at *;generalize (Od.decO n.bytes).isSome=v at *;cases v;all_goals
  refine z0d Tryz.func46 rfl (by show 1≤_;decide) ?_;unfold Tryz.f46;dsimp only;exact am_
end Am
end Go.Proofs.YtgmppconibklcaaGreatDoor

namespace Go.Proofs.YtgmppconibklcaaGreatDoor
open Go Go.RowKit
namespace Am
variable {gl:Nat→Option (List D)}
abbrev exnT (e:Rq.Ex):T:= .tup [nX (if Rq.exOk e=true then Rq.exN e else Nd.nil),iX (if Rq.exOk e=true then 0 else 62)]
theorem zeA {p:Prop} (h:p:=by
  refine z0d Tryz.func81 rfl (by show 1≤_;decide) ?_;unfold Tryz.f81;dsimp only;exact ama_):p:=h
theorem zex {p:Prop} (h:p:=by
  refine z0d Tryz.func81 rfl (by show 1≤_;decide) ?_;unfold Tryz.f81;dsimp only;exact am_):p:=h
theorem za6 (e:Rq.Ex) (hs:e.oid.length≤90000) (hv:e.val.length≤10000000):OK gl 81 [exX e] (exnT e):=by
 obtain ⟨o,c,v⟩:=e;simp only at hs hv;have c1:=zmY (gl:=gl) o hs;have c2:=zmW (gl:=gl) o hs;have c3:=zi5 (gl:=gl) v;have he:Rq.exOk ⟨o,c,v⟩=(Rq.z1p o&&decide (v.length≤2000)):=rfl;have hn:Rq.exN ⟨o,c,v⟩=Dr.seq (Rq.oidN o::(if c=true then [Dr.prim 1 [255],Dr.prim 4 v] else [Dr.prim 4 v])):=rfl;unfold exnT;rw [he,hn];clear he hn hs;generalize Rq.z1p o=u at *;cases u
 ·exact zex
 ·by_cases hl:v.length≤2000
  ·generalize Rq.oidN o=no at *;have c4:=rSeq (gl:=gl) [no,Dr.prim 4 v];have c5:=rSeq (gl:=gl) [no,Dr.prim 1 [255],Dr.prim 4 v];have e5:ndR [no,Dr.prim 1 [255],Dr.prim 4 v]=D.row 5 (ndL [no] ++ .leaf (.int .i64 0) :: .leaf (.int .i64 1) :: .leaf (.bool false) :: .row 1 [.leaf (.int .u8 255)]::ndR []::ndL [Dr.prim 4 v]):=by
    rw [show D.row 1 [D.leaf (.int .u8 255)]=z04 [255] from rfl,zm8];simp [Dr.prim]
   rw [e5] at c5;clear e5;cases c
   ·clear c5;exact zeA
   ·clear c4;exact zeA
  ·exact zex
abbrev rexT (n:Nd):T:= .tup [exX ((Rq.exOf n).getD Rq.z0E),bX (Rq.exOf n).isSome]
theorem z1r {n:Nd} {m:Nat} (i:Nat) (h:Dr.mx n≤m):(Rq.kid n i).bytes.length≤m:=by
 unfold Rq.kid;rw [List.getD_eq_getElem?_getD];cases hx:n.kids[i]? with
 | none=>simp
 | some x=>
  have h1:=Dr.z2s (List.mem_of_getElem? hx);have h2:=Dr.z0Y n;have h3:=Dr.z0Y x;simp;omega
theorem zeJ {p:Prop} (h:p:=by
  simp at hx c4;subst hx;refine z0d Tryz.func45 rfl (by show 1≤_;decide) ?_;unfold Tryz.f45;dsimp only;repeat' (first
   | (first|refine sq_ ?_|refine bk_ ?_)
   | ((first|refine rg_ fun Q hQ=>?_|refine if_ fun Q hQ=>?_|refine dr_ (id:=1) [1,2] [16,32] (by kernel_rfl) fun Q hQ=>?_|refine dr_ (id:=2) [1,2,4] [16,32,64,129,145] (by kernel_rfl) fun Q hQ=>?_|refine ca_ ?_|refine ce_ ?_ ?_|refine ct_ (c2') ?_|refine cd_ (c2') ?_ ?_|show EndK _ _ _ _ _ _ _ _);simp -implicitDefEqProofs [*,z08,Rq.z0E])
   | ((first|refine bs_ ?_ ?_|refine cs_ ?_ ?_)<;>(intro hc;have hb:=hc;(try simp only [hk_,ne_eq] at hc);(try have ⟨hc1,hc2⟩:_∧_:=hc);(try subst_vars))<;>first|contradiction|(exfalso;omega)|(simp -implicitDefEqProofs [*,z08,Rq.z0E])|skip)
   | ((first|refine aq_ ?_|refine z05 ?_|refine z06 ?_|refine z07 ?_);try simp only [sk_,↓reduceIte,Nat.reduceEqDiff])
   | (first|exact z0h|refine cn_ (by decide) ?_|refine cc_ (by intro e1 e2 e3;simp_all) ?_|refine And.intro (by decide +kernel) ?_)
   | ((with_reducible show OptK _ _);(simp (disch:=omega) only [if_pos,if_neg]);(try (simp -implicitDefEqProofs [*,z08,Rq.z0E]))))):p:=h
theorem rExtOf (n:Nd) (hw:Dr.wt n≤10000000) (hm:Dr.mx n≤20000):OK gl 45 [nX n] (rexT n):=by
 have hk:=Rq.z94 n;have hlen:=z1E n.kids;have hwp:=z0W n;have hkl:n.kids.length≤1000000:=by omega
 have b0:=z1r 0 hm;have b1:=z1r (n.kids.length-1) hm;have c1:=rKid (gl:=gl) n 0 (by omega) (by omega);have c2:=rKid (gl:=gl) n (n.kids.length-1) (by omega) (by omega);have c3:=z7B (gl:=gl) (Rq.kid n 0) b0;have ht:(Rq.z0O (Rq.kid n 0)).length≤90000:=by
  unfold Rq.z0O;cases hd:Od.decO (Rq.kid n 0).bytes with
  | none=>simp
  | some t=>
   have:=Rq.zfr hd;simp;omega
 have c4:=za6 (gl:=gl) (Rq.z4R n) ht (by show (Rq.kid n (n.kids.length-1)).bytes.length≤_;omega);unfold exnT at c4;have hx:Rq.exOf n=if (Rq.exOk (Rq.z4R n)&&Dr.same (Rq.exN (Rq.z4R n)) n)=true then some (Rq.z4R n) else none:=by rw [←hk];rfl
 have c5:=fun h:Dr.wt (Rq.exN (Rq.z4R n))≤10000000=>zlS (gl:=gl) (Rq.exN (Rq.z4R n)) n h hw
 have c5:=c5 (by have:=Rq.wt_ex (Rq.z4R n);have h2:(Rq.z4R n).oid.length≤90000:=ht;have h3:(Rq.z4R n).val.length≤20000:=b1;omega);have hr:Rq.z4R n=⟨Rq.z0O (Rq.kid n 0),n.kids.length==3,(Rq.kid n (n.kids.length-1)).bytes⟩:=rfl;rw [hr] at c4 c5 hx;have hcr:(((n.kids.length:Nat):Int)==3)=(n.kids.length==3):=by
  rw [Bool.eq_iff_iff,beq_iff_eq,beq_iff_eq];omega
 have hw:=z0f (x:=(n.kids.length:Int)-1) (by omega) (by omega);have c2':OK gl 44 [nX n,iX ((n.kids.length:Int)-1)] (.e (nX (Rq.kid n (n.kids.length-1)))):=by
  by_cases h0:n.kids.length=0
  ·have e:Rq.kid n (n.kids.length-1)=Nd.nil:=by
    unfold Rq.kid;rw [List.getD_eq_getElem?_getD,List.getElem?_eq_none (by omega)];rfl
   rw [e,h0];exact rKidm n
  ·rw [show (n.kids.length:Int)-1=((n.kids.length-1:Nat):Int) by omega];exact c2
 clear hk hlen hwp b0 hr hm c2 ht;generalize Rq.kid n (n.kids.length-1)=kl at *;generalize Rq.z0O (Rq.kid n 0)=o at *;generalize Rq.kid n 0=k0 at *;generalize (n.kids.length==3)=cr at *;have hvl:kl.bytes.length≤140737488355328:=by omega
 have c1:OK gl 44 [nX n,iX 0] (.e (nX k0)):=c1;unfold rexT;generalize Rq.exOk ⟨o,cr,kl.bytes⟩=ok at *;generalize Rq.exN ⟨o,cr,kl.bytes⟩=m at *;generalize Dr.same m n=sm at *;generalize Rq.exOf n=ex at *;clear b1 hkl;cases ok
 ·exact zeJ
 ·cases sm
  ·exact zeJ
  ·simp at hx c4;subst hx;refine z0d Tryz.func45 rfl (by show 1≤_;decide) ?_;unfold Tryz.f45;dsimp only;repeat' (first
    | (first|refine sq_ ?_|refine bk_ ?_)
    | ((first|refine rg_ fun Q hQ=>?_|refine if_ fun Q hQ=>?_|refine dr_ (id:=1) [1,2] [16,32] (by kernel_rfl) fun Q hQ=>?_|refine dr_ (id:=2) [1,2,4] [16,32,64,129,145] (by kernel_rfl) fun Q hQ=>?_|refine ca_ ?_|refine ce_ ?_ ?_|refine ct_ (c2') ?_|refine cd_ (c2') ?_ ?_|show EndK _ _ _ _ _ _ _ _);simp -implicitDefEqProofs [*,z08])
    | ((first|refine bs_ ?_ ?_|refine cs_ ?_ ?_)<;>(intro hc;have hb:=hc;(try simp only [hk_,ne_eq] at hc);(try have ⟨hc1,hc2⟩:_∧_:=hc);(try subst_vars))<;>first|contradiction|(exfalso;omega)|(simp -implicitDefEqProofs [*,z08])|skip)
    | ((first|refine aq_ ?_|refine z05 ?_|refine z06 ?_|refine z07 ?_);try simp only [sk_,↓reduceIte,Nat.reduceEqDiff])
    | (first|exact z0h|refine cn_ (by decide) ?_|refine cc_ (by intro e1 e2 e3;simp_all) ?_|refine And.intro (by decide +kernel) ?_)
    | ((with_reducible show OptK _ _);(simp (disch:=omega) only [if_pos,if_neg]);(try (simp -implicitDefEqProofs [*,z08]))))
end Am
end Go.Proofs.YtgmppconibklcaaGreatDoor

namespace Go.Proofs.YtgmppconibklcaaGreatDoor
open Go Go.RowKit
namespace Am
variable {gl:Nat→Option (List D)}
theorem zkI (s b:List UInt8) (hs:s.length≤90000):OK gl 86 [sX ⟨s.toArray⟩,rX (z04 b)] (.e (nX (Rq.impN s b))):=by
 have c1:=zmW (gl:=gl) s hs;have he:Rq.impN s b=Dr.seq [Dr.seq [Rq.oidN s],Dr.prim 4 b]:=rfl;rw [he];generalize Rq.oidN s=o at *;have c2:=rSeq (gl:=gl) [o];have c3:=zi5 (gl:=gl) b;have c4:=rSeq2 (gl:=gl) (Dr.seq [o]) (Dr.prim 4 b);refine z0d Tryz.func86 rfl (by show 2≤_;decide) ?_;unfold Tryz.f86;dsimp only;exact am_
theorem za5 (s b:List UInt8) (hs:s.length≤90000):OK gl 78 [sX ⟨s.toArray⟩,rX (z04 b)] (.b (Rq.z2z s b)):=by
 have c1:=zeu (gl:=gl) s hs;have he:Rq.z2z s b=(Rq.z1p s&&decide (1≤b.length)&&decide (b.length≤64)):=rfl;rw [he];clear he hs;generalize Rq.z1p s=u at *;cases u;all_goals
  refine z0d Tryz.func78 rfl (by show 2≤_;decide) ?_;unfold Tryz.f78;dsimp only;repeat' (first
   | (first|refine sq_ ?_|refine bk_ ?_)
   | ((first|refine rg_ fun Q hQ=>?_|refine if_ fun Q hQ=>?_|refine ca_ ?_|show EndK _ _ _ _ _ _ _ _);simp -implicitDefEqProofs [*])
   | ((first|refine bs_ ?_ ?_|refine cs_ ?_ ?_)<;>(intro hc;have hb:=hc;(try simp only [hk_,ne_eq] at hc);(try have ⟨hc1,hc2⟩:_∧_:=hc);(try subst_vars))<;>first|contradiction|(exfalso;omega)|(simp -implicitDefEqProofs [*])|skip)
   | ((first|refine aq_ ?_|refine z05 ?_|refine z06 ?_|refine z07 ?_);try simp only [sk_,↓reduceIte,Nat.reduceEqDiff])
   | ((with_reducible show OptK _ _);(simp (disch:=omega) only [if_pos,if_neg]);(try (simp -implicitDefEqProofs [*]))))
 all_goals first|omega|(rw [Bool.eq_iff_iff];simp;omega)|skip
theorem rTruth:OK gl 89 [] (.e (nX Rq.z1u)):=by
 refine z0d Tryz.func89 rfl (by show 0≤_;decide) ?_;unfold Tryz.f89;dsimp only;repeat' (first
  | (first|refine sq_ ?_|refine bk_ ?_)
  | ((first|refine rg_ fun Q hQ=>?_|refine if_ fun Q hQ=>?_|refine ca_ ?_|show EndK _ _ _ _ _ _ _ _);simp -implicitDefEqProofs [*,Rq.z1u,Dr.prim])
  | ((first|refine bs_ ?_ ?_|refine cs_ ?_ ?_)<;>(intro hc;have hb:=hc;(try simp only [hk_,ne_eq] at hc);(try have ⟨hc1,hc2⟩:_∧_:=hc);(try subst_vars))<;>first|contradiction|(exfalso;omega)|(simp -implicitDefEqProofs [*,Rq.z1u,Dr.prim])|skip)
  | ((first|refine aq_ ?_|refine z05 ?_|refine z06 ?_|refine z07 ?_);try simp only [sk_,↓reduceIte,Nat.reduceEqDiff])
  | ((with_reducible show OptK _ _);(simp (disch:=omega) only [if_pos,if_neg]);(try (simp -implicitDefEqProofs [*,Rq.z1u,Dr.prim]))))
 all_goals rfl
theorem zgo (n:Nd) (hw:Dr.wt n≤10000000) (hm:Dr.mx n≤20000):OK gl 43 [nX n] (.tup [sX ⟨(Rq.z0O (Rq.kid (Rq.kid n 0) 0)).toArray⟩,rX (z04 (Rq.kid n 1).bytes)]):=by
 have wk:∀ (k:Nd) (i:Nat),Dr.wt k≤10000000→Dr.mx k≤20000→Dr.wt (Rq.kid k i)≤10000000∧Dr.mx (Rq.kid k i)≤20000∧k.kids.length≤1000000:=fun k i h1 h2=>by
  have h3:=z0W k;have h4:=z1E k.kids;have h5:=Dr.z0Y k;unfold Rq.kid;rw [List.getD_eq_getElem?_getD];cases hx:k.kids[i]? with
  | none=>exact ⟨by decide,by decide,by omega⟩
  | some x=>
   have h6:=Dr.z2s (List.mem_of_getElem? hx);obtain ⟨hi,rfl⟩:=List.getElem?_eq_some_iff.1 hx;have h7:=z2I hi;exact ⟨by simp;omega,by simp;omega,by omega⟩
 obtain ⟨a1,a2,a3⟩:=wk n 0 hw hm;obtain ⟨a4,a5,a6⟩:=wk (Rq.kid n 0) 0 a1 a2;have b1:=z1r 1 hm;have b0:=z1r 0 a2;have c1:OK gl 44 [nX n,iX 1] (.e (nX (Rq.kid n 1))):=rKid (gl:=gl) n 1 (by omega) (by omega);have c2:OK gl 44 [nX n,iX 0] (.e (nX (Rq.kid n 0))):=rKid (gl:=gl) n 0 (by omega) (by omega);have c3:OK gl 44 [nX (Rq.kid n 0),iX 0] (.e (nX (Rq.kid (Rq.kid n 0) 0))):=rKid (gl:=gl) (Rq.kid n 0) 0 (by omega) (by omega);have c4:=z7B (gl:=gl) (Rq.kid (Rq.kid n 0) 0) b0;generalize Rq.z0O (Rq.kid (Rq.kid n 0) 0)=o at *;generalize Rq.kid (Rq.kid n 0) 0=k00 at *;generalize Rq.kid n 0=k0 at *;generalize Rq.kid n 1=k1 at *;have hl:k1.bytes.length≤140737488355328:=by omega
 clear wk a1 a2 a3 a4 a5 a6 b0 b1 hw hm;refine z0d Tryz.func43 rfl (by show 1≤_;decide) ?_;unfold Tryz.f43;dsimp only;exact ama_
end Am
end Go.Proofs.YtgmppconibklcaaGreatDoor

namespace Go.Proofs.YtgmppconibklcaaGreatDoor
open Go Go.RowKit
namespace Am
variable {gl:Nat→Option (List D)}
theorem zd8 (has:Bool) (l:List Nat) (hL:Nt.Lb l) (hz:l.length≤10000000):OK gl 80 [bX has,rX (nuR .u32 l)] (.b (Rq.z0s has (Nt.vl l))):=by
 have c1:=zmZ (gl:=gl) l hL hz;have he:Rq.z0s has (Nt.vl l)=(decide (Nt.bl (Nt.vl l)≤160)&&(has||Nt.bl (Nt.vl l)==0)):=rfl;rw [he];clear he;generalize Nt.bl (Nt.vl l)=B at *;cases has;all_goals
  refine z0d Tryz.func80 rfl (by show 2≤_;decide) ?_;unfold Tryz.f80;dsimp only;repeat' (first
   | (first|refine sq_ ?_|refine bk_ ?_)
   | ((first|refine rg_ fun Q hQ=>?_|refine if_ fun Q hQ=>?_|refine ca_ ?_|show EndK _ _ _ _ _ _ _ _);simp -implicitDefEqProofs [*])
   | ((first|refine bs_ ?_ ?_|refine cs_ ?_ ?_)<;>(intro hc;have hb:=hc;(try simp only [hk_,ne_eq] at hc);(try have ⟨hc1,hc2⟩:_∧_:=hc);(try subst_vars))<;>first|contradiction|(exfalso;omega)|(simp -implicitDefEqProofs [*])|skip)
   | ((first|refine aq_ ?_|refine z05 ?_|refine z06 ?_|refine z07 ?_);try simp only [sk_,↓reduceIte,Nat.reduceEqDiff])
   | ((with_reducible show OptK _ _);(simp (disch:=omega) only [if_pos,if_neg]);(try (simp -implicitDefEqProofs [*]))))
 all_goals first|omega|(rw [Bool.eq_iff_iff];simp;done)|(rw [Bool.eq_iff_iff];simp;omega)
structure RqI (q:Rq.Req) (ls:List Nat) (k:Nat) (s:SF):Prop where
 e1:s.env 1=some (.e (.one (.ref 16 0)))
 g1:s.heap 16=some (.var 27 [.d (.leaf (.string ⟨q.alg.toArray⟩)),.d (z04 q.impr),.d (.leaf (.string ⟨q.policy.toArray⟩)),.d (.leaf (.bool q.has)),.d (nuR .u32 ls),.d (.leaf (.bool q.cert)),.d (exR q.exts)])
 ex:∃ i,i+k=q.exts.length∧s.env 3=some (.e (iX i))∧(q.exts.take i).all Rq.exOk=true∧((q.exts.take i).map (·.oid)).Nodup
structure RqJ (q:Rq.Req) (ls:List Nat) (i:Nat) (o:List UInt8) (m:Nat) (s:SF):Prop where
 e1:s.env 1=some (.e (.one (.ref 16 0)))
 g1:s.heap 16=some (.var 27 [.d (.leaf (.string ⟨q.alg.toArray⟩)),.d (z04 q.impr),.d (.leaf (.string ⟨q.policy.toArray⟩)),.d (.leaf (.bool q.has)),.d (nuR .u32 ls),.d (.leaf (.bool q.cert)),.d (exR q.exts)])
 e3:s.env 3=some (.e (iX i))
 ex:∃ j,j+m=i∧s.env 6=some (.e (iX j))∧∀ y∈q.exts.take j,y.oid≠o
theorem zby (q:Rq.Req) (ls:List Nat) (hf:Rq.zaU q) (hL:Nt.Lb ls) (hv:Nt.vl ls=q.nonce) (hls:ls.length≤100000):OK gl 37 [reqY q ls] (.b (Rq.z0i q)):=by
 have c1:=za5 (gl:=gl) q.alg q.impr hf.alg;have c2:=zeu (gl:=gl) q.policy hf.pol;have c3:=zd8 (gl:=gl) q.has ls hL (by omega);rw [hv] at c3;have hR:Rq.z0i q=(Rq.z2z q.alg q.impr&&(q.policy.isEmpty||Rq.z1p q.policy)&&Rq.z0s q.has q.nonce&&Rq.z0N q.exts):=rfl;have hX:Rq.z0N q.exts=(decide (q.exts.length≤32)&&q.exts.all Rq.exOk&&decide ((q.exts.map (·.oid)).Nodup)):=rfl;have hlen:=hf.len;have hoid:=hf.oid;have hval:=hf.val;clear hf hL hv hls;obtain ⟨alg,impr,pol,has,nonce,cert,exts⟩:=q;simp only at *;generalize Rq.z0i ⟨alg,impr,pol,has,nonce,cert,exts⟩=R at *;by_cases hgood:(Rq.z2z alg impr&&(pol.isEmpty||Rq.z1p pol)&&Rq.z0s has nonce&&decide (exts.length≤32))=true
 ·simp only [Bool.and_eq_true] at hgood;obtain ⟨⟨⟨g1,g2⟩,g3⟩,g4⟩:=hgood;have h32:=of_decide_eq_true g4;rw [g1] at c1;rw [g3] at c3;have hR2:R=(exts.all Rq.exOk&&decide ((exts.map (·.oid)).Nodup)):=by rw [hR,g1,g2,g3,hX,g4];simp
  have hb1:(∃ e∈exts,Rq.exOk e=false)→R=false:=fun ⟨e,he,h⟩=>by
   rw [hR2];have:exts.all Rq.exOk=false:=by
    rw [List.all_eq_false];exact ⟨e,he,by rw [h];simp⟩
   rw [this];rfl
  have hb2:¬(exts.map (·.oid)).Nodup→R=false:=fun h=>by rw [hR2,decide_eq_false h,Bool.and_false]
  have hb3:exts.all Rq.exOk=true→(exts.map (·.oid)).Nodup→R=true:=fun h h'=>by rw [hR2,h,decide_eq_true h'];rfl
  clear hR hX hR2 g1 g3 g4;obtain ⟨e,hpe⟩:∃ e,pol.isEmpty=e:=⟨_,rfl⟩;rw [hpe] at g2;generalize Rq.z1p pol=u at *;cases e<;>cases u;all_goals simp at g2
  all_goals
   refine z0d Tryz.func37 rfl (by show 1≤_;decide) ?_;unfold Tryz.f37;dsimp only;repeat' (first
    | (first|refine sq_ ?_|refine bk_ ?_)
    | ((first|refine rg_ fun Q hQ=>?_|refine if_ fun Q hQ=>?_|refine dr_ (id:=12) [1,3,6] [16] (by kernel_rfl) fun Q hQ=>?_|refine ca_ ?_|show EndK _ _ _ _ _ _ _ _);simp -implicitDefEqProofs [*])
    | ((first|refine bs_ ?_ ?_|refine cs_ ?_ ?_)<;>(intro hc;have hb:=hc;(try simp only [hk_,ne_eq] at hc);(try have ⟨hc1,hc2⟩:_∧_:=hc);(try subst_vars))<;>first|contradiction|(exfalso;omega)|(simp -implicitDefEqProofs [*])|skip)
    | ((first|refine aq_ ?_|refine z05 ?_|refine z06 ?_|refine z07 ?_);try simp only [sk_,↓reduceIte,Nat.reduceEqDiff])
    | (with_reducible refine And.intro ?_ ?_;focus (decide +kernel))
    | ((with_reducible show OptK _ _);(simp (disch:=omega) only [if_pos,if_neg]);(try (simp -implicitDefEqProofs [*]))))
   clear c1 c2 c3 hpe;refine z0A (RqI ⟨alg,impr,pol,has,nonce,cert,exts⟩ ls) exts.length ?_ ?_
   ·exact ⟨by simp,by simp,0,by simp,by simp,by simp,by simp⟩
   ·rintro k s ⟨e1,g1,i,hi,e3,hok,hnd⟩;simp only at g1 hi hok hnd;cases k with
    | zero=>
     obtain rfl:i=exts.length:=by omega
     rw [List.take_length] at hok hnd;have hRt:=hb3 hok hnd;subst hRt;clear hb1 hb2 hb3 hoid hval hok hnd;have d12:Drw 12 [1,3,6] [16]:=⟨⟩;exact am_
    | succ k=>
     have hil:i<exts.length:=by omega
     obtain ⟨x,r,hd,hx,htk⟩:=z0t hil;have hd0:=hd;have hx0:=hx;have hmem:=List.mem_of_getElem? hx;have cE:OK gl 81 [exX x] (.tup [nX (if Rq.exOk x=true then Rq.exN x else Nd.nil),iX (if Rq.exOk x=true then 0 else 62)]):=za6 x (hoid x hmem) (by have:=hval x hmem;omega);cases hxo:Rq.exOk x with
     | false=>
      rw [hxo] at cE;have hRf:=hb1 ⟨x,hmem,hxo⟩;subst hRf;simp at cE;clear hb1 hb2 hb3 hoid hval hok hnd htk hx;have d12:Drw 12 [1,3,6] [16]:=⟨⟩;exact am_;all_goals omega
     | true=>
      rw [hxo] at cE;simp at cE;have hok2:(exts.take (i+1)).all Rq.exOk=true:=by rw [htk,List.all_append,hok];simp [hxo]
      have hnd2:(∀ y∈exts.take i,y.oid≠x.oid)→((exts.take (i+1)).map (·.oid)).Nodup:=fun h=>by
       rw [htk,List.map_append,List.nodup_append];refine ⟨hnd,by simp,?_⟩;intro a ha b hb;simp only [List.map_cons,List.map_nil,List.mem_singleton] at hb;obtain ⟨y,hy,rfl⟩:=List.mem_map.1 ha;rw [hb];exact h y hy
      have hw:=z17 (k:=i+1) (by omega);generalize Rq.exN x=nx at *;clear hb1 hb3 hoid hval htk hok hnd;repeat' (first
       | (first|refine sq_ ?_|refine bk_ ?_)
       | ((first|refine rg_ fun Q hQ=>?_|refine if_ fun Q hQ=>?_|refine dr_ (id:=12) [1,3,6] [16] (by kernel_rfl) fun Q hQ=>?_|refine ca_ ?_|show EndK _ _ _ _ _ _ _ _);simp -implicitDefEqProofs [*])
       | ((first|refine bs_ ?_ ?_|refine cs_ ?_ ?_)<;>(intro hc;have hb:=hc;(try simp only [hk_,ne_eq] at hc);(try have ⟨hc1,hc2⟩:_∧_:=hc);(try subst_vars))<;>first|contradiction|(exfalso;omega)|(simp -implicitDefEqProofs [*])|skip)
       | ((first|refine aq_ ?_|refine z05 ?_|refine z06 ?_|refine z07 ?_);try simp only [sk_,↓reduceIte,Nat.reduceEqDiff])
       | (with_reducible refine And.intro ?_ ?_;focus (decide +kernel))
       | ((with_reducible show OptK _ _);(simp (disch:=omega) only [if_pos,if_neg]);(try (simp -implicitDefEqProofs [*]))))
      all_goals first|omega|skip
      clear cE hd hx hw;have hwI:IntKind.wrap .i64 ((i:Int)+1)=(i:Int)+1:=z0f (by omega) (by omega);have hdx:True→exts.drop i=x::r:=fun _=>hd0
      refine z0A (RqJ ⟨alg,impr,pol,has,nonce,cert,exts⟩ ls i x.oid) i ?_ ?_
      ·exact ⟨by simp [e1],by simp [g1],by simp [e3],0,by simp,by simp,by simp⟩
      ·rintro m s2 ⟨e1,g1,e3,j,hj,e6,hne⟩;simp only at g1 hne;cases m with
       | zero=>
        obtain rfl:j=i:=by omega
        have hnd3:=hnd2 hne;clear hb2 hnd2 hne;repeat' (first
         | (first|refine sq_ ?_|refine bk_ ?_)
         | ((first|refine rg_ fun Q hQ=>?_|refine if_ fun Q hQ=>?_|refine dr_ (id:=12) [1,3,6] [16] (by kernel_rfl) fun Q hQ=>?_|refine ca_ ?_|show EndK _ _ _ _ _ _ _ _);simp -implicitDefEqProofs [*])
         | ((first|refine bs_ ?_ ?_|refine cs_ ?_ ?_)<;>(intro hc;have hb:=hc;(try simp only [hk_,ne_eq] at hc);(try have ⟨hc1,hc2⟩:_∧_:=hc);(try subst_vars))<;>first|contradiction|(exfalso;omega)|(simp -implicitDefEqProofs [*])|skip)
         | ((first|refine aq_ ?_|refine z05 ?_|refine z06 ?_|refine z07 ?_);try simp only [sk_,↓reduceIte,Nat.reduceEqDiff])
         | (with_reducible refine And.intro ?_ ?_;focus (decide +kernel))
         | ((with_reducible show OptK _ _);(simp (disch:=omega) only [if_pos,if_neg]);(try (simp -implicitDefEqProofs [*]))))
        exact ⟨k,by omega,⟨by simp [e1],by simp [g1],j+1,by show _=exts.length;omega,by simp [hwI],hok2,hnd3⟩⟩
       | succ m=>
        have hjl:j<exts.length:=by omega
        obtain ⟨y,r2,hdy,hyy,htk2⟩:=z0t hjl;have hbb:=bytes_beq y.oid x.oid;have hwj:IntKind.wrap .i64 ((j:Int)+1)=(j:Int)+1:=z0f (by omega) (by omega);by_cases hyx:y.oid=x.oid
        ·have hnn:¬(exts.map (·.oid)).Nodup:=fun h=>by
          have h1:(exts.map (·.oid))[j]? = some x.oid:=by rw [List.getElem?_map,hyy];simp [hyx]
          have h2:(exts.map (·.oid))[i]? = some x.oid:=by rw [List.getElem?_map,hx0];rfl
          have h3:=List.pairwise_iff_getElem.1 h j i (by simpa using hjl) (by simpa using hil) (by omega);rw [List.getElem?_eq_getElem (by simpa using hjl)] at h1;rw [List.getElem?_eq_getElem (by simpa using hil)] at h2;exact h3 (by rw [Option.some.inj h1,Option.some.inj h2])
         have hRf:=hb2 hnn;subst hRf;have hbb:((⟨y.oid.toArray⟩:ByteArray)==⟨x.oid.toArray⟩)=true:=by rw [hbb,hyx];simp
         clear hb2 hnd2 hne hnn htk2 hyy;have hj1:j+1+m≤i:=by omega
         clear hj;have d12:Drw 12 [1,3,6] [16]:=⟨⟩;exact am_;all_goals omega
        ·have hbf:(y.oid==x.oid)=false:=by rw [beq_eq_false_iff_ne];exact hyx
         rw [hbf] at hbb;have hne2:∀ w∈exts.take (j+1),w.oid≠x.oid:=fun w hw=>by
          rw [htk2] at hw;rcases List.mem_append.1 hw with h|h
          ·exact hne w h
          ·rw [List.mem_singleton.1 h];exact hyx
         clear hb2 hnd2 hne htk2 hyy hbf;have hj1:j+1+m≤i:=by omega
         have hj2:i≤j+1+m:=by omega
         clear hj;repeat' (first
          | (first|refine sq_ ?_|refine bk_ ?_)
          | ((first|refine rg_ fun Q hQ=>?_|refine if_ fun Q hQ=>?_|refine dr_ (id:=12) [1,3,6] [16] (by kernel_rfl) fun Q hQ=>?_|refine ca_ ?_|show EndK _ _ _ _ _ _ _ _);simp -implicitDefEqProofs [*])
          | ((first|refine bs_ ?_ ?_|refine cs_ ?_ ?_)<;>(intro hc;have hb:=hc;(try simp only [hk_,ne_eq] at hc);(try have ⟨hc1,hc2⟩:_∧_:=hc);(try subst_vars))<;>first|contradiction|(exfalso;omega)|(simp -implicitDefEqProofs [*])|skip)
          | ((first|refine aq_ ?_|refine z05 ?_|refine z06 ?_|refine z07 ?_);try simp only [sk_,↓reduceIte,Nat.reduceEqDiff])
          | (with_reducible refine And.intro ?_ ?_;focus (decide +kernel))
          | ((with_reducible show OptK _ _);(simp (disch:=omega) only [if_pos,if_neg]);(try (simp -implicitDefEqProofs [*]))))
         all_goals first|omega|exact ⟨m,by omega,⟨by simp [e1],by simp [g1],by simp [e3],j+1,by omega,by simp [hwj],hne2⟩⟩
 ·have hgood:(Rq.z2z alg impr&&(pol.isEmpty||Rq.z1p pol)&&Rq.z0s has nonce&&decide (exts.length≤32))=false:=by simpa using hgood
  have hRf:R=false:=by
   rw [hR,hX];revert hgood;generalize Rq.z2z alg impr=a;generalize (pol.isEmpty||Rq.z1p pol)=b;generalize Rq.z0s has nonce=c;generalize decide (exts.length≤32)=d;cases a<;>cases b<;>cases c<;>cases d<;>simp
  subst hRf;clear hR hX hoid hval hlen;generalize Rq.z2z alg impr=a at *;generalize Rq.z0s has nonce=c at *;obtain ⟨e,hpe⟩:∃ e,pol.isEmpty=e:=⟨_,rfl⟩;rw [hpe] at hgood;generalize Rq.z1p pol=u at *;cases a<;>cases c<;>cases e<;>cases u;all_goals simp at hgood
  all_goals
   refine z0d Tryz.func37 rfl (by show 1≤_;decide) ?_;unfold Tryz.f37;dsimp only;have d12:Drw 12 [1,3,6] [16]:=⟨⟩;exact am_
end Am
end Go.Proofs.YtgmppconibklcaaGreatDoor

