/- Part of the proof of TspBack. No condition: lemmas alone. -/
import Derived.Test.YtgmppconibklcaaGreatDoorM30
import Derived.Test.YtgmppconibklcaaGreatDoorM18
import Derived.Test.YtgmppconibklcaaGreatDoorM13
import Derived.Test.YtgmppconibklcaaGreatDoorM22
import Derived.Test.YtgmppconibklcaaGreatDoorM23
set_option linter.unusedVariables false
set_option linter.unusedSimpArgs false
set_option maxRecDepth 100000
namespace Go.Proofs.YtgmppconibklcaaGreatDoor
open Go Go.RowKit
namespace Am
variable {gl:Nat→Option (List D)}
@[simp] theorem nd_eta (n:Nd):Nd.mk n.cls n.tag n.cons n.bytes n.kids=n:=by cases n;rfl
theorem ndL_mk (c t:Int) (k:Bool) (b:List UInt8) (l:List Nd) (L:List Nd):D.leaf (.int .i64 c) :: .leaf (.int .i64 t) :: .leaf (.bool k)::z05 b::ndR l::ndL L=ndL (Nd.mk c t k b l::L):=by
 rw [z9L];rfl
theorem zlx:ndL []=[]:=rfl
@[simp] theorem ndL_one (c t:Int) (k:Bool) (b:List UInt8) (l:List Nd):[D.leaf (.int .i64 c),.leaf (.int .i64 t),.leaf (.bool k),z05 b,ndR l]=ndL [Nd.mk c t k b l]:=by
 rw [←ndL_mk,zlx]
@[simp] theorem row_byteD (l:List UInt8):D.row 1 (l.map zc0)=z05 l:=rfl
theorem dInt (n:Int) (h0: -9223372036854775808≤n) (h1:n≤9223372036854775807):OK gl 31 [iX n] (.e (nX (Dr.intN n))):=
 z0L rfl rfl z0I fun w vals hT hargs=>by
  obtain ⟨v,rfl,h⟩:=hargs.one_;have e:=RD.z16 h;subst e;refine (zfS n w h0 h1).mono ?_;rintro e w' ⟨v',rfl,hn,hb⟩;exact ⟨_,rfl,z5W hn,hb⟩
theorem zfU (t:Int) (b:List UInt8) (hz:b.length≤100000000):OK gl 34 [iX t,rX (z05 b)] (.e (nX (Dr.prim t b))):=
 z0L rfl rfl z0I fun w vals hT hargs=>by
  obtain ⟨u,v,rfl,hu,h⟩:=hargs.two;have e:=RD.z16 hu;subst e;have hi:Is w (fun _=>False) v (z05 b):=z3f (show RD (imOf w _) v (z05 b) from h);obtain ⟨A,c,rfl,hc,_⟩:=hi.bytes;refine (z1e t A b.length c b _ w hi hz).mono ?_;rintro e w' ⟨v',rfl,hn,hb⟩;exact ⟨_,rfl,z5W hn,hb⟩
theorem dNat (l:List Nat) (hL:Nt.Lb l) (hz:l.length≤100000000):OK gl 33 [rX (nuR .u32 l)] (.e (nX (Dr.natN (Nt.vl l)))):=by
 rw [←z60];exact z0L rfl rfl z0I fun w vals hT hargs=>by
  obtain ⟨v,rfl,h⟩:=hargs.one_;have hi:Is w (fun _=>False) v (limD l):=z3f (show RD (imOf w _) v (limD l) from h);obtain ⟨A,n,c,xs,rfl,hn,_⟩:=hi.open_row;refine (zfR A n c l _ w hi hL (by simp at hn;omega)).mono ?_;rintro e w' ⟨v',rfl,hn,hb⟩;exact ⟨_,rfl,z5W hn,hb⟩
theorem nBits (l:List Nat) (hL:Nt.Lb l) (hz:l.length≤100000000):OK gl 72 [rX (nuR .u32 l)] (.i .i64 (Nt.bl (Nt.vl l))):=by
 rw [←z60];exact z0L rfl rfl z0I fun w vals hT hargs=>by
  obtain ⟨v,rfl,h⟩:=hargs.one_;have hi:Is w (fun _=>False) v (limD l):=z3f (show RD (imOf w _) v (limD l) from h);obtain ⟨A,n,c,xs,rfl,hn,_⟩:=hi.open_row;refine (z2F A n c l _ w hi hL (by simp at hn;omega)).mono ?_;rintro e w' ⟨rfl,rfl⟩;exact ⟨_,rfl,zal rfl,Below.refl _ _⟩
theorem dWrite (n:Nd) (hf:Fine n):OK gl 36 [nX n] (.tup [rX (z05 (Dr.write n).1),iX (Dr.write n).2]):=
 z0L rfl rfl z0I fun w vals hT hargs=>by
  obtain ⟨v,rfl,h⟩:=hargs.one_;refine (zbL n v _ w (zam h) hf hT).mono ?_;rintro e w' ⟨v',rfl,hi,hb⟩;exact ⟨_,rfl,z35 (.z0D (z3V hi (.bytes _)) (.z0D (.leaf _ rfl) .nil_)),hb⟩
theorem z6T (m:Nd) (hf:Fine m) (c t:Int) (k:Bool) (b:List UInt8) (l:List Nd) (h:Nd.mk c t k b l=m):OK gl 36 [.agg [.d (.leaf (.int .i64 c)),.d (.leaf (.int .i64 t)),.d (.leaf (.bool k)),.d (z05 b),.d (ndR l)]] (.tup [rX (z05 (Dr.write m).1),iX (Dr.write m).2]):=by
 subst h;exact dWrite _ hf
theorem tOid (s:List UInt8) (hs:s.length≤90000):OK gl 32 [sX ⟨s.toArray⟩] (.tup [nX (Rq.oidN s),bX (Rq.z2B s)]):=
 z0L rfl rfl z0I fun w vals hT hargs=>by
  obtain ⟨v,rfl,h⟩:=hargs.one_;have e:=RD.z16 h;subst e;refine (z8v ⟨s.toArray⟩ w (by simpa [ByteArray.size] using hs)).mono ?_;rintro e w' ⟨v',rfl,hn,hb⟩;exact ⟨_,rfl,z35 (.z0D (z5W (n:=Rq.oidN s) hn) (.z0D (.leaf _ rfl) .nil_)),hb⟩
theorem zdx (s b:List UInt8) (hs:s.length≤90000) (hz:b.length≤100000):OK gl 27 [sX ⟨s.toArray⟩,rX (z05 b)] (.tup [nX (Rq.impN s b),bX (Rq.z3O s b)]):=
 z0L rfl rfl z0I fun w vals hT hargs=>by
  obtain ⟨u,v,rfl,hu,h⟩:=hargs.two;have e:=RD.z16 hu;subst e;have hi:Is w (fun _=>False) v (z05 b):=z3f (show RD (imOf w _) v (z05 b) from h);obtain ⟨A,c,rfl,hc,_⟩:=hi.bytes;refine (z8b ⟨s.toArray⟩ A b.length c b _ w hi (by simpa [ByteArray.size] using hs) hz).mono ?_;rintro e w' ⟨v',rfl,hn,hb⟩;exact ⟨_,rfl,z35 (.z0D (z5W (n:=Rq.impN s b) hn) (.z0D (.leaf _ rfl) .nil_)),hb⟩
theorem zki (has:Bool) (l:List Nat) (hL:Nt.Lb l) (hz:l.length≤100000000):OK gl 29 [bX has,rX (nuR .u32 l)] (.b (Rq.z0x has (Nt.vl l))):=by
 rw [←z60];exact ze2 has l hL hz
theorem zlZ (n:Nd) (hf:Fine n):OK gl 126 [nX n] (.tup [rX (nuR .u32 (Nt.lim ((Dr.z1D n).getD 0))),bX (Dr.z1D n).isSome]):=by
 rw [←z60];exact zkG n hf
theorem zdw (l:List Nd) (hf:∀ k∈l,Fine k):OK gl 96 [rX (ndR l)] (.tup [bX (Rq.z0i l).1,rX (nuR .u32 (Nt.lim (Rq.z0i l).2.1)),rX (ndR (Rq.z0i l).2.2)]):=by
 rw [←z60];exact z8U l hf
noncomputable def z7C (t u:Int):Int:=if (Rq.z3a t u).isSome then 0 else if u<0∨999999<u then 1 else 21
theorem z94 (t u:Int):(z7C t u==0)=(Rq.z3a t u).isSome:=by
 unfold z7C;split
 ·rename_i h;rw [h];rfl
 ·rename_i h;have:(Rq.z3a t u).isSome=false:=by simpa using h
  rw [this];split<;>rfl
theorem xLong (t u:Int):OK gl 66 [iX t,iX u] (.tup [sX ⟨((Rq.z3a t u).getD []).toArray⟩,iX (z7C t u)]):=
 z0L rfl rfl z0I fun w vals hT hargs=>by
  obtain ⟨a,b,rfl,ha,hb⟩:=hargs.two;have e:=RD.z16 ha;subst e;have e:=RD.z16 hb;subst e;by_cases hm:0≤u∧u≤999999
  ·by_cases hin: -62167219200≤t∧t≤253402300799
   ·obtain ⟨y,m,d,s,hi,hs⟩:=zlw t hin.1 hin.2;obtain ⟨v,rfl⟩:∃ k:Nat,u=k:=⟨u.toNat,by omega⟩;have hl:=Rq.ze8 (Pr.zhf hi hs (u:=v) (by omega));have he:z7C t v=0:=by unfold z7C;rw [hl];rfl
    refine (zjl t y m d s v w hin.1 hin.2 (by omega) (Lib.hid hi) (Lib.hid hs)).mono ?_;rintro e w' ⟨rfl,hb⟩;exact ⟨_,rfl,by rw [he,hl];exact z35 (.z0D (.leaf _ rfl) (.z0D (.leaf _ rfl) .nil_)),hb⟩
   ·have hl:Rq.z3a t u=none:=by
     cases h:Rq.z3a t u with
     | none=>rfl
     | some l=>
      obtain ⟨y,m,d,s,v,hi,hs,hu,hv,_⟩:=Pr.z5w (Rq.z3r h);have:=hi.range;omega
    have he:z7C t u=21:=by unfold z7C;rw [hl];simp;omega
    refine (zlC t u w hm.1 hm.2 (by omega)).mono ?_;rintro e w' ⟨rfl,rfl⟩;exact ⟨_,rfl,by rw [he,hl];exact z35 (.z0D (.leaf _ rfl) (.z0D (.leaf _ rfl) .nil_)),Below.refl _ _⟩
  ·have hl:Rq.z3a t u=none:=by
    cases h:Rq.z3a t u with
    | none=>rfl
    | some l=>
     obtain ⟨y,m,d,s,v,hi,hs,hu,hv,_⟩:=Pr.z5w (Rq.z3r h);omega
   have he:z7C t u=1:=by unfold z7C;rw [hl];simp;omega
   refine (zjm t u w (by omega)).mono ?_;rintro e w' ⟨rfl,rfl⟩;exact ⟨_,rfl,by rw [he,hl];exact z35 (.z0D (.leaf _ rfl) (.z0D (.leaf _ rfl) .nil_)),Below.refl _ _⟩
theorem zeS (s:List UInt8) (hs:s.length≤1000000):OK gl 127 [sX ⟨s.toArray⟩] (.tup [iX ((Pr.z1q s).getD (0,0)).1,iX ((Pr.z1q s).getD (0,0)).2,iX (if (Pr.z1q s).isSome then 0 else 21)]):=
 z0L rfl rfl z0I fun w vals hT hargs=>by
  obtain ⟨v,rfl,h⟩:=hargs.one_;have e:=RD.z16 h;subst e;refine (z5t ⟨s.toArray⟩ w (by simp [ByteArray.size];omega)).mono ?_;rintro e w' ⟨rfl,hq⟩;refine ⟨_,rfl,?_,zcy hq⟩;show RT _ (z3N (Pr.z1q s)) _;cases Pr.z1q s with
  | none=>exact z35 (.z0D (.leaf _ rfl) (.z0D (.leaf _ rfl) (.z0D (.leaf _ rfl) .nil_)))
  | some p=>exact z35 (.z0D (.leaf _ rfl) (.z0D (.leaf _ rfl) (.z0D (.leaf _ rfl) .nil_)))
def ownT (l:List Nd):T:=match l with
 | []=> .e (.one .nilS)
 | l=> .e (.one (.gr 14 5 (ndL l)))
def ownW (l:List Nd):List O:=match l with
 | []=>[]
 | l=>[.own 61 5 l.length]
structure OwnI (l:List Nd) (k:Nat) (s:SF):Prop where
 e6:s.env 6=some (.e (rX (ndR l)))
 e7:s.env 7=some (.e (iX l.length))
 ex:∃ j,j+k=l.length∧s.env 8=some (.e (iX j))∧((j=0∧s.env 3=some (.e (.one .nilS)))∨(0<j∧s.env 3=some (.e (.one (.gr 368 5 (ndL (l.take j)))))∧s.heap 368=some (.own 61 5 j)))
end Am
end Go.Proofs.YtgmppconibklcaaGreatDoor

namespace Go.Proofs.YtgmppconibklcaaGreatDoor
open Go Go.RowKit
namespace Am
variable {gl:Nat→Option (List D)}
theorem zh7 {n:Nd} {l:List Nd} (h:n.kids=l):Nd.mk n.cls n.tag n.cons n.bytes l=n:=by subst h;cases n;rfl
set_option maxHeartbeats 8000000 in
theorem zbS (l:List Nd) (hz:Dr.wts l≤10000000) (ih:∀ n∈l,z0M Tryz.prog gl Tabs 76 [rX (ndR n.kids)] [] (ownT n.kids) (ownW n.kids) []):z0M Tryz.prog gl Tabs 76 [rX (ndR l)] [] (ownT l) (ownW l) []:=by
 have hlen:=z5J l;refine zej true Tryz.func76 rfl (by show 1≤_;decide) ?_;rw [z0Z];unfold Tryz.f76;dsimp only;have hbl:∀ n∈l,n.bytes.length≤140737488355328:=fun n hn=>by
  have h1:=z1w n;obtain ⟨k,hk,rfl⟩:=List.getElem_of_mem hn;have:=z4T hk;omega
 have hlz:l.length≤10000000:=by omega
 clear hz hlen;repeat' (first
  | (first|refine sq_ ?_|refine bk_ ?_)
  | ((first|refine rg_ fun Q hQ=>?_|refine if_ fun Q hQ=>?_|refine ct_ (by first|with_reducible assumption|assumption) ?_);simp -implicitDefEqProofs [*])
  | ((first|refine bs_ ?_ ?_|refine cs_ ?_ ?_)<;>(intro hc;have hb:=hc;(try simp only [hk_,ne_eq] at hc);(try have ⟨hc1,hc2⟩:_∧_:=hc);(try subst_vars))<;>first|contradiction|(exfalso;omega)|(simp -implicitDefEqProofs [*])|skip)
  | ((first|(refine atQ hQ ?_;clear hQ)|refine atQ (by assumption) ?_|refine z04 ?_|refine z06 ?_|refine z07 ?_);try simp only [sk_,if_true,if_false,↓reduceIte,Nat.reduceEqDiff])
  | (show EndK _ _ _ _ _ _ _ _;simp -implicitDefEqProofs [*])
  | ((simp (disch:=omega) only [if_pos,if_neg]);(try (simp -implicitDefEqProofs [*]))))
 refine z3y (OwnI l) l.length ?_ ?_
 ·exact ⟨by simp,by simp,0,by simp,by simp,.inl ⟨rfl,by simp⟩⟩
 ·rintro k s ⟨h6,h7,j,hj,h8,h3⟩;cases k with
  | zero=>
   have hjl:j=l.length:=by omega
   subst hjl;clear ih hbl;rcases h3 with ⟨hj0,h3⟩|⟨hj0,h3,hh⟩
   ·have hl0:l=[]:=List.length_eq_zero_iff.1 hj0;subst hl0;repeat' (first
     | (first|refine sq_ ?_|refine bk_ ?_)
     | ((first|refine rg_ fun Q hQ=>?_|refine if_ fun Q hQ=>?_|refine ct_ (by first|with_reducible assumption|assumption) ?_);simp -implicitDefEqProofs [*,ownT,ownW])
     | ((first|refine bs_ ?_ ?_|refine cs_ ?_ ?_)<;>(intro hc;have hb:=hc;(try simp only [hk_,ne_eq] at hc);(try have ⟨hc1,hc2⟩:_∧_:=hc);(try subst_vars))<;>first|contradiction|(exfalso;omega)|(simp -implicitDefEqProofs [*,ownT,ownW])|skip)
     | ((first|(refine atQ hQ ?_;clear hQ)|refine atQ (by assumption) ?_|refine z04 ?_|refine z06 ?_|refine z07 ?_);try simp only [sk_,if_true,if_false,↓reduceIte,Nat.reduceEqDiff])
     | (show EndK _ _ _ _ _ _ _ _;simp -implicitDefEqProofs [*,ownT,ownW])
     | ((simp (disch:=omega) only [if_pos,if_neg]);(try (simp -implicitDefEqProofs [*,ownT,ownW]))))
   ·cases l with
    | nil=>exact absurd hj0 (by simp)
    | cons a l=>
     repeat' (first
      | (first|refine sq_ ?_|refine bk_ ?_)
      | ((first|refine rg_ fun Q hQ=>?_|refine if_ fun Q hQ=>?_|refine ct_ (by first|with_reducible assumption|assumption) ?_);simp -implicitDefEqProofs [*,ownT,ownW])
      | ((first|refine bs_ ?_ ?_|refine cs_ ?_ ?_)<;>(intro hc;have hb:=hc;(try simp only [hk_,ne_eq] at hc);(try have ⟨hc1,hc2⟩:_∧_:=hc);(try subst_vars))<;>first|contradiction|(exfalso;omega)|(simp -implicitDefEqProofs [*,ownT,ownW])|skip)
      | ((first|(refine atQ hQ ?_;clear hQ)|refine atQ (by assumption) ?_|refine z04 ?_|refine z06 ?_|refine z07 ?_);try simp only [sk_,if_true,if_false,↓reduceIte,Nat.reduceEqDiff])
      | (show EndK _ _ _ _ _ _ _ _;simp -implicitDefEqProofs [*,ownT,ownW])
      | ((simp (disch:=omega) only [if_pos,if_neg]);(try (simp -implicitDefEqProofs [*,ownT,ownW]))))
  | succ k=>
   have h1:j<l.length:=by omega
   obtain ⟨x,r,hd,hx,htk⟩:=z29 h1;have hw:=z6H (k:=j+1) (by omega);have hmin:min j l.length=j:=by omega
   have cO:=ih x (List.mem_of_getElem? hx);have hb:=hbl x (List.mem_of_getElem? hx);have h5:(j*5+5) / 5*72≤140737488355328:=by omega
   have h5':j*5+5≤140737488355328:=by omega
   clear ih hbl;rcases hk:x.kids with _|⟨a,m⟩
   ·rw [hk] at cO;have hxe:=zh7 hk;rcases h3 with ⟨rfl,h3⟩|⟨hj0,h3,hh⟩
    ·have h1t:List.take 1 l=[x]:=by rw [show 1=0+1 from rfl,htk];rfl
     clear htk;repeat' (first
      | (first|refine sq_ ?_|refine bk_ ?_)
      | ((first|refine rg_ fun Q hQ=>?_|refine if_ fun Q hQ=>?_|refine ct_ (by first|with_reducible assumption|assumption) ?_);simp -implicitDefEqProofs [*,z0e,ownT,ownW])
      | ((first|refine bs_ ?_ ?_|refine cs_ ?_ ?_)<;>(intro hc;have hb:=hc;(try simp only [hk_,ne_eq] at hc);(try have ⟨hc1,hc2⟩:_∧_:=hc);(try subst_vars))<;>first|contradiction|(exfalso;omega)|(simp -implicitDefEqProofs [*,z0e,ownT,ownW])|skip)
      | ((first|(refine atQ hQ ?_;clear hQ)|refine atQ (by assumption) ?_|refine z04 ?_|refine z06 ?_|refine z07 ?_);try simp only [sk_,if_true,if_false,↓reduceIte,Nat.reduceEqDiff])
      | (show EndK _ _ _ _ _ _ _ _;simp -implicitDefEqProofs [*,z0e,ownT,ownW])
      | ((simp (disch:=omega) only [if_pos,if_neg]);(try (simp -implicitDefEqProofs [*,z0e,ownT,ownW]))))
     exact ⟨k,by omega,by simp [h6],by simp [h7],1,by omega,by simp,.inr ⟨by omega,by simp [h1t],by simp⟩⟩
    ·repeat' (first
      | (first|refine sq_ ?_|refine bk_ ?_)
      | ((first|refine rg_ fun Q hQ=>?_|refine if_ fun Q hQ=>?_|refine ct_ (by first|with_reducible assumption|assumption) ?_);simp -implicitDefEqProofs [*,z0e,ownT,ownW])
      | ((first|refine bs_ ?_ ?_|refine cs_ ?_ ?_)<;>(intro hc;have hb:=hc;(try simp only [hk_,ne_eq] at hc);(try have ⟨hc1,hc2⟩:_∧_:=hc);(try subst_vars))<;>first|contradiction|(exfalso;omega)|(simp -implicitDefEqProofs [*,z0e,ownT,ownW])|skip)
      | ((first|(refine atQ hQ ?_;clear hQ)|refine atQ (by assumption) ?_|refine z04 ?_|refine z06 ?_|refine z07 ?_);try simp only [sk_,if_true,if_false,↓reduceIte,Nat.reduceEqDiff])
      | (show EndK _ _ _ _ _ _ _ _;simp -implicitDefEqProofs [*,z0e,ownT,ownW])
      | ((simp (disch:=omega) only [if_pos,if_neg]);(try (simp -implicitDefEqProofs [*,z0e,ownT,ownW]))))
     exact ⟨k,by omega,by simp [h6],by simp [h7],j+1,by omega,by simpa using hw,.inr ⟨by omega,by simp [htk],by simp⟩⟩
   ·rw [hk] at cO;have hxe:=zh7 hk;rcases h3 with ⟨rfl,h3⟩|⟨hj0,h3,hh⟩
    ·have h1t:List.take 1 l=[x]:=by rw [show 1=0+1 from rfl,htk];rfl
     clear htk;repeat' (first
      | (first|refine sq_ ?_|refine bk_ ?_)
      | ((first|refine rg_ fun Q hQ=>?_|refine if_ fun Q hQ=>?_|refine ct_ (by first|with_reducible assumption|assumption) ?_);simp -implicitDefEqProofs [*,z0e,ownT,ownW])
      | ((first|refine bs_ ?_ ?_|refine cs_ ?_ ?_)<;>(intro hc;have hb:=hc;(try simp only [hk_,ne_eq] at hc);(try have ⟨hc1,hc2⟩:_∧_:=hc);(try subst_vars))<;>first|contradiction|(exfalso;omega)|(simp -implicitDefEqProofs [*,z0e,ownT,ownW])|skip)
      | ((first|(refine atQ hQ ?_;clear hQ)|refine atQ (by assumption) ?_|refine z04 ?_|refine z06 ?_|refine z07 ?_);try simp only [sk_,if_true,if_false,↓reduceIte,Nat.reduceEqDiff])
      | (show EndK _ _ _ _ _ _ _ _;simp -implicitDefEqProofs [*,z0e,ownT,ownW])
      | ((simp (disch:=omega) only [if_pos,if_neg]);(try (simp -implicitDefEqProofs [*,z0e,ownT,ownW]))))
     exact ⟨k,by omega,by simp [h6],by simp [h7],1,by omega,by simp,.inr ⟨by omega,by simp [h1t],by simp⟩⟩
    ·repeat' (first
      | (first|refine sq_ ?_|refine bk_ ?_)
      | ((first|refine rg_ fun Q hQ=>?_|refine if_ fun Q hQ=>?_|refine ct_ (by first|with_reducible assumption|assumption) ?_);simp -implicitDefEqProofs [*,z0e,ownT,ownW])
      | ((first|refine bs_ ?_ ?_|refine cs_ ?_ ?_)<;>(intro hc;have hb:=hc;(try simp only [hk_,ne_eq] at hc);(try have ⟨hc1,hc2⟩:_∧_:=hc);(try subst_vars))<;>first|contradiction|(exfalso;omega)|(simp -implicitDefEqProofs [*,z0e,ownT,ownW])|skip)
      | ((first|(refine atQ hQ ?_;clear hQ)|refine atQ (by assumption) ?_|refine z04 ?_|refine z06 ?_|refine z07 ?_);try simp only [sk_,if_true,if_false,↓reduceIte,Nat.reduceEqDiff])
      | (show EndK _ _ _ _ _ _ _ _;simp -implicitDefEqProofs [*,z0e,ownT,ownW])
      | ((simp (disch:=omega) only [if_pos,if_neg]);(try (simp -implicitDefEqProofs [*,z0e,ownT,ownW]))))
     exact ⟨k,by omega,by simp [h6],by simp [h7],j+1,by omega,by simpa using hw,.inr ⟨by omega,by simp [htk],by simp⟩⟩
theorem dOwn:∀ (m:Nat) (l:List Nd),Dr.wts l≤m→Dr.wts l≤10000000→z0M Tryz.prog gl Tabs 76 [rX (ndR l)] [] (ownT l) (ownW l) []
 | 0,l,h,hz=>zbS l hz fun n hn=>by
   have h1:=z1w n;obtain ⟨k,hk,rfl⟩:=List.getElem_of_mem hn;have:=z4T hk;omega
 | m+1,l,h,hz=>zbS l hz fun n hn=>by
   have h1:=z1w n;obtain ⟨k,hk,rfl⟩:=List.getElem_of_mem hn;have:=z4T hk;exact dOwn m _ (by omega) (by omega)
def z47 (c t:Int) (l:List Nd):T:=match l with
 | []=> .e (.agg [.d (.leaf (.int .i64 c)),.d (.leaf (.int .i64 t)),.d (.leaf (.bool true)),.nilS,.nilS])
 | l=> .e (.agg [.d (.leaf (.int .i64 c)),.d (.leaf (.int .i64 t)),.d (.leaf (.bool true)),.nilS,.gr 14 5 (ndL l)])
set_option maxHeartbeats 4000000 in
theorem dCons (c t:Int) (l:List Nd) (hz:Dr.wts l≤10000000):z0M Tryz.prog gl Tabs 35 [iX c,iX t,rX (ndR l)] [] (z47 c t l) (ownW l) []:=by
 have cO:=dOwn (gl:=gl) _ l (Nat.le_refl _) hz;refine zej true Tryz.func35 rfl (by show 3≤_;decide) ?_;rw [z0Z];unfold Tryz.f35;dsimp only;cases l with
 | nil=>
  repeat' (first
   | (first|refine sq_ ?_|refine bk_ ?_)
   | ((first|refine rg_ fun Q hQ=>?_|refine if_ fun Q hQ=>?_|refine ct_ (by first|with_reducible assumption|assumption) ?_);simp -implicitDefEqProofs [*,ownT,ownW,z47])
   | ((first|refine bs_ ?_ ?_|refine cs_ ?_ ?_)<;>(intro hc;have hb:=hc;(try simp only [hk_,ne_eq] at hc);(try have ⟨hc1,hc2⟩:_∧_:=hc);(try subst_vars))<;>first|contradiction|(exfalso;omega)|(simp -implicitDefEqProofs [*,ownT,ownW,z47])|skip)
   | ((first|(refine atQ hQ ?_;clear hQ)|refine atQ (by assumption) ?_|refine z04 ?_|refine z06 ?_|refine z07 ?_);try simp only [sk_,if_true,if_false,↓reduceIte,Nat.reduceEqDiff])
   | (show EndK _ _ _ _ _ _ _ _;simp -implicitDefEqProofs [*,ownT,ownW,z47])
   | ((simp (disch:=omega) only [if_pos,if_neg]);(try (simp -implicitDefEqProofs [*,ownT,ownW,z47]))))
 | cons a l=>
  repeat' (first
   | (first|refine sq_ ?_|refine bk_ ?_)
   | ((first|refine rg_ fun Q hQ=>?_|refine if_ fun Q hQ=>?_|refine ct_ (by first|with_reducible assumption|assumption) ?_);simp -implicitDefEqProofs [*,ownT,ownW,z47])
   | ((first|refine bs_ ?_ ?_|refine cs_ ?_ ?_)<;>(intro hc;have hb:=hc;(try simp only [hk_,ne_eq] at hc);(try have ⟨hc1,hc2⟩:_∧_:=hc);(try subst_vars))<;>first|contradiction|(exfalso;omega)|(simp -implicitDefEqProofs [*,ownT,ownW,z47])|skip)
   | ((first|(refine atQ hQ ?_;clear hQ)|refine atQ (by assumption) ?_|refine z04 ?_|refine z06 ?_|refine z07 ?_);try simp only [sk_,if_true,if_false,↓reduceIte,Nat.reduceEqDiff])
   | (show EndK _ _ _ _ _ _ _ _;simp -implicitDefEqProofs [*,ownT,ownW,z47])
   | ((simp (disch:=omega) only [if_pos,if_neg]);(try (simp -implicitDefEqProofs [*,ownT,ownW,z47]))))
set_option maxHeartbeats 4000000 in
theorem tSeqO (l:List Nd) (hz:Dr.wts l≤10000000):z0M Tryz.prog gl Tabs 30 [rX (ndR l)] [] (z47 0 16 l) (ownW l) []:=by
 have cO:=dCons (gl:=gl) 0 16 l hz;refine zej true Tryz.func30 rfl (by show 1≤_;decide) ?_;rw [z0Z];unfold Tryz.f30;dsimp only;cases l with
 | nil=>
  repeat' (first
   | (first|refine sq_ ?_|refine bk_ ?_)
   | ((first|refine rg_ fun Q hQ=>?_|refine if_ fun Q hQ=>?_|refine ct_ (by first|with_reducible assumption|assumption) ?_);simp -implicitDefEqProofs [*,ownT,ownW,z47])
   | ((first|refine bs_ ?_ ?_|refine cs_ ?_ ?_)<;>(intro hc;have hb:=hc;(try simp only [hk_,ne_eq] at hc);(try have ⟨hc1,hc2⟩:_∧_:=hc);(try subst_vars))<;>first|contradiction|(exfalso;omega)|(simp -implicitDefEqProofs [*,ownT,ownW,z47])|skip)
   | ((first|(refine atQ hQ ?_;clear hQ)|refine atQ (by assumption) ?_|refine z04 ?_|refine z06 ?_|refine z07 ?_);try simp only [sk_,if_true,if_false,↓reduceIte,Nat.reduceEqDiff])
   | (show EndK _ _ _ _ _ _ _ _;simp -implicitDefEqProofs [*,ownT,ownW,z47])
   | ((simp (disch:=omega) only [if_pos,if_neg]);(try (simp -implicitDefEqProofs [*,ownT,ownW,z47]))))
 | cons a l=>
  repeat' (first
   | (first|refine sq_ ?_|refine bk_ ?_)
   | ((first|refine rg_ fun Q hQ=>?_|refine if_ fun Q hQ=>?_|refine ct_ (by first|with_reducible assumption|assumption) ?_);simp -implicitDefEqProofs [*,ownT,ownW,z47])
   | ((first|refine bs_ ?_ ?_|refine cs_ ?_ ?_)<;>(intro hc;have hb:=hc;(try simp only [hk_,ne_eq] at hc);(try have ⟨hc1,hc2⟩:_∧_:=hc);(try subst_vars))<;>first|contradiction|(exfalso;omega)|(simp -implicitDefEqProofs [*,ownT,ownW,z47])|skip)
   | ((first|(refine atQ hQ ?_;clear hQ)|refine atQ (by assumption) ?_|refine z04 ?_|refine z06 ?_|refine z07 ?_);try simp only [sk_,if_true,if_false,↓reduceIte,Nat.reduceEqDiff])
   | (show EndK _ _ _ _ _ _ _ _;simp -implicitDefEqProofs [*,ownT,ownW,z47])
   | ((simp (disch:=omega) only [if_pos,if_neg]);(try (simp -implicitDefEqProofs [*,ownT,ownW,z47]))))
theorem tSeq0:z0M Tryz.prog gl Tabs 30 [rX (ndR [])] [] (.e (.agg [.d (.leaf (.int .i64 0)),.d (.leaf (.int .i64 16)),.d (.leaf (.bool true)),.nilS,.nilS])) [] []:=tSeqO [] (by decide)
theorem ziP (a:Nd) (l:List Nd) (hz:Dr.wts (a::l)≤10000000):z0M Tryz.prog gl Tabs 30 [rX (ndR (a::l))] [] (.e (.agg [.d (.leaf (.int .i64 0)),.d (.leaf (.int .i64 16)),.d (.leaf (.bool true)),.nilS,.gr 14 5 (ndL (a::l))])) [.own 61 5 (l.length+1)] []:=tSeqO (a::l) hz
end Am
end Go.Proofs.YtgmppconibklcaaGreatDoor

