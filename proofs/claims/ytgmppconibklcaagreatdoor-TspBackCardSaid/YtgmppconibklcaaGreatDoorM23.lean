/- Part of the proof of TspBack. No condition: lemmas alone. -/
import Derived.Test.YtgmppconibklcaaGreatDoorM22
import Derived.Test.YtgmppconibklcaaGreatDoorM14
import Derived.Test.YtgmppconibklcaaGreatDoorM20
import Derived.Deep.RegionHeld3
set_option linter.unusedVariables false
set_option linter.unusedSimpArgs false
set_option maxRecDepth 100000
namespace Go.Proofs.YtgmppconibklcaaGreatDoor
open Go Go.RowKit
namespace Am
section
variable {P:Program} {α:Type} {f:α→List D} {s:Nat} {t e:TypeId}
theorem z5z (hf:∀ a,(f a).length=s) (l:List α):(l.flatMap f).length=l.length*s:=z1K hf l
theorem z7J (hf:∀ a,(f a).length=s):∀ (k:Nat) (l:List α),(l.flatMap f).drop (k*s)=(l.drop k).flatMap f
 | 0,l=>by simp
 | k+1,[]=>by simp
 | k+1,a::l=>by
  rw [List.flatMap_cons,Nat.add_mul,Nat.one_mul,Nat.add_comm (k*s) s,←List.drop_drop,List.drop_left' (hf a),z7J hf k l,List.drop_succ_cons]
theorem zbx (hf:∀ a,(f a).length=s):∀ (k:Nat) (l:List α),(l.flatMap f).take (k*s)=(l.take k).flatMap f
 | 0,l=>by simp
 | k+1,[]=>by simp
 | k+1,a::l=>by
  rw [List.flatMap_cons,Nat.add_mul,Nat.one_mul,Nat.add_comm (k*s) s,List.take_add,List.take_left' (hf a),List.drop_left' (hf a),zbx hf k l,List.take_succ_cons,List.flatMap_cons]
theorem zbC (hf:∀ a,(f a).length=s) (hs:0<s) (hu:P.underlying t=some (.slice e)) (l:List α):z45 P t (some (.e (.one (.d (.row s (l.flatMap f))))))=some l.length:=by
 simp [z45,hu,row?,hs,z5z hf,Nat.mul_div_cancel]
theorem z4k (hf:∀ a,(f a).length=s) (hs:0<s) (hu:P.underlying t=some (.slice e)) (hz:z0h P e=s) (l:List α) (i:Int):z0u P t (some (.e (.one (.d (.row s (l.flatMap f)))))) i=if 0≤i∧i.toNat<l.length then some (.ep ((l.drop i.toNat).flatMap f)) else none:=by
 simp [z0u,hu,row?,hz,zdg,hs,z5z hf,Nat.mul_div_cancel,z7J hf]
theorem z7P (hf:∀ a,(f a).length=s) (hs:0<s) (hu:P.underlying t=some (.slice e)) (hz:z0h P e=s) (l:List α) (lo hi:Option (Option T)):z3S P t (some (.e (.one (.d (.row s (l.flatMap f)))))) lo hi=match bound lo 0,bound hi l.length with
  | some a,some b=>if a≤b∧b≤l.length then some (.d (.row s (((l.drop a).take (b-a)).flatMap f))) else none
  | _,_=>none:=by
 unfold z3S;simp only [hu,row?,z5z hf,Nat.mul_div_cancel _ hs,z7J hf,zbx hf];rw [if_pos ⟨hz.symm,hs⟩];cases bound lo 0<;>cases bound hi l.length<;>rfl
end
def ndL (l:List Nd):List D:=l.flatMap Nd.cells
def ndR (l:List Nd):D:= .row 5 (ndL l)
@[simp] theorem row_ndL (l:List Nd):D.row 5 (ndL l)=ndR l:=rfl
@[simp] theorem ndL_len (l:List Nd):(ndL l).length=l.length*5:=z5z Nd.z1X l
@[simp] theorem ndL_app (l k:List Nd):ndL l++ndL k=ndL (l++k):=by simp [ndL]
abbrev nX (n:Nd):E:= .agg [.d (.leaf (.int .i64 n.cls)),.d (.leaf (.int .i64 n.tag)),.d (.leaf (.bool n.cons)),.d (z05 n.bytes),.d (ndR n.kids)]
@[simp high] theorem evLen_nd (l:List Nd):z45 Tryz.prog 59 (some (.e (.one (.d (ndR l)))))=some l.length:=zbC (e:=61) Nd.z1X (by decide) (by simp) l
@[simp high] theorem ziy (l:List Nd) (i:Int):z0u Tryz.prog 59 (some (.e (.one (.d (ndR l))))) i=if 0≤i∧i.toNat<l.length then some (.ep (ndL (l.drop i.toNat))) else none:=z4k Nd.z1X (by decide) (e:=61) (by simp) (by simp) l i
@[simp high] theorem loadE_nd (h:Nat→Option O) (k:Nd) (l:List Nd):z2j Tryz.prog h 61 (.ep (ndL (k::l)))=some (nX k):=by
 simp [z2j,ndL,Nd.z6U];rfl
@[simp] theorem pos_2 (n:Nat):(0:Int)<(n:Int)+1+1:=by omega
@[simp] theorem pos_12 (n:Nat):(1:Int)<(n:Int)+1+1:=by omega
theorem z9L (k:Nd) (l:List Nd):ndL (k::l) = .leaf (.int .i64 k.cls) :: .leaf (.int .i64 k.tag) :: .leaf (.bool k.cons)::z05 k.bytes::ndR k.kids::ndL l:=by
 simp only [ndL,List.flatMap_cons,Nd.z6U];rfl
@[simp high] theorem loadE_nd3 (h:Nat→Option O) (k:Nd) (l:List Nd):z2j Tryz.prog h 22 (.ep (List.drop 3 (ndL (k::l))))=some (rX (z05 k.bytes)):=by simp [z2j,z9L]
@[simp high] theorem loadE_nd4 (h:Nat→Option O) (k:Nd) (l:List Nd):z2j Tryz.prog h 59 (.ep (List.drop 4 (ndL (k::l))))=some (rX (ndR k.kids)):=by simp [z2j,z9L]
@[simp high] theorem evSlice_nd (l:List Nd) (lo hi:Option (Option T)):z3S Tryz.prog 59 (some (.e (.one (.d (ndR l))))) lo hi=match bound lo 0,bound hi l.length with
  | some a,some b=>if a≤b∧b≤l.length then some (.d (ndR ((l.drop a).take (b-a)))) else none
  | _,_=>none:=z7P Nd.z1X (by decide) (e:=61) (by simp) (by simp) l lo hi
@[simp high] theorem rowOf_gr (s q:Nat) (l:List D):rowOf s (some (.e (.one (.gr q s l))))=some l:=by simp [rowOf,row?]
def byL (b:List UInt8):List D:=b.map fun b=> .leaf (.int .u8 (b.toNat:Int))
@[simp] theorem row_byL (b:List UInt8):D.row 1 (byL b)=z05 b:=rfl
@[simp] theorem row_nil1:D.row 1 []=z05 []:=rfl
@[simp] theorem byL_len (l:List UInt8):(byL l).length=l.length:=by simp [byL]
@[simp high] theorem evLen_by (b:List UInt8):z45 Tryz.prog 22 (some (.e (.one (.d (z05 b)))))=some b.length:=by simp [z45,row?,z05]
@[simp high] theorem ziA (b:List UInt8) (i:Int):z0u Tryz.prog 22 (some (.e (.one (.d (z05 b))))) i=if 0≤i∧i.toNat<b.length then some (.ep (byL (b.drop i.toNat))) else none:=by
 simp [z0u,row?,z05,zdg,byL,List.map_drop]
@[simp high] theorem loadE_by (h:Nat→Option O) (x:UInt8) (b:List UInt8):z2j Tryz.prog h 5 (.ep (byL (x::b)))=some (.one (.d (.leaf (.int .u8 (x.toNat:Int))))):=by
 simp [z2j,byL]
@[simp high] theorem rowOf_by (b:List UInt8):rowOf 1 (some (.e (.one (.d (z05 b)))))=some (byL b):=by simp [rowOf,row?,z05,byL]
theorem zde (b:UInt8):byteOf? (.leaf (.int .u8 (b.toNat:Int)))=some b:=by
 have:=b.toNat_lt;simp [byteOf?];omega
@[simp] theorem zdd:∀ b:List UInt8,bytesOf? (byL b)=some b
 | []=>rfl
 | x::b=>by
  have:=zdd b;simp only [byL] at this ⊢;rw [List.map_cons,bytesOf?,zde,this];rfl
@[simp] theorem evLen_str (s:ByteArray):z45 Tryz.prog 9 (some (.e (.one (.d (.leaf (.string s))))))=some s.size:=by simp [z45]
@[simp] theorem evLen_gr22 (q:Nat) (b:List UInt8):z45 Tryz.prog 22 (some (.e (.one (.gr q 1 (byL b)))))=some b.length:=by simp [z45]
section
variable {gl:Nat→Option (List D)}
theorem zi0 (n:Nd) (hf:Fine n):OK gl 118 [nX n] (.tup [iX ((Dr.intOf n).getD 0),bX (Dr.intOf n).isSome]):=zd6 n hf
theorem zkG (n:Nd) (hf:Fine n):OK gl 126 [nX n] (.tup [rX (limD (Nt.lim ((Dr.z1D n).getD 0))),bX (Dr.z1D n).isSome]):=zd5 n hf
end
@[simp] theorem nil_cls:Nd.nil.cls=0:=rfl
@[simp] theorem nil_tag:Nd.nil.tag=0:=rfl
@[simp] theorem nil_cons:Nd.nil.cons=false:=rfl
@[simp] theorem nil_bytes:Nd.nil.bytes=[]:=rfl
@[simp] theorem nil_kids:Nd.nil.kids=[]:=rfl
@[simp] theorem row_nil5:D.row 5 []=ndR []:=rfl
end Am
end Go.Proofs.YtgmppconibklcaaGreatDoor

namespace Go.Proofs.YtgmppconibklcaaGreatDoor
open Go Go.RowKit
namespace Am
variable {gl:Nat→Option (List D)}
set_option maxHeartbeats 4000000 in
theorem z9Q (n:Nd) (t:Int):OK gl 97 [nX n,iX t] (.b (n.cls==0&&n.tag==t)):=by
 refine z0k Tryz.func97 rfl (by show 2≤_;decide) ?_;unfold Tryz.f97;dsimp only;repeat (refine z0b ?_)
 refine z08 z0d fun Q hQ=>?_
 simp;subst hQ;try simp only [z02,z03,z00,z01]
 refine z0b (z08 z0d fun Q hQ=>?_);have fin:∀ s:SF,s.env 4=some (.b (n.cls==0&&n.tag==t))→Q .normal s:=fun s h=>by
  subst hQ;try simp only [z02,z03,z00,z01]
  refine z07 ?_;simp [h]
 clear hQ;simp;cases h1:(n.cls==0)<;>simp [h1]
 ·exact fin _ (by simp [h1])
 ·exact fin _ (by simp [h1])
set_option maxHeartbeats 4000000 in
theorem z1W (l:List Nd):OK gl 95 [rX (ndR l)] (.e (nX (l.headD Nd.nil))):=by
 refine z0k Tryz.func95 rfl (by show 1≤_;decide) ?_;unfold Tryz.f95;dsimp only;repeat (refine z0b ?_)
 refine z08 z0d fun Q hQ=>?_
 simp;subst hQ;try simp only [z02,z03,z00,z01]
 repeat (refine z0b ?_)
 refine z08 z0d fun Q hQ=>?_
 simp;subst hQ;try simp only [z02,z03,z00,z01]
 repeat (refine z0b ?_)
 refine z1B fun Q hQ=>?_
 simp;cases l with
 | nil=>
  simp;subst hQ;try simp only [z02,z03,z00,z01]
  repeat (refine z0b ?_)
  refine z08 z0d fun Q hQ=>?_
  simp;subst hQ;try simp only [z02,z03,z00,z01]
  refine z07 ?_;simp
 | cons k l=>
  simp;subst hQ;try simp only [z02,z03,z00,z01]
  refine z04 ?_;simp only [z02];repeat (refine z0b ?_)
  refine z08 z0d fun Q hQ=>?_
  simp;subst hQ;try simp only [z02,z03,z00,z01]
  refine z07 ?_;simp
set_option maxHeartbeats 4000000 in
theorem one_ok (n:Nd) (hf:Fine n):OK gl 92 [nX n] (.b ((Dr.intOf n).isSome&&(n.cls==0&&n.tag==2)&&(Dr.intOf n).getD 0==1)):=by
 refine z0k Tryz.func92 rfl (by show 1≤_;decide) ?_;unfold Tryz.f92;dsimp only;repeat (refine z0b ?_)
 refine z08 z0d fun Q hQ=>?_
 simp;subst hQ;try simp only [z02,z03,z00,z01]
 repeat (refine z0b ?_)
 refine z08 z0d fun Q hQ=>?_
 simp;refine z0m Tryz.func118 (by simp) (by simp) (by simp) (by simp) (zi0 n hf) (by simp) (by simp) ?_;simp;subst hQ;try simp only [z02,z03,z00,z01]
 repeat (refine z0b ?_)
 refine z08 z0d fun Q hQ=>?_
 have fin:∀ s:SF,s.env 2=some (.b ((Dr.intOf n).isSome&&(n.cls==0&&n.tag==2)&&(Dr.intOf n).getD 0==1))→Q .normal s:=fun s h=>by
  subst hQ;try simp only [z02,z03,z00,z01]
  refine z07 ?_;simp [h]
 clear hQ;simp;cases h1:(Dr.intOf n).isSome<;>simp
 ·exact fin _ (by simp [h1])
 ·refine z0m Tryz.func97 (by simp) (by simp) (by simp) (by simp) (z9Q n 2) (by simp) (by simp) ?_;simp;cases h2:(n.cls==0&&n.tag==2)<;>simp
  ·exact fin _ (by simp [h1,h2])
  ·exact fin _ (by simp [h1,h2])
set_option maxHeartbeats 4000000 in
theorem zjt (n:Nd) (a b:Int):OK gl 91 [nX n,iX a,iX b] (.b (n.cls==0&&n.tag==16&&n.cons&&decide (a≤(n.kids.length:Int))&&decide ((n.kids.length:Int)≤b))):=by
 refine z0k Tryz.func91 rfl (by show 3≤_;decide) ?_;unfold Tryz.f91;dsimp only;repeat (refine z0b ?_)
 refine z08 z0d fun Q hQ=>?_
 simp;subst hQ;try simp only [z02,z03,z00,z01]
 repeat (refine z0b ?_)
 refine z08 z0d fun Q hQ=>?_
 have fin:∀ s:SF,s.env 6=some (.b (n.cls==0&&n.tag==16&&n.cons&&decide (a≤(n.kids.length:Int))&&decide ((n.kids.length:Int)≤b)))→Q .normal s:=fun s h=>by
  subst hQ;try simp only [z02,z03,z00,z01]
  refine z07 ?_;simp [h]
 clear hQ;simp;cases h1:(n.cls==0)<;>simp
 ·exact fin _ (by simp [h1])
 ·cases h2:(n.tag==16)<;>simp
  ·exact fin _ (by simp [h1,h2])
  ·cases h3:n.cons<;>simp
   ·exact fin _ (by simp [h1,h2,h3])
   ·cases h4:decide (a≤(n.kids.length:Int))<;>simp
    ·exact fin _ (by simp [h1,h2,h3,h4])
    ·exact fin _ (by simp [h1,h2,h3,h4])
def oidO (n:Nd):Option (List UInt8):=if n.cls==0&&n.tag==6 then Od.decO n.bytes else none
theorem z8Q (b:List UInt8) (hb:b.length≤40000):OK gl 158 [rX (z05 b)] (.tup [sX ⟨((Od.decO b).getD []).toArray⟩,iX (if (Od.decO b).isSome then 0 else 20)]):=
 z0L rfl rfl z0I fun w vals hT hargs=>by
  obtain ⟨v,rfl,h⟩:=hargs.one_;obtain ⟨A,c,rfl,hc,hr,_⟩:=(z3f (Av:=fun _=>False) (show RD (imOf w _) v (z05 b) from h)).bytes;refine (z7s A c b w hr hb).mono ?_;rintro e w' ⟨rfl,hb⟩;refine ⟨_,rfl,?_,hb⟩;unfold z8s;cases Od.decO b with
  | none=>exact z35 (.z0D (.leaf _ rfl) (.z0D (.leaf _ rfl) .nil_))
  | some t=>exact z35 (.z0D (.leaf _ rfl) (.z0D (.leaf _ rfl) .nil_))
set_option maxHeartbeats 4000000 in
theorem z9J (n:Nd) (hf:n.bytes.length≤40000):OK gl 94 [nX n] (.tup [sX ⟨((oidO n).getD []).toArray⟩,bX (oidO n).isSome]):=by
 obtain ⟨b,hb⟩:∃ b,b=(n.cls==0&&n.tag==6):=⟨_,rfl⟩;have his:=z9Q (gl:=gl) n 6;rw [←hb] at his;have ho:oidO n=if b then Od.decO n.bytes else none:=by rw [hb];rfl
 refine z0k Tryz.func94 rfl (by show 1≤_;decide) ?_;unfold Tryz.f94;dsimp only;repeat (refine z0b ?_)
 refine z08 z0d fun Q hQ=>?_
 simp;subst hQ;try simp only [z02,z03,z00,z01]
 repeat (refine z0b ?_)
 refine z08 z0d fun Q hQ=>?_
 simp;refine z0m Tryz.func97 (by simp) (by simp) (by simp) (by simp) (his) (by simp) (by simp) ?_;simp;subst hQ;try simp only [z02,z03,z00,z01]
 repeat (refine z0b ?_)
 refine z1B fun Q hQ=>?_
 simp;cases b
 ·simp;subst hQ;try simp only [z02,z03,z00,z01]
  repeat (refine z0b ?_)
  refine z08 z0d fun Q hQ=>?_
  simp;subst hQ;try simp only [z02,z03,z00,z01]
  refine z07 ?_;simp [ho]
 ·simp;subst hQ;try simp only [z02,z03,z00,z01]
  refine z04 ?_;simp only [z02];repeat (refine z0b ?_)
  refine z08 z0d fun Q hQ=>?_
  simp;refine z0m Tryz.func158 (by simp) (by simp) (by simp) (by simp) (z8Q n.bytes hf) (by simp) (by simp) ?_;simp;subst hQ;try simp only [z02,z03,z00,z01]
  repeat (refine z0b ?_)
  refine z08 z0d fun Q hQ=>?_
  simp;subst hQ;try simp only [z02,z03,z00,z01]
  refine z07 ?_;cases h2:Od.decO n.bytes<;>simp [ho,h2]
theorem z2e:limD (Nt.lim 0)=z05 []:=by rw [show Nt.lim 0=[] from by decide];rfl
set_option maxHeartbeats 4000000 in
theorem z8U (l:List Nd) (hf:∀ k∈l,Fine k):OK gl 96 [rX (ndR l)] (.tup [bX (Rq.z0i l).1,rX (limD (Nt.lim (Rq.z0i l).2.1)),rX (ndR (Rq.z0i l).2.2)]):=by
 refine z0k Tryz.func96 rfl (by show 1≤_;decide) ?_;unfold Tryz.f96;dsimp only;repeat (refine z0b ?_)
 refine z08 z0d fun Q hQ=>?_
 simp;subst hQ;try simp only [z02,z03,z00,z01]
 cases l with
 | nil=>
  repeat (refine z0b ?_)
  refine z08 z0d fun Q hQ=>?_
  simp;subst hQ;try simp only [z02,z03,z00,z01]
  repeat (refine z0b ?_)
  refine z1B fun Q hQ=>?_
  simp;subst hQ;try simp only [z02,z03,z00,z01]
  refine z04 ?_;simp only [z02];repeat (refine z0b ?_)
  refine z08 z0d fun Q hQ=>?_
  simp;subst hQ;try simp only [z02,z03,z00,z01]
  refine z07 ?_;simp [Rq.z0i,z2e]
 | cons k l=>
  obtain ⟨b,hb⟩:∃ b,b=(k.cls==0&&k.tag==2):=⟨_,rfl⟩;have his:=z9Q (gl:=gl) k 2;rw [←hb] at his;have hb':(k.cls=0∧k.tag=2)↔b=true:=by rw [hb];simp
  repeat (refine z0b ?_)
  refine z08 z0d fun Q hQ=>?_
  simp;refine z0m Tryz.func97 (by simp) (by simp) (by simp) (by simp) (his) (by simp) (by simp) ?_;simp;subst hQ;try simp only [z02,z03,z00,z01]
  repeat (refine z0b ?_)
  refine z1B fun Q hQ=>?_
  simp;cases b
  ·simp;subst hQ;try simp only [z02,z03,z00,z01]
   refine z04 ?_;simp only [z02];repeat (refine z0b ?_)
   refine z08 z0d fun Q hQ=>?_
   simp;subst hQ;try simp only [z02,z03,z00,z01]
   refine z07 ?_;simp [Rq.z0i,hb',z2e]
  ·simp;subst hQ;try simp only [z02,z03,z00,z01]
   repeat (refine z0b ?_)
   refine z08 z0d fun Q hQ=>?_
   simp;refine z0m Tryz.func126 (by simp) (by simp) (by simp) (by simp) (zkG k (hf k (by simp))) (by simp) (by simp) ?_;simp;subst hQ;try simp only [z02,z03,z00,z01]
   repeat (refine z0b ?_)
   refine z08 z0d fun Q hQ=>?_
   simp;subst hQ;try simp only [z02,z03,z00,z01]
   repeat (refine z0b ?_)
   refine z1B fun Q hQ=>?_
   simp;cases hn:Dr.z1D k with
   | none=>
    simp;subst hQ;try simp only [z02,z03,z00,z01]
    refine z04 ?_;simp only [z02];repeat (refine z0b ?_)
    refine z08 z0d fun Q hQ=>?_
    simp;subst hQ;try simp only [z02,z03,z00,z01]
    refine z07 ?_;simp [Rq.z0i,hb',hn,z2e]
   | some a=>
    simp;subst hQ;try simp only [z02,z03,z00,z01]
    repeat (refine z0b ?_)
    refine z1f z0V z0d [0,5] [] z8o (by kernel_rfl) fun Q hQ=>?_
    simp [snap,z1n,z3D,z3s,look,apply,putE,z1v,z0Y,setL,z3T,rdOf,Op.operands,Call.operands,z1I,z2l,z1a,z1A,z1N,meet,Log.men,T.men,E.men,C.men,O.men,z4I];subst hQ;try simp only [z02,z03,z00,z01]
    refine z07 ?_;simp [Rq.z0i,hb',hn,z2e]
end Am
end Go.Proofs.YtgmppconibklcaaGreatDoor

namespace Go.Proofs.YtgmppconibklcaaGreatDoor
open Go Go.RowKit
namespace Am
variable {gl:Nat→Option (List D)}
def sq (n:Nd) (a b:Int):Bool:=n.cls==0&&n.tag==16&&n.cons&&decide (a≤(n.kids.length:Int))&&decide ((n.kids.length:Int)≤b)
theorem z2V (n:Nd) (a b:Int):OK gl 91 [nX n,iX a,iX b] (.b (sq n a b)):=zjt n a b
theorem zkk {n:Nd} (h:sq n 2 2=true):∃ x y,n.kids=[x,y]:=by
 simp [sq] at h;have:n.kids.length=2:=by omega
 match n.kids,this with
 | [x,y],_=>exact ⟨x,y,rfl⟩
theorem zkl {n:Nd} (h:sq n 1 1=true):∃ x,n.kids=[x]:=by
 simp [sq] at h;have:n.kids.length=1:=by omega
 match n.kids,this with
 | [x],_=>exact ⟨x,rfl⟩
theorem z1p {n k:Nd} (h:Fine n) (hk:k∈n.kids):Fine k:=by
 obtain ⟨i,hi,rfl⟩:=List.getElem_of_mem hk;have:=Fine.kid h hi;have ek:Rq.kid n i=n.kids[i]:=by unfold Rq.kid;rw [List.getD_eq_getElem?_getD,List.getElem?_eq_getElem hi,Option.getD_some]
 rwa [ek] at this
theorem z0S {n:Nd} (h:Fine n):n.bytes.length≤40000:=by
 have h1:=Dr.z2d n;have h2:=h.mx;omega
def impO (n:Nd):List UInt8×List UInt8×Bool:=
 if sq n 2 2&&(sq (Rq.kid n 0) 1 1&&((Rq.kid n 1).cls==0&&(Rq.kid n 1).tag==4)) then
  ((oidO (Rq.kid (Rq.kid n 0) 0)).getD [],(Rq.kid n 1).bytes,(oidO (Rq.kid (Rq.kid n 0) 0)).isSome&&decide (1≤((Rq.kid n 1).bytes.length:Int))&&decide (((Rq.kid n 1).bytes.length:Int)≤64))
 else ([],[],false)
set_option maxHeartbeats 4000000 in
theorem z6u (n:Nd) (hf:Fine n):OK gl 93 [nX n] (.tup [sX ⟨(impO n).1.toArray⟩,rX (z05 (impO n).2.1),bX (impO n).2.2]):=by
 obtain ⟨b1,hb1⟩:∃ b,b=sq n 2 2:=⟨_,rfl⟩;have his:=z2V (gl:=gl) n 2 2;rw [←hb1] at his;refine z0k Tryz.func93 rfl (by show 1≤_;decide) ?_;unfold Tryz.f93;dsimp only;repeat (refine z0b ?_)
 refine z08 z0d fun Q hQ=>?_
 simp;subst hQ;try simp only [z02,z03,z00,z01]
 repeat (refine z0b ?_)
 refine z08 z0d fun Q hQ=>?_
 simp;refine z0m Tryz.func91 (by simp) (by simp) (by simp) (by simp) (his) (by simp) (by simp) ?_;simp;cases b1
 ·simp;subst hQ;try simp only [z02,z03,z00,z01]
  repeat (refine z0b ?_)
  refine z1B fun Q hQ=>?_
  simp;subst hQ;try simp only [z02,z03,z00,z01]
  repeat (refine z0b ?_)
  refine z08 z0d fun Q hQ=>?_
  simp;subst hQ;try simp only [z02,z03,z00,z01]
  refine z07 ?_;simp [impO,←hb1]
 ·obtain ⟨x,y,hk⟩:=zkk hb1.symm;have e0:Rq.kid n 0=x:=by simp [Rq.kid,hk]
  have e1:Rq.kid n 1=y:=by simp [Rq.kid,hk]
  obtain ⟨b2,hb2⟩:∃ b,b=sq x 1 1:=⟨_,rfl⟩;have his2:=z2V (gl:=gl) x 1 1;rw [←hb2] at his2;simp [hk];refine z0m Tryz.func91 (by simp) (by simp) (by simp) (by simp) (his2) (by simp) (by simp) ?_;simp;cases b2
  ·simp;subst hQ;try simp only [z02,z03,z00,z01]
   repeat (refine z0b ?_)
   refine z1B fun Q hQ=>?_
   simp;subst hQ;try simp only [z02,z03,z00,z01]
   repeat (refine z0b ?_)
   refine z08 z0d fun Q hQ=>?_
   simp;subst hQ;try simp only [z02,z03,z00,z01]
   refine z07 ?_;simp [impO,←hb1,e0,←hb2]
  ·obtain ⟨b3,hb3⟩:∃ b,b=(y.cls==0&&y.tag==4):=⟨_,rfl⟩;have his3:=z9Q (gl:=gl) y 4;rw [←hb3] at his3;simp [hk];refine z0m Tryz.func97 (by simp) (by simp) (by simp) (by simp) (his3) (by simp) (by simp) ?_;simp;subst hQ;try simp only [z02,z03,z00,z01]
   repeat (refine z0b ?_)
   refine z1B fun Q hQ=>?_
   simp;cases b3
   ·simp;subst hQ;try simp only [z02,z03,z00,z01]
    repeat (refine z0b ?_)
    refine z08 z0d fun Q hQ=>?_
    simp;subst hQ;try simp only [z02,z03,z00,z01]
    refine z07 ?_;simp [impO,←hb1,e0,←hb2,e1,←hb3]
   ·simp;subst hQ;try simp only [z02,z03,z00,z01]
    refine z04 ?_;simp only [z02];obtain ⟨z,hz⟩:=zkl hb2.symm;have ez:Rq.kid x 0=z:=by simp [Rq.kid,hz]
    have hfx:Fine x:=z1p hf (by simp [hk]);have hfy:Fine y:=z1p hf (by simp [hk]);have hfz:Fine z:=z1p hfx (by simp [hz]);repeat (refine z0b ?_)
    refine z08 z0d fun Q hQ=>?_
    simp [hk,hz];refine z0m Tryz.func94 (by simp) (by simp) (by simp) (by simp) (z9J z (z0S hfz)) (by simp) (by simp) ?_;simp;subst hQ;try simp only [z02,z03,z00,z01]
    have hl1:y.bytes.length≤140737488355328:=by have:=z0S hfy;omega
    repeat (refine z0b ?_)
    refine z08 z0d fun Q hQ=>?_
    simp [hk,hl1,z0e];subst hQ;try simp only [z02,z03,z00,z01]
    repeat (refine z0b ?_)
    refine z08 z0d fun Q hQ=>?_
    have hi:impO n=((oidO z).getD [],y.bytes,(oidO z).isSome&&decide (1≤(y.bytes.length:Int))&&decide ((y.bytes.length:Int)≤64)):=by simp [impO,←hb1,e0,←hb2,e1,←hb3,ez]
    have fin:∀ s:SF,s.env 2=some (.e (sX ⟨((oidO z).getD []).toArray⟩))→s.env 3=some (.e (.one (.gr 688 1 (byL y.bytes))))→s.env 4=some (.b ((oidO z).isSome&&decide (1≤(y.bytes.length:Int))&&decide ((y.bytes.length:Int)≤64)))→Q .normal s:=fun s h1 h2 h3=>by
     subst hQ;try simp only [z02,z03,z00,z01]
     refine z07 ?_;simp [h1,h2,h3,hi]
    clear hQ;simp;cases h1:(oidO z).isSome<;>simp
    ·exact fin _ (by simp) (by simp) (by simp [h1])
    ·cases h2:decide (1≤(y.bytes.length:Int))<;>simp
     ·exact fin _ (by simp) (by simp) (by simp [h1,h2])
     ·exact fin _ (by simp) (by simp) (by simp [h1,h2])
end Am
end Go.Proofs.YtgmppconibklcaaGreatDoor

namespace Go.Proofs.YtgmppconibklcaaGreatDoor
open Go Go.RowKit
theorem z1V (w:World) (t:TypeId) (cs:Array Value):∃ V,V=w.alloc (.cells cs t)∧Below w.heap.size w V∧Blk V w.heap.size t cs∧V.heap.size=w.heap.size+1:=⟨_,rfl,(Below.refl _ w).alloc (Nat.le_refl _) _,Blk.new w _ _,by simp⟩
theorem oid_wt (s:ByteArray):Dr.wt (Dr.prim 6 ((Od.enc s.data.toList).getD []))≤s.size+10:=Rq.z6W s.data.toList
set_option maxHeartbeats 4000000 in
set_option maxRecDepth 100000 in
theorem z8b (s:ByteArray) (A:Option Addr) (n c:Nat) (b:List UInt8) (Av:Nat→Prop) (w:World) (h:Is w Av (.slice A n c) (z05 b)) (hs:s.size≤90000) (hz:n≤100000):
  Calls Tryz.prog 27 #[.string s,.slice A n c] w fun e w'=>∃ v,e = .returned (.tuple #[v,.bool (Rq.z3O s.data.toList b)])∧NdAt w' (Old w) v (Rq.impN s.data.toList b)∧Below w.heap.size w w':=by
 obtain ⟨V,hV,hb0,hk0,hs0⟩:=z1V w 61 #[.int .i64 0,.int .i64 0,.bool false,.slice none 0 0,.slice none 0 0];have H:=Lib.hid h;have hnl:n=b.length:=by
  obtain ⟨A',c',e,_⟩:=h.bytes;injection e with _ e2 _
 have HNL:=Lib.hid hnl;have HB:=Lib.hid hb0;have HK:=Lib.hid hk0;have HV:=Lib.hid hV;have HS:=Lib.hid hs0;clear h hV hb0 hk0 hs0 hnl;go_enter Tryz.func27,Tryz.ntmps27
 go_upto_region 1 with fail
 rw [←HV.out]
 go_wp2_with fail
 refine (z8v s V hs).mono ?_;rintro e V1 ⟨v1,rfl,h1,hb1⟩;obtain ⟨c1,t1,k1,A1,nb1,cb1,A2,nk1,ck1,rfl⟩:=h1.z7I;obtain ⟨ok,hok⟩:∃ ok,ok=(Od.enc s.data.toList).isSome:=⟨_,rfl⟩;rw [←hok];have HOK:=Lib.hid hok;have HB1:Hid (Below w.heap.size w V1):=HB.out.trans (hb1.mono HB.out.size);have H1:Hid (NdAt V1 (Old w) (.agg #[.int .i64 c1,.int .i64 t1,.bool k1,.slice A1 nb1 cb1,.slice A2 nk1 ck1]) (Rq.oidN s.data.toList)):=h1.less (fun b hb _=>Nat.lt_of_lt_of_le hb HB.out.size);have HK1:=Lib.hid (HK.out.below hb1 HK.out.lt);clear h1 hb1 hok
 go_upto_region 2 with fail
 obtain ⟨V2,hV2,hb2,hk2,hs2⟩:=z1V V1 61 #[.int .i64 c1,.int .i64 t1,.bool k1,.slice A1 nb1 cb1,.slice A2 nk1 ck1];rw [←hV2];have HB2:Hid (Below w.heap.size w V2):=HB1.out.trans (hb2.mono HB1.out.size);have H2:=Lib.hid (H1.out.stays hb2);have HK2:=Lib.hid (HK1.out.below hb2 HK1.out.lt);have HT2:=Lib.hid hk2;clear hV2 hb2 hs2;obtain ⟨P6,hP6⟩:∃ P6,P6=V1.heap.size:=⟨_,rfl⟩;rw [←hP6] at HT2 hk2 ⊢;clear hP6;obtain ⟨p0,p1,p2,p3,p4,g0,g1,g2,g3,g4⟩:=hk2.five;clear hk2
 go_wp2_with fail
 obtain ⟨V3,hV3,hb3,hk3,hs3⟩:=z1V V2 61 #[.int .i64 c1,.int .i64 t1,.bool k1,.slice A1 nb1 cb1,.slice A2 nk1 ck1];rw [←hV3];have HB3:Hid (Below w.heap.size w V3):=HB2.out.trans (hb3.mono HB2.out.size);have H3:Hid (Is V3 (Old w) (.slice (some ⟨V2.heap.size,0,none⟩) 1 1) (ndsD [Rq.oidN s.data.toList])):=Is.lit1 hk3 (H2.out.stays hb3) (by have:=HB2.out.size;show ¬(_<_);omega);have HK3:=Lib.hid (HK2.out.below hb3 HK2.out.lt);clear hV3 hb3 hk3 hs3;obtain ⟨Q2,hQ2⟩:∃ Q2,Q2=V2.heap.size:=⟨_,rfl⟩;rw [←hQ2] at H3 ⊢;clear hQ2 p0 p1 p2 p3 p4 g0 g1 g2 g3 g4;have hw1:=oid_wt s;refine (z8u [Rq.oidN s.data.toList] _ _ _ (Old w) V3 (by simp only [Dr.wts];show Dr.wt (Dr.prim 6 _)+0≤_;omega) H3.out).mono ?_;rintro e V4 ⟨v4,rfl,h4,hb4⟩;obtain ⟨c4,t4,k4,A4,nb4,cb4,A5,nk4,ck4,rfl⟩:=h4.z7I;have HB4:Hid (Below w.heap.size w V4):=HB3.out.trans (hb4.mono HB3.out.size);have H4:Hid (NdAt V4 (Old w) (.agg #[.int .i64 c4,.int .i64 t4,.bool k4,.slice A4 nb4 cb4,.slice A5 nk4 ck4]) (Dr.seq [Rq.oidN s.data.toList])):=h4.less (fun b hb _=>Nat.lt_of_lt_of_le hb HB3.out.size);have HK4:=Lib.hid (HK3.out.below hb4 HK3.out.lt);have HI4:Hid (Is V4 Av (.slice A n c) (z05 b)):=H.out.stays HB4.out;clear h4 hb4 hw1
 go_wp2_with fail
 refine (z1e 4 A n c b Av V4 HI4.out (by omega)).mono ?_;rintro e V5 ⟨v5,rfl,h5,hb5⟩;obtain ⟨c5,t5,k5,A6,nb5,cb5,A7,nk5,ck5,rfl⟩:=h5.z7I;have HB5:Hid (Below w.heap.size w V5):=HB4.out.trans (hb5.mono HB4.out.size);have H5:Hid (NdAt V5 (Old w) (.agg #[.int .i64 c5,.int .i64 t5,.bool k5,.slice A6 nb5 cb5,.slice A7 nk5 ck5]) (Dr.prim 4 b)):=h5.less (fun b hb _=>Nat.lt_of_lt_of_le hb HB4.out.size);have H45:=Lib.hid (H4.out.stays hb5);have HK5:=Lib.hid (HK4.out.below hb5 HK4.out.lt);clear h5 hb5
 go_wp2_with fail
 obtain ⟨V6,hV6,hb6,hk6,hs6⟩:=z1V V5 61 #[.int .i64 c4,.int .i64 t4,.bool k4,.slice A4 nb4 cb4,.slice A5 nk4 ck4,.int .i64 c5,.int .i64 t5,.bool k5,.slice A6 nb5 cb5,.slice A7 nk5 ck5];rw [←hV6];have HB6:Hid (Below w.heap.size w V6):=HB5.out.trans (hb6.mono HB5.out.size);have H6:Hid (Is V6 (Old w) (.slice (some ⟨V5.heap.size,0,none⟩) 2 2) (ndsD [Dr.seq [Rq.oidN s.data.toList],Dr.prim 4 b])):=Is.lit2 hk6 (H45.out.stays hb6) (H5.out.stays hb6) (by have:=HB5.out.size;show ¬(_<_);omega);have HK6:=Lib.hid (HK5.out.below hb6 HK5.out.lt);clear hV6 hb6 hk6 hs6;obtain ⟨Q5,hQ5⟩:∃ Q5,Q5=V5.heap.size:=⟨_,rfl⟩;rw [←hQ5] at H6 ⊢;clear hQ5;have hw2:=Rq.zdo s.data.toList b;have hsl:s.data.toList.length=s.size:=rfl;refine (z8u [Dr.seq [Rq.oidN s.data.toList],Dr.prim 4 b] _ _ _ (Old w) V6 (by unfold Rq.impN at hw2;rw [Dr.z3h] at hw2;have:=HNL.out;omega) H6.out).mono ?_;rintro e V7 ⟨v7,rfl,h7,hb7⟩;obtain ⟨c7,t7,k7,A8,nb7,cb7,A9,nk7,ck7,rfl⟩:=h7.z7I;have H7:=Lib.hid h7;have HB7:Hid (Below w.heap.size w V7):=HB6.out.trans (hb7.mono HB6.out.size);have HK7:=Lib.hid (HK6.out.below hb7 HK6.out.lt);have HL6:Hid (w.heap.size<V6.heap.size):=HK6.out.lt;have hok2:Hid (Rq.z3O s.data.toList b=(ok&&decide (1≤n)&&decide (n≤64))):=by show _=_;rw [HOK.out,HNL.out];rfl
 clear h7 hb7 hw2 hsl;obtain ⟨q0,q1,q2,q3,q4,f0,f1,f2,f3,f4⟩:=HK7.out.five;have fin:∀ r:Bool,r=Rq.z3O s.data.toList b→∃ v,Ending.returned (.tuple #[.agg #[.int .i64 c7,.int .i64 t7,.bool k7,.slice A8 nb7 cb7,.slice A9 nk7 ck7],.bool r]) = .returned (.tuple #[v,.bool (Rq.z3O s.data.toList b)])∧NdAt (World.set5 V7 w.heap.size (.int .i64 c7) (.int .i64 t7) (.bool k7) (.slice A8 nb7 cb7) (.slice A9 nk7 ck7)) (Old w) v (Rq.impN s.data.toList b)∧Below w.heap.size w (World.set5 V7 w.heap.size (.int .i64 c7) (.int .i64 t7) (.bool k7) (.slice A8 nb7 cb7) (.slice A9 nk7 ck7)):=by
  rintro r rfl;exact ⟨_,rfl,(H7.out.set5 HL6.out _ _ _ _ _).less (fun b hb _=>Nat.lt_trans hb HL6.out),z0s HB7.out (Nat.le_refl _) _ _ _ _ _⟩
 have FIN:=Lib.hid fin;clear fin;cases ok with
 | false=>
  go_wp2_with fail
  exact bodyPost_ret (z1C Tryz.results27 _ _ (HK7.out.set5 _ _ _ _ _) rfl rfl) rfl (FIN.out false (by rw [hok2.out];rfl))
 | true=>
  by_cases h1:1≤n
  ·have hd1:decide ((1:Int)≤(n:Int))=true:=decide_eq_true (by omega);by_cases h2:n≤64
   ·have hd2:decide ((n:Int)≤64)=true:=decide_eq_true (by omega);have HD:=Lib.hid (And.intro h1 h2);clear h1 h2
    go_wp2_with fail
    exact bodyPost_ret (z1C Tryz.results27 _ _ (HK7.out.set5 _ _ _ _ _) rfl rfl) rfl (FIN.out true (by rw [hok2.out,decide_eq_true HD.out.1,decide_eq_true HD.out.2];rfl))
   ·have hd2:decide ((n:Int)≤64)=false:=decide_eq_false (by omega);have HD:=Lib.hid h2;clear h1 h2
    go_wp2_with fail
    exact bodyPost_ret (z1C Tryz.results27 _ _ (HK7.out.set5 _ _ _ _ _) rfl rfl) rfl (FIN.out false (by rw [hok2.out,decide_eq_false HD.out,Bool.and_false]))
  ·have hd1:decide ((1:Int)≤(n:Int))=false:=decide_eq_false (by omega);have HD:=Lib.hid h1;clear h1
   go_wp2_with fail
   exact bodyPost_ret (z1C Tryz.results27 _ _ (HK7.out.set5 _ _ _ _ _) rfl rfl) rfl (FIN.out false (by rw [hok2.out,decide_eq_false HD.out];rfl))
end Go.Proofs.YtgmppconibklcaaGreatDoor

namespace Go.Proofs.YtgmppconibklcaaGreatDoor
open Go Go.RowKit
structure ExAt (w:World) (Av:Nat→Prop) (v:Value) (e:Rq.Ex):Prop where
 ex:∃ vb,v = .agg #[.string ⟨e.oid.toArray⟩,.bool e.crit,vb]∧Is w Av vb (z05 e.val)
theorem ExAt.stays {w w':World} {Av:Nat→Prop} {v:Value} {e:Rq.Ex} (h:ExAt w Av v e) (hb:Below w.heap.size w w'):ExAt w' Av v e:=by
 obtain ⟨vb,e1,h1⟩:=h.ex;exact ⟨vb,e1,h1.stays hb⟩
theorem Blk.three {w:World} {g:Nat} {t:TypeId} {c0 c1 c2:Value} (h:Blk w g t #[c0,c1,c2]):w.cell? ⟨g,0,none⟩=some c0∧w.cell? ⟨g,1,none⟩=some c1∧w.cell? ⟨g,2,none⟩=some c2∧w.frozen? ⟨g,0,none⟩=false∧w.frozen? ⟨g,1,none⟩=false∧w.frozen? ⟨g,2,none⟩=false:=⟨h.cell 0,h.cell 1,h.cell 2,h.frozen 0,h.frozen 1,h.frozen 2⟩
theorem lit8 {W:World} {Av:Nat→Prop} {H:Nat} {t:TypeId} {n:Int} {b:UInt8} (h:Blk W H t #[.int .u8 n]) (hH:¬Av H) (hn:n=(b.toNat:Int)):Is W Av (.slice (some ⟨H,0,none⟩) 1 1) (z05 [b]):=by
 subst hn;refine Is.row_ (us:=[.int .u8 (b.toNat:Int)]) rfl (by decide) (Nat.le_refl _) (.z0D (.leaf _) .nil_) fun _=>⟨H,0,rfl,hH,fun j u hu=>?_⟩
 rw [Nat.zero_add,h.cell j];simpa using hu
structure CS (w W:World) (P0 P4:Nat) (c1 t1:Int) (k1:Bool) (vb vk:Value) (s:ByteArray) (crit:Bool) (A:Option Addr) (n c:Nat) (Av:Nat→Prop) (x:Rq.Ex):Prop where
 below:Below w.heap.size w W
 on:NdAt W (Old w) (.agg #[.int .i64 c1,.int .i64 t1,.bool k1,vb,vk]) (Rq.oidN x.oid)
 blkO:Blk W P4 61 #[.int .i64 c1,.int .i64 t1,.bool k1,vb,vk]
 blkX:Blk W w.heap.size 87 #[.string s,.bool crit,.slice A n c]
 blkK:Blk W P0 61 #[.int .i64 0,.int .i64 0,.bool false,.slice none 0 0,.slice none 0 0]
 val:Is W Av (.slice A n c) (z05 x.val)
section
variable {w W W':World} {P0 P4:Nat} {c1 t1:Int} {k1:Bool} {vb vk:Value} {s:ByteArray} {crit:Bool} {A:Option Addr} {n c:Nat} {Av:Nat→Prop} {x:Rq.Ex}
theorem CS.stays (h:CS w W P0 P4 c1 t1 k1 vb vk s crit A n c Av x) (hb:Below W.heap.size W W'):CS w W' P0 P4 c1 t1 k1 vb vk s crit A n c Av x:=
 ⟨h.below.trans (hb.mono h.below.size),h.on.stays hb,h.blkO.below hb h.blkO.lt,h.blkX.below hb h.blkX.lt,h.blkK.below hb h.blkK.lt,h.val.stays hb⟩
theorem CS.alloc (h:CS w W P0 P4 c1 t1 k1 vb vk s crit A n c Av x) {ob:Obj}:CS w (W.alloc ob) P0 P4 c1 t1 k1 vb vk s crit A n c Av x:=h.stays ((Below.refl _ _).alloc (Nat.le_refl _) _)
theorem CS.drew (h:CS w W P0 P4 c1 t1 k1 vb vk s crit A n c Av x):CS w W.drew P0 P4 c1 t1 k1 vb vk s crit A n c Av x:=h.stays (Below.refl _ _).drew
theorem CS.cells (h:CS w W P0 P4 c1 t1 k1 vb vk s crit A n c Av x):W.cell? ⟨P4,0,none⟩=some (.int .i64 c1)∧W.cell? ⟨P4,1,none⟩=some (.int .i64 t1)∧W.cell? ⟨P4,2,none⟩=some (.bool k1)∧W.cell? ⟨P4,3,none⟩=some vb∧W.cell? ⟨P4,4,none⟩=some vk∧W.cell? ⟨w.heap.size,2,none⟩=some (.slice A n c):=
 ⟨h.blkO.cell 0,h.blkO.cell 1,h.blkO.cell 2,h.blkO.cell 3,h.blkO.cell 4,h.blkX.cell 2⟩
end
def z58 (x:Rq.Ex) (w:World) (e:Ending) (w':World):Prop:=∃ v',e = .returned (.tuple #[v',.int .i64 (if Rq.exOk x then 0 else 62)])∧NdAt w' (Old w) v' (if Rq.exOk x then Rq.exN x else Nd.nil)∧Below w.heap.size w w'
set_option maxHeartbeats 4000000 in
set_option maxRecDepth 100000 in
theorem z7Z (x:Rq.Ex) (v:Value) (Av:Nat→Prop) (w:World) (h:ExAt w Av v x) (hs:x.oid.length≤90000) (hz:x.val.length≤40000):
  Calls Tryz.prog 71 #[v] w (z58 x w):=by
 obtain ⟨vb,rfl,hb⟩:=h.ex;obtain ⟨A,c,rfl,hnc,_⟩:=hb.bytes;obtain ⟨n,hn⟩:∃ n,n=x.val.length:=⟨_,rfl⟩;rw [←hn] at hb hz ⊢;obtain ⟨s,hsx⟩:∃ s:ByteArray,s=⟨x.oid.toArray⟩:=⟨_,rfl⟩;have hsl:s.size≤90000:=by rw [hsx];show x.oid.toArray.size≤_;simpa using hs
 have hse:s.data.toList=x.oid:=by rw [hsx]
 rw [←hsx];obtain ⟨crit,hcr⟩:∃ k,k=x.crit:=⟨_,rfl⟩;rw [←hcr];obtain ⟨V0,hV0,hb0,hk0,hs0⟩:=z1V w 87 #[.string s,.bool crit,.slice A n c];obtain ⟨V,hV,hb1,hk1,hs1⟩:=z1V V0 61 #[.int .i64 0,.int .i64 0,.bool false,.slice none 0 0,.slice none 0 0];have HB:Hid (Below w.heap.size w V):=hb0.trans (hb1.mono hb0.size);have HX:Hid (Blk V w.heap.size 87 #[.string s,.bool crit,.slice A n c]):=hk0.below hb1 hk0.lt;have HK:Hid (Blk V (w.heap.size+1) 61 #[.int .i64 0,.int .i64 0,.bool false,.slice none 0 0,.slice none 0 0]):=by show Blk _ _ _ _;rw [←hs0];exact hk1
 have HI:Hid (Is V Av (.slice A n c) (z05 x.val)):=hb.stays HB.out;have HV0:=Lib.hid hV0;have HV:=Lib.hid hV;have HS0:=Lib.hid hs0;have HSE:=Lib.hid hse;have HN:=Lib.hid hn;have HCR:=Lib.hid hcr;clear h hb hnc hn hsx hse hcr hV0 hb0 hk0 hs0 hV hb1 hk1 hs1 hs;go_enter Tryz.func71,Tryz.ntmps71
 go_upto_region 1 with fail
 rw [←HV0.out,←HV.out];obtain ⟨e0,e1,e2,_,_,_⟩:=HX.out.three
 go_wp2_with fail
 refine (zdc s V hsl).mono ?_;rintro e V1 ⟨v1,rfl,h1,hb1⟩;obtain ⟨c1,t1,k1,A1,nb1,cb1,A2,nk1,ck1,rfl⟩:=h1.z7I;obtain ⟨ok,hok⟩:∃ ok,ok=(Od.enc s.data.toList).isSome:=⟨_,rfl⟩;rw [←hok];have HOK:Hid (ok=Rq.z2B x.oid):=by show _=_;rw [hok,HSE.out];rfl
 have H1:Hid (NdAt V1 (Old w) (.agg #[.int .i64 c1,.int .i64 t1,.bool k1,.slice A1 nb1 cb1,.slice A2 nk1 ck1]) (Rq.oidN x.oid)):=by
  rw [HSE.out] at h1;exact h1.less (fun b hb _=>Nat.lt_of_lt_of_le hb HB.out.size)
 have HB1:Hid (Below w.heap.size w V1):=HB.out.trans (hb1.mono HB.out.size);have HX1:=Lib.hid (HX.out.below hb1 HX.out.lt);have HK1:=Lib.hid (HK.out.below hb1 HK.out.lt);have HI1:=Lib.hid (HI.out.stays hb1);clear h1 hb1 hok e0 e1 e2 HX HK HI
 go_upto_region 2 with fail
 obtain ⟨V2,hV2,hb2,hk2,hs2⟩:=z1V V1 61 #[.int .i64 c1,.int .i64 t1,.bool k1,.slice A1 nb1 cb1,.slice A2 nk1 ck1];rw [←hV2];have HB2:Hid (Below w.heap.size w V2):=HB1.out.trans (hb2.mono HB1.out.size);have H2:=Lib.hid (H1.out.stays hb2);have HX2:=Lib.hid (HX1.out.below hb2 HX1.out.lt);have HK2:=Lib.hid (HK1.out.below hb2 HK1.out.lt);have HI2:=Lib.hid (HI1.out.stays hb2);obtain ⟨P4,hP4⟩:∃ P,P=V1.heap.size:=⟨_,rfl⟩;have HP4:Hid (w.heap.size+1<P4):=by rw [hP4];exact HK1.out.lt
 rw [←hP4] at hk2 ⊢;have HO2:=Lib.hid hk2;clear hV2 hb2 hk2 hs2 hP4 H1 HX1 HK1 HI1;obtain ⟨e0,e1,e2,_,_,_⟩:=HX2.out.three;obtain ⟨q0,q1,q2,q3,q4,f0,f1,f2,f3,f4⟩:=HK2.out.five;obtain ⟨p0,p1,p2,p3,p4,g0,g1,g2,g3,g4⟩:=HO2.out.five;have HBAD:Hid (Rq.exOk x=false→z58 x w (.returned (.tuple #[.agg #[.int .i64 0,.int .i64 0,.bool false,.slice none 0 0,.slice none 0 0],.int .i64 62])) (World.set5 V2 (w.heap.size+1) (.int .i64 0) (.int .i64 0) (.bool false) (.slice none 0 0) (.slice none 0 0))):=by
  intro h0;unfold z58;rw [h0];exact ⟨_,rfl,⟨_,_,rfl,Is.z1H _ _,Is.z2T _ _⟩,z0s HB2.out (Nat.le_succ _) _ _ _ _ _⟩
 cases ok with
 | false=>
  have HF:Hid (Rq.exOk x=false):=by show _=_;unfold Rq.exOk;rw [←HOK.out];rfl
  go_wp2_with fail
  exact bodyPost_ret (z1C Tryz.results71 _ _ (HK2.out.set5 _ _ _ _ _) rfl rfl) rfl (HBAD.out HF.out)
 | true=>
  by_cases h2:n≤2000
  ·have hd2:decide ((2000:Int)<(n:Int))=false:=decide_eq_false (by omega);have HF:Hid (Rq.exOk x=true):=by show _=_;unfold Rq.exOk;rw [←HOK.out,←HN.out,decide_eq_true h2];rfl
   clear HBAD;cases crit with
   | false=>
    have HGOOD:∀ (V9:World) (a b c d e:Value),Below w.heap.size w V9→NdAt V9 (fun g=>g<P4+1) (.agg #[a,b,c,d,e]) (Rq.exN x)→z58 x w (.returned (.tuple #[.agg #[a,b,c,d,e],.int .i64 0])) (World.set5 V9 (w.heap.size+1) a b c d e):=by
     intro V9 a b c d e hb9 h9;unfold z58;rw [HF.out];have hl:=HK2.out.lt;have hl2:=HO2.out.lt;have h10:w.heap.size+1<P4+1:=by have:=HP4.out;omega
     exact ⟨_,rfl,(h9.set5 (g:=w.heap.size+1) h10 _ _ _ _ _).less (fun b hb _=>by have:b<w.heap.size:=hb;show b<P4+1;omega),z0s hb9 (Nat.le_succ _) _ _ _ _ _⟩
    have HG:=Lib.hid HGOOD;clear HGOOD
    go_upto_region 6 with fail
    have hne1:¬(P4=w.heap.size+1):=by have:=HP4.out;omega
    have hne2:¬(w.heap.size+1=P4):=fun h=>hne1 h.symm
    have hxl:x.val.length≤40000:=by rw [←HN.out];exact hz
    have hol:x.oid.length≤90000:=by rw [←HSE.out];exact hsl
    go_region_held3 (fun w'=>w'.cell? ⟨P4,0,none⟩=some (.int .i64 c1)∧w'.cell? ⟨P4,1,none⟩=some (.int .i64 t1)∧w'.cell? ⟨P4,2,none⟩=some (.bool k1)∧w'.cell? ⟨P4,3,none⟩=some (.slice A1 nb1 cb1)∧w'.cell? ⟨P4,4,none⟩=some (.slice A2 nk1 ck1)∧w'.cell? ⟨w.heap.size,2,none⟩=some (.slice A n c)) (first|go_keep) (first
     | (go_at_call 34;(with_reducible refine (z1e 4 A n c x.val Av _ (by exact HI2.out.drew) (by omega)).mono ?_);rintro e W1 ⟨v5,rfl,h5,hb5⟩;obtain ⟨c5,t5,k5,A6,nb5,cb5,A7,nk5,ck5,rfl⟩:=h5.z7I;have HB5:Hid (Below V2.heap.size V2 W1):=((Below.refl _ V2).drew).trans hb5;have H5:Hid (NdAt W1 (Old w) (.agg #[.int .i64 c5,.int .i64 t5,.bool k5,.slice A6 nb5 cb5,.slice A7 nk5 ck5]) (Dr.prim 4 x.val)):=h5.less (fun b hb _=>Nat.lt_of_lt_of_le hb HB2.out.size);have hw1:w.heap.size≤W1.heap.size:=Nat.le_trans HB2.out.size HB5.out.size;have HO3:Hid (Blk W1 P4 61 #[.int .i64 c1,.int .i64 t1,.bool k1,.slice A1 nb1 cb1,.slice A2 nk1 ck1]):=HO2.out.drew.below hb5 HO2.out.lt;have HX3:Hid (Blk W1 w.heap.size 87 #[.string s,.bool false,.slice A n c]):=HX2.out.drew.below hb5 HX2.out.lt;have hf5:=HO3.out.five;have hf3:=HX3.out.three;have ha5:=fun ob=>(HO3.out.alloc ob).five;have ha3:=fun ob=>(HX3.out.alloc ob).three;clear h5 hb5)
     | (go_at_call 137;(with_reducible refine (z7Y [Rq.oidN x.oid,Dr.prim 4 x.val] _ _ _ (Old w) _ (by have h0:=Rq.z6W x.oid;have h1:=Dr.z25 4 x.val;simp only [Dr.wts];omega) (by exact Is.lit2 (Blk.new W1 _ _) ((H2.out.stays HB5.out).stays ((Below.refl _ W1).alloc (Nat.le_refl _) _)) (H5.out.stays ((Below.refl _ W1).alloc (Nat.le_refl _) _)) (Nat.not_lt.2 hw1))).mono ?_);rintro e W2 ⟨v6,rfl,h6,hb6⟩;obtain ⟨c6,t6,k6,A8,nb6,cb6,A9,nk6,ck6,rfl⟩:=h6.z7I;have HO4:Hid (Blk W2 P4 61 #[.int .i64 c1,.int .i64 t1,.bool k1,.slice A1 nb1 cb1,.slice A2 nk1 ck1]):=(HO3.out.alloc _).below hb6 (HO3.out.alloc _).lt;have HX4:Hid (Blk W2 w.heap.size 87 #[.string s,.bool false,.slice A n c]):=(HX3.out.alloc _).below hb6 (HX3.out.alloc _).lt;have HB6:Hid (Below w.heap.size w W2):=HB2.out.trans ((HB5.out.trans (((Below.refl _ W1).alloc (Nat.le_refl _) _).mono HB5.out.size |>.trans (hb6.mono (by have:=HB5.out.size;simp;omega)))).mono HB2.out.size);have HK4:Hid (Blk W2 (w.heap.size+1) 61 #[.int .i64 0,.int .i64 0,.bool false,.slice none 0 0,.slice none 0 0]):=((HK2.out.below HB5.out HK2.out.lt).alloc _).below hb6 ((HK2.out.below HB5.out HK2.out.lt).alloc _).lt;have H6:Hid (NdAt W2 (fun g=>g<P4+1) (.agg #[.int .i64 c6,.int .i64 t6,.bool k6,.slice A8 nb6 cb6,.slice A9 nk6 ck6]) (Dr.seq [Rq.oidN x.oid,Dr.prim 4 x.val])):=h6.less (fun b hb _=>by have h7:=HO3.out.lt;have:b<P4+1:=hb;show b<(W1.alloc _).heap.size;simp;omega);clear hf5 hf3 ha5 ha3 h6 hb6;have hf5:=HO4.out.five;have hf3:=HX4.out.three;have hk5:=HK4.out.five))
    go_wp2_with fail
    have hE:Rq.exN x=Dr.seq [Rq.oidN x.oid,Dr.prim 4 x.val]:=by unfold Rq.exN;rw [←HCR.out];rfl
    exact bodyPost_ret (z1C Tryz.results71 _ _ (HK4.out.set5 _ _ _ _ _) rfl rfl) rfl (HG.out W2 _ _ _ _ _ HB6.out (by rw [hE];exact H6.out))
   | true=>
    have HGOOD:∀ (V9:World) (a b c d e:Value),Below w.heap.size w V9→NdAt V9 (fun g=>g<P4+1) (.agg #[a,b,c,d,e]) (Rq.exN x)→z58 x w (.returned (.tuple #[.agg #[a,b,c,d,e],.int .i64 0])) (World.set5 V9 (w.heap.size+1) a b c d e):=by
     intro V9 a b c d e hb9 h9;unfold z58;rw [HF.out];have hl:=HK2.out.lt;have hl2:=HO2.out.lt;have h10:w.heap.size+1<P4+1:=by have:=HP4.out;omega
     exact ⟨_,rfl,(h9.set5 (g:=w.heap.size+1) h10 _ _ _ _ _).less (fun b hb _=>by have:b<w.heap.size:=hb;show b<P4+1;omega),z0s hb9 (Nat.le_succ _) _ _ _ _ _⟩
    have HG:=Lib.hid HGOOD;clear HGOOD;have hne1:¬(P4=w.heap.size+1):=by have:=HP4.out;omega
    have hne2:¬(w.heap.size+1=P4):=fun h=>hne1 h.symm
    have hxl:x.val.length≤40000:=by rw [←HN.out];exact hz
    have hol:x.oid.length≤90000:=by rw [←HSE.out];exact hsl
    have HS:Hid (CS w V2 (w.heap.size+1) P4 c1 t1 k1 (.slice A1 nb1 cb1) (.slice A2 nk1 ck1) s true A n c Av x):=⟨HB2.out,H2.out,HO2.out,HX2.out,HK2.out,HI2.out⟩
    go_upto_region 5 with fail
    go_region_held3 (fun w'=>w'.cell? ⟨P4,0,none⟩=some (.int .i64 c1)∧w'.cell? ⟨P4,1,none⟩=some (.int .i64 t1)∧w'.cell? ⟨P4,2,none⟩=some (.bool k1)∧w'.cell? ⟨P4,3,none⟩=some (.slice A1 nb1 cb1)∧w'.cell? ⟨P4,4,none⟩=some (.slice A2 nk1 ck1)∧w'.cell? ⟨w.heap.size,2,none⟩=some (.slice A n c)) (first|go_keep) (first
     | (go_at_call 34;(with_reducible refine (z1e 1 _ 1 1 [255] (Old w) _ (by exact lit8 (Blk.new V2 _ _).drew (Nat.not_lt.2 HS.out.below.size) (by decide)) (by omega)).mono ?_);rintro e W3 ⟨v7,rfl,h7,hb7⟩;obtain ⟨c7,t7,k7,B6,nb7,cb7,B7,nk7,ck7,rfl⟩:=h7.z7I;have HP1:Hid (NdAt W3 (Old w) (.agg #[.int .i64 c7,.int .i64 t7,.bool k7,.slice B6 nb7 cb7,.slice B7 nk7 ck7]) (Dr.prim 1 [255])):=h7.less (fun b hb _=>Nat.lt_of_lt_of_le hb HS.out.alloc.drew.below.size);have HS3:=Lib.hid (HS.out.alloc.drew.stays hb7);clear h7 hb7;have hcs:=HS3.out.cells)
     | (go_at_call 34;(with_reducible refine (z1e 4 A n c x.val Av _ (by exact HS3.out.val) (by omega)).mono ?_);rintro e W1 ⟨v5,rfl,h5,hb5⟩;obtain ⟨c5,t5,k5,A6,nb5,cb5,A7,nk5,ck5,rfl⟩:=h5.z7I;have HP2:Hid (NdAt W1 (Old w) (.agg #[.int .i64 c5,.int .i64 t5,.bool k5,.slice A6 nb5 cb5,.slice A7 nk5 ck5]) (Dr.prim 4 x.val)):=h5.less (fun b hb _=>Nat.lt_of_lt_of_le hb HS3.out.below.size);have HP11:=Lib.hid (HP1.out.stays hb5);have HS1:=Lib.hid (HS3.out.stays hb5);clear h5 hb5;have hcs1:=HS1.out.cells;have hca1:=fun ob=>(HS1.out.alloc (ob:=ob)).cells)
     | (go_at_call 137;(with_reducible refine (z7Y [Rq.oidN x.oid,Dr.prim 1 [255],Dr.prim 4 x.val] _ _ _ (Old w) _ (by have h0:=Rq.z6W x.oid;have h1:=Dr.z25 4 x.val;have h2:=Dr.z25 1 [255];simp only [Dr.wts];simp at h2;omega) (by exact Is.lit3 (Blk.new W1 _ _) HS1.out.alloc.on (HP11.out.stays ((Below.refl _ _).alloc (Nat.le_refl _) _)) (HP2.out.stays ((Below.refl _ _).alloc (Nat.le_refl _) _)) (Nat.not_lt.2 HS1.out.below.size))).mono ?_);rintro e W5 ⟨v6,rfl,h6,hb6⟩;obtain ⟨c6,t6,k6,A8,nb6,cb6,A9,nk6,ck6,rfl⟩:=h6.z7I;have H6:Hid (NdAt W5 (fun g=>g<P4+1) (.agg #[.int .i64 c6,.int .i64 t6,.bool k6,.slice A8 nb6 cb6,.slice A9 nk6 ck6]) (Dr.seq [Rq.oidN x.oid,Dr.prim 1 [255],Dr.prim 4 x.val])):=h6.less (fun b hb _=>Nat.lt_of_lt_of_le hb HS1.out.alloc.blkO.lt);have HS5:=Lib.hid (HS1.out.alloc.stays hb6);clear h6 hb6 hcs hcs1 hca1;have hcs5:=HS5.out.cells;have hck:=HS5.out.blkK.five))
    ·go_wp2_with fail
     have hE:Rq.exN x=Dr.seq [Rq.oidN x.oid,Dr.prim 1 [255],Dr.prim 4 x.val]:=by unfold Rq.exN;rw [←HCR.out];rfl
     exact bodyPost_ret (z1C Tryz.results71 _ _ (HS5.out.blkK.set5 _ _ _ _ _) rfl rfl) rfl (HG.out _ _ _ _ _ _ HS5.out.below (by rw [hE];exact H6.out))
  ·have hd2:decide ((2000:Int)<(n:Int))=true:=decide_eq_true (by omega);have HF:Hid (Rq.exOk x=false):=by show _=_;unfold Rq.exOk;rw [←HN.out,decide_eq_false h2,Bool.and_false]
   clear h2
   go_wp2_with fail
   exact bodyPost_ret (z1C Tryz.results71 _ _ (HK2.out.set5 _ _ _ _ _) rfl rfl) rfl (HBAD.out HF.out)
end Go.Proofs.YtgmppconibklcaaGreatDoor

