/- Part of the proof. No condition. -/
import Derived.Test.YtgmppconibklcaaGreatDoorM9
import Derived.Test.YtgmppconibklcaaGreatDoorM8
import Derived.Lib.Bytealg
set_option maxHeartbeats 40000000
set_option maxRecDepth 100000
set_option linter.unusedVariables false
set_option linter.unusedSimpArgs false
namespace Go.Proofs.YtgmppconibklcaaGreatDoor
namespace Nt
theorem zdu:∀ (l:List Nat) (k:Nat),Lb l→vl l / B^k%B=l.getD k 0
 | [],k,_=>by simp [vl]
 | a::l,0,h=>by
  simp only [vl,Nat.pow_zero,Nat.div_one,List.getD_cons_zero];rw [Nat.add_mul_mod_self_left,Nat.mod_eq_of_lt h.head]
 | a::l,k+1,h=>by
  have ih:=zdu l k h.tail;have h1:(a+B*vl l) / B=vl l:=by
   rw [Nat.add_mul_div_left _ _ (by decide),Nat.div_eq_of_lt h.head,Nat.zero_add]
  simp only [vl,List.getD_cons_succ];rw [Nat.pow_succ,Nat.mul_comm (B^k) B,←Nat.div_div_eq_div_mul,h1];exact ih
def bl (n:Nat):Nat:=if n=0 then 0 else n.log2+1
theorem zh4 (n:Nat):n<2^bl n:=by
 unfold bl;split
 ·rename_i h;rw [h];decide
 ·exact Nat.lt_log2_self
theorem zh5 {n k:Nat} (h:n<2^k):bl n≤k:=by
 unfold bl;split
 ·omega
 ·rename_i h0;have:=(Nat.log2_lt h0).2 h;omega
theorem bl_ge {n k:Nat} (h:2^k≤n):k+1≤bl n:=by
 rcases Nat.lt_or_ge k (bl n) with h1|h1
 ·exact h1
 ·exfalso;have h2:=zh4 n;have h3:(2:Nat)^bl n≤2^k:=Nat.pow_le_pow_right (by decide) h1;omega
theorem zcD {n k:Nat} (h0:2^k≤n) (h1:n<2^(k+1)):bl n=k+1:=by
 have:=zh5 h1;have:=bl_ge h0;omega
theorem zfH {l:List Nat} (h:Lb l) (h0:0<sz l):bl (vl l)=32*(sz l-1)+bl (l.getD (sz l-1) 0):=by
 have hl:=zdB l h0;have hz:=z7l l;obtain ⟨k,hk⟩:∃ k,sz l=k+1:=⟨sz l-1,by omega⟩;rw [hk] at hl ⊢;simp only [Nat.add_sub_cancel] at hl ⊢;obtain ⟨t,ht⟩:∃ t,t=l.getD k 0:=⟨_,rfl⟩;rw [←ht] at hl ⊢;have hv:vl l=vl (l.take k)+B^k*t:=by
  have h1:=z48 l;unfold trim at h1;rw [hk,z0K,←ht] at h1;exact h1.symm
 have hlow:vl (l.take k)<B^k:=by
  have h1:=zhj (h.take k);have h2:(l.take k).length=k:=by simp;omega
  rwa [h2] at h1
 have e:B^k=2^(32*k):=by rw [show B=2^32 by decide,←Nat.pow_mul]
 have h2:bl t=t.log2+1:=by unfold bl;rw [if_neg hl]
 have h3:2^t.log2≤t:=Nat.log2_self_le hl;have h4:t<2^(t.log2+1):=Nat.lt_log2_self;rw [h2,show 32*k+(t.log2+1)=32*k+t.log2+1 by omega];refine zcD ?_ ?_
 ·rw [hv,Nat.pow_add,←e];have:=Nat.mul_le_mul_left (B^k) h3;omega
 ·rw [hv,show 32*k+t.log2+1=32*k+(t.log2+1) by omega,Nat.pow_add,←e];have:=Nat.mul_le_mul_left (B^k) (show t+1≤2^(t.log2+1) from h4);rw [Nat.mul_add,Nat.mul_one] at this;omega
theorem z3c (a n e:Nat):a^e%n*(a^e%n)%n=a^(2*e)%n:=by
 rw [←Nat.mul_mod,←Nat.pow_add];congr 2;omega
theorem pow_mul (a n e:Nat):a^e%n*(a%n)%n=a^(e+1)%n:=by
 rw [←Nat.mul_mod,←Nat.pow_succ]
def pm (a n:Nat):Nat→Nat→Nat
 | 0,_=>1%n
 | f+1,e=>if e=0 then 1%n else (if e%2=1 then pm a n f (e / 2)*pm a n f (e / 2)%n*(a%n)%n else pm a n f (e / 2)*pm a n f (e / 2)%n)
def be:List UInt8→Nat
 | []=>0
 | c::l=>c.toNat*256^l.length+be l
theorem zaP:∀ l:List UInt8,be l<256^l.length
 | []=>by simp [be]
 | c::l=>by
  have h1:=zaP l;have h2:=c.toNat_lt;have h3:(c.toNat+1)*256^l.length≤256*256^l.length:=Nat.mul_le_mul_right _ (by omega);rw [Nat.add_mul,Nat.one_mul] at h3;simp only [be,List.length_cons,Nat.pow_succ];rw [Nat.mul_comm (256^l.length) 256];omega
def beN:Nat→Nat→List UInt8
 | 0,_=>[]
 | k+1,n=>beN k (n / 256)++[UInt8.ofNat (n%256)]
theorem z0o:∀ k n,(beN k n).length=k
 | 0,_=>rfl
 | k+1,n=>by simp [beN,z0o k]
theorem zdU (l:List UInt8) (c:UInt8):be (l++[c])=be l*256+c.toNat:=by
 induction l with
 | nil=>simp [be]
 | cons a l ih=>
  simp only [List.cons_append,be,ih,List.length_append,List.length_cons,List.length_nil,Nat.zero_add,Nat.pow_succ,Nat.add_mul];rw [Nat.mul_assoc];omega
theorem zjG:∀ (k n:Nat),n<256^k→be (beN k n)=n
 | 0,n,h=>by
  have:n=0:=by simpa using h
  subst this;rfl
 | k+1,n,h=>by
  have e:(UInt8.ofNat (n%256)).toNat=n%256:=by rw [UInt8.toNat_ofNat'];omega
  unfold beN;rw [zdU,zjG k (n / 256) (by rw [Nat.pow_succ] at h;omega),e];omega
theorem z9I:∀ (k n i:Nat),i<k→((beN k n).getD (k-1-i) 0).toNat=n / 256^i%256
 | 0,n,i,h=>by omega
 | k+1,n,0,_=>by
  have e:(UInt8.ofNat (n%256)).toNat=n%256:=by rw [UInt8.toNat_ofNat'];omega
  unfold beN;rw [show k+1-1-0=k by omega,List.getD_eq_getElem?_getD,List.getElem?_append_right (by rw [z0o];omega),z0o,Nat.sub_self];simp [e]
 | k+1,n,i+1,h=>by
  unfold beN;rw [show k+1-1-(i+1)=k-1-i by omega,List.getD_eq_getElem?_getD,List.getElem?_append_left (by rw [z0o];omega),←List.getD_eq_getElem?_getD,z9I k (n / 256) i (by omega),Nat.div_div_eq_div_mul,Nat.pow_succ,Nat.mul_comm 256]
theorem zl4 (x r:Nat) (h:r<4):x%B / 2^(8*r)%256=x / 2^(8*r)%256:=by
 have e:B=2^(8*r)*2^(32-8*r):=by rw [←Nat.pow_add,show 8*r+(32-8*r)=32 by omega];decide
 have h2:(256:Nat) ∣ 2^(32-8*r):=by
  rw [show 32-8*r=8+(24-8*r) by omega,Nat.pow_add];exact Nat.dvd_mul_right _ _
 rw [e,Nat.mod_mul_right_div_self,Nat.mod_mod_of_dvd _ h2]
theorem byte_at {l:List Nat} (h:Lb l) (i:Nat):l.getD (i / 4) 0 / 2^(8*(i%4))%256=vl l / 256^i%256:=by
 rw [←zdu l (i / 4) h,zl4 _ _ (Nat.mod_lt _ (by decide)),Nat.div_div_eq_div_mul]
 congr 2
 have e:B=2^32:=by decide
 rw [e,←Nat.pow_mul,←Nat.pow_add,show (256:Nat)=2^8 by decide,←Nat.pow_mul]
 congr 1;omega
structure RI (b:List UInt8) (o:List Nat) (i:Nat):Prop where
 v:vl o=be (b.drop (b.length-i))
 lb:Lb o
 lo:o.getD (i / 4) 0<2^(8*(i%4))
 z:∀ j,i / 4<j→o.getD j 0=0
theorem RI.start (b:List UInt8) (n:Nat):RI b (List.replicate n 0) 0:=
 ⟨by rw [z3L,Nat.sub_zero,List.drop_length];rfl,Lb.zcI n,by rw [z3F];decide,fun j _=>z3F n j⟩
theorem RI.next {b:List UInt8} {o:List Nat} {i:Nat} (h:RI b o i) (hi:i<b.length) (hl:i / 4<o.length):
  o.getD (i / 4) 0+(b.getD (b.length-1-i) 0).toNat*2^(8*(i%4))<B∧RI b (o.set (i / 4) (o.getD (i / 4) 0+(b.getD (b.length-1-i) 0).toNat*2^(8*(i%4)))) (i+1):=by
 obtain ⟨c,hc⟩:∃ c:UInt8,c=b.getD (b.length-1-i) 0:=⟨_,rfl⟩;rw [←hc];have h8:=c.toNat_lt;have h1:=h.lo;have hr:=Nat.mod_lt i (show 0<4 by decide);have h2:(c.toNat+1)*2^(8*(i%4))≤2^8*2^(8*(i%4)):=Nat.mul_le_mul_right _ (by omega);rw [Nat.add_mul,Nat.one_mul,←Nat.pow_add] at h2;have hlt:o.getD (i / 4) 0+c.toNat*2^(8*(i%4))<2^(8+8*(i%4)):=by omega
 have hB:2^(8+8*(i%4))≤B:=by
  rw [show B=2^32 by decide];exact Nat.pow_le_pow_right (by decide) (by omega)
 have s:=z3W o (i / 4) (o.getD (i / 4) 0+c.toNat*2^(8*(i%4))) hl;refine ⟨by omega,?_,h.lb.set (by omega) _,?_,fun j hj=>?_⟩
 ·have e1:b.drop (b.length-(i+1))=c::b.drop (b.length-i):=by
   rw [List.drop_eq_getElem_cons (by omega),show b.length-(i+1)+1=b.length-i by omega,hc,List.getD_eq_getElem?_getD,List.getElem?_eq_getElem (by omega)]
   congr 1
   simp only [Option.getD_some]
   congr 1;omega
  have e2:(b.drop (b.length-i)).length=i:=by rw [List.length_drop];omega
  rw [e1];simp only [be];rw [e2,←h.v];rw [Nat.mul_add] at s;have e3:B^(i / 4)*(c.toNat*2^(8*(i%4)))=c.toNat*256^i:=by
   rw [show B=2^32 by decide,show (256:Nat)=2^8 by decide,←Nat.pow_mul,←Nat.pow_mul,Nat.mul_comm,Nat.mul_assoc,←Nat.pow_add]
   congr 2;omega
  omega
 ·by_cases h3:i%4=3
  ·have e4:(i+1) / 4=i / 4+1:=by omega
   rw [e4,getD_set_ne (by omega),h.z _ (by omega),show (i+1)%4=0 by omega];decide
  ·have e4:(i+1) / 4=i / 4:=by omega
   rw [e4,z2A hl,show (i+1)%4=i%4+1 by omega,show 8*(i%4+1)=8+8*(i%4) by omega];exact hlt
 ·rw [getD_set_ne (by omega)];exact h.z j (by omega)
theorem RI.fin {b:List UInt8} {o:List Nat} (h:RI b o b.length):vl o=be b:=by rw [h.v,Nat.sub_self,List.drop_zero]
end Nt
end Go.Proofs.YtgmppconibklcaaGreatDoor

namespace Go.Proofs.YtgmppconibklcaaGreatDoor
inductive Nd
 | mk (cls tag:Int) (cons:Bool) (bytes:List UInt8) (kids:List Nd)
namespace Nd
def cls:Nd→Int|mk c _ _ _ _=>c
def tag:Nd→Int|mk _ t _ _ _=>t
def cons:Nd→Bool|mk _ _ k _ _=>k
def bytes:Nd→List UInt8|mk _ _ _ b _=>b
def kids:Nd→List Nd|mk _ _ _ _ l=>l
def nil:Nd:=mk 0 0 false [] []
end Nd
namespace Dr
def least:List UInt8→Bool
 | []=>false
 | [_]=>true
 | a::b::_=>!(a.toNat==0&&decide (b.toNat<128)||a.toNat==255&&decide (127<b.toNat))
def z9G (b:List UInt8):Bool:=
 decide (0<b.length)&&decide ((b.getD 0 0).toNat≤7)&&!(b.length==1&&decide (0<(b.getD 0 0).toNat))&&((b.getD 0 0).toNat==0||(b.getD (b.length-1) 0).toNat%2^(b.getD 0 0).toNat==0)
def value (tag:Int) (b:List UInt8):Bool:=
 if tag=1 then b.length==1&&((b.getD 0 0).toNat==0||(b.getD 0 0).toNat==255)
 else if tag=2∨tag=10 then least b
 else if tag=3 then z9G b
 else if tag=5 then b.length==0
 else if tag=6 then (Od.decO b).isSome
 else if tag=12 then Utf.ok ⟨b.toArray⟩
 else if tag=19 then St.pr ⟨b.toArray⟩
 else if tag=22 then St.ia ⟨b.toArray⟩
 else if tag=23 then (Pr.z22 b).isSome
 else if tag=24 then (Pr.z29 b).isSome
 else true
def z2L (t:Int):Bool:=t==16||t==17
def z1G (t:Int):Bool:=t==1||t==2||t==3||t==4||t==5||t==6||t==10||t==12||t==19||t==22||t==23||t==24
def may (c t:Int) (k:Bool):Bool:=decide (0≤t)&&decide (t≤30)&&(c==2||c==0&&(if k then z2L t else z1G t))
def lenB (n:Nat):List UInt8:=if n<128 then [UInt8.ofNat n] else UInt8.ofNat (128+(n.log2 / 8+1))::Nt.beN (n.log2 / 8+1) n
def head (c t:Int) (k:Bool) (n:Nat):List UInt8:=UInt8.ofNat (c.toNat*64+t.toNat+if k then 32 else 0)::lenB n
def rising:List (List UInt8)→Bool
 | a::b::l=>decide (Lib.compareBytes a b≤0)&&rising (b::l)
 | _=>true
mutual
def put:Nd→Option (List UInt8)
 | .mk c t k b l=>
  if may c t k&&!(k&&decide (0<b.length))&&!(!k&&decide (0<l.length))&&!(c==0&&!k&&!value t b) then
   match puts l with
   | some bs=>if c==0&&t==17&&!rising bs then none else some (head c t k (b++bs.flatten).length++(b++bs.flatten))
   | none=>none
  else none
def puts:List Nd→Option (List (List UInt8))
 | []=>some []
 | n::l=>match put n with
  | some b=>match puts l with
   | some bs=>some (b::bs)
   | none=>none
  | none=>none
end
mutual
def deep:Nd→Nat
 | .mk _ _ _ _ l=>z0V l+1
def z0V:List Nd→Nat
 | []=>0
 | n::l=>max (deep n) (z0V l)
end
mutual
def wt:Nd→Nat
 | .mk _ _ _ b l=>b.length+10+wts l
def wts:List Nd→Nat
 | []=>0
 | n::l=>wt n+wts l
end
def write (n:Nd):List UInt8×Int:=
 match put n with
 | none=>([],34)
 | some b=>if 32<deep n then ([],33) else if 16777216<b.length then ([],2) else (b,0)
def right (n:Nd):Bool:=(put n).isSome
theorem znv {n k:Nat} (h:n<2^k):n.log2 / 8+1≤k / 8+1:=by
 by_cases h0:n=0
 ·subst h0;simp
 ·have h1:n.log2<k:=(Nat.log2_lt h0).2 h;have:=Nat.div_le_div_right (c:=8) (Nat.le_of_lt h1);omega
theorem zap {n:Nat} (h:n<2^56):(lenB n).length≤9:=by
 unfold lenB;split
 ·simp
 ·rw [List.length_cons,Nt.z0o];have:=znv h;omega
theorem zfb {n:Nat} (h:n<2^56) (c t:Int) (k:Bool):(head c t k n).length≤10:=by
 have:=zap h;unfold head;rw [List.length_cons];omega
mutual
theorem zdh:∀ (n:Nd) {o:List UInt8},put n=some o→wt n<2^56→o.length≤wt n
 | .mk c t k b l,o,h,hw=>by
  rw [wt] at hw ⊢;rw [put] at h;split at h
  ·split at h
   ·rename_i bs hbs;have h1:=z5r l hbs (by omega);split at h
    ·cases h
    ·injection h with h;subst h;have h2:(b++bs.flatten).length≤b.length+wts l:=by rw [List.length_append];omega
     have h3:=zfb (n:=(b++bs.flatten).length) (by omega) c t k;rw [List.length_append];omega
   ·cases h
  ·cases h
theorem z5r:∀ (l:List Nd) {o:List (List UInt8)},puts l=some o→wts l<2^56→o.flatten.length≤wts l
 | [],o,h,_=>by
  rw [puts] at h;injection h with h;subst h;simp
 | n::l,o,h,hw=>by
  rw [wts] at hw ⊢;rw [puts] at h;split at h
  ·rename_i b hb;split at h
   ·rename_i bs hbs;injection h with h;subst h;have h1:=zdh n hb (by omega);have h2:=z5r l hbs (by omega);rw [List.flatten_cons,List.length_append];omega
   ·cases h
  ·cases h
end
def z3l:List UInt8→Option (Nat×Nat)
 | []=>none
 | n::r=>
  if n.toNat<128 then some (n.toNat,1)
  else if 1≤n.toNat-128∧n.toNat-128≤4∧n.toNat-128≤r.length then
   if 128≤Nt.be (r.take (n.toNat-128))∧0<Nt.be (r.take (n.toNat-128)) / 2^(8*(n.toNat-128-1)) then some (Nt.be (r.take (n.toNat-128)),n.toNat-128+1) else none
  else none
mutual
def rdN:Nat→Nat→List UInt8→Option (Nd×Nat)
 | 0,_,_=>none
 | _+1,_,[]=>none
 | f+1,d,t::r=>
  if may (t.toNat / 64:Nat) (t.toNat%32:Nat) (t.toNat / 32%2==1) then
   match z3l r with
   | none=>none
   | some (size,j)=>
    if r.length-j<size∨32<d then none
    else if t.toNat / 32%2==1 then
     match rdL f (d+1) ((r.drop j).take size) with
     | none=>none
     | some (ns,cuts)=>if t.toNat / 64=0∧t.toNat%32=17∧rising cuts=false then none else some (.mk (t.toNat / 64:Nat) (t.toNat%32:Nat) true [] ns,1+j+size)
    else if t.toNat / 64=2∨value (t.toNat%32:Nat) ((r.drop j).take size)=true then some (.mk (t.toNat / 64:Nat) (t.toNat%32:Nat) false ((r.drop j).take size) [],1+j+size)
    else none
  else none
def rdL:Nat→Nat→List UInt8→Option (List Nd×List (List UInt8))
 | _,_,[]=>some ([],[])
 | 0,_,_::_=>none
 | f+1,d,c::l=>
  match rdN f d (c::l) with
  | none=>none
  | some (n,k)=>match rdL f d ((c::l).drop k) with
   | none=>none
   | some (ns,cuts)=>some (n::ns,(c::l).take k::cuts)
end
def read (b:List UInt8):Option Nd:=
 if 16777216<b.length then none else match rdN (2*b.length+2) 1 b with
 | some (n,k)=>if k<b.length then none else some n
 | none=>none
def eight (n:Int):List UInt8:=(List.range 8).map fun k=>UInt8.ofNat ((n / 2^(8*(7-k)))%256).toNat
def strip:List UInt8→List UInt8
 | []=>[]
 | a::l=>if least (a::l) then a::l else strip l
def intB (n:Int):List UInt8:=strip (eight n)
def prim (tag:Int) (b:List UInt8):Nd:= .mk 0 tag false b []
def seq (l:List Nd):Nd:= .mk 0 16 true [] l
def intN (n:Int):Nd:=prim 2 (intB n)
def natN (n:Nat):Nd:=if 131072<Nt.bl n then .nil else prim 2 (Nt.beN (Nt.bl n / 8+1) n)
def whole (n:Nd):Bool:=n.cls==0&&(n.tag==2||n.tag==10)&&right n
def sgn (c:UInt8):Int:=if c.toNat<128 then c.toNat else (c.toNat:Int)-256
def intOf (n:Nd):Option Int:=if whole n∧n.bytes.length≤8 then some ((n.bytes.drop 1).foldl (fun x c=>x*256+c.toNat) (sgn (n.bytes.getD 0 0))) else none
def z1z (n:Nd):Option Nat:=if whole n∧(n.bytes.getD 0 0).toNat≤127 then some (Nt.be n.bytes) else none
end Dr
end Go.Proofs.YtgmppconibklcaaGreatDoor

