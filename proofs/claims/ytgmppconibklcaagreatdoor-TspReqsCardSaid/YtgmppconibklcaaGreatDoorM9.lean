/- Part of the proof. No condition. -/
import Derived.Test.YtgmppconibklcaaGreatDoorM8
import Derived.PlainAid
import Derived.Lib.UnsafeStr
import Derived.Lib.Bytealg
import Derived.Lib.Strings
import Derived.Lib.DecodeNEq
set_option maxHeartbeats 40000000
set_option maxRecDepth 100000
set_option linter.unusedVariables false
set_option linter.unusedSimpArgs false
namespace Go.Proofs.YtgmppconibklcaaGreatDoor
namespace Pr
open Go.PlainAid
def lb (l:List UInt8) (k:Nat):Int:=((l.getD k 0).toNat:Int)
def AtOk (y m d h i s:Int):Prop:=0≤y∧y≤9999∧1≤m∧m≤12∧1≤d∧d≤Cal.dim y m∧0≤h∧h≤23∧0≤i∧i≤59∧0≤s∧s≤59
instance (y m d h i s:Int):Decidable (AtOk y m d h i s):=by unfold AtOk;infer_instance
def atT (y m d h i s:Int):Int:=Cal.num y m d*86400-62167219200+h*3600+i*60+s
def atO (y m d h i s:Int):Option Int:=if AtOk y m d h i s then some (atT y m d h i s) else none
def tw (l:List UInt8) (k:Nat):Int:=if 48≤lb l k∧lb l k≤57∧48≤lb l (k+1)∧lb l (k+1)≤57 then (lb l k-48)*10+(lb l (k+1)-48) else -1
theorem z1i (l:List UInt8) (k:Nat): -1≤tw l k∧tw l k≤99:=by unfold tw;split<;>omega
def momO (y:Int) (l:List UInt8) (k:Nat):Option Int:=atO y (tw l k) (tw l (k+2)) (tw l (k+4)) (tw l (k+6)) (tw l (k+8))
def z1s (c:UInt8):Bool:=decide (48≤c.toNat∧c.toNat≤57)
def val (l:List UInt8):Nat:=l.foldl (fun n c=>n*10+(c.toNat-48)) 0
def z22 (l:List UInt8):Option Int:=
 if l.length=13∧lb l 12=90∧0≤tw l 0 then momO (if tw l 0<50 then 2000+tw l 0 else 1900+tw l 0) l 2 else none
def frac (l:List UInt8):List UInt8:=(l.drop 15).take (l.length-16)++List.replicate (22-l.length) 48
def Form (l:List UInt8):Prop:=15≤l.length∧l.length≤22∧l.length≠16∧lb l (l.length-1)=90∧(15<l.length→lb l 14=46∧lb l (l.length-2)≠48∧(frac l).all z1s=true)
instance (l:List UInt8):Decidable (Form l):=by unfold Form;infer_instance
def z29 (l:List UInt8):Option (Int×Int):=
 if Form l∧0≤tw l 0∧0≤tw l 2 then (match momO (tw l 0*100+tw l 2) l 4 with
  | some t=>some (t,if l.length=15 then 0 else (val (frac l):Int))
  | none=>none) else none
theorem z3M (l:List UInt8) (c:UInt8):val (l++[c])=val l*10+(c.toNat-48):=by simp [val]
theorem z5b:∀ (f n k:Nat),n<10^f→k≤f→val (Dig.dgsF f n k)=n
 | 0,n,k,h,_=>by
  have:n=0:=by simpa using h
  subst this;rfl
 | f+1,n,k,h,hk=>by
  by_cases hh:n=0∧k=0
  ·rw [Dig.z0Q _ _ _ hh,hh.1];rfl
  ·rw [Dig.z1b _ _ _ hh,z3M,z5b f _ _ (Dig.z3c h) (by omega),Dig.z3H];omega
theorem zjK {y m d h i s t:Int} (e:atO y m d h i s=some t):AtOk y m d h i s∧t=atT y m d h i s:=by
 unfold atO at e;split at e
 ·rename_i hk;injection e with e;exact ⟨hk,e.symm⟩
 ·cases e
end Pr
end Go.Proofs.YtgmppconibklcaaGreatDoor

namespace Go.Proofs.YtgmppconibklcaaGreatDoor
open Go

namespace St
def iaC (c:UInt8):Bool:=decide (c.toNat≤127)
def more:List Nat:=[32,39,40,41,43,44,45,46,47,58,61,63]
def prC (c:UInt8):Bool:=decide ((65≤c.toNat∧c.toNat≤90)∨(97≤c.toNat∧c.toNat≤122)∨(48≤c.toNat∧c.toNat≤57)∨c.toNat∈more)
def ia (s:ByteArray):Bool:=s.data.toList.all iaC
def pr (s:ByteArray):Bool:=s.data.toList.all prC
theorem z8m {f:UInt8→Bool} {s:ByteArray} {pos:Nat} (h:pos<s.size) (hb:f s[pos]=false):s.data.toList.all f=false:=by
 rw [List.all_eq_false];have hl:pos<s.data.toList.length:=h;exact ⟨s.data.toList[pos],List.getElem_mem hl,by rw [show s.data.toList[pos]=s[pos] from rfl,hb];simp⟩
theorem z7e {f:UInt8→Bool} {s:ByteArray} {pos:Nat} (h:pos<s.size) (ha:(s.data.toList.take pos).all f=true) (hb:f s[pos]=true):(s.data.toList.take (pos+1)).all f=true:=by
 have hl:pos<s.data.toList.length:=h;rw [List.take_succ_eq_append_getElem hl,List.all_append,ha];simp only [List.all_cons,List.all_nil,Bool.and_true,Bool.true_and];exact hb
theorem zaS {f:UInt8→Bool} {s:ByteArray} {pos:Nat} (h:¬pos<s.size) (ha:(s.data.toList.take pos).all f=true):s.data.toList.all f=true:=by
 rwa [List.take_of_length_le (by have:s.size=s.data.toList.length:=Lib.size_eq s;omega)] at ha
end St
end Go.Proofs.YtgmppconibklcaaGreatDoor

namespace Go.Proofs.YtgmppconibklcaaGreatDoor
namespace Utf
def chrZ (n:Nat) (b0 b1 b2 b3:Int):Int×Int:=
 if b0<128 then (b0,1)
 else if b0<192∨248≤b0 then (0,0)
 else if b0<224 then (if n<2∨b1<128∨191<b1∨(b0-192)*64+b1-128<128 then (0,0) else ((b0-192)*64+b1-128,2))
 else if b0<240 then (if n<3∨b1<128∨191<b1∨b2<128∨191<b2∨((b0-224)*64+b1-128)*64+b2-128<2048∨(55296≤((b0-224)*64+b1-128)*64+b2-128∧((b0-224)*64+b1-128)*64+b2-128≤57343) then (0,0)
  else (((b0-224)*64+b1-128)*64+b2-128,3))
 else (if n<4∨b1<128∨191<b1∨b2<128∨191<b2∨b3<128∨191<b3∨(((b0-240)*64+b1-128)*64+b2-128)*64+b3-128<65536∨1114111<(((b0-240)*64+b1-128)*64+b2-128)*64+b3-128 then (0,0)
  else ((((b0-240)*64+b1-128)*64+b2-128)*64+b3-128,4))
def chr (s:ByteArray):Int×Int:=chrZ s.size (PlainAid.bt s 0) (PlainAid.bt s 1) (PlainAid.bt s 2) (PlainAid.bt s 3)
set_option maxHeartbeats 4000000 in
theorem zdQ (n b0 b1 b2 b3:Nat) (h0:b0<256) (h1:b1<256) (h2:b2<256) (h3:b3<256):
  chrZ n b0 b1 b2 b3=if Lib.decodeN n b0 b1 b2 b3=(65533,1) then (0,0) else (((Lib.decodeN n b0 b1 b2 b3).1:Int),((Lib.decodeN n b0 b1 b2 b3).2:Int)):=by
 by_cases c1:b0<128
 ·have e:Lib.decodeN n b0 b1 b2 b3=(b0,1):=by simp [Lib.decodeN,c1]
  rw [e,if_neg (by intro h;injection h with h _;omega)];simp only [chrZ];rw [if_pos (by omega)];rfl
 ·by_cases c2:b0<192∨248≤b0
  ·have e:Lib.decodeN n b0 b1 b2 b3=(65533,1):=by
    simp only [Lib.decodeN,if_neg c1,show ¬b0 / 32=6 by omega,show ¬b0 / 16=14 by omega,show ¬b0 / 8=30 by omega,false_and,if_false]
   rw [e,if_pos rfl];simp only [chrZ];rw [if_neg (by omega),if_pos (by omega)]
  ·have k1:¬((b0:Int)<128):=by omega
   have k2:¬((b0:Int)<192∨(248:Int)≤b0):=by omega
   by_cases c3:b0<224
   ·have d1:b0 / 32=6:=by omega
    simp only [chrZ,Lib.decodeN,if_neg k1,if_neg k2,if_neg c1,if_pos (show (b0:Int)<224 by omega),d1,true_and,show ¬b0 / 16=14 by omega,show ¬b0 / 8=30 by omega,false_and,if_false];by_cases e1:1<n∧b1 / 64=2
    ·rw [if_pos e1];by_cases e2:b0%32*64+b1%64≥128
     ·rw [if_pos e2,if_neg (by omega),if_neg (by intro h;injection h with _ h;omega)];simp only [Prod.mk.injEq];omega
     ·rw [if_neg e2,if_pos (by omega),if_pos rfl]
    ·rw [if_neg e1,if_pos (by omega),if_pos rfl]
   ·by_cases c4:b0<240
    ·have d1:¬b0 / 32=6:=by omega
     have d2:b0 / 16=14:=by omega
     simp only [chrZ,Lib.decodeN,if_neg k1,if_neg k2,if_neg c1,if_neg (show ¬(b0:Int)<224 by omega),if_pos (show (b0:Int)<240 by omega),d1,d2,true_and,show ¬b0 / 8=30 by omega,false_and,if_false];by_cases e1:(1<n∧b1 / 64=2)∧2<n∧b2 / 64=2
     ·rw [if_pos e1];by_cases e2:b0%16*4096+b1%64*64+b2%64≥2048∧(b0%16*4096+b1%64*64+b2%64<55296∨57344≤b0%16*4096+b1%64*64+b2%64∧b0%16*4096+b1%64*64+b2%64≤1114111)
      ·rw [if_pos e2,if_neg (by omega),if_neg (by intro h;injection h with _ h;omega)];simp only [Prod.mk.injEq];omega
      ·rw [if_neg e2,if_pos (by omega),if_pos rfl]
     ·rw [if_neg e1,if_pos (by omega),if_pos rfl]
    ·have d1:¬b0 / 32=6:=by omega
     have d2:¬b0 / 16=14:=by omega
     have d3:b0 / 8=30:=by omega
     simp only [chrZ,Lib.decodeN,if_neg k1,if_neg k2,if_neg c1,if_neg (show ¬(b0:Int)<224 by omega),if_neg (show ¬(b0:Int)<240 by omega),d1,d2,d3,true_and,false_and,if_false];by_cases e1:(1<n∧b1 / 64=2)∧(2<n∧b2 / 64=2)∧3<n∧b3 / 64=2
     ·rw [if_pos e1];by_cases e2:b0%8*262144+b1%64*4096+b2%64*64+b3%64≥65536∧(b0%8*262144+b1%64*4096+b2%64*64+b3%64<55296∨57344≤b0%8*262144+b1%64*4096+b2%64*64+b3%64∧b0%8*262144+b1%64*4096+b2%64*64+b3%64≤1114111)
      ·rw [if_pos e2,if_neg (by omega),if_neg (by intro h;injection h with _ h;omega)];simp only [Prod.mk.injEq];omega
      ·rw [if_neg e2,if_pos (by omega),if_pos rfl]
     ·rw [if_neg e1,if_pos (by omega),if_pos rfl]
theorem zfG (s:ByteArray) (i:Nat):PlainAid.bt s i=((s.get! i).toNat:Int):=by
 unfold PlainAid.bt;split
 ·rename_i h;have:s.get! i=s[i]:=by
   obtain ⟨d⟩:=s;show d[i]! = d[i];exact getElem!_pos d i h
  rw [this]
 ·rename_i h;have:s.get! i=0:=by
   obtain ⟨d⟩:=s;show d[i]! = 0;rw [getElem!_neg d i h];rfl
  rw [this];rfl
theorem zh0 (s:ByteArray):chr s=if Utf8.decode s 0=(65533,1) then (0,0) else (((Utf8.decode s 0).1:Int),((Utf8.decode s 0).2:Int)):=by
 unfold chr;rw [zfG,zfG,zfG,zfG,zdQ _ _ _ _ _ (UInt8.toNat_lt _) (UInt8.toNat_lt _) (UInt8.toNat_lt _) (UInt8.toNat_lt _),Lib.decode_at s 0];rfl
theorem zdE (s:ByteArray) (i k:Nat):(s.extract i s.size).get! k=s.get! (i+k):=by
 obtain ⟨⟨l⟩⟩:=s;rw [ByteArray.extract_mk];show (((l.drop i).take (l.length-i)).toArray)[k]! = l.toArray[i+k]!;rw [List.take_of_length_le (by rw [List.length_drop];exact Nat.le_refl _)];simp
theorem z4K (s:ByteArray) (i:Nat):Utf8.decode (s.extract i s.size) 0=Utf8.decode s i:=by
 rw [Lib.decode_at,Lib.decode_at s i];have hz:(s.extract i s.size).size=s.size-i:=by simp
 simp only [zdE,hz,Nat.zero_add,Nat.sub_zero,Nat.add_zero]
def z2Q (s:ByteArray):Nat→Nat→Bool
 | 0,_=>true
 | f+1,pos=>if pos<s.size then (if Utf8.decode s pos=(65533,1) then false else z2Q s f (pos+(Utf8.decode s pos).2)) else true
def ok (s:ByteArray):Bool:=z2Q s s.size 0
theorem z9c (s:ByteArray) (f pos:Nat) (h:¬pos<s.size):z2Q s f pos=true:=by cases f<;>simp [z2Q,h]
end Utf
end Go.Proofs.YtgmppconibklcaaGreatDoor

namespace Go.Proofs.YtgmppconibklcaaGreatDoor
namespace Nt
def B:Nat:=4294967296
def vl:List Nat→Nat
 | []=>0
 | a::l=>a+B*vl l
def Lb (l:List Nat):Prop:=∀ x∈l,x<B
theorem Lb.nil:Lb []:=fun _ h=>by cases h
theorem Lb.head {a:Nat} {l:List Nat} (h:Lb (a::l)):a<B:=h a (by simp)
theorem Lb.tail {a:Nat} {l:List Nat} (h:Lb (a::l)):Lb l:=fun x hx=>h x (by simp [hx])
theorem Lb.cons {a:Nat} {l:List Nat} (h:a<B) (k:Lb l):Lb (a::l):=fun x hx=>by
 rcases List.mem_cons.1 hx with rfl|hx
 ·exact h
 ·exact k x hx
theorem Lb.app {a b:List Nat} (h:Lb a) (k:Lb b):Lb (a++b):=fun x hx=>by
 rcases List.mem_append.1 hx with hx|hx
 ·exact h x hx
 ·exact k x hx
theorem Lb.take {a:List Nat} (h:Lb a) (n:Nat):Lb (a.take n):=fun x hx=>h x (List.mem_of_mem_take hx)
theorem Lb.drop {a:List Nat} (h:Lb a) (n:Nat):Lb (a.drop n):=fun x hx=>h x (List.mem_of_mem_drop hx)
theorem Lb.zcI (n:Nat):Lb (List.replicate n 0):=fun x hx=>by
 rw [List.eq_of_mem_replicate hx];decide
theorem z6q (a b:List Nat):vl (a++b)=vl a+B^a.length*vl b:=by
 induction a with
 | nil=>simp [vl]
 | cons x a ih=>
  simp only [List.cons_append,vl,ih,List.length_cons,Nat.pow_succ,Nat.mul_add];rw [Nat.mul_comm (B^a.length) B,Nat.mul_assoc,Nat.add_assoc]
theorem z3L (n:Nat):vl (List.replicate n 0)=0:=by
 induction n with
 | zero=>rfl
 | succ n ih=>simp [List.replicate_succ,vl,ih]
theorem zhj {l:List Nat} (h:Lb l):vl l<B^l.length:=by
 induction l with
 | nil=>simp [vl]
 | cons a l ih=>
  have h1:=ih h.tail;have h2:=h.head;simp only [vl,List.length_cons,Nat.pow_succ];have h3:B*(vl l+1)≤B*B^l.length:=Nat.mul_le_mul_left _ h1;rw [Nat.mul_add,Nat.mul_one] at h3;rw [Nat.mul_comm (B^l.length) B];omega
theorem zlK:∀ {a b:List Nat},Lb a→Lb b→a.length=b.length→vl a=vl b→a=b
 | [],[],_,_,_,_=>rfl
 | [],_::_,_,_,h,_=>by simp at h
 | _::_,[],_,_,h,_=>by simp at h
 | x::a,y::b,ha,hb,hl,hv=>by
  have h1:=ha.head;have h2:=hb.head;simp only [vl] at hv;have e1:x=y:=by
   have:=congrArg (·%B) hv;simp only [Nat.add_mul_mod_self_left] at this
   rwa [Nat.mod_eq_of_lt h1,Nat.mod_eq_of_lt h2] at this
  subst e1;have e2:vl a=vl b:=Nat.eq_of_mul_eq_mul_left (show 0<B by decide) (by omega);rw [zlK ha.tail hb.tail (by simpa using hl) e2]
def sz:List Nat→Nat
 | []=>0
 | a::l=>if sz l=0 then (if a=0 then 0 else 1) else sz l+1
theorem z7l (l:List Nat):sz l≤l.length:=by
 induction l with
 | nil=>simp [sz]
 | cons a l ih=>simp only [sz,List.length_cons];split<;>(try split)<;>omega
theorem zcU (l:List Nat) (a:Nat):sz (l++[a])=if a=0 then sz l else l.length+1:=by
 induction l with
 | nil=>simp [sz]
 | cons x l ih=>
  simp only [List.cons_append,sz,ih,List.length_cons];by_cases ha:a=0
  ·simp [ha]
  ·simp [ha]
def trim (l:List Nat):List Nat:=l.take (sz l)
theorem zdH:∀ l:List Nat,l.drop (sz l)=List.replicate (l.length-sz l) 0
 | []=>rfl
 | a::l=>by
  have h1:=zdH l;have h2:=z7l l;simp only [sz];by_cases h0:sz l=0
  ·rw [h0] at h1;rw [if_pos h0];simp only [List.drop_zero,Nat.sub_zero] at h1;by_cases ha:a=0
   ·rw [if_pos ha];simp only [List.drop_zero,Nat.sub_zero,List.length_cons,List.replicate_succ];rw [←h1,ha]
   ·rw [if_neg ha];simp only [List.drop_succ_cons,List.drop_zero,List.length_cons,Nat.add_sub_cancel];exact h1
  ·rw [if_neg h0];simp only [List.drop_succ_cons,List.length_cons,Nat.add_sub_add_right];exact h1
theorem zke (l:List Nat):l=trim l++List.replicate (l.length-sz l) 0:=by
 rw [←zdH];exact (List.take_append_drop _ _).symm
theorem z48 (l:List Nat):vl (trim l)=vl l:=by
 conv=>rhs;rw [zke l]
 rw [z6q,z3L];simp
theorem z1o (l:List Nat):(trim l).length=sz l:=by
 unfold trim;have:=z7l l;simp;omega
theorem Lb.trim {l:List Nat} (h:Lb l):Lb (trim l):=h.take _
theorem zdB:∀ (l:List Nat),0<sz l→l.getD (sz l-1) 0≠0
 | [],h=>by simp [sz] at h
 | a::l,h=>by
  simp only [sz] at h ⊢;by_cases h0:sz l=0
  ·rw [if_pos h0] at h ⊢;by_cases ha:a=0
   ·rw [if_pos ha] at h;omega
   ·rw [if_neg ha];simpa using ha
  ·rw [if_neg h0];have h1:=zdB l (by omega);obtain ⟨k,hk⟩:∃ k,sz l=k+1:=⟨sz l-1,by omega⟩;rw [hk] at h1 ⊢;simpa using h1
theorem z7m {l:List Nat} (h:Lb l) (k:Nat):sz l≤k↔vl l<B^k:=by
 constructor
 ·intro hk;rw [←z48];have h1:=zhj h.trim;rw [z1o] at h1;exact Nat.lt_of_lt_of_le h1 (Nat.pow_le_pow_right (by decide) hk)
 ·intro hv;rcases Nat.lt_or_ge k (sz l) with hk|hk
  ·exfalso;have h1:=zdB l (by omega);have h2:=z7l l;have e:l=l.take (sz l-1)++(l.getD (sz l-1) 0::l.drop (sz l)):=by
    have hlt:sz l-1<l.length:=by omega
    have e3:l.getD (sz l-1) 0=l[sz l-1]:=by rw [List.getD_eq_getElem?_getD,List.getElem?_eq_getElem hlt];rfl
    rw [e3]
    conv=>lhs;rw [←List.take_append_drop (sz l-1) l,List.drop_eq_getElem_cons hlt,show sz l-1+1=sz l by omega]
   have h3:B^(sz l-1)≤vl l:=by
    conv=>rhs;rw [e]
    rw [z6q];have h4:(l.take (sz l-1)).length=sz l-1:=by simp;omega
    rw [h4];simp only [vl];have h5:1≤l.getD (sz l-1) 0+B*vl (l.drop (sz l)):=by omega
    have h6:=Nat.mul_le_mul_left (B^(sz l-1)) h5;omega
   have h7:B^k≤B^(sz l-1):=Nat.pow_le_pow_right (by decide) (by omega);omega
  ·exact hk
theorem zmA {a b:List Nat} (ha:Lb a) (hb:Lb b) (h:vl a=vl b):sz a=sz b:=by
 have h1:=(z7m ha (sz b)).2 (by rw [h];exact (z7m hb (sz b)).1 (Nat.le_refl _));have h2:=(z7m hb (sz a)).2 (by rw [←h];exact (z7m ha (sz a)).1 (Nat.le_refl _));omega
theorem zb6 {a b:List Nat} (ha:Lb a) (hb:Lb b) (h:vl a=vl b):trim a=trim b:=
 zlK ha.trim hb.trim (by rw [z1o,z1o,zmA ha hb h]) (by rw [z48,z48,h])
def limF:Nat→Nat→List Nat
 | 0,_=>[]
 | f+1,n=>if n=0 then [] else (n%B)::limF f (n / B)
def lim (n:Nat):List Nat:=limF (n.log2 / 32+1) n
theorem ziR:∀ f n,Lb (limF f n)
 | 0,_=>Lb.nil
 | f+1,n=>by
  unfold limF;split
  ·exact Lb.nil
  ·exact Lb.cons (Nat.mod_lt _ (by decide)) (ziR f _)
theorem zdx:∀ f n,n<B^f→vl (limF f n)=n
 | 0,n,h=>by
  have:n=0:=by simpa using h
  subst this;rfl
 | f+1,n,h=>by
  unfold limF;split
  ·rename_i h0;rw [h0];rfl
  ·simp only [vl];rw [zdx f (n / B) (by rw [Nat.pow_succ] at h;exact Nat.div_lt_of_lt_mul (by rw [Nat.mul_comm];exact h))];have:=Nat.div_add_mod n B;omega
theorem zdy:∀ f n,n<B^f→sz (limF f n)=(limF f n).length
 | 0,_,_=>rfl
 | f+1,n,h=>by
  have hlt:n / B<B^f:=by rw [Nat.pow_succ] at h;exact Nat.div_lt_of_lt_mul (by rw [Nat.mul_comm];exact h)
  have ih:=zdy f (n / B) hlt;have hv:=zdx f (n / B) hlt;unfold limF;split
  ·rfl
  ·rename_i h0;simp only [sz,ih,List.length_cons];by_cases h1:(limF f (n / B)).length=0
   ·rw [if_pos h1];have e:limF f (n / B)=[]:=List.eq_nil_of_length_eq_zero h1;rw [e] at hv;have h2:n / B=0:=hv.symm;have h3:=Nat.div_add_mod n B;rw [h2] at h3;rw [if_neg (by omega),e];rfl
   ·rw [if_neg h1]
theorem zao (n:Nat):n<B^(n.log2 / 32+1):=by
 have h1:n<2^(n.log2+1):=Nat.lt_log2_self;have h2:B=2^32:=by decide
 rw [h2,←Nat.pow_mul];exact Nat.lt_of_lt_of_le h1 (Nat.pow_le_pow_right (by decide) (by omega))
theorem z5z (n:Nat):Lb (lim n):=ziR _ n
theorem zbX (n:Nat):vl (lim n)=n:=zdx _ n (zao n)
theorem zl8 (n:Nat):trim (lim n)=lim n:=by
 unfold trim lim;rw [zdy _ n (zao n),List.take_length]
theorem ze4 {a:List Nat} (h:Lb a):trim a=lim (vl a):=by
 rw [←zl8];exact zb6 h (z5z _) (zbX _).symm
theorem zdw {n k:Nat} (h:n<B^k):(lim n).length≤k:=by
 have h1:=(z7m (z5z n) k).2 (by rw [zbX];exact h)
 rwa [show sz (lim n)=(lim n).length from zdy _ n (zao n)] at h1
theorem z1X:lim 0=[]:=by decide
structure Kn (v1 v2 M w V top u0 x U:Nat):Prop where
 eV:V=(v1*B+v2)*M+w
 eU:U=(top*B+u0)*M+x
 hw:w<M
 hx:x<M
 h2:v2<B
 h0:u0<B
 hv:B≤2*v1
 hU:U<V*B
section
variable {v1 v2 M w V top u0 x U:Nat}
theorem Kn.pos (k:Kn v1 v2 M w V top u0 x U):0<V:=by
 have h1:=k.hw;have h2:=k.hv;have h3:1≤v1*B+v2:=by
  have:1≤v1:=by unfold B at h2;omega
  unfold B;omega
 have h4:=Nat.mul_le_mul_right M h3;rw [k.eV];omega
theorem Kn.below (k:Kn v1 v2 M w V top u0 x U) {q:Nat} (h:q*V≤U):q*(v1*B+v2)≤top*B+u0:=by
 have h1:q*(v1*B+v2)*M<(top*B+u0+1)*M:=by
  have h2:q*(v1*B+v2)*M≤q*V:=by
   rw [Nat.mul_assoc];exact Nat.mul_le_mul_left _ (by rw [k.eV];omega)
  have h3:=k.hx;rw [Nat.add_mul,Nat.one_mul];have h4:=k.eU;omega
 have:=Nat.lt_of_mul_lt_mul_right h1;omega
theorem Kn.top_le (k:Kn v1 v2 M w V top u0 x U):top≤v1*B+v2:=by
 have h1:(top*B+u0)*M<(v1*B+v2+1)*B*M:=by
  have h2:=k.hU;have h3:V≤(v1*B+v2+1)*M:=by rw [k.eV,Nat.add_mul (v1*B+v2) 1 M,Nat.one_mul];have:=k.hw;omega
  have h4:=Nat.mul_le_mul_right B h3;have h5:(v1*B+v2+1)*M*B=(v1*B+v2+1)*B*M:=by rw [Nat.mul_assoc,Nat.mul_comm M B,←Nat.mul_assoc]
  rw [h5] at h4;have h6:=k.eU;omega
 have h2:=Nat.lt_of_mul_lt_mul_right h1;have h3:top*B<(v1*B+v2+1)*B:=by omega
 have:=Nat.lt_of_mul_lt_mul_right h3;omega
theorem Kn.good (k:Kn v1 v2 M w V top u0 x U) {g:Nat} (hg:g≤B) (h:g*(v1*B+v2)≤top*B+u0):g≤U / V+1:=by
 rcases Nat.eq_zero_or_pos g with h0|h0
 ·rw [h0];exact Nat.zero_le _
 ·obtain ⟨j,rfl⟩:∃ j,g=j+1:=⟨g-1,by omega⟩;have hA:B≤v1*B+v2:=by
   have h2:=k.hv;have:1≤v1:=by unfold B at h2;omega
   have:=Nat.mul_le_mul_right B this;omega
  have h1:j*w≤B*M:=Nat.mul_le_mul (by omega) (by have:=k.hw;omega);have h2:B*M≤(v1*B+v2)*M:=Nat.mul_le_mul_right _ hA;have h3:(j+1)*(v1*B+v2)*M≤(top*B+u0)*M:=Nat.mul_le_mul_right _ h;have h4:j*V≤U:=by
   rw [Nat.add_mul,Nat.one_mul,Nat.add_mul] at h3;rw [k.eV,Nat.mul_add,←Nat.mul_assoc];have h5:=k.eU;omega
  exact Nat.succ_le_succ ((Nat.le_div_iff_mul_le k.pos).2 h4)
structure Gs (v1 V top U g r:Nat):Prop where
 e:g*v1+r=top
 q:U / V≤g
 b:g≤B∨(g≤B+1∧r<v1)
theorem Gs.start (k:Kn v1 v2 M w V top u0 x U):Gs v1 V top U (top / v1) (top%v1):=by
 have h2:=k.hv;have hv1:0<v1:=by unfold B at h2;omega
 refine ⟨by rw [Nat.mul_comm];exact Nat.div_add_mod _ _,?_,.inr ⟨?_,Nat.mod_lt _ hv1⟩⟩
 ·rw [Nat.le_div_iff_mul_le hv1];have h1:=k.below (Nat.div_mul_le_self U V);have h3:U / V*v1*B<(top+1)*B:=by
   rw [Nat.mul_add,←Nat.mul_assoc] at h1;have:=k.h0;rw [Nat.add_mul,Nat.one_mul];omega
  have:=Nat.lt_of_mul_lt_mul_right h3;omega
 ·have h1:=k.top_le;have h3:=k.h2;have h4:top<(B+2)*v1:=by
   rw [Nat.add_mul,Nat.mul_comm B v1];omega
  have:=(Nat.div_lt_iff_lt_mul hv1).2 h4;omega
theorem Gs.step (k:Kn v1 v2 M w V top u0 x U) {g r:Nat} (s:Gs v1 V top U g r) (hc:B≤g∨r*B+u0<g*v2):1≤g∧Gs v1 V top U (g-1) (r+v1)∧g-1≤B:=by
 have hq:U / V<B:=by
  exact Nat.div_lt_of_lt_mul k.hU
 have hlt:U / V<g:=by
  rcases hc with hc|hc
  ·exact Nat.lt_of_lt_of_le hq hc
  ·rcases Nat.lt_or_ge (U / V) g with h|h
   ·exact h
   ·exfalso;have e:g=U / V:=Nat.le_antisymm h s.q;have h1:=k.below (Nat.div_mul_le_self U V);rw [←e] at h1;have h2:=s.e;rw [←h2,Nat.mul_add,Nat.add_mul,←Nat.mul_assoc] at h1;omega
 have hb:g-1≤B:=by rcases s.b with h|h<;>omega
 refine ⟨Nat.lt_of_le_of_lt (Nat.zero_le _) hlt,⟨?_,Nat.le_sub_one_of_lt hlt,.inl hb⟩,hb⟩;have h2:=s.e;obtain ⟨j,rfl⟩:∃ j,g=j+1:=⟨g-1,(Nat.succ_pred_eq_of_pos (Nat.lt_of_le_of_lt (Nat.zero_le _) hlt)).symm⟩;rw [Nat.add_mul,Nat.one_mul] at h2;rw [Nat.add_sub_cancel];omega
theorem Gs.over (k:Kn v1 v2 M w V top u0 x U) {g r:Nat} (s:Gs v1 V top U g r) (hg:g≤B) (hr:B≤r):g≤U / V+1:=by
 refine k.good hg ?_;rw [←s.e,Nat.mul_add,Nat.add_mul,←Nat.mul_assoc];have h1:g*v2≤B*B:=Nat.mul_le_mul hg (by have:=k.h2;omega);have h2:B*B≤r*B:=Nat.mul_le_mul_right _ hr;omega
theorem Gs.stop (k:Kn v1 v2 M w V top u0 x U) {g r:Nat} (s:Gs v1 V top U g r) (hg:g<B) (hc:g*v2≤r*B+u0):g≤U / V+1:=by
 refine k.good (by omega) ?_;rw [←s.e,Nat.mul_add,Nat.add_mul,←Nat.mul_assoc];omega
end
end Nt
end Go.Proofs.YtgmppconibklcaaGreatDoor

namespace Go.Proofs.YtgmppconibklcaaGreatDoor
namespace Nt
theorem z2U {l:List Nat} (h:Lb l) (k:Nat):l.getD k 0<B:=by
 rw [List.getD_eq_getElem?_getD];rcases Nat.lt_or_ge k l.length with hk|hk
 ·rw [List.getElem?_eq_getElem hk];exact h _ (List.getElem_mem hk)
 ·rw [List.getElem?_eq_none hk];decide
theorem z0K (l:List Nat) (k:Nat):vl (l.take (k+1))=vl (l.take k)+B^k*l.getD k 0:=by
 rcases Nat.lt_or_ge k l.length with hk|hk
 ·have e:l.getD k 0=l[k]:=by rw [List.getD_eq_getElem?_getD,List.getElem?_eq_getElem hk];rfl
  rw [List.take_succ_eq_append_getElem hk,z6q,e];have h1:(l.take k).length=k:=by simp;omega
  rw [h1];simp [vl]
 ·rw [List.take_of_length_le (by omega),List.take_of_length_le hk,List.getD_eq_getElem?_getD,List.getElem?_eq_none hk];simp
theorem z11 {l:List Nat} {k:Nat} (h:l.length≤k):vl (l.take k)=vl l:=by rw [List.take_of_length_le h]
theorem z3W:∀ (l:List Nat) (j y:Nat),j<l.length→vl (l.set j y)+B^j*l.getD j 0=vl l+B^j*y
 | [],j,y,h=>by simp at h
 | a::l,0,y,_=>by simp [vl];omega
 | a::l,j+1,y,h=>by
  have h1:=z3W l j y (by simpa using h);have h2:=congrArg (B*·) h1;simp only [Nat.mul_add] at h2;simp only [List.set_cons_succ,List.getD_cons_succ,vl,Nat.pow_succ];rw [Nat.mul_comm (B^j) B,Nat.mul_assoc,Nat.mul_assoc];omega
theorem Lb.set {l:List Nat} (h:Lb l) {y:Nat} (hy:y<B) (j:Nat):Lb (l.set j y):=fun x hx=>by
 rcases List.mem_or_eq_of_mem_set hx with hx|rfl
 ·exact h x hx
 ·exact hy
theorem carry (i s:Nat):B^i*(s%B)+B^(i+1)*(s / B)=B^i*s:=by
 rw [Nat.pow_succ,Nat.mul_assoc,←Nat.mul_add,Nat.add_comm,Nat.div_add_mod]
structure AI (a b o:List Nat) (i c:Nat):Prop where
 v:vl o+B^i*c=vl (a.take i)+vl (b.take i)
 lb:Lb o
 z:∀ j,i≤j→o.getD j 0=0
 c:c≤1
theorem AI.start (a b:List Nat) (n:Nat):AI a b (List.replicate n 0) 0 0:=
 ⟨by simp [z3L,vl],Lb.zcI n,fun j _=>by
  rw [List.getD_eq_getElem?_getD,List.getElem?_replicate];split<;>rfl,by omega⟩
theorem getD_set_ne {l:List Nat} {i j y:Nat} (h:i≠j):(l.set i y).getD j 0=l.getD j 0:=by
 rw [List.getD_eq_getElem?_getD,List.getD_eq_getElem?_getD,List.getElem?_set_ne h]
theorem AI.next {a b o:List Nat} {i c:Nat} (h:AI a b o i c) (ha:Lb a) (hb:Lb b) (hi:i<o.length):
  AI a b (o.set i ((c+a.getD i 0+b.getD i 0)%B)) (i+1) ((c+a.getD i 0+b.getD i 0) / B):=by
 have h1:=z2U ha i;have h2:=z2U hb i;have h3:=h.c;have h4:=z3W o i ((c+a.getD i 0+b.getD i 0)%B) hi;rw [h.z i (Nat.le_refl _),Nat.mul_zero,Nat.add_zero] at h4;refine ⟨?_,h.lb.set (Nat.mod_lt _ (by decide)) _,fun j hj=>by rw [getD_set_ne (by omega)];exact h.z j (by omega),?_⟩
 ·have h5:=carry i (c+a.getD i 0+b.getD i 0);have h6:=h.v;rw [z0K,z0K,h4];rw [Nat.mul_add,Nat.mul_add] at h5;omega
 ·have:c+a.getD i 0+b.getD i 0<2*B:=by omega
  have:=(Nat.div_lt_iff_lt_mul (show 0<B by decide)).2 this;omega
theorem AI.fin {a b o:List Nat} {n c:Nat} (h:AI a b o n c) (ha:a.length≤n) (hb:b.length≤n) (hn:n<o.length):vl (o.set n c)=vl a+vl b∧Lb (o.set n c):=by
 have h4:=z3W o n c hn;rw [h.z n (Nat.le_refl _),Nat.mul_zero,Nat.add_zero] at h4;have h6:=h.v;rw [z11 ha,z11 hb] at h6;have h7:=h.c;exact ⟨by omega,h.lb.set (by unfold B;omega) _⟩
structure MI (o0 b o:List Nat) (x i k c:Nat):Prop where
 v:vl o+B^(i+k)*c=vl o0+B^i*(x*vl (b.take k))
 lb:Lb o
 len:o.length=o0.length
 z:∀ j,i+k≤j→o.getD j 0=o0.getD j 0
 c:c<B
theorem MI.start {o0:List Nat} (b:List Nat) (x i:Nat) (h:Lb o0):MI o0 b o0 x i 0 0:=⟨by simp [vl],h,rfl,fun _ _=>rfl,by decide⟩
theorem MI.bound {c x y z:Nat} (hc:c<B) (hx:x<B) (hy:y<B) (hz:z<B):c+(x*y+z)<B*B:=by
 have h1:x*y≤(B-1)*(B-1):=Nat.mul_le_mul (by omega) (by omega);unfold B at *;omega
theorem MI.next {o0 b o:List Nat} {x i k c:Nat} (h:MI o0 b o x i k c) (hb:Lb b) (h0:Lb o0) (hx:x<B) (hk:i+k<o.length):
  MI o0 b (o.set (i+k) ((c+(x*b.getD k 0+o.getD (i+k) 0))%B)) x i (k+1) ((c+(x*b.getD k 0+o.getD (i+k) 0)) / B):=by
 have h4:=z3W o (i+k) ((c+(x*b.getD k 0+o.getD (i+k) 0))%B) hk;have hbd:=MI.bound h.c hx (z2U hb k) (z2U h.lb (i+k));refine ⟨?_,h.lb.set (Nat.mod_lt _ (by decide)) _,by rw [List.length_set,h.len],fun j hj=>by rw [getD_set_ne (by omega)];exact h.z j (by omega),(Nat.div_lt_iff_lt_mul (by decide)).2 hbd⟩;have h5:=carry (i+k) (c+(x*b.getD k 0+o.getD (i+k) 0));have h6:=h.v;have e1:B^i*(x*vl (b.take (k+1)))=B^i*(x*vl (b.take k))+B^(i+k)*(x*b.getD k 0):=by
  rw [z0K,Nat.mul_add,Nat.mul_add,Nat.pow_add]
  congr 1
  rw [Nat.mul_assoc]
  congr 1
  rw [←Nat.mul_assoc,←Nat.mul_assoc,Nat.mul_comm x]
 rw [e1,show i+(k+1)=i+k+1 by omega];rw [Nat.mul_add,Nat.mul_add] at h5;omega
structure PI (a b o:List Nat) (i:Nat):Prop where
 v:vl o=vl (a.take i)*vl b
 lb:Lb o
 len:o.length=a.length+b.length
 z:∀ j,i+b.length≤j→o.getD j 0=0
theorem PI.start (a b:List Nat):PI a b (List.replicate (a.length+b.length) 0) 0:=
 ⟨by simp [z3L,vl],Lb.zcI _,by simp,fun j _=>by rw [List.getD_eq_getElem?_getD,List.getElem?_replicate];split<;>rfl⟩
theorem PI.next {a b o o':List Nat} {i c:Nat} (h:PI a b o i) (hi:i<a.length) (hm:MI o b o' (a.getD i 0) i b.length c):PI a b (o'.set (i+b.length) c) (i+1):=by
 have hl:i+b.length<o'.length:=by rw [hm.len,h.len];omega
 have h4:=z3W o' (i+b.length) c hl;rw [hm.z _ (Nat.le_refl _),h.z _ (Nat.le_refl _),Nat.mul_zero,Nat.add_zero] at h4;refine ⟨?_,hm.lb.set hm.c _,by rw [List.length_set,hm.len,h.len],fun j hj=>by rw [getD_set_ne (by omega),hm.z j (by omega)];exact h.z j (by omega)⟩;have h6:=hm.v;rw [z11 (Nat.le_refl _),h.v] at h6;rw [h4,h6,z0K,Nat.add_mul,Nat.mul_assoc]
theorem PI.fin {a b o:List Nat} (h:PI a b o a.length):vl o=vl a*vl b:=by rw [h.v,z11 (Nat.le_refl _)]
end Nt
end Go.Proofs.YtgmppconibklcaaGreatDoor

namespace Go.Proofs.YtgmppconibklcaaGreatDoor
namespace Nt
theorem z3F (n j:Nat):(List.replicate n 0).getD j 0=0:=by
 rw [List.getD_eq_getElem?_getD,List.getElem?_replicate];split<;>rfl
theorem z2A {l:List Nat} {i y:Nat} (h:i<l.length):(l.set i y).getD i 0=y:=by
 rw [List.getD_eq_getElem?_getD,List.getElem?_set_self h];rfl
structure SI (a b o:List Nat) (i w:Nat):Prop where
 v:vl (a.take i)+B^i*w=vl o+vl (b.take i)
 lb:Lb o
 z:∀ j,i≤j→o.getD j 0=0
 w:w≤1
theorem SI.start (a b:List Nat) (n:Nat):SI a b (List.replicate n 0) 0 0:=⟨by simp [z3L,vl],Lb.zcI n,fun j _=>z3F n j,by omega⟩
theorem SI.next {a b o:List Nat} {i w y w':Nat} (h:SI a b o i w) (hi:i<o.length) (hy:y<B) (hw:w'≤1) (e:y+w+b.getD i 0=a.getD i 0+B*w'):SI a b (o.set i y) (i+1) w':=by
 have h4:=z3W o i y hi;rw [h.z i (Nat.le_refl _),Nat.mul_zero,Nat.add_zero] at h4;refine ⟨?_,h.lb.set hy _,fun j hj=>by rw [getD_set_ne (by omega)];exact h.z j (by omega),hw⟩;have h6:=h.v;have h5:=congrArg (B^i*·) e;simp only [Nat.mul_add] at h5;rw [z0K,z0K,h4,Nat.pow_succ,Nat.mul_assoc];omega
theorem SI.fin {a b o:List Nat} {n w:Nat} (h:SI a b o n w) (hn:o.length=n) (ha:a.length≤n) (hb:Lb b) (hle:vl b≤vl a) (hlt:vl a<B^n):w=0∧vl o=vl a-vl b:=by
 have h6:=h.v;have h7:=zhj h.lb;rw [hn] at h7;have e:vl (b.take n)=vl b:=by
  have h1:=(z7m hb n).2 (by omega);have h2:=zdH b
  conv=>rhs;rw [←List.take_append_drop n b,z6q]
  have h3:b.drop n=List.replicate (b.length-n) 0:=by
   have:b.drop n=(b.drop (sz b)).drop (n-sz b):=by rw [List.drop_drop];congr 1;omega
   rw [this,h2,List.drop_replicate];congr 1;omega
  rw [h3,z3L];simp
 rw [z11 ha,e] at h6;have h8:=h.w;have hw0:w=0:=by
  rcases (show w=0∨w=1 by omega) with hw|hw
  ·exact hw
  ·rw [hw,Nat.mul_one] at h6;omega
 rw [hw0,Nat.mul_zero] at h6;exact ⟨hw0,by omega⟩
structure QI (a q:List Nat) (b i r:Nat):Prop where
 v:vl (a.drop i)=vl (q.drop i)*b+r
 lb:Lb q
 len:q.length=a.length
 r:r<b
theorem QI.start {a:List Nat} {b:Nat} (hb:0<b):QI a (List.replicate a.length 0) b a.length 0:=⟨by simp [vl],Lb.zcI _,by simp,hb⟩
theorem z0t {l:List Nat} {i:Nat} (h:i<l.length):l.drop i=l.getD i 0::l.drop (i+1):=by
 rw [List.drop_eq_getElem_cons h,List.getD_eq_getElem?_getD,List.getElem?_eq_getElem h];rfl
theorem QI.next {a q:List Nat} {b i r:Nat} (h:QI a q b (i+1) r) (ha:Lb a) (hi:i<a.length):QI a (q.set i ((r*B+a.getD i 0) / b)) b i ((r*B+a.getD i 0)%b):=by
 have hb:0<b:=by have:=h.r;omega
 have hlt:(r*B+a.getD i 0) / b<B:=by
  rw [Nat.div_lt_iff_lt_mul hb];have h1:=z2U ha i;have h2:=h.r;have h3:(r+1)*B≤b*B:=Nat.mul_le_mul_right _ h2;rw [Nat.add_mul,Nat.one_mul] at h3;rw [Nat.mul_comm B b];omega
 refine ⟨?_,h.lb.set hlt _,by rw [List.length_set,h.len],Nat.mod_lt _ hb⟩;have hq:i<q.length:=by rw [h.len];exact hi
 have e1:(q.set i ((r*B+a.getD i 0) / b)).drop i=(r*B+a.getD i 0) / b::q.drop (i+1):=by
  rw [z0t (by rw [List.length_set];exact hq),z2A hq,List.drop_set_of_lt (by omega)]
 rw [e1,z0t hi];simp only [vl];rw [h.v];have h1:=Nat.div_add_mod (r*B+a.getD i 0) b;rw [Nat.add_mul,Nat.mul_add,←Nat.mul_assoc];rw [Nat.mul_comm b] at h1;rw [Nat.mul_comm r B] at *;omega
theorem QI.fin {a q:List Nat} {b r:Nat} (h:QI a q b 0 r):vl q=vl a / b∧r=vl a%b:=by
 have h1:=h.v;simp only [List.drop_zero] at h1;have hb:0<b:=by have:=h.r;omega
 rw [h1];constructor
 ·rw [Nat.mul_comm,Nat.mul_add_div hb,Nat.div_eq_of_lt h.r,Nat.add_zero]
 ·rw [Nat.mul_comm,Nat.mul_add_mod,Nat.mod_eq_of_lt h.r]
structure DI (u0 u v:List Nat) (g i w c:Nat):Prop where
 v:(vl u:Int)-(B:Int)^i*((w:Int)+c)=vl u0-g*vl (v.take i)
 lb:Lb u
 len:u.length=u0.length
 z:∀ j,i≤j→u.getD j 0=u0.getD j 0
 w:w≤1
 c:c<B
theorem DI.start {u0:List Nat} (v:List Nat) (g:Nat) (h:Lb u0):DI u0 u0 v g 0 0 0:=⟨by simp [vl],h,rfl,fun _ _=>rfl,by omega,by decide⟩
theorem DI.bound {c g x:Nat} (hc:c<B) (hg:g≤B) (hx:x<B):c+g*x<B*B:=by
 have h1:g*x≤B*(B-1):=Nat.mul_le_mul hg (by omega);unfold B at *;omega
theorem DI.next {u0 u v:List Nat} {g i w c y w':Nat} (h:DI u0 u v g i w c) (hv:Lb v) (hg:g≤B) (hi:i<u.length) (hy:y<B) (hw:w'≤1) (e:y+w+(c+g*v.getD i 0)%B=u.getD i 0+B*w'):
  DI u0 (u.set i y) v g (i+1) w' ((c+g*v.getD i 0) / B):=by
 have h4:=z3W u i y hi;have hbd:=DI.bound h.c hg (z2U hv i);refine ⟨?_,h.lb.set hy _,by rw [List.length_set,h.len],fun j hj=>by rw [getD_set_ne (by omega)];exact h.z j (by omega),hw,(Nat.div_lt_iff_lt_mul (by decide)).2 hbd⟩;have h6:=h.v;have h5:=carry i (c+g*v.getD i 0);obtain ⟨t,ht⟩:∃ t,t=c+g*v.getD i 0:=⟨_,rfl⟩;have h7:=congrArg (B^i*·) e;simp only [Nat.mul_add] at h7;rw [z0K];rw [←ht] at h5 h7 ⊢;have h8:B^i*t=B^i*c+g*(B^i*v.getD i 0):=by
  rw [ht,Nat.mul_add];congr 1;rw [←Nat.mul_assoc,←Nat.mul_assoc,Nat.mul_comm g]
 have h9:B^i*(B*w')=B^(i+1)*w':=by rw [Nat.pow_succ,Nat.mul_assoc]
 rw [h9] at h7;have h10:((vl u:Nat):Int)-((B^i*w:Nat):Int)-((B^i*c:Nat):Int)=(vl u0:Int)-((g*vl (v.take i):Nat):Int):=by
  rw [Int.mul_add] at h6;simp only [Int.natCast_mul,Int.natCast_pow];omega
 have h11:(g*(vl (v.take i)+B^i*v.getD i 0):Nat)=g*vl (v.take i)+g*(B^i*v.getD i 0):=Nat.mul_add _ _ _;have goal:((vl (u.set i y):Nat):Int)-((B^(i+1)*w':Nat):Int)-((B^(i+1)*(t / B):Nat):Int)=(vl u0:Int)-((g*(vl (v.take i)+B^i*v.getD i 0):Nat):Int):=by
  rw [h11];omega
 rw [Int.mul_add];simp only [Int.natCast_mul,Int.natCast_pow,Int.natCast_add] at goal ⊢;omega
theorem zan {u:List Nat} {n:Nat} (h:u.length=n+1):vl u=vl (u.take n)+B^n*u.getD n 0:=by
 rw [←z0K,z11 (by omega)]
theorem zm9 {u:List Nat} {n:Nat} (h:u.length=n+1) (hb:Lb u):vl (u.take n)<B^n:=by
 have h1:=zhj (hb.take n);have h2:(u.take n).length=n:=by simp;omega
 rwa [h2] at h1
theorem z5R {u:List Nat} {n y:Nat} (h:u.length=n+1):vl (u.set n y)=vl (u.take n)+B^n*y:=by
 have h1:=z3W u n y (by omega);rw [zan h] at h1;omega
theorem zgN {U V q r:Nat} (hr:r<V) (h:U=q*V+r):U / V=q∧U%V=r:=by
 have hV:0<V:=by omega
 subst h;rw [Nat.mul_comm];exact ⟨by rw [Nat.mul_add_div hV,Nat.div_eq_of_lt hr,Nat.add_zero],by rw [Nat.mul_add_mod,Nat.mod_eq_of_lt hr]⟩
theorem DI.yes {u0 u v:List Nat} {g n w c:Nat} (h:DI u0 u v g n w c) (hu:u0.length=n+1) (hv:v.length=n) (hV:0<vl v) (hq:vl u0 / vl v≤g) (hd:w+c≤u.getD n 0):
  g=vl u0 / vl v∧vl (u.set n (u.getD n 0-w-c))=vl u0%vl v:=by
 have h1:=h.v;have hul:u.length=n+1:=by rw [h.len,hu]
 rw [z11 (by omega),zan hul] at h1;have h2:=z5R (u:=u) (n:=n) (y:=u.getD n 0-w-c) hul;have e1:B^n*u.getD n 0=B^n*(u.getD n 0-w-c)+B^n*(w+c):=by
  rw [←Nat.mul_add];congr 1;omega
 have h3:((vl (u.take n)+B^n*(u.getD n 0-w-c):Nat):Int)=(vl u0:Int)-((g*vl v:Nat):Int):=by
  have h4:((B:Int)^n*((w:Int)+c))=((B^n*(w+c):Nat):Int):=by simp only [Int.natCast_mul,Int.natCast_pow,Int.natCast_add]
  rw [h4,e1] at h1;simp only [Int.natCast_mul g] at h1 ⊢;omega
 have h5:g*vl v≤vl u0:=by omega
 have h6:=(Nat.le_div_iff_mul_le hV).2 h5;have h7:=Nat.le_antisymm h6 hq;refine ⟨h7,?_⟩;rw [h2];have h8:=Nat.div_add_mod (vl u0) (vl v);rw [←h7,Nat.mul_comm] at h8;omega
theorem DI.no {u0 u v:List Nat} {g n w c:Nat} (h:DI u0 u v g n w c) (hu:u0.length=n+1) (hv:v.length=n) (hV:0<vl v) (hq:vl u0 / vl v≤g) (hq1:g≤vl u0 / vl v+1) (hd:u.getD n 0<w+c):
  1≤g∧g-1=vl u0 / vl v∧u.getD n 0+B-w-c<B∧vl (u.set n (u.getD n 0+B-w-c))+vl v=vl u0%vl v+B^n*B:=by
 have h1:=h.v;have hul:u.length=n+1:=by rw [h.len,hu]
 have hlow:=zm9 hul h.lb;have hw:=h.w;have hc:=h.c;rw [z11 (by omega),zan hul] at h1;have h2:=z5R (u:=u) (n:=n) (y:=u.getD n 0+B-w-c) hul;have e1:B^n*u.getD n 0+B^n*B=B^n*(u.getD n 0+B-w-c)+B^n*(w+c):=by
  rw [←Nat.mul_add,←Nat.mul_add];congr 1;omega
 have e2:B^n*u.getD n 0+B^n≤B^n*(w+c):=by
  have:=Nat.mul_le_mul_left (B^n) (show u.getD n 0+1≤w+c by omega)
  rwa [Nat.mul_add,Nat.mul_one] at this
 have h4:((B:Int)^n*((w:Int)+c))=((B^n*(w+c):Nat):Int):=by simp only [Int.natCast_mul,Int.natCast_pow,Int.natCast_add]
 rw [h4] at h1;have h1':((vl (u.take n)+B^n*u.getD n 0:Nat):Int)-((B^n*(w+c):Nat):Int)=(vl u0:Int)-((g*vl v:Nat):Int):=by
  simp only [Int.natCast_mul g] at h1 ⊢;exact h1
 have h5:vl u0<g*vl v:=by omega
 have h6:vl u0 / vl v<g:=(Nat.div_lt_iff_lt_mul hV).2 h5;have h7:g=vl u0 / vl v+1:=Nat.le_antisymm hq1 h6;have h8:=Nat.div_add_mod (vl u0) (vl v);have h9:g*vl v=vl v*(vl u0 / vl v)+vl v:=by rw [h7,Nat.add_mul,Nat.one_mul,Nat.mul_comm]
 refine ⟨Nat.lt_of_le_of_lt (Nat.zero_le _) h6,by rw [h7];rfl,by omega,?_⟩;rw [h2];omega
structure BI (u1 u v:List Nat) (i c:Nat):Prop where
 v:vl u+B^i*c=vl u1+vl (v.take i)
 lb:Lb u
 len:u.length=u1.length
 z:∀ j,i≤j→u.getD j 0=u1.getD j 0
 c:c≤1
theorem BI.start {u1:List Nat} (v:List Nat) (h:Lb u1):BI u1 u1 v 0 0:=⟨by simp [vl],h,rfl,fun _ _=>rfl,by omega⟩
theorem BI.next {u1 u v:List Nat} {i c:Nat} (h:BI u1 u v i c) (hv:Lb v) (hi:i<u.length):BI u1 (u.set i ((c+(u.getD i 0+v.getD i 0))%B)) v (i+1) ((c+(u.getD i 0+v.getD i 0)) / B):=by
 have h1:=z2U h.lb i;have h2:=z2U hv i;have h3:=h.c;have h4:=z3W u i ((c+(u.getD i 0+v.getD i 0))%B) hi;refine ⟨?_,h.lb.set (Nat.mod_lt _ (by decide)) _,by rw [List.length_set,h.len],fun j hj=>by rw [getD_set_ne (by omega)];exact h.z j (by omega),?_⟩
 ·have h5:=carry i (c+(u.getD i 0+v.getD i 0));have h6:=h.v;rw [z0K];rw [Nat.mul_add,Nat.mul_add] at h5;omega
 ·have:c+(u.getD i 0+v.getD i 0)<2*B:=by omega
  have:=(Nat.div_lt_iff_lt_mul (show 0<B by decide)).2 this;omega
theorem BI.fin {u1 u v:List Nat} {n c R:Nat} (h:BI u1 u v n c) (hu:u1.length=n+1) (hv:v.length=n) (hvb:Lb v) (hR:R<vl v) (e:vl u1+vl v=R+B^n*B):(u.getD n 0+c)%B=0∧vl (u.set n 0)=R:=by
 have hul:u.length=n+1:=by rw [h.len,hu]
 have hlow:=zm9 hul h.lb;have h1:=h.v;rw [z11 (by omega),zan hul,e] at h1;have hVn:=zhj hvb;rw [hv] at hVn;have h2:vl (u.take n)+B^n*(u.getD n 0+c)=R+B^n*B:=by rw [Nat.mul_add];omega
 have h3:u.getD n 0+c=B:=by
  have h4:=congrArg (· / B^n) h2;have hpos:0<B^n:=Nat.pow_pos (by decide);simp only [Nat.add_mul_div_left _ _ hpos,Nat.div_eq_of_lt hlow,Nat.div_eq_of_lt (Nat.lt_trans hR hVn),Nat.zero_add] at h4;exact h4
 have h5:=z5R (u:=u) (n:=n) (y:=0) hul;rw [h3] at h2;exact ⟨by rw [h3];exact Nat.mod_self _,by rw [h5];omega⟩
end Nt
end Go.Proofs.YtgmppconibklcaaGreatDoor

namespace Go.Proofs.YtgmppconibklcaaGreatDoor
namespace Nt
structure HI (a o:List Nat) (D i:Nat):Prop where
 v:vl o=D*vl (a.take i)
 lb:Lb o
 len:o.length=a.length+1
 lo:o.getD i 0<D
 z:∀ j,i<j→o.getD j 0=0
theorem HI.start (a:List Nat) {D:Nat} (hD:0<D):HI a (List.replicate (a.length+1) 0) D 0:=⟨by simp [z3L,vl],Lb.zcI _,by simp,by rw [z3F];exact hD,fun j _=>z3F _ j⟩
theorem HI.low {a o:List Nat} {D E i:Nat} (h:HI a o D i) (hE:D*E=B) (ha:Lb a) (hi:i<a.length):o.getD i 0+a.getD i 0*D%B<B∧a.getD i 0*D%B=D*(a.getD i 0%E)∧a.getD i 0*D / B<D:=by
 have hx:=z2U ha i;have hD:0<D:=by have:=h.lo;omega
 have e1:a.getD i 0*D%B=D*(a.getD i 0%E):=by rw [←hE,Nat.mul_comm,Nat.mul_mod_mul_left]
 have hE0:0<E:=by
  rcases Nat.eq_zero_or_pos E with h0|h0
  ·rw [h0] at hE;simp at hE;exact absurd hE.symm (by decide)
  ·exact h0
 have h1:=Nat.mod_lt (a.getD i 0) hE0;have h2:D*(a.getD i 0%E)+D≤D*E:=by
  have:=Nat.mul_le_mul_left D (show a.getD i 0%E+1≤E by omega)
  rwa [Nat.mul_add,Nat.mul_one] at this
 have h3:=h.lo;refine ⟨by rw [e1];omega,e1,?_⟩;rw [Nat.div_lt_iff_lt_mul (by decide),Nat.mul_comm D B];exact Nat.mul_lt_mul_of_pos_right hx hD
theorem HI.next {a o:List Nat} {D E i:Nat} (h:HI a o D i) (hE:D*E=B) (ha:Lb a) (hi:i<a.length):
  HI a ((o.set i (o.getD i 0+a.getD i 0*D%B)).set (i+1) (a.getD i 0*D / B)) D (i+1):=by
 obtain ⟨h1,h2,h3⟩:=h.low hE ha hi;have hDB:D≤B:=by
  rw [←hE];rcases Nat.eq_zero_or_pos E with h0|h0
  ·rw [h0] at hE;simp at hE;exact absurd hE.symm (by decide)
  ·exact Nat.le_mul_of_pos_right _ h0
 have hl:i+1<o.length:=by rw [h.len];omega
 have s1:=z3W o i (o.getD i 0+a.getD i 0*D%B) (by omega);have s2:=z3W (o.set i (o.getD i 0+a.getD i 0*D%B)) (i+1) (a.getD i 0*D / B) (by rw [List.length_set];exact hl);rw [getD_set_ne (by omega),h.z (i+1) (by omega),Nat.mul_zero,Nat.add_zero] at s2;refine ⟨?_,(h.lb.set h1 _).set (Nat.lt_of_lt_of_le h3 hDB) _,by simp [h.len],?_,fun j hj=>?_⟩
 ·have h5:=carry i (a.getD i 0*D);rw [s2,z0K,Nat.mul_add,←h.v];rw [Nat.mul_add] at s1;have e:D*(B^i*a.getD i 0)=B^i*(a.getD i 0*D):=by rw [Nat.mul_comm,Nat.mul_assoc]
  omega
 ·rw [z2A (by rw [List.length_set];exact hl)];exact h3
 ·rw [getD_set_ne (by omega),getD_set_ne (by omega)];exact h.z j (by omega)
theorem HI.fin {a o:List Nat} {D:Nat} (h:HI a o D a.length):vl o=D*vl a:=by rw [h.v,z11 (Nat.le_refl _)]
def down (D:Nat):List Nat→List Nat
 | []=>[]
 | [_]=>[]
 | a::b::l=>(b*B+a) / D%B::down D (b::l)
theorem z6P (l:List Nat) (k:Nat) (h:k≤l.length):vl l=vl (l.take k)+B^k*vl (l.drop k):=by
 have e:(l.take k).length=k:=by simp;omega
 conv=>lhs;rw [←List.take_append_drop k l,z6q,e]
structure VI (u0 u q:List Nat) (V n k:Nat):Prop where
 v:vl u+B^k*(vl (q.drop k)*V)=vl u0
 top:vl (u.drop k)<V
 ub:Lb u
 qb:Lb q
 ul:u.length=u0.length
theorem VI.window {u0 u q:List Nat} {V n k:Nat} (h:VI u0 u q V n (k+1)) (hV:V<B^n) (hl:k+n+1≤u.length):
  vl ((u.drop k).take (n+1))<V*B∧vl (u.drop (k+n+1))=0∧vl u=vl (u.take k)+B^k*vl ((u.drop k).take (n+1)):=by
 have h1:=h.top;have e1:=z6P (u.drop (k+1)) n (by simp;omega);rw [List.drop_drop,show k+1+n=k+n+1 by omega] at e1;have h0:vl (u.drop (k+n+1))=0:=by
  rcases Nat.eq_zero_or_pos (vl (u.drop (k+n+1))) with h0|h0
  ·exact h0
  ·exfalso;have:=Nat.mul_le_mul_left (B^n) (show 1≤vl (u.drop (k+n+1)) from h0);omega
 have e2:=z6P (u.drop k) (n+1) (by simp;omega);rw [List.drop_drop,show k+(n+1)=k+n+1 by omega,h0,Nat.mul_zero,Nat.add_zero] at e2;have e3:=z6P u k (by omega);refine ⟨?_,h0,by rw [e3,e2]⟩;rw [←e2,z0t (by omega)];simp only [vl];have h2:=z2U h.ub k;have h3:B*(vl (u.drop (k+1))+1)≤B*V:=Nat.mul_le_mul_left _ h1;rw [Nat.mul_add,Nat.mul_one] at h3;rw [Nat.mul_comm V B];omega
theorem VI.next {u0 u q w:List Nat} {V n k:Nat} (h:VI u0 u q V n (k+1)) (hV:V<B^n) (hl:k+n+1≤u.length) (hq:k<q.length) (hw:w.length=n+1) (hwb:Lb w) (hv:vl w=vl ((u.drop k).take (n+1))%V):
  VI u0 (u.take k++w++u.drop (k+n+1)) (q.set k (vl ((u.drop k).take (n+1)) / V)) V n k:=by
 obtain ⟨h1,h2,h3⟩:=h.window hV hl;have hV0:0<V:=by have:=h.top;omega
 have hd:vl ((u.drop k).take (n+1)) / V<B:=by rw [Nat.div_lt_iff_lt_mul hV0,Nat.mul_comm];exact h1
 have ht:(u.take k).length=k:=by simp;omega
 have e1:vl (u.take k++w++u.drop (k+n+1))=vl (u.take k)+B^k*vl w:=by
  rw [List.append_assoc,z6q,ht,z6q,h2];simp
 have e2:(u.take k++w++u.drop (k+n+1)).drop k=w++u.drop (k+n+1):=by
  rw [List.append_assoc,List.drop_left' ht]
 have e3:(q.set k (vl ((u.drop k).take (n+1)) / V)).drop k=vl ((u.drop k).take (n+1)) / V::q.drop (k+1):=by
  rw [z0t (by rw [List.length_set];exact hq),z2A hq,List.drop_set_of_lt (by omega)]
 refine ⟨?_,?_,((h.ub.take k).app hwb).app (h.ub.drop _),h.qb.set hd _,?_⟩
 ·have h4:=h.v;have h5:=Nat.div_add_mod (vl ((u.drop k).take (n+1))) V;rw [e1,e3,hv];simp only [vl];rw [h3] at h4;rw [←h4];obtain ⟨W,hW⟩:∃ W,W=vl ((u.drop k).take (n+1)):=⟨_,rfl⟩;rw [←hW] at h5 ⊢;have h6:B^k*W=B^k*(W%V)+B^k*(W / V*V):=by
   rw [←Nat.mul_add];congr 1;rw [Nat.mul_comm (W / V)];omega
  have h7:B^k*((W / V+B*vl (q.drop (k+1)))*V)=B^k*(W / V*V)+B^(k+1)*(vl (q.drop (k+1))*V):=by
   rw [Nat.add_mul,Nat.mul_add,Nat.pow_succ,Nat.mul_assoc B,Nat.mul_assoc (B^k)]
  rw [h6,h7];omega
 ·rw [e2,z6q,h2,hv];simp only [Nat.mul_zero,Nat.add_zero];exact Nat.mod_lt _ hV0
 ·simp only [List.length_append,ht,hw,List.length_drop];have:=h.ul;omega
theorem VI.fin {u0 u q:List Nat} {V n:Nat} (h:VI u0 u q V n 0):vl q=vl u0 / V∧vl u=vl u0%V:=by
 have h1:=h.v;have h2:=h.top;simp only [List.drop_zero,Nat.pow_zero,Nat.one_mul] at h1 h2;obtain ⟨e1,e2⟩:=zgN h2 (show vl u0=vl q*V+vl u by omega);exact ⟨e1.symm,e2.symm⟩
theorem VI.start {a u0:List Nat} {V D E n m:Nat} (hE:D*E=B) (hu:vl u0=D*vl a) (ha:vl a<B^(m+n)) (hl:u0.length=m+n+1) (ub:Lb u0) (hE2:2≤E) (hn:1≤n) (hV:B^n≤2*V):
  VI u0 u0 (List.replicate (m+1) 0) V n (m+1):=by
 refine ⟨by simp [vl],?_,ub,Lb.zcI _,rfl⟩;have e:=z6P u0 (m+1) (by omega);obtain ⟨j,rfl⟩:∃ j,n=j+1:=⟨n-1,by omega⟩;rcases Nat.lt_or_ge (vl (u0.drop (m+1))) V with hlt|hge
 ·exact hlt
 ·exfalso;have h1:B^(m+1)*V≤vl u0:=by
   have:=Nat.mul_le_mul_left (B^(m+1)) hge;omega
  have h2:2*vl u0<B^(m+1)*B^(j+1):=by
   have h3:2*D≤B:=by rw [←hE,Nat.mul_comm 2];exact Nat.mul_le_mul_left _ hE2
   have h4:2*vl u0≤B*vl a:=by
    rw [hu,←Nat.mul_assoc];exact Nat.mul_le_mul_right _ h3
   have h5:B*vl a<B*B^(m+(j+1)):=Nat.mul_lt_mul_of_pos_left ha (by decide);have h6:B*B^(m+(j+1))=B^(m+1)*B^(j+1):=by
    rw [←Nat.pow_add,Nat.mul_comm,←Nat.pow_succ];congr 1;omega
   omega
  have h7:B^(m+1)*B^(j+1)≤B^(m+1)*(2*V):=Nat.mul_le_mul_left _ hV;have h8:B^(m+1)*(2*V)=2*(B^(m+1)*V):=by rw [←Nat.mul_assoc,Nat.mul_comm (B^(m+1)) 2,Nat.mul_assoc]
  omega
end Nt
end Go.Proofs.YtgmppconibklcaaGreatDoor

