/- Part of the proof of TspBack. No condition: lemmas alone. -/
import Derived.Test.YtgmppconibklcaaGreatDoorM10
import Derived.Test.YtgmppconibklcaaGreatDoorM9
import Derived.Lib.Bytealg
set_option linter.unusedVariables false
set_option linter.unusedSimpArgs false
namespace Go.Proofs.YtgmppconibklcaaGreatDoor
namespace Nt
theorem z3w (n j:Nat):(List.replicate n 0).getD j 0=0:=by
 rw [List.getD_eq_getElem?_getD,List.getElem?_replicate];split<;>rfl
theorem z2p {l:List Nat} {i y:Nat} (h:i<l.length):(l.set i y).getD i 0=y:=by
 rw [List.getD_eq_getElem?_getD,List.getElem?_set_self h];rfl
structure SI (a b o:List Nat) (i w:Nat):Prop where
 v:vl (a.take i)+B^i*w=vl o+vl (b.take i)
 lb:Lb o
 z:∀ j,i≤j→o.getD j 0=0
 w:w≤1
theorem SI.start (a b:List Nat) (n:Nat):SI a b (List.replicate n 0) 0 0:=⟨by simp [z3z,vl],Lb.zc8 n,fun j _=>z3w n j,by omega⟩
theorem SI.next {a b o:List Nat} {i w y w':Nat} (h:SI a b o i w) (hi:i<o.length) (hy:y<B) (hw:w'≤1) (e:y+w+b.getD i 0=a.getD i 0+B*w'):SI a b (o.set i y) (i+1) w':=by
 have h4:=z3W o i y hi;rw [h.z i (Nat.le_refl _),Nat.mul_zero,Nat.add_zero] at h4;refine ⟨?_,h.lb.set hy _,fun j hj=>by rw [getD_set_ne (by omega)];exact h.z j (by omega),hw⟩;have h6:=h.v;have h5:=congrArg (B^i*·) e;simp only [Nat.mul_add] at h5;rw [z0H,z0H,h4,Nat.pow_succ,Nat.mul_assoc];omega
theorem SI.fin {a b o:List Nat} {n w:Nat} (h:SI a b o n w) (hn:o.length=n) (ha:a.length≤n) (hb:Lb b) (hle:vl b≤vl a) (hlt:vl a<B^n):w=0∧vl o=vl a-vl b:=by
 have h6:=h.v;have h7:=zgd h.lb;rw [hn] at h7;have e:vl (b.take n)=vl b:=by
  have h1:=(z7b hb n).2 (by omega);have h2:=zd2 b
  conv=>rhs;rw [←List.take_append_drop n b,z6g]
  have h3:b.drop n=List.replicate (b.length-n) 0:=by
   have:b.drop n=(b.drop (sz b)).drop (n-sz b):=by rw [List.drop_drop];congr 1;omega
   rw [this,h2,List.drop_replicate];congr 1;omega
  rw [h3,z3z];simp
 rw [z14 ha,e] at h6;have h8:=h.w;have hw0:w=0:=by
  rcases (show w=0∨w=1 by omega) with hw|hw
  ·exact hw
  ·rw [hw,Nat.mul_one] at h6;omega
 rw [hw0,Nat.mul_zero] at h6;exact ⟨hw0,by omega⟩
structure QI (a q:List Nat) (b i r:Nat):Prop where
 v:vl (a.drop i)=vl (q.drop i)*b+r
 lb:Lb q
 len:q.length=a.length
 r:r<b
theorem QI.start {a:List Nat} {b:Nat} (hb:0<b):QI a (List.replicate a.length 0) b a.length 0:=⟨by simp [vl],Lb.zc8 _,by simp,hb⟩
theorem z29 {l:List Nat} {i:Nat} (h:i<l.length):l.drop i=l.getD i 0::l.drop (i+1):=by
 rw [List.drop_eq_getElem_cons h,List.getD_eq_getElem?_getD,List.getElem?_eq_getElem h];rfl
theorem QI.next {a q:List Nat} {b i r:Nat} (h:QI a q b (i+1) r) (ha:Lb a) (hi:i<a.length):QI a (q.set i ((r*B+a.getD i 0) / b)) b i ((r*B+a.getD i 0)%b):=by
 have hb:0<b:=by have:=h.r;omega
 have hlt:(r*B+a.getD i 0) / b<B:=by
  rw [Nat.div_lt_iff_lt_mul hb];have h1:=z3b ha i;have h2:=h.r;have h3:(r+1)*B≤b*B:=Nat.mul_le_mul_right _ h2;rw [Nat.add_mul,Nat.one_mul] at h3;rw [Nat.mul_comm B b];omega
 refine ⟨?_,h.lb.set hlt _,by rw [List.length_set,h.len],Nat.mod_lt _ hb⟩;have hq:i<q.length:=by rw [h.len];exact hi
 have e1:(q.set i ((r*B+a.getD i 0) / b)).drop i=(r*B+a.getD i 0) / b::q.drop (i+1):=by
  rw [z29 (by rw [List.length_set];exact hq),z2p hq,List.drop_set_of_lt (by omega)]
 rw [e1,z29 hi];simp only [vl];rw [h.v];have h1:=Nat.div_add_mod (r*B+a.getD i 0) b;rw [Nat.add_mul,Nat.mul_add,←Nat.mul_assoc];rw [Nat.mul_comm b] at h1;rw [Nat.mul_comm r B] at *;omega
theorem QI.fin {a q:List Nat} {b r:Nat} (h:QI a q b 0 r):vl q=vl a / b∧r=vl a%b:=by
 have h1:=h.v;simp only [List.drop_zero] at h1;have hb:0<b:=by have:=h.r;omega
 rw [h1];constructor
 ·rw [Nat.mul_comm,Nat.mul_add_div hb,Nat.div_eq_of_lt h.r,Nat.add_zero]
 ·rw [Nat.mul_comm,Nat.mul_add_mod,Nat.mod_eq_of_lt h.r]
structure DI (u0 u v:List Nat) (g i w c:Nat):Prop where
 v:(vl u:Int)-(B:Int)^i*((w:Int)+c)=vl u0-g*vl (v.take i)
 lb:Lb u
 len:u.length=u0.length
 z:∀ j,i≤j→u.getD j 0=u0.getD j 0
 w:w≤1
 c:c<B
theorem DI.start {u0:List Nat} (v:List Nat) (g:Nat) (h:Lb u0):DI u0 u0 v g 0 0 0:=⟨by simp [vl],h,rfl,fun _ _=>rfl,by omega,by decide⟩
theorem DI.bound {c g x:Nat} (hc:c<B) (hg:g≤B) (hx:x<B):c+g*x<B*B:=by
 have h1:g*x≤B*(B-1):=Nat.mul_le_mul hg (by omega);unfold B at *;omega
theorem DI.next {u0 u v:List Nat} {g i w c y w':Nat} (h:DI u0 u v g i w c) (hv:Lb v) (hg:g≤B) (hi:i<u.length) (hy:y<B) (hw:w'≤1) (e:y+w+(c+g*v.getD i 0)%B=u.getD i 0+B*w'):
  DI u0 (u.set i y) v g (i+1) w' ((c+g*v.getD i 0) / B):=by
 have h4:=z3W u i y hi;have hbd:=DI.bound h.c hg (z3b hv i);refine ⟨?_,h.lb.set hy _,by rw [List.length_set,h.len],fun j hj=>by rw [getD_set_ne (by omega)];exact h.z j (by omega),hw,(Nat.div_lt_iff_lt_mul (by decide)).2 hbd⟩;have h6:=h.v;have h5:=carry i (c+g*v.getD i 0);obtain ⟨t,ht⟩:∃ t,t=c+g*v.getD i 0:=⟨_,rfl⟩;have h7:=congrArg (B^i*·) e;simp only [Nat.mul_add] at h7;rw [z0H];rw [←ht] at h5 h7 ⊢;have h8:B^i*t=B^i*c+g*(B^i*v.getD i 0):=by
  rw [ht,Nat.mul_add];congr 1;rw [←Nat.mul_assoc,←Nat.mul_assoc,Nat.mul_comm g]
 have h9:B^i*(B*w')=B^(i+1)*w':=by rw [Nat.pow_succ,Nat.mul_assoc]
 rw [h9] at h7;have h10:((vl u:Nat):Int)-((B^i*w:Nat):Int)-((B^i*c:Nat):Int)=(vl u0:Int)-((g*vl (v.take i):Nat):Int):=by
  rw [Int.mul_add] at h6;simp only [Int.natCast_mul,Int.natCast_pow];omega
 have h11:(g*(vl (v.take i)+B^i*v.getD i 0):Nat)=g*vl (v.take i)+g*(B^i*v.getD i 0):=Nat.mul_add _ _ _;have goal:((vl (u.set i y):Nat):Int)-((B^(i+1)*w':Nat):Int)-((B^(i+1)*(t / B):Nat):Int)=(vl u0:Int)-((g*(vl (v.take i)+B^i*v.getD i 0):Nat):Int):=by
  rw [h11];omega
 rw [Int.mul_add];simp only [Int.natCast_mul,Int.natCast_pow,Int.natCast_add] at goal ⊢;omega
theorem z9N {u:List Nat} {n:Nat} (h:u.length=n+1):vl u=vl (u.take n)+B^n*u.getD n 0:=by
 rw [←z0H,z14 (by omega)]
theorem zku {u:List Nat} {n:Nat} (h:u.length=n+1) (hb:Lb u):vl (u.take n)<B^n:=by
 have h1:=zgd (hb.take n);have h2:(u.take n).length=n:=by simp;omega
 rwa [h2] at h1
theorem z5L {u:List Nat} {n y:Nat} (h:u.length=n+1):vl (u.set n y)=vl (u.take n)+B^n*y:=by
 have h1:=z3W u n y (by omega);rw [z9N h] at h1;omega
theorem zfM {U V q r:Nat} (hr:r<V) (h:U=q*V+r):U / V=q∧U%V=r:=by
 have hV:0<V:=by omega
 subst h;rw [Nat.mul_comm];exact ⟨by rw [Nat.mul_add_div hV,Nat.div_eq_of_lt hr,Nat.add_zero],by rw [Nat.mul_add_mod,Nat.mod_eq_of_lt hr]⟩
theorem DI.yes {u0 u v:List Nat} {g n w c:Nat} (h:DI u0 u v g n w c) (hu:u0.length=n+1) (hv:v.length=n) (hV:0<vl v) (hq:vl u0 / vl v≤g) (hd:w+c≤u.getD n 0):
  g=vl u0 / vl v∧vl (u.set n (u.getD n 0-w-c))=vl u0%vl v:=by
 have h1:=h.v;have hul:u.length=n+1:=by rw [h.len,hu]
 rw [z14 (by omega),z9N hul] at h1;have h2:=z5L (u:=u) (n:=n) (y:=u.getD n 0-w-c) hul;have e1:B^n*u.getD n 0=B^n*(u.getD n 0-w-c)+B^n*(w+c):=by
  rw [←Nat.mul_add];congr 1;omega
 have h3:((vl (u.take n)+B^n*(u.getD n 0-w-c):Nat):Int)=(vl u0:Int)-((g*vl v:Nat):Int):=by
  have h4:((B:Int)^n*((w:Int)+c))=((B^n*(w+c):Nat):Int):=by simp only [Int.natCast_mul,Int.natCast_pow,Int.natCast_add]
  rw [h4,e1] at h1;simp only [Int.natCast_mul g] at h1 ⊢;omega
 have h5:g*vl v≤vl u0:=by omega
 have h6:=(Nat.le_div_iff_mul_le hV).2 h5;have h7:=Nat.le_antisymm h6 hq;refine ⟨h7,?_⟩;rw [h2];have h8:=Nat.div_add_mod (vl u0) (vl v);rw [←h7,Nat.mul_comm] at h8;omega
theorem DI.no {u0 u v:List Nat} {g n w c:Nat} (h:DI u0 u v g n w c) (hu:u0.length=n+1) (hv:v.length=n) (hV:0<vl v) (hq:vl u0 / vl v≤g) (hq1:g≤vl u0 / vl v+1) (hd:u.getD n 0<w+c):
  1≤g∧g-1=vl u0 / vl v∧u.getD n 0+B-w-c<B∧vl (u.set n (u.getD n 0+B-w-c))+vl v=vl u0%vl v+B^n*B:=by
 have h1:=h.v;have hul:u.length=n+1:=by rw [h.len,hu]
 have hlow:=zku hul h.lb;have hw:=h.w;have hc:=h.c;rw [z14 (by omega),z9N hul] at h1;have h2:=z5L (u:=u) (n:=n) (y:=u.getD n 0+B-w-c) hul;have e1:B^n*u.getD n 0+B^n*B=B^n*(u.getD n 0+B-w-c)+B^n*(w+c):=by
  rw [←Nat.mul_add,←Nat.mul_add];congr 1;omega
 have e2:B^n*u.getD n 0+B^n≤B^n*(w+c):=by
  have:=Nat.mul_le_mul_left (B^n) (show u.getD n 0+1≤w+c by omega)
  rwa [Nat.mul_add,Nat.mul_one] at this
 have h4:((B:Int)^n*((w:Int)+c))=((B^n*(w+c):Nat):Int):=by simp only [Int.natCast_mul,Int.natCast_pow,Int.natCast_add]
 rw [h4] at h1;have h1':((vl (u.take n)+B^n*u.getD n 0:Nat):Int)-((B^n*(w+c):Nat):Int)=(vl u0:Int)-((g*vl v:Nat):Int):=by
  simp only [Int.natCast_mul g] at h1 ⊢;exact h1
 have h5:vl u0<g*vl v:=by omega
 have h6:vl u0 / vl v<g:=(Nat.div_lt_iff_lt_mul hV).2 h5;have h7:g=vl u0 / vl v+1:=Nat.le_antisymm hq1 h6;have h8:=Nat.div_add_mod (vl u0) (vl v);have h9:g*vl v=vl v*(vl u0 / vl v)+vl v:=by rw [h7,Nat.add_mul,Nat.one_mul,Nat.mul_comm]
 refine ⟨Nat.lt_of_le_of_lt (Nat.zero_le _) h6,by rw [h7];rfl,by omega,?_⟩;rw [h2];omega
structure BI (u1 u v:List Nat) (i c:Nat):Prop where
 v:vl u+B^i*c=vl u1+vl (v.take i)
 lb:Lb u
 len:u.length=u1.length
 z:∀ j,i≤j→u.getD j 0=u1.getD j 0
 c:c≤1
theorem BI.start {u1:List Nat} (v:List Nat) (h:Lb u1):BI u1 u1 v 0 0:=⟨by simp [vl],h,rfl,fun _ _=>rfl,by omega⟩
theorem BI.next {u1 u v:List Nat} {i c:Nat} (h:BI u1 u v i c) (hv:Lb v) (hi:i<u.length):BI u1 (u.set i ((c+(u.getD i 0+v.getD i 0))%B)) v (i+1) ((c+(u.getD i 0+v.getD i 0)) / B):=by
 have h1:=z3b h.lb i;have h2:=z3b hv i;have h3:=h.c;have h4:=z3W u i ((c+(u.getD i 0+v.getD i 0))%B) hi;refine ⟨?_,h.lb.set (Nat.mod_lt _ (by decide)) _,by rw [List.length_set,h.len],fun j hj=>by rw [getD_set_ne (by omega)];exact h.z j (by omega),?_⟩
 ·have h5:=carry i (c+(u.getD i 0+v.getD i 0));have h6:=h.v;rw [z0H];rw [Nat.mul_add,Nat.mul_add] at h5;omega
 ·have:c+(u.getD i 0+v.getD i 0)<2*B:=by omega
  have:=(Nat.div_lt_iff_lt_mul (show 0<B by decide)).2 this;omega
theorem BI.fin {u1 u v:List Nat} {n c R:Nat} (h:BI u1 u v n c) (hu:u1.length=n+1) (hv:v.length=n) (hvb:Lb v) (hR:R<vl v) (e:vl u1+vl v=R+B^n*B):(u.getD n 0+c)%B=0∧vl (u.set n 0)=R:=by
 have hul:u.length=n+1:=by rw [h.len,hu]
 have hlow:=zku hul h.lb;have h1:=h.v;rw [z14 (by omega),z9N hul,e] at h1;have hVn:=zgd hvb;rw [hv] at hVn;have h2:vl (u.take n)+B^n*(u.getD n 0+c)=R+B^n*B:=by rw [Nat.mul_add];omega
 have h3:u.getD n 0+c=B:=by
  have h4:=congrArg (· / B^n) h2;have hpos:0<B^n:=Nat.pow_pos (by decide);simp only [Nat.add_mul_div_left _ _ hpos,Nat.div_eq_of_lt hlow,Nat.div_eq_of_lt (Nat.lt_trans hR hVn),Nat.zero_add] at h4;exact h4
 have h5:=z5L (u:=u) (n:=n) (y:=0) hul;rw [h3] at h2;exact ⟨by rw [h3];exact Nat.mod_self _,by rw [h5];omega⟩
end Nt
end Go.Proofs.YtgmppconibklcaaGreatDoor

namespace Go.Proofs.YtgmppconibklcaaGreatDoor
namespace Nt
structure HI (a o:List Nat) (D i:Nat):Prop where
 v:vl o=D*vl (a.take i)
 lb:Lb o
 len:o.length=a.length+1
 lo:o.getD i 0<D
 z:∀ j,i<j→o.getD j 0=0
theorem HI.start (a:List Nat) {D:Nat} (hD:0<D):HI a (List.replicate (a.length+1) 0) D 0:=⟨by simp [z3z,vl],Lb.zc8 _,by simp,by rw [z3w];exact hD,fun j _=>z3w _ j⟩
theorem HI.low {a o:List Nat} {D E i:Nat} (h:HI a o D i) (hE:D*E=B) (ha:Lb a) (hi:i<a.length):o.getD i 0+a.getD i 0*D%B<B∧a.getD i 0*D%B=D*(a.getD i 0%E)∧a.getD i 0*D / B<D:=by
 have hx:=z3b ha i;have hD:0<D:=by have:=h.lo;omega
 have e1:a.getD i 0*D%B=D*(a.getD i 0%E):=by rw [←hE,Nat.mul_comm,Nat.mul_mod_mul_left]
 have hE0:0<E:=by
  rcases Nat.eq_zero_or_pos E with h0|h0
  ·rw [h0] at hE;simp at hE;exact absurd hE.symm (by decide)
  ·exact h0
 have h1:=Nat.mod_lt (a.getD i 0) hE0;have h2:D*(a.getD i 0%E)+D≤D*E:=by
  have:=Nat.mul_le_mul_left D (show a.getD i 0%E+1≤E by omega)
  rwa [Nat.mul_add,Nat.mul_one] at this
 have h3:=h.lo;refine ⟨by rw [e1];omega,e1,?_⟩;rw [Nat.div_lt_iff_lt_mul (by decide),Nat.mul_comm D B];exact Nat.mul_lt_mul_of_pos_right hx hD
theorem HI.next {a o:List Nat} {D E i:Nat} (h:HI a o D i) (hE:D*E=B) (ha:Lb a) (hi:i<a.length):
  HI a ((o.set i (o.getD i 0+a.getD i 0*D%B)).set (i+1) (a.getD i 0*D / B)) D (i+1):=by
 obtain ⟨h1,h2,h3⟩:=h.low hE ha hi;have hDB:D≤B:=by
  rw [←hE];rcases Nat.eq_zero_or_pos E with h0|h0
  ·rw [h0] at hE;simp at hE;exact absurd hE.symm (by decide)
  ·exact Nat.le_mul_of_pos_right _ h0
 have hl:i+1<o.length:=by rw [h.len];omega
 have s1:=z3W o i (o.getD i 0+a.getD i 0*D%B) (by omega);have s2:=z3W (o.set i (o.getD i 0+a.getD i 0*D%B)) (i+1) (a.getD i 0*D / B) (by rw [List.length_set];exact hl);rw [getD_set_ne (by omega),h.z (i+1) (by omega),Nat.mul_zero,Nat.add_zero] at s2;refine ⟨?_,(h.lb.set h1 _).set (Nat.lt_of_lt_of_le h3 hDB) _,by simp [h.len],?_,fun j hj=>?_⟩
 ·have h5:=carry i (a.getD i 0*D);rw [s2,z0H,Nat.mul_add,←h.v];rw [Nat.mul_add] at s1;have e:D*(B^i*a.getD i 0)=B^i*(a.getD i 0*D):=by rw [Nat.mul_comm,Nat.mul_assoc]
  omega
 ·rw [z2p (by rw [List.length_set];exact hl)];exact h3
 ·rw [getD_set_ne (by omega),getD_set_ne (by omega)];exact h.z j (by omega)
theorem HI.fin {a o:List Nat} {D:Nat} (h:HI a o D a.length):vl o=D*vl a:=by rw [h.v,z14 (Nat.le_refl _)]
def down (D:Nat):List Nat→List Nat
 | []=>[]
 | [_]=>[]
 | a::b::l=>(b*B+a) / D%B::down D (b::l)
theorem z6I (l:List Nat) (k:Nat) (h:k≤l.length):vl l=vl (l.take k)+B^k*vl (l.drop k):=by
 have e:(l.take k).length=k:=by simp;omega
 conv=>lhs;rw [←List.take_append_drop k l,z6g,e]
structure VI (u0 u q:List Nat) (V n k:Nat):Prop where
 v:vl u+B^k*(vl (q.drop k)*V)=vl u0
 top:vl (u.drop k)<V
 ub:Lb u
 qb:Lb q
 ul:u.length=u0.length
theorem VI.window {u0 u q:List Nat} {V n k:Nat} (h:VI u0 u q V n (k+1)) (hV:V<B^n) (hl:k+n+1≤u.length):
  vl ((u.drop k).take (n+1))<V*B∧vl (u.drop (k+n+1))=0∧vl u=vl (u.take k)+B^k*vl ((u.drop k).take (n+1)):=by
 have h1:=h.top;have e1:=z6I (u.drop (k+1)) n (by simp;omega);rw [List.drop_drop,show k+1+n=k+n+1 by omega] at e1;have h0:vl (u.drop (k+n+1))=0:=by
  rcases Nat.eq_zero_or_pos (vl (u.drop (k+n+1))) with h0|h0
  ·exact h0
  ·exfalso;have:=Nat.mul_le_mul_left (B^n) (show 1≤vl (u.drop (k+n+1)) from h0);omega
 have e2:=z6I (u.drop k) (n+1) (by simp;omega);rw [List.drop_drop,show k+(n+1)=k+n+1 by omega,h0,Nat.mul_zero,Nat.add_zero] at e2;have e3:=z6I u k (by omega);refine ⟨?_,h0,by rw [e3,e2]⟩;rw [←e2,z29 (by omega)];simp only [vl];have h2:=z3b h.ub k;have h3:B*(vl (u.drop (k+1))+1)≤B*V:=Nat.mul_le_mul_left _ h1;rw [Nat.mul_add,Nat.mul_one] at h3;rw [Nat.mul_comm V B];omega
theorem VI.next {u0 u q w:List Nat} {V n k:Nat} (h:VI u0 u q V n (k+1)) (hV:V<B^n) (hl:k+n+1≤u.length) (hq:k<q.length) (hw:w.length=n+1) (hwb:Lb w) (hv:vl w=vl ((u.drop k).take (n+1))%V):
  VI u0 (u.take k++w++u.drop (k+n+1)) (q.set k (vl ((u.drop k).take (n+1)) / V)) V n k:=by
 obtain ⟨h1,h2,h3⟩:=h.window hV hl;have hV0:0<V:=by have:=h.top;omega
 have hd:vl ((u.drop k).take (n+1)) / V<B:=by rw [Nat.div_lt_iff_lt_mul hV0,Nat.mul_comm];exact h1
 have ht:(u.take k).length=k:=by simp;omega
 have e1:vl (u.take k++w++u.drop (k+n+1))=vl (u.take k)+B^k*vl w:=by
  rw [List.append_assoc,z6g,ht,z6g,h2];simp
 have e2:(u.take k++w++u.drop (k+n+1)).drop k=w++u.drop (k+n+1):=by
  rw [List.append_assoc,List.drop_left' ht]
 have e3:(q.set k (vl ((u.drop k).take (n+1)) / V)).drop k=vl ((u.drop k).take (n+1)) / V::q.drop (k+1):=by
  rw [z29 (by rw [List.length_set];exact hq),z2p hq,List.drop_set_of_lt (by omega)]
 refine ⟨?_,?_,((h.ub.take k).app hwb).app (h.ub.drop _),h.qb.set hd _,?_⟩
 ·have h4:=h.v;have h5:=Nat.div_add_mod (vl ((u.drop k).take (n+1))) V;rw [e1,e3,hv];simp only [vl];rw [h3] at h4;rw [←h4];obtain ⟨W,hW⟩:∃ W,W=vl ((u.drop k).take (n+1)):=⟨_,rfl⟩;rw [←hW] at h5 ⊢;have h6:B^k*W=B^k*(W%V)+B^k*(W / V*V):=by
   rw [←Nat.mul_add];congr 1;rw [Nat.mul_comm (W / V)];omega
  have h7:B^k*((W / V+B*vl (q.drop (k+1)))*V)=B^k*(W / V*V)+B^(k+1)*(vl (q.drop (k+1))*V):=by
   rw [Nat.add_mul,Nat.mul_add,Nat.pow_succ,Nat.mul_assoc B,Nat.mul_assoc (B^k)]
  rw [h6,h7];omega
 ·rw [e2,z6g,h2,hv];simp only [Nat.mul_zero,Nat.add_zero];exact Nat.mod_lt _ hV0
 ·simp only [List.length_append,ht,hw,List.length_drop];have:=h.ul;omega
theorem VI.fin {u0 u q:List Nat} {V n:Nat} (h:VI u0 u q V n 0):vl q=vl u0 / V∧vl u=vl u0%V:=by
 have h1:=h.v;have h2:=h.top;simp only [List.drop_zero,Nat.pow_zero,Nat.one_mul] at h1 h2;obtain ⟨e1,e2⟩:=zfM h2 (show vl u0=vl q*V+vl u by omega);exact ⟨e1.symm,e2.symm⟩
theorem VI.start {a u0:List Nat} {V D E n m:Nat} (hE:D*E=B) (hu:vl u0=D*vl a) (ha:vl a<B^(m+n)) (hl:u0.length=m+n+1) (ub:Lb u0) (hE2:2≤E) (hn:1≤n) (hV:B^n≤2*V):
  VI u0 u0 (List.replicate (m+1) 0) V n (m+1):=by
 refine ⟨by simp [vl],?_,ub,Lb.zc8 _,rfl⟩;have e:=z6I u0 (m+1) (by omega);obtain ⟨j,rfl⟩:∃ j,n=j+1:=⟨n-1,by omega⟩;rcases Nat.lt_or_ge (vl (u0.drop (m+1))) V with hlt|hge
 ·exact hlt
 ·exfalso;have h1:B^(m+1)*V≤vl u0:=by
   have:=Nat.mul_le_mul_left (B^(m+1)) hge;omega
  have h2:2*vl u0<B^(m+1)*B^(j+1):=by
   have h3:2*D≤B:=by rw [←hE,Nat.mul_comm 2];exact Nat.mul_le_mul_left _ hE2
   have h4:2*vl u0≤B*vl a:=by
    rw [hu,←Nat.mul_assoc];exact Nat.mul_le_mul_right _ h3
   have h5:B*vl a<B*B^(m+(j+1)):=Nat.mul_lt_mul_of_pos_left ha (by decide);have h6:B*B^(m+(j+1))=B^(m+1)*B^(j+1):=by
    rw [←Nat.pow_add,Nat.mul_comm,←Nat.pow_succ];congr 1;omega
   omega
  have h7:B^(m+1)*B^(j+1)≤B^(m+1)*(2*V):=Nat.mul_le_mul_left _ hV;have h8:B^(m+1)*(2*V)=2*(B^(m+1)*V):=by rw [←Nat.mul_assoc,Nat.mul_comm (B^(m+1)) 2,Nat.mul_assoc]
  omega
end Nt
end Go.Proofs.YtgmppconibklcaaGreatDoor

namespace Go.Proofs.YtgmppconibklcaaGreatDoor
namespace Nt
theorem zcO:∀ (l:List Nat) (k:Nat),Lb l→vl l / B^k%B=l.getD k 0
 | [],k,_=>by simp [vl]
 | a::l,0,h=>by
  simp only [vl,Nat.pow_zero,Nat.div_one,List.getD_cons_zero];rw [Nat.add_mul_mod_self_left,Nat.mod_eq_of_lt h.head]
 | a::l,k+1,h=>by
  have ih:=zcO l k h.tail;have h1:(a+B*vl l) / B=vl l:=by
   rw [Nat.add_mul_div_left _ _ (by decide),Nat.div_eq_of_lt h.head,Nat.zero_add]
  simp only [vl,List.getD_cons_succ];rw [Nat.pow_succ,Nat.mul_comm (B^k) B,←Nat.div_div_eq_div_mul,h1];exact ih
def bl (n:Nat):Nat:=if n=0 then 0 else n.log2+1
theorem zi9 (n:Nat):n<2^bl n:=by
 unfold bl;split
 ·rename_i h;rw [h];decide
 ·exact Nat.lt_log2_self
theorem zia {n k:Nat} (h:n<2^k):bl n≤k:=by
 unfold bl;split
 ·omega
 ·rename_i h0;have:=(Nat.log2_lt h0).2 h;omega
theorem bl_ge {n k:Nat} (h:2^k≤n):k+1≤bl n:=by
 rcases Nat.lt_or_ge k (bl n) with h1|h1
 ·exact h1
 ·exfalso;have h2:=zi9 n;have h3:(2:Nat)^bl n≤2^k:=Nat.pow_le_pow_right (by decide) h1;omega
theorem zc2 {n k:Nat} (h0:2^k≤n) (h1:n<2^(k+1)):bl n=k+1:=by
 have:=zia h1;have:=bl_ge h0;omega
theorem zk1 {l:List Nat} (h:Lb l) (h0:0<sz l):bl (vl l)=32*(sz l-1)+bl (l.getD (sz l-1) 0):=by
 have hl:=zcT l h0;have hz:=zaH l;obtain ⟨k,hk⟩:∃ k,sz l=k+1:=⟨sz l-1,by omega⟩;rw [hk] at hl ⊢;simp only [Nat.add_sub_cancel] at hl ⊢;obtain ⟨t,ht⟩:∃ t,t=l.getD k 0:=⟨_,rfl⟩;rw [←ht] at hl ⊢;have hv:vl l=vl (l.take k)+B^k*t:=by
  have h1:=z5K l;unfold trim at h1;rw [hk,z0H,←ht] at h1;exact h1.symm
 have hlow:vl (l.take k)<B^k:=by
  have h1:=zgd (h.take k);have h2:(l.take k).length=k:=by simp;omega
  rwa [h2] at h1
 have e:B^k=2^(32*k):=by rw [show B=2^32 by decide,←Nat.pow_mul]
 have h2:bl t=t.log2+1:=by unfold bl;rw [if_neg hl]
 have h3:2^t.log2≤t:=Nat.log2_self_le hl;have h4:t<2^(t.log2+1):=Nat.lt_log2_self;rw [h2,show 32*k+(t.log2+1)=32*k+t.log2+1 by omega];refine zc2 ?_ ?_
 ·rw [hv,Nat.pow_add,←e];have:=Nat.mul_le_mul_left (B^k) h3;omega
 ·rw [hv,show 32*k+t.log2+1=32*k+(t.log2+1) by omega,Nat.pow_add,←e];have:=Nat.mul_le_mul_left (B^k) (show t+1≤2^(t.log2+1) from h4);rw [Nat.mul_add,Nat.mul_one] at this;omega
theorem z2Q (a n e:Nat):a^e%n*(a^e%n)%n=a^(2*e)%n:=by
 rw [←Nat.mul_mod,←Nat.pow_add];congr 2;omega
theorem pow_mul (a n e:Nat):a^e%n*(a%n)%n=a^(e+1)%n:=by
 rw [←Nat.mul_mod,←Nat.pow_succ]
def pm (a n:Nat):Nat→Nat→Nat
 | 0,_=>1%n
 | f+1,e=>if e=0 then 1%n else (if e%2=1 then pm a n f (e / 2)*pm a n f (e / 2)%n*(a%n)%n else pm a n f (e / 2)*pm a n f (e / 2)%n)
def be:List UInt8→Nat
 | []=>0
 | c::l=>c.toNat*256^l.length+be l
theorem zdf:∀ l:List UInt8,be l<256^l.length
 | []=>by simp [be]
 | c::l=>by
  have h1:=zdf l;have h2:=c.toNat_lt;have h3:(c.toNat+1)*256^l.length≤256*256^l.length:=Nat.mul_le_mul_right _ (by omega);rw [Nat.add_mul,Nat.one_mul] at h3;simp only [be,List.length_cons,Nat.pow_succ];rw [Nat.mul_comm (256^l.length) 256];omega
def beN:Nat→Nat→List UInt8
 | 0,_=>[]
 | k+1,n=>beN k (n / 256)++[UInt8.ofNat (n%256)]
theorem z0E:∀ k n,(beN k n).length=k
 | 0,_=>rfl
 | k+1,n=>by simp [beN,z0E k]
theorem zic (l:List UInt8) (c:UInt8):be (l++[c])=be l*256+c.toNat:=by
 induction l with
 | nil=>simp [be]
 | cons a l ih=>
  simp only [List.cons_append,be,ih,List.length_append,List.length_cons,List.length_nil,Nat.zero_add,Nat.pow_succ,Nat.add_mul];rw [Nat.mul_assoc];omega
theorem zid:∀ (k n:Nat),n<256^k→be (beN k n)=n
 | 0,n,h=>by
  have:n=0:=by simpa using h
  subst this;rfl
 | k+1,n,h=>by
  have e:(UInt8.ofNat (n%256)).toNat=n%256:=by rw [UInt8.toNat_ofNat'];omega
  unfold beN;rw [zic,zid k (n / 256) (by rw [Nat.pow_succ] at h;omega),e];omega
theorem z9m:∀ (k n i:Nat),i<k→((beN k n).getD (k-1-i) 0).toNat=n / 256^i%256
 | 0,n,i,h=>by omega
 | k+1,n,0,_=>by
  have e:(UInt8.ofNat (n%256)).toNat=n%256:=by rw [UInt8.toNat_ofNat'];omega
  unfold beN;rw [show k+1-1-0=k by omega,List.getD_eq_getElem?_getD,List.getElem?_append_right (by rw [z0E];omega),z0E,Nat.sub_self];simp [e]
 | k+1,n,i+1,h=>by
  unfold beN;rw [show k+1-1-(i+1)=k-1-i by omega,List.getD_eq_getElem?_getD,List.getElem?_append_left (by rw [z0E];omega),←List.getD_eq_getElem?_getD,z9m k (n / 256) i (by omega),Nat.div_div_eq_div_mul,Nat.pow_succ,Nat.mul_comm 256]
theorem zjh (x r:Nat) (h:r<4):x%B / 2^(8*r)%256=x / 2^(8*r)%256:=by
 have e:B=2^(8*r)*2^(32-8*r):=by rw [←Nat.pow_add,show 8*r+(32-8*r)=32 by omega];decide
 have h2:(256:Nat) ∣ 2^(32-8*r):=by
  rw [show 32-8*r=8+(24-8*r) by omega,Nat.pow_add];exact Nat.dvd_mul_right _ _
 rw [e,Nat.mod_mul_right_div_self,Nat.mod_mod_of_dvd _ h2]
theorem byte_at {l:List Nat} (h:Lb l) (i:Nat):l.getD (i / 4) 0 / 2^(8*(i%4))%256=vl l / 256^i%256:=by
 rw [←zcO l (i / 4) h,zjh _ _ (Nat.mod_lt _ (by decide)),Nat.div_div_eq_div_mul]
 congr 2
 have e:B=2^32:=by decide
 rw [e,←Nat.pow_mul,←Nat.pow_add,show (256:Nat)=2^8 by decide,←Nat.pow_mul]
 congr 1;omega
structure RI (b:List UInt8) (o:List Nat) (i:Nat):Prop where
 v:vl o=be (b.drop (b.length-i))
 lb:Lb o
 lo:o.getD (i / 4) 0<2^(8*(i%4))
 z:∀ j,i / 4<j→o.getD j 0=0
theorem RI.start (b:List UInt8) (n:Nat):RI b (List.replicate n 0) 0:=
 ⟨by rw [z3z,Nat.sub_zero,List.drop_length];rfl,Lb.zc8 n,by rw [z3w];decide,fun j _=>z3w n j⟩
theorem RI.next {b:List UInt8} {o:List Nat} {i:Nat} (h:RI b o i) (hi:i<b.length) (hl:i / 4<o.length):
  o.getD (i / 4) 0+(b.getD (b.length-1-i) 0).toNat*2^(8*(i%4))<B∧RI b (o.set (i / 4) (o.getD (i / 4) 0+(b.getD (b.length-1-i) 0).toNat*2^(8*(i%4)))) (i+1):=by
 obtain ⟨c,hc⟩:∃ c:UInt8,c=b.getD (b.length-1-i) 0:=⟨_,rfl⟩;rw [←hc];have h8:=c.toNat_lt;have h1:=h.lo;have hr:=Nat.mod_lt i (show 0<4 by decide);have h2:(c.toNat+1)*2^(8*(i%4))≤2^8*2^(8*(i%4)):=Nat.mul_le_mul_right _ (by omega);rw [Nat.add_mul,Nat.one_mul,←Nat.pow_add] at h2;have hlt:o.getD (i / 4) 0+c.toNat*2^(8*(i%4))<2^(8+8*(i%4)):=by omega
 have hB:2^(8+8*(i%4))≤B:=by
  rw [show B=2^32 by decide];exact Nat.pow_le_pow_right (by decide) (by omega)
 have s:=z3W o (i / 4) (o.getD (i / 4) 0+c.toNat*2^(8*(i%4))) hl;refine ⟨by omega,?_,h.lb.set (by omega) _,?_,fun j hj=>?_⟩
 ·have e1:b.drop (b.length-(i+1))=c::b.drop (b.length-i):=by
   rw [List.drop_eq_getElem_cons (by omega),show b.length-(i+1)+1=b.length-i by omega,hc,List.getD_eq_getElem?_getD,List.getElem?_eq_getElem (by omega)]
   congr 1
   simp only [Option.getD_some]
   congr 1;omega
  have e2:(b.drop (b.length-i)).length=i:=by rw [List.length_drop];omega
  rw [e1];simp only [be];rw [e2,←h.v];rw [Nat.mul_add] at s;have e3:B^(i / 4)*(c.toNat*2^(8*(i%4)))=c.toNat*256^i:=by
   rw [show B=2^32 by decide,show (256:Nat)=2^8 by decide,←Nat.pow_mul,←Nat.pow_mul,Nat.mul_comm,Nat.mul_assoc,←Nat.pow_add]
   congr 2;omega
  omega
 ·by_cases h3:i%4=3
  ·have e4:(i+1) / 4=i / 4+1:=by omega
   rw [e4,getD_set_ne (by omega),h.z _ (by omega),show (i+1)%4=0 by omega];decide
  ·have e4:(i+1) / 4=i / 4:=by omega
   rw [e4,z2p hl,show (i+1)%4=i%4+1 by omega,show 8*(i%4+1)=8+8*(i%4) by omega];exact hlt
 ·rw [getD_set_ne (by omega)];exact h.z j (by omega)
theorem RI.fin {b:List UInt8} {o:List Nat} (h:RI b o b.length):vl o=be b:=by rw [h.v,Nat.sub_self,List.drop_zero]
end Nt
end Go.Proofs.YtgmppconibklcaaGreatDoor

namespace Go.Proofs.YtgmppconibklcaaGreatDoor
inductive Nd
 | mk (cls tag:Int) (cons:Bool) (bytes:List UInt8) (kids:List Nd)
namespace Nd
def cls:Nd→Int|mk c _ _ _ _=>c
def tag:Nd→Int|mk _ t _ _ _=>t
def cons:Nd→Bool|mk _ _ k _ _=>k
def bytes:Nd→List UInt8|mk _ _ _ b _=>b
def kids:Nd→List Nd|mk _ _ _ _ l=>l
def nil:Nd:=mk 0 0 false [] []
end Nd
namespace Dr
def least:List UInt8→Bool
 | []=>false
 | [_]=>true
 | a::b::_=>!(a.toNat==0&&decide (b.toNat<128)||a.toNat==255&&decide (127<b.toNat))
def zeH (b:List UInt8):Bool:=
 decide (0<b.length)&&decide ((b.getD 0 0).toNat≤7)&&!(b.length==1&&decide (0<(b.getD 0 0).toNat))&&((b.getD 0 0).toNat==0||(b.getD (b.length-1) 0).toNat%2^(b.getD 0 0).toNat==0)
def value (tag:Int) (b:List UInt8):Bool:=
 if tag=1 then b.length==1&&((b.getD 0 0).toNat==0||(b.getD 0 0).toNat==255)
 else if tag=2∨tag=10 then least b
 else if tag=3 then zeH b
 else if tag=5 then b.length==0
 else if tag=6 then (Od.decO b).isSome
 else if tag=12 then Utf.ok ⟨b.toArray⟩
 else if tag=19 then St.pr ⟨b.toArray⟩
 else if tag=22 then St.ia ⟨b.toArray⟩
 else if tag=23 then (Pr.z6h b).isSome
 else if tag=24 then (Pr.z1q b).isSome
 else true
def z5j (t:Int):Bool:=t==16||t==17
def z3c (t:Int):Bool:=t==1||t==2||t==3||t==4||t==5||t==6||t==10||t==12||t==19||t==22||t==23||t==24
def may (c t:Int) (k:Bool):Bool:=decide (0≤t)&&decide (t≤30)&&(c==2||c==0&&(if k then z5j t else z3c t))
def lenB (n:Nat):List UInt8:=if n<128 then [UInt8.ofNat n] else UInt8.ofNat (128+(n.log2 / 8+1))::Nt.beN (n.log2 / 8+1) n
def head (c t:Int) (k:Bool) (n:Nat):List UInt8:=UInt8.ofNat (c.toNat*64+t.toNat+if k then 32 else 0)::lenB n
def rising:List (List UInt8)→Bool
 | a::b::l=>decide (Lib.compareBytes a b≤0)&&rising (b::l)
 | _=>true
mutual
def put:Nd→Option (List UInt8)
 | .mk c t k b l=>
  if may c t k&&!(k&&decide (0<b.length))&&!(!k&&decide (0<l.length))&&!(c==0&&!k&&!value t b) then
   match puts l with
   | some bs=>if c==0&&t==17&&!rising bs then none else some (head c t k (b++bs.flatten).length++(b++bs.flatten))
   | none=>none
  else none
def puts:List Nd→Option (List (List UInt8))
 | []=>some []
 | n::l=>match put n with
  | some b=>match puts l with
   | some bs=>some (b::bs)
   | none=>none
  | none=>none
end
mutual
def deep:Nd→Nat
 | .mk _ _ _ _ l=>z0U l+1
def z0U:List Nd→Nat
 | []=>0
 | n::l=>max (deep n) (z0U l)
end
mutual
def wt:Nd→Nat
 | .mk _ _ _ b l=>b.length+10+wts l
def wts:List Nd→Nat
 | []=>0
 | n::l=>wt n+wts l
end
def write (n:Nd):List UInt8×Int:=
 match put n with
 | none=>([],34)
 | some b=>if 32<deep n then ([],33) else if 16777216<b.length then ([],2) else (b,0)
def right (n:Nd):Bool:=(put n).isSome
theorem zlE {n k:Nat} (h:n<2^k):n.log2 / 8+1≤k / 8+1:=by
 by_cases h0:n=0
 ·subst h0;simp
 ·have h1:n.log2<k:=(Nat.log2_lt h0).2 h;have:=Nat.div_le_div_right (c:=8) (Nat.le_of_lt h1);omega
theorem zjp {n:Nat} (h:n<2^56):(lenB n).length≤9:=by
 unfold lenB;split
 ·simp
 ·rw [List.length_cons,Nt.z0E];have:=zlE h;omega
theorem zeh {n:Nat} (h:n<2^56) (c t:Int) (k:Bool):(head c t k n).length≤10:=by
 have:=zjp h;unfold head;rw [List.length_cons];omega
mutual
theorem z9D:∀ (n:Nd) {o:List UInt8},put n=some o→wt n<2^56→o.length≤wt n
 | .mk c t k b l,o,h,hw=>by
  rw [wt] at hw ⊢;rw [put] at h;split at h
  ·split at h
   ·rename_i bs hbs;have h1:=z9C l hbs (by omega);split at h
    ·cases h
    ·injection h with h;subst h;have h2:(b++bs.flatten).length≤b.length+wts l:=by rw [List.length_append];omega
     have h3:=zeh (n:=(b++bs.flatten).length) (by omega) c t k;rw [List.length_append];omega
   ·cases h
  ·cases h
theorem z9C:∀ (l:List Nd) {o:List (List UInt8)},puts l=some o→wts l<2^56→o.flatten.length≤wts l
 | [],o,h,_=>by
  rw [puts] at h;injection h with h;subst h;simp
 | n::l,o,h,hw=>by
  rw [wts] at hw ⊢;rw [puts] at h;split at h
  ·rename_i b hb;split at h
   ·rename_i bs hbs;injection h with h;subst h;have h1:=z9D n hb (by omega);have h2:=z9C l hbs (by omega);rw [List.flatten_cons,List.length_append];omega
   ·cases h
  ·cases h
end
def z3I:List UInt8→Option (Nat×Nat)
 | []=>none
 | n::r=>
  if n.toNat<128 then some (n.toNat,1)
  else if 1≤n.toNat-128∧n.toNat-128≤4∧n.toNat-128≤r.length then
   if 128≤Nt.be (r.take (n.toNat-128))∧0<Nt.be (r.take (n.toNat-128)) / 2^(8*(n.toNat-128-1)) then some (Nt.be (r.take (n.toNat-128)),n.toNat-128+1) else none
  else none
mutual
def rdN:Nat→Nat→List UInt8→Option (Nd×Nat)
 | 0,_,_=>none
 | _+1,_,[]=>none
 | f+1,d,t::r=>
  if may (t.toNat / 64:Nat) (t.toNat%32:Nat) (t.toNat / 32%2==1) then
   match z3I r with
   | none=>none
   | some (size,j)=>
    if r.length-j<size∨32<d then none
    else if t.toNat / 32%2==1 then
     match rdL f (d+1) ((r.drop j).take size) with
     | none=>none
     | some (ns,cuts)=>if t.toNat / 64=0∧t.toNat%32=17∧rising cuts=false then none else some (.mk (t.toNat / 64:Nat) (t.toNat%32:Nat) true [] ns,1+j+size)
    else if t.toNat / 64=2∨value (t.toNat%32:Nat) ((r.drop j).take size)=true then some (.mk (t.toNat / 64:Nat) (t.toNat%32:Nat) false ((r.drop j).take size) [],1+j+size)
    else none
  else none
def rdL:Nat→Nat→List UInt8→Option (List Nd×List (List UInt8))
 | _,_,[]=>some ([],[])
 | 0,_,_::_=>none
 | f+1,d,c::l=>
  match rdN f d (c::l) with
  | none=>none
  | some (n,k)=>match rdL f d ((c::l).drop k) with
   | none=>none
   | some (ns,cuts)=>some (n::ns,(c::l).take k::cuts)
end
def read (b:List UInt8):Option Nd:=
 if 16777216<b.length then none else match rdN (2*b.length+2) 1 b with
 | some (n,k)=>if k<b.length then none else some n
 | none=>none
def eight (n:Int):List UInt8:=(List.range 8).map fun k=>UInt8.ofNat ((n / 2^(8*(7-k)))%256).toNat
def strip:List UInt8→List UInt8
 | []=>[]
 | a::l=>if least (a::l) then a::l else strip l
def intB (n:Int):List UInt8:=strip (eight n)
def prim (tag:Int) (b:List UInt8):Nd:= .mk 0 tag false b []
def seq (l:List Nd):Nd:= .mk 0 16 true [] l
def intN (n:Int):Nd:=prim 2 (intB n)
def natN (n:Nat):Nd:=if 131072<Nt.bl n then .nil else prim 2 (Nt.beN (Nt.bl n / 8+1) n)
def whole (n:Nd):Bool:=n.cls==0&&(n.tag==2||n.tag==10)&&right n
def sgn (c:UInt8):Int:=if c.toNat<128 then c.toNat else (c.toNat:Int)-256
def intOf (n:Nd):Option Int:=if whole n∧n.bytes.length≤8 then some ((n.bytes.drop 1).foldl (fun x c=>x*256+c.toNat) (sgn (n.bytes.getD 0 0))) else none
def z1D (n:Nd):Option Nat:=if whole n∧(n.bytes.getD 0 0).toNat≤127 then some (Nt.be n.bytes) else none
end Dr
end Go.Proofs.YtgmppconibklcaaGreatDoor

