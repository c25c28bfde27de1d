/- Part of the proof. No condition. -/
import Derived.Test.YtgmppconibklcaaGreatDoorM10
import Derived.Test.YtgmppconibklcaaGreatDoorM0
import Derived.Test.YtgmppconibklcaaGreatDoorProg
import Derived.Outline
set_option maxHeartbeats 40000000
set_option maxRecDepth 100000
set_option linter.unusedVariables false
set_option linter.unusedSimpArgs false
namespace Go.Proofs.YtgmppconibklcaaGreatDoor
namespace Dr
theorem zmj (l:List UInt8):Nt.beN l.length (Nt.be l)=l:=by
 refine List.ext_getElem (Nt.z0o _ _) fun i h1 h2=>?_
 have hl:=Nt.zaP l;have h3:=Nt.z9I l.length (Nt.be l) (l.length-1-i) (by omega);have e:l.length-1-(l.length-1-i)=i:=by omega
 rw [e] at h3;have h4:((Nt.beN l.length (Nt.be l)).getD i 0).toNat=(l.getD i 0).toNat:=by
  rw [h3];clear h1 h3 e;induction l generalizing i with
  | nil=>simp at h2
  | cons c l ih=>
   have hb:=Nt.zaP l;rw [Nt.be];match i with
   | 0=>
    have hc:=c.toNat_lt;simp only [List.length_cons,Nat.add_sub_cancel,Nat.sub_zero,List.getD_cons_zero];rw [Nat.mul_comm,Nat.mul_add_div (Nat.pow_pos (by decide)),Nat.div_eq_of_lt hb,Nat.add_zero,Nat.mod_eq_of_lt (by omega)]
   | i+1=>
    have hi:i<l.length:=by simpa using h2
    simp only [List.length_cons,List.getD_cons_succ];have e2:l.length+1-1-(i+1)=l.length-1-i:=by omega
    have e3:c.toNat*256^l.length=256^(l.length-1-i)*(256*(c.toNat*256^i)):=by
     have:256^l.length=256^(l.length-1-i)*(256*256^i):=by
      rw [←Nat.pow_succ',←Nat.pow_add];congr 1;omega
     rw [this];simp only [Nat.mul_comm,Nat.mul_left_comm,Nat.mul_assoc]
    rw [e2,e3,Nat.mul_add_div (Nat.pow_pos (by decide)),Nat.mul_add_mod];exact ih i hi hb
 rw [List.getD_eq_getElem?_getD,List.getD_eq_getElem?_getD,List.getElem?_eq_getElem h1,List.getElem?_eq_getElem h2] at h4;exact UInt8.toNat_inj.1 (by simpa using h4)
theorem log_k {n k:Nat} (h0:0<n / 2^(8*(k-1))) (h1:n<256^k) (hk:1≤k):n.log2 / 8+1=k:=by
 have e:256^k=2^(8*k):=by rw [show (256:Nat)=2^8 from rfl,←Nat.pow_mul]
 have hn:n≠0:=by rintro rfl;simp at h0
 have h2:n.log2<8*k:=(Nat.log2_lt hn).2 (by rw [←e];exact h1);have h3:8*(k-1)≤n.log2:=(Nat.le_log2 hn).2 (by
  have:=Nat.div_pos_iff.1 h0;exact this.2)
 omega
theorem log_k2 {n:Nat} (h:0<n):n<256^(n.log2 / 8+1)∧0<n / 2^(8*(n.log2 / 8+1-1)):=by
 have hn:n≠0:=by omega
 refine ⟨?_,?_⟩
 ·rw [show (256:Nat)=2^8 from rfl,←Nat.pow_mul];exact (Nat.log2_lt hn).1 (by omega)
 ·refine Nat.div_pos ?_ (Nat.pow_pos (by decide));exact (Nat.le_log2 hn).1 (by omega)
theorem z1K {r:List UInt8} {n j:Nat} (h:z3l r=some (n,j)):j≤r.length∧lenB n=r.take j∧n<2^32:=by
 match r,h with
 | c::r,h=>
  have hc:=c.toNat_lt;simp only [z3l] at h;split at h
  ·rename_i hs;simp only [Option.some.injEq,Prod.mk.injEq] at h;obtain ⟨rfl,rfl⟩:=h;refine ⟨by simp,?_,by omega⟩;unfold lenB;rw [if_pos hs];simp
  ·rename_i hs;split at h
   ·rename_i hk;split at h
    ·rename_i hn;simp only [Option.some.injEq,Prod.mk.injEq] at h;obtain ⟨h1,rfl⟩:=h;have hl:(r.take (c.toNat-128)).length=c.toNat-128:=by rw [List.length_take];omega
     have hb:=Nt.zaP (r.take (c.toNat-128));rw [hl,h1] at hb;rw [h1] at hn;have hlog:=log_k hn.2 hb hk.1;refine ⟨by simp;omega,?_,?_⟩
     ·unfold lenB;rw [if_neg (by omega),hlog,←h1];have:=zmj (r.take (c.toNat-128));rw [hl] at this;rw [this,List.take_succ_cons];refine congrArg (·::List.take (c.toNat-128) r) ?_;clear hlog hn hb h1 hl this;apply UInt8.toNat_inj.1;rw [UInt8.toNat_ofNat'];omega
     ·have h4:256^(c.toNat-128)≤256^4:=Nat.pow_le_pow_right (by decide) hk.2.1;have h5:(256:Nat)^4=2^32:=by decide
      rw [h5] at h4;exact Nat.lt_of_lt_of_le hb h4
    ·cases h
   ·cases h
theorem zgB {n:Nat} (h:n<2^32) (rest:List UInt8):z3l (lenB n++rest)=some (n,(lenB n).length):=by
 unfold lenB;split
 ·rename_i hs;have e:(UInt8.ofNat n).toNat=n:=by rw [UInt8.toNat_ofNat'];omega
  simp only [List.cons_append,List.nil_append,z3l,e,if_pos hs,List.length_cons,List.length_nil]
 ·rename_i hs;obtain ⟨h1,h2⟩:=log_k2 (n:=n) (by omega);have hk:n.log2 / 8+1≤4:=by
   have h3:n.log2<32:=(Nat.log2_lt (by omega)).2 h;omega
  generalize hkk:n.log2 / 8+1=k at h1 h2 hk;have hk1:1≤k:=by omega
  have e:(UInt8.ofNat (128+k)).toNat=128+k:=by rw [UInt8.toNat_ofNat'];omega
  have hl:=Nt.z0o k n;have e2:128+k-128=k:=by omega
  rw [List.cons_append];simp only [z3l,e,e2];rw [if_neg (by omega),if_pos ⟨hk1,hk,by rw [List.length_append];omega⟩];have ht:(Nt.beN k n++rest).take k=Nt.beN k n:=by rw [List.take_left' hl]
  rw [ht,Nt.zjG k n h1,if_pos ⟨by omega,h2⟩,List.length_cons,hl]
theorem may_eq {c t:Int} {k:Bool} (h:may c t k=true):0≤t∧t≤30∧(c=2∨c=0):=by
 unfold may at h;simp only [Bool.and_eq_true,Bool.or_eq_true,decide_eq_true_eq,beq_iff_eq] at h;refine ⟨h.1.1,h.1.2,?_⟩;rcases h.2 with h|h
 ·exact .inl h
 ·exact .inr h.1
theorem znC (t:UInt8):UInt8.ofNat (((t.toNat / 64:Nat):Int).toNat*64+((t.toNat%32:Nat):Int).toNat+if (t.toNat / 32%2==1)=true then 32 else 0)=t:=by
 apply UInt8.toNat_inj.1;have ht:=t.toNat_lt;rw [UInt8.toNat_ofNat',Int.toNat_natCast,Int.toNat_natCast];by_cases h:t.toNat / 32%2=1
 ·rw [if_pos (by rw [h];rfl)];omega
 ·rw [if_neg (by rw [beq_iff_eq];exact h)];omega
theorem z96:∀ f:Nat,(∀ (d:Nat) (l:List UInt8) (n:Nd) (k:Nat),rdN f d l=some (n,k)→0<k∧k≤l.length∧put n=some (l.take k)∧deep n+d≤33) ∧
  (∀ (d:Nat) (l:List UInt8) (ns:List Nd) (cuts:List (List UInt8)),rdL f d l=some (ns,cuts)→puts ns=some cuts∧cuts.flatten=l∧(ns=[]∨z0V ns+d≤33))
 | 0=>by
  refine ⟨fun d l n k h=>(by rw [rdN] at h;cases h),fun d l ns cuts h=>?_⟩;match l,h with
  | [],h=>rw [rdL] at h;simp only [Option.some.injEq,Prod.mk.injEq] at h;obtain ⟨rfl,rfl⟩:=h;exact ⟨by rw [puts],rfl,.inl rfl⟩
  | c::l,h=>rw [rdL] at h;cases h
 | f+1=>by
  obtain ⟨ihN,ihL⟩:=z96 f;refine ⟨fun d l n k h=>?_,fun d l ns cuts h=>?_⟩
  ·match l,h with
   | [],h=>rw [rdN] at h;cases h
   | t::r,h=>
    rw [rdN] at h;split at h
    ·rename_i hm;split at h
     ·cases h
     ·rename_i size j hl;obtain ⟨hj,hlen,hs⟩:=z1K hl;split at h
      ·cases h
      ·rename_i hno;have h1:j+size≤r.length:=by omega
       have h2:d≤32:=by omega
       have hbody:((r.drop j).take size).length=size:=by rw [List.length_take,List.length_drop];omega
       have htake:(t::r).take (1+j+size)=t::(lenB size++(r.drop j).take size):=by
        rw [show 1+j+size=(j+size)+1 by omega,List.take_succ_cons,hlen,List.take_add]
       have hdone:∀ (b:List UInt8) (kids:List Nd) (bs:List (List UInt8)),puts kids=some bs→b++bs.flatten=(r.drop j).take size→(!((t.toNat / 32%2==1)&&decide (0<b.length))&&!(!(t.toNat / 32%2==1)&&decide (0<kids.length))&&!(((t.toNat / 64:Nat):Int)==0&&!(t.toNat / 32%2==1)&&!value ((t.toNat%32:Nat):Int) b))=true →
         (((t.toNat / 64:Nat):Int)==0&&((t.toNat%32:Nat):Int)==17&&!rising bs)=false→put (.mk (t.toNat / 64:Nat) (t.toNat%32:Nat) (t.toNat / 32%2==1) b kids)=some ((t::r).take (1+j+size)):=by
        intro b kids bs hp hb hok hr;rw [put,if_pos (by
         simp only [Bool.and_eq_true] at hok ⊢;exact ⟨⟨⟨hm,hok.1.1⟩,hok.1.2⟩,hok.2⟩),hp]
        simp only [hr,Bool.false_eq_true,if_false];rw [htake,hb,head,hbody,znC,List.cons_append]
       split at h
       ·rename_i hc;split at h
        ·cases h
        ·rename_i ns cuts hL;obtain ⟨hp,hfl,hd⟩:=ihL _ _ _ _ hL;split at h
         ·cases h
         ·rename_i hr;simp only [Option.some.injEq,Prod.mk.injEq] at h;obtain ⟨rfl,rfl⟩:=h;have:=hdone [] ns cuts hp (by rw [List.nil_append,hfl]) (by rw [hc];simp) (by
           cases hri:rising cuts with
           | true=>simp
           | false=>
            have:¬(t.toNat / 64=0∧t.toNat%32=17):=fun hx=>hr ⟨hx.1,hx.2,hri⟩
            simp only [Bool.not_false,Bool.and_true,Bool.and_eq_false_iff,beq_eq_false_iff_ne];omega)
          rw [hc] at this;refine ⟨by omega,by rw [List.length_cons];omega,this,?_⟩;rw [deep];rcases hd with rfl|hd
          ·rw [z0V];omega
          ·omega
       ·rename_i hc;split at h
        ·rename_i hv;simp only [Option.some.injEq,Prod.mk.injEq] at h;obtain ⟨rfl,rfl⟩:=h;have hc':(t.toNat / 32%2==1)=false:=by simpa using hc
         have:=hdone ((r.drop j).take size) [] [] (by rw [puts]) (by simp) (by
          rw [hc'];simp only [Bool.false_and,Bool.not_false,Bool.true_and,List.length_nil,Nat.lt_irrefl,decide_false,Bool.and_true,Bool.not_eq_true',Bool.and_eq_false_iff,beq_eq_false_iff_ne,Bool.not_eq_false'];rcases hv with hv|hv
          ·left;omega
          ·right;exact hv) (by simp [rising])
         rw [hc'] at this;refine ⟨by omega,by rw [List.length_cons];omega,this,?_⟩;rw [deep,z0V];omega
        ·cases h
    ·cases h
  ·match l,h with
   | [],h=>rw [rdL] at h;simp only [Option.some.injEq,Prod.mk.injEq] at h;obtain ⟨rfl,rfl⟩:=h;exact ⟨by rw [puts],rfl,.inl rfl⟩
   | c::l,h=>
    rw [rdL] at h;split at h
    ·cases h
    ·rename_i n k hN;obtain ⟨hk0,hk,hp,hd⟩:=ihN _ _ _ _ hN;split at h
     ·cases h
     ·rename_i ns' cuts' hL;obtain ⟨hp2,hfl,hd2⟩:=ihL _ _ _ _ hL;simp only [Option.some.injEq,Prod.mk.injEq] at h;obtain ⟨rfl,rfl⟩:=h;refine ⟨by rw [puts,hp,hp2],by rw [List.flatten_cons,hfl,List.take_append_drop],.inr ?_⟩;rw [z0V];rcases hd2 with rfl|hd2
      ·rw [z0V];omega
      ·omega
mutual
theorem zm0:∀ (n:Nd) (o:List UInt8),put n=some o→o.length<2^32→∀ (d f:Nat) (rest:List UInt8),deep n+d≤33→2*o.length≤f→rdN f d (o++rest)=some (n,o.length)
 | .mk c t k b l,o,h,ho,d,f,rest,hd,hf=>by
  rw [put] at h;split at h
  ·rename_i hok;split at h
   ·rename_i bs hbs;split at h
    ·cases h
    ·rename_i hr;simp only [Option.some.injEq] at h;subst h;simp only [Bool.and_eq_true] at hok;obtain ⟨⟨⟨hm,hk1⟩,hk2⟩,hk3⟩:=hok;obtain ⟨ht0,ht1,hc⟩:=may_eq hm;obtain ⟨tt,rfl⟩:=Int.eq_ofNat_of_zero_le ht0;have hcc:∃ cc:Nat,c=cc∧(cc=2∨cc=0):=by
      rcases hc with rfl|rfl
      ·exact ⟨2,rfl,.inl rfl⟩
      ·exact ⟨0,rfl,.inr rfl⟩
     obtain ⟨cc,rfl,hcc⟩:=hcc;obtain ⟨body,hbody⟩:∃ body,body=b++bs.flatten:=⟨_,rfl⟩;rw [←hbody] at ho hf ⊢;rw [List.length_append] at ho hf ⊢;have hhead:head cc tt k body.length=UInt8.ofNat (cc*64+tt+if k=true then 32 else 0)::lenB body.length:=rfl;obtain ⟨h8,hh8⟩:∃ h8:UInt8,h8=UInt8.ofNat (cc*64+tt+if k=true then 32 else 0):=⟨_,rfl⟩;rw [←hh8] at hhead;have hv:h8.toNat=cc*64+tt+if k=true then 32 else 0:=by
      rw [hh8,UInt8.toNat_ofNat'];rcases hcc with rfl|rfl<;>cases k<;>simp<;>omega
     have e1:h8.toNat / 64=cc:=by rw [hv];rcases hcc with rfl|rfl<;>cases k<;>simp<;>omega
     have e2:h8.toNat%32=tt:=by rw [hv];rcases hcc with rfl|rfl<;>cases k<;>simp<;>omega
     have e3:(h8.toNat / 32%2==1)=k:=by
      rw [hv];rcases hcc with rfl|rfl<;>cases k<;>simp<;>omega
     rw [hhead] at ho hf ⊢;have hl0:1≤(lenB body.length).length:=by unfold lenB;split<;>simp
     simp only [List.length_cons] at ho hf ⊢;obtain ⟨g,rfl⟩:∃ g,f=g+1:=⟨f-1,by omega⟩;rw [List.cons_append,List.cons_append,List.append_assoc,rdN,e1,e2,e3,if_pos hm,zgB (by omega)];have hd0:1≤deep (.mk cc tt k b l):=by rw [deep];omega
     simp only;rw [List.length_append,Nat.add_sub_cancel_left,if_neg (by rw [List.length_append];omega),List.drop_left,List.take_left];cases k with
     | true=>
      have hb0:b=[]:=by
       simp at hk1;exact hk1
      subst hb0;rw [List.nil_append] at hbody;subst hbody;have hL:=zik l bs hbs (by omega) (d+1) g (by rw [deep] at hd;omega) (by omega);simp only [if_true];rw [hL];simp only;rw [if_neg (by
       rintro ⟨hx,hy,hz⟩;apply hr;subst hx;subst hy;simp [hz])]
      congr 2
      omega
     | false=>
      have hl1:l=[]:=by
       simp at hk2;exact hk2
      subst hl1;rw [puts] at hbs;simp only [Option.some.injEq] at hbs;subst hbs;simp only [List.flatten_nil,List.append_nil] at hbody;subst hbody;simp only [Bool.false_eq_true,if_false];rw [if_pos (by
       rcases hcc with rfl|rfl
       ·left;rfl
       ·right;simp at hk3;exact hk3)]
      congr 2
      omega
   ·cases h
  ·cases h
theorem zik:∀ (l:List Nd) (bs:List (List UInt8)),puts l=some bs→bs.flatten.length<2^32→∀ (d f:Nat),z0V l+d≤33→2*bs.flatten.length+1≤f→rdL f d bs.flatten=some (l,bs)
 | [],bs,h,_,d,f,_,_=>by
  rw [puts] at h;simp only [Option.some.injEq] at h;subst h;cases f<;>(simp only [List.flatten_nil];rw [rdL])
 | n::l,bs,h,ho,d,f,hd,hf=>by
  rw [puts] at h;split at h
  ·rename_i o hn;split at h
   ·rename_i os hos;simp only [Option.some.injEq] at h;subst h;rw [z0V] at hd;rw [List.flatten_cons] at ho hf ⊢;rw [List.length_append] at ho hf;obtain ⟨g,rfl⟩:∃ g,f=g+1:=⟨f-1,by omega⟩;have h1:=zm0 n o hn (by omega) d g os.flatten (by omega) (by omega);have hpos:=(z96 g).1 _ _ _ _ h1;have h2:=zik l os hos (by omega) d g (by omega) (by omega);match o,h1,hpos with
    | [],_,hpos=>exact absurd hpos.1 (by simp)
    | c::o,h1,hpos=>
     rw [List.cons_append] at h1 ⊢;rw [rdL,h1];simp only;rw [←List.cons_append,List.drop_left,h2,List.take_left]
   ·cases h
  ·cases h
end
theorem za2 (b:List UInt8) (n:Nd):read b=some n↔put n=some b∧deep n≤32∧b.length≤16777216:=by
 unfold read;constructor
 ·intro h;split at h
  ·cases h
  ·split at h
   ·rename_i m k hk;split at h
    ·cases h
    ·simp only [Option.some.injEq] at h;subst h;obtain ⟨h0,h1,h2,h3⟩:=(z96 _).1 _ _ _ _ hk;have:k=b.length:=by omega
     rw [this,List.take_length] at h2;exact ⟨h2,by omega,by omega⟩
   ·cases h
 ·rintro ⟨h1,h2,h3⟩;have:=zm0 n b h1 (by omega) 1 (2*b.length+2) [] (by omega) (by omega);rw [List.append_nil] at this;rw [if_neg (by omega),this];simp
end Dr
end Go.Proofs.YtgmppconibklcaaGreatDoor

namespace Go.Proofs.YtgmppconibklcaaGreatDoor
namespace Dr
theorem z3E {a b:UInt8} {l:List UInt8}:least (a::b::l)=true↔¬(a.toNat=0∧b.toNat<128)∧¬(a.toNat=255∧127<b.toNat):=by
 unfold least;simp only [Bool.not_eq_true',Bool.or_eq_false_iff,Bool.and_eq_false_iff,beq_eq_false_iff_ne,decide_eq_false_iff_not];constructor
 ·rintro ⟨h1,h2⟩;exact ⟨fun h=>by rcases h1 with h1|h1<;>omega,fun h=>by rcases h2 with h2|h2<;>omega⟩
 ·rintro ⟨h1,h2⟩;exact ⟨by omega,by omega⟩
theorem zlC {b:List UInt8} (h:least b=true) (h0:(b.getD 0 0).toNat≤127):Nt.bl (Nt.be b) / 8+1=b.length:=by
 match b,h with
 | [a],_=>
  have h1:Nt.be [a]=a.toNat:=by simp [Nt.be]
  rw [h1];have h2:a.toNat≤127:=by simpa using h0
  have:=Nt.zh5 (n:=a.toNat) (k:=7) (by omega);simp;omega
 | a::c::l,h=>
  have h2:a.toNat≤127:=by simpa using h0
  have h3:=(z3E.1 h).1;have hl:=Nt.zaP l;have hc:=c.toNat_lt;have e:Nt.be (a::c::l)=a.toNat*256^(l.length+1)+(c.toNat*256^l.length+Nt.be l):=by simp [Nt.be]
  have ep:(256:Nat)^(l.length+1)=256*256^l.length:=by rw [Nat.pow_succ,Nat.mul_comm]
  have e8:(256:Nat)^l.length=2^(8*l.length):=by rw [show (256:Nat)=2^8 from rfl,←Nat.pow_mul]
  obtain ⟨P,hP⟩:∃ P,P=256^l.length:=⟨_,rfl⟩;have hP0:0<P:=by rw [hP];exact Nat.pow_pos (by decide)
  rw [ep,←hP] at e;rw [←hP] at hl e8;have hhi:Nt.be (a::c::l)<2^(8*l.length+15):=by
   rw [Nat.pow_add,←e8,e];have h4:a.toNat*(256*P)≤127*(256*P):=Nat.mul_le_mul_right _ h2;have h5:c.toNat*P≤255*P:=Nat.mul_le_mul_right _ (by omega);have:P*2^15=127*(256*P)+255*P+P:=by omega
   omega
  have hlo:2^(8*l.length+7)≤Nt.be (a::c::l):=by
   rw [Nat.pow_add,←e8,e];by_cases ha:a.toNat=0
   ·have:128≤c.toNat:=by omega
    have h5:128*P≤c.toNat*P:=Nat.mul_le_mul_right _ this;have:P*2^7=128*P:=by omega
    omega
   ·have h5:1*(256*P)≤a.toNat*(256*P):=Nat.mul_le_mul_right _ (by omega);have:P*2^7=128*P:=by omega
    omega
  have b1:=Nt.zh5 hhi;have b2:=Nt.bl_ge hlo;simp only [List.length_cons];omega
theorem zjH {b:List UInt8} (h:least b=true) (h0:(b.getD 0 0).toNat≤127):Nt.beN (Nt.bl (Nt.be b) / 8+1) (Nt.be b)=b:=by
 rw [zlC h h0,zmj]
theorem zfL (n:Nat):n<256^(Nt.bl n / 8+1):=by
 have h1:=Nt.zh4 n;rw [show (256:Nat)=2^8 from rfl,←Nat.pow_mul];exact Nat.lt_of_lt_of_le h1 (Nat.pow_le_pow_right (by decide) (by omega))
theorem z9H (n:Nat):least (Nt.beN (Nt.bl n / 8+1) n)=true∧((Nt.beN (Nt.bl n / 8+1) n).getD 0 0).toNat≤127:=by
 have hk:=Nt.z0o (Nt.bl n / 8+1) n;have h1:=Nt.zh4 n;have h0:=Nt.z9I (Nt.bl n / 8+1) n (Nt.bl n / 8) (by omega);have e0:Nt.bl n / 8+1-1-Nt.bl n / 8=0:=by omega
 rw [e0] at h0;have hlt:((Nt.beN (Nt.bl n / 8+1) n).getD 0 0).toNat≤127:=by
  rw [h0];have:n / 256^(Nt.bl n / 8)<128:=by
   rw [Nat.div_lt_iff_lt_mul (Nat.pow_pos (by decide)),show (256:Nat)=2^8 from rfl,←Nat.pow_mul,show (128:Nat)=2^7 from rfl,←Nat.pow_add];exact Nat.lt_of_lt_of_le h1 (Nat.pow_le_pow_right (by decide) (by omega))
  have:=Nat.mod_le (n / 256^(Nt.bl n / 8)) 256;omega
 refine ⟨?_,hlt⟩;match hb:Nt.beN (Nt.bl n / 8+1) n,hk with
 | [a],_=>rfl
 | a::c::l,hk=>
  rw [z3E];rw [hb] at h0 hlt;have ha:a.toNat≤127:=by simpa using hlt
  refine ⟨fun ⟨hz,hc⟩=>?_,by omega⟩;simp only [List.length_cons] at hk;have h2:=Nt.z9I (Nt.bl n / 8+1) n (Nt.bl n / 8-1) (by omega);have e1:Nt.bl n / 8+1-1-(Nt.bl n / 8-1)=1:=by omega
  rw [e1,hb] at h2;have h0':a.toNat=n / 256^(Nt.bl n / 8)%256:=by simpa using h0
  have h2':c.toNat=n / 256^(Nt.bl n / 8-1)%256:=by simpa using h2
  obtain ⟨m,hm⟩:∃ m,Nt.bl n / 8=m+1:=⟨Nt.bl n / 8-1,by omega⟩;rw [hm] at h0';rw [hm,Nat.add_sub_cancel] at h2';have hn128:n / 256^(m+1)<256:=by
   rw [Nat.div_lt_iff_lt_mul (Nat.pow_pos (by decide)),←Nat.pow_succ'];have:=zfL n;rw [hm] at this;exact this
  rw [Nat.mod_eq_of_lt hn128] at h0';have hn0:n / 256^(m+1)=0:=h0'.symm.trans hz;have hlt2:n / 256^m<256:=by
   have h3:n<256^(m+1):=by
    rcases Nat.lt_or_ge n (256^(m+1)) with h|h
    ·exact h
    ·have h9:=Nat.div_pos h (Nat.pow_pos (by decide));rw [hn0] at h9;exact absurd h9 (by decide)
   rw [Nat.div_lt_iff_lt_mul (Nat.pow_pos (by decide)),←Nat.pow_succ'];exact h3
  rw [Nat.mod_eq_of_lt hlt2] at h2';have h4:n / 256^m<128:=by rw [←h2'];exact hc
  have h5:n<2^(8*m+7):=by
   rw [Nat.div_lt_iff_lt_mul (Nat.pow_pos (by decide)),show (256:Nat)=2^8 from rfl,←Nat.pow_mul,show (128:Nat)=2^7 from rfl,←Nat.pow_add] at h4;rw [Nat.add_comm];exact h4
  have:=Nt.zh5 h5;omega
theorem z9i {n:Nat} (h:Nt.bl n≤131072):z1z (natN n)=some n:=by
 unfold natN;rw [if_neg (by omega)];obtain ⟨h1,h2⟩:=z9H n;have hr:right (prim 2 (Nt.beN (Nt.bl n / 8+1) n))=true:=by
  unfold right prim;rw [put,if_pos (by
   have:may 0 2 false=true:=by decide
   rw [this];have hv:value 2 (Nt.beN (Nt.bl n / 8+1) n)=true:=by unfold value;simp [h1]
   rw [hv];simp),puts]
  simp
 unfold z1z whole;rw [if_pos ⟨by rw [hr];simp [prim,Nd.cls,Nd.tag],by simpa [prim,Nd.bytes] using h2⟩];simp only [prim,Nd.bytes];rw [Nt.zjG _ _ (zfL n)]
theorem z3v {n:Nd} (h:right n=true) (hc:n.cls=0) (ht:z1G n.tag=true):n=prim n.tag n.bytes∧value n.tag n.bytes=true:=by
 obtain ⟨c,t,k,b,l⟩:=n;simp only [Nd.cls,Nd.tag,Nd.bytes] at *;subst hc;unfold right at h;rw [put] at h;split at h
 ·rename_i hok;simp only [Bool.and_eq_true] at hok;obtain ⟨⟨⟨hm,hk1⟩,hk2⟩,hk3⟩:=hok;have hk:k=false:=by
   cases k with
   | false=>rfl
   | true=>
    exfalso;unfold may at hm;simp only [Bool.and_eq_true,Bool.or_eq_true,beq_iff_eq,if_true] at hm;rcases hm.2 with h2|h2
    ·cases h2
    ·have hs:=h2.2;unfold z2L at hs;simp only [Bool.or_eq_true,beq_iff_eq] at hs;rcases hs with hs|hs<;>(subst hs;revert ht;decide)
  subst hk;have hl:l=[]:=by simpa using hk2
  subst hl;refine ⟨rfl,?_⟩;simpa using hk3
 ·cases h
theorem zgv {n:Nd} {a:Nat} (h:z1z n=some a) (ht:n.tag=2) (hb:Nt.bl a≤131072):n=natN a:=by
 unfold z1z at h;split at h
 ·rename_i hw;simp only [Option.some.injEq] at h;obtain ⟨hw,h0⟩:=hw;unfold whole at hw;simp only [Bool.and_eq_true,beq_iff_eq] at hw;obtain ⟨⟨hc,_⟩,hr⟩:=hw;obtain ⟨e,hv⟩:=z3v hr hc (by rw [ht];decide);rw [ht] at e hv;have hl:least n.bytes=true:=by unfold value at hv;simpa using hv
  unfold natN;rw [if_neg (by omega),←h,zjH hl h0];exact e
 ·cases h
def sval (b:List UInt8):Int:=(b.drop 1).foldl (fun x c=>x*256+c.toNat) (sgn (b.getD 0 0))
theorem z6S (a:UInt8):sval [a]=sgn a:=rfl
theorem z5e {b:List UInt8} (h:b≠[]) (c:UInt8):sval (b++[c])=sval b*256+c.toNat:=by
 match b,h with
 | a::l,_=>simp [sval,List.foldl_append]
theorem sgn_lt (a:UInt8): -128≤sgn a∧sgn a≤127:=by
 have:=a.toNat_lt;unfold sgn;split<;>omega
theorem zht (a b:UInt8) (l:List UInt8) (h:least (a::b::l)=false):sval (a::b::l)=sval (b::l):=by
 have ha:=a.toNat_lt;have hb:=b.toNat_lt;have h':¬least (a::b::l)=true:=by rw [h];decide
 rw [z3E] at h';have e:sgn a*256+b.toNat=sgn b:=by
  unfold sgn;split<;>split<;>omega
 show (b::l).foldl _ _=_;rw [List.foldl_cons];show l.foldl _ (sgn a*256+(b.toNat:Int))=_;rw [e];rfl
theorem zea:∀ l:List UInt8,l≠[]→least (strip l)=true∧sval (strip l)=sval l∧(strip l).length≤l.length
 | [a],_=>by
  have:strip [a]=[a]:=by rw [strip,if_pos (by rfl)]
  rw [this];exact ⟨rfl,rfl,Nat.le_refl _⟩
 | a::b::l,_=>by
  rw [strip];split
  ·rename_i h;exact ⟨h,rfl,Nat.le_refl _⟩
  ·rename_i h;obtain ⟨h1,h2,h3⟩:=zea (b::l) (by simp);refine ⟨h1,?_,by rw [List.length_cons];omega⟩;rw [h2,zht a b l (by simpa using h)]
def e8:Nat→Int→List UInt8
 | 0,_=>[]
 | k+1,v=>e8 k (v / 256)++[UInt8.ofNat (v%256).toNat]
theorem zch:∀ (k:Nat) (v:Int),(e8 k v).length=k
 | 0,_=>rfl
 | k+1,v=>by rw [e8,List.length_append,zch k];rfl
theorem zfi (v:Int):eight v=e8 8 v:=by
 have h:∀ a b:Nat,v / 2^a / 2^b=v / 2^(a+b):=fun a b=>by
  rw [Int.ediv_ediv_of_nonneg (Int.pow_nonneg (by decide)),Int.pow_add]
 have e1:(256:Int)=2^8:=rfl;simp only [eight,e8,List.range,List.range.loop,List.map,List.nil_append,List.cons_append];have g:∀ n:Nat,v / 2^n / 256=v / 2^(n+8):=fun n=>by rw [e1,h]
 have g0:v / 256=v / 2^8:=by rw [e1]
 rw [g0];simp only [g];simp
def fill (a:UInt8):UInt8:=if a.toNat<128 then 0 else 255
theorem zjm:∀ k,e8 k 0=List.replicate k 0
 | 0=>rfl
 | k+1=>by rw [e8,show (0:Int) / 256=0 from rfl,zjm k,List.replicate_succ'];rfl
theorem zjo:∀ k,e8 k (-1)=List.replicate k 255
 | 0=>rfl
 | k+1=>by rw [e8,show (-1:Int) / 256 = -1 from rfl,zjo k,List.replicate_succ'];rfl
theorem zfE {x:Int} {c:UInt8} (h:x%256=c.toNat):UInt8.ofNat (x%256).toNat=c:=by
 have hc:=c.toNat_lt;apply UInt8.toNat_inj.1;rw [UInt8.toNat_ofNat',h];omega
theorem zjn:∀ (r:List UInt8) (k:Nat) (a:UInt8),r.length+1≤k→e8 k (sval (a::r.reverse))=List.replicate (k-(r.length+1)) (fill a)++(a::r.reverse)
 | [],k,a,hk=>by
  obtain ⟨m,rfl⟩:∃ m,k=m+1:=⟨k-1,by simp at hk;omega⟩;have ha:=a.toNat_lt;simp only [List.reverse_nil,List.length_nil,Nat.zero_add,Nat.add_sub_cancel];rw [z6S,e8];have hm:UInt8.ofNat (sgn a%256).toNat=a:=zfE (by unfold sgn;split<;>omega);rw [hm]
  congr 1
  unfold fill;split
  ·rename_i h;rw [show sgn a / 256=0 by unfold sgn;rw [if_pos h];omega];exact zjm m
  ·rename_i h;rw [show sgn a / 256 = -1 by unfold sgn;rw [if_neg h];omega];exact zjo m
 | c::r,k,a,hk=>by
  obtain ⟨m,rfl⟩:∃ m,k=m+1:=⟨k-1,by simp at hk;omega⟩;have hc:=c.toNat_lt;rw [List.reverse_cons,←List.cons_append,z5e (by simp),e8];have h1:(sval (a::r.reverse)*256+c.toNat) / 256=sval (a::r.reverse):=by omega
  have h2:UInt8.ofNat ((sval (a::r.reverse)*256+c.toNat)%256).toNat=c:=zfE (by omega);rw [h1,h2,zjn r m a (by simp at hk;omega)];simp only [List.length_cons,List.append_assoc]
  congr 2
  omega
theorem z8N:∀ (m:Nat) (a:UInt8) (l:List UInt8),least (a::l)=true→strip (List.replicate m (fill a)++(a::l))=a::l
 | 0,a,l,h=>by rw [List.replicate_zero,List.nil_append,strip,if_pos h]
 | m+1,a,l,h=>by
  have ih:=z8N m a l h;rw [List.replicate_succ,List.cons_append];have ha:=a.toNat_lt;have hb:least (fill a::(List.replicate m (fill a)++(a::l)))=false:=by
   cases hx:least (fill a::(List.replicate m (fill a)++(a::l))) with
   | false=>rfl
   | true=>
    exfalso;match m,hx with
    | 0,hx=>
     rw [List.replicate_zero,List.nil_append,z3E] at hx;unfold fill at hx;split at hx
     ·rename_i h1;exact hx.1 ⟨rfl,h1⟩
     ·rename_i h1;exact hx.2 ⟨rfl,by omega⟩
    | m+1,hx=>
     rw [List.replicate_succ,List.cons_append,z3E] at hx;unfold fill at hx;split at hx
     ·exact hx.1 ⟨rfl,by decide⟩
     ·exact hx.2 ⟨rfl,by decide⟩
  rw [strip.eq_def];simp only [hb,Bool.false_eq_true,if_false];exact ih
theorem ziV {b:List UInt8} (h:least b=true) (h8:b.length≤8):intB (sval b)=b:=by
 match b,h with
 | a::l,h=>
  unfold intB;have:=zjn l.reverse 8 a (by simpa using h8);rw [List.reverse_reverse] at this;rw [zfi,this];exact z8N _ a l h
theorem zhu:∀ (k:Nat) (v:Int),-(128*256^k:Int)≤v→v<128*256^k→sval (e8 (k+1) v)=v
 | 0,v,h0,h1=>by
  simp only [e8,List.nil_append,z6S];have e:(UInt8.ofNat (v%256).toNat).toNat=(v%256).toNat:=by rw [UInt8.toNat_ofNat'];omega
  unfold sgn;rw [e];simp at h0 h1;split<;>omega
 | k+1,v,h0,h1=>by
  rw [e8,z5e (by intro h;have:=congrArg List.length h;rw [zch] at this;simp at this)];have e:(UInt8.ofNat (v%256).toNat).toNat=(v%256).toNat:=by rw [UInt8.toNat_ofNat'];omega
  have ep:(256:Int)^(k+1)=256^k*256:=Int.pow_succ ..;obtain ⟨P,hP⟩:∃ P:Int,P=256^k:=⟨_,rfl⟩;rw [ep,←hP] at h0 h1;rw [zhu k (v / 256) (by rw [←hP];omega) (by rw [←hP];omega),e];omega
theorem zbe {n:Int} (h0: -9223372036854775808≤n) (h1:n≤9223372036854775807):least (intB n)=true∧(intB n).length≤8∧sval (intB n)=n:=by
 unfold intB;have hne:eight n≠[]:=by simp [eight]
 obtain ⟨a,b,c⟩:=zea (eight n) hne;have hl:(eight n).length=8:=by simp [eight]
 refine ⟨a,by omega,?_⟩;rw [b,zfi];exact zhu 7 n (by simp;omega) (by simp;omega)
theorem zar (n:Nd):intOf n=if whole n∧n.bytes.length≤8 then some (sval n.bytes) else none:=rfl
theorem z4e (b:List UInt8) (h:least b=true):right (prim 2 b)=true:=by
 unfold right prim;rw [put,if_pos (by
  have:may 0 2 false=true:=by decide
  rw [this];have hv:value 2 b=true:=by unfold value;simp [h]
  rw [hv];simp),puts]
 simp
theorem z9r {n:Int} (h0: -9223372036854775808≤n) (h1:n≤9223372036854775807):intOf (intN n)=some n:=by
 obtain ⟨a,b,c⟩:=zbe h0 h1;rw [zar];unfold intN whole;rw [if_pos ⟨by rw [z4e _ a];simp [prim,Nd.cls,Nd.tag],by simpa [prim,Nd.bytes] using b⟩];show some (sval (intB n))=_;rw [c]
theorem zgD {n:Nd} {v:Int} (h:intOf n=some v) (ht:n.tag=2):n=intN v:=by
 rw [zar] at h;split at h
 ·rename_i hw;simp only [Option.some.injEq] at h;obtain ⟨hw,h8⟩:=hw;unfold whole at hw;simp only [Bool.and_eq_true,beq_iff_eq] at hw;obtain ⟨⟨hc,_⟩,hr⟩:=hw;obtain ⟨e,hv⟩:=z3v hr hc (by rw [ht];decide);rw [ht] at e hv;have hl:least n.bytes=true:=by unfold value at hv;simpa using hv
  unfold intN;rw [←h,ziV hl h8];exact e
 ·cases h
end Dr
end Go.Proofs.YtgmppconibklcaaGreatDoor

namespace Go.Proofs.YtgmppconibklcaaGreatDoor
namespace Dr
theorem zdz {n k:Nat} (h0:128≤n) (hk:1≤k) (h1:256^(k-1)≤n) (h2:n<256^k):lenB n=UInt8.ofNat (128+k)::Nt.beN k n:=by
 have h3:0<n / 2^(8*(k-1)):=by
  refine Nat.div_pos ?_ (Nat.pow_pos (by decide));rw [Nat.pow_mul];exact h1
 have:=log_k h3 h2 hk;unfold lenB;rw [if_neg (by omega),this]
theorem za3:∀ f:Nat,(∀ (d:Nat) (l:List UInt8) (g:Nat),2*l.length≤f→f≤g→rdN f d l=rdN g d l)∧(∀ (d:Nat) (l:List UInt8) (g:Nat),2*l.length+1≤f→f≤g→rdL f d l=rdL g d l)
 | 0=>by
  refine ⟨fun d l g h hg=>?_,fun d l g h _=>absurd h (by omega)⟩;have:l=[]:=List.eq_nil_of_length_eq_zero (by omega);subst this;cases g with
  | zero=>rfl
  | succ g=>rw [rdN,rdN]
 | f+1=>by
  obtain ⟨ihN,ihL⟩:=za3 f;refine ⟨fun d l g h hg=>?_,fun d l g h hg=>?_⟩
  ·obtain ⟨m,rfl⟩:∃ m,g=m+1:=⟨g-1,by omega⟩;match l,h with
   | [],_=>rw [rdN,rdN]
   | t::r,h=>
    rw [rdN,rdN];split
    ·split
     ·rfl
     ·rename_i size j hl;have hj:=(z1K hl).1;have hj1:1≤j:=by
       have:=(z1K hl).2.1;rcases Nat.eq_zero_or_pos j with h0|h0
       ·subst h0;simp at this;unfold lenB at this;split at this<;>simp at this
       ·exact h0
      simp only [List.length_cons] at h;split
      ·rfl
      ·rw [ihL (d+1) ((r.drop j).take size) m (by rw [List.length_take,List.length_drop];omega) (by omega)]
    ·rfl
  ·obtain ⟨m,rfl⟩:∃ m,g=m+1:=⟨g-1,by omega⟩;match l,h with
   | [],_=>rw [rdL,rdL]
   | c::l,h=>
    rw [rdL,rdL,ihN d (c::l) m (by omega) (by omega)];split
    ·rfl
    ·rename_i n k hN;obtain ⟨hk0,hk,_⟩:=(z96 m).1 _ _ _ _ hN;rw [ihL d ((c::l).drop k) m (by rw [List.length_drop];omega) (by omega)]
def rd (d:Nat) (l:List UInt8):Option (Nd×Nat):=rdN (2*l.length) d l
def rds (d:Nat) (l:List UInt8):Option (List Nd×List (List UInt8)):=rdL (2*l.length+1) d l
theorem rd_some {d:Nat} {l:List UInt8} {n:Nd} {k:Nat} (h:rd d l=some (n,k)):0<k∧k≤l.length∧put n=some (l.take k)∧deep n+d≤33:=(z96 _).1 _ _ _ _ h
theorem zmR (d:Nat):rds d []=some ([],[]):=by unfold rds;rw [rdL]
theorem zen (d:Nat) {l:List UInt8} (h:l≠[]):rds d l=match rd d l with
  | none=>none
  | some (n,k)=>match rds d (l.drop k) with
   | none=>none
   | some (ns,cuts)=>some (n::ns,l.take k::cuts):=by
 match l,h with
 | c::t,_=>
  unfold rds;rw [rdL];have e:rdN (2*(c::t).length) d (c::t)=rd d (c::t):=rfl;rw [e];split
  ·rename_i h;rw [h]
  ·rename_i n k h;rw [h];simp only;have hk:=rd_some h;rw [←(za3 _).2 d ((c::t).drop k) (2*(c::t).length) (Nat.le_refl _) (by rw [List.length_drop];omega)];rfl
theorem zlR (d:Nat):rd d []=none:=by unfold rd;rw [show 2*([]:List UInt8).length=0 from rfl,rdN]
theorem za4 (d:Nat) (t:UInt8) (r:List UInt8):rd d (t::r) =
  if may (t.toNat / 64:Nat) (t.toNat%32:Nat) (t.toNat / 32%2==1) then
   match z3l r with
   | none=>none
   | some (size,j)=>
    if r.length-j<size∨32<d then none
    else if t.toNat / 32%2==1 then
     match rds (d+1) ((r.drop j).take size) with
     | none=>none
     | some (ns,cuts)=>if t.toNat / 64=0∧t.toNat%32=17∧rising cuts=false then none else some (.mk (t.toNat / 64:Nat) (t.toNat%32:Nat) true [] ns,1+j+size)
    else if t.toNat / 64=2∨value (t.toNat%32:Nat) ((r.drop j).take size)=true then some (.mk (t.toNat / 64:Nat) (t.toNat%32:Nat) false ((r.drop j).take size) [],1+j+size)
    else none
  else none:=by
 unfold rd;rw [show 2*(t::r).length=(2*r.length+1)+1 by simp;omega,rdN];split
 ·split
  ·rename_i h;rw [h]
  ·rename_i size j h;rw [h];simp only;have hj1:1≤j:=by
    have:=(z1K h).2.1;rcases Nat.eq_zero_or_pos j with h0|h0
    ·subst h0;simp at this;unfold lenB at this;split at this<;>simp at this
    ·exact h0
   have e:rdL (2*r.length+1) (d+1) ((r.drop j).take size)=rds (d+1) ((r.drop j).take size):=by
    unfold rds;rw [←(za3 _).2 (d+1) ((r.drop j).take size) (2*r.length+1) (Nat.le_refl _) (by rw [List.length_take,List.length_drop];omega)]
   rw [e];rfl
 ·rfl
theorem zmQ (b:List UInt8) (h:b.length≤16777216):read b=match rd 1 b with
  | some (n,k)=>if k<b.length then none else some n
  | none=>none:=by
 unfold read rd;rw [if_neg (by omega),←(za3 (2*b.length)).1 1 b (2*b.length+2) (Nat.le_refl _) (by omega)];rfl
theorem z95 {b:List UInt8} {n:Nd} (h:read b=some n):right n=true:=by
 have:=((za2 b n).1 h).1;unfold right;rw [this];rfl
end Dr
end Go.Proofs.YtgmppconibklcaaGreatDoor

namespace Go.Proofs.YtgmppconibklcaaGreatDoor
open Go Go.RowKit
namespace Nd
mutual
def cells:Nd→List D
 | mk c t k b l=>[.leaf (.int .i64 c),.leaf (.int .i64 t),.leaf (.bool k),z04 b,.row 5 (z6I l)]
def z6I:List Nd→List D
 | []=>[]
 | n::l=>n.cells++z6I l
end
theorem z1Z (n:Nd):n.cells.length=5:=by cases n;rw [cells];rfl
theorem zcx (l:List Nd):z6I l=l.flatMap cells:=by
 induction l with
 | nil=>rw [z6I];rfl
 | cons n l ih=>rw [z6I,ih,List.flatMap_cons]
theorem z7b (n:Nd):n.cells=[.leaf (.int .i64 n.cls),.leaf (.int .i64 n.tag),.leaf (.bool n.cons),z04 n.bytes,.row 5 (n.kids.flatMap cells)]:=by
 cases n;rw [cells,zcx];rfl
theorem z6h (l:List Nd) (n:Nd):(l++[n]).flatMap cells=l.flatMap cells++n.cells:=by simp
end Nd
abbrev ndsD (l:List Nd):D:= .row 5 (l.flatMap Nd.cells)
section
variable {w w':World} {Av Av':Nat→Prop}
structure NdAt (w:World) (Av:Nat→Prop) (v:Value) (n:Nd):Prop where
 ex:∃ vb vk,v = .agg #[.int .i64 n.cls,.int .i64 n.tag,.bool n.cons,vb,vk]∧Is w Av vb (z04 n.bytes)∧Is w Av vk (ndsD n.kids)
theorem NdAt.mk_ {n:Nd} {vb vk:Value} (hb:Is w Av vb (z04 n.bytes)) (hk:Is w Av vk (ndsD n.kids)):NdAt w Av (.agg #[.int .i64 n.cls,.int .i64 n.tag,.bool n.cons,vb,vk]) n:=⟨_,_,rfl,hb,hk⟩
theorem NdAt.keep {v:Value} {n:Nd} (h:NdAt w Av v n) (hk:∀ (u:Value) (d:D),Is w Av u d→Is w' Av' u d):NdAt w' Av' v n:=by
 obtain ⟨vb,vk,e,hb,hk'⟩:=h.ex;exact ⟨vb,vk,e,hk _ _ hb,hk _ _ hk'⟩
theorem NdAt.stays {v:Value} {n:Nd} (h:NdAt w Av v n) (hb:Below w.heap.size w w'):NdAt w' Av v n:=h.keep fun _ _ h=>h.stays hb
theorem NdAt.of_all {us:List Value} {n:Nd} (h:z0z w Av us n.cells):∃ vb vk,us=[.int .i64 n.cls,.int .i64 n.tag,.bool n.cons,vb,vk]∧Is w Av vb (z04 n.bytes)∧Is w Av vk (ndsD n.kids):=by
 rw [Nd.z7b] at h;obtain ⟨u0,t0,rfl,h0,h⟩:=h.z2u;obtain ⟨u1,t1,rfl,h1,h⟩:=h.z2u;obtain ⟨u2,t2,rfl,h2,h⟩:=h.z2u;obtain ⟨u3,t3,rfl,h3,h⟩:=h.z2u;obtain ⟨u4,t4,rfl,h4,h⟩:=h.z2u;obtain rfl:=h.zhk;exact ⟨u3,u4,by rw [h0.z0M,h1.z0M,h2.z0M],h3,h4⟩
theorem NdAt.all {vb vk:Value} {n:Nd} (hb:Is w Av vb (z04 n.bytes)) (hk:Is w Av vk (ndsD n.kids)):z0z w Av [.int .i64 n.cls,.int .i64 n.tag,.bool n.cons,vb,vk] n.cells:=by
 rw [Nd.z7b];exact .z0D (.leaf _) (.z0D (.leaf _) (.z0D (.leaf _) (.z0D hb (.z0D hk .nil_))))
theorem Is.nodes {v:Value} {l:List Nd} (h:Is w Av v (ndsD l)):∃ A c,v = .slice A l.length c∧l.length≤c∧∀ k (hk:k<l.length),∃ g o vb vk,A=some ⟨g,o,none⟩∧¬Av g∧g<w.heap.size ∧
  w.cell? ⟨g,o+k*5,none⟩=some (.int .i64 l[k].cls)∧w.cell? ⟨g,o+k*5+1,none⟩=some (.int .i64 l[k].tag)∧w.cell? ⟨g,o+k*5+2,none⟩=some (.bool l[k].cons) ∧
  w.cell? ⟨g,o+k*5+3,none⟩=some vb∧w.cell? ⟨g,o+k*5+4,none⟩=some vk∧Is w Av vb (z04 l[k].bytes)∧Is w Av vk (ndsD l[k].kids):=by
 obtain ⟨A,c,rfl,hc,he⟩:=h.elems Nd.z1Z;refine ⟨A,c,rfl,hc,fun k hk=>?_⟩;obtain ⟨g,o,us,hA,hg,ha,hcell⟩:=he k hk;obtain ⟨vb,vk,rfl,hb,hkk⟩:=NdAt.of_all ha;have c0:=hcell 0 _ rfl;refine ⟨g,o,vb,vk,hA,hg,World.block_lt_of_cell? w _ c0,c0,by rw [Nat.add_assoc];exact hcell 1 _ rfl,by rw [Nat.add_assoc];exact hcell 2 _ rfl,by rw [Nat.add_assoc];exact hcell 3 _ rfl,by rw [Nat.add_assoc];exact hcell 4 _ rfl,hb,hkk⟩
theorem Is.z3e (w:World) (Av:Nat→Prop):Is w Av (.slice none 0 0) (ndsD []):=Is.row_ (us:=[]) (by simp) (by decide) (by simp) ⟨rfl,fun j u d hu=>by simp at hu⟩ (fun h=>by simp at h)
theorem Is.z1U (w:World) (Av:Nat→Prop):Is w Av (.slice none 0 0) (z04 []):=Is.row_ (us:=[]) (by simp) (by decide) (by simp) ⟨rfl,fun j u d hu=>by simp at hu⟩ (fun h=>by simp at h)
theorem Is.cutA {A:Option Addr} {n c k:Nat} {l:List D} (h:Is w Av (.slice A n c) (.row 1 l)) (hk:k≤n):Is w Av (.slice (if c=k then A else A.map (·.add (k*1))) (n-k) (c-k)) (.row 1 (l.drop k)):=by
 obtain ⟨A',n',c',xs,e,hn,hc,_,ha,hs⟩:=h.open_row;injection e with e1 e2 e3;subst e1 e2 e3;refine Is.row_ (us:=xs.drop k) (by simp;omega) (by decide) (by omega) (ha.drop k) fun h0=>?_
 obtain ⟨g,o,rfl,hg,hcell⟩:=hs (by omega);rw [if_neg (by omega)];refine ⟨g,o+k,?_,hg,fun j u hu=>?_⟩
 ·simp only [Option.map_some,Addr.add];split
  ·rename_i hz;simp at hz;subst hz;rfl
  ·simp
 ·rw [List.getElem?_drop] at hu;have:=hcell (k+j) u hu
  rwa [←Nat.add_assoc] at this
theorem Is.zh3 {g o m c:Nat} {x:UInt8} {L:List UInt8} (h:Is w Av (.slice (some ⟨g,o,none⟩) m c) (z04 (x::L))) (hc:1<c):Is w Av (.slice (some ⟨g,o+1,none⟩) (m-1) (c-1)) (z04 L):=by
 have hm:1≤m:=by
  obtain ⟨A',c',e,_⟩:=h.bytes;injection e with _ e2 _;rw [e2];simp
 have:=Is.cutA (k:=1) h hm;rw [if_neg (by omega)] at this;simpa [z04,Addr.add] using this
end
end Go.Proofs.YtgmppconibklcaaGreatDoor

namespace Go.Proofs.YtgmppconibklcaaGreatDoor
open Go Go.RowKit
section
variable {w:World} {Av:Nat→Prop}
theorem Is.byteCells {A:Option Addr} {n c:Nat} {b:List UInt8} (h:Is w Av (.slice A n c) (z04 b)):n=b.length∧n≤c∧(0<n→∃ g o,A=some ⟨g,o,none⟩∧¬Av g∧g<w.heap.size∧∀ j (hj:j<b.length),w.cell? ⟨g,o+j,none⟩=some (.int .u8 (b[j].toNat:Int))):=by
 obtain ⟨A',c',e,hc,hr,hg⟩:=h.bytes;injection e with e1 e2 e3;subst e1 e2 e3;refine ⟨rfl,hc,fun h0=>?_⟩;obtain ⟨g,o,rfl,hav⟩:=hg h0;obtain ⟨ad,e,hb,hcell⟩:=hr.2 h0;injection e with e;subst e;refine ⟨g,o,rfl,hav,hb,fun j hj=>?_⟩;have:=hcell j (.int .u8 (b[j].toNat:Int)) (by simp [Lib.byteCells,List.getElem?_eq_getElem hj]);unfold Addr.add at this;split at this
 ·rename_i h;subst h;exact this
 ·exact this
end
theorem z4p (A:Option Addr) (n c:Nat) (b:List UInt8) (Av:Nat→Prop) (w:World) (h:Is w Av (.slice A n c) (z04 b)):
  Calls Tryz.prog 73 #[.slice A n c] w fun e w'=>e = .returned (.bool (Dr.least b))∧w=w':=by
 obtain ⟨rfl,hc,hcells⟩:=h.byteCells;match b,hcells with
 | [],_=>
  go_enter Tryz.func73,Tryz.ntmps73
  go_wp2_with fail
  go_ret
  exact ⟨rfl,rfl⟩
 | [x],_=>
  go_enter Tryz.func73,Tryz.ntmps73
  go_wp2_with fail
  go_ret
  exact ⟨rfl,rfl⟩
 | x::y::l,hcells=>
  obtain ⟨g,o,rfl,_,_,hcell⟩:=hcells (by simp);have e0:w.cell? ⟨g,o,none⟩=some (.int .u8 (x.toNat:Int)):=hcell 0 (by simp);have e1:w.cell? ⟨g,o+1,none⟩=some (.int .u8 (y.toNat:Int)):=hcell 1 (by simp);obtain ⟨n,hn⟩:∃ n,n=(x::y::l).length:=⟨_,rfl⟩;have hn2:2≤n:=by rw [hn];simp
  have hx:=x.toNat_lt;have hy:=y.toNat_lt;have n0:((n:Int)==0)=false:=by rw [beq_eq_false_iff_ne];omega
  have n1:((n:Int)==1)=false:=by rw [beq_eq_false_iff_ne];omega
  have i0:(0:Int)<(n:Int):=by omega
  have i1:(1:Int)<(n:Int):=by omega
  rw [←hn];clear hcell hcells h hn hc;have HL:Hid (Dr.least (x::y::l)=(!(x.toNat==0&&decide (y.toNat<128)||x.toNat==255&&decide (127<y.toNat)))):=rfl;have D1:decide ((y.toNat:Int)<128)=decide (y.toNat<128):=by rw [decide_eq_decide];omega
  have D2:decide ((127:Int)<(y.toNat:Int))=decide (127<y.toNat):=by rw [decide_eq_decide];omega
  have HD1:=Lib.hid D1;have HD2:=Lib.hid D2;clear D1 D2 hx hy;by_cases hx0:x.toNat=0
  ·have x0:((x.toNat:Int)==0)=true:=by rw [beq_iff_eq];omega
   have x5:((x.toNat:Int)==255)=false:=by rw [beq_eq_false_iff_ne];omega
   have HX:=Lib.hid hx0;clear hx0;by_cases hy1:y.toNat<128
   ·have y1:decide ((y.toNat:Int)<128)=true:=decide_eq_true (by omega);have HY:=Lib.hid hy1;clear hy1;go_enter Tryz.func73,Tryz.ntmps73
    go_wp2_with fail
    go_ret
    exact ⟨by rw [HL.out,HX.out,decide_eq_true HY.out];rfl,rfl⟩
   ·have y1:decide ((y.toNat:Int)<128)=false:=decide_eq_false (by omega);have HY:=Lib.hid hy1;clear hy1;go_enter Tryz.func73,Tryz.ntmps73
    go_wp2_with fail
    go_ret
    exact ⟨by rw [HL.out,HX.out,decide_eq_false HY.out];rfl,rfl⟩
  ·by_cases hx5:x.toNat=255
   ·have x0:((x.toNat:Int)==0)=false:=by rw [beq_eq_false_iff_ne];omega
    have x5:((x.toNat:Int)==255)=true:=by rw [beq_iff_eq];omega
    have HX:=Lib.hid hx5;clear hx0 hx5;go_enter Tryz.func73,Tryz.ntmps73
    go_wp2_with fail
    go_ret
    refine ⟨?_,rfl⟩;rw [HL.out,HX.out,HD2.out];cases decide (127<y.toNat)<;>rfl
   ·have x0:((x.toNat:Int)==0)=false:=by rw [beq_eq_false_iff_ne];omega
    have x5:((x.toNat:Int)==255)=false:=by rw [beq_eq_false_iff_ne];omega
    have HX:=Lib.hid hx0;have HY:=Lib.hid hx5;clear hx0 hx5;go_enter Tryz.func73,Tryz.ntmps73
    go_wp2_with fail
    go_ret
    refine ⟨?_,rfl⟩;rw [HL.out];have h1:(x.toNat==0)=false:=by rw [beq_eq_false_iff_ne];exact HX.out
    have h2:(x.toNat==255)=false:=by rw [beq_eq_false_iff_ne];exact HY.out
    rw [h1,h2];rfl
theorem zcn (t:Int) (w:World):
  Calls Tryz.prog 205 #[.int .i64 t] w fun e w'=>e = .returned (.tuple #[.bool (Dr.z2L t||Dr.z1G t),.bool (Dr.z2L t)])∧w=w':=by
 go_enter Tryz.func205,Tryz.ntmps205
 go_wp2_with fail
 all_goals
  go_ret2
  refine ⟨?_,rfl⟩;simp_all [Dr.z2L,Dr.z1G]
end Go.Proofs.YtgmppconibklcaaGreatDoor

namespace Go.Proofs.YtgmppconibklcaaGreatDoor
open Go Go.RowKit
theorem zbL {w:World} {base:Nat} {e:TypeId} {size n:Nat} {v:Value} {xs:List Value} {ds:List D} {Av:Nat→Prop} (h:w.ownsRow base e size v n xs) (ha:z0z w Av xs ds) (hn:ds.length=n*size) (hz:0<size) (hav:∀ g,Av g→g<base):Is w Av v (.row size ds):=by
 have hx:=ha.1;rcases h.2 with ⟨rfl,rfl⟩|⟨g,cap,cur,rfl,hg,hblk,hnc,hrest⟩
 ·exact Is.row_ hn hz (Nat.le_refl _) ha (fun h=>by omega)
 ·refine Is.row_ hn hz (by omega) ha (fun h0=>⟨g,0,rfl,fun h=>by have:=hav g h;omega,fun j u hu=>?_⟩);have hj:j<n*size:=by rw [←hn,←hx];exact (List.getElem?_eq_some_iff.1 hu).1
  rw [Nat.zero_add];exact (h.cellAt j hj).trans hu
theorem z1x {w:World} {base:Nat} {e:TypeId} {n:Nat} {v:Value} {b:List UInt8} {Av:Nat→Prop} (h:w.ownsRow base e 1 v n (Lib.byteCells b)) (hav:∀ g,Av g→g<base):Is w Av v (z04 b):=by
 rw [zcz];have hl:(Lib.byteCells b).length=n*1:=h.1;exact zbL h (.leaf _ _ _) (by rw [List.length_map];exact hl) (by decide) hav
theorem z4W {w w':World} {base:Nat} {e:TypeId} {size n:Nat} {v:Value} {xs:List Value} (h:w.ownsRow base e size v n xs) (hg:w.grownBy w' v.ownBlock) (hb:base≤w.heap.size):Below base w w' :=
 (Below.refl base w).grown hg hb (fun k hk=>(h.lt k hk).1)
theorem z57 {P:Program} {ops:Array Oper} {rest:List Oper} {o:Oper} {a:Act} {Q:Exit→Act→World→Prop} {w:World} (hgd:o.guard=none) (x:Operand) (t:TypeId)
  (ho:o.op = .call {callee:= .builtin .append,args:=#[.const (.slice none 0 0),x],argTypes:=#[t,t]}) (i:TypeInfo) (ht:P.underlying t=some (.slice 5)) (hi:P.info? 5=some i) (hz:i.zero=some (.int .u8 0))
  (hsize:i.size=1) (hby:i.bytes=1) (B:Nat) (A:Option Addr) (n c:Nat) (b:List UInt8) (hx:a.eval x = .slice A n c) (hr:Reads w B 1 A n (Lib.byteCells b)) (hl:n≤100000000)
  (h:∀ A' c' w',n≤c'→w'.ownsRow w.heap.size 5 1 (.slice A' n c') n (Lib.byteCells b)→Below w.heap.size w w'→wpList P ops Q rest (a.put o.dst (.slice A' n c')) w'):wpList P ops Q (o::rest) a w:=by
 refine z0x _ hgd (.const (.slice none 0 0)) x t ho w.heap.size 5 i _ 1 1 ht hi hz hsize hby rfl (by omega) (.slice none 0 0) 0 [] rfl (World.ownsRow_nil _ _ _ _) B A n c _ hx hr (by intro u hu;obtain ⟨x,_,rfl⟩:=List.mem_map.1 hu;rfl) (by simp only [maxLen];omega) (by omega) (Nat.le_refl _) (fun v' w' h1 h2 h3=>?_);rw [Nat.zero_add,List.nil_append] at h1;obtain ⟨A',c',rfl,hr'⟩:=z0P h1;have hn:n≤c':=by
  rcases h1.2 with ⟨e,rfl⟩|⟨g,cap,cur,e,_,_,hnc,_⟩
  ·omega
  ·injection e with e1 e2 e3;omega
 exact h A' c' w' hn h1 (z4W (World.ownsRow_nil w w.heap.size 5 1) h2 (Nat.le_refl _))
theorem z6p {P:Program} {ops:Array Oper} {rest:List Oper} {o:Oper} {a:Act} {Q:Exit→Act→World→Prop} {w1:World} (hgd:o.guard=none) (s x:Operand) (t e:TypeId)
  (ho:o.op = .call {callee:= .builtin .append,args:=#[s,x],argTypes:=#[t,t]}) (base:Nat) (i:TypeInfo) (z:Value) (size bytes:Nat) (ht:P.underlying t=some (.slice e)) (hi:P.info? e=some i) (hz:i.zero=some z)
  (hsize:i.size=size) (hby:i.bytes=bytes) (hzs:z.cells.size=size) (hsz:0<size) (v:Value) (n:Nat) (xs:List Value) (hs:a.eval s=v) (hown:w1.ownsRow base e size v n xs)
  (us:List Value) (hul:us.length=size) (hu:∀ u∈us,u.oneCell'=true) (cap:Nat) (hx:a.eval x = .slice (some ⟨w1.heap.size,0,none⟩) 1 cap) (hl:n≤10000000) (hby2:bytes≤1000) (hbase:base≤w1.heap.size)
  (h:∀ v' w',w'.ownsRow base e size v' (n+1) (xs++us)→w1.grownBy w' v.ownBlock→(∀ g,v'.ownBlock=some g→v.ownBlock=some g∨w1.heap.size≤g)→wpList P ops Q rest (a.put o.dst v') w'):wpList P ops Q (o::rest) a (w1.alloc (.cells us.toArray e)):=by
 have hr:Reads (w1.alloc (.cells us.toArray e)) (w1.heap.size+1) size (some ⟨w1.heap.size,0,none⟩) 1 us:=
  ⟨by rw [hul,Nat.one_mul],fun _=>⟨_,rfl,by simp,fun j y hy=>by
   have e:((⟨w1.heap.size,0,none⟩:Addr).add j)=⟨w1.heap.size,j,none⟩:=by
    unfold Addr.add;split
    ·rename_i h;subst h;rfl
    ·simp
   rw [e,(Blk.new w1 _ us.toArray).cell];simpa using hy⟩⟩
 have hm:(n+1)*bytes≤(10000000+1)*1000:=Nat.mul_le_mul (by omega) hby2;refine z0x _ hgd s x t ho base e i z size bytes ht hi hz hsize hby hzs hsz v n xs hs (hown.alloc _) _ _ 1 cap _ hx hr hu (by simp only [maxLen];omega) (by omega) (by simp;omega) (fun v' w' h1 h2 h3=>h v' w' h1 ?_ ?_)
 ·exact z2o (World.grownBy_alloc w1 _ _) h2 (fun g hg=> .inl hg)
 ·intro g hg;rcases h3 with h3|h3
  ·exact .inl (by rw [←h3];exact hg)
  ·rw [h3] at hg;injection hg with hg;subst hg;exact .inr (by simp)
end Go.Proofs.YtgmppconibklcaaGreatDoor

