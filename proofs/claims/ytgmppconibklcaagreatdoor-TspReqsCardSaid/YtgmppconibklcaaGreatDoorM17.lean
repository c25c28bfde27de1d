/- Part of the proof. No condition. -/
import Derived.Test.YtgmppconibklcaaGreatDoorM11
import Derived.Test.YtgmppconibklcaaGreatDoorM16
import Derived.Deep.CutRange
set_option maxHeartbeats 40000000
set_option maxRecDepth 100000
set_option linter.unusedVariables false
set_option linter.unusedSimpArgs false
namespace Go.Proofs.YtgmppconibklcaaGreatDoor
namespace Dr
mutual
def mx:Nd→Nat
 | .mk _ _ _ b l=>max b.length (mxs l)
def mxs:List Nd→Nat
 | []=>0
 | n::l=>max (mx n) (mxs l)
end
theorem z2s:∀ {l:List Nd} {x:Nd},x∈l→mx x≤mxs l
 | n::l,x,h=>by
  rw [mxs];rcases List.mem_cons.1 h with rfl|h
  ·exact Nat.le_max_left _ _
  ·exact Nat.le_trans (z2s h) (Nat.le_max_right _ _)
theorem z0Y (n:Nd):mx n=max n.bytes.length (mxs n.kids):=by cases n;rw [mx];rfl
theorem zcq:∀ {l:List Nd} {x:Nd},x∈l→deep x≤z0V l
 | n::l,x,h=>by
  rw [z0V];rcases List.mem_cons.1 h with rfl|h
  ·exact Nat.le_max_left _ _
  ·exact Nat.le_trans (zcq h) (Nat.le_max_right _ _)
theorem z9C:∀ (l:List Nd) (x:Nd),z0V (l++[x])=max (z0V l) (deep x)
 | [],x=>by simp only [List.nil_append,z0V];omega
 | n::l,x=>by rw [List.cons_append,z0V,z0V,z9C l x];omega
theorem z9B:∀ (l:List Nd) (i:Nat),z0V (l.take i)≤z0V l
 | [],i=>by simp
 | n::l,0=>by rw [List.take_zero,z0V];exact Nat.zero_le _
 | n::l,i+1=>by rw [List.take_succ_cons,z0V,z0V];have:=z9B l i;omega
theorem z4C (n:Nd):deep n=z0V n.kids+1:=by cases n;rw [deep];rfl
theorem zlv (n:Nd):1≤deep n:=by rw [z4C];omega
theorem z55:∀ (l:List Nd) (i:Nat),wts (l.take i)≤wts l
 | [],i=>by simp
 | n::l,0=>by rw [List.take_zero,wts];exact Nat.zero_le _
 | n::l,i+1=>by rw [List.take_succ_cons,wts,wts];have:=z55 l i;omega
theorem z4g:∀ (l:List Nd) (x:Nd) {bs:List (List UInt8)} {o:List UInt8},puts l=some bs→put x=some o→puts (l++[x])=some (bs++[o])
 | [],x,bs,o,h,ho=>by
  rw [puts] at h;injection h with h;subst h;rw [List.nil_append,puts,ho,puts];rfl
 | n::l,x,bs,o,h,ho=>by
  rw [puts] at h;split at h
  ·rename_i b hb;split at h
   ·rename_i cs hcs;injection h with h;subst h;rw [List.cons_append,puts,hb,z4g l x hcs ho];rfl
   ·cases h
  ·cases h
theorem zbE:∀ (l:List Nd) (i:Nat) {bs:List (List UInt8)},puts l=some bs→puts (l.take i)=some (bs.take i)
 | [],i,bs,h=>by
  rw [puts] at h;injection h with h;subst h;rw [List.take_nil,List.take_nil,puts]
 | n::l,0,bs,h=>by rw [List.take_zero,List.take_zero,puts]
 | n::l,i+1,bs,h=>by
  rw [puts] at h;split at h
  ·rename_i b hb;split at h
   ·rename_i cs hcs;injection h with h;subst h;rw [List.take_succ_cons,List.take_succ_cons,puts,hb,zbE l i hcs]
   ·cases h
  ·cases h
theorem zil {l:List Nd} {x:Nd} (hx:x∈l) (h:put x=none):puts l=none:=by
 induction l with
 | nil=>cases hx
 | cons n l ih=>
  rw [puts];rcases List.mem_cons.1 hx with rfl|hx
  ·rw [h]
  ·rw [ih hx];split<;>rfl
theorem z97:∀ (l:List Nd) {bs:List (List UInt8)},puts l=some bs→bs.length=l.length
 | [],bs,h=>by
  rw [puts] at h;injection h with h;subst h;rfl
 | n::l,bs,h=>by
  rw [puts] at h;split at h
  ·split at h
   ·rename_i cs hcs;injection h with h;subst h;rw [List.length_cons,List.length_cons,z97 l hcs]
   ·cases h
  ·cases h
theorem z2N:∀ (l:List (List UInt8)) (a o:List UInt8),rising (l++[a]++[o])=(rising (l++[a])&&decide (Lib.compareBytes a o≤0))
 | [],a,o=>by simp [rising]
 | [b],a,o=>by simp [rising]
 | b::c::l,a,o=>by
  have ih:=z2N (c::l) a o;simp only [List.cons_append,rising] at ih ⊢;rw [ih,Bool.and_assoc]
theorem z7v:∀ (l:List (List UInt8)) (i:Nat),rising l=true→rising (l.take i)=true
 | _,0,_=>by rw [List.take_zero];rfl
 | [],i,h=>by rw [List.take_nil];rfl
 | [a],i+1,h=>by rw [List.take_succ_cons,List.take_nil];rfl
 | a::b::l,1,h=>rfl
 | a::b::l,i+2,h=>by
  rw [rising,Bool.and_eq_true] at h;have ih:=z7v (b::l) (i+1) h.2;rw [List.take_succ_cons,List.take_succ_cons] at *;rw [rising,ih,h.1];rfl
theorem z6u {c t:Int} {k:Bool} {b:List UInt8} {l:List Nd} {x:Nd} (hx:x∈l) (h:put x=none):put (.mk c t k b l)=none:=by
 rw [put,zil hx h];split<;>rfl
theorem z3m {k:Bool} {b:List UInt8} {l:List Nd} {i:Nat} {bs:List (List UInt8)} (h:puts (l.take i)=some bs) (hr:rising bs=false):put (.mk 0 17 k b l)=none:=by
 rw [put];split
 ·split
  ·rename_i cs hcs;have h1:=zbE l i hcs;rw [h] at h1;injection h1 with h1;rw [if_pos];cases hc:rising cs with
   | false=>rfl
   | true=>rw [h1,z7v cs i hc] at hr;cases hr
  ·rfl
 ·rfl
theorem z5s {c t:Int} {k:Bool} {b:List UInt8} {l:List Nd} {bs:List (List UInt8)} (hm:may c t k=true) (h1:k=true→b.length=0) (h2:k=false→l.length=0) (h3:c=0→k=false→value t b=true) (h:puts l=some bs)
  (hr:c=0→t=17→rising bs=true):put (.mk c t k b l)=some (head c t k (b++bs.flatten).length++(b++bs.flatten)):=by
 rw [put,h,if_pos]
 ·show (if _ then _ else _)=_;rw [if_neg];intro hx;simp only [Bool.and_eq_true,beq_iff_eq,Bool.not_eq_true'] at hx;rw [hr hx.1.1 hx.1.2] at hx;cases hx.2
 ·rw [hm];cases k with
  | true=>rw [h1 rfl];simp
  | false=>
   rw [h2 rfl];by_cases hc:c=0
   ·rw [h3 hc rfl];simp
   ·have:(c==0)=false:=by simp [hc]
    rw [this];simp
theorem zim (n:Nd) {o:List UInt8} (h:put n=some o):1≤o.length:=by
 obtain ⟨c,t,k,b,l⟩:=n;rw [put] at h;split at h
 ·split at h
  ·split at h
   ·cases h
   ·injection h with h;subst h;rw [List.length_append,head,List.length_cons];omega
  ·cases h
 ·cases h
theorem z7R {c t:Int} {k:Bool} (h:may c t k=true):∃ c' t':Nat,c=(c':Int)∧t=(t':Int)∧(c'=0∨c'=2)∧t'≤30:=by
 unfold may at h;simp only [Bool.and_eq_true,Bool.or_eq_true,decide_eq_true_eq,beq_iff_eq] at h;obtain ⟨⟨h0,h30⟩,hc⟩:=h;refine ⟨c.toNat,t.toNat,?_,by omega,?_,by omega⟩
 ·rcases hc with rfl|⟨rfl,_⟩<;>rfl
 ·rcases hc with rfl|⟨rfl,_⟩
  ·right;rfl
  ·left;rfl
end Dr
end Go.Proofs.YtgmppconibklcaaGreatDoor

namespace Go.Proofs.YtgmppconibklcaaGreatDoor
open Go Go.RowKit
theorem z36 {P:Program} {ops:Array Oper} {rest:List Oper} {o:Oper} {a:Act} {Q:Exit→Act→World→Prop} {w:World} (hgd:o.guard=none) (s x:Operand) (t:TypeId)
  (ho:o.op = .call {callee:= .builtin .append,args:=#[s,x],argTypes:=#[t,t]}) (i:TypeInfo) (ht:P.underlying t=some (.slice 5)) (hi:P.info? 5=some i) (hz:i.zero=some (.int .u8 0))
  (hsize:i.size=1) (hby:i.bytes=1) (B B2:Nat) (A A2:Option Addr) (n m c2:Nat) (b b2:List UInt8) (hs:a.eval s = .slice A n n) (hr:Reads w B 1 A n (Lib.byteCells b)) (hx:a.eval x = .slice A2 m c2) (hr2:Reads w B2 1 A2 m (Lib.byteCells b2))
  (hm:0<m) (hl:n+m≤100000000)
  (h:∀ A' c' w',n+m≤c'→w'.ownsRow w.heap.size 5 1 (.slice A' (n+m) c') (n+m) (Lib.byteCells (b++b2))→Below w.heap.size w w'→wpList P ops Q rest (a.put o.dst (.slice A' (n+m) c')) w'):wpList P ops Q (o::rest) a w:=by
 obtain ⟨ad,rfl,_,hc⟩:=hr2.2 hm;refine wpList_append_grows w hgd s x t ho 5 i _ 1 1 ht hi hz hsize hby rfl (by omega) A n n (Lib.byteCells b) hs (fun hA=>?_) hr.1 (fun bb hA j u hu=>?_) ad m c2 (Lib.byteCells b2) hx hr2.1 hc (by intro u hu;obtain ⟨x,_,rfl⟩:=List.mem_map.1 hu;rfl) (by omega) (by simp only [maxLen];omega) (by omega) (fun v' w' h1 h2=>?_)
 ·rcases Nat.eq_zero_or_pos n with h0|h0
  ·exact ⟨h0,h0⟩
  ·obtain ⟨_,h,_⟩:=hr.2 h0;rw [hA] at h;cases h
 ·rcases Nat.eq_zero_or_pos n with h0|h0
  ·have:(Lib.byteCells b).length=0:=by rw [hr.1];omega
   rw [List.eq_nil_of_length_eq_zero this] at hu;cases hu
  ·obtain ⟨_,h,_,hcc⟩:=hr.2 h0;rw [hA] at h;injection h with h;subst h
   exact hcc j u hu
 ·rw [←Lib.byteCells_append] at h1;obtain ⟨A',c',rfl,hr'⟩:=z0P h1;have hn:n+m≤c':=by
   rcases h1.2 with ⟨e,h0⟩|⟨g,cap,cur,e,_,_,hnc,_⟩
   ·omega
   ·injection e with e1 e2 e3;omega
  exact h A' c' w' hn h1 ⟨h2.os,h2.tape,h2.output,h2.size,fun k hk=>h2.block k hk (by simp)⟩
theorem zcL {P:Program} {ops:Array Oper} {rest:List Oper} {o:Oper} {a:Act} {Q:Exit→Act→World→Prop} {w1:World} (hgd:o.guard=none) (s x:Operand) (t:TypeId)
  (ho:o.op = .call {callee:= .builtin .append,args:=#[s,x],argTypes:=#[t,t]}) (base:Nat) (i:TypeInfo) (ht:P.underlying t=some (.slice 5)) (hi:P.info? 5=some i) (hz:i.zero=some (.int .u8 0))
  (hsize:i.size=1) (hby:i.bytes=1) (v:Value) (l:List UInt8) (hs:a.eval s=v) (hown:w1.ownsRow base 5 1 v l.length (Lib.byteCells l))
  (B:Nat) (A:Option Addr) (m c:Nat) (l2:List UInt8) (hx:a.eval x = .slice A m c) (hr:Reads w1 B 1 A m (Lib.byteCells l2)) (hl:l.length+m≤100000000) (hbase:base≤w1.heap.size)
  (h:∀ v' w',w'.ownsRow base 5 1 v' (l++l2).length (Lib.byteCells (l++l2))→Below base w1 w'→wpList P ops Q rest (a.put o.dst v') w'):wpList P ops Q (o::rest) a w1:=by
 have hm:m=l2.length:=by have:=hr.1;rw [Lib.byteCells_length] at this;omega
 refine z0x _ hgd s x t ho base 5 i _ 1 1 ht hi hz hsize hby rfl (by omega) v l.length (Lib.byteCells l) hs hown B A m c (Lib.byteCells l2) hx hr (by intro u hu;obtain ⟨c,_,rfl⟩:=List.mem_map.1 hu;rfl) (by simp only [maxLen];omega) (by omega) hbase (fun v' w' h1 h2 h3=>h v' w' ?_ ?_)
 ·rw [Lib.byteCells_append,List.length_append,←hm];exact h1
 ·exact (Below.refl base w1).grown h2 hbase (fun k hk=>(hown.lt k hk).1)
structure zdZ (w wr:World) (wb nb i:Nat) (D d:Int) (c t:Int) (k:Bool) (b:List UInt8) (l:List Nd) (cs5:Array Value) (v7 v8:Value) (bs:List (List UInt8)):Prop where
 puts:Dr.puts (l.take i)=some bs
 ris:c=0→t=17→Dr.rising bs=true
 acc:Is wr (fun g=>g=wb) v7 (z04 (b++bs.flatten))
 last:0<i→Is wr (fun g=>g=wb) v8 (z04 (bs.getLastD []))
 wri:Blk wr wb 126 #[.int .i64 (max D (d+(Dr.z0V (l.take i):Int))),.bool false]
 node:Blk wr w.heap.size 61 cs5
 grown:w.grownBy wr (some wb)
theorem zdZ.count {w wr:World} {wb nb i:Nat} {D d:Int} {c t:Int} {k:Bool} {b:List UInt8} {l:List Nd} {cs5:Array Value} {v7 v8:Value} {bs:List (List UInt8)} (HI:zdZ w wr wb nb i D d c t k b l cs5 v7 v8 bs) (hil:i<l.length):bs.length=i:=by
 have hlen:=Dr.z97 _ HI.puts;rw [List.length_take,Nat.min_eq_left (by omega)] at hlen;exact hlen
theorem zin {w wr:World} {wb nb i:Nat} {D d:Int} {c t:Int} {k:Bool} {b:List UInt8} {l:List Nd} {cs5:Array Value} {v7 v8:Value} {bs:List (List UInt8)} {la oo:List UInt8} {x:Nd} (HI:zdZ w wr wb nb i D d c t k b l cs5 v7 v8 bs) (hla:la=bs.getLastD [])
  (hil:i<l.length) (hx:x=l[i]) (hp:Dr.put x=some oo) (hbd:(c==0&&t==17&&decide (0<i)&&decide (0<Lib.compareBytes la oo))=true):Dr.put (.mk c t k b l)=none:=by
 simp only [Bool.and_eq_true,beq_iff_eq,decide_eq_true_eq] at hbd;obtain ⟨⟨⟨hc,ht⟩,hi0⟩,hcmp⟩:=hbd;rw [hc,ht];have hps:Dr.puts (l.take (i+1))=some (bs++[oo]):=by
  rw [List.take_succ_eq_append_getElem hil,←hx];exact Dr.z4g _ _ HI.puts hp
 refine Dr.z3m hps ?_;have hlen:=HI.count hil;rcases List.eq_nil_or_concat bs with h0|⟨bs0,a0,h0⟩
 ·rw [h0] at hlen;simp at hlen;omega
 ·rw [h0] at hla ⊢;rw [List.concat_eq_append] at hla ⊢;rw [Dr.z2N];have e:(bs0++[a0]).getLastD []=a0:=by simp
  rw [e] at hla;rw [hla] at hcmp;rw [decide_eq_false (by omega),Bool.and_false]
theorem zdZ.step {w wr V2 V3:World} {wb nb i n7:Nat} {D d:Int} {c t:Int} {k:Bool} {b:List UInt8} {l:List Nd} {cs5:Array Value} {v7 v8 v7' v11:Value} {bs:List (List UInt8)} {la oo:List UInt8} {x:Nd} (HI:zdZ w wr wb nb i D d c t k b l cs5 v7 v8 bs) (hla:la=bs.getLastD [])
  (hil:i<l.length) (hx:x=l[i]) (hp:Dr.put x=some oo) (hbd:(c==0&&t==17&&decide (0<i)&&decide (0<Lib.compareBytes la oo))=false)
  (hW2:Blk V2 wb 126 #[.int .i64 (max D (d+(Dr.z0V (l.take (i+1)):Int))),.bool false]) (hK2:Blk V2 w.heap.size 61 cs5) (hG2:wr.grownBy V2 (some wb)) (hb3:Below V2.heap.size V2 V3) (hO2:Is V2 (fun g=>g=wb) v11 (z04 oo))
  (ho3:V3.ownsRow V2.heap.size 5 1 v7' n7 (Lib.byteCells (b++bs.flatten++oo))):zdZ w V3 wb nb (i+1) D d c t k b l cs5 v7' v11 (bs++[oo]):=by
 refine ⟨?_,?_,?_,?_,hW2.below hb3 hW2.lt,hK2.below hb3 hK2.lt,World.grownBy.trans (World.grownBy.trans HI.grown hG2) (z0e hb3 _)⟩
 ·rw [List.take_succ_eq_append_getElem hil,←hx];exact Dr.z4g _ _ HI.puts hp
 ·intro hc ht;have hlen:=HI.count hil;rcases List.eq_nil_or_concat bs with h0|⟨bs0,a0,h0⟩
  ·rw [h0];rfl
  ·have hrs:=HI.ris hc ht;have hi0:0<i:=by rw [h0] at hlen;simp at hlen;omega
   rw [h0,List.concat_eq_append] at hla hrs ⊢;have e:(bs0++[a0]).getLastD []=a0:=by simp
   rw [e] at hla;rw [hla,hc,ht,decide_eq_true hi0] at hbd;rw [Dr.z2N,hrs,Bool.true_and];have hb2:¬(0<Lib.compareBytes a0 oo):=by simpa using hbd
   exact decide_eq_true (by omega)
 ·have:=z1x (Av:=fun g=>g=wb) ho3 (fun g hg=>by have:=hW2.lt;omega);have e:b++bs.flatten++oo=b++(bs++[oo]).flatten:=by simp
  rw [e] at this;exact this
 ·intro _;have e:(bs++[oo]).getLastD []=oo:=by simp
  rw [e];exact hO2.stays hb3
theorem Is.z3x {w:World} {Av:Nat→Prop} {A:Option Addr} {n c:Nat} {b:List UInt8} (h:Is w Av (.slice A n c) (z04 b)):Reads w w.heap.size 1 A n (Lib.byteCells b)∧n=b.length∧n≤c:=by
 obtain ⟨A',c',e,hc,hr,_⟩:=h.bytes;injection e with e1 e2 e3;subst e1 e3;rw [←e2] at hr;exact ⟨hr,e2,by omega⟩
def zjU (M:Nat):Prop:=∀ (n:Nd) (Ab Ak:Option Addr) (cb ck:Nat) (w:World) (wb:Nat) (D d:Int),Dr.wt n≤M→Dr.wt n≤10000000→Dr.mx n≤40000→1≤d→d+Dr.deep n≤1000000→0≤D∧D≤1000000→Blk w wb 126 #[.int .i64 D,.bool false] →
  NdAt w (fun g=>g=wb) (.agg #[.int .i64 n.cls,.int .i64 n.tag,.bool n.cons,.slice Ab n.bytes.length cb,.slice Ak n.kids.length ck]) n→z8D wb w →
  Calls Tryz.prog 77 #[.pointer (some ⟨wb,0,none⟩),.agg #[.int .i64 n.cls,.int .i64 n.tag,.bool n.cons,.slice Ab n.bytes.length cb,.slice Ak n.kids.length ck],.int .i64 d] w (z8p n w wb D d)
theorem zdJ (M:Nat) (ih:zjU M):zjU (M+1):=by
  intro n Ab Ak cb ck w wb D d hwt hwt2 hmx hd1 hd2 hD hw hn hT;have hmxp:=Dr.z0Y n;by_cases hbad:Dr.may n.cls n.tag n.cons=false∨(Dr.may n.cls n.tag n.cons=true∧n.cons=true∧0<n.bytes.length)∨(Dr.may n.cls n.tag n.cons=true∧n.cons=false∧0<n.kids.length) ∨
   (Dr.may n.cls n.tag n.cons=true∧n.cons=false∧n.kids.length=0∧n.cls=0∧Dr.value n.tag n.bytes=false)
  ·exact zgQ n Ab Ak cb ck w wb D d ⟨hd1,by omega⟩ hD hw hn (by omega) hT hbad
  ·have IH:=Lib.hid ih;have hmay:Dr.may n.cls n.tag n.cons=true:=by
    cases h:Dr.may n.cls n.tag n.cons with
    | true=>rfl
    | false=>exact absurd (.inl h) hbad
   have hcase:(n.cons=true∧n.bytes.length=0)∨(n.cons=false∧n.kids.length=0∧n.cls≠0)∨(n.cons=false∧n.kids.length=0∧n.cls=0∧Dr.value n.tag n.bytes=true):=by
    simp only [not_or,not_and] at hbad;obtain ⟨_,h2,h3,h4⟩:=hbad;cases hk:n.cons with
    | true=>exact .inl ⟨rfl,by have:=h2 hmay hk;omega⟩
    | false=>
     have h0:n.kids.length=0:=by have:=h3 hmay hk;omega
     by_cases hc:n.cls=0
     ·refine .inr (.inr ⟨rfl,h0,hc,?_⟩);cases hv:Dr.value n.tag n.bytes with
      | true=>rfl
      | false=>exact absurd hv (h4 hmay hk h0 hc)
     ·exact .inr (.inl ⟨rfl,h0,hc⟩)
   clear hbad;have hlt:=hw.lt;obtain ⟨q0,q1,f0,f1⟩:=hw.two;obtain ⟨nb,hnb⟩:∃ nb,nb=n.bytes.length:=⟨_,rfl⟩;obtain ⟨nk,hnk⟩:∃ nk,nk=n.kids.length:=⟨_,rfl⟩;have hwp:=z0W n;have hdp:=Dr.z4C n;rw [←hnb,←hnk] at hcase hn ⊢;rw [←hnb] at hmxp hwp;obtain ⟨c,t,k,b,l⟩:=n;simp only [Nd.cls,Nd.tag,Nd.cons,Nd.bytes,Nd.kids] at hcase hn hmay hmxp hwp hdp hnb hnk ⊢;obtain ⟨s1,s2,s3,s4⟩:=zbF (d:=d) (t:=61) (cs:=#[.int .i64 c,.int .i64 t,.bool k,.slice Ab nb cb,.slice Ak nk ck]) hw;obtain ⟨V,hV⟩:∃ V,V=(w.setCell ⟨wb,0,none⟩ (.int .i64 (max D d))).alloc (.cells #[.int .i64 c,.int .i64 t,.bool k,.slice Ab nb cb,.slice Ak nk ck] 61):=⟨_,rfl⟩;rw [←hV] at s1 s2 s3 s4;have hnb4:nb≤40000:=by omega
   have hwl:nb+Dr.wts l≤10000000:=by omega
   have hnk9:nk≤1000000:=by have:=z1E l;rw [hnk];omega
   have HS:Hid (Dr.wts l≤M∧Dr.wts l≤10000000∧Dr.mxs l≤40000∧d+1+(Dr.z0V l:Int)≤1000000):=⟨by omega,by omega,by omega,by omega⟩;have hdd:d≤999999:=by omega
   have hDl:=hD.1;have hDh:=hD.2;have HG:=Lib.hid s1;have HW:=Lib.hid s2;have HK:=Lib.hid s3;have HZ:=Lib.hid s4;have HV:=Lib.hid hV;have HNB:=Lib.hid (And.intro hnb hnk);have HN:=Lib.hid hn;have HT:=Lib.hid hT;have HM:=Lib.hid hmay;have HC:=Lib.hid hcase;clear s1 s2 s3 s4 hV hnb hnk hn hT hmay hwt hwt2 hmx hmxp hwp hdp hd2 hw hD hcase ih;go_enter Tryz.func77,Tryz.ntmps77
   go_upto_region 2 with fail
   rw [←HV.out];clear q0 q1 f0 f1;go_cut [62] from 21 (fun s62 wx=>s62 = .bool false∧Below V.heap.size V wx)
   case first=>
    obtain ⟨q0,q1,f0,f1⟩:=HW.out.two;obtain ⟨p0,p1,p2,p3,p4,g0,g1,g2,g3,g4⟩:=HK.out.five
    go_wp2_with fail
    refine (z4B c t k _ _ V).mono ?_;rintro e w2 ⟨rfl,hb2⟩;rw [HM.out];have HB2:=Lib.hid hb2;have HK2:=Lib.hid (HK.out.below hb2 HK.out.lt);clear hb2 q0 q1 f0 f1 p0 p1 p2 p3 p4 g0 g1 g2 g3 g4;obtain ⟨p0,p1,p2,p3,p4,g0,g1,g2,g3,g4⟩:=HK2.out.five;rcases HC.out with ⟨rfl,rfl⟩|⟨rfl,rfl,hc⟩|⟨rfl,rfl,hc,hv⟩
    ·by_cases hc:c=0
     ·have hc2:(c==0)=true:=by simp [hc]
      clear hc
      go_wp2_with fail
      go_meet
      exact ⟨rfl,HB2.out⟩
     ·have hc2:(c==0)=false:=by simp [hc]
      clear hc
      go_wp2_with fail
      go_meet
      exact ⟨rfl,HB2.out⟩
    ·have hc2:(c==0)=false:=by simp [hc]
     clear hc
     go_wp2_with fail
     go_meet
     exact ⟨rfl,HB2.out⟩
    ·have HVV:=Lib.hid hv;have hc2:(c==0)=true:=by simp [hc]
     clear hc;have HIS:Hid (Is w2 (fun g=>g=wb) (.slice Ab nb cb) (z04 b)):=HN.out.zcy.grown (World.grownBy.trans HG.out (z0e HB2.out _)) (fun g hg=>by injection hg with hg;exact hg.symm);have HTV:Hid (Tabs w2):=(HT.out.below (z2m (World.grownBy.trans HG.out (z0e HB2.out _)) hlt)).tabs;clear hv
     go_wp2_with fail
     refine (z4o t Ab nb cb b _ w2 HIS.out hnb4 HTV.out).mono ?_;rintro e w3 ⟨rfl,hb3⟩;rw [HVV.out];have HB3:=Lib.hid (HB2.out.trans (hb3.mono HB2.out.size));clear hb3
     go_wp2_with fail
     go_meet
     exact ⟨rfl,HB3.out⟩
   case rest=>
   obtain ⟨rfl,hbc⟩:=hcut;have HWc:=Lib.hid (HW.out.below hbc HW.out.lt);have HKc:=Lib.hid (HK.out.below hbc HK.out.lt);have HBc:=Lib.hid hbc;clear hbc HW HK;obtain ⟨i8,hi8,hz80,hz81,hz82⟩:=info_parts z4U;obtain ⟨q0,q1,f0,f1⟩:=HWc.out.two;obtain ⟨p0,p1,p2,p3,p4,g0,g1,g2,g3,g4⟩:=HKc.out.five
   go_wp2_with fail
   clear q0 q1 f0 f1 p0 p1 p2 p3 p4 g0 g1 g2 g3 g4
   go_loopw [7,8,71] (fun t7 t8 t71 wr=>∃ (i m7 c7 m8 c8:Nat) (A7 A8:Option Addr) (bs:List (List UInt8)),t7 = .slice A7 m7 c7∧t8 = .slice A8 m8 c8∧t71 = .int .i64 i∧i≤nk∧Hid (zdZ w wr wb nb i D d c t k b l #[.int .i64 c,.int .i64 t,.bool k,.slice Ab nb cb,.slice Ak nk ck] (.slice A7 m7 c7) (.slice A8 m8 c8) bs)) (fun _ _ t71 _=>nk-(intOf t71).toNat)
   case atStart=>
    refine ⟨0,nb,cb,0,0,Ab,none,[],rfl,rfl,rfl,Nat.zero_le _,⟨by rw [List.take_zero,Dr.puts],fun _ _=>rfl,?_,fun h=>absurd h (by decide),?_,HKc.out,World.grownBy.trans HG.out (z0e HBc.out _)⟩⟩
    ·rw [List.flatten_nil,List.append_nil];exact HN.out.zcy.grown (World.grownBy.trans HG.out (z0e HBc.out _)) (fun g hg=>by injection hg with hg;exact hg.symm)
    ·rw [List.take_zero,Dr.z0V];have e:d+((0:Nat):Int)=d:=by simp
     rw [e];exact HWc.out
   case round=>
    obtain ⟨i,m7,c7,m8,c8,A7,A8,bs,rfl,rfl,rfl,hik,HI⟩:=hrel;clear HWc HKc;have hm7:m7≤c7∧m7≤10000000:=by
     obtain ⟨A',c',e,hc,_⟩:=HI.out.acc.bytes;injection e with e1 e2 e3;subst e1 e3;refine ⟨by omega,?_⟩;have h1:=Dr.z5r _ HI.out.puts (by have:=Dr.z55 l i;omega);have h2:=Dr.z55 l i;have h3:=HNB.out.1;rw [e2,List.length_append];omega
    obtain ⟨hm7c,hm7b⟩:=hm7;by_cases hin:i<nk
    ·have hin1:decide ((i:Int)<(nk:Int))=true:=decide_eq_true (by omega);have hil:i<l.length:=by rw [←HNB.out.2];exact hin
     have hk1:Is wr (fun g=>g=wb) (.slice Ak nk ck) (ndsD l):=HN.out.kids_.grown HI.out.grown (fun g hg=>by injection hg with hg;exact hg.symm);obtain ⟨A',c',e,_,hel⟩:=hk1.nodes;injection e with e1 e2 e3;subst e1 e3;clear hk1 e2;obtain ⟨g,o,vb,vk,hAk,_,hgw,k0,k1,k2,k3,k4,kb,kk⟩:=hel i hil;subst hAk;clear hel;obtain ⟨x,hx⟩:∃ x,x=l[i]'hil:=⟨_,rfl⟩;rw [←hx] at k0 k1 k2 kb kk;obtain ⟨Ab2,cb2,eb,hcb,_⟩:=kb.bytes;obtain ⟨Ak2,ck2,ek,hck,_⟩:=kk.nodes;subst eb ek;have hwt:Dr.wt x≤Dr.wts l:=by rw [hx];exact z2I hil
     have hmem:x∈l:=by rw [hx];exact List.getElem_mem hil
     have HX:Hid (x=l[i]'hil∧x∈l∧Dr.wt x≤Dr.wts l):=⟨hx,hmem,hwt⟩;clear hx hmem hwt;have HKX:Hid (NdAt wr (fun g=>g=wb) (.agg #[.int .i64 x.cls,.int .i64 x.tag,.bool x.cons,.slice Ab2 x.bytes.length cb2,.slice Ak2 x.kids.length ck2]) x):=⟨_,_,rfl,kb,kk⟩;obtain ⟨nb2,hnb2⟩:∃ nb2,nb2=x.bytes.length:=⟨_,rfl⟩;obtain ⟨nk2,hnk2⟩:∃ nk2,nk2=x.kids.length:=⟨_,rfl⟩;rw [←hnb2] at k3 hcb;rw [←hnk2] at k4 hck;obtain ⟨V1,hV1⟩:∃ V1,V1=wr.alloc (.cells #[.int .i64 x.cls,.int .i64 x.tag,.bool x.cons,.slice Ab2 nb2 cb2,.slice Ak2 nk2 ck2] 61):=⟨_,rfl⟩;have HB1:Hid (Below wr.heap.size wr V1):=by show Below _ _ _;rw [hV1];exact (Below.refl _ wr).alloc (Nat.le_refl _) _
     have HK1:Hid (Blk V1 wr.heap.size 61 #[.int .i64 x.cls,.int .i64 x.tag,.bool x.cons,.slice Ab2 nb2 cb2,.slice Ak2 nk2 ck2]):=by show Blk _ _ _ _;rw [hV1];exact Blk.new wr _ _
     have HNB2:=Lib.hid (And.intro hnb2 hnk2);have HV1:=Lib.hid hV1;clear hV1 hnb2 hnk2 kb kk
     go_upto_region 10 with fail
     rw [←HV1.out];clear k0 k1 k2 k3 k4;obtain ⟨p0,p1,p2,p3,p4,g0,g1,g2,g3,g4⟩:=HK1.out.five
     go_wp2_with fail
     have hcall:=IH.out x Ab2 Ak2 cb2 ck2 V1 wb (max D (d+(Dr.z0V (l.take i):Int))) (d+1) (by have:=HX.out.2.2;have:=HS.out.1;omega) (by have:=HX.out.2.2;have:=HS.out.2.1;omega) (by have:=Dr.z2s HX.out.2.1;have:=HS.out.2.2.1;omega) (by omega)
      (by have:=Dr.zcq HX.out.2.1;have:=HS.out.2.2.2;omega) (by
       have h1:Dr.z0V (l.take i)≤Dr.z0V l:=Dr.z9B l i;have:=HS.out.2.2.2;omega) (HI.out.wri.below HB1.out HI.out.wri.lt) (HKX.out.stays HB1.out) (HT.out.below (z2m (World.grownBy.trans HI.out.grown (z0e HB1.out _)) hlt))
     rw [←HNB2.out.1,←HNB2.out.2] at hcall;refine hcall.mono ?_;clear hcall p0 p1 p2 p3 p4 g0 g1 g2 g3 g4;rintro e V2 ⟨hg2,hm2⟩;have HG2:Hid (wr.grownBy V2 (some wb)):=World.grownBy.trans (z0e HB1.out _) hg2;have HK2:Hid (Blk V2 w.heap.size 61 #[.int .i64 c,.int .i64 t,.bool k,.slice Ab nb cb,.slice (some ⟨g,o,none⟩) nk ck]):=HI.out.node.grown HG2.out (fun e=>by injection e with e;omega);cases hpx:Dr.put x with
     | none=>
      rw [hpx] at hm2;obtain ⟨D',rfl,hb2⟩:=hm2;have HW2:=Lib.hid hb2;have HP:=Lib.hid hpx;clear hg2 hb2 hpx;obtain ⟨q0,q1,f0,f1⟩:=HW2.out.two
      go_wp2_with fail
      go_ret
      exact zio (Dr.z6u HX.out.2.1 HP.out) (z0r (World.grownBy.trans HI.out.grown HG2.out) (.inl rfl) _) rfl (HW2.out.set_ 1 _)
     | some oo=>
      rw [hpx] at hm2;obtain ⟨v,rfl,ho2,hb2⟩:=hm2;obtain ⟨A11,c11,rfl,hr11⟩:=z0P ho2;have HP:=Lib.hid hpx;have HW2:Hid (Blk V2 wb 126 #[.int .i64 (max D (d+(Dr.z0V (l.take (i+1)):Int))),.bool false]):=by
       show Blk _ _ _ _;have e:max (max D (d+(Dr.z0V (l.take i):Int))) (d+1+(Dr.deep x:Int)-1)=max D (d+(Dr.z0V (l.take (i+1)):Int)):=by
        rw [List.take_succ_eq_append_getElem hil,←HX.out.1,Dr.z9C];omega
       rw [←e];exact hb2
      have HO2:Hid (Is V2 (fun g=>g=wb) (.slice A11 oo.length c11) (z04 oo)):=z1x ho2 (fun g hg=>by have:=HI.out.wri.lt;have:=HB1.out.size;omega);have HA2:Hid (Is V2 (fun g=>g=wb) (.slice A7 m7 c7) (z04 (b++bs.flatten))):=HI.out.acc.grown HG2.out (fun g hg=>by injection hg with hg;exact hg.symm);have HL2:Hid (0<i→Is V2 (fun g=>g=wb) (.slice A8 m8 c8) (z04 (bs.getLastD []))):=fun h=>(HI.out.last h).grown HG2.out (fun g hg=>by injection hg with hg;exact hg.symm)
      have hpos:=Dr.zim x hpx;have hol:oo.length≤10000000:=by have:=Dr.zdh x hpx (by have:=HX.out.2.2;omega);have:=HX.out.2.2;omega
      obtain ⟨no,hno⟩:∃ no,no=oo.length:=⟨_,rfl⟩;rw [←hno] at HO2 hpos hol ⊢;have HNO:=Lib.hid hno;clear hg2 hb2 hpx ho2 hr11 hno;obtain ⟨la,hla⟩:∃ la,la=bs.getLastD []:=⟨_,rfl⟩;have HLA:=Lib.hid hla;rw [←hla] at HL2;clear hla;obtain ⟨q0,q1,f0,f1⟩:=HW2.out.two;obtain ⟨p0,p1,p2,p3,p4,g0,g1,g2,g3,g4⟩:=HK2.out.five;cases hc0:(c==0) with
      | false=>
       go_wp2_with (refine z36 rfl (.tmp 113) (.tmp 114) 22 rfl i8 Tryz.underlying22 hi8 hz80 hz81 hz82 _ _ A7 A11 m7 no c11 _ oo rfl HA2.out.z3x.1 rfl HO2.out.z3x.1 hpos (by omega) ?_;intro A7' c7' V3 hc3 ho3 hb3)
       refine ⟨⟨i+1,m7+no,c7',no,c11,A7',A11,bs++[oo],rfl,rfl,by go_num,by omega,HI.out.step HLA.out hil HX.out.1 HP.out (by rw [hc0];rfl) HW2.out HK2.out HG2.out hb3 HO2.out ho3⟩,by simp [intOf];omega⟩
      | true=>
       cases ht0:(t==17) with
       | false=>
        go_wp2_with (refine z36 rfl (.tmp 113) (.tmp 114) 22 rfl i8 Tryz.underlying22 hi8 hz80 hz81 hz82 _ _ A7 A11 m7 no c11 _ oo rfl HA2.out.z3x.1 rfl HO2.out.z3x.1 hpos (by omega) ?_;intro A7' c7' V3 hc3 ho3 hb3)
        refine ⟨⟨i+1,m7+no,c7',no,c11,A7',A11,bs++[oo],rfl,rfl,by go_num,by omega,HI.out.step HLA.out hil HX.out.1 HP.out (by rw [ht0,Bool.and_false];rfl) HW2.out HK2.out HG2.out hb3 HO2.out ho3⟩,by simp [intOf];omega⟩
       | true=>
        by_cases hi0:0<i
        ·have hi1:decide ((0:Int)<(i:Int))=true:=decide_eq_true (by omega);have HI0:=Lib.hid hi0;have HCT:=Lib.hid (And.intro hc0 ht0);clear hi0
         go_wp2_with fail
         refine (z43 A8 A11 m8 no c8 c11 la oo _ _ V2 (HL2.out HI0.out).z3x.1 HO2.out.z3x.1).mono ?_;rintro e V2' ⟨rfl,rfl⟩;obtain ⟨cmp,hcmp⟩:∃ cmp,cmp=Lib.compareBytes la oo:=⟨_,rfl⟩;rw [←hcmp];have HCM:=Lib.hid hcmp;clear hcmp;cases hq:decide (0<cmp) with
         | true=>
          go_wp2_with fail
          go_ret
          exact zio (zin HI.out HLA.out hil HX.out.1 HP.out (by rw [HCT.out.1,HCT.out.2,decide_eq_true HI0.out,←HCM.out,hq];rfl)) (z0r (World.grownBy.trans HI.out.grown HG2.out) (.inl rfl) _) rfl (HW2.out.set_ 1 _)
         | false=>
          go_wp2_with (refine z36 rfl (.tmp 113) (.tmp 114) 22 rfl i8 Tryz.underlying22 hi8 hz80 hz81 hz82 _ _ A7 A11 m7 no c11 _ oo rfl HA2.out.z3x.1 rfl HO2.out.z3x.1 hpos (by omega) ?_;intro A7' c7' V3 hc3 ho3 hb3)
          refine ⟨⟨i+1,m7+no,c7',no,c11,A7',A11,bs++[oo],rfl,rfl,by go_num,by omega,HI.out.step HLA.out hil HX.out.1 HP.out (by rw [←HCM.out,hq,Bool.and_false]) HW2.out HK2.out HG2.out hb3 HO2.out ho3⟩,by simp [intOf];omega⟩
        ·have hi1:decide ((0:Int)<(i:Int))=false:=decide_eq_false (by omega);have HI0:=Lib.hid hi0;clear hi0
         go_wp2_with (refine z36 rfl (.tmp 113) (.tmp 114) 22 rfl i8 Tryz.underlying22 hi8 hz80 hz81 hz82 _ _ A7 A11 m7 no c11 _ oo rfl HA2.out.z3x.1 rfl HO2.out.z3x.1 hpos (by omega) ?_;intro A7' c7' V3 hc3 ho3 hb3)
         refine ⟨⟨i+1,m7+no,c7',no,c11,A7',A11,bs++[oo],rfl,rfl,by go_num,by omega,HI.out.step HLA.out hil HX.out.1 HP.out (by rw [decide_eq_false HI0.out,Bool.and_false];rfl) HW2.out HK2.out HG2.out hb3 HO2.out ho3⟩,by simp [intOf];omega⟩
    ·have hin1:decide ((i:Int)<(nk:Int))=false:=decide_eq_false (by omega);obtain rfl:i=nk:=by omega
     clear hin;obtain ⟨c',t',rfl,rfl,hc',ht'⟩:=Dr.z7R HM.out;have hm7e:m7=(b++bs.flatten).length:=by
      obtain ⟨A',c',e,_⟩:=HI.out.acc.bytes;injection e with e1 e2 e3
     have hr7:∃ B7,Reads wr B7 1 A7 m7 (Lib.byteCells (b++bs.flatten))∧B7≤wr.heap.size:=by
      obtain ⟨A',c',e,_,hr,_⟩:=HI.out.acc.bytes;injection e with e1 e2 e3;subst e1 e3;rw [←e2] at hr;exact ⟨_,hr,Nat.le_refl _⟩
     obtain ⟨B7,hr7,hB7⟩:=hr7;have H7:=Lib.hid hr7;have HM7:=Lib.hid hm7e;have HCT:=Lib.hid (And.intro hc' ht');clear hr7 hm7e hc' ht';obtain ⟨p0,p1,p2,p3,p4,g0,g1,g2,g3,g4⟩:=HI.out.node.five
     go_wp2_with fail
     refine (zdM c' t' k m7 (.slice Ab nb cb) (.slice Ak i ck) wr HCT.out.1 HCT.out.2 (by omega)).mono ?_;rintro e V5 ⟨v5,rfl,ho5,hb5⟩;have HO5:=Lib.hid ho5;have HB5:=Lib.hid hb5;have hs5:=hb5.size;clear ho5 hb5 p0 p1 p2 p3 p4 g0 g1 g2 g3 g4;have hhl:(Dr.head c' t' k m7).length+m7≤100000000:=by have:=Dr.zfb (n:=m7) (by omega) c' t' k;omega
     go_wp2_with (refine zcL rfl (.tmp 121) (.tmp 122) 22 rfl wr.heap.size i8 Tryz.underlying22 hi8 hz80 hz81 hz82 v5 (Dr.head c' t' k m7) rfl HO5.out _ A7 m7 c7 _ rfl ((H7.out.more hB7).below HB5.out) hhl hs5 ?_;intro v6 V6 ho6 hb6)
     go_ret
     have hB:=HB5.out.trans hb6;refine zn1 (Dr.z5s HM.out ?_ ?_ ?_ ?_ HI.out.ris) (World.grownBy.trans HI.out.grown (z0e hB _)) rfl ?_ ?_
     ·intro hk;have:=HNB.out.1;rcases HC.out with ⟨_,h⟩|⟨h,_⟩|⟨h,_⟩
      ·omega
      ·rw [hk] at h;cases h
      ·rw [hk] at h;cases h
     ·intro hk;have:=HNB.out.2;rcases HC.out with ⟨h,_⟩|⟨_,h,_⟩|⟨_,h,_⟩
      ·rw [hk] at h;cases h
      ·omega
      ·omega
     ·intro hc hk;rcases HC.out with ⟨h,_⟩|⟨_,_,h⟩|⟨_,_,_,h⟩
      ·rw [hk] at h;cases h
      ·exact absurd hc h
      ·exact h
     ·have:=HI.out.puts
      rwa [List.take_of_length_le (by rw [←HNB.out.2];exact Nat.le_refl _)] at this
     ·rw [HM7.out] at ho6;exact Joins.ownsRow_le ho6 HI.out.grown.size
     ·have:=HI.out.wri.below hB HI.out.wri.lt;rw [List.take_of_length_le (by rw [←HNB.out.2];exact Nat.le_refl _)] at this;rw [Dr.z4C];have e:d+((Dr.z0V l+1:Nat):Int)-1=d+(Dr.z0V l:Int):=by omega
      show Blk _ _ _ #[.int .i64 (max D (d+((Dr.z0V l+1:Nat):Int)-1)),.bool false];rw [e];exact this
theorem z6g:∀ M,zjU M
 | 0=>fun n _ _ _ _ _ _ _ _ hwt _ _ _ _ _ _ _ _=>by have:=z0W n;omega
 | M+1=>zdJ M (z6g M)
end Go.Proofs.YtgmppconibklcaaGreatDoor

namespace Go.Proofs.YtgmppconibklcaaGreatDoor
open Go Go.RowKit
structure Fine (n:Nd):Prop where
 wt:Dr.wt n≤9000000
 mx:Dr.mx n≤40000
theorem zaH:∀ (M:Nat) (n:Nd),Dr.wt n≤M→10*Dr.deep n≤Dr.wt n
 | 0,n,h=>by have:=z0W n;omega
 | M+1,n,h=>by
  have hw:=z0W n;have hd:=Dr.z4C n;have hs:∀ l:List Nd,Dr.wts l≤M→10*Dr.z0V l≤Dr.wts l:=by
   intro l;induction l with
   | nil=>intro _;rw [Dr.z0V];omega
   | cons x l ih=>
    intro hl;rw [Dr.wts] at hl ⊢;rw [Dr.z0V];have h1:=zaH M x (by omega);have h2:=ih (by omega);omega
  have:=hs n.kids (by omega);omega
theorem Fine.deep {n:Nd} (h:Fine n):Dr.deep n≤900000000∧10*Dr.deep n≤9000000:=by
 have h1:=zaH _ n (Nat.le_refl _);have h2:=h.wt;omega
theorem z7g (w:World) (n:Nd) (Av:Nat→Prop) {vb vk:Value} (h:NdAt w Av (.agg #[.int .i64 n.cls,.int .i64 n.tag,.bool n.cons,vb,vk]) n):
  ∃ V,V=(w.alloc (.cells #[.int .i64 n.cls,.int .i64 n.tag,.bool n.cons,vb,vk] 61)).alloc (.cells #[.int .i64 0,.bool false] 126)∧Below w.heap.size w V∧Blk V w.heap.size 61 #[.int .i64 n.cls,.int .i64 n.tag,.bool n.cons,vb,vk] ∧
   Blk V (w.heap.size+1) 126 #[.int .i64 0,.bool false]∧NdAt V (fun g=>g=w.heap.size+1) (.agg #[.int .i64 n.cls,.int .i64 n.tag,.bool n.cons,vb,vk]) n∧V.heap.size=w.heap.size+2:=by
 have hb:Below w.heap.size w ((w.alloc (.cells #[.int .i64 n.cls,.int .i64 n.tag,.bool n.cons,vb,vk] 61)).alloc (.cells #[.int .i64 0,.bool false] 126)):=((Below.refl _ w).alloc (Nat.le_refl _) _).alloc (by simp) _;refine ⟨_,rfl,hb,(Blk.new w _ _).alloc _,?_,?_,by simp⟩
 ·have:=Blk.new (w.alloc (.cells #[.int .i64 n.cls,.int .i64 n.tag,.bool n.cons,vb,vk] 61)) 126 #[.int .i64 0,.bool false]
  rwa [World.size_alloc] at this
 ·refine h.keep fun u d hu=>?_
  exact ((hu.fresh (p:=fun b=>b=w.heap.size+1) (fun b hb=>by omega)).stays hb).less (fun b hb _=> .inr hb)
theorem zcl (n:Nd) (v:Value) (Av:Nat→Prop) (w:World) (h:NdAt w Av v n) (hf:Fine n) (hT:Tabs w):
  Calls Tryz.prog 36 #[v] w fun e w'=>∃ v',e = .returned (.tuple #[v',.int .i64 (Dr.write n).2])∧Is w' (Old w) v' (z04 (Dr.write n).1)∧Below w.heap.size w w':=by
 obtain ⟨A,c,A2,c2,rfl⟩:=h.form;obtain ⟨V,hV,hB,hK,hW,hN,hs⟩:=z7g w n Av h;have hput:=z6g _ n A A2 c c2 V (w.heap.size+1) 0 1 (Nat.le_refl _) (by have:=hf.wt;omega) hf.mx (by decide) (by have:=hf.deep;omega) (by decide) hW hN (fun w' hb=>Utf8Tabs_below hT (hB.trans (hb.mono (Nat.le_succ _))));have HP:=Lib.hid hput;have HB:=Lib.hid hB;have HK:=Lib.hid hK;have HW:=Lib.hid hW;have HV:=Lib.hid hV;have HS:=Lib.hid hs;have HF:=Lib.hid hf.deep;clear hput hB hK hW hV hs hN h hf hT;obtain ⟨nb,hnb⟩:∃ nb,nb=n.bytes.length:=⟨_,rfl⟩;obtain ⟨nk,hnk⟩:∃ nk,nk=n.kids.length:=⟨_,rfl⟩;rw [←hnb,←hnk] at HP HK HV ⊢;obtain ⟨nc,hnc⟩:∃ nc,nc=n.cls:=⟨_,rfl⟩;obtain ⟨nt,hnt⟩:∃ nt,nt=n.tag:=⟨_,rfl⟩;obtain ⟨no,hno⟩:∃ no,no=n.cons:=⟨_,rfl⟩;rw [←hnc,←hnt,←hno] at HP HK HV ⊢;clear hnb hnk hnc hnt hno;go_enter Tryz.func36,Tryz.ntmps36
 go_upto_region 2 with fail
 rw [←HV.out];obtain ⟨p0,p1,p2,p3,p4,g0,g1,g2,g3,g4⟩:=HK.out.five
 go_wp2_with fail
 refine HP.out.mono ?_;clear p0 p1 p2 p3 p4 g0 g1 g2 g3 g4;rintro e V2 ⟨hg2,hm2⟩;have hs2:=HS.out;have HB2:Hid (Below w.heap.size w V2):=HB.out.grown hg2 (by omega) (fun k hk=>by injection hk with hk;omega);cases hpn:Dr.put n with
 | none=>
  rw [hpn] at hm2;obtain ⟨D',rfl,hb2⟩:=hm2;obtain ⟨q0,q1,f0,f1⟩:=hb2.two;have HPN:=Lib.hid hpn;clear hpn hb2 hg2 hs2
  go_wp2_with fail
  go_ret2
  have hw:Dr.write n=([],34):=by unfold Dr.write;rw [HPN.out]
  rw [hw];exact ⟨_,rfl,Is.z1U _ _,HB2.out⟩
 | some o=>
  rw [hpn] at hm2;obtain ⟨v,rfl,ho2,hb2⟩:=hm2;obtain ⟨A3,c3,rfl,_⟩:=z0P ho2;have hdp:=Dr.zlv n;have e:max 0 (1+(Dr.deep n:Int)-1)=(Dr.deep n:Int):=by omega
  rw [e] at hb2;obtain ⟨q0,q1,f0,f1⟩:=hb2.two;have HO:Hid (Is V2 (Old w) (.slice A3 o.length c3) (z04 o)):=z1x ho2 (fun g hg=>by have:g<w.heap.size:=hg;omega);have HPN:=Lib.hid hpn;obtain ⟨lo,hlo⟩:∃ lo,lo=o.length:=⟨_,rfl⟩;rw [←hlo] at HO ⊢;obtain ⟨dn,hdn⟩:∃ dn,dn=Dr.deep n:=⟨_,rfl⟩;rw [←hdn] at q0 HF;have HL:=Lib.hid (And.intro hlo hdn);clear hpn hb2 hg2 hs2 ho2 e hdp hlo hdn;by_cases h32:32<dn
  ·have hd:decide ((32:Int)<(dn:Int))=true:=decide_eq_true (by omega);have H32:=Lib.hid h32;clear h32
   go_wp2_with fail
   go_ret2
   have hw:Dr.write n=([],33):=by unfold Dr.write;rw [HPN.out];exact if_pos (by rw [←HL.out.2];exact H32.out)
   rw [hw];exact ⟨_,rfl,Is.z1U _ _,HB2.out⟩
  ·have hd:decide ((32:Int)<(dn:Int))=false:=decide_eq_false (by omega);have H32:=Lib.hid h32;clear h32;by_cases h16:16777216<lo
   ·have hd2:decide ((16777216:Int)<(lo:Int))=true:=decide_eq_true (by omega);have H16:=Lib.hid h16;clear h16
    go_wp2_with fail
    go_ret2
    have hw:Dr.write n=([],2):=by unfold Dr.write;rw [HPN.out];exact (if_neg (by rw [←HL.out.2];exact H32.out)).trans (if_pos (by rw [←HL.out.1];exact H16.out))
    rw [hw];exact ⟨_,rfl,Is.z1U _ _,HB2.out⟩
   ·have hd2:decide ((16777216:Int)<(lo:Int))=false:=decide_eq_false (by omega);have H16:=Lib.hid h16;clear h16
    go_wp2_with fail
    go_ret2
    have hw:Dr.write n=(o,0):=by unfold Dr.write;rw [HPN.out];exact (if_neg (by rw [←HL.out.2];exact H32.out)).trans (if_neg (by rw [←HL.out.1];exact H16.out))
    rw [hw];exact ⟨_,rfl,HO.out,HB2.out⟩
theorem z6F (n:Nd) (v:Value) (Av:Nat→Prop) (w:World) (h:NdAt w Av v n) (hf:Fine n) (hT:Tabs w):
  Calls Tryz.prog 112 #[v] w fun e w'=>e = .returned (.bool (Dr.right n))∧Below w.heap.size w w':=by
 obtain ⟨A,c,A2,c2,rfl⟩:=h.form;obtain ⟨V,hV,hB,hK,hW,hN,hs⟩:=z7g w n Av h;have hput:=z6g _ n A A2 c c2 V (w.heap.size+1) 0 1 (Nat.le_refl _) (by have:=hf.wt;omega) hf.mx (by decide) (by have:=hf.deep;omega) (by decide) hW hN (fun w' hb=>Utf8Tabs_below hT (hB.trans (hb.mono (Nat.le_succ _))));have HP:=Lib.hid hput;have HB:=Lib.hid hB;have HK:=Lib.hid hK;have HV:=Lib.hid hV;have HS:=Lib.hid hs;clear hput hB hK hW hV hs hN h hf hT;obtain ⟨nb,hnb⟩:∃ nb,nb=n.bytes.length:=⟨_,rfl⟩;obtain ⟨nk,hnk⟩:∃ nk,nk=n.kids.length:=⟨_,rfl⟩;rw [←hnb,←hnk] at HP HK HV ⊢;obtain ⟨nc,hnc⟩:∃ nc,nc=n.cls:=⟨_,rfl⟩;obtain ⟨nt,hnt⟩:∃ nt,nt=n.tag:=⟨_,rfl⟩;obtain ⟨no,hno⟩:∃ no,no=n.cons:=⟨_,rfl⟩;rw [←hnc,←hnt,←hno] at HP HK HV ⊢;clear hnb hnk hnc hnt hno;go_enter Tryz.func112,Tryz.ntmps112
 go_upto_region 2 with fail
 rw [←HV.out];obtain ⟨p0,p1,p2,p3,p4,g0,g1,g2,g3,g4⟩:=HK.out.five
 go_wp2_with fail
 refine HP.out.mono ?_;clear p0 p1 p2 p3 p4 g0 g1 g2 g3 g4;rintro e V2 ⟨hg2,hm2⟩;have hs2:=HS.out;have HB2:Hid (Below w.heap.size w V2):=HB.out.grown hg2 (by omega) (fun k hk=>by injection hk with hk;omega);cases hpn:Dr.put n with
 | none=>
  rw [hpn] at hm2;obtain ⟨D',rfl,hb2⟩:=hm2;obtain ⟨q0,q1,f0,f1⟩:=hb2.two;have HPN:=Lib.hid hpn;clear hpn hb2 hg2 hs2
  go_wp2_with fail
  go_ret
  exact ⟨by unfold Dr.right;rw [HPN.out];rfl,HB2.out⟩
 | some o=>
  rw [hpn] at hm2;obtain ⟨v,rfl,ho2,hb2⟩:=hm2;obtain ⟨q0,q1,f0,f1⟩:=hb2.two;have HPN:=Lib.hid hpn;clear hpn hb2 hg2 hs2 ho2
  go_wp2_with fail
  go_ret
  exact ⟨by unfold Dr.right;rw [HPN.out];rfl,HB2.out⟩
end Go.Proofs.YtgmppconibklcaaGreatDoor

namespace Go.Proofs.YtgmppconibklcaaGreatDoor
open Go Go.RowKit
theorem NdAt.five {w:World} {Av:Nat→Prop} {v:Value} {n:Nd} (h:NdAt w Av v n):∃ A c A2 c2,v = .agg #[.int .i64 n.cls,.int .i64 n.tag,.bool n.cons,.slice A n.bytes.length c,.slice A2 n.kids.length c2] ∧
  NdAt w Av (.agg #[.int .i64 n.cls,.int .i64 n.tag,.bool n.cons,.slice A n.bytes.length c,.slice A2 n.kids.length c2]) n:=by
 obtain ⟨A,c,A2,c2,rfl⟩:=h.form;exact ⟨A,c,A2,c2,rfl,h⟩
theorem z6E (n:Nd) (v:Value) (Av:Nat→Prop) (w:World) (h:NdAt w Av v n) (hf:Fine n) (hT:Tabs w):
  Calls Tryz.prog 183 #[v] w fun e w'=>e = .returned (.bool (Dr.whole n))∧Below w.heap.size w w':=by
 obtain ⟨A,c,A2,c2,rfl⟩:=h.form;obtain ⟨V,hV⟩:∃ V,V=w.alloc (.cells #[.int .i64 n.cls,.int .i64 n.tag,.bool n.cons,.slice A n.bytes.length c,.slice A2 n.kids.length c2] 61):=⟨_,rfl⟩;have hB:Below w.heap.size w V:=by rw [hV];exact (Below.refl _ w).alloc (Nat.le_refl _) _
 have HK:Hid (Blk V w.heap.size 61 #[.int .i64 n.cls,.int .i64 n.tag,.bool n.cons,.slice A n.bytes.length c,.slice A2 n.kids.length c2]):=by show Blk _ _ _ _;rw [hV];exact Blk.new w _ _
 have hright:=z6F n _ Av V (h.stays hB) hf (Utf8Tabs_below hT hB);have hs:w.heap.size≤V.heap.size:=hB.size;have HR:=Lib.hid hright;have HB:=Lib.hid hB;have HV:=Lib.hid hV;clear hright hB hV h hf hT;obtain ⟨nb,hnb⟩:∃ nb,nb=n.bytes.length:=⟨_,rfl⟩;obtain ⟨nk,hnk⟩:∃ nk,nk=n.kids.length:=⟨_,rfl⟩;obtain ⟨nc,hnc⟩:∃ nc,nc=n.cls:=⟨_,rfl⟩;obtain ⟨nt,hnt⟩:∃ nt,nt=n.tag:=⟨_,rfl⟩;obtain ⟨no,hno⟩:∃ no,no=n.cons:=⟨_,rfl⟩;have HW:Hid (Dr.whole n=(nc==0&&(nt==2||nt==10)&&Dr.right n)):=by show _=_;rw [hnc,hnt];rfl
 rw [←hnb,←hnk,←hnc,←hnt,←hno] at HR HK HV;rw [←hnb,←hnk,←hnc,←hnt,←hno];clear hnb hnk hnc hnt hno;go_enter Tryz.func183,Tryz.ntmps183
 go_upto_region 1 with fail
 rw [←HV.out];obtain ⟨p0,p1,p2,p3,p4,g0,g1,g2,g3,g4⟩:=HK.out.five;cases hc:(nc==0) with
 | false=>
  go_wp2_with fail
  go_ret
  exact ⟨by rw [HW.out,hc];rfl,HB.out⟩
 | true=>
  cases ht2:(nt==2) with
  | false=>
   cases ht10:(nt==10) with
   | false=>
    go_wp2_with fail
    go_ret
    exact ⟨by rw [HW.out,ht2,ht10,hc];rfl,HB.out⟩
   | true=>
    go_wp2_with fail
    refine HR.out.mono ?_;rintro e V2 ⟨rfl,hb2⟩
    go_wp2_with fail
    go_ret
    exact ⟨by rw [HW.out,ht2,ht10,hc];rfl,HB.out.trans (hb2.mono hs)⟩
  | true=>
   go_wp2_with fail
   refine HR.out.mono ?_;rintro e V2 ⟨rfl,hb2⟩
   go_wp2_with fail
   go_ret
   exact ⟨by rw [HW.out,ht2,hc];rfl,HB.out.trans (hb2.mono hs)⟩
end Go.Proofs.YtgmppconibklcaaGreatDoor

namespace Go.Proofs.YtgmppconibklcaaGreatDoor
open Go Go.RowKit
theorem zb2 {n:Nd} (h:Dr.whole n=true):0<n.bytes.length:=by
 unfold Dr.whole at h;simp only [Bool.and_eq_true,Bool.or_eq_true,beq_iff_eq] at h;obtain ⟨⟨hc,ht⟩,hr⟩:=h;have hf:Dr.z1G n.tag=true:=by rcases ht with h|h<;>rw [h]<;>rfl
 have hv:=(Dr.z3v hr hc hf).2;rcases Nat.eq_zero_or_pos n.bytes.length with h0|h0
 ·rw [List.eq_nil_of_length_eq_zero h0] at hv;rcases ht with h|h<;>rw [h] at hv<;>cases hv
 ·exact h0
theorem z5U:∀ (k:Nat) (b:List UInt8),b.length=k+1 → -(128*256^k:Int)≤Dr.sval b∧Dr.sval b<128*256^k
 | 0,b,h=>by
  match b,h with
  | [a],_=>rw [Dr.z6S];have:=Dr.sgn_lt a;simp;omega
 | k+1,b,h=>by
  rcases List.eq_nil_or_concat b with h0|⟨b0,c,h0⟩
  ·rw [h0] at h;simp at h
  ·rw [h0,List.concat_eq_append] at h ⊢;have hl:b0.length=k+1:=by simp at h;omega
   have ih:=z5U k b0 hl;rw [Dr.z5e (by intro e;rw [e] at hl;simp at hl)];have hc:=c.toNat_lt;have e:(128*256^(k+1):Int)=128*256^k*256:=by rw [Int.pow_succ];rw [Int.mul_assoc]
   rw [e];omega
theorem zeT (x:Int) (c:Nat) (hx: -36028797018963968≤x∧x<36028797018963968) (hc:c<256):bits BinOp.or IntKind.i64 (x*256) (c:Int)=x*256+c:=by
 show IntKind.i64.wrap ((BitVec.ofInt 64 (x*256)|||BitVec.ofInt 64 (c:Int)).toNat:Int)=_;have h1:(BitVec.ofInt 64 (x*256)).toNat=2^8*(x%72057594037927936).toNat:=by rw [BitVec.toNat_ofInt];omega
 have h2:(BitVec.ofInt 64 (c:Int)).toNat=c:=by rw [BitVec.toNat_ofInt];omega
 rw [BitVec.toNat_or,h1,h2,←Nat.two_pow_add_eq_or_of_lt (by omega:c<2^8)];rw [IntKind.wrap_i64];omega
theorem zee (a:UInt8):wrap64 (IntKind.i8.wrap (a.toNat:Int))=Dr.sgn a:=by
 have key:∀ k:Fin 256,wrap64 (IntKind.i8.wrap ((k.val:Nat):Int))=if k.val<128 then ((k.val:Nat):Int) else ((k.val:Nat):Int)-256:=by decide +kernel
 have:=key ⟨a.toNat,a.toNat_lt⟩;rw [this];unfold Dr.sgn;rfl
theorem zco (n:Nd) (v:Value) (Av:Nat→Prop) (w:World) (h:NdAt w Av v n) (hf:Fine n) (hT:Tabs w):
  Calls Tryz.prog 118 #[v] w fun e w'=>e = .returned (.tuple #[.int .i64 ((Dr.intOf n).getD 0),.bool (Dr.intOf n).isSome])∧Below w.heap.size w w':=by
 obtain ⟨A,c,A2,c2,rfl⟩:=h.form;obtain ⟨V,hV⟩:∃ V,V=w.alloc (.cells #[.int .i64 n.cls,.int .i64 n.tag,.bool n.cons,.slice A n.bytes.length c,.slice A2 n.kids.length c2] 61):=⟨_,rfl⟩;have hB:Below w.heap.size w V:=by rw [hV];exact (Below.refl _ w).alloc (Nat.le_refl _) _
 have HK:Hid (Blk V w.heap.size 61 #[.int .i64 n.cls,.int .i64 n.tag,.bool n.cons,.slice A n.bytes.length c,.slice A2 n.kids.length c2]):=by show Blk _ _ _ _;rw [hV];exact Blk.new w _ _
 have hwhole:=z6E n _ Av V (h.stays hB) hf (Utf8Tabs_below hT hB);have hs:w.heap.size≤V.heap.size:=hB.size;have HIS:=Lib.hid h.zcy;have HPOS:Hid (Dr.whole n=true→0<n.bytes.length):=zb2;have HR:=Lib.hid hwhole;have HB:=Lib.hid hB;have HV:=Lib.hid hV;have hnb9:n.bytes.length≤40000:=by have:=Dr.z0Y n;have:=hf.mx;omega
 have HE:=Lib.hid (Dr.zar n);clear hwhole hB hV h hf hT;obtain ⟨b,hb⟩:∃ b,b=n.bytes:=⟨_,rfl⟩;obtain ⟨wh,hwh⟩:∃ wh,wh=Dr.whole n:=⟨_,rfl⟩;rw [←hb,←hwh] at HE;rw [←hb] at HK HR HIS HV hnb9 ⊢;rw [←hwh] at HR HPOS;rw [←hb] at HPOS;obtain ⟨nb,hnb⟩:∃ nb,nb=b.length:=⟨_,rfl⟩;obtain ⟨nk,hnk⟩:∃ nk,nk=n.kids.length:=⟨_,rfl⟩;obtain ⟨nc,hnc⟩:∃ nc,nc=n.cls:=⟨_,rfl⟩;obtain ⟨nt,hnt⟩:∃ nt,nt=n.tag:=⟨_,rfl⟩;obtain ⟨no,hno⟩:∃ no,no=n.cons:=⟨_,rfl⟩;rw [←hnb,←hnk,←hnc,←hnt,←hno] at HR HK HV;rw [←hnb] at HIS hnb9 HPOS;rw [←hnb,←hnk,←hnc,←hnt,←hno];have HNB:=Lib.hid hnb;clear hb hwh hnb hnk hnc hnt hno;go_enter Tryz.func118,Tryz.ntmps118
 go_upto_region 1 with fail
 rw [←HV.out];obtain ⟨p0,p1,p2,p3,p4,g0,g1,g2,g3,g4⟩:=HK.out.five
 go_wp2_with fail
 refine HR.out.mono ?_;rintro e V2 ⟨rfl,hb2⟩;have HB2:=Lib.hid (HB.out.trans (hb2.mono hs));have HK2:=Lib.hid (HK.out.below hb2 HK.out.lt);clear hb2 p0 p1 p2 p3 p4 g0 g1 g2 g3 g4;obtain ⟨p0,p1,p2,p3,p4,g0,g1,g2,g3,g4⟩:=HK2.out.five;cases wh with
 | false=>
  go_wp2_with fail
  go_ret2
  have e:Dr.intOf n=none:=by rw [HE.out];exact if_neg (fun h=>by cases h.1)
  rw [e];exact ⟨rfl,HB2.out⟩
 | true=>
  by_cases h8:8<nb
  ·have hd:decide ((8:Int)<(nb:Int))=true:=decide_eq_true (by omega);have H8:=Lib.hid h8;clear h8
   go_wp2_with fail
   go_ret2
   have e:Dr.intOf n=none:=by rw [HE.out];exact if_neg (fun h=>by have h1:=h.2;have h2:=H8.out;have h3:=HNB.out;omega)
   rw [e];exact ⟨rfl,HB2.out⟩
  ·have hd:decide ((8:Int)<(nb:Int))=false:=decide_eq_false (by omega);have hpos:0<nb:=HPOS.out rfl;obtain ⟨a0,b1,hb1⟩:∃ a0 b1,b=a0::b1:=by
    cases b with
    | nil=>have:=HNB.out;simp at this;omega
    | cons a0 b1=>exact ⟨a0,b1,rfl⟩
   subst hb1;obtain ⟨hnn,hcb,hA⟩:=HIS.out.byteCells;obtain ⟨g,o,rfl,_,hgl,hcell⟩:=hA hpos;have HC:Hid (∀ j (hj:j<(a0::b1).length),V2.cell? ⟨g,o+j,none⟩=some (.int .u8 ((a0::b1)[j].toNat:Int))):=fun j hj=>z0n HB2.out (hcell j hj)
   have k0:V2.cell? ⟨g,o,none⟩=some (.int .u8 (a0.toNat:Int)):=HC.out 0 (by simp);have hb1:nb=b1.length+1:=HNB.out;have h8':nb≤8:=by omega
   have H1:=Lib.hid hb1;clear hA hcell h8 hb1 hnn;by_cases hc1:c=1
   ·have hn1:nb=1:=by omega
    have hc2:(c==1)=true:=by simp [hc1]
    have HN1:=Lib.hid hn1;subst hn1;have HSW:=Lib.hid (zee a0)
    go_wp2_with fail
    go_loopw [4,26] (fun t4 t26 wr=>t4 = .int .i64 (Dr.sgn a0)∧t26 = .int .i64 0∧V2=wr) (fun _ _ _=>0)
    case atStart=>exact ⟨by rw [HSW.out],rfl,rfl⟩
    case round=>
     obtain ⟨rfl,rfl,rfl⟩:=hrel
     go_wp2_with fail
     go_ret2
     have hb0:b1=[]:=List.eq_nil_of_length_eq_zero (by have:=H1.out;omega);have e:Dr.intOf n=some (Dr.sgn a0):=by rw [HE.out,hb0];exact if_pos ⟨by trivial,by simp⟩
     rw [e];exact ⟨rfl,HB2.out⟩
   ·have hc2:(c==1)=false:=by simp [hc1]
    go_wp2_with fail
    go_loopw [4,26] (fun t4 t26 wr=>∃ (j:Nat) (x:Int),t4 = .int .i64 x∧t26 = .int .i64 j∧j+1≤nb∧Hid (x=Dr.sval (a0::b1.take j)) ∧ -(128*256^j:Int)≤x∧x<128*256^j∧V2=wr) (fun _ t26 _=>8-(intOf t26).toNat)
    case atStart=>
     have h1:=z5U 0 [a0] rfl;exact ⟨0,Dr.sval [a0],by rw [Dr.z6S,←zee],rfl,by omega,rfl,h1.1,h1.2,rfl⟩
    case round=>
     obtain ⟨j,x,rfl,rfl,hj,HX,hx1,hx2,rfl⟩:=hrel;by_cases hjn:j+1<nb
     ·have hd1:decide ((j:Int)<(nb:Int)-1)=true:=decide_eq_true (by omega);have hd2:decide (j<nb-1)=true:=decide_eq_true (by omega);obtain ⟨cc,hcc⟩:∃ cc,cc=(a0::b1)[j+1]'(by have:=H1.out;simp;omega):=⟨_,rfl⟩;have kj:V2.cell? ⟨g,o+1+j,none⟩=some (.int .u8 (cc.toNat:Int)):=by
       have:=HC.out (j+1) (by have:=H1.out;simp;omega);rw [hcc,Nat.add_assoc,Nat.add_comm 1 j];exact this
      have hp:(256:Int)^j≤256^6:=by
       have h:=Nat.pow_le_pow_right (n:=256) (by decide) (show j≤6 by omega)
       exact_mod_cast h
      have e6:(256:Int)^6=281474976710656:=by decide
      have hb: -36028797018963968≤x∧x<36028797018963968:=by rw [e6] at hp;omega
      have hor:=zeT x cc.toNat hb cc.toNat_lt;have hxw:wrap64 (x*256)=x*256:=by unfold wrap64;omega
      have HCC:=Lib.hid hcc;have HOR:=Lib.hid hor;have HX12:=Lib.hid (And.intro hx1 hx2);clear hcc hp e6 hb hor hx1 hx2;have hlj:(b1.take (j+1)).length=j+1:=by rw [List.length_take];have:=H1.out;omega
      have hb1j:b1.take (j+1)=b1.take j++[cc]:=by
       have hjl:j<b1.length:=by have:=H1.out;omega
       rw [List.take_succ_eq_append_getElem hjl,HCC.out];rfl
      have hnew:x*256+(cc.toNat:Int)=Dr.sval (a0::b1.take (j+1)):=by
       rw [hb1j,←List.cons_append,Dr.z5e (by simp),←HX.out]
      have hbd:=z5U (j+1) (a0::b1.take (j+1)) (by rw [List.length_cons,hlj]);rw [←hnew] at hbd;have HNW:=Lib.hid hnew;have HBD:=Lib.hid hbd;clear hlj hb1j hnew hbd
      go_wp2_with fail
      have hcw:wrap64 (cc.toNat:Int)=(cc.toNat:Int):=by have:=cc.toNat_lt;unfold wrap64;omega
      refine ⟨⟨j+1,x*256+(cc.toNat:Int),?_,by go_num,by omega,HNW.out,HBD.out.1,HBD.out.2,trivial⟩,by simp [intOf];omega⟩;rw [←HOR.out];first|rfl|rw [hcw]
     ·have hd1:decide ((j:Int)<(nb:Int)-1)=false:=decide_eq_false (by omega);have hd2:decide (j<nb-1)=false:=decide_eq_false (by omega);have hjn2:j+1=nb:=by omega
      have HJ:=Lib.hid hjn2;clear hjn2 hjn
      go_wp2_with fail
      go_ret2
      have e1:b1.take j=b1:=List.take_of_length_le (by have:=H1.out;have:=HJ.out;omega);have e:Dr.intOf n=some x:=by
       rw [HE.out,HX.out,e1];exact if_pos ⟨by trivial,by have:=H1.out;rw [List.length_cons];omega⟩
      rw [e];exact ⟨rfl,HB2.out⟩
end Go.Proofs.YtgmppconibklcaaGreatDoor

