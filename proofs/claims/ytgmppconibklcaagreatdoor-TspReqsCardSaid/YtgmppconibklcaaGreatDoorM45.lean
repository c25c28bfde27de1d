/- Part of the proof. No condition. -/
import Derived.Test.YtgmppconibklcaaGreatDoorM44
import Derived.Test.YtgmppconibklcaaGreatDoorM13
import Derived.Test.YtgmppconibklcaaGreatDoorM15
import Derived.BigQuiet
import Derived.Test.YtgmppconibklcaaGreatDoorM16
set_option maxHeartbeats 40000000
set_option maxRecDepth 100000
set_option linter.unusedVariables false
set_option linter.unusedSimpArgs false
namespace Go.Proofs.YtgmppconibklcaaGreatDoor
open Go Go.RowKit

theorem zkP {w:World} {a b:Nat} {e:TypeId} {size n:Nat} {v:Value} {xs:List Value} (h:w.ownsRow a e size v n xs) (hab:b≤a):w.ownsRow b e size v n xs:=by
 obtain ⟨h1,h2⟩:=h;refine ⟨h1,?_⟩;rcases h2 with h2|⟨g,cap,cur,h2,h3,h4⟩
 ·exact .inl h2
 ·exact .inr ⟨g,cap,cur,h2,Nat.le_trans hab h3,h4⟩
theorem z6x {s:ByteArray} {w w':World} (h:Od.enc s.data.toList=none) (hb:Below w.heap.size w w'):z2e s w (.returned (.tuple #[.slice none 0 0,.int .i64 20])) w':=by
 unfold z2e;rw [h];exact ⟨rfl,hb⟩
theorem z92 (a:Int) (n:Nat) (w:World) (ha:a=n) (hn:(n:Int)≤18446744073709551615):
  Calls Tryz.prog 212 #[.int .u64 a] w fun e w'=>∃ v,e = .returned v∧w'.ownsRow w.heap.size 5 1 v (Od.b128 n).length (Lib.byteCells (Od.b128 n))∧Below w.heap.size w w':=by
 subst ha;exact zd5 n w hn
theorem z8Z (s:ByteArray) (w:World) (hs:s.size≤100000):
  Calls Tryz.prog 147 #[.string s] w (z2e s w):=by
 obtain ⟨i0,hi0,hz0,hz1,hz2⟩:=info_parts z7W;have henc:Od.enc s.data.toList=match Od.z0w (Od.parts 46 s.data.toList) with|some ns=>if Od.z1q ns then some (Od.bytesOf ns) else none|none=>none:=rfl
 go_enter Tryz.func147,Tryz.ntmps147
 go_wp2_with fail
 refine (zd4 s _ hs).mono ?_;intro e W h;unfold z4D at h;cases hn:Od.z0w (Od.parts 46 s.data.toList) with
 | none=>
  rw [hn] at h henc;obtain ⟨rfl,hb⟩:=h;have Hb:=Lib.hid hb;have Henc:=Lib.hid henc;clear hb henc hn
  go_wp2_with fail
  go_ret2
  exact z6x Henc.out Hb.out
 | some ns=>
  rw [hn] at h henc;obtain ⟨v,rfl,hrow,hb⟩:=h;have hlen:ns.length≤100001:=by
   have h1:=(z3D hn).1;have h2:=Od.z2P 46 s.data.toList;have h3:s.size=s.data.toList.length:=Lib.size_eq s;omega
  have htop:=(z3D hn).2;have hz:=hb.size;cases hok:Od.z1q ns with
  | false=>
   replace henc:Od.enc s.data.toList=(if Od.z1q ns then some (Od.bytesOf ns) else none):=henc;rw [hok] at henc;have Hb:=Lib.hid hb;have Henc:=Lib.hid henc;clear hb henc hn hrow htop hok
   go_wp2_with fail
   go_ret2
   exact z6x Henc.out Hb.out
  | true=>
   replace henc:Od.enc s.data.toList=(if Od.z1q ns then some (Od.bytesOf ns) else none):=henc;rw [hok] at henc;have hl2:¬ns.length<2:=by
    intro h;simp [Od.z1q] at hok;omega
   obtain ⟨n0,n1,rest,rfl⟩:=zlL hl2;obtain ⟨g,cap,rfl⟩:=ownsRow_succ hrow;have hlr:(n0::n1::rest).length=rest.length+2:=by simp
   rw [hlr] at hlen;have hg0:W.cell? ⟨g,0,none⟩=some (.int .u64 (n0:Int)):=by
    have:=hrow.cells (g:=g) rfl 0 (.int .u64 (n0:Int)) rfl;simpa [Addr.add] using this
   have hg1:W.cell? ⟨g,1,none⟩=some (.int .u64 (n1:Int)):=by
    have:=hrow.cells (g:=g) rfl 1 (.int .u64 (n1:Int)) rfl;simpa [Addr.add] using this
   have hx0:(n0:Int)≤2:=by
    simp only [Od.z1q,decide_eq_true_eq,List.getD_cons_zero,List.getD_cons_succ,Od.top] at hok;omega
   have hx1:(n1:Int)<9223372036854775728:=by
    simp only [Od.z1q,decide_eq_true_eq,List.getD_cons_zero,List.getD_cons_succ,Od.top] at hok;omega
   have Htop:=Lib.hid htop;have Hrow:=Lib.hid hrow;have Hb:=Lib.hid hb;have Henc:Hid (Od.enc s.data.toList=some (accB n0 n1 rest)):=by show _=_;rw [henc];rfl
   clear htop hl2 hlr hrow hb hn henc hok
   go_wp2_with fail
   refine wp_region_still_tail 8 (by kernel_rfl) (by kernel_rfl) ?_;obtain ⟨W2,hW2⟩:∃ W2,W2=W.drew:=⟨_,rfl⟩;have d5:W2.cell? ⟨g,0,none⟩=some (.int .u64 (n0:Int)):=by rw [hW2];exact hg0
   have d6:W2.cell? ⟨g,1,none⟩=some (.int .u64 (n1:Int)):=by rw [hW2];exact hg1
   have Hb2:Hid (Below w.heap.size w W2):=by show Below _ _ _;rw [hW2];exact Hb.out.drew
   have Hrow2:Hid (W2.ownsRow w.heap.size 180 1 (.slice (some ⟨g,0,none⟩) (rest.length+1+1) cap) (rest.length+1+1) (u64s (n0::n1::rest))):=by show World.ownsRow _ _ _ _ _ _ _;rw [hW2];exact Hrow.out
   have hzz:=Hb2.out.size;change wpStill _ _ W.drew _ _ _;rw [←hW2];have HW2:=Lib.hid hW2;clear hW2 hg0 hg1 Hb Hrow;simp only [List.take_succ_cons,List.take_zero,List.drop_succ_cons,List.drop_zero];have hlr1:(1:Int)<(rest.length:Int)+1+1:=by omega
   have hlr0:(0:Int)<(rest.length:Int)+1+1:=by omega
   repeat still_step
   refine wpStill_nil ?_
   go_wp2_with fail
   rw [←HW2.out];refine (z92 _ (40*n0+n1) _ (by omega) (by omega)).mono ?_;rintro e W3 ⟨v3,rfl,hown3,hb3⟩;have HA3:Hid (W3.ownsRow W2.heap.size 5 1 v3 (accB n0 n1 (rest.take 0)).length (Lib.byteCells (accB n0 n1 (rest.take 0)))∧Below W2.heap.size W2 W3):=⟨by simpa [accB] using hown3,hb3⟩;clear hown3 hb3 d5 d6 hx0 hx1
   go_wp2_with fail
   go_loopw [6,7] (fun t6 t7 wr=>∃ (k:Nat) (v1:Value),v1=t6∧t7 = .int .i64 (k+2)∧k≤rest.length∧Hid (wr.ownsRow W2.heap.size 5 1 v1 (accB n0 n1 (rest.take k)).length (Lib.byteCells (accB n0 n1 (rest.take k)))∧Below W2.heap.size W2 wr)) (fun _ t7 _=>rest.length+2-(intOf t7).toNat)
   case atStart=>exact ⟨0,v3,rfl,rfl,Nat.zero_le _,HA3.out⟩
   case round=>
    obtain ⟨k,v1,rfl,rfl,hk,HA⟩:=hrel;have hzr:=HA.out.2.size;by_cases hlt:k<rest.length
    ·have hcell:wr.cell? ⟨g,k+2,none⟩=some (.int .u64 (rest[k]:Int)):=by
      have h1:=(z1y Hrow2.out HA.out.2).cells (g:=g) rfl (2+k) (.int .u64 (rest[k]:Int)) (by simp [u64s,Nat.add_comm 2 k,List.getElem?_eq_getElem hlt]);rw [Nat.add_comm 2 k] at h1
      rwa [show (⟨g,0,none⟩:Addr).add (k+2)=⟨g,k+2,none⟩ by unfold Addr.add;split<;>simp;omega] at h1
     have hnt:rest[k]<9223372036854775808:=Htop.out rest[k] (by simp);have hal:=z8n n0 n1 (rest.take k);have hbl:=Od.z33 rest[k];have htl:(rest.take k).length≤k:=List.length_take_le _ _;have Hacc:Hid (accB n0 n1 (rest.take k)++Od.b128 rest[k]=accB n0 n1 (rest.take (k+1))):=(zcF n0 n1 hlt).symm
     go_wp2_with fail
     refine (z92 _ rest[k] _ rfl (by omega)).mono ?_;rintro _ w5 ⟨v5,rfl,hown5,hb5⟩;obtain ⟨A5,c5,rfl,hr5⟩:=z0P hown5;clear hr5;have Hown5:=Lib.hid hown5;have Hb5:=Lib.hid hb5;have hz5:=hb5.size;clear hown5 hb5
     go_wp2_with (refine z8G rfl (.tmp 30) (.tmp 35) 22 rfl W2.heap.size i0 Tryz.underlying22 hi0 hz0 hz1 hz2 _ _ rfl (z1y HA.out.1 Hb5.out) _ _ rfl (zah Hown5.out) (by omega) (by omega) ?_;intro v6 w6 A6)
     rw [Hacc.out] at A6
     go_roundw
     case rel=>exact ⟨k+1,v6,rfl,by go_num,by omega,A6.own,(HA.out.2.trans (Hb5.out.mono hzr)).trans (A6.below (z1y HA.out.1 Hb5.out) (by omega))⟩
     case measure=>simp [intOf];omega
    ·have hk':rest.take k=rest:=List.take_of_length_le (by omega);have Hfin:=HA.out;rw [hk'] at Hfin;have HF:=Lib.hid Hfin;clear Hfin hk'
     go_wp2_with fail
     go_ret2
     exact z4j Henc.out (zkP HF.out.1 hzz) (Hb2.out.trans (HF.out.2.mono hzz))
end Go.Proofs.YtgmppconibklcaaGreatDoor

namespace Go.Proofs.YtgmppconibklcaaGreatDoor
open Go Go.RowKit

theorem zj0:∀ (f m:Nat),m<128^f→(Od.hiF 10 m).length≤10∧(f≤10→(Od.hiF 10 m).length≤f)
 | f,m,h=>by
  have h1:∀ g n,(Od.hiF g n).length≤g:=by
   intro g;induction g with
   | zero=>intro n;simp [Od.hiF]
   | succ g ih=>
    intro n;unfold Od.hiF;split
    ·simp
    ·have:=ih (n / 128);simp;omega
  refine ⟨h1 10 m,fun hf=>?_⟩;rw [Od.zdD 10 f m (Nat.lt_of_lt_of_le h (Nat.pow_le_pow_right (by decide) hf)) h];exact h1 f m
theorem z89:∀ (f n k j:Nat),n<10^j→k≤j→(Dig.dgsF f n k).length≤j
 | 0,n,k,j,_,_=>by simp [Dig.dgsF]
 | f+1,n,k,j,h,hk=>by
  by_cases hh:n=0∧k=0
  ·rw [Dig.z0Q _ _ _ hh];simp
  ·have hj:1≤j:=by
    rcases Nat.eq_zero_or_pos j with h0|h0
    ·subst h0;simp at h;omega
    ·exact h0
   obtain ⟨i,rfl⟩:∃ i,j=i+1:=⟨j-1,by omega⟩;rw [Dig.z1b _ _ _ hh,List.length_append];have:=z89 f (n / 10) (k-1) i (by rw [Nat.pow_succ] at h;omega) (by omega);simp;omega
theorem z6f {n j:Nat} (h:n<10^j) (hj:1≤j):(Dig.dgs n 1).length≤j:=z89 20 n 1 j h hj
structure OR (b:List UInt8) (k n long:Nat) (gs:List Nat):Prop where
 top:n<Od.top
 all:∀ g∈gs,g<Od.top
 len:gs.length≤k
 lt:n<128^long
 tl:(Od.z0m gs).length+4*long≤4*k+1
 d:∀ r,Od.dec 0 b=some r→∃ r',r=gs++r'∧Od.dec n (b.drop k)=some r'∧long=(Od.hiF 10 n).length
theorem OR.start (b:List UInt8):OR b 0 0 0 []:=⟨by decide,by simp,by simp,by simp,by simp [Od.z0m],fun r h=>⟨r,rfl,h,by simp [Od.z2t]⟩⟩
theorem OR.stop {b:List UInt8} {k n long:Nat} {gs:List Nat} (h:OR b k n long gs) (hk:k<b.length) (hb:9<long+1∨Od.top≤n*128+b[k].toNat%128):Od.decO b=none:=by
 unfold Od.decO;cases hd:Od.dec 0 b with
 | none=>rfl
 | some r=>
  exfalso;obtain ⟨r',_,h2,h3⟩:=h.d r hd;rw [List.drop_eq_getElem_cons hk] at h2;by_cases hx:(n=0∧b[k].toNat=128)∨72057594037927935<n
  ·rw [Od.z8b hx] at h2;cases h2
  ·have h4:=(zj0 8 n (by omega)).2 (by omega);unfold Od.top at hb;omega
theorem OR.more {b:List UInt8} {k n long:Nat} {gs:List Nat} (h:OR b k n long gs) (hk:k<b.length) (ht:n*128+b[k].toNat%128<Od.top) (hc:128≤b[k].toNat):OR b (k+1) (n*128+b[k].toNat%128) (long+1) gs:=by
 refine ⟨ht,h.all,by have:=h.len;omega,by have:=h.lt;rw [Nat.pow_succ];omega,by have:=h.tl;omega,fun r hr=>?_⟩;obtain ⟨r',h1,h2,h3⟩:=h.d r hr;rw [List.drop_eq_getElem_cons hk] at h2;by_cases hx:(n=0∧b[k].toNat=128)∨72057594037927935<n
 ·rw [Od.z8b hx] at h2;cases h2
 ·rw [Od.z78 hx hc] at h2;exact ⟨r',h1,h2,by rw [Od.ziZ hx hc,List.length_append,h3];rfl⟩
theorem OR.last {b:List UInt8} {k n long:Nat} {gs:List Nat} (h:OR b k n long gs) (hk:k<b.length) (ht:n*128+b[k].toNat%128<Od.top) (hc:b[k].toNat<128):OR b (k+1) 0 0 (gs++[n*128+b[k].toNat%128]):=by
 refine ⟨by decide,?_,by have:=h.len;simp;omega,by simp,?_,fun r hr=>?_⟩
 ·intro g hg;rcases List.mem_append.1 hg with hg|hg
  ·exact h.all g hg
  ·simp at hg;omega
 ·have h1:=h.lt;have h2:=h.tl;have hm:n*128+b[k].toNat%128<10^(3*(long+1)):=by
   have h3:128^(long+1)≤1000^(long+1):=Nat.pow_le_pow_left (by decide) _;rw [Nat.pow_mul,show (10:Nat)^3=1000 by decide];rw [Nat.pow_succ] at h3 ⊢;rw [Nat.pow_succ] at h3;omega
  cases gs with
  | nil=>
   have e:Od.z0m ([]++[n*128+b[k].toNat%128])=Dig.dgs (Od.fst2 (n*128+b[k].toNat%128)) 1++46::Dig.dgs (n*128+b[k].toNat%128-40*Od.fst2 (n*128+b[k].toNat%128)) 1:=by simp [Od.z0m,Od.z0H]
   have h4:=z6f (n:=Od.fst2 (n*128+b[k].toNat%128)) (j:=1) (by unfold Od.fst2;split<;>omega) (by omega);have h5:=z6f (n:=n*128+b[k].toNat%128-40*Od.fst2 (n*128+b[k].toNat%128)) (j:=3*(long+1)) (by omega) (by omega);rw [e,List.length_append,List.length_cons];simp [Od.z0m] at h2;omega
  | cons g gs=>
   have h5:=z6f (n:=n*128+b[k].toNat%128) (j:=3*(long+1)) hm (by omega);rw [Od.z4O (by simp),List.length_append,List.length_cons];omega
 ·obtain ⟨r',h1,h2,h3⟩:=h.d r hr;rw [List.drop_eq_getElem_cons hk] at h2;by_cases hx:(n=0∧b[k].toNat=128)∨72057594037927935<n
  ·rw [Od.z8b hx] at h2;cases h2
  ·rw [Od.z79 hx hc] at h2;cases hd:Od.dec 0 (b.drop (k+1)) with
   | none=>rw [hd] at h2;cases h2
   | some q=>
    rw [hd] at h2;simp only [Option.some.injEq] at h2;exact ⟨q,by rw [h1,←h2];simp,hd▸rfl,by simp [Od.z2t]⟩
theorem OR.fin {b:List UInt8} {k n long:Nat} {gs:List Nat} (h:OR b k n long gs) (hk:b.length≤k):Od.decO b=if Od.enc (Od.z0m gs)=some b then some (Od.z0m gs) else none:=by
 cases gs with
 | nil=>
  have e:Od.enc (Od.z0m [])=none:=by decide +kernel
  rw [e,if_neg (by simp)];unfold Od.decO;cases hd:Od.dec 0 b with
  | none=>rfl
  | some r=>
   obtain ⟨r',h1,h2,_⟩:=h.d r hd;rw [List.drop_of_length_le hk] at h2;unfold Od.dec at h2;split at h2
   ·injection h2 with h2;subst h2;rw [h1];rfl
   ·cases h2
 | cons g gs=>
  have he:=Od.z9w h.all;by_cases hb:(g::gs).flatMap Od.b128=b
  ·rw [he,hb,if_pos rfl];have hc:=Od.z4r (g::gs) h.all;rw [hb] at hc;unfold Od.decO;rw [hc]
  ·rw [he,if_neg (fun e=>hb (Option.some.inj e))];unfold Od.decO;cases hd:Od.dec 0 b with
   | none=>rfl
   | some r=>
    exfalso;obtain ⟨r',h1,h2,_⟩:=h.d r hd;rw [List.drop_of_length_le hk] at h2;unfold Od.dec at h2;split at h2
    ·injection h2 with h2;subst h2;have h3:=(Od.z4q b 0 r (by decide) hd).1;rw [Od.z2t,List.nil_append,h1,List.append_nil] at h3;exact hb h3.symm
    ·cases h2
theorem z2i (a k:Int) (n j:Nat) (w:World) (ha:a=n) (hk:k=j) (h1:n≤9223372036854775807) (hj:j≤20):
  Calls Tryz.prog 164 #[.int .u64 a,.int .i64 k] w fun e w'=>e = .returned (.string ⟨(Dig.dgs n j).toArray⟩)∧Below w.heap.size w w':=by
 subst ha hk;exact z9Z n j w (by omega) hj
theorem z5G (n:Nat):(⟨(Dig.dgs n 1).toArray⟩:ByteArray).size≤20:=Dig.z0u n 1
theorem znF {g:Nat} (h:g<80):Od.fst2 g=g / 40:=by unfold Od.fst2;split<;>omega
theorem znG {g:Nat} (h:¬g<80):Od.fst2 g=2:=by unfold Od.fst2;split<;>omega
theorem zkf {gs:List Nat} (h:gs≠[]):¬(⟨(Od.z0m gs).toArray⟩:ByteArray).size=0:=by
 cases gs with
 | nil=>exact absurd rfl h
 | cons g gs=>simp [ByteArray.size,Od.z0m]
theorem zkb {o:Option (List UInt8)} {t:List UInt8} (h:o=some t):z4a o = .tuple #[.string ⟨t.toArray⟩,.int .i64 0]:=by subst h;rfl
theorem z9P {o:Option (List UInt8)} (h:o=none):z4a o = .tuple #[.string ⟨#[]⟩,.int .i64 20]:=by subst h;rfl
theorem z8u (A:Option Addr) (c:Nat) (b:List UInt8) (w:World) (hr:Reads w w.heap.size 1 A b.length (Lib.byteCells b)) (hlen:b.length≤20000):
  Calls Tryz.prog 100 #[.slice A b.length c] w fun e w'=>e = .returned (z4a (Od.decO b))∧Below w.heap.size w w':=by
 have HR:=Lib.hid hr;clear hr;go_enter Tryz.func100,Tryz.ntmps100
 go_wp2_with fail
 go_loopw [4,5,6,7] (fun t4 t5 t6 t7 wr=>∃ (k n long:Nat) (gs:List Nat),t4 = .string ⟨(Od.z0m gs).toArray⟩∧t5 = .int .u64 n∧t6 = .int .i64 long∧t7 = .int .i64 k∧k≤b.length∧long≤9∧Below w.heap.size w wr∧Hid (OR b k n long gs)) (fun _ _ _ t7 _=>b.length-(intOf t7).toNat)
 case atStart=>exact ⟨0,0,0,[],rfl,rfl,rfl,rfl,Nat.zero_le _,by omega,Below.refl _ _,OR.start b⟩
 case round=>
  obtain ⟨k,n,long,gs,rfl,rfl,rfl,rfl,hk,hlong,hbl,HO⟩:=hrel;have hz:=hbl.size;have htl:=HO.out.tl;have hnt:n≤9223372036854775807:=by have h1:=HO.out.top;unfold Od.top at h1;omega
  by_cases hlt:k<b.length
  ·obtain ⟨ad,rfl,_,hcl⟩:=(HR.out.below hbl).2 (by omega);have hc1:wr.cell? (ad.add k)=some (.int .u8 (b[k].toNat:Int)):=hcl k _ (by simp [Lib.byteCells,List.getElem?_eq_getElem hlt]);have h8':b[k].toNat<256:=b[k].toNat_lt;have Hbl:=Lib.hid hbl;clear hcl hbl;by_cases h9:long=9
   ·have Hf:=Lib.hid (z9P (HO.out.stop hlt (.inl (by omega))));subst h9
    go_wp2_with fail
    go_ret2
    exact ⟨by rw [Hf.out];rfl,Hbl.out⟩
   ·have hl8:long≤8:=by omega
    have hn56:n≤72057594037927935:=by
     have h1:=HO.out.lt;have h2:128^long≤128^8:=Nat.pow_le_pow_right (by decide) hl8;omega
    clear h9 hlong hnt;have hm:(n:Int)*128+(b[k].toNat:Int)%128=((n*128+b[k].toNat%128:Nat):Int):=by omega
    have ht:n*128+b[k].toNat%128<Od.top:=by unfold Od.top;omega
    by_cases hhi:128≤b[k].toNat
    ·have Hn:=Lib.hid (HO.out.more hlt ht hhi);clear hm ht
     go_wp2_with fail
     go_roundw
     case rel=>exact ⟨k+1,n*128+b[k].toNat%128,long+1,gs,rfl,by go_num,by go_num,by go_num,by omega,by omega,Hbl.out,Hn⟩
     case measure=>simp [intOf];omega
    ·have Hn:=Lib.hid (HO.out.last hlt ht (by omega));have hm63:n*128+b[k].toNat%128≤9223372036854775807:=by omega
     obtain ⟨m,hmm⟩:∃ m:Nat,m=n*128+b[k].toNat%128:=⟨_,rfl⟩;have Hm:Hid ((n:Int)*128+(b[k].toNat:Int)%128=(m:Int)):=by show _=_;rw [hmm];exact hm
     rw [←hmm] at Hn hm63;clear hm ht hmm;obtain ⟨x,hx⟩:∃ x:ByteArray,x=⟨(Od.z0m gs).toArray⟩:=⟨_,rfl⟩;have hxs:x.size≤1000000:=by rw [hx];show (Od.z0m gs).length≤_;omega
     rw [←hx];by_cases hg:gs=[]
     ·have hem:=z2a.1 (show x.size=0 by rw [hx,hg];rfl);subst hg;by_cases h80:m<80
      ·have h80i:(m:Int)<80:=by omega
       obtain ⟨y1,hy1⟩:∃ y:ByteArray,y=⟨(Dig.dgs (m / 40) 1).toArray⟩:=⟨_,rfl⟩;obtain ⟨y2,hy2⟩:∃ y:ByteArray,y=⟨(Dig.dgs (m-40*(m / 40)) 1).toArray⟩:=⟨_,rfl⟩;have hys1:y1.size≤20:=by rw [hy1];exact z5G _
       have hys2:y2.size≤20:=by rw [hy2];exact z5G _
       have Hy1:=Lib.hid hy1;have Hy2:=Lib.hid hy2;have Ht:Hid (y1++⟨#[46]⟩++y2=⟨(Od.z0m ([]++[m])).toArray⟩):=by
        show _=_;rw [hy1,hy2,show (⟨#[46]⟩:ByteArray)=⟨[(46:UInt8)].toArray⟩ from rfl,z5V,z5V];simp [Od.z0m,Od.z0H,znF h80]
       have hm:=Hm.out;clear hx hy1 hy2 htl
       go_wp2_with fail
       refine (z2i _ _ (m / 40) 1 _ (by omega) rfl (by omega) (by omega)).mono ?_;rintro _ w3 ⟨rfl,hb3⟩;have Hb3:=Lib.hid (Hbl.out.trans (hb3.mono hz));have hz3:=Hb3.out.size;rw [←Hy1.out];clear hb3
       go_wp2_with fail
       refine (z2i _ _ (m-40*(m / 40)) 1 _ (by omega) rfl (by omega) (by omega)).mono ?_;rintro _ w4 ⟨rfl,hb4⟩;have Hb4:=Lib.hid (Hb3.out.trans (hb4.mono hz3));rw [←Hy2.out];clear hb4
       go_wp2_with fail
       go_roundw
       case rel=>exact ⟨k+1,0,0,[]++[m],by rw [←Ht.out],rfl,rfl,by go_num,by omega,by omega,Hb4.out,Hn⟩
       case measure=>simp [intOf];omega
      ·have h80i:¬(m:Int)<80:=by omega
       obtain ⟨y1,hy1⟩:∃ y:ByteArray,y=⟨(Dig.dgs (2) 1).toArray⟩:=⟨_,rfl⟩;obtain ⟨y2,hy2⟩:∃ y:ByteArray,y=⟨(Dig.dgs (m-80) 1).toArray⟩:=⟨_,rfl⟩;have hys1:y1.size≤20:=by rw [hy1];exact z5G _
       have hys2:y2.size≤20:=by rw [hy2];exact z5G _
       have Hy1:=Lib.hid hy1;have Hy2:=Lib.hid hy2;have Ht:Hid (y1++⟨#[46]⟩++y2=⟨(Od.z0m ([]++[m])).toArray⟩):=by
        show _=_;rw [hy1,hy2,show (⟨#[46]⟩:ByteArray)=⟨[(46:UInt8)].toArray⟩ from rfl,z5V,z5V];simp [Od.z0m,Od.z0H,znG h80]
       have hm:=Hm.out;clear hx hy1 hy2 htl
       go_wp2_with fail
       refine (z2i _ _ (2) 1 _ (by omega) rfl (by omega) (by omega)).mono ?_;rintro _ w3 ⟨rfl,hb3⟩;have Hb3:=Lib.hid (Hbl.out.trans (hb3.mono hz));have hz3:=Hb3.out.size;rw [←Hy1.out];clear hb3
       go_wp2_with fail
       refine (z2i _ _ (m-80) 1 _ (by omega) rfl (by omega) (by omega)).mono ?_;rintro _ w4 ⟨rfl,hb4⟩;have Hb4:=Lib.hid (Hb3.out.trans (hb4.mono hz3));rw [←Hy2.out];clear hb4
       go_wp2_with fail
       go_roundw
       case rel=>exact ⟨k+1,0,0,[]++[m],by rw [←Ht.out],rfl,rfl,by go_num,by omega,by omega,Hb4.out,Hn⟩
       case measure=>simp [intOf];omega
     ·have hem:=z2a.2 (show ¬x.size=0 by rw [hx];exact zkf hg);obtain ⟨y,hy⟩:∃ y:ByteArray,y=⟨(Dig.dgs m 1).toArray⟩:=⟨_,rfl⟩;have hys:y.size≤20:=by rw [hy];exact Dig.z0u m 1
      have Hy:=Lib.hid hy;have Ht:Hid (x++⟨#[46]⟩++y=⟨(Od.z0m (gs++[m])).toArray⟩):=by
       show _=_;rw [hx,hy,Od.z4O hg,show (⟨#[46]⟩:ByteArray)=⟨[(46:UInt8)].toArray⟩ from rfl,z5V,z5V];simp
      clear hx hy hg htl
      go_wp2_with fail
      refine (z2i _ _ m 1 _ Hm.out rfl hm63 (by omega)).mono ?_;rintro _ w3 ⟨rfl,hb3⟩;have Hb3:=Lib.hid (Hbl.out.trans (hb3.mono hz));rw [←Hy.out];clear hb3
      go_wp2_with fail
      go_roundw
      case rel=>exact ⟨k+1,0,0,gs++[m],by rw [←Ht.out],rfl,rfl,by go_num,by omega,by omega,Hb3.out,Hn⟩
      case measure=>simp [intOf];omega
  ·have Hfin:=Lib.hid (HO.out.fin (by omega));obtain ⟨x,hx⟩:∃ x:ByteArray,x=⟨(Od.z0m gs).toArray⟩:=⟨_,rfl⟩;have hxl:x.data.toList=Od.z0m gs:=by rw [hx]
   have hxs:x.size≤100000:=by rw [hx];show (Od.z0m gs).length≤_;omega
   rw [←hx];have Hx:=Lib.hid hx;have Hbl:=Lib.hid hbl;have Hxl:=Lib.hid hxl;clear hx hbl hxl htl
   go_wp2_with fail
   refine (z8Z x _ hxs).mono ?_;intro e w3 h3;unfold z2e at h3;rw [Hxl.out] at h3;cases he:Od.enc (Od.z0m gs) with
   | none=>
    rw [he] at h3;obtain ⟨rfl,hb⟩:=h3;have Hf:=Lib.hid (z9P (o:=Od.decO b) (by rw [Hfin.out,he,if_neg (by simp)]));have Hb3:=Lib.hid (Hbl.out.trans (hb.mono hz));clear he hb
    go_wp2_with fail
    go_ret2
    exact ⟨by rw [Hf.out];rfl,Hb3.out⟩
   | some out=>
    rw [he] at h3;obtain ⟨v,rfl,hrow,hb⟩:=h3;have Hb3:=Lib.hid (Hbl.out.trans (hb.mono hz));obtain ⟨_,A',c',rfl,hr'⟩:=zah hrow;have hrb:=HR.out.below Hb3.out;have H1:(convert 22 9 (.slice A b.length c)).run Tryz.prog w3 = .ok (.string ⟨b.toArray⟩) w3:=z4d Tryz.underlying22 Tryz.underlying5 Tryz.underlying9 hrb;have H2:(convert 22 9 (.slice A' out.length c')).run Tryz.prog w3 = .ok (.string ⟨out.toArray⟩) w3:=z4d Tryz.underlying22 Tryz.underlying5 Tryz.underlying9 hr';by_cases hout:out=b
    ·subst hout;have Hf:Hid (z4a (Od.decO out) = .tuple #[.string x,.int .i64 0]):=by
      show _=_;rw [zkb (o:=Od.decO out) (t:=Od.z0m gs) (by rw [Hfin.out,he,if_pos rfl]),Hx.out]
     obtain ⟨z,hz'⟩:∃ z:ByteArray,z=⟨out.toArray⟩:=⟨_,rfl⟩;rw [←hz'] at H1 H2;clear he hb hrow hr' hrb hz'
     go_wp2_with fail
     go_ret2
     exact ⟨by rw [Hf.out];rfl,Hb3.out⟩
    ·have Hf:=Lib.hid (z9P (o:=Od.decO b) (by rw [Hfin.out,he,if_neg (fun e=>hout (Option.some.inj e))]));obtain ⟨z1,hz1⟩:∃ z:ByteArray,z=⟨b.toArray⟩:=⟨_,rfl⟩;obtain ⟨z2,hz2⟩:∃ z:ByteArray,z=⟨out.toArray⟩:=⟨_,rfl⟩;have hn1:(z2.toList==z1.toList)=false:=by
      rw [hz1,hz2,Lib.toList_data,Lib.toList_data,beq_eq_false_iff_ne];simpa using hout
     have hn2:(z2.toList != z1.toList)=true:=by rw [bne,hn1];rfl
     rw [←hz1] at H1;rw [←hz2] at H2;clear he hb hrow hr' hrb hz1 hz2 hout
     go_wp2_with fail
     go_ret2
     exact ⟨by rw [Hf.out];rfl,Hb3.out⟩
end Go.Proofs.YtgmppconibklcaaGreatDoor

namespace Go.Proofs.YtgmppconibklcaaGreatDoor
open Go Go.RowKit

namespace St
def znr:ByteArray:=⟨#[32,39,40,41,43,44,45,46,47,58,61,63]⟩
def letC (n:Nat):Bool:=decide ((65≤n∧n≤90)∨(97≤n∧n≤122)∨(48≤n∧n≤57))
def okN (n k:Nat):Bool:=letC n||(more.take k).contains n
theorem znj (c:UInt8):okN c.toNat 12=prC c:=by
 unfold okN letC prC;rw [show more.take 12=more from rfl,Bool.eq_iff_iff];simp only [Bool.or_eq_true,decide_eq_true_eq,List.contains_iff_mem,or_assoc]
theorem znq (k:Nat) (h:k<12):(znr[k]'h).toNat=more[k]'h:=by
 obtain rfl|rfl|rfl|rfl|rfl|rfl|rfl|rfl|rfl|rfl|rfl|rfl:k=0∨k=1∨k=2∨k=3∨k=4∨k=5∨k=6∨k=7∨k=8∨k=9∨k=10∨k=11:=by omega
 all_goals rfl
theorem zkU (n k:Nat) (h:k<12):okN n (k+1)=(okN n k||decide (n=(znr[k]'h).toNat)):=by
 rw [znq k h];unfold okN;have hl:k<more.length:=h;rw [List.take_succ_eq_append_getElem hl,Bool.or_assoc]
 congr 1
 rw [Bool.eq_iff_iff];simp only [Bool.or_eq_true,decide_eq_true_eq,List.contains_iff_mem,List.mem_append,List.mem_singleton];exact Iff.rfl
theorem zkT (n:Nat):okN n 0=letC n:=by unfold okN;simp
end St
theorem z6V {p:Prop} (h:p:=by
  obtain ⟨k,b,rfl,rfl,hk,hbw2,HO⟩:=hrel;by_cases hk12:k<12
  ·have hkM:k<M.size:=by omega
   have Hsucc:Hid (St.okN s[pos].toNat (k+1)=(b||decide (s[pos].toNat=(M[k]'hkM).toNat))):=by
    show _=_;have h1:=St.zkU s[pos].toNat k hk12;rw [HO.out] at h1;rw [h1];have h2:=HM.out;subst h2;rfl
   have hM8:(M[k]'hkM).toNat<256:=(M[k]'hkM).toNat_lt;have hszM:(k:Int)<(M.size:Int):=by omega
   cases b
   ·by_cases he:s[pos].toNat=(M[k]'hkM).toNat
    ·have he2:((s[pos].toNat:Int)==((M[k]'hkM).toNat:Int))=true:=by rw [beq_iff_eq];omega
     have Hs2:Hid (St.okN s[pos].toNat (k+1)=true):=by show _=_;rw [Hsucc.out];simp [he]
     clear he
     go_wp2_with fail
     go_quiet (fail)
     go_wp2_with fail
     go_roundw
     case rel=>exact ⟨k+1,true,rfl,by go_num,by omega,below_drewN hbw2 _,Hs2.out⟩
     case measure=>simp [intOf];omega
    ·have he2:((s[pos].toNat:Int)==((M[k]'hkM).toNat:Int))=false:=by rw [beq_eq_false_iff_ne];omega
     have Hs2:Hid (St.okN s[pos].toNat (k+1)=false):=by show _=_;rw [Hsucc.out];simp [he]
     clear he
     go_wp2_with fail
     go_quiet (fail)
     go_wp2_with fail
     go_roundw
     case rel=>exact ⟨k+1,false,rfl,by go_num,by omega,below_drewN hbw2 _,Hs2.out⟩
     case measure=>simp [intOf];omega
   ·have Hs2:Hid (St.okN s[pos].toNat (k+1)=true):=by show _=_;rw [Hsucc.out];simp
    go_wp2_with fail
    go_quiet (fail)
    go_wp2_with fail
    go_roundw
    case rel=>exact ⟨k+1,true,rfl,by go_num,by omega,below_drewN hbw2 _,Hs2.out⟩
    case measure=>simp [intOf];omega
  ·obtain rfl:k=12:=by omega
   have hoo:=HO.out;rw [Hall.out] at hoo;cases b
   ·have Hf:=Lib.hid (Hno.out hoo);clear hoo
    go_wp2_with fail
    go_ret
    exact ⟨by rw [Hf.out];rfl,hbw2⟩
   ·have Hn:=Lib.hid (Hyes.out hoo);clear hoo
    go_wp2_with fail
    go_roundw
    case rel=>exact ⟨pos+1,by go_num,by omega,hbw2,Hn.out⟩
    case measure=>simp [intOf];omega):p:=h
theorem zhU (s:ByteArray) (w:World) (hs:s.size≤1000000):
  Calls Tryz.prog 153 #[.string s] w fun e w'=>e = .returned (.bool (St.pr s))∧Below w.heap.size w w':=by
 go_enter Tryz.func153,Tryz.ntmps153
 go_wp2_with fail
 obtain ⟨M,hM⟩:∃ M:ByteArray,M=⟨#[32,39,40,41,43,44,45,46,47,58,61,63]⟩:=⟨_,rfl⟩;have hMs:M.size=12:=by rw [hM];rfl
 have HM:Hid (M=St.znr):=hM;rw [←hM];clear hM
 go_loopw [4] (fun t4 wr=>∃ pos:Nat,t4 = .int .i64 pos∧pos≤s.size∧Below w.heap.size w wr∧Hid ((s.data.toList.take pos).all St.prC=true)) (fun t4 _=>s.size-(intOf t4).toNat)
 case atStart=>exact ⟨0,rfl,Nat.zero_le _,Below.refl _ _,by simp [Hid]⟩
 case round=>
  obtain ⟨pos,rfl,hpos,hbw,HI⟩:=hrel;by_cases hlt:pos<s.size
  ·have hlt8:s[pos].toNat<256:=s[pos].toNat_lt;have Hyes:Hid (St.prC s[pos]=true→(s.data.toList.take (pos+1)).all St.prC=true):=fun h=>St.z7e hlt HI.out h
   have Hno:Hid (St.prC s[pos]=false→St.pr s=false):=fun h=>St.z8m hlt h
   have Hall:Hid (St.okN s[pos].toNat 12=St.prC s[pos]):=St.znj _;have Hz:Hid (St.okN s[pos].toNat 0=St.letC s[pos].toNat):=St.zkT _;have hcls:(65≤s[pos].toNat∧s[pos].toNat≤90)∨(97≤s[pos].toNat∧s[pos].toNat≤122)∨(48≤s[pos].toNat∧s[pos].toNat≤57)∨St.letC s[pos].toNat=false:=by
    cases hc:St.letC s[pos].toNat with
    | true=>simp only [St.letC,decide_eq_true_eq] at hc;omega
    | false=>simp
   have Hl:Hid ((65≤s[pos].toNat∧s[pos].toNat≤90)∨(97≤s[pos].toNat∧s[pos].toNat≤122)∨(48≤s[pos].toNat∧s[pos].toNat≤57)→St.letC s[pos].toNat=true):=fun h=>by simp only [St.letC,decide_eq_true_eq];exact h
   have Hln:Hid (St.letC s[pos].toNat=false→¬((65≤s[pos].toNat∧s[pos].toNat≤90)∨(97≤s[pos].toNat∧s[pos].toNat≤122)∨(48≤s[pos].toNat∧s[pos].toNat≤57))):=fun h h2=>by rw [Hl.out h2] at h;cases h
   have inner:∀ b:Bool,St.letC s[pos].toNat=b→St.okN s[pos].toNat 0=b:=fun b h=>by rw [Hz.out];exact h
   have Hin:=Lib.hid inner;clear inner;rcases hcls with h|h|h|h
   ·have Hb:=Lib.hid (Hin.out true (Hl.out (by omega)));obtain ⟨h1,h2⟩:=h
    go_wp2_with (first|(refine (z0c _ _ _ _ (by omega)).mono ?_;rintro _ w2 ⟨rfl,rfl⟩)|(refine (z0l _ _ _ _ (by omega)).mono ?_;rintro _ w2 ⟨rfl,rfl⟩))
    clear hpos
    go_loopw [6,7] (fun t6 t7 wr2=>∃ (k:Nat) (b:Bool),t6 = .bool b∧t7 = .int .i64 k∧k≤12∧Below w.heap.size w wr2∧Hid (St.okN s[pos].toNat k=b)) (fun _ t7 _=>12-(intOf t7).toNat)
    case atStart=>exact ⟨0,_,rfl,rfl,Nat.zero_le _,hbw,Hb.out⟩
    case round=>
     exact z6V
   ·have Hb:=Lib.hid (Hin.out true (Hl.out (by omega)));obtain ⟨h1,h2⟩:=h
    go_wp2_with (first|(refine (z0c _ _ _ _ (by omega)).mono ?_;rintro _ w2 ⟨rfl,rfl⟩)|(refine (z0l _ _ _ _ (by omega)).mono ?_;rintro _ w2 ⟨rfl,rfl⟩))
    clear hpos
    go_loopw [6,7] (fun t6 t7 wr2=>∃ (k:Nat) (b:Bool),t6 = .bool b∧t7 = .int .i64 k∧k≤12∧Below w.heap.size w wr2∧Hid (St.okN s[pos].toNat k=b)) (fun _ t7 _=>12-(intOf t7).toNat)
    case atStart=>exact ⟨0,_,rfl,rfl,Nat.zero_le _,hbw,Hb.out⟩
    case round=>
     exact z6V
   ·have Hb:=Lib.hid (Hin.out true (Hl.out (by omega)));obtain ⟨h1,h2⟩:=h
    go_wp2_with (first|(refine (z0c _ _ _ _ (by omega)).mono ?_;rintro _ w2 ⟨rfl,rfl⟩)|(refine (z0l _ _ _ _ (by omega)).mono ?_;rintro _ w2 ⟨rfl,rfl⟩))
    clear hpos
    go_loopw [6,7] (fun t6 t7 wr2=>∃ (k:Nat) (b:Bool),t6 = .bool b∧t7 = .int .i64 k∧k≤12∧Below w.heap.size w wr2∧Hid (St.okN s[pos].toNat k=b)) (fun _ t7 _=>12-(intOf t7).toNat)
    case atStart=>exact ⟨0,_,rfl,rfl,Nat.zero_le _,hbw,Hb.out⟩
    case round=>
     exact z6V
   ·have Hb:=Lib.hid (Hin.out false h);have Hn2:=Lib.hid (Hln.out h);clear h
    go_wp2_with (first|(refine (z0c _ _ _ _ (by have:=Hn2.out;omega)).mono ?_;rintro _ w2 ⟨rfl,rfl⟩)|(refine (z0l _ _ _ _ (by have:=Hn2.out;omega)).mono ?_;rintro _ w2 ⟨rfl,rfl⟩))
    clear hpos
    go_loopw [6,7] (fun t6 t7 wr2=>∃ (k:Nat) (b:Bool),t6 = .bool b∧t7 = .int .i64 k∧k≤12∧Below w.heap.size w wr2∧Hid (St.okN s[pos].toNat k=b)) (fun _ t7 _=>12-(intOf t7).toNat)
    case atStart=>exact ⟨0,_,rfl,rfl,Nat.zero_le _,hbw,Hb.out⟩
    case round=>
     exact z6V
  ·have Hf:Hid (St.pr s=true):=St.zaS hlt HI.out
   go_wp2_with fail
   go_ret
   exact ⟨by rw [Hf.out];rfl,hbw⟩
end Go.Proofs.YtgmppconibklcaaGreatDoor

namespace Go.Proofs.YtgmppconibklcaaGreatDoor
open Go Go.RowKit

theorem zbA {p:Prop} (h:p:=by
  go_wp2_with fail
  refine (z0l _ _ _ _ (by omega)).mono ?_;rintro _ wz ⟨rfl,rfl⟩
  go_wp2_with fail
  go_ret2
  exact ⟨by rw [Hn.out];rfl,rfl⟩):p:=h
theorem zmk (y m d h i q:Int) (w:World) (hy1:y≤9999) (hyl: -10≤y) (m0: -1≤m) (m1:m≤99) (d0: -1≤d) (d1:d≤99) (h0: -1≤h) (h1:h≤99) (i0: -1≤i) (i1:i≤99) (q0: -1≤q) (q1:q≤99):
  Calls Tryz.prog 288 #[.int .i64 y,.int .i64 m,.int .i64 d,.int .i64 h,.int .i64 i,.int .i64 q] w fun e w'=>e = .returned (z3Z (Pr.atO y m d h i q))∧w=w':=by
 have HO:Hid (Pr.atO y m d h i q=if Pr.AtOk y m d h i q then some (Pr.atT y m d h i q) else none):=rfl;by_cases c0:y<0
 ·have Hn:Hid (Pr.atO y m d h i q=none):=by
   show _=_;rw [HO.out,if_neg];rintro ⟨k0,k1,k2,k3,k4,k5,k6,k7,k8,k9,k10,k11⟩;omega
  go_enter Tryz.func288,Tryz.ntmps288
  exact zbA
 by_cases c1:m<1∨12<m
 ·have Hn:Hid (Pr.atO y m d h i q=none):=by
   show _=_;rw [HO.out,if_neg];rintro ⟨k0,k1,k2,k3,k4,k5,k6,k7,k8,k9,k10,k11⟩;omega
  go_enter Tryz.func288,Tryz.ntmps288
  go_wp2_with fail
  refine (z0c _ _ _ _ (by omega)).mono ?_;rintro _ wz ⟨rfl,rfl⟩;exact zbA
 have c1a:¬m<1:=fun h=>c1 (.inl h)
 have c1b:¬12<m:=fun h=>c1 (.inr h)
 clear c1;by_cases c2:d<1
 ·have Hn:Hid (Pr.atO y m d h i q=none):=by
   show _=_;rw [HO.out,if_neg];rintro ⟨k0,k1,k2,k3,k4,k5,k6,k7,k8,k9,k10,k11⟩;omega
  go_enter Tryz.func288,Tryz.ntmps288
  go_wp2_with fail
  refine (z0c _ _ _ _ (by omega)).mono ?_;rintro _ wz ⟨rfl,rfl⟩
  go_wp2_with fail
  refine (z0c _ _ _ _ (by omega)).mono ?_;rintro _ wz ⟨rfl,rfl⟩
  go_wp2_with fail
  go_ret2
  exact ⟨by rw [Hn.out];rfl,rfl⟩
 obtain ⟨dm,hdm⟩:∃ dm,dm=Cal.dim y m:=⟨_,rfl⟩;have hdl:=Cal.zci y m;rw [←hdm] at hdl;have Hdm:=Lib.hid hdm;obtain ⟨hdl0,hdl1⟩:=hdl;clear hdm;by_cases c3:dm<d
 ·have Hn:Hid (Pr.atO y m d h i q=none):=by
   show _=_;rw [HO.out,if_neg];rintro ⟨k0,k1,k2,k3,k4,k5,k6,k7,k8,k9,k10,k11⟩;have:=Hdm.out;omega
  go_enter Tryz.func288,Tryz.ntmps288
  go_wp2_with fail
  refine (z0c _ _ _ _ (by omega)).mono ?_;rintro _ wz ⟨rfl,rfl⟩
  go_wp2_with fail
  refine (z0c _ _ _ _ (by omega)).mono ?_;rintro _ wz ⟨rfl,rfl⟩
  go_wp2_with fail
  refine (z2H y m _ (by omega) (by omega) (by omega)).mono ?_;rintro _ wz ⟨rfl,rfl⟩;rw [←Hdm.out]
  go_wp2_with fail
  go_ret2
  exact ⟨by rw [Hn.out];rfl,rfl⟩
 by_cases c4:h<0∨23<h
 ·have Hn:Hid (Pr.atO y m d h i q=none):=by
   show _=_;rw [HO.out,if_neg];rintro ⟨k0,k1,k2,k3,k4,k5,k6,k7,k8,k9,k10,k11⟩;have:=Hdm.out;omega
  go_enter Tryz.func288,Tryz.ntmps288
  go_wp2_with fail
  refine (z0c _ _ _ _ (by omega)).mono ?_;rintro _ wz ⟨rfl,rfl⟩
  go_wp2_with fail
  refine (z0c _ _ _ _ (by omega)).mono ?_;rintro _ wz ⟨rfl,rfl⟩
  go_wp2_with fail
  refine (z2H y m _ (by omega) (by omega) (by omega)).mono ?_;rintro _ wz ⟨rfl,rfl⟩;rw [←Hdm.out];exact zbA
 have c4a:¬h<0:=fun h=>c4 (.inl h)
 have c4b:¬23<h:=fun h=>c4 (.inr h)
 clear c4;by_cases c5:i<0∨59<i
 ·have Hn:Hid (Pr.atO y m d h i q=none):=by
   show _=_;rw [HO.out,if_neg];rintro ⟨k0,k1,k2,k3,k4,k5,k6,k7,k8,k9,k10,k11⟩;have:=Hdm.out;omega
  go_enter Tryz.func288,Tryz.ntmps288
  go_wp2_with fail
  refine (z0c _ _ _ _ (by omega)).mono ?_;rintro _ wz ⟨rfl,rfl⟩
  go_wp2_with fail
  refine (z0c _ _ _ _ (by omega)).mono ?_;rintro _ wz ⟨rfl,rfl⟩
  go_wp2_with fail
  refine (z2H y m _ (by omega) (by omega) (by omega)).mono ?_;rintro _ wz ⟨rfl,rfl⟩;rw [←Hdm.out]
  go_wp2_with fail
  refine (z0c _ _ _ _ (by omega)).mono ?_;rintro _ wz ⟨rfl,rfl⟩;exact zbA
 have c5a:¬i<0:=fun h=>c5 (.inl h)
 have c5b:¬59<i:=fun h=>c5 (.inr h)
 clear c5;by_cases c6:q<0∨59<q
 ·have Hn:Hid (Pr.atO y m d h i q=none):=by
   show _=_;rw [HO.out,if_neg];rintro ⟨k0,k1,k2,k3,k4,k5,k6,k7,k8,k9,k10,k11⟩;have:=Hdm.out;omega
  go_enter Tryz.func288,Tryz.ntmps288
  go_wp2_with fail
  refine (z0c _ _ _ _ (by omega)).mono ?_;rintro _ wz ⟨rfl,rfl⟩
  go_wp2_with fail
  refine (z0c _ _ _ _ (by omega)).mono ?_;rintro _ wz ⟨rfl,rfl⟩
  go_wp2_with fail
  refine (z2H y m _ (by omega) (by omega) (by omega)).mono ?_;rintro _ wz ⟨rfl,rfl⟩;rw [←Hdm.out]
  go_wp2_with fail
  refine (z0c _ _ _ _ (by omega)).mono ?_;rintro _ wz ⟨rfl,rfl⟩
  go_wp2_with fail
  refine (z0c _ _ _ _ (by omega)).mono ?_;rintro _ wz ⟨rfl,rfl⟩;exact zbA
 have c6a:¬q<0:=fun h=>c6 (.inl h)
 have c6b:¬59<q:=fun h=>c6 (.inr h)
 clear c6;have Hg:Hid (Pr.atO y m d h i q=some (Pr.atT y m d h i q)):=by
  show _=_;rw [HO.out,if_pos ⟨by omega,by omega,by omega,by omega,by omega,by have:=Hdm.out;omega,by omega,by omega,by omega,by omega,by omega,by omega⟩]
 have HT:Hid (Pr.atT y m d h i q=(d-1+Cal.cum y m+Cal.dby y)*86400-62167219200+h*3600+i*60+q):=by
  show _=_;unfold Pr.atT Cal.num;omega
 have bdb:=Cal.zfs y (by omega) (by omega);have bcm:=Cal.zfx y m (by omega) (by omega);go_enter Tryz.func288,Tryz.ntmps288
 go_wp2_with fail
 refine (z0c _ _ _ _ (by omega)).mono ?_;rintro _ wz ⟨rfl,rfl⟩
 go_wp2_with fail
 refine (z0c _ _ _ _ (by omega)).mono ?_;rintro _ wz ⟨rfl,rfl⟩
 go_wp2_with fail
 refine (z2H y m _ (by omega) (by omega) (by omega)).mono ?_;rintro _ wz ⟨rfl,rfl⟩;rw [←Hdm.out]
 go_wp2_with fail
 refine (z0c _ _ _ _ (by omega)).mono ?_;rintro _ wz ⟨rfl,rfl⟩
 go_wp2_with fail
 refine (z0c _ _ _ _ (by omega)).mono ?_;rintro _ wz ⟨rfl,rfl⟩
 go_wp2_with fail
 refine (z0c _ _ _ _ (by omega)).mono ?_;rintro _ wz ⟨rfl,rfl⟩
 go_wp2_with fail
 go_loop [14,15] (fun t14 t15=>∃ k:Int,1≤k∧k≤m∧t15 = .int .i64 k∧t14 = .int .i64 (d-1+Cal.cum y k)) (fun _ t15=>(m-intOf t15).toNat)
 case atStart=>exact ⟨1,by omega,by omega,rfl,by rw [Cal.zlx];go_num⟩
 case round=>
  obtain ⟨k,hk0,hk1,rfl,rfl⟩:=hrel;have cb:=Cal.zfx y k hk0 (by omega);by_cases hkm:k<m
  ·have Hc:=Lib.hid (Cal.z3V y k hk0 (by omega));have db:=Cal.zci y k
   go_wp2_with fail
   refine (z2H y k _ (by omega) (by omega) (by omega)).mono ?_;rintro _ w7 ⟨rfl,rfl⟩
   go_wp2_with fail
   go_round
   case rel=>exact ⟨k+1,by omega,by omega,rfl,by rw [Hc.out];go_num⟩
   case measure=>simp [intOf];omega
  ·obtain rfl:k=m:=by omega
   go_wp2_with fail
   go_loop [0,14] (fun t0 t14=>∃ z:Int,0≤z∧z≤y∧t0 = .int .i64 z∧t14 = .int .i64 (d-1+Cal.cum y k+(Cal.dby y-Cal.dby z))) (fun t0 _=>(intOf t0).toNat)
   case atStart=>exact ⟨y,by omega,by omega,rfl,by go_num⟩
   case round=>
    obtain ⟨z,hz0,hz1,rfl,rfl⟩:=hrel;have bz:=Cal.zfs z (by omega) (by omega);by_cases h4:400≤z
    ·have e4:=znV (z-400);rw [show z-400+400=z by omega] at e4;have E4:=Lib.hid e4;clear e4
     go_wp2_with fail
     go_round
     case rel=>exact ⟨z-400,by omega,by omega,rfl,by rw [E4.out];go_num⟩
     case measure=>simp [intOf];omega
    ·go_wp2_with fail
     go_loop [14,16] (fun t14 t16=>∃ j:Int,0≤j∧j≤z∧t16 = .int .i64 j∧t14 = .int .i64 (d-1+Cal.cum y k+(Cal.dby y-Cal.dby z)+Cal.dby j)) (fun _ t16=>(z-intOf t16).toNat)
     case atStart=>exact ⟨0,by omega,by omega,rfl,by rw [Cal.zaJ];go_num⟩
     case round=>
      obtain ⟨j,hj0,hj1,rfl,rfl⟩:=hrel;have bj:=Cal.zfs j (by omega) (by omega);by_cases hjz:j<z
      ·have Hs:=Lib.hid (Cal.zaK j hj0);have hl:=Cal.zdt j;have hl':0≤Cal.lp j∧Cal.lp j≤1:=by omega
       clear hl
       go_wp2_with fail
       refine (zjt j _ (by omega) (by omega)).mono ?_;rintro _ w7 ⟨rfl,rfl⟩
       go_wp2_with fail
       go_round
       case rel=>exact ⟨j+1,by omega,by omega,rfl,by rw [Hs.out];go_num⟩
       case measure=>simp [intOf];omega
      ·obtain rfl:j=z:=by omega
       go_wp2_with fail
       go_ret2
       exact ⟨by rw [Hg.out,HT.out];exact congrArg (fun x=>Ending.returned (.tuple #[.int .i64 x,.bool true])) (by omega),rfl⟩
theorem zo3 (y m d h i q:Int) (w:World) (hy1:y≤9999) (hyl: -10≤y) (m0: -1≤m) (m1:m≤99) (d0: -1≤d) (d1:d≤99) (h0: -1≤h) (h1:h≤99) (i0: -1≤i) (i1:i≤99) (q0: -1≤q) (q1:q≤99) (ho:Hid (none=Pr.atO y m d h i q)):
  Calls Tryz.prog 288 #[.int .i64 y,.int .i64 m,.int .i64 d,.int .i64 h,.int .i64 i,.int .i64 q] w fun e w'=>e = .returned (.tuple #[.int .i64 0,.bool false])∧w'=w:=
 (zmk y m d h i q w hy1 hyl m0 m1 d0 d1 h0 h1 i0 i1 q0 q1).mono fun _ _ ⟨he,hw⟩=>⟨by rw [he,←ho.out];rfl,hw.symm⟩
theorem zjK (y m d h i q t:Int) (w:World) (hy1:y≤9999) (hyl: -10≤y) (m0: -1≤m) (m1:m≤99) (d0: -1≤d) (d1:d≤99) (h0: -1≤h) (h1:h≤99) (i0: -1≤i) (i1:i≤99) (q0: -1≤q) (q1:q≤99) (ho:Hid (some t=Pr.atO y m d h i q)):
  Calls Tryz.prog 288 #[.int .i64 y,.int .i64 m,.int .i64 d,.int .i64 h,.int .i64 i,.int .i64 q] w fun e w'=>e = .returned (.tuple #[.int .i64 t,.bool true])∧w'=w:=
 (zmk y m d h i q w hy1 hyl m0 m1 d0 d1 h0 h1 i0 i1 q0 q1).mono fun _ _ ⟨he,hw⟩=>⟨by rw [he,←ho.out];rfl,hw.symm⟩
theorem znc (s:ByteArray) (k:Nat) (h:k+1<s.size):partOf (s.extract k (k+2))=Pr.tw s.data.toList k:=by
 have hl:s.size=s.data.toList.length:=Lib.size_eq s;have e:(s.extract k (k+2)).data.toList=[s.data.toList.getD k 0,s.data.toList.getD (k+1) 0]:=by
  rw [z5D,show k+2-k=2 by omega,List.drop_eq_getElem_cons (by omega),List.take_succ_cons,List.drop_eq_getElem_cons (by omega),List.take_succ_cons,List.take_zero];rw [List.getD_eq_getElem?_getD,List.getD_eq_getElem?_getD,List.getElem?_eq_getElem (by omega),List.getElem?_eq_getElem (by omega)];rfl
 unfold partOf Pr.tw Pr.lb;rw [e];obtain ⟨a,ha⟩:∃ a,a=s.data.toList.getD k 0:=⟨_,rfl⟩;obtain ⟨b,hb⟩:∃ b,b=s.data.toList.getD (k+1) 0:=⟨_,rfl⟩;rw [←ha,←hb];simp only [List.all_cons,List.all_nil,Bool.and_true,Bool.and_eq_true,Od.z1s,decide_eq_true_eq,Od.val,List.foldl_cons,List.foldl_nil];by_cases hc:(48≤a.toNat∧a.toNat≤57)∧48≤b.toNat∧b.toNat≤57
 ·rw [if_pos hc,if_pos (by omega)];omega
 ·rw [if_neg hc,if_neg (by omega)]
theorem z3A (s:ByteArray) (a b:Nat) (x:Int) (w:World) (hab:b=a+2) (h:a+1<s.size) (hx:Hid (x=Pr.tw s.data.toList a)):
  Calls Tryz.prog 215 #[.string (s.extract a b)] w fun e w'=>e = .returned (.int .i64 x)∧w'=w:=by
 subst hab;rw [hx.out,←znc s a h];exact (zaf _ w (by simp;omega)).mono fun _ _ ⟨h1,h2⟩=>⟨h1,h2.symm⟩
theorem of_any (y:Int) (s:ByteArray) (o:Option Int) (w:World) (hs:s.size=10) (hyl: -10≤y) (hy1:y≤9999) (ho:Hid (o=Pr.momO y s.data.toList 0)):
  Calls Tryz.prog 216 #[.int .i64 y,.string s] w fun e w'=>e = .returned (z3Z o)∧∃ n,w'=w.drewN n:=by
 have r0:=Pr.z1i s.data.toList 0;have r1:=Pr.z1i s.data.toList 2;have r2:=Pr.z1i s.data.toList 4;have r3:=Pr.z1i s.data.toList 6;have r4:=Pr.z1i s.data.toList 8;have HO:Hid (o=Pr.atO y (Pr.tw s.data.toList 0) (Pr.tw s.data.toList 2) (Pr.tw s.data.toList 4) (Pr.tw s.data.toList 6) (Pr.tw s.data.toList 8)):=ho.out;obtain ⟨m,hm⟩:∃ m,m=Pr.tw s.data.toList 0:=⟨_,rfl⟩;obtain ⟨d,hd⟩:∃ m,m=Pr.tw s.data.toList 2:=⟨_,rfl⟩;obtain ⟨h,hh⟩:∃ m,m=Pr.tw s.data.toList 4:=⟨_,rfl⟩;obtain ⟨i,hi⟩:∃ m,m=Pr.tw s.data.toList 6:=⟨_,rfl⟩;obtain ⟨q,hq⟩:∃ m,m=Pr.tw s.data.toList 8:=⟨_,rfl⟩;rw [←hm] at r0;rw [←hd] at r1;rw [←hh] at r2;rw [←hi] at r3;rw [←hq] at r4;rw [←hm,←hd,←hh,←hi,←hq] at HO;have Hm:=Lib.hid hm;have Hd:=Lib.hid hd;have Hh:=Lib.hid hh;have Hi:=Lib.hid hi;have Hq:=Lib.hid hq;obtain ⟨m0,m1⟩:=r0;obtain ⟨d0,d1⟩:=r1;obtain ⟨h0,h1⟩:=r2;obtain ⟨i0,i1⟩:=r3;obtain ⟨q0,q1⟩:=r4;have z1:0+1<s.size:=by omega
 have z3:2+1<s.size:=by omega
 have z5:4+1<s.size:=by omega
 have z7:6+1<s.size:=by omega
 have z9:8+1<s.size:=by omega
 have b2:(2:Int)≤(s.size:Int):=by omega
 have b4:(4:Int)≤(s.size:Int):=by omega
 have b6:(6:Int)≤(s.size:Int):=by omega
 have b8:(8:Int)≤(s.size:Int):=by omega
 have b10:(10:Int)≤(s.size:Int):=by omega
 clear hm hd hh hi hq ho hs;cases o with
 | none=>
  go_enter Tryz.func216,Tryz.ntmps216
  go_wp2_with fail
  go_quiet (first|(go_at_call 215;with_reducible exact Calls.quiet_of_same (z3A s 0 2 m _ rfl z1 Hm))|(go_at_call 215;with_reducible exact Calls.quiet_of_same (z3A s 2 4 d _ rfl z3 Hd))|(go_at_call 215;with_reducible exact Calls.quiet_of_same (z3A s 4 6 h _ rfl z5 Hh))|(go_at_call 215;with_reducible exact Calls.quiet_of_same (z3A s 6 8 i _ rfl z7 Hi))|(go_at_call 215;with_reducible exact Calls.quiet_of_same (z3A s 8 10 q _ rfl z9 Hq))|(go_at_call 288;exact Calls.quiet_of_same (zo3 y m d h i q _ hy1 hyl m0 m1 d0 d1 h0 h1 i0 i1 q0 q1 HO)))
  go_wp2_with fail
  go_ret2
  exact ⟨rfl,_,rfl⟩
 | some t=>
  go_enter Tryz.func216,Tryz.ntmps216
  go_wp2_with fail
  go_quiet (first|(go_at_call 215;with_reducible exact Calls.quiet_of_same (z3A s 0 2 m _ rfl z1 Hm))|(go_at_call 215;with_reducible exact Calls.quiet_of_same (z3A s 2 4 d _ rfl z3 Hd))|(go_at_call 215;with_reducible exact Calls.quiet_of_same (z3A s 4 6 h _ rfl z5 Hh))|(go_at_call 215;with_reducible exact Calls.quiet_of_same (z3A s 6 8 i _ rfl z7 Hi))|(go_at_call 215;with_reducible exact Calls.quiet_of_same (z3A s 8 10 q _ rfl z9 Hq))|(go_at_call 288;exact Calls.quiet_of_same (zjK y m d h i q t _ hy1 hyl m0 m1 d0 d1 h0 h1 i0 i1 q0 q1 HO)))
  go_wp2_with fail
  go_ret2
  exact ⟨rfl,_,rfl⟩
end Go.Proofs.YtgmppconibklcaaGreatDoor

namespace Go.Proofs.YtgmppconibklcaaGreatDoor
open Go Go.RowKit

theorem znk (y z:Int) (o:Option Int) (s:ByteArray) (w:World) (hs:s.size=10) (hyl: -10≤y) (hy1:y≤9999) (e:y=z) (ho:Hid (o=Pr.momO z s.data.toList 0)):
  Calls Tryz.prog 216 #[.int .i64 y,.string s] w fun e w'=>e = .returned (z3Z o)∧∃ n,w'=w.drewN n:=by
 subst e;exact of_any y s o w hs hyl hy1 ho
theorem ziA (y z:Int) (s:ByteArray) (w:World) (hs:s.size=10) (hyl: -10≤y) (hy1:y≤9999) (e:y=z) (ho:Hid (none=Pr.momO z s.data.toList 0)):
  Calls Tryz.prog 216 #[.int .i64 y,.string s] w fun e w'=>e = .returned (.tuple #[.int .i64 0,.bool false])∧∃ n,w'=w.drewN n:=znk y z none s w hs hyl hy1 e ho
theorem ziz (y z t:Int) (s:ByteArray) (w:World) (hs:s.size=10) (hyl: -10≤y) (hy1:y≤9999) (e:y=z) (ho:Hid (some t=Pr.momO z s.data.toList 0)):
  Calls Tryz.prog 216 #[.int .i64 y,.string s] w fun e w'=>e = .returned (.tuple #[.int .i64 t,.bool true])∧∃ n,w'=w.drewN n:=znk y z (some t) s w hs hyl hy1 e ho
theorem zeE {p:Prop} (h:p:=by
  go_enter Tryz.func155,Tryz.ntmps155
  go_wp2_with fail
  go_ret2
  exact ⟨by rw [Hf.out];rfl,0,rfl⟩):p:=h
theorem z60 (s:ByteArray) (w:World) (hs:s.size≤1000000):
  Calls Tryz.prog 155 #[.string s] w fun e w'=>e = .returned (z2w (Pr.z22 s.data.toList))∧∃ n,w'=w.drewN n:=by
 have hsz:s.size=s.data.toList.length:=Lib.size_eq s;have hb:=PlainAid.get_bt s;have hl12:=z3S s 12;by_cases h13:s.size=13
 ·by_cases hz:PlainAid.bt s 12=90
  ·have htw:=Pr.z1i s.data.toList 0;obtain ⟨x,hx⟩:∃ x,x=Pr.tw s.data.toList 0:=⟨_,rfl⟩;have Hm:Hid (∀ y,Pr.momO y (s.extract 2 12).data.toList 0=Pr.momO y s.data.toList 2):=fun y=>z6a y s 2
   have he:(s.extract 2 12).size=10:=by simp;omega
   have hsl:s.size≤13:=by omega
   have hsg:13≤s.size:=by omega
   rw [←hx] at htw;have Hx:=Lib.hid hx;have He:=Lib.hid he;by_cases h0:x<0
   ·have Hf:=Lib.hid (z2E (l:=s.data.toList) (by rw [←hx];omega));clear hx hsz hl12 he;go_enter Tryz.func155,Tryz.ntmps155
    go_wp2_with fail
    refine (z3A s 0 2 x _ rfl (by omega) Hx).mono ?_;rintro _ w1 ⟨rfl,rfl⟩
    go_wp2_with fail
    go_ret2
    exact ⟨by rw [Hf.out];rfl,0,rfl⟩
   ·have Ho:Hid (Pr.z22 s.data.toList=Pr.momO (if x<50 then 2000+x else 1900+x) s.data.toList 2):=by
     show _=_;unfold Pr.z22;rw [if_pos ⟨by omega,by omega,by omega⟩,←hx]
    obtain ⟨o,ho⟩:∃ o,o=Pr.momO (if x<50 then 2000+x else 1900+x) s.data.toList 2:=⟨_,rfl⟩;have Ho1:Hid (o=Pr.momO (if x<50 then 2000+x else 1900+x) (s.extract 2 12).data.toList 0):=by show _=_;rw [Hm.out];exact ho
    have Ho2:Hid (z2w (Pr.z22 s.data.toList)=z2w o):=by show _=_;rw [Ho.out,←ho]
    clear hx hsz hl12 he ho Ho;by_cases h50:x<50;all_goals
     go_enter Tryz.func155,Tryz.ntmps155
     go_wp2_with fail
     refine (z3A s 0 2 x _ rfl (by omega) Hx).mono ?_;rintro _ w1 ⟨rfl,rfl⟩
     go_wp2_with fail
     refine (z3A s 0 2 x _ rfl (by omega) Hx).mono ?_;rintro _ w1 ⟨rfl,rfl⟩
     go_wp2_with fail
     refine (znk _ (if x<50 then 2000+x else 1900+x) o _ _ He.out (by omega) (by omega) (by split<;>omega) Ho1).mono ?_;rintro _ w2 ⟨rfl,hq⟩;have Hq2:=Lib.hid hq;clear hq;cases o with
     | none=>
      unfold z3Z
      go_wp2_with fail
      go_ret2
      exact ⟨by rw [Ho2.out];rfl,Hq2.out⟩
     | some t=>
      unfold z3Z
      go_wp2_with fail
      go_ret2
      exact ⟨by rw [Ho2.out];rfl,Hq2.out⟩
  ·have Hf:=Lib.hid (z2E (l:=s.data.toList) (by omega));have hz1:(PlainAid.bt s 12==90)=false:=by simpa using hz
   have hz2:(PlainAid.bt s 12 != 90)=true:=by simpa using hz
   have hsl:s.size≤13:=by omega
   have hsg:13≤s.size:=by omega
   clear hz hl12 hsz h13;exact zeE
 ·have Hf:=Lib.hid (z2E (l:=s.data.toList) (by omega));have hz1:((s.size:Int)==13)=false:=by simp;omega
  have hz2:((s.size:Int) != 13)=true:=by simp;omega
  clear hb hl12 hsz h13;exact zeE
end Go.Proofs.YtgmppconibklcaaGreatDoor

