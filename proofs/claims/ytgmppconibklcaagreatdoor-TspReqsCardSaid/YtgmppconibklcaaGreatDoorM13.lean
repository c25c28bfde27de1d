/- Part of the proof. No condition. -/
import Derived.Test.YtgmppconibklcaaGreatDoorProg
import Derived.Test.YtgmppconibklcaaGreatDoorM0
import Derived.Test.YtgmppconibklcaaGreatDoorM8
import Derived.WalkKit
import Derived.BigCall
import Derived.BigQuiet
import Derived.Outline
import Derived.Handy
import Derived.ShutString
import Derived.WalkLawsBesides
import Derived.WalkSpells
import Derived.Test.YtgmppconibklcaaGreatDoorM12
import Derived.Laws.Bits64b
set_option maxHeartbeats 40000000
set_option maxRecDepth 100000
set_option linter.unusedVariables false
set_option linter.unusedSimpArgs false
namespace Go.Proofs.YtgmppconibklcaaGreatDoor
open Go Go.RowKit

theorem zmB (W:World) (x:Int):
  (convert 22 9 (.slice (some ⟨W.heap.size,0,none⟩) 1 1)).run Tryz.prog (W.alloc (.cells #[.int .u8 x] 5)) = .ok (.string ⟨#[UInt8.ofNat x.toNat]⟩) (W.alloc (.cells #[.int .u8 x] 5)):=by
 rw [run_convert_bytes_string _ 22 9 5 _ _ _ Tryz.underlying22 Tryz.underlying5 Tryz.underlying9];have hl:=run_loadCells_list (P:=Tryz.prog) (W.alloc (.cells #[.int .u8 x] 5)) ⟨W.heap.size,0,none⟩ [.int .u8 x] (fun j v hj=>by
  match j,hj with
  | 0,hj=>simp at hj;subst hj;simp [Addr.add])
 exact run_bytesToString _ ⟨W.heap.size,0,none⟩ 1 1 [x] (by simpa using hl)

theorem zhv (a b:Array UInt8):((⟨a⟩:ByteArray)++(⟨b⟩:ByteArray))=⟨a++b⟩:=by
 apply ByteArray.ext;simp
theorem znO (m:Nat) (l:List UInt8):((⟨#[48+UInt8.ofNat (m%10)]⟩:ByteArray)++(⟨l.toArray⟩:ByteArray))=⟨(Dig.dig m::l).toArray⟩:=by
 rw [zhv]
 congr 1
 have:48+UInt8.ofNat (m%10)=Dig.dig m:=by unfold Dig.dig;rw [UInt8.ofNat_add];rfl
 rw [this];simp
def lenOf:Value→Nat | .string s=>s.size|_=>0
theorem z9Z (n least:Nat) (w:World) (h0:(n:Int)≤18446744073709551615) (h1:least≤20):
  Calls Tryz.prog 164 #[.int .u64 n,.int .i64 least] w fun e w'=>e = .returned (.string ⟨(Dig.dgs n least).toArray⟩)∧Below w.heap.size w w':=by
 have HS:=Lib.hid (Dig.Inv.start (n:=n) (least:=least) (by omega) h1);have kc:=zmB;go_enter Tryz.func164,Tryz.ntmps164
 go_wp2_with fail
 go_loopw [0,5] (fun t0 t5 wr=>∃ (f m:Nat) (l:List UInt8),t0 = .int .u64 m∧t5 = .string ⟨l.toArray⟩∧(m:Int)≤18446744073709551615∧l.length≤20∧Hid (Dig.Inv n least f m l)∧Below w.heap.size w wr) (fun _ t5 _=>20-lenOf t5)
 case atStart=>exact ⟨20,n,[],rfl,rfl,h0,by simp,HS,Below.refl _ _⟩
 case round=>
  obtain ⟨f,m,l,rfl,rfl,hm,hL,HI,hb⟩:=hrel;have fin:∀ (hh:0<m∨l.length<least) (o:Obj),(∃ (f' m':Nat) (l':List UInt8),Value.int .u64 ((m:Int) / 10) = .int .u64 m'∧Value.string ((⟨#[48+UInt8.ofNat (m%10)]⟩:ByteArray)++(⟨l.toArray⟩:ByteArray)) = .string ⟨l'.toArray⟩∧(m':Int)≤18446744073709551615∧l'.length≤20∧Hid (Dig.Inv n least f' m' l')∧Below w.heap.size w (wr.alloc o))∧(20-lenOf (Value.string ((⟨#[48+UInt8.ofNat (m%10)]⟩:ByteArray)++(⟨l.toArray⟩:ByteArray)))<20-lenOf (Value.string ⟨l.toArray⟩)):=by
   intro hh o;have hp:=HI.out.pos hh;obtain ⟨f',h'⟩:=HI.out.next hh;rw [znO];exact ⟨⟨f',m / 10,Dig.dig m::l,rfl,rfl,by omega,by simp;omega,h',hb.alloc hb.size _⟩,by simp [lenOf,size_of_list];omega⟩
  have Hf:=Lib.hid fin;clear fin;by_cases hc:0<m
  ·go_wp2_with fail
   exact Hf.out (.inl hc) _
  ·by_cases hk2:l.length<least
   ·go_wp2_with fail
    exact Hf.out (.inr hk2) _
   ·go_wp2_with fail
    go_ret
    exact ⟨by rw [HI.out.stop hc hk2];rfl,hb⟩
theorem z7W:(Tryz.prog.info? 5).map (fun i=>(i.zero,i.size,i.bytes))=some (some (.int .u8 0),1,1):=by kernel_rfl
theorem zg1 (b k:Nat) (hk:k≤20) (W:World):
  (Instr.sliceAt 264 (.pointer (some ⟨b,0,none⟩)) (some (.int .i64 (k:Int))) none none).run Tryz.prog W = .ok (.slice (some (if 20=k then ⟨b,0,none⟩ else (⟨b,0,none⟩:Addr).add (k*1))) (20-k) (20-k)) W:=by
 simp [Instr.sliceAt,run_underlying Tryz.underlying264,Instr.sureAddr,Instr.sliceBounds,Instr.sliceBound,asIntOf,go_sem];intro h;omega
theorem zkC {w:World} {b t k:Nat} {cur:Array Value} {l:List UInt8} (hB:Blk w b t cur) (_:cur.size=20) (hd:cur.toList.drop k=Lib.byteCells l) (hk:k+l.length=20):
  Reads w w.heap.size 1 (some (if 20=k then ⟨b,0,none⟩ else (⟨b,0,none⟩:Addr).add (k*1))) (20-k) (Lib.byteCells l):=by
 refine ⟨by rw [Lib.byteCells_length];omega,fun hn=>?_⟩;rw [if_neg (by omega)];refine ⟨_,rfl,by rw [z4t];exact hB.lt,fun j u hu=>?_⟩;have ha:((⟨b,0,none⟩:Addr).add (k*1)).add j=⟨b,k+j,none⟩:=by
  rw [z6m];unfold Addr.add;split<;>simp<;>omega
 rw [ha,hB.cell,←Array.getElem?_toList,←List.getElem?_drop,hd];exact hu
theorem drop_set {cur:Array Value} {k m:Nat} {l:List UInt8} (hs:cur.size=20) (hk0:0<k) (hk:k≤20) (hd:cur.toList.drop k=Lib.byteCells l):
  (cur.setIfInBounds (k-1) (.int .u8 (48+(m:Int)%10))).toList.drop (k-1)=Lib.byteCells (Dig.dig m::l):=by
 rw [Array.toList_setIfInBounds];have hlen:cur.toList.length=20:=by simpa using hs
 rw [List.drop_eq_getElem_cons (by simp;omega),show k-1+1=k by omega,List.drop_set_of_lt (by omega),hd];simp [Lib.byteCells,Dig.z3H]
theorem zgO (n least:Nat) (v:Value) (l0:List UInt8) (base:Nat) (w:World) (hown:w.ownsRow base 5 1 v l0.length (Lib.byteCells l0)) (hbase:base≤w.heap.size) (hl0:l0.length≤1000000)
  (h0:(n:Int)≤18446744073709551615) (h1:least≤20):
  Calls Tryz.prog 125 #[v,.int .u64 n,.int .i64 least] w fun e w'=>∃ v',e = .returned v'∧AppB base w w' v v' (l0++Dig.dgs n least):=by
 have HS:=Lib.hid (Dig.Inv.start (n:=n) (least:=least) (by omega) h1);have HO:=Lib.hid hown;clear hown;obtain ⟨i0,hi0,hz0,hz1,hz2⟩:=info_parts z7W;go_enter Tryz.func125,Tryz.ntmps125
 go_wp2_with fail
 go_loopw [1,8] (fun t1 t8 wr=>∃ (f m k:Nat) (l:List UInt8) (cur:Array Value),t1 = .int .u64 m∧t8 = .int .i64 k∧k≤20∧Hid (k+l.length=20)∧(m:Int)≤18446744073709551615∧Hid (Dig.Inv n least f m l)∧Hid (Blk wr w.heap.size 264 cur∧cur.size=20∧cur.toList.drop k=Lib.byteCells l)∧Below w.heap.size w wr) (fun _ t8 _=>(intOf t8).toNat)
 case atStart=>exact ⟨20,n,20,[],_,rfl,rfl,by omega,by simp [Hid],h0,HS,⟨Blk.new _ _ _,rfl,rfl⟩,(Below.refl _ w).alloc (Nat.le_refl _) _⟩
 case round=>
  obtain ⟨f,m,k,l,cur,rfl,rfl,hk,HK,hm,HI,HB,hb⟩:=hrel;have hlk:l.length≤20:=by have:=HK.out;omega
  have fin:∀ (hh:0<m∨l.length<least),(∃ (f' m' k':Nat) (l':List UInt8) (cur':Array Value),Value.int .u64 ((m:Int) / 10) = .int .u64 m'∧Value.int .i64 ((k:Int)-1) = .int .i64 k'∧k'≤20∧Hid (k'+l'.length=20)∧(m':Int)≤18446744073709551615∧Hid (Dig.Inv n least f' m' l') ∧
    Hid (Blk (wr.setCell ⟨w.heap.size,k-1,none⟩ (.int .u8 (48+(m:Int)%10))) w.heap.size 264 cur'∧cur'.size=20∧cur'.toList.drop k'=Lib.byteCells l')∧Below w.heap.size w (wr.setCell ⟨w.heap.size,k-1,none⟩ (.int .u8 (48+(m:Int)%10)))) ∧
    (intOf (Value.int .i64 ((k:Int)-1))).toNat<(intOf (Value.int .i64 k)).toNat:=by
   intro hh;have hp:=HI.out.pos hh;obtain ⟨f',h'⟩:=HI.out.next hh;have hk':=HK.out;exact ⟨⟨f',m / 10,k-1,Dig.dig m::l,_,rfl,by go_num,by omega,by show _=_;simp;omega,by omega,h',⟨HB.out.1.set_ _ _,by simp [HB.out.2.1],drop_set HB.out.2.1 (by omega) hk HB.out.2.2⟩,hb.setCell (p:=⟨w.heap.size,k-1,none⟩) (Nat.le_refl _) _⟩,by simp [intOf];omega⟩
  have Hf:=Lib.hid fin;clear fin;have hcell:0<k→wr.cell? ⟨w.heap.size,k-1,none⟩=some (cur[k-1]?.getD undef):=fun hk0=>by
   rw [HB.out.1.cell,Array.getElem?_eq_getElem (by have:=HB.out.2.1;omega)];rfl
  have hf1:=HB.out.1.frozen (k-1);have Hcell:=Lib.hid hcell;clear hcell;by_cases hc:0<m
  ·have hp:=HI.out.pos (.inl hc);have hk0:0<k:=by have:=HK.out;omega
   have hc1:=Hcell.out hk0
   go_wp2_with fail
   exact Hf.out (.inl hc)
  ·by_cases hk2:l.length<least
   ·have hp:=HI.out.pos (.inr hk2);have hk0:0<k:=by have:=HK.out;omega
    have hc1:=Hcell.out hk0;have hlt:(20:Int)-k<least:=by have:=HK.out;omega
    go_wp2_with fail
    exact Hf.out (.inr hk2)
   ·have hlt:(least:Int)≤20-k:=by have:=HK.out;omega
    have hsl:=zg1 w.heap.size k hk;have hr:=zkC HB.out.1 HB.out.2.1 HB.out.2.2 HK.out;obtain ⟨ad,had⟩:∃ ad,ad=(if 20=k then ⟨w.heap.size,0,none⟩ else (⟨w.heap.size,0,none⟩:Addr).add (k*1)):=⟨_,rfl⟩;rw [←had] at hsl hr;clear had;have Hr:=Lib.hid hr;clear hr;have HO':=Lib.hid (z1y HO.out hb);have hs':=hb.size
    go_wp2_with (refine z0x _ rfl (.tmp 27) (.tmp 29) _ rfl base 5 i0 _ 1 1 Tryz.underlying22 hi0 hz0 hz1 hz2 rfl (by omega) v l0.length (Lib.byteCells l0) rfl HO'.out wr.heap.size (some ad) (20-k) (20-k) (Lib.byteCells l) rfl Hr.out (by intro u hu;obtain ⟨c,_,rfl⟩:=List.mem_map.1 hu;rfl) (by simp only [maxLen];omega) (by omega) (by omega) ?_;intro v' w1 hown1 hgrow1 hat1)
    go_ret
    have hds:=HI.out.stop hc hk2;have hl20:20-k=l.length:=by have:=HK.out;omega
    refine ⟨v',rfl,?_,?_,?_⟩
    ·rw [hds,Lib.byteCells_append,List.length_append,←hl20];exact hown1
    ·exact z2o (z0e hb _) hgrow1 (fun g hg=> .inl hg)
    ·intro g hg;rcases hat1 with h|h
     ·exact .inl (by rw [←h];exact hg)
     ·rw [h] at hg;injection hg with hg;exact .inr (by omega)
theorem z3G (a k:Int) (v:Value) (l0:List UInt8) (base:Nat) (w:World) (hown:w.ownsRow base 5 1 v l0.length (Lib.byteCells l0)) (hbase:base≤w.heap.size) (hl0:l0.length≤1000000)
  (h0:0≤a) (h1:a≤18446744073709551615) (hk0:0≤k) (hk1:k≤20):
  Calls Tryz.prog 125 #[v,.int .u64 a,.int .i64 k] w fun e w'=>∃ v',e = .returned v'∧AppB base w w' v v' (l0++Dig.dgs a.toNat k.toNat):=by
 obtain ⟨n,rfl⟩:=Int.eq_ofNat_of_zero_le h0;obtain ⟨j,rfl⟩:=Int.eq_ofNat_of_zero_le hk0;exact zgO n j v l0 base w hown hbase hl0 h1 (by omega)
end Go.Proofs.YtgmppconibklcaaGreatDoor

namespace Go.Proofs.YtgmppconibklcaaGreatDoor
open Go Go.RowKit

theorem z7c (w:World) (base:Nat):w.ownsRow base 5 1 (.slice none 0 0) (List.length ([]:List UInt8)) (Lib.byteCells []):=World.ownsRow_nil _ _ _ _
def pieces:List (Int×Int)→List UInt8
 | []=>[]
 | (a,k)::r=>Dig.dgs a.toNat k.toNat++pieces r
theorem zah {base:Nat} {w:World} {v:Value} {l:List UInt8} (h:w.ownsRow base 5 1 v l.length (Lib.byteCells l)):∃ B A c,v = .slice A l.length c∧Reads w B 1 A l.length (Lib.byteCells l):=by
 obtain ⟨A,c,hv,hr⟩:=z0P h;exact ⟨_,A,c,hv,hr⟩
end Go.Proofs.YtgmppconibklcaaGreatDoor

namespace Go.Proofs.YtgmppconibklcaaGreatDoor
open Go Go.RowKit

theorem or_128 (x:Nat) (h:x<256):bits BinOp.or IntKind.u8 (x:Int) 128=((x%128+128:Nat):Int):=by
 have key:∀ k:Fin 256,bits BinOp.or IntKind.u8 ((k.val:Nat):Int) 128=((k.val%128+128:Nat):Int):=by decide +kernel
 exact key ⟨x,h⟩
theorem zjP (x:Nat) (h:x<256):bits BinOp.and IntKind.u8 (x:Int) 127=((x%128:Nat):Int):=by
 have key:∀ k:Fin 256,bits BinOp.and IntKind.u8 ((k.val:Nat):Int) 127=((k.val%128:Nat):Int):=by decide +kernel
 exact key ⟨x,h⟩
theorem znS (n k:Nat):bits BinOp.or IntKind.u8 ((n:Int) / 2^(7*k)%256) 128=((Od.dg n k).toNat:Int):=by
 have e:((n:Int) / 2^(7*k)%256)=((n / 128^k%256:Nat):Int):=by
  rw [show ((2:Int)^(7*k))=((2^(7*k):Nat):Int) by simp,Od.pow_two];rfl
 rw [e,or_128 _ (Nat.mod_lt _ (by omega))];unfold Od.dg;rw [UInt8.toNat_ofNat',Nat.mod_mod_of_dvd _ (by decide:(128:Nat) ∣ 256)];have:=Nat.mod_lt (n / 128^k) (show 0<128 by omega);omega
theorem zl6 (n:Nat):bits BinOp.and IntKind.u8 ((n:Int)%256) 127=((UInt8.ofNat (n%128)).toNat:Int):=by
 rw [show ((n:Int)%256)=((n%256:Nat):Int) from rfl,zjP _ (Nat.mod_lt _ (by omega)),UInt8.toNat_ofNat',Nat.mod_mod_of_dvd _ (by decide:(128:Nat) ∣ 256)];omega
theorem grow_step (n k:Nat):n / 128^(k+1) / 128=n / 128^(k+1+1):=by rw [Nat.div_div_eq_div_mul,←Nat.pow_succ]
theorem zn2 (n:Nat) (v:Value) (l0:List UInt8) (base:Nat) (w:World) (hown:w.ownsRow base 5 1 v l0.length (Lib.byteCells l0)) (hbase:base≤w.heap.size) (hl0:l0.length≤1000000)
  (h0:(n:Int)≤18446744073709551615):
  Calls Tryz.prog 142 #[v,.int .u64 n] w fun e w'=>∃ v',e = .returned v'∧AppB base w w' v v' (l0++Od.b128 n):=by
 have HO:=Lib.hid hown;clear hown;obtain ⟨i0,hi0,hz0,hz1,hz2⟩:=info_parts z7W;have H10:Hid (n / 128^(9+1)=0):=by
  show _=_;rw [Nat.div_eq_zero_iff];right;omega
 go_enter Tryz.func142,Tryz.ntmps142
 go_wp2_with fail
 go_loop [5,6] (fun t5 t6=>∃ k m:Nat,t5 = .int .i64 k∧t6 = .int .u64 m∧k≤9∧Hid (m=n / 128^(k+1)∧(k=0∨n / 128^k≠0))) (fun t5 _=>(20-intOf t5).toNat)
 case atStart=>exact ⟨0,n / 128,rfl,rfl,by omega,by simp,.inl rfl⟩
 case round=>
  obtain ⟨k,m,rfl,rfl,hk,HI⟩:=hrel;by_cases hm:0<m
  ·have hk9:k<9:=by
    rcases Nat.lt_or_ge k 9 with h|h
    ·exact h
    ·obtain rfl:k=9:=by omega
     have:=HI.out.1;rw [H10.out] at this;omega
   have Hn:Hid (m / 128=n / 128^(k+1+1)∧(k+1=0∨n / 128^(k+1)≠0)):=⟨by rw [HI.out.1];exact grow_step n k,.inr (by rw [←HI.out.1];omega)⟩
   go_wp2_with fail
   exact ⟨⟨k+1,m / 128,by go_num,rfl,by omega,Hn⟩,by simp [intOf];omega⟩
  ·have Hb:=Lib.hid (Od.zo2 (n:=n) (K:=k) (by omega) (by rw [←HI.out.1];omega) HI.out.2)
   go_wp2_with fail
   go_loopw [0,5] (fun t0 t5 wr=>∃ (j:Nat) (l:List UInt8) (v1:Value),v1=t0∧t5 = .int .i64 j∧j≤9∧l.length≤1000010-j∧Hid (AppB base w wr v v1 l∧l0++Od.b128 n=l++Od.dn n j++[UInt8.ofNat (n%128)])) (fun _ t5 _=>(intOf t5).toNat)
   case atStart=>exact ⟨k,l0,v,rfl,rfl,hk,by omega,⟨HO.out,World.grownBy.refl _ _,fun g h=> .inl h⟩,by rw [Hb.out];simp⟩
   case round=>
    obtain ⟨j,l,t0,rfl,rfl,hj,hl,HJ⟩:=hrel;by_cases hj0:0<j
    ·obtain ⟨i,rfl⟩:∃ i,j=i+1:=⟨j-1,by omega⟩;have hz:=HJ.out.1.grown.size;have Hnx:Hid (∀ v' w',AppB base wr w' t0 v' (l++[Od.dg n (i+1)])→AppB base w w' v v' (l++[Od.dg n (i+1)])∧l0++Od.b128 n=(l++[Od.dg n (i+1)])++Od.dn n i++[UInt8.ofNat (n%128)]):=fun v' w' h=>
      ⟨HJ.out.1.trans h,by rw [HJ.out.2];simp [Od.dn]⟩
     go_wp2_with (refine z10 rfl (.tmp 19) (.tmp 26) 22 rfl base i0 Tryz.underlying22 hi0 hz0 hz1 hz2 t0 _ rfl HJ.out.1.own _ (Od.dg n (i+1)) (znS n (i+1)) 1 rfl (by omega) (by omega) ?_;intro v2 w2 A2)
     go_roundw
     case rel=>exact ⟨i,l++[Od.dg n (i+1)],v2,rfl,by go_num,by omega,by rw [List.length_append,List.length_singleton];omega,Hnx.out _ _ A2⟩
     case measure=>first|(simp [intOf];done)|(simp [intOf];omega)
    ·have hz:=HJ.out.1.grown.size;have Hnx:Hid (∀ v' w',AppB base wr w' t0 v' (l++[UInt8.ofNat (n%128)])→AppB base w w' v v' (l0++Od.b128 n)):=fun v' w' h=>by
      obtain rfl:j=0:=by omega
      have h2:=HJ.out.1.trans h;rw [HJ.out.2];simpa [Od.dn] using h2
     go_wp2_with (refine z10 rfl (.tmp 28) (.tmp 32) 22 rfl base i0 Tryz.underlying22 hi0 hz0 hz1 hz2 t0 _ rfl HJ.out.1.own _ (UInt8.ofNat (n%128)) (zl6 n) 1 rfl (by omega) (by omega) ?_;intro v2 w2 A2)
     go_ret
     exact ⟨v2,rfl,Hnx.out _ _ A2⟩
end Go.Proofs.YtgmppconibklcaaGreatDoor

namespace Go.Proofs.YtgmppconibklcaaGreatDoor
open Go Go.RowKit

def z4a (o:Option (List UInt8)):Value:=match o with
 | some t=> .tuple #[.string ⟨t.toArray⟩,.int .i64 0]
 | none=> .tuple #[.string ⟨#[]⟩,.int .i64 20]
def pre (gs:List Nat) (o:Option (List Nat)):Option (List Nat):=match o with
 | some r=>some (gs++r)
 | none=>none
structure OT (b:List UInt8) (k n:Nat) (gs:List Nat) (fr ft:Bool):Prop where
 d:Od.dec 0 b=pre gs (Od.dec n (b.drop k))
 fr:fr=decide (n=0)
 ft:ft=gs.isEmpty
 top:n≤9223372036854775807
 len:gs.length≤k
theorem OT.start (b:List UInt8):OT b 0 0 [] true true:=⟨by cases h:Od.dec 0 b<;>simp [pre,h],rfl,rfl,by omega,by simp⟩
theorem OT.bad {b:List UInt8} {k n:Nat} {gs:List Nat} {fr ft:Bool} (h:OT b k n gs fr ft) (hk:k<b.length) (hb:(n=0∧b[k].toNat=128)∨72057594037927935<n):Od.decO b=none:=by
 have h1:=h.d;rw [List.drop_eq_getElem_cons hk,Od.z8b hb] at h1;unfold Od.decO;rw [h1];rfl
theorem OT.more {b:List UInt8} {k n:Nat} {gs:List Nat} {fr ft:Bool} (h:OT b k n gs fr ft) (hk:k<b.length) (hb:¬((n=0∧b[k].toNat=128)∨72057594037927935<n)) (hc:128≤b[k].toNat):OT b (k+1) (n*128+b[k].toNat%128) gs false ft:=by
 have h8:=b[k].toNat_lt;have h1:=h.d;rw [List.drop_eq_getElem_cons hk,Od.z78 hb hc] at h1;refine ⟨h1,?_,h.ft,by omega,by have:=h.len;omega⟩;have:¬(n*128+b[k].toNat%128=0):=by omega
 simp only [this,decide_false]
theorem OT.last {b:List UInt8} {k n:Nat} {gs:List Nat} {fr ft:Bool} (h:OT b k n gs fr ft) (hk:k<b.length) (hb:¬((n=0∧b[k].toNat=128)∨72057594037927935<n)) (hc:b[k].toNat<128):OT b (k+1) 0 (gs++[n*128+b[k].toNat%128]) true false:=by
 have h1:=h.d;rw [List.drop_eq_getElem_cons hk,Od.z79 hb hc] at h1;refine ⟨?_,rfl,by simp,by omega,by have:=h.len;simp;omega⟩;rw [h1];cases Od.dec 0 (b.drop (k+1))<;>simp [pre]
theorem OT.fin_no {b:List UInt8} {k n:Nat} {gs:List Nat} {fr ft:Bool} (h:OT b k n gs fr ft) (hk:b.length≤k) (hb:fr=false∨ft=true):Od.decO b=none:=by
 have h1:=h.d;rw [List.drop_of_length_le hk] at h1;unfold Od.decO;rw [h1];by_cases hn:n=0
 ·have e:gs=[]:=by
   rcases hb with hb|hb
   ·have:=h.fr;rw [hb] at this;simp [hn] at this
   ·have:=h.ft;rw [hb] at this;simpa using this.symm
  subst hn e;simp [Od.dec,pre]
 ·simp [Od.dec,hn,pre]
theorem OT.znK {b:List UInt8} {k n:Nat} {gs:List Nat} (h:OT b k n gs true false) (hk:b.length≤k):Od.decO b=some (Od.z0m gs):=by
 have h1:=h.d;have hn:n=0:=by have:=h.fr;simpa using this.symm
 subst hn;rw [List.drop_of_length_le hk] at h1;unfold Od.decO;rw [h1];cases gs with
 | nil=>have:=h.ft;simp at this
 | cons g gs=>simp [Od.dec,pre]
theorem zkg (gs:List Nat):(Od.z0m gs).length≤42+21*gs.length:=by
 have ht:∀ l:List Nat,(Od.z0H l).length≤21*l.length:=by
  intro l;induction l with
  | nil=>simp [Od.z0H]
  | cons n l ih=>have:=Dig.z0u n 1;simp only [Od.z0H,List.length_cons,List.length_append];omega
 cases gs with
 | nil=>simp [Od.z0m]
 | cons g gs=>
  have h1:=Dig.z0u (Od.fst2 g) 1;have h2:=Dig.z0u (g-40*Od.fst2 g) 1;have h3:=ht gs;simp only [Od.z0m,List.length_cons,List.length_append];omega
theorem or_low (n c:Nat) (hn:n≤72057594037927935) (hc:c<256):bits BinOp.or IntKind.u64 ((n:Int)*128) (IntKind.u64.wrap (bits BinOp.and IntKind.u8 (c:Int) 127))=((n*128+c%128:Nat):Int):=by
 rw [zjP c hc,IntKind.wrap_u64,show (((c%128:Nat):Int)%18446744073709551616)=((c%128:Nat):Int) by omega,show ((n:Int)*128)=((n*128:Nat):Int) by omega,bits_or_u64_nat _ _ (by omega) (by omega)]
 congr 1
 have:=Nat.shiftLeft_add_eq_or_of_lt (a:=n) (b:=c%128) (i:=7) (by omega);rw [Nat.shiftLeft_eq] at this;exact this.symm
theorem zjN (base:Nat) (w:World):AppB base w w (.slice none 0 0) (.slice none 0 0) []:=⟨z7c _ _,World.grownBy.refl _ _,fun g hg=>by cases hg⟩
theorem z7I (A:Option Addr) (c:Nat) (b:List UInt8) (w:World) (hr:Reads w w.heap.size 1 A b.length (Lib.byteCells b)) (hlen:b.length≤40000):
  Calls Tryz.prog 158 #[.slice A b.length c] w fun e w'=>e = .returned (z4a (Od.decO b))∧Below w.heap.size w w':=by
 obtain ⟨i0,hi0,hz0,hz1,hz2⟩:=info_parts z7W;have HR:=Lib.hid hr;clear hr;go_enter Tryz.func158,Tryz.ntmps158
 go_wp2_with fail
 go_loopw [4,5,6,7,13] (fun t4 t5 t6 t7 t13 wr=>∃ (k n:Nat) (gs:List Nat) (v:Value) (fr ft:Bool),v=t4∧t5 = .int .u64 n∧t6 = .bool fr∧t7 = .bool ft∧t13 = .int .i64 k∧k≤b.length∧Hid (AppB w.heap.size w wr (.slice none 0 0) v (Od.z0m gs))∧Hid (OT b k n gs fr ft)) (fun _ _ _ _ t13 _=>b.length-(intOf t13).toNat)
 case atStart=>exact ⟨0,0,[],_,true,true,rfl,rfl,rfl,rfl,rfl,Nat.zero_le _,zjN _ _,OT.start b⟩
 case round=>
  obtain ⟨k,n,gs,v,fr,ft,rfl,rfl,rfl,rfl,rfl,hk,HA,HO⟩:=hrel;have hbl:=HA.out.below (z7c _ _) (Nat.le_refl _);have hz:=hbl.size;have hnt:=HO.out.top;have htl:(Od.z0m gs).length≤900000:=by have h1:=zkg gs;have h2:=HO.out.len;omega
  by_cases hlt:k<b.length
  ·obtain ⟨ad,rfl,_,hcl⟩:=(HR.out.below hbl).2 (by omega);have hc1:wr.cell? (ad.add k)=some (.int .u8 (b[k].toNat:Int)):=hcl k _ (by simp [Lib.byteCells,List.getElem?_eq_getElem hlt]);have h8':b[k].toNat<256:=b[k].toNat_lt;have Hbl:=Lib.hid hbl;clear hcl hbl;by_cases hb:(n=0∧b[k].toNat=128)∨72057594037927935<n
   ·have Hf:=Lib.hid (HO.out.bad hlt hb);have Hv:Hid (z4a (Od.decO b) = .tuple #[.string ⟨#[]⟩,.int .i64 20]):=by show _=_;rw [Hf.out];rfl
    rcases hb with ⟨rfl,hb⟩|hb
    ·obtain rfl:fr=true:=by have:=HO.out.fr;simpa using this
     have hb2:((b[k].toNat:Int)==128)=true:=by simp;omega
     obtain ⟨x,hx⟩:∃ x:Int,x=(b[k].toNat:Int):=⟨_,rfl⟩;rw [←hx] at hc1 hb2;clear hx hb
     go_wp2_with fail
     go_ret2
     exact ⟨by rw [Hv.out];rfl,Hbl.out⟩
    ·obtain rfl:fr=false:=by have:=HO.out.fr;rw [this];simp;omega
     go_wp2_with fail
     go_ret2
     exact ⟨by rw [Hv.out];rfl,Hbl.out⟩
   ·have hn56:n≤72057594037927935:=by omega
    have hor:=or_low n b[k].toNat hn56 h8';have h128:(fr=false)∨(fr=true∧((b[k].toNat:Int)==128)=false):=by
     have:=HO.out.fr;cases fr
     ·exact .inl rfl
     ·refine .inr ⟨rfl,?_⟩;have h0:n=0:=by simpa using this.symm
      simp;omega
    by_cases hhi:128≤b[k].toNat
    ·have Hn:=Lib.hid (HO.out.more hlt hb hhi);have hhi2:(127:Int)<(b[k].toNat:Int):=by omega
     obtain ⟨x,hx⟩:∃ x:Int,x=(b[k].toNat:Int):=⟨_,rfl⟩;obtain ⟨m,hm⟩:∃ m:Nat,m=n*128+b[k].toNat%128:=⟨_,rfl⟩;rw [←hx] at hc1 h128 hhi2;rw [←hm] at Hn hor;rw [←hx] at hor;clear hx hm hb hhi h8';rcases h128 with rfl|⟨rfl,h128⟩
     ·go_wp2_with fail
      go_roundw
      case rel=>exact ⟨k+1,m,gs,_,false,ft,rfl,rfl,rfl,rfl,by go_num,by omega,HA,Hn⟩
      case measure=>simp [intOf];omega
     ·go_wp2_with fail
      go_roundw
      case rel=>exact ⟨k+1,m,gs,_,false,ft,rfl,rfl,rfl,rfl,by go_num,by omega,HA,Hn⟩
      case measure=>simp [intOf];omega
    ·have Hn:=Lib.hid (HO.out.last hlt hb (by omega));have hhi2:¬(127:Int)<(b[k].toNat:Int):=by omega
     have hm63:n*128+b[k].toNat%128≤9223372036854775807:=by omega
     obtain ⟨x,hx⟩:∃ x:Int,x=(b[k].toNat:Int):=⟨_,rfl⟩;obtain ⟨m,hm⟩:∃ m:Nat,m=n*128+b[k].toNat%128:=⟨_,rfl⟩;rw [←hx] at hc1 h128 hhi2;rw [←hm] at Hn hor hm63;rw [←hx] at hor;clear hx hm hb hhi h8';cases ft
     ·have hne:gs≠[]:=by
       intro e;have:=HO.out.ft;rw [e] at this;simp at this
      have Ht:Hid (Od.z0m gs++[46]++Dig.dgs m 1=Od.z0m (gs++[m])):=by show _=_;rw [Od.z4O hne];simp
      clear hne;rcases h128 with rfl|⟨rfl,h128⟩;all_goals
       go_wp2_with (refine z10 rfl (.tmp 45) (.tmp 46) 22 rfl w.heap.size i0 Tryz.underlying22 hi0 hz0 hz1 hz2 v _ rfl HA.out.own 46 46 rfl 1 rfl (by omega) hz ?_;intro v2 w2 A2)
       have B2:=Lib.hid (HA.out.trans A2);have hz2':=B2.out.grown.size;clear A2;refine (z3G _ _ _ _ w.heap.size _ B2.out.own hz2' (by simp;omega) (by omega) (by omega) (by omega) (by omega)).mono ?_;rintro e w3 ⟨v3,rfl,A3⟩;have B3:=Lib.hid (B2.out.trans A3);rw [Int.toNat_natCast,show Int.toNat 1=1 from rfl,Ht.out] at B3;clear A3 B2 hz2'
       go_wp2_with fail
       go_roundw
       case rel=>exact ⟨k+1,0,gs++[m],_,true,false,rfl,rfl,rfl,rfl,by go_num,by omega,B3,Hn⟩
       case measure=>simp [intOf];omega
     ·obtain rfl:gs=[]:=by have:=HO.out.ft;simpa using this.symm
      by_cases h80:m / 40≤2
      ·have Ht:Hid (Od.z0m []++Dig.dgs (m / 40) 1++[46]++Dig.dgs (m-40*(m / 40)) 1=Od.z0m ([]++[m])):=by
        show _=_;have e:Od.fst2 m=m / 40:=by unfold Od.fst2;split<;>omega
        simp [Od.z0m,Od.z0H,e]
       rcases h128 with rfl|⟨rfl,h128⟩;all_goals
        go_wp2_with fail
        refine (z3G _ _ _ _ w.heap.size _ HA.out.own hz (by omega) (by omega) (by omega) (by omega) (by omega)).mono ?_;rintro e w1 ⟨v1,rfl,A1⟩;have B1:=Lib.hid (HA.out.trans A1);rw [show Int.toNat 1=1 from rfl,show ((m:Int) / 40).toNat=m / 40 by omega] at B1;have hz1':w.heap.size≤w1.heap.size:=B1.out.grown.size;clear A1
        go_wp2_with (refine z10 rfl (.tmp 45) (.tmp 46) 22 rfl w.heap.size i0 Tryz.underlying22 hi0 hz0 hz1 hz2 v1 _ rfl B1.out.own 46 46 rfl 1 rfl (by have h1:=Dig.z0u (m / 40) 1;have h2:=Dig.z0u 2 1;simp [Od.z0m];omega) hz1' ?_;intro v2 w2 A2)
        have B2:=Lib.hid (B1.out.trans A2);have hz2':=B2.out.grown.size;clear A2;refine (z3G _ _ _ _ w.heap.size _ B2.out.own hz2' (by have h1:=Dig.z0u (m / 40) 1;have h2:=Dig.z0u 2 1;simp [Od.z0m];omega) (by omega) (by omega) (by omega) (by omega)).mono ?_;rintro e w3 ⟨v3,rfl,A3⟩;have B3:=Lib.hid (B2.out.trans A3);rw [show Int.toNat 1=1 from rfl,show ((m:Int)-40*((m:Int) / 40)).toNat=m-40*(m / 40) by omega,Ht.out] at B3;clear A3 B2 B1 hz2' hz1'
        go_wp2_with fail
        go_roundw
        case rel=>exact ⟨k+1,0,[]++[m],_,true,false,rfl,rfl,rfl,rfl,by go_num,by omega,B3,Hn⟩
        case measure=>simp [intOf];omega
      ·have Ht:Hid (Od.z0m []++Dig.dgs 2 1++[46]++Dig.dgs (m-80) 1=Od.z0m ([]++[m])):=by
        show _=_;have e:Od.fst2 m=2:=by unfold Od.fst2;rw [if_neg (by omega)]
        simp [Od.z0m,Od.z0H,e]
       rcases h128 with rfl|⟨rfl,h128⟩;all_goals
        go_wp2_with fail
        refine (z3G _ _ _ _ w.heap.size _ HA.out.own hz (by omega) (by omega) (by omega) (by omega) (by omega)).mono ?_;rintro e w1 ⟨v1,rfl,A1⟩;have B1:=Lib.hid (HA.out.trans A1);rw [show Int.toNat 1=1 from rfl,show Int.toNat 2=2 from rfl] at B1;have hz1':w.heap.size≤w1.heap.size:=B1.out.grown.size;clear A1
        go_wp2_with (refine z10 rfl (.tmp 45) (.tmp 46) 22 rfl w.heap.size i0 Tryz.underlying22 hi0 hz0 hz1 hz2 v1 _ rfl B1.out.own 46 46 rfl 1 rfl (by have h1:=Dig.z0u (m / 40) 1;have h2:=Dig.z0u 2 1;simp [Od.z0m];omega) hz1' ?_;intro v2 w2 A2)
        have B2:=Lib.hid (B1.out.trans A2);have hz2':=B2.out.grown.size;clear A2;refine (z3G _ _ _ _ w.heap.size _ B2.out.own hz2' (by have h1:=Dig.z0u (m / 40) 1;have h2:=Dig.z0u 2 1;simp [Od.z0m];omega) (by omega) (by omega) (by omega) (by omega)).mono ?_;rintro e w3 ⟨v3,rfl,A3⟩;have B3:=Lib.hid (B2.out.trans A3);rw [show Int.toNat 1=1 from rfl,show ((m:Int)-80).toNat=m-80 by omega,Ht.out] at B3;clear A3 B2 B1 hz2' hz1'
        go_wp2_with fail
        go_roundw
        case rel=>exact ⟨k+1,0,[]++[m],_,true,false,rfl,rfl,rfl,rfl,by go_num,by omega,B3,Hn⟩
        case measure=>simp [intOf];omega
  ·have Hk:=Lib.hid hlt;by_cases hyes:fr=true∧ft=false
   ·obtain ⟨rfl,rfl⟩:=hyes;have Hv:Hid (z4a (Od.decO b) = .tuple #[.string ⟨(Od.z0m gs).toArray⟩,.int .i64 0]):=by show _=_;rw [HO.out.znK (by omega)];rfl
    have Hbl:=Lib.hid hbl;clear hbl
    go_wp2_with (refine zb0 rfl (.tmp 56) 22 9 5 rfl Tryz.underlying22 Tryz.underlying5 Tryz.underlying9 v rfl _ (zah HA.out.own) ?_)
    go_ret2
    exact ⟨by rw [Hv.out];rfl,Hbl.out⟩
   ·have hb:fr=false∨ft=true:=by cases fr<;>cases ft<;>simp_all
    have Hv:Hid (z4a (Od.decO b) = .tuple #[.string ⟨#[]⟩,.int .i64 20]):=by show _=_;rw [HO.out.fin_no (by omega) hb];rfl
    have Hbl:=Lib.hid hbl;clear hbl hyes;rcases hb with rfl|rfl
    ·go_wp2_with fail
     go_ret2
     exact ⟨by rw [Hv.out];rfl,Hbl.out⟩
    ·cases fr;all_goals
      go_wp2_with fail
      go_ret2
      exact ⟨by rw [Hv.out];rfl,Hbl.out⟩
end Go.Proofs.YtgmppconibklcaaGreatDoor

