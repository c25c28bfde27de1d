/- Part of the proof. No condition. -/
import Derived.Test.YtgmppconibklcaaGreatDoorM11
import Derived.Test.YtgmppconibklcaaGreatDoorM10
import Derived.Test.YtgmppconibklcaaGreatDoorM12
import Derived.Deep.CutRange
import Derived.Test.YtgmppconibklcaaGreatDoorShelf
import Derived.Lib.ItoaNum
import Derived.BigRegion
import Derived.Test.YtgmppconibklcaaGreatDoorM17
set_option maxHeartbeats 40000000
set_option maxRecDepth 100000
set_option linter.unusedVariables false
set_option linter.unusedSimpArgs false
namespace Go.Proofs.YtgmppconibklcaaGreatDoor
open Go Go.RowKit
abbrev limD (l:List Nat):D:= .row 1 ((l.map fun (x:Nat)=>Value.int .u32 (x:Int)).map .leaf)
def z0F (l:List Nat):List Value:=l.map fun (x:Nat)=>Value.int .u32 (x:Int)
section
variable {w:World} {Av:Nat→Prop}
theorem Is.z0F {A:Option Addr} {n c:Nat} {l:List Nat} (h:Is w Av (.slice A n c) (limD l)):n=l.length∧n≤c∧Reads w w.heap.size 1 A n (z0F l)∧(0<n→∃ g o,A=some ⟨g,o,none⟩∧¬Av g∧g<w.heap.size∧∀ j (hj:j<l.length),w.cell? ⟨g,o+j,none⟩=some (.int .u32 (l[j]:Int))):=by
 obtain ⟨A',c',e,hc,hr,hg⟩:=h.zdA;injection e with e1 e2 e3;subst e1 e3;rw [←e2] at hr hc hg;refine ⟨by rw [e2];simp,hc,hr,fun h0=>?_⟩;obtain ⟨g,o,rfl,hav⟩:=hg h0;obtain ⟨ad,e,hb,hcell⟩:=hr.2 h0;injection e with e;subst e;refine ⟨g,o,rfl,hav,hb,fun j hj=>?_⟩;have:=hcell j (.int .u32 (l[j]:Int)) (by simp [List.getElem?_eq_getElem hj]);unfold Addr.add at this;split at this
 ·rename_i h;subst h;exact this
 ·exact this
end
theorem z7L (A:Option Addr) (n c:Nat) (l:List Nat) (Av:Nat→Prop) (w:World) (h:Is w Av (.slice A n c) (limD l)) (hz:n≤100000000):
  Calls Tryz.prog 138 #[.slice A n c] w fun e w'=>e = .returned (.int .i64 (Nt.sz l))∧w=w':=by
 obtain ⟨hn,hc,_,hcell⟩:=h.z0F;have HC:=Lib.hid hcell;have HN:=Lib.hid hn;clear h hn hcell;go_enter Tryz.func138,Tryz.ntmps138
 go_wp2_with fail
 go_loopw [3] (fun t3 wr=>∃ k:Nat,t3 = .int .i64 k∧k≤n∧Hid (Nt.sz (l.take k)=Nt.sz l)∧w=wr) (fun t3 _=>(intOf t3).toNat)
 case atStart=>exact ⟨n,rfl,Nat.le_refl _,by show _=_;rw [List.take_of_length_le (by rw [HN.out];exact Nat.le_refl _)],rfl⟩
 case round=>
  obtain ⟨k,rfl,hk,HS,rfl⟩:=hrel;rcases Nat.eq_zero_or_pos k with h0|h0
  ·subst h0
   go_wp2_with fail
   go_ret
   have:=HS.out;rw [List.take_zero] at this;exact ⟨by rw [←this];rfl,rfl⟩
  ·obtain ⟨j,rfl⟩:∃ j,k=j+1:=⟨k-1,by omega⟩;obtain ⟨g,o,rfl,_,_,hcell⟩:=HC.out (by omega);have hjl:j<l.length:=by rw [←HN.out];omega
   have kj:=hcell j hjl;obtain ⟨x,hx⟩:∃ x,x=l[j]:=⟨_,rfl⟩;rw [←hx] at kj;have htk:l.take (j+1)=l.take j++[x]:=by rw [List.take_succ_eq_append_getElem hjl,hx]
   have hlt:(l.take j).length=j:=by rw [List.length_take];omega
   have HT:Hid (Nt.sz l=if x=0 then Nt.sz (l.take j) else j+1):=by
    show _=_;rw [←HS.out,htk,Nt.zcU,hlt]
   have e1:IntKind.i64.wrap ((j:Int)+1-1)=(j:Int):=by
    have e:(j:Int)+1-1=j:=by omega
    rw [e];exact IntWalk.i64_in _ ⟨by omega,by omega⟩
   have hd:decide ((0:Int)<(j:Int)+1)=true:=decide_eq_true (by omega);have hjn:(j:Int)<(n:Int):=by omega
   clear hcell hx htk hlt hjl h0;by_cases hx0:x=0
   ·have hq:((x:Int)==0)=true:=by rw [beq_iff_eq];omega
    have HX:=Lib.hid hx0;clear hx0
    go_wp2_with fail
    refine ⟨⟨j,rfl,by omega,?_,trivial⟩,by simp [intOf]⟩;show _=_;rw [HT.out,if_pos HX.out]
   ·have hq:((x:Int)==0)=false:=by rw [beq_eq_false_iff_ne];omega
    have HX:=Lib.hid hx0;clear hx0
    go_wp2_with fail
    go_ret
    exact ⟨by rw [HT.out,if_neg HX.out];rfl,rfl⟩
theorem ziX:(Tryz.prog.info? 208).map (fun i=>(i.zero,i.size,i.bytes))=some (some (.int .u32 0),1,4):=by kernel_rfl
theorem zeS {w:World} {base:Nat} {n:Nat} {v:Value} {l:List Nat} {Av:Nat→Prop} (h:w.ownsRow base 208 1 v n (z0F l)) (hav:∀ g,Av g→g<base):Is w Av v (limD l):=by
 have hl:(z0F l).length=n*1:=h.1;exact zbL h (.leaf _ _ _) (by rw [List.length_map];exact hl) (by decide) hav
theorem zdp (A:Option Addr) (n c:Nat) (l:List Nat) (Av:Nat→Prop) (w:World) (h:Is w Av (.slice A n c) (limD l)) (hz:n≤10000000):
  Calls Tryz.prog 263 #[.slice A n c] w fun e w'=>∃ v,e = .returned v∧Is w' (Old w) v (limD (Nt.trim l))∧Below w.heap.size w w':=by
 have H:=Lib.hid h;obtain ⟨hn,hc,hr,_⟩:=h.z0F;obtain ⟨i4,hi4,hz40,hz41,hz42⟩:=info_parts ziX;obtain ⟨k,hk⟩:∃ k,k=Nt.sz l:=⟨_,rfl⟩;have hkn:k≤n:=by rw [hk,hn];exact Nt.z7l l
 have HR:=Lib.hid hr;have HN:=Lib.hid (And.intro hn hk);have HS:Hid (∀ w,Calls Tryz.prog 138 #[.slice A n c] w=Calls Tryz.prog 138 #[.slice A n c] w):=fun _=>rfl
 clear h hn hr hk;go_enter Tryz.func263,Tryz.ntmps263
 go_wp2_with fail
 refine (z7L A n c l Av w H.out (by omega)).mono ?_;rintro e w' ⟨rfl,rfl⟩;rw [←HN.out.2];rcases Nat.eq_zero_or_pos k with h0|h0
 ·subst h0
  go_wp2_with fail
  go_ret
  refine ⟨_,rfl,?_,Below.refl _ _⟩;have e:Nt.trim l=[]:=by unfold Nt.trim;rw [←HN.out.2];rfl
  rw [e];exact Is.row_ (us:=[]) (by simp) (by decide) (by simp) ⟨rfl,fun j u d hu=>by simp at hu⟩ (fun h=>by simp at h)
 ·have hq:((k:Int)==0)=false:=by rw [beq_eq_false_iff_ne];omega
  have HR2:Hid (Reads w w.heap.size 1 A k ((z0F l).take k)):=by
   refine ⟨by rw [List.length_take,HR.out.1];omega,fun _=>?_⟩;obtain ⟨ad,e,hb,hcell⟩:=HR.out.2 (by omega);refine ⟨ad,e,hb,fun j u hu=>hcell j u ?_⟩;rw [List.getElem?_take] at hu;split at hu
   ·exact hu
   ·cases hu
  go_wp2_with (refine z0x _ rfl (.const (.slice none 0 0)) (.tmp 10) 24 rfl w.heap.size 208 i4 _ 1 4 Tryz.underlying24 hi4 hz40 hz41 hz42 rfl (by omega) (.slice none 0 0) 0 [] rfl (World.ownsRow_nil _ _ _ _) w.heap.size A k c _ rfl HR2.out (by intro u hu;obtain ⟨x,_,rfl⟩:=List.mem_map.1 (List.mem_of_mem_take hu);rfl) (by simp only [maxLen];omega) (by omega) (Nat.le_refl _) ?_;intro v' w' h1 h2 h3)
  go_ret
  refine ⟨_,rfl,?_,z4W (World.ownsRow_nil w w.heap.size 208 1) h2 (Nat.le_refl _)⟩;have e:(z0F l).take k=z0F (Nt.trim l):=by unfold z0F Nt.trim;rw [List.map_take,HN.out.2]
  rw [List.nil_append,e] at h1;exact zeS h1 (fun g hg=>hg)
end Go.Proofs.YtgmppconibklcaaGreatDoor

namespace Go.Proofs.YtgmppconibklcaaGreatDoor
open Go Go.RowKit
theorem zjE (n:Nat) (h:n<4294967296):Lib.bitLen n=Nt.bl n:=by
 by_cases h0:n=0
 ·subst h0;rfl
 ·obtain ⟨h1,h2,h3⟩:=Lib.bitLenAux_bounds 64 n (by omega) h0;obtain ⟨k,hk⟩:∃ k,Lib.bitLenAux 64 n=k+1:=⟨_,(Nat.sub_add_cancel h1).symm⟩;rw [hk,Nat.add_sub_cancel] at h2;rw [hk] at h3;show Lib.bitLenAux 64 n=_;rw [hk,Nt.zcD h2 h3]
theorem z3R (A:Option Addr) (n c:Nat) (l:List Nat) (Av:Nat→Prop) (w:World) (h:Is w Av (.slice A n c) (limD l)) (hL:Nt.Lb l) (hz:n≤100000000):
  Calls Tryz.prog 72 #[.slice A n c] w fun e w'=>e = .returned (.int .i64 (Nt.bl (Nt.vl l)))∧w=w':=by
 have H:=Lib.hid h;obtain ⟨hn,hc,_,hcell⟩:=h.z0F;obtain ⟨k,hk⟩:∃ k,k=Nt.sz l:=⟨_,rfl⟩;have hkn:k≤n:=by rw [hk,hn];exact Nt.z7l l
 have HC:=Lib.hid hcell;have HN:=Lib.hid (And.intro hn hk);have HL:=Lib.hid hL;clear h hn hk hcell hL;go_enter Tryz.func72,Tryz.ntmps72
 go_wp2_with fail
 refine (z7L A n c l Av w H.out (by omega)).mono ?_;rintro e w' ⟨rfl,rfl⟩;rw [←HN.out.2];rcases Nat.eq_zero_or_pos k with h0|h0
 ·subst h0
  go_wp2_with fail
  go_ret
  have e:Nt.vl l=0:=by
   have:=(Nt.z7m HL.out 0).1 (by rw [←HN.out.2];exact Nat.le_refl _);simpa using this
  rw [e];exact ⟨rfl,rfl⟩
 ·obtain ⟨j,rfl⟩:∃ j,k=j+1:=⟨k-1,by omega⟩;obtain ⟨g,o,rfl,_,_,hcell⟩:=HC.out (by omega);have hjl:j<l.length:=by rw [←HN.out.1];omega
  have kj:=hcell j hjl;obtain ⟨x,hx⟩:∃ x,x=l[j]:=⟨_,rfl⟩;rw [←hx] at kj;have hxB:x<4294967296:=by rw [hx];exact HL.out _ (List.getElem_mem hjl)
  have HV:Hid (Nt.bl (Nt.vl l)=32*j+Nt.bl x):=by
   show _=_;rw [Nt.zfH HL.out (by rw [←HN.out.2];omega),←HN.out.2,hx];have e:l.getD j 0=l[j]:=by simp [List.getD_eq_getElem?_getD,List.getElem?_eq_getElem hjl]
   show 32*(j+1-1)+Nt.bl (l.getD (j+1-1) 0)=_;rw [Nat.add_sub_cancel,e]
  have hq:((j:Int)+1==0)=false:=by rw [beq_eq_false_iff_ne];omega
  have e1:IntKind.i64.wrap ((j:Int)+1-1)=(j:Int):=by
   have e:(j:Int)+1-1=j:=by omega
   rw [e];exact IntWalk.i64_in _ ⟨by omega,by omega⟩
  have hjn:(j:Int)<(n:Int):=by omega
  have hj9:(j:Int)≤100000000:=by omega
  have hbl:Nt.bl x≤32:=Nt.zh5 (by omega);clear hcell hx hjl h0
  go_wp2_with fail
  refine (Tryz.bits_Len32 (x:Int) w (by omega) (by omega)).mono ?_;rintro e w' ⟨rfl,rfl⟩;have eb:Lib.bitLen (x:Int).toNat=Nt.bl x:=by rw [Int.toNat_natCast];exact zjE x hxB
  rw [eb];clear eb
  go_wp2_with fail
  go_ret
  refine ⟨?_,rfl⟩;rw [HV.out];have e:((32*j+Nt.bl x:Nat):Int)=32*(j:Int)+(Nt.bl x:Int):=by omega
  rw [e];rfl
end Go.Proofs.YtgmppconibklcaaGreatDoor

namespace Go.Proofs.YtgmppconibklcaaGreatDoor
open Go Go.RowKit
theorem byte_at {l:List Nat} (hL:Nt.Lb l) {N m i q r:Nat} (hN:N=m+1+i) (hq:q=i / 4) (hr:r=i%4):((Nt.beN N (Nt.vl l)).getD m 0).toNat=l.getD q 0 / 2^(8*r)%256:=by
 have h1:=Nt.z9I N (Nt.vl l) i (by omega);have e:N-1-i=m:=by omega
 rw [e] at h1;rw [h1,←Nt.zdu l q hL];have hi:i=4*q+r:=by omega
 have hp:256^i=Nt.B^q*256^r:=by
  have hB4:(256:Nat)^4=Nt.B:=by decide
  rw [hi,Nat.pow_add,Nat.pow_mul,hB4]
 rw [hp,←Nat.div_div_eq_div_mul,z7D];generalize Nt.vl l / Nt.B^q=y;have hB:Nt.B=4294967296:=rfl;have hr4:r=0∨r=1∨r=2∨r=3:=by omega
 rw [hB];rcases hr4 with h|h|h|h
 ·rw [h,Nat.pow_zero];omega
 ·rw [h,show (256:Nat)^1=256 from rfl];omega
 ·rw [h,show (256:Nat)^2=65536 from rfl];omega
 ·rw [h,show (256:Nat)^3=16777216 from rfl];omega
theorem zfK {N v m:Nat} (h:m<N):(Nt.beN N v)[m]? = some ((Nt.beN N v).getD m 0):=by
 have hl:m<(Nt.beN N v).length:=by rw [Nt.z0o];exact h
 rw [List.getD_eq_getElem?_getD,List.getElem?_eq_getElem hl];rfl
theorem zgI {L:List UInt8} {m:Nat} {b:UInt8} (h:L[m]? = some b):(List.replicate (m+1) (0:UInt8)++L.drop (m+1)).set m b=List.replicate m 0++L.drop m:=by
 obtain ⟨hm,rfl⟩:=List.getElem?_eq_some_iff.1 h;rw [List.replicate_succ',List.append_assoc,List.set_append_right _ _ (by simp),List.drop_eq_getElem_cons hm];simp
theorem zj8 {L:List UInt8} {m:Nat} (h:L[m]? = some 0):List.replicate (m+1) (0:UInt8)++L.drop (m+1)=List.replicate m 0++L.drop m:=by
 obtain ⟨hm,h0⟩:=List.getElem?_eq_some_iff.1 h;rw [List.replicate_succ',List.append_assoc,List.drop_eq_getElem_cons hm,h0];simp
theorem zaM (L:List UInt8) (m:Nat) (b:UInt8):(Lib.byteCells L).set m (.int .u8 (b.toNat:Int))=Lib.byteCells (L.set m b):=by
 unfold Lib.byteCells;rw [List.map_set]
theorem made8 (N:Nat):(madeCells (Value.int .u8 0).cells (N*1)).toList=Lib.byteCells (List.replicate N 0):=by
 rw [Nat.mul_one];apply List.ext_getElem
 ·simp [madeCells,Lib.byteCells,Value.cells]
 ·intro i h1 h2;simp [madeCells,Lib.byteCells,Value.cells];rw [Nat.mod_one];rfl
theorem zbQ (A:Option Addr) (n c N:Nat) (l:List Nat) (Av:Nat→Prop) (w:World) (h:Is w Av (.slice A n c) (limD l)) (hL:Nt.Lb l) (hz:n≤100000000) (hN:N≤65536) (hb:(Nt.bl (Nt.vl l)+7) / 8≤N):
  Calls Tryz.prog 75 #[.slice A n c,.int .i64 N] w fun e w'=>∃ v,e = .returned (.tuple #[v,.int .i64 0])∧w'.ownsRow w.heap.size 5 1 v N (Lib.byteCells (Nt.beN N (Nt.vl l)))∧Below w.heap.size w w':=by
 have H:=Lib.hid h;have HL:=Lib.hid hL;obtain ⟨K,hK⟩:∃ K,K=Nt.bl (Nt.vl l):=⟨_,rfl⟩;rw [←hK] at hb;have HK:=Lib.hid hK;have hd1:decide ((N:Int)<0)=false:=decide_eq_false (by omega);have hd2:decide ((65536:Int)<(N:Int))=false:=decide_eq_false (by omega);have hK9:K≤600000:=by omega
 have hd3:decide ((N:Int)<((K:Int)+7) / 8)=false:=decide_eq_false (by omega);clear h hL hK;go_enter Tryz.func75,Tryz.ntmps75
 go_wp2_with fail
 refine (z3R A n c l Av w H.out HL.out hz).mono ?_;rintro e w' ⟨rfl,rfl⟩;rw [←HK.out];obtain ⟨i8,hi8,hz80,hz81,hz82⟩:=info_parts z4U
 go_wp2_with (refine wpList_make_full _ rfl (.tmp 20) (.tmp 20) 22 rfl w.heap.size 5 i8 _ 1 Tryz.underlying22 hi8 hz80 hz81 .i64 .i64 (N:Int) (N:Int) N rfl rfl rfl rfl (by rw [hz82];omega) (by simp only [maxLen];omega) (Nat.le_refl _) ?_;intro V1 ho1 hg1)
 have HO1:Hid (V1.ownsRow w.heap.size 5 1 (.slice (some ⟨w.heap.size,0,none⟩) N N) N (Lib.byteCells (List.replicate N 0))):=by
  show V1.ownsRow _ _ _ _ _ _;rw [←made8];exact ho1
 have HB1:Hid (Below w.heap.size w V1):=(Below.refl _ w).grown hg1 (Nat.le_refl _) (fun k hk=>by cases hk);clear ho1 hg1
 go_loopw [23] (fun t23 wr=>∃ i:Nat,t23 = .int .i64 i∧i≤N∧Hid (wr.ownsRow w.heap.size 5 1 (.slice (some ⟨w.heap.size,0,none⟩) N N) N (Lib.byteCells (List.replicate (N-i) 0++(Nt.beN N (Nt.vl l)).drop (N-i)))∧Below w.heap.size w wr)) (fun t23 _=>N-(intOf t23).toNat)
 case atStart=>
  refine ⟨0,rfl,Nat.zero_le _,?_,HB1.out⟩;rw [Nat.sub_zero,List.drop_of_length_le (by rw [Nt.z0o];exact Nat.le_refl _),List.append_nil];exact HO1.out
 case round=>
  obtain ⟨i,rfl,hi,HI⟩:=hrel;by_cases hiN:i<N
  ·obtain ⟨m,hm⟩:∃ m,N=m+1+i:=⟨N-1-i,by omega⟩;obtain ⟨q,hq⟩:∃ q,q=i / 4:=⟨_,rfl⟩;obtain ⟨r,hr⟩:∃ r,r=i%4:=⟨_,rfl⟩;have hNi:decide ((i:Int)<(N:Int))=true:=decide_eq_true (by omega);have hq2:(i:Int) / 4=(q:Int):=by omega
   have hr2:(i:Int)%4=(r:Int):=by omega
   have hr4:r<4:=by omega
   have hmm:(N:Int)-1-(i:Int)=(m:Int):=by omega
   have HM:=Lib.hid hm;have HQ:=Lib.hid (And.intro hq hr);have hmN:(m:Int)<(N:Int):=by omega
   obtain ⟨hnl0,hc,_,hcell⟩:=H.out.z0F;clear hnl0;have hnl:n=l.length:=(H.out.z0F).1;have HNL:=Lib.hid hnl;clear hm hq hr hnl;by_cases hqn:q<n
   ·have hqd:decide ((q:Int)<(n:Int))=true:=decide_eq_true (by omega);obtain ⟨g,o,rfl,_,hgl,hcell⟩:=hcell (by omega);have hql:q<l.length:=by rw [←HNL.out];exact hqn
    obtain ⟨x,hx⟩:∃ x,x=l[q]:=⟨_,rfl⟩;have kq:wr.cell? ⟨g,o+q,none⟩=some (.int .u32 (x:Int)):=by rw [hx];exact z0n HI.out.2 (hcell q hql)
    have fz:=HI.out.1.frozenAt m;have cm:wr.cell? ⟨w.heap.size,m,none⟩=some (.int .u8 0):=by
     refine (HI.out.1.cellAt m (by omega)).trans ?_;have e:N-i=m+1:=by have:=HM.out;omega
     rw [e,Lib.byteCells_append,List.getElem?_append_left (by rw [Lib.byteCells_length,List.length_replicate];omega)];simp [Lib.byteCells]
    have HX:Hid (x=l.getD q 0):=by show _=_;rw [hx];simp [List.getD_eq_getElem?_getD,List.getElem?_eq_getElem hql]
    clear hcell hx hql;have hb8:∃ b8:UInt8,(b8.toNat:Int)=(x:Int) / 2^(8*r)%256∧(Nt.beN N (Nt.vl l))[m]? = some b8:=by
     refine ⟨_,?_,zfK (by have:=HM.out;omega)⟩;rw [byte_at HL.out HM.out HQ.out.1 HQ.out.2,←HX.out]
     norm_cast
    obtain ⟨b8,hb8,hb9⟩:=hb8;have HB8:=Lib.hid hb8;have HB9:=Lib.hid hb9;clear hb8 hb9
    go_wp2_with fail
    refine ⟨⟨i+1,by go_num,by omega,?_,?_⟩,by simp [intOf];omega⟩
    ·have h1:=(HI.out.1.stored m (.int .u8 (b8.toNat:Int))).1;have e1:N-i=m+1:=by have:=HM.out;omega
     have e2:N-(i+1)=m:=by have:=HM.out;omega
     rw [e1,zaM,zgI HB9.out,HB8.out] at h1;rw [e2];exact h1
    ·exact HI.out.2.setCell (p:=⟨w.heap.size,m,none⟩) (Nat.le_refl _) _
   ·have hqd:decide ((q:Int)<(n:Int))=false:=decide_eq_false (by omega);clear hcell
    go_wp2_with fail
    refine ⟨⟨i+1,by go_num,by omega,?_,HI.out.2⟩,by simp [intOf];omega⟩;have h1:=HI.out.1;have e1:N-i=m+1:=by have:=HM.out;omega
    have e2:N-(i+1)=m:=by have:=HM.out;omega
    have hb:=byte_at HL.out HM.out HQ.out.1 HQ.out.2;have hg:l.getD q 0=0:=by rw [List.getD_eq_getElem?_getD,List.getElem?_eq_none (by have:=HNL.out;omega)];rfl
    rw [hg,Nat.zero_div] at hb;have hz0:(Nt.beN N (Nt.vl l)).getD m 0=0:=UInt8.toNat_inj.1 hb;rw [e1,zj8 (by rw [zfK (by have:=HM.out;omega),hz0])] at h1;rw [e2];exact h1
  ·have hNi:decide ((i:Int)<(N:Int))=false:=decide_eq_false (by omega);obtain rfl:i=N:=by omega
   clear hiN
   go_wp2_with fail
   go_ret2
   refine ⟨_,rfl,?_,HI.out.2⟩;have:=HI.out.1;rw [Nat.sub_self] at this;simpa using this
end Go.Proofs.YtgmppconibklcaaGreatDoor

namespace Go.Proofs.YtgmppconibklcaaGreatDoor
open Go Go.RowKit
theorem made32 (N:Nat):(madeCells (Value.int .u32 0).cells (N*1)).toList=z0F (List.replicate N 0):=by
 rw [Nat.mul_one];apply List.ext_getElem
 ·simp [madeCells,z0F,Value.cells]
 ·intro i h1 h2;simp [madeCells,z0F,Value.cells];rw [Nat.mod_one];rfl
theorem or_u32 {y c r:Nat} (hr:r<4) (hy:y<2^(8*r)) (hc:c<256):bits BinOp.or IntKind.u32 (y:Int) ((c:Int)%4294967296*2^(8*r)%4294967296)=((y+c*2^(8*r):Nat):Int):=by
 show IntKind.u32.wrap ((BitVec.ofInt 32 (y:Int)|||BitVec.ofInt 32 ((c:Int)%4294967296*2^(8*r)%4294967296)).toNat:Int)=_;have hr4:r=0∨r=1∨r=2∨r=3:=by omega
 have key:∀ k:Nat,k≤24→y<2^k→IntKind.u32.wrap ((BitVec.ofInt 32 (y:Int)|||BitVec.ofInt 32 ((c:Int)%4294967296*((2^k:Nat):Int)%4294967296)).toNat:Int)=((y+c*2^k:Nat):Int):=by
  intro k hk hy;have hp:2^k≤16777216:=Nat.pow_le_pow_right (n:=2) (by decide) hk;have hm:c*2^k≤255*16777216:=Nat.mul_le_mul (by omega) hp;have h0:(c:Int)%4294967296=(c:Int):=by omega
  have e:((c:Int)*((2^k:Nat):Int))=((c*2^k:Nat):Int):=by push_cast;rfl
  rw [h0,e];have h1:(BitVec.ofInt 32 (y:Int)).toNat=y:=by rw [BitVec.toNat_ofInt];omega
  have h2:(BitVec.ofInt 32 (((c*2^k:Nat):Int)%4294967296)).toNat=2^k*c:=by
   rw [BitVec.toNat_ofInt,Nat.mul_comm (2^k)];generalize c*2^k=z at hm;omega
  rw [BitVec.toNat_or,h1,h2,Nat.or_comm,←Nat.two_pow_add_eq_or_of_lt hy,IntKind.wrap_u32,Nat.mul_comm (2^k),Nat.add_comm];generalize c*2^k=z at hm ⊢;omega
 have:=key (8*r) (by omega) hy;rw [show (((2^(8*r):Nat)):Int)=2^(8*r) by push_cast;rfl] at this;exact this
theorem zbY (L:List Nat) (m y:Nat):(z0F L).set m (.int .u32 (y:Int))=z0F (L.set m y):=by
 unfold z0F;rw [List.map_set]
theorem zdq (A:Option Addr) (n c:Nat) (b:List UInt8) (Av:Nat→Prop) (w:World) (h:Is w Av (.slice A n c) (z04 b)) (hz:n≤1000000):
  Calls Tryz.prog 191 #[.slice A n c] w fun e w'=>∃ v,e = .returned v∧Is w' (Old w) v (limD (Nt.lim (Nt.be b)))∧Below w.heap.size w w':=by
 have H:=Lib.hid h;obtain ⟨N,hN⟩:∃ N,N=(n+3) / 4:=⟨_,rfl⟩;have hN2:((n:Int)+3) / 4=(N:Int):=by omega
 have hN9:N≤1000000:=by omega
 have HN:=Lib.hid hN;obtain ⟨i4,hi4,hz40,hz41,hz42⟩:=info_parts ziX;clear h hN;go_enter Tryz.func191,Tryz.ntmps191
 go_wp2_with (refine wpList_make_full _ rfl (.tmp 9) (.tmp 9) 24 rfl w.heap.size 208 i4 _ 1 Tryz.underlying24 hi4 hz40 hz41 .i64 .i64 (((n:Int)+3) / 4) (((n:Int)+3) / 4) N rfl rfl hN2 hN2 (by rw [hz42];omega) (by simp only [maxLen];omega) (Nat.le_refl _) ?_;intro V1 ho1 hg1)
 have HO1:Hid (V1.ownsRow w.heap.size 208 1 (.slice (some ⟨w.heap.size,0,none⟩) N N) N (z0F (List.replicate N 0))):=by
  show V1.ownsRow _ _ _ _ _ _;rw [←made32];exact ho1
 have HB1:Hid (Below w.heap.size w V1):=(Below.refl _ w).grown hg1 (Nat.le_refl _) (fun k hk=>by cases hk);clear ho1 hg1
 go_loopw [13] (fun t13 wr=>∃ (i:Nat) (L:List Nat),t13 = .int .i64 i∧i≤n∧Hid (wr.ownsRow w.heap.size 208 1 (.slice (some ⟨w.heap.size,0,none⟩) N N) N (z0F L)∧L.length=N∧Nt.RI b L i∧Below w.heap.size w wr)) (fun t13 _=>n-(intOf t13).toNat)
 case atStart=>exact ⟨0,_,rfl,Nat.zero_le _,HO1.out,by simp,Nt.RI.start b N,HB1.out⟩
 case round=>
  obtain ⟨i,L,rfl,hi,HI⟩:=hrel;by_cases hiN:i<n
  ·obtain ⟨m,hm⟩:∃ m,n=m+1+i:=⟨n-1-i,by omega⟩;obtain ⟨q,hq⟩:∃ q,q=i / 4:=⟨_,rfl⟩;obtain ⟨r,hr⟩:∃ r,r=i%4:=⟨_,rfl⟩;have hNi:decide ((i:Int)<(n:Int))=true:=decide_eq_true (by omega);have hq2:(i:Int) / 4=(q:Int):=by omega
   have hr2:(i:Int)%4=(r:Int):=by omega
   have hr4:r<4:=by omega
   have hmm:(n:Int)-1-(i:Int)=(m:Int):=by omega
   have hqN:(q:Int)<(N:Int):=by have:=HN.out;omega
   have hmn:(m:Int)<(n:Int):=by omega
   obtain ⟨hnl,hc,hcell⟩:=H.out.byteCells;obtain ⟨g,o,rfl,_,hgl,hcell⟩:=hcell (by omega);have hml:m<b.length:=by omega
   obtain ⟨cc,hcc⟩:∃ cc,cc=b.getD m 0:=⟨_,rfl⟩;have km:wr.cell? ⟨g,o+m,none⟩=some (.int .u8 (cc.toNat:Int)):=by
    rw [hcc,List.getD_eq_getElem?_getD,List.getElem?_eq_getElem hml];exact z0n HI.out.2.2.2 (hcell m hml)
   obtain ⟨y,hy⟩:∃ y,y=L.getD q 0:=⟨_,rfl⟩;have hqL:q<L.length:=by rw [HI.out.2.1];omega
   have kq:wr.cell? ⟨w.heap.size,q,none⟩=some (.int .u32 (y:Int)):=by
    refine (HI.out.1.cellAt q (by omega)).trans ?_;rw [hy,List.getD_eq_getElem?_getD,List.getElem?_eq_getElem hqL];simp [z0F,List.getElem?_eq_getElem hqL]
   have fz:=HI.out.1.frozenAt q;have hnx:=Nt.RI.next HI.out.2.2.1 (by omega) (by rw [←hq];exact hqL);have hlo:=HI.out.2.2.1.lo;have em:b.length-1-i=m:=by omega
   rw [em,←hq,←hr,←hcc,←hy] at hnx;rw [←hq,←hr,←hy] at hlo;have HNX:=Lib.hid hnx;have HLO:=Lib.hid hlo;have HM:=Lib.hid hm;clear hm hq hr hnl hcell hcc hy hnx hlo em hqL hml
   go_upto_region 6 with fail
   go_region
   go_wp2_with fail
   rw [or_u32 hr4 HLO.out cc.toNat_lt];have ho:=(HI.out.1.stored q (.int .u32 ((y+cc.toNat*2^(8*r):Nat):Int))).1;rw [zbY] at ho;refine ⟨⟨i+1,L.set q (y+cc.toNat*2^(8*r)),by go_num,by omega,ho.drew,by rw [List.length_set];exact HI.out.2.1,HNX.out.2,?_⟩,by simp [intOf];omega⟩;exact (HI.out.2.2.2.setCell (p:=⟨w.heap.size,q,none⟩) (Nat.le_refl _) _).drew
  ·have hNi:decide ((i:Int)<(n:Int))=false:=decide_eq_false (by omega);have hin:i=n:=by omega
   subst hin;clear hiN hi;have hfin:Nt.vl L=Nt.be b:=by
    have h1:=HI.out.2.2.1;rw [H.out.byteCells.1] at h1;exact h1.fin
   have HFIN:=Lib.hid hfin;clear hfin;have hisl:=zeS HI.out.1 (Av:=Old w) (fun g hg=>hg);have HLB:Hid (Nt.Lb L):=HI.out.2.2.1.lb
   go_wp2_with fail
   refine (zdp _ N N L _ wr hisl (by omega)).mono ?_;rintro e w9 ⟨v9,rfl,h9,hb9⟩;rw [Nt.ze4 HLB.out,HFIN.out] at h9;have HB:=HI.out.2.2.2;have H9:=Lib.hid h9;have HB9:=Lib.hid (HB.trans (hb9.mono HB.size));have HSZ:=Lib.hid HB.size;clear h9 hb9 HB
   go_wp2_with fail
   go_ret
   exact ⟨v9,rfl,H9.out.less (fun b hb _=>Nat.lt_of_lt_of_le hb HSZ.out),HB9.out⟩
end Go.Proofs.YtgmppconibklcaaGreatDoor

namespace Go.Proofs.YtgmppconibklcaaGreatDoor
open Go Go.RowKit
theorem Is.ziG (w:World) (Av:Nat→Prop):Is w Av (.slice none 0 0) (limD []):=Is.row_ (us:=[]) (by simp) (by decide) (by simp) ⟨rfl,fun j u d hu=>by simp at hu⟩ (fun h=>by simp at h)
theorem zcm (n:Nd) (v:Value) (Av:Nat→Prop) (w:World) (h:NdAt w Av v n) (hf:Fine n) (hT:Tabs w):
  Calls Tryz.prog 126 #[v] w fun e w'=>∃ A m c,e = .returned (.tuple #[.slice A m c,.bool (Dr.z1z n).isSome])∧Is w' (Old w) (.slice A m c) (limD (Nt.lim ((Dr.z1z n).getD 0)))∧Below w.heap.size w w':=by
 obtain ⟨A,c,A2,c2,rfl⟩:=h.form;obtain ⟨V,hV⟩:∃ V,V=w.alloc (.cells #[.int .i64 n.cls,.int .i64 n.tag,.bool n.cons,.slice A n.bytes.length c,.slice A2 n.kids.length c2] 61):=⟨_,rfl⟩;have hB:Below w.heap.size w V:=by rw [hV];exact (Below.refl _ w).alloc (Nat.le_refl _) _
 have HK:Hid (Blk V w.heap.size 61 #[.int .i64 n.cls,.int .i64 n.tag,.bool n.cons,.slice A n.bytes.length c,.slice A2 n.kids.length c2]):=by show Blk _ _ _ _;rw [hV];exact Blk.new w _ _
 have hwhole:=z6E n _ Av V (h.stays hB) hf (Utf8Tabs_below hT hB);have hs:w.heap.size≤V.heap.size:=hB.size;have HIS:=Lib.hid h.zcy;have HPOS:Hid (Dr.whole n=true→0<n.bytes.length):=zb2;have HR:=Lib.hid hwhole;have HB:=Lib.hid hB;have HV:=Lib.hid hV;have hnb9:n.bytes.length≤40000:=by have:=Dr.z0Y n;have:=hf.mx;omega
 have HE:Hid (Dr.z1z n=if Dr.whole n=true∧(n.bytes.getD 0 0).toNat≤127 then some (Nt.be n.bytes) else none):=rfl;clear hwhole hB hV h hf hT;obtain ⟨b,hb⟩:∃ b,b=n.bytes:=⟨_,rfl⟩;obtain ⟨wh,hwh⟩:∃ wh,wh=Dr.whole n:=⟨_,rfl⟩;rw [←hb,←hwh] at HE;rw [←hb] at HK HR HIS HV hnb9 ⊢;rw [←hwh] at HR HPOS;rw [←hb] at HPOS;obtain ⟨nb,hnb⟩:∃ nb,nb=b.length:=⟨_,rfl⟩;obtain ⟨nk,hnk⟩:∃ nk,nk=n.kids.length:=⟨_,rfl⟩;obtain ⟨nc,hnc⟩:∃ nc,nc=n.cls:=⟨_,rfl⟩;obtain ⟨nt,hnt⟩:∃ nt,nt=n.tag:=⟨_,rfl⟩;obtain ⟨no,hno⟩:∃ no,no=n.cons:=⟨_,rfl⟩;rw [←hnb,←hnk,←hnc,←hnt,←hno] at HR HK HV;rw [←hnb] at HIS hnb9 HPOS;rw [←hnb,←hnk,←hnc,←hnt,←hno];have HNB:=Lib.hid hnb;clear hb hwh hnb hnk hnc hnt hno;go_enter Tryz.func126,Tryz.ntmps126
 go_upto_region 1 with fail
 rw [←HV.out];obtain ⟨p0,p1,p2,p3,p4,g0,g1,g2,g3,g4⟩:=HK.out.five
 go_wp2_with fail
 refine HR.out.mono ?_;rintro e V2 ⟨rfl,hb2⟩;have HB2:=Lib.hid (HB.out.trans (hb2.mono hs));have HK2:=Lib.hid (HK.out.below hb2 HK.out.lt);clear hb2 p0 p1 p2 p3 p4 g0 g1 g2 g3 g4;obtain ⟨p0,p1,p2,p3,p4,g0,g1,g2,g3,g4⟩:=HK2.out.five;cases wh with
 | false=>
  go_wp2_with fail
  go_ret2
  have e:Dr.z1z n=none:=by rw [HE.out];exact if_neg (fun h=>by cases h.1)
  rw [e];exact ⟨none,0,0,rfl,by rw [Option.getD_none,Nt.z1X];exact Is.ziG _ _,HB2.out⟩
 | true=>
  have hpos:0<nb:=HPOS.out rfl;obtain ⟨hnn,hcb,hA⟩:=HIS.out.byteCells;obtain ⟨g,o,rfl,_,hgl,hcell⟩:=hA hpos;obtain ⟨a0,ha0⟩:∃ a0,a0=b.getD 0 0:=⟨_,rfl⟩;have k0:V2.cell? ⟨g,o,none⟩=some (.int .u8 (a0.toNat:Int)):=by
   have:=z0n HB2.out (hcell 0 (by omega));rw [ha0,List.getD_eq_getElem?_getD,List.getElem?_eq_getElem (by omega)];exact this
  have hn0:(0:Int)<(nb:Int):=by omega
  have HI2:Hid (Is V2 Av (.slice (some ⟨g,o,none⟩) nb c) (z04 b)):=HIS.out.stays HB2.out;rw [←ha0] at HE;clear hA hcell hnn ha0;by_cases h7:127<a0.toNat
  ·have hd:decide ((127:Int)<(a0.toNat:Int))=true:=decide_eq_true (by omega);have H7:=Lib.hid h7;clear h7
   go_wp2_with fail
   go_ret2
   have e:Dr.z1z n=none:=by rw [HE.out];exact if_neg (fun h=>by have h1:=h.2;have h2:=H7.out;omega)
   rw [e];exact ⟨none,0,0,rfl,by rw [Option.getD_none,Nt.z1X];exact Is.ziG _ _,HB2.out⟩
  ·have hd:decide ((127:Int)<(a0.toNat:Int))=false:=decide_eq_false (by omega);have H7:=Lib.hid h7;clear h7
   go_wp2_with fail
   refine (zdq (some ⟨g,o,none⟩) nb c b Av V2 HI2.out (by omega)).mono ?_;rintro e w9 ⟨v9,rfl,h9,hb9⟩;obtain ⟨A9,c9,e9,_⟩:=h9.zdA;subst e9;rw [List.length_map] at h9 ⊢;have H9:=Lib.hid h9;have HB9:=Lib.hid hb9;clear h9 hb9
   go_wp2_with fail
   go_ret2
   have e:Dr.z1z n=some (Nt.be b):=by rw [HE.out];exact if_pos ⟨by trivial,by have:=H7.out;omega⟩
   rw [e];refine ⟨_,_,_,rfl,?_,HB2.out.trans (HB9.out.mono HB2.out.size)⟩;exact H9.out.less (fun b hb _=>Nat.lt_of_lt_of_le hb HB2.out.size)
end Go.Proofs.YtgmppconibklcaaGreatDoor

namespace Go.Proofs.YtgmppconibklcaaGreatDoor
open Go Go.RowKit
def isB (n:Nd) (t:Int):Bool:=n.cls==0&&n.tag==t&&Dr.right n
theorem zh1 (n:Nd) (t:Int) (v:Value) (Av:Nat→Prop) (w:World) (h:NdAt w Av v n) (hf:Fine n) (hT:Tabs w):
  Calls Tryz.prog 161 #[v,.int .i64 t] w fun e w'=>e = .returned (.bool (isB n t))∧Below w.heap.size w w':=by
 obtain ⟨A,c,A2,c2,rfl⟩:=h.form;obtain ⟨V,hV⟩:∃ V,V=w.alloc (.cells #[.int .i64 n.cls,.int .i64 n.tag,.bool n.cons,.slice A n.bytes.length c,.slice A2 n.kids.length c2] 61):=⟨_,rfl⟩;have hB:Below w.heap.size w V:=by rw [hV];exact (Below.refl _ w).alloc (Nat.le_refl _) _
 have HK:Hid (Blk V w.heap.size 61 #[.int .i64 n.cls,.int .i64 n.tag,.bool n.cons,.slice A n.bytes.length c,.slice A2 n.kids.length c2]):=by show Blk _ _ _ _;rw [hV];exact Blk.new w _ _
 have hright:=z6F n _ Av V (h.stays hB) hf (Utf8Tabs_below hT hB);have hs:w.heap.size≤V.heap.size:=hB.size;have HR:=Lib.hid hright;have HB:=Lib.hid hB;have HV:=Lib.hid hV;clear hright hB hV h hf hT;obtain ⟨nb,hnb⟩:∃ nb,nb=n.bytes.length:=⟨_,rfl⟩;obtain ⟨nk,hnk⟩:∃ nk,nk=n.kids.length:=⟨_,rfl⟩;obtain ⟨nc,hnc⟩:∃ nc,nc=n.cls:=⟨_,rfl⟩;obtain ⟨nt,hnt⟩:∃ nt,nt=n.tag:=⟨_,rfl⟩;obtain ⟨no,hno⟩:∃ no,no=n.cons:=⟨_,rfl⟩;have HW:Hid (isB n t=(nc==0&&nt==t&&Dr.right n)):=by show _=_;rw [hnc,hnt];rfl
 rw [←hnb,←hnk,←hnc,←hnt,←hno] at HR HK HV;rw [←hnb,←hnk,←hnc,←hnt,←hno];clear hnb hnk hnc hnt hno;go_enter Tryz.func161,Tryz.ntmps161
 go_upto_region 1 with fail
 rw [←HV.out];obtain ⟨p0,p1,p2,p3,p4,g0,g1,g2,g3,g4⟩:=HK.out.five;cases hc:(nc==0) with
 | false=>
  go_wp2_with fail
  go_ret
  exact ⟨by rw [HW.out,hc];rfl,HB.out⟩
 | true=>
  cases ht2:(nt==t) with
  | false=>
   go_wp2_with fail
   go_ret
   exact ⟨by rw [HW.out,ht2,hc];rfl,HB.out⟩
  | true=>
   go_wp2_with fail
   refine HR.out.mono ?_;rintro e V2 ⟨rfl,hb2⟩
   go_wp2_with fail
   go_ret
   exact ⟨by rw [HW.out,ht2,hc];rfl,HB.out.trans (hb2.mono hs)⟩
def zmc (n:Nd) (lo hi:Int):Bool:=n.cls==0&&n.tag==16&&n.cons&&decide (lo≤(n.kids.length:Int))&&decide ((n.kids.length:Int)≤hi)
theorem z8f (l:List Nd) (A:Option Addr) (n cp:Nat) (Av:Nat→Prop) (w:World) (hz:Dr.wts l≤10000000) (h:Is w Av (.slice A n cp) (ndsD l)):
  Calls Tryz.prog 137 #[.slice A n cp] w fun e w'=>∃ v,e = .returned v∧NdAt w' (Old w) v (Dr.seq l)∧Below w.heap.size w w':=by
 have H:=Lib.hid h;obtain ⟨V,hV⟩:∃ V,V=w.alloc (.cells #[.int .i64 0,.int .i64 0,.bool false,.slice none 0 0,.slice none 0 0] 61):=⟨_,rfl⟩;have HB:Hid (Below w.heap.size w V):=by show Below _ _ _;rw [hV];exact (Below.refl _ w).alloc (Nat.le_refl _) _
 have HK:Hid (Blk V w.heap.size 61 #[.int .i64 0,.int .i64 0,.bool false,.slice none 0 0,.slice none 0 0]):=by show Blk _ _ _ _;rw [hV];exact Blk.new w _ _
 have hsz:=HB.out.size;have HV:=Lib.hid hV;clear h hV;go_enter Tryz.func137,Tryz.ntmps137
 go_upto_region 1 with fail
 rw [←HV.out]
 go_wp2_with fail
 refine (z8a 0 16 l A n cp Av V hz (H.out.stays HB.out)).mono ?_;rintro e w2 ⟨v,rfl,h2,hb2⟩;have H2:=Lib.hid h2;obtain ⟨A1,c1,A2,c2,rfl⟩:=h2.form;have HB2:=Lib.hid hb2;have HK2:=Lib.hid (HK.out.below hb2 HK.out.lt);obtain ⟨q0,q1,q2,q3,q4,f0,f1,f2,f3,f4⟩:=HK2.out.five;clear h2 hb2
 go_wp2_with fail
 refine bodyPost_ret (z2h Tryz.results137 _ _ (HK2.out.set5 _ _ _ _ _) rfl) rfl ⟨_,rfl,?_,?_⟩
 ·exact (H2.out.set5 HK.out.lt _ _ _ _ _).less (fun b hb _=>Nat.lt_of_lt_of_le hb hsz)
 ·exact z0y (HB.out.trans (HB2.out.mono hsz)) (Nat.le_refl _) _ _ _ _ _
end Go.Proofs.YtgmppconibklcaaGreatDoor

namespace Go.Proofs.YtgmppconibklcaaGreatDoor
open Go Go.RowKit
def isT (n:Nd) (t:Int):Bool:=n.cls==0&&n.tag==t
end Go.Proofs.YtgmppconibklcaaGreatDoor

namespace Go.Proofs.YtgmppconibklcaaGreatDoor
namespace Rq
open Dr
abbrev Bs:=List UInt8
structure Ex where
 oid:Bs
 crit:Bool
 val:Bs
structure Req where
 alg:Bs
 impr:Bs
 policy:Bs
 has:Bool
 nonce:Nat
 cert:Bool
 exts:List Ex
def z1p (s:Bs):Bool:=(Od.enc s).isSome
def oidN (s:Bs):Nd:=prim 6 ((Od.enc s).getD [])
def exOk (e:Ex):Bool:=z1p e.oid&&decide (e.val.length≤2000)
def exN (e:Ex):Nd:=seq (oidN e.oid::(if e.crit then [prim 1 [255],prim 4 e.val] else [prim 4 e.val]))
def isU (n:Nd) (t:Int):Bool:=n.cls==0&&n.tag==t&&right n
def z0U (n:Nd) (a b:Nat):Bool:=n.cls==0&&n.tag==16&&n.cons&&decide (a≤n.kids.length)&&decide (n.kids.length≤b)
def z2R (n:Nd):Option Bs:=if isU n 6 then Od.decO n.bytes else none
def kid (n:Nd) (i:Nat):Nd:=n.kids.getD i Nd.nil
def exOf (n:Nd):Option Ex:=
 if z0U n 2 3&&n.bytes.isEmpty then
  match z2R (kid n 0) with
  | none=>none
  | some o=>
   if isU (kid n (n.kids.length-1)) 4&&decide ((kid n (n.kids.length-1)).bytes.length≤2000)&&(n.kids.length==2||(isU (kid n 1) 1&&((kid n 1).bytes.getD 0 0).toNat==255)) then
    some ⟨o,n.kids.length==3,(kid n (n.kids.length-1)).bytes⟩
   else none
 else none
theorem zeN:∀ {l:List Nd} {bs:List (List UInt8)},puts l=some bs→∀ k∈l,right k=true
 | [],_,_=>by intro k hk;cases hk
 | n::l,bs,h=>by
  rw [puts] at h;split at h
  ·rename_i o ho;split at h
   ·rename_i os hos;intro k hk;rcases List.mem_cons.1 hk with rfl|hk
    ·unfold right;rw [ho];rfl
    ·exact zeN hos k hk
   ·cases h
  ·cases h
theorem z2F {n:Nd} (h:right n=true):∀ k∈n.kids,right k=true:=by
 obtain ⟨c,t,k,b,l⟩:=n;unfold right at h;rw [put] at h;split at h
 ·split at h
  ·rename_i bs hbs;show ∀ k∈l,_;exact zeN hbs
  ·cases h
 ·cases h
theorem zgq {l:List Nd} (h:∀ k∈l,right k=true):∃ bs,puts l=some bs:=by
 induction l with
 | nil=>exact ⟨[],by rw [puts]⟩
 | cons n l ih=>
  obtain ⟨bs,hb⟩:=ih (fun k hk=>h k (List.mem_cons_of_mem _ hk));have h1:=h n List.mem_cons_self;unfold right at h1;obtain ⟨o,ho⟩:=Option.isSome_iff_exists.1 h1;exact ⟨o::bs,by rw [puts,ho,hb]⟩
theorem z4w {c t:Int} {l:List Nd} (h:∀ k∈l,right k=true) (hm:may c t true=true) (ht:(c==0&&t==17)=false):right (.mk c t true [] l)=true:=by
 obtain ⟨bs,hb⟩:=zgq h;unfold right;rw [put,if_pos (by rw [hm];simp),hb];simp only [ht,Bool.false_and,Bool.false_eq_true,if_false];rfl
theorem z5l {l:List Nd} (h:∀ k∈l,right k=true):right (seq l)=true:=z4w h (by decide) (by decide)
theorem zhK {l:List Nd} (h:∀ k∈l,right k=true):right (.mk 2 0 true [] l)=true:=z4w h (by decide) (by decide)
theorem z5Y {t:Int} {b:Bs} (ht:z1G t=true) (h0:0≤t) (h1:t≤30) (hv:value t b=true):right (prim t b)=true:=by
 unfold right prim;rw [put,if_pos (by
  have:may 0 t false=true:=by unfold may;simp [ht,h0,h1]
  rw [this,hv];simp),puts]
 simp [rising]
theorem z39 (b:Bs):right (prim 4 b)=true:=z5Y (by decide) (by decide) (by decide) (by unfold value;simp)
theorem z4Q:right (prim 1 [255])=true:=z5Y (by decide) (by decide) (by decide) (by decide)
theorem z5m {s:Bs} (h:z1p s=true):right (oidN s)=true:=by
 unfold z1p at h;obtain ⟨b,hb⟩:=Option.isSome_iff_exists.1 h;unfold oidN;rw [hb];exact z5Y (by decide) (by decide) (by decide) (by unfold value;simp [Od.zaI hb])
theorem z4e {n:Int} (h0: -9223372036854775808≤n) (h1:n≤9223372036854775807):right (intN n)=true:=Dr.z4e _ (zbe h0 h1).1
theorem zhI {n:Nat} (h:Nt.bl n≤131072):right (natN n)=true:=by
 unfold natN;rw [if_neg (by omega)];exact Dr.z4e _ (z9H n).1
theorem zhA {n:Nd} (h:right n=true) {a b:Nat} (hs:z0U n a b=true):n=seq n.kids∧a≤n.kids.length∧n.kids.length≤b:=by
 obtain ⟨c,t,k,bb,l⟩:=n;unfold z0U at hs;simp only [Bool.and_eq_true,beq_iff_eq,decide_eq_true_eq,Nd.cls,Nd.tag,Nd.cons,Nd.kids] at hs;obtain ⟨⟨⟨⟨rfl,rfl⟩,rfl⟩,h1⟩,h2⟩:=hs;unfold right at h;rw [put] at h;split at h
 ·rename_i hok;simp only [Bool.and_eq_true] at hok;have:bb=[]:=by simpa using hok.1.1.2
  subst this;exact ⟨rfl,of_decide_eq_true h1,of_decide_eq_true h2⟩
 ·cases h
theorem z5A {n:Nd} {t:Int} (h:isU n t=true) (ht:z1G t=true):n=prim t n.bytes∧value t n.bytes=true∧right n=true:=by
 unfold isU at h;simp only [Bool.and_eq_true,beq_iff_eq] at h;obtain ⟨⟨h1,h2⟩,h3⟩:=h;have:=z3v h3 h1 (by rw [h2];exact ht);rw [h2] at this;exact ⟨this.1,this.2,h3⟩
theorem z66 {n:Nd} {s:Bs} (h:z2R n=some s):n=oidN s∧z1p s=true:=by
 unfold z2R at h;split at h
 ·rename_i hu;have:=z5A hu (by decide);have he:=Od.zln h;unfold oidN z1p;rw [he];exact ⟨this.1,rfl⟩
 ·cases h
theorem z67 {s:Bs} (h:z1p s=true):z2R (oidN s)=some s:=by
 have hr:=z5m h;unfold z1p at h;obtain ⟨b,hb⟩:=Option.isSome_iff_exists.1 h;unfold z2R isU;rw [if_pos (by rw [hr];rfl)];unfold oidN;rw [hb];exact Od.zaI hb
theorem z9q (b:Bs):isU (prim 4 b) 4=true:=by unfold isU;rw [z39];rfl
theorem ziT:isU (prim 1 [255]) 1=true:=by unfold isU;rw [z4Q];rfl
theorem zfS {b:Bs} (h:value 1 b=true) (h2:(b.getD 0 0).toNat=255):b=[255]:=by
 unfold value at h;simp at h;match b,h with
 | [c],_=>
  congr 1
  exact UInt8.toNat_inj.1 (by simpa using h2)
theorem z84 {n:Nd} {e:Ex} (h:exOf n=some e):exOk e=true∧exN e=n:=by
 unfold exOf at h;split at h
 ·rename_i hs;split at h
  ·cases h
  ·rename_i o ho;split at h
   ·rename_i hv;simp only [Option.some.injEq] at h;subst h;obtain ⟨hn,hok⟩:=z66 ho;simp only [Bool.and_eq_true,Bool.or_eq_true,beq_iff_eq,decide_eq_true_eq] at hv hs;obtain ⟨⟨h4,hlen⟩,hc⟩:=hv;have e4:=(z5A h4 (by decide)).1;refine ⟨by unfold exOk;simp [hok,hlen],?_⟩;obtain ⟨c,t,k,b,l⟩:=n;have hs1:=hs.1;unfold z0U at hs1;simp only [Bool.and_eq_true,beq_iff_eq,decide_eq_true_eq,Nd.cls,Nd.tag,Nd.cons,Nd.kids] at hs1;obtain ⟨⟨⟨⟨rfl,rfl⟩,rfl⟩,h1⟩,h2⟩:=hs1;have hb:b=[]:=by simpa [Nd.bytes] using hs.2
    subst hb;match l,h1,h2 with
    | [x,y],_,_=>
     simp only [kid,Nd.kids,List.length_cons,List.length_nil,List.getD_cons_zero,List.getD_cons_succ,Nat.zero_add,Nat.reduceAdd,Nat.add_sub_cancel] at *;unfold exN;simp only [Nat.reduceBEq,Bool.false_eq_true,if_false];rw [←hn,←e4];rfl
    | [x,y,z],_,_=>
     simp only [kid,Nd.kids,List.length_cons,List.length_nil,List.getD_cons_zero,List.getD_cons_succ,Nat.zero_add,Nat.reduceAdd,Nat.reduceSub] at *;rcases hc with hc|⟨hc1,hc2⟩
     ·omega
     ·obtain ⟨e1,v1,_⟩:=z5A hc1 (by decide);have:=zfS v1 hc2;rw [this] at e1;unfold exN;simp only [Nat.reduceBEq,if_true];rw [←hn,←e4,←e1];rfl
   ·cases h
 ·cases h
theorem zav {e:Ex} (h:exOk e=true):exOf (exN e)=some e:=by
 unfold exOk at h;simp only [Bool.and_eq_true,decide_eq_true_eq] at h;have ho:=z67 h.1;obtain ⟨o,c,v⟩:=e;have h4:=z9q v;have h1:=ziT;cases c with
 | false=>
  unfold exOf exN;simp only [Bool.false_eq_true,if_false,seq,z0U,kid,Nd.cls,Nd.tag,Nd.cons,Nd.kids,Nd.bytes,List.length_cons,List.length_nil,List.getD_cons_zero,List.getD_cons_succ,Nat.zero_add,Nat.reduceAdd,Nat.reduceSub,ho,h4];simp [prim,Nd.bytes,h.2]
 | true=>
  unfold exOf exN;simp only [if_true,seq,z0U,kid,Nd.cls,Nd.tag,Nd.cons,Nd.kids,Nd.bytes,List.length_cons,List.length_nil,List.getD_cons_zero,List.getD_cons_succ,Nat.zero_add,Nat.reduceAdd,Nat.reduceSub,ho,h4,h1];simp [prim,Nd.bytes,h.2]
theorem zkx {e:Ex} (h:exOk e=true):right (exN e)=true:=by
 unfold exOk at h;simp only [Bool.and_eq_true] at h;unfold exN;refine z5l fun k hk=>?_
 rcases List.mem_cons.1 hk with rfl|hk
 ·exact z5m h.1
 ·split at hk
  ·rcases List.mem_cons.1 hk with rfl|hk
   ·exact z4Q
   ·rcases List.mem_cons.1 hk with rfl|hk
    ·exact z39 _
    ·cases hk
  ·rcases List.mem_cons.1 hk with rfl|hk
   ·exact z39 _
   ·cases hk
end Rq
end Go.Proofs.YtgmppconibklcaaGreatDoor

