/- Part of the proof. No condition. -/
import Derived.Test.YtgmppconibklcaaGreatDoorM23
import Derived.Test.YtgmppconibklcaaGreatDoorM17
import Derived.BigQuiet
set_option maxHeartbeats 40000000
set_option maxRecDepth 100000
set_option linter.unusedVariables false
set_option linter.unusedSimpArgs false
namespace Go.Proofs.YtgmppconibklcaaGreatDoor
open Go Go.RowKit
def zaT (b:List UInt8) (A:Option Addr) (n c rb at_ end_:Nat) (w:World) (e:Ending) (w':World):Prop:=
 w.grownBy w' (some rb)∧match Dr.z3l ((b.drop at_).take (end_-at_)) with
  | some (size,j)=>e = .returned (.int .i64 size)∧Blk w' rb 166 #[.slice A n c,.int .i64 ((at_+j:Nat):Int)]
  | none=>∃ x y:Int,(y==0)=false∧e = .panicked [{v:=z41 x y,recovered:=false}]
theorem z5W {b:List UInt8} {A:Option Addr} {n c rb at_ end_:Nat} {w w':World} {e:Ending} {x y:Int} (h:Dr.z3l ((b.drop at_).take (end_-at_))=none) (hg:w.grownBy w' (some rb)) (hy:(y==0)=false) (he:e = .panicked [{v:=z41 x y,recovered:=false}]):zaT b A n c rb at_ end_ w e w':=by
 refine ⟨hg,?_⟩;rw [h];exact ⟨x,y,hy,he⟩
theorem zed {b:List UInt8} {A:Option Addr} {n c rb at_ end_ size j:Nat} {w w':World} {e:Ending} (h:Dr.z3l ((b.drop at_).take (end_-at_))=some (size,j)) (hg:w.grownBy w' (some rb)) (he:e = .returned (.int .i64 size)) (hb:Blk w' rb 166 #[.slice A n c,.int .i64 ((at_+j:Nat):Int)]):zaT b A n c rb at_ end_ w e w':=by
 refine ⟨hg,?_⟩;rw [h];exact ⟨he,hb⟩
theorem z4I (b:List UInt8) (A:Option Addr) (n c rb at_ from_ end_:Nat) (w:World) (hr:Blk w rb 166 #[.slice A n c,.int .i64 at_]) (hb:Is w (fun g=>g=rb) (.slice A n c) (z04 b)) (hn:n≤40000) (he:end_≤n) (ha:at_≤end_):
  Calls Tryz.prog 169 #[.pointer (some ⟨rb,0,none⟩),.int .i64 from_,.int .i64 end_] w (zaT b A n c rb at_ end_ w):=by
 have hmf:∀ (fn:Fn) (first cap:Array Value) (w:World),(Instr.makeFunc fn first cap).run Tryz.prog w = .ok (.func fn first cap) w:=fun _ _ _ _=>rfl
 obtain ⟨V,hV⟩:∃ V,V=w.alloc (.cells #[.int .i64 from_] 3):=⟨_,rfl⟩;have HG:Hid (w.grownBy V (some rb)):=by show World.grownBy _ _ _;rw [hV];exact z2G (World.grownBy.refl _ _) _
 have HF:Hid (Blk V w.heap.size 3 #[.int .i64 from_]):=by show Blk _ _ _ _;rw [hV];exact Blk.new w _ _
 have HR:Hid (Blk V rb 166 #[.slice A n c,.int .i64 at_]):=by show Blk _ _ _ _;rw [hV];exact hr.alloc _
 have HI:Hid (Is V (fun g=>g=rb) (.slice A n c) (z04 b)):=by show Is _ _ _ _;rw [hV];exact hb.alloc _
 have HLT:=Lib.hid hr.lt;have HV:=Lib.hid hV;clear hV hr hb;go_enter Tryz.func169,Tryz.ntmps169
 go_upto_region 1 with fail
 rw [←HV.out];obtain ⟨p0,p1,f0,f1⟩:=HR.out.two;have q0:V.cell? ⟨w.heap.size,0,none⟩=some (.int .i64 from_):=HF.out.cell 0;by_cases hat:at_<end_
 ·have hd:decide (at_<end_)=true:=decide_eq_true hat;obtain ⟨hnl,hnc,hA⟩:=HI.out.byteCells;obtain ⟨g,o,rfl,hgr,hgl,hcell⟩:=hA (by omega);obtain ⟨x,hx⟩:∃ x,x=b[at_]'(by omega):=⟨_,rfl⟩;have k0:V.cell? ⟨g,o+at_,none⟩=some (.int .u8 (x.toNat:Int)):=by rw [hx];exact hcell at_ (by omega)
  have hra:(b.drop at_).take (end_-at_)=x::(b.drop (at_+1)).take (end_-at_-1):=by
   rw [List.drop_eq_getElem_cons (by omega:at_<b.length),←hx];obtain ⟨m,hm⟩:∃ m,end_-at_=m+1:=⟨end_-at_-1,by omega⟩;rw [hm];rfl
  have HC:Hid (n=b.length∧∀ j (hj:j<b.length),V.cell? ⟨g,o+j,none⟩=some (.int .u8 (b[j].toNat:Int))):=⟨hnl,hcell⟩;have HRA:=Lib.hid hra;have HGR:Hid (g≠rb∧g<V.heap.size):=⟨hgr,hgl⟩;have hi1:(at_:Int)<(n:Int):=by omega
  clear hnl hnc hA hgr hgl hcell hx hra
  go_wp2_with fail
  refine (z3O 30 _ V).mono ?_;rintro e w' ⟨rfl,rfl⟩;obtain ⟨X,hX⟩:∃ X,X=x.toNat:=⟨_,rfl⟩;have hX9:X<256:=by rw [hX];exact x.toNat_lt
  have hw:wrap64 (X:Int)=(X:Int):=by unfold wrap64;omega
  rw [←hX] at k0;have HX:=Lib.hid hX;clear hX
  go_upto_region 3 with fail
  go_quiet (fail)
  go_upto_region 5 with fail
  obtain ⟨V2,hV2⟩:∃ V2,V2=(w'.drewN nq).setCell ⟨rb,1,none⟩ (.int .i64 ((at_:Int)+1)):=⟨_,rfl⟩;have HG2:Hid (w.grownBy V2 (some rb)):=by show World.grownBy _ _ _;rw [hV2];exact z0r (z3B HG.out nq) (.inl rfl) _
  have HR2:Hid (Blk V2 rb 166 #[.slice (some ⟨g,o,none⟩) n c,.int .i64 ((at_:Int)+1)]):=by show Blk _ _ _ _;rw [hV2];exact (HR.out.drewN nq).set_ 1 _
  have HF2:Hid (Blk V2 w.heap.size 3 #[.int .i64 from_]):=by show Blk _ _ _ _;rw [hV2];exact (HF.out.drewN nq).far (by have:=HLT.out;show _≠rb;omega) _
  have HC2:Hid (n=b.length∧∀ j (hj:j<b.length),V2.cell? ⟨g,o+j,none⟩=some (.int .u8 (b[j].toNat:Int))):=by
   refine ⟨HC.out.1,fun j hj=>?_⟩;rw [hV2,World.cell?_setCell_other _ _ _ _ (fun e=>HGR.out.1 (congrArg Addr.block e).symm)];exact HC.out.2 j hj
  rw [←hV2];clear p0 p1 f0 f1 q0 hV2;obtain ⟨p0,p1,f0,f1⟩:=HR2.out.two;have q0:V2.cell? ⟨w.heap.size,0,none⟩=some (.int .i64 from_):=HF2.out.cell 0;by_cases h128:X<128
  ·have hd1:decide ((X:Int)<128)=true:=decide_eq_true (by omega);have H128:=Lib.hid h128;clear h128
   go_wp2_with fail
   go_ret
   refine zed (size:=X) (j:=1) ?_ HG2.out rfl (by rw [Int.natCast_add];exact HR2.out);rw [HRA.out,Dr.z3l,←HX.out,if_pos H128.out]
  ·have hd1:decide ((X:Int)<128)=false:=decide_eq_false (by omega);obtain ⟨k,hk⟩:∃ k,X=k+128:=⟨X-128,by omega⟩;have hk2:(X:Int)-128=(k:Int):=by omega
   have hwk:wrap64 (k:Int)=(k:Int):=by unfold wrap64;omega
   have hk9:k<128:=by omega
   have hRL:Dr.z3l ((b.drop at_).take (end_-at_))=(fun r:List UInt8=>if 1≤k∧k≤4∧k≤r.length then
     if 128≤Nt.be (r.take k)∧0<Nt.be (r.take k) / 2^(8*(k-1)) then some (Nt.be (r.take k),k+1) else none
    else none) ((b.drop (at_+1)).take (end_-at_-1)):=by
    rw [HRA.out,Dr.z3l,←HX.out,if_neg h128,show X-128=k by omega]
   have HRL:=Lib.hid hRL;have HK:=Lib.hid hk;clear hk h128 hRL;by_cases hk1:1≤k
   ·by_cases hk4:k≤4
    ·have hd2:decide ((1:Int)≤(k:Int))=true:=decide_eq_true (by omega);have hd3:decide ((k:Int)≤4)=true:=decide_eq_true (by omega)
     go_wp2_with fail
     refine (z3O 32 _ V2).mono ?_;rintro e w3 ⟨rfl,rfl⟩;by_cases hke:k≤end_-(at_+1)
     ·have hd4:decide ((k:Int)≤(end_:Int)-((at_:Int)+1))=true:=decide_eq_true (by omega);have hnc:n≤c:=HI.out.byteCells.2.1;have hcc:(c==at_+1)=false:=by simp;omega
      have hlo:(at_:Int)+1≤(at_:Int)+1+(k:Int):=by omega
      have hhi:(at_:Int)+1+(k:Int)≤(c:Int):=by omega
      go_wp2_with fail
      refine (z3O 30 _ w3).mono ?_;rintro e w4 ⟨rfl,rfl⟩;obtain ⟨r,hr⟩:∃ r,r=(b.drop (at_+1)).take (end_-at_-1):=⟨_,rfl⟩;have hrl:r.length=end_-at_-1:=by have:=HC2.out.1;rw [hr,List.length_take,List.length_drop];omega
      have hrk:∀ i,i<k→∃ y:UInt8,r.take (i+1)=r.take i++[y]∧w4.cell? ⟨g,o+(at_+1)+i,none⟩=some (.int .u8 (y.toNat:Int)):=by
       intro i hi;have hbl:=HC2.out.1;refine ⟨b[at_+1+i]'(by omega),?_,?_⟩
       ·rw [List.take_succ_eq_append_getElem (by omega)];simp [hr,List.getElem_take,List.getElem_drop]
       ·have:=HC2.out.2 (at_+1+i) (by omega);rw [Nat.add_assoc];exact this
      rw [←hr] at HRL;have HR0:=Lib.hid (And.intro hrl hrk);clear hr hrl hrk
      go_upto_region 11 with fail
      go_quiet (fail)
      obtain ⟨V5,hV5⟩:∃ V5,V5=w4.drewN nq:=⟨_,rfl⟩;rw [←hV5];have HG5:Hid (w.grownBy V5 (some rb)):=by show World.grownBy _ _ _;rw [hV5];exact z3B HG2.out _
      have HR5:Hid (Blk V5 rb 166 #[.slice (some ⟨g,o,none⟩) n c,.int .i64 ((at_:Int)+1)]):=by show Blk _ _ _ _;rw [hV5];exact HR2.out.drewN _
      have HF5:Hid (Blk V5 w.heap.size 3 #[.int .i64 from_]):=by show Blk _ _ _ _;rw [hV5];exact HF2.out.drewN _
      have HR1:Hid (r.length=end_-at_-1∧∀ i,i<k→∃ y:UInt8,r.take (i+1)=r.take i++[y]∧V5.cell? ⟨g,o+(at_+1)+i,none⟩=some (.int .u8 (y.toNat:Int))):=by
       refine ⟨HR0.out.1,fun i hi=>?_⟩;obtain ⟨y,h1,h2⟩:=HR0.out.2 i hi;exact ⟨y,h1,by rw [hV5];exact h2⟩
      clear hV5 p0 p1 f0 f1 q0 HR2 HF2 HC2 HG2 HR0
      go_wp2_with fail
      go_loopw [8,78] (fun t8 t78 wr=>∃ i Y:Nat,t8 = .int .i64 Y∧t78 = .int .i64 i∧i≤k∧Hid (Y=Nt.be (r.take i))∧Y<256^i∧wr=V5) (fun _ t78 _=>k-(intOf t78).toNat)
      case atStart=>exact ⟨0,0,rfl,rfl,Nat.zero_le _,by show _=_;rw [List.take_zero];rfl,by decide,rfl⟩
      case round=>
       obtain ⟨i,Y,rfl,rfl,hik,HY,hY,rfl⟩:=hrel;by_cases hi:i<k
       ·have hi2:decide ((i:Int)<(k:Int))=true:=decide_eq_true (by omega);have hi3:decide (i<k)=true:=decide_eq_true hi;obtain ⟨y,ht,ky⟩:=HR1.out.2 i hi;have HTY:=Lib.hid ht;clear ht;have hp:256^i≤16777216:=by
         have h:=Nat.pow_le_pow_right (n:=256) (by decide) (show i≤3 by omega);exact h
        have hor:=zeT (Y:Int) y.toNat (by omega) y.toNat_lt;have hyw:wrap64 (Y*256:Int)=(Y:Int)*256:=by unfold wrap64;omega
        have hyw2:wrap64 (y.toNat:Int)=(y.toNat:Int):=by have:=y.toNat_lt;unfold wrap64;omega
        have HP:=Lib.hid hp;have HOR:=Lib.hid hor;clear hp hor
        go_wp2_with fail
        refine ⟨⟨i+1,Y*256+y.toNat,?_,by go_num,by omega,?_,?_,trivial⟩,by simp [intOf];omega⟩
        ·rw [HOR.out];rfl
        ·show _=_;rw [HTY.out,Nt.zdU,←HY.out]
        ·have:=y.toNat_lt;rw [Nat.pow_succ];omega
       ·have hi2:decide ((i:Int)<(k:Int))=false:=decide_eq_false (by omega);have hi3:decide (i<k)=false:=decide_eq_false hi;have hie:i=k:=by omega
        subst hie;obtain ⟨p0,p1,f0,f1⟩:=HR5.out.two;have q0:wr.cell? ⟨w.heap.size,0,none⟩=some (.int .i64 from_):=HF5.out.cell 0;have HIE:Hid (i≤r.length):=by have:=HR1.out.1;show _≤_;omega
        have HKI:Hid (1≤i∧i≤4):=⟨hk1,hk4⟩;clear hi hi2 hi3 hik;have hi3:decide (i<i)=false:=by simp
        have hi2:decide ((i:Int)<(i:Int))=false:=by simp
        by_cases h128:128≤Y
        ·have hd5:decide ((128:Int)≤(Y:Int))=true:=decide_eq_true (by omega);by_cases h0:0<Y / 2^(8*(i-1))
         ·have hd6:decide ((0:Int)<(Y:Int) / 2^(8*(i-1)))=true:=decide_eq_true (by exact_mod_cast h0);have HH:=Lib.hid (And.intro h128 h0);clear h128 h0
          go_wp2_with fail
          refine (z3O 32 _ wr).mono ?_;rintro e w7 ⟨rfl,rfl⟩
          go_wp2_with fail
          go_ret
          refine zed (size:=Y) (j:=i+1) ?_ (z0r HG5.out (.inl rfl) _) rfl ?_
          ·rw [HRL.out,if_pos ⟨HKI.out.1,HKI.out.2,HIE.out⟩,←HY.out,if_pos HH.out]
          ·have:=HR5.out.set_ 1 (.int .i64 ((at_:Int)+1+(i:Int)));have e:(((at_+(i+1):Nat)):Int)=(at_:Int)+1+(i:Int):=by omega
           rw [e];exact this
         ·have hd6:decide ((0:Int)<(Y:Int) / 2^(8*(i-1)))=false:=decide_eq_false (fun h=>h0 (by exact_mod_cast h));have HH:=Lib.hid h0;clear h128 h0
          go_wp2_with fail
          refine (z25 32 from_ _ wr q0).mono ?_;rintro e w7 ⟨rfl,rfl⟩;refine ⟨rfl,z5W ?_ HG5.out (by decide) rfl⟩;rw [HRL.out,if_pos ⟨HKI.out.1,HKI.out.2,HIE.out⟩,←HY.out];exact if_neg (fun h=>HH.out h.2)
        ·have hd5:decide ((128:Int)≤(Y:Int))=false:=decide_eq_false (by omega);have HH:=Lib.hid h128;clear h128
         go_wp2_with fail
         refine (z25 32 from_ _ wr q0).mono ?_;rintro e w7 ⟨rfl,rfl⟩;refine ⟨rfl,z5W ?_ HG5.out (by decide) rfl⟩;rw [HRL.out,if_pos ⟨HKI.out.1,HKI.out.2,HIE.out⟩,←HY.out];exact if_neg (fun h=>HH.out h.1)
     ·have hd4:decide ((k:Int)≤(end_:Int)-((at_:Int)+1))=false:=decide_eq_false (by omega);have HKE:=Lib.hid hke;clear hke
      go_wp2_with fail
      refine (z25 30 from_ _ w3 q0).mono ?_;rintro e w4 ⟨rfl,rfl⟩;refine ⟨rfl,z5W ?_ HG2.out (by decide) rfl⟩;rw [HRL.out];exact if_neg (fun h=>by have h3:=h.2.2;have h4:=HKE.out;rw [List.length_take,List.length_drop] at h3;omega)
    ·have hd2:decide ((1:Int)≤(k:Int))=true:=decide_eq_true (by omega);have hd3:decide ((k:Int)≤4)=false:=decide_eq_false (by omega);have HK4:=Lib.hid hk4;clear hk4
     go_wp2_with fail
     refine (z25 32 from_ _ V2 q0).mono ?_;rintro e w3 ⟨rfl,rfl⟩;refine ⟨rfl,z5W ?_ HG2.out (by decide) rfl⟩;rw [HRL.out];exact if_neg (fun h=>HK4.out h.2.1)
   ·have hd2:decide ((1:Int)≤(k:Int))=false:=decide_eq_false (by omega);have HK1:=Lib.hid hk1;clear hk1
    go_wp2_with fail
    refine (z25 32 from_ _ V2 q0).mono ?_;rintro e w3 ⟨rfl,rfl⟩;refine ⟨rfl,z5W ?_ HG2.out (by decide) rfl⟩;rw [HRL.out];exact if_neg (fun h=>HK1.out h.1)
 ·have hd:decide (at_<end_)=false:=decide_eq_false hat;have hn0:Dr.z3l ((b.drop at_).take (end_-at_))=none:=by
   have e0:end_-at_=0:=by omega
   rw [e0,List.take_zero];rfl
  have HN0:=Lib.hid hn0;clear hat hn0
  go_wp2_with fail
  refine (z25 30 from_ _ V q0).mono ?_;rintro e w' ⟨rfl,rfl⟩;exact ⟨rfl,z5W HN0.out HG.out (by decide) rfl⟩
end Go.Proofs.YtgmppconibklcaaGreatDoor

namespace Go.Proofs.YtgmppconibklcaaGreatDoor
open Go Go.RowKit
def z3i (b:List UInt8) (A:Option Addr) (n c rb at_ end_ d:Nat) (w:World) (e:Ending) (w':World):Prop:=
 w.grownBy w' (some rb)∧match Dr.rd d ((b.drop at_).take (end_-at_)) with
  | some (nd,k)=>∃ v,e = .returned v∧NdAt w' (fun g=>g<w.heap.size) v nd∧Blk w' rb 166 #[.slice A n c,.int .i64 ((at_+k:Nat):Int)]
  | none=>∃ x y:Int,(y==0)=false∧e = .panicked [{v:=z41 x y,recovered:=false}]
theorem z27 {b:List UInt8} {A:Option Addr} {n c rb at_ end_ d:Nat} {w w':World} {e:Ending} {x y:Int} (h:Dr.rd d ((b.drop at_).take (end_-at_))=none) (hg:w.grownBy w' (some rb)) (hy:(y==0)=false) (he:e = .panicked [{v:=z41 x y,recovered:=false}]):z3i b A n c rb at_ end_ d w e w':=by
 refine ⟨hg,?_⟩;rw [h];exact ⟨x,y,hy,he⟩
theorem zl0 {b:List UInt8} {A:Option Addr} {n c rb at_ end_ d k:Nat} {nd:Nd} {w w':World} {e:Ending} {v:Value} (h:Dr.rd d ((b.drop at_).take (end_-at_))=some (nd,k)) (hg:w.grownBy w' (some rb)) (he:e = .returned v) (hv:NdAt w' (fun g=>g<w.heap.size) v nd) (hb:Blk w' rb 166 #[.slice A n c,.int .i64 ((at_+k:Nat):Int)]):z3i b A n c rb at_ end_ d w e w':=by
 refine ⟨hg,?_⟩;rw [h];exact ⟨v,he,hv,hb⟩
theorem Is.mid {w:World} {Av:Nat→Prop} {A:Option Addr} {n c i size:Nat} {b:List UInt8} (h:Is w Av (.slice A n c) (z04 b)) (hi:i+size≤n):Is w Av (.slice (if c=i then A else A.map (·.add (i*1))) size (c-i)) (z04 ((b.drop i).take size)):=by
 obtain ⟨A',n',c',xs,e,hn,hc,hz,ha,hs⟩:=h.open_row;injection e with e1 e2 e3;subst e1 e2 e3;have hl:n=b.length:=by rw [List.length_map] at hn;omega
 unfold z04;rw [List.map_take,List.map_drop];refine Is.row_ (us:=(xs.drop i).take size) (by rw [List.length_take,List.length_drop,hn];omega) hz (by omega) ((ha.drop _).take _) fun h0=>?_
 obtain ⟨g,o,rfl,hg,hcell⟩:=hs (by omega);rw [if_neg (by omega)];refine ⟨g,o+i,?_,hg,fun j u hu=>?_⟩
 ·simp only [Option.map_some,Addr.add];split
  ·rename_i hz;simp at hz;subst hz;rfl
  ·simp
 ·rw [List.getElem?_take] at hu;split at hu
  ·rw [List.getElem?_drop] at hu;have:=hcell (i+j) u hu
   rwa [←Nat.add_assoc] at this
  ·cases hu
theorem z7n (A:Option Addr) (n c i size:Nat) {lo hi:Int} (hlo:lo=(i:Int)) (hhi:hi=(i:Int)+(size:Int)) (hc:i+size≤c):∃ A9 c9,(∀ w:World,(Instr.slice 22 (.slice A n c) (some (.int .i64 lo)) (some (.int .i64 hi)) none).run Tryz.prog w = .ok (.slice A9 size c9) w)∧size≤c9 ∧
  ∀ (V:World) (Av:Nat→Prop) (b:List UInt8),Is V Av (.slice A n c) (z04 b)→i+size≤n→Is V Av (.slice A9 size c9) (z04 ((b.drop i).take size)):=by
 subst hlo hhi;refine ⟨if c=i then A else A.map (·.add (i*1)),c-i,fun w=>?_,by omega,fun V Av b h hi=>h.mid hi⟩;have e1:((i:Int)+(size:Int)).toNat=i+size:=by omega
 simp [go_sem,e1,(by omega:(0:Int)≤(i:Int)),(by omega:(i:Int)≤(i:Int)+(size:Int)),(by omega:(i:Int)+(size:Int)≤(c:Int)),Tryz.underlying22,Nat.add_sub_cancel_left]
theorem zcV {P:Program} {ops:Array Oper} {o:Oper} {a:Act} {K:Act→World→Prop} {Q:Exit→Act→World→Prop} {E:Prop} {w:World} (hgd:o.guard=none) (x:Operand) (t:TypeId)
  (ho:o.op = .call {callee:= .builtin .append,args:=#[.const (.slice none 0 0),x],argTypes:=#[t,t]}) (i:TypeInfo) (ht:P.underlying t=some (.slice 5)) (hi:P.info? 5=some i) (hz:i.zero=some (.int .u8 0))
  (hsize:i.size=1) (hby:i.bytes=1) (B:Nat) (A:Option Addr) (n c:Nat) (b:List UInt8) (hx:a.eval x = .slice A n c) (hr:Reads w B 1 A n (Lib.byteCells b)) (hl:n≤100000000)
  (h:∀ A' c' w',n≤c'→w'.ownsRow w.heap.size 5 1 (.slice A' n c') n (Lib.byteCells b)→Below w.heap.size w w'→K (a.put o.dst (.slice A' n c')) w'):if Region.wanted o (yielded ops a.tmps)=true then Oper.wp P o a w K Q else E:=by
 refine z4b _ hgd (.const (.slice none 0 0)) x t ho w.heap.size 5 i _ 1 1 ht hi hz hsize hby rfl (by omega) (.slice none 0 0) 0 [] rfl (World.ownsRow_nil _ _ _ _) B A n c _ hx hr (by intro u hu;obtain ⟨x,_,rfl⟩:=List.mem_map.1 hu;rfl) (by simp only [maxLen];omega) (by omega) (Nat.le_refl _) (fun v' w' h1 h2 h3=>?_);rw [Nat.zero_add,List.nil_append] at h1;obtain ⟨A',c',rfl,hr'⟩:=z0P h1;have hn:n≤c':=by
  rcases h1.2 with ⟨e,rfl⟩|⟨g,cap,cur,e,_,_,hnc,_⟩
  ·omega
  ·injection e with e1 e2 e3;omega
 exact h A' c' w' hn h1 (z4W (World.ownsRow_nil w w.heap.size 5 1) h2 (Nat.le_refl _))
structure NS (w V:World) (b:List UInt8) (A:Option Addr) (n c rb from_:Nat) (pos:Int) (P:Nat) (cs:Array Value):Prop where
 grown:w.grownBy V (some rb)
 rd:Blk V rb 166 #[.slice A n c,.int .i64 pos]
 frm:Blk V (w.heap.size+1) 3 #[.int .i64 from_]
 res:Blk V w.heap.size 61 #[.int .i64 0,.int .i64 0,.bool false,.slice none 0 0,.slice none 0 0]
 nd:Blk V P 61 cs
 data:Is V (fun g=>g=rb∨w.heap.size≤g) (.slice A n c) (z04 b)
 pl:w.heap.size+1<P
 rl:rb<w.heap.size
section
variable {w V V':World} {b:List UInt8} {A:Option Addr} {n c rb from_:Nat} {pos:Int} {P:Nat} {cs:Array Value}
theorem NS.below (h:NS w V b A n c rb from_ pos P cs) (hb:Below V.heap.size V V'):NS w V' b A n c rb from_ pos P cs:=
 ⟨World.grownBy.trans h.grown (z0e hb _),h.rd.below hb h.rd.lt,h.frm.below hb h.frm.lt,h.res.below hb h.res.lt,h.nd.below hb h.nd.lt,h.data.stays hb,h.pl,h.rl⟩
theorem NS.step (h:NS w V b A n c rb from_ pos P cs) (hg:V.grownBy V' (some rb)) {pos':Int} (hr:Blk V' rb 166 #[.slice A n c,.int .i64 pos']):NS w V' b A n c rb from_ pos' P cs:=by
 have hp:=h.pl;have hl:=h.rl;exact ⟨World.grownBy.trans h.grown hg,hr,h.frm.grown hg (fun e=>by injection e with e;omega),h.res.grown hg (fun e=>by injection e with e;omega),h.nd.grown hg (fun e=>by injection e with e;omega),
  h.data.grown hg (fun g hg=>by injection hg with hg;exact .inl hg.symm),hp,hl⟩
theorem NS.pos_ (h:NS w V b A n c rb from_ pos P cs) (pos':Int):NS w (V.setCell ⟨rb,1,none⟩ (.int .i64 pos')) b A n c rb from_ pos' P cs:=
 h.step (z0r (World.grownBy.refl _ _) (.inl rfl) _) (h.rd.set_ 1 _)
theorem NS.setN (h:NS w V b A n c rb from_ pos P cs) (i:Nat) (u:Value):NS w (V.setCell ⟨P,i,none⟩ u) b A n c rb from_ pos P (cs.setIfInBounds i u):=by
 have hp:=h.pl;have hl:=h.rl;have hd:=h.data.setCell (p:=⟨P,i,none⟩) (.inr (by show _≤P;omega)) u;exact ⟨z0r h.grown (.inr (by show _≤P;omega)) _,h.rd.far (by show _≠P;omega) _,h.frm.far (by show _≠P;omega) _,h.res.far (by show _≠P;omega) _,h.nd.set_ i u,hd,hp,hl⟩
theorem NS.drew (h:NS w V b A n c rb from_ pos P cs):NS w V.drew b A n c rb from_ pos P cs:=
 ⟨zbO h.grown,h.rd,h.frm,h.res,h.nd,h.data.drew,h.pl,h.rl⟩
theorem NS.zgV (h:NS w V b A n c rb from_ pos P cs):Is V (fun g=>g=rb) (.slice A n c) (z04 b):=h.data.less (fun _ hb _=> .inl hb)
theorem NS.drewN (h:NS w V b A n c rb from_ pos P cs) (k:Nat):NS w (V.drewN k) b A n c rb from_ pos P cs:=
 ⟨z3B h.grown k,h.rd,h.frm,h.res,h.nd,h.data.drewN k,h.pl,h.rl⟩
theorem NS.done (h:NS w V b A n c rb from_ pos P cs) {at_ end_ d k:Nat} {nd:Nd} (hrd:Dr.rd d ((b.drop at_).take (end_-at_))=some (nd,k)) (hpos:pos=((at_+k:Nat):Int)) {vb vk:Value}
  (hb:Is V (fun g=>g≤w.heap.size) vb (z04 nd.bytes)) (hk:Is V (fun g=>g≤w.heap.size) vk (ndsD nd.kids)):
  z3i b A n c rb at_ end_ d w (.returned (.agg #[.int .i64 nd.cls,.int .i64 nd.tag,.bool nd.cons,vb,vk])) (World.set5 V w.heap.size (.int .i64 nd.cls) (.int .i64 nd.tag) (.bool nd.cons) vb vk):=by
 have hl:=h.rl;have hne:rb≠w.heap.size:=by omega
 refine zl0 (k:=k) (nd:=nd) hrd ?_ rfl ?_ ?_
 ·exact z0r (z0r (z0r (z0r (z0r h.grown (.inr (Nat.le_refl _)) _) (.inr (Nat.le_refl _)) _) (.inr (Nat.le_refl _)) _) (.inr (Nat.le_refl _)) _) (.inr (Nat.le_refl _)) _
 ·exact ⟨_,_,rfl,(hb.set5 (Nat.le_refl _) _ _ _ _ _).less (fun b hb _=>Nat.le_of_lt hb),(hk.set5 (Nat.le_refl _) _ _ _ _ _).less (fun b hb _=>Nat.le_of_lt hb)⟩
 ·rw [←hpos];exact ((((h.rd.far hne _).far hne _).far hne _).far hne _).far hne _
end
def zcH (M:Nat):Prop:=∀ (b:List UInt8) (A:Option Addr) (n c rb at_ end_ d:Nat) (w:World),end_-at_<M→Blk w rb 166 #[.slice A n c,.int .i64 at_]→Is w (fun g=>g=rb) (.slice A n c) (z04 b)→n≤40000→end_≤n→at_≤end_→d≤1000→z8D rb w →
 Calls Tryz.prog 111 #[.pointer (some ⟨rb,0,none⟩),.int .i64 end_,.int .i64 d] w (z3i b A n c rb at_ end_ d w)
def zjW (q:Bool) (M:Nat):Prop:=∀ (b:List UInt8) (A:Option Addr) (n c rb at_ end_ d:Nat) (w:World),((b.getD at_ 0).toNat / 32%2==1)=q→end_-at_<M→Blk w rb 166 #[.slice A n c,.int .i64 at_]→Is w (fun g=>g=rb) (.slice A n c) (z04 b)→n≤40000→end_≤n→at_≤end_→d≤1000→z8D rb w →
 Calls Tryz.prog 111 #[.pointer (some ⟨rb,0,none⟩),.int .i64 end_,.int .i64 d] w (z3i b A n c rb at_ end_ d w)
theorem zef {b:List UInt8} {i e:Nat} (h:i<e) (hb:e≤b.length):(b.drop i).take (e-i)=b[i]'(by omega)::(b.drop (i+1)).take (e-i-1):=by
 rw [List.drop_eq_getElem_cons (by omega:i<b.length)];obtain ⟨m,hm⟩:∃ m,e-i=m+1:=⟨e-i-1,by omega⟩;rw [hm];rfl
theorem zlQ {b:List UInt8} {i e j size:Nat} (h:size≤e-i-j):(((b.drop i).take (e-i)).drop j).take size=(b.drop (i+j)).take size:=by
 rw [List.drop_take,List.take_take,List.drop_drop,Nat.min_eq_left h]
section
variable {d:Nat} {t:UInt8} {r:List UInt8} {X:Nat}
theorem zhZ (hX:X=t.toNat) (h:Dr.may (X / 64:Nat) (X%32:Nat) (X / 32%2==1)=false):Dr.rd d (t::r)=none:=by
 subst hX;rw [Dr.za4,if_neg (by rw [h];simp)]
theorem zi0 (hX:X=t.toNat) (h:Dr.z3l r=none):Dr.rd d (t::r)=none:=by
 subst hX;rw [Dr.za4,h];split<;>rfl
theorem z5o (hX:X=t.toNat) {size j:Nat} (h:Dr.z3l r=some (size,j)) (h2:r.length-j<size∨32<d):Dr.rd d (t::r)=none:=by
 subst hX;rw [Dr.za4,h];simp only;rw [if_pos h2];split<;>rfl
theorem zeo (hX : X = t.toNat) (hm : Dr.may (X / 64 : Nat) (X % 32 : Nat) (X / 32 % 2 == 1) = true) {size j : Nat} (h : Dr.z3l r = some (size, j)) (h2 : ¬ (r.length - j < size ∨ 32 < d)) : Dr.rd d (t :: r) = if X / 32 % 2 == 1 then
          match Dr.rds (d + 1) ((r.drop j).take size) with
          | none => none
          | some (ns, cuts) => if X / 64 = 0 ∧ X % 32 = 17 ∧ Dr.rising cuts = false then none else some (.mk (X / 64 : Nat) (X % 32 : Nat) true [] ns, 1 + j + size)
        else if X / 64 = 2 ∨ Dr.value (X % 32 : Nat) ((r.drop j).take size) = true then some (.mk (X / 64 : Nat) (X % 32 : Nat) false ((r.drop j).take size) [], 1 + j + size)
        else none := by
  subst hX
  rw [Dr.za4, h]; simp only
  rw [if_pos hm, if_neg h2]
  rfl
end
theorem zfA (X:Nat):(X:Int) / 64=((X / 64:Nat):Int):=by omega
theorem ze8:∀ X:Nat,X<256→bits BinOp.and IntKind.u8 (X:Int) 31=((X%32:Nat):Int):=by
 have key:∀ k:Fin 256,bits BinOp.and IntKind.u8 ((k.val:Nat):Int) 31=((k.val%32:Nat):Int):=by decide +kernel
 intro X h;exact key ⟨X,h⟩
theorem zcv:∀ X:Nat,X<256→decide ((0:Int)<bits BinOp.and IntKind.u8 (X:Int) 32)=(X / 32%2==1):=by
 have key:∀ k:Fin 256,decide ((0:Int)<bits BinOp.and IntKind.u8 ((k.val:Nat):Int) 32)=(k.val / 32%2==1):=by decide +kernel
 intro X h;exact key ⟨X,h⟩
end Go.Proofs.YtgmppconibklcaaGreatDoor

namespace Go.Proofs.YtgmppconibklcaaGreatDoor
open Go Go.RowKit
def zlG (b:List UInt8) (w:World) (e:Ending) (w':World):Prop:=∃ v x y,e = .returned (.tuple #[v,.agg #[.int .i64 x,.int .i64 y]])∧(y==0)=(Dr.read b).isSome∧NdAt w' (Old w) v ((Dr.read b).getD Nd.nil)∧Below w.heap.size w w'
theorem z6j {B:Nat} {w w':World} {g:Nat} (h:Below B w w') (hg:B≤g) (c0 c1:Value):Below B w (World.set2 w' g c0 c1):=(h.setCell (p:=⟨g,0,none⟩) hg _).setCell (p:=⟨g,1,none⟩) hg _
theorem Blk.set2 {w:World} {g:Nat} {t:TypeId} {a0 a1:Value} (h:Blk w g t #[a0,a1]) (c0 c1:Value):Blk (World.set2 w g c0 c1) g t #[c0,c1]:=(h.set_ 0 c0).set_ 1 c1
theorem Blk.far5 {w:World} {g h:Nat} {t:TypeId} {cs:Array Value} (H:Blk w g t cs) (hne:g≠h) (c0 c1 c2 c3 c4:Value):Blk (World.set5 w h c0 c1 c2 c3 c4) g t cs:=((((H.far hne _).far hne _).far hne _).far hne _).far hne _
theorem Blk.far2 {w:World} {g h:Nat} {t:TypeId} {cs:Array Value} (H:Blk w g t cs) (hne:g≠h) (c0 c1:Value):Blk (World.set2 w h c0 c1) g t cs:=(H.far hne _).far hne _
theorem za1 {fn:Func} {s s2:Tmp} (hr:fn.results=#[.cell s 61,.cell s2 80]) (tmps:Array Value) (w:World) {P Q:Nat} {c0 c1 c2 c3 c4 d0 d1:Value} (hB:Blk w P 61 #[c0,c1,c2,c3,c4]) (hC:Blk w Q 80 #[d0,d1]) (h4:tmps[s]?.getD undef = .pointer (some ⟨P,0,none⟩)) (h5:tmps[s2]?.getD undef = .pointer (some ⟨Q,0,none⟩)):
  (results fn tmps).run Tryz.prog w = .ok (.tuple #[.agg #[c0,c1,c2,c3,c4],.agg #[d0,d1]]) w:=by
 obtain ⟨g0,g1,g2,g3,g4,_⟩:=hB.five;obtain ⟨f0,f1,_⟩:=hC.two;simp [results,hr,go_sem,h4,h5,g0,g1,g2,g3,g4,f0,f1]
theorem zgP (HN:∀ M,zcH M) (b:List UInt8) (A:Option Addr) (n c:Nat) (Av:Nat→Prop) (w:World) (h:Is w Av (.slice A n c) (z04 b)) (hn:n≤40000) (hT:Tabs w):
  Calls Tryz.prog 55 #[.slice A n c] w (zlG b w):=by
 have hmf:∀ (fn:Fn) (first cap:Array Value) (w:World),(Instr.makeFunc fn first cap).run Tryz.prog w = .ok (.func fn first cap) w:=fun _ _ _ _=>rfl
 have HNN:=Lib.hid HN;obtain ⟨V1,hV1⟩:∃ V,V=w.alloc (.cells #[.int .i64 0,.int .i64 0,.bool false,.slice none 0 0,.slice none 0 0] 61):=⟨_,rfl⟩;obtain ⟨V2,hV2⟩:∃ V,V=V1.alloc (.cells #[.int .i64 0,.int .i64 0] 80):=⟨_,rfl⟩;obtain ⟨V,hV⟩:∃ V,V=V2.alloc (.cells #[.slice A n c,.int .i64 0] 166):=⟨_,rfl⟩;have e1:V1.heap.size=w.heap.size+1:=by rw [hV1];simp [go_sem]
 have e2:V2.heap.size=w.heap.size+2:=by rw [hV2,World.size_alloc,e1]
 have hb:Below w.heap.size w V:=by rw [hV,hV2,hV1];exact (((Below.refl _ w).alloc (Nat.le_refl _) _).alloc (by simp) _).alloc (by simp;omega) _
 have hP:Blk V w.heap.size 61 #[.int .i64 0,.int .i64 0,.bool false,.slice none 0 0,.slice none 0 0]:=by rw [hV,hV2,hV1];exact ((Blk.new w _ _).alloc _).alloc _
 have hQ:Blk V (w.heap.size+1) 80 #[.int .i64 0,.int .i64 0]:=by rw [hV,hV2,←e1];exact (Blk.new V1 _ _).alloc _
 have hR:Blk V (w.heap.size+2) 166 #[.slice A n c,.int .i64 ((0:Nat):Int)]:=by rw [hV,←e2];exact Blk.new V2 _ _
 have hI:Is V (fun g=>g=w.heap.size+2) (.slice A n c) (z04 b):=((h.fresh (p:=fun g=>g=w.heap.size+2) (fun b hb=>by omega)).stays hb).less (fun b hb _=> .inr hb);have hnl:n=b.length:=by
  obtain ⟨A',c',e,_⟩:=h.bytes;injection e with _ e2 _
 have hcall:=HN (n+1) b A n c (w.heap.size+2) 0 n 1 V (by omega) hR hI hn (Nat.le_refl _) (Nat.zero_le _) (by decide) (fun w' hb'=>Utf8Tabs_below hT (hb.trans (hb'.mono (by omega))));have HCALL:=Lib.hid hcall;have HV1:=Lib.hid hV1;have HV2:=Lib.hid hV2;have HV:=Lib.hid hV;have HE1:=Lib.hid e1;have HE2:=Lib.hid e2;have HB:=Lib.hid hb;have HP:=Lib.hid hP;have HQ:=Lib.hid hQ;have HR:=Lib.hid hR;have HNL:=Lib.hid hnl;have hn2:(n:Int)≤40000:=by omega
 clear HN hcall hV1 hV2 hV e1 e2 hb hP hQ hR hI h hT hnl
 go_enter_defers Tryz.func55,Tryz.ntmps55
 go_upto_region 1 with fail
 rw [←HV1.out]
 go_upto_region 2 with fail
 rw [←HV2.out]
 go_upto_region 5 with fail
 rw [HE2.out,←HV.out]
 go_wp2_with fail
 refine HCALL.out.mono ?_;rintro e V3 ⟨hg3,hm3⟩;have hseg:(b.drop 0).take (n-0)=b:=by rw [List.drop_zero,Nat.sub_zero];exact List.take_of_length_le (by rw [HNL.out];exact Nat.le_refl _)
 rw [hseg] at hm3;have hrd:=Dr.zmQ b (by have:=HNL.out;omega);have HG3:=Lib.hid hg3;have HP3:Hid (Blk V3 w.heap.size 61 #[.int .i64 0,.int .i64 0,.bool false,.slice none 0 0,.slice none 0 0]):=HP.out.grown hg3 (fun e=>by injection e with e;omega);have HQ3:Hid (Blk V3 (w.heap.size+1) 80 #[.int .i64 0,.int .i64 0]):=HQ.out.grown hg3 (fun e=>by injection e with e;omega);have HB3:Hid (Below w.heap.size w V3):=HB.out.trans ⟨hg3.os,hg3.tape,hg3.output,hg3.size,fun k hk=>hg3.block k (by have:=HP.out.lt;omega) (fun e=>by injection e with e;omega)⟩;clear hg3 hseg;cases hr:Dr.rd 1 b with
 | none=>
  rw [hr] at hm3 hrd;obtain ⟨x,y,hy,rfl⟩:=hm3;have HRD:=Lib.hid hrd;have HY:=Lib.hid hy;clear hrd hr hy;refine leaves_cons (f:=109) (args:=#[.pointer (some ⟨w.heap.size,0,none⟩),.pointer (some ⟨w.heap.size+1,0,none⟩)]) (by simp) (by simp [go_sem]) ?_;refine (z7z _ _ x y [] V3 HP3.out HQ3.out (by omega)).mono ?_;rintro e u' w'' ⟨rfl,rfl,w1,hb1,rfl⟩;have hl:=HP3.out.lt;have hs1:=hb1.size;have hP1:=(HP3.out.below hb1 HP3.out.lt).set5 (.int .i64 0) (.int .i64 0) (.bool false) (.slice none 0 0) (.slice none 0 0);have hQ1:=((HQ3.out.below hb1 HQ3.out.lt).far5 (h:=w.heap.size) (by omega) (.int .i64 0) (.int .i64 0) (.bool false) (.slice none 0 0) (.slice none 0 0)).set2 (.int .i64 x) (.int .i64 y);refine ⟨_,za1 rfl _ _ (hP1.far2 (h:=w.heap.size+1) (by omega) _ _) hQ1 rfl rfl,_,x,y,rfl,?_,?_,?_⟩
  ·rw [HRD.out,HY.out];rfl
  ·rw [HRD.out];exact ⟨_,_,rfl,Is.z1U _ _,Is.z3e _ _⟩
  ·exact z6j (z0y (HB3.out.trans (hb1.mono (by omega))) (Nat.le_refl _) _ _ _ _ _) (Nat.le_succ _) _ _
 | some q=>
  obtain ⟨nd,k⟩:=q;rw [hr] at hm3 hrd;obtain ⟨v,rfl,hv,hb3⟩:=hm3;have hkn:=(Dr.rd_some hr).2.1;obtain ⟨Ab,cb,Ak,ck,rfl⟩:=hv.form;have HV3:=Lib.hid hv;have HR3:Hid (Blk V3 (w.heap.size+2) 166 #[.slice A n c,.int .i64 (k:Int)]):=by
   have e:(((0+k:Nat)):Int)=(k:Int):=by omega
   rw [e] at hb3;exact hb3
  have HRD:=Lib.hid hrd;have HKN:Hid (k≤n):=by have:=HNL.out;show k≤n;omega
  clear hv hb3 hrd hr hkn;obtain ⟨nb,hnb⟩:∃ nb,nb=nd.bytes.length:=⟨_,rfl⟩;obtain ⟨nk,hnk⟩:∃ nk,nk=nd.kids.length:=⟨_,rfl⟩;rw [←hnb,←hnk] at HV3 ⊢;clear hnb hnk;obtain ⟨p0,p1,p2,p3,p4,g0,g1,g2,g3,g4⟩:=HP3.out.five;obtain ⟨q0,q1,f0,f1⟩:=HQ3.out.two;obtain ⟨r0,r1,_,_⟩:=HR3.out.two;by_cases hlt:k<n
  ·have hd1:decide ((k:Int)<(n:Int))=true:=decide_eq_true (by omega);have hd2:decide (k<n)=true:=decide_eq_true hlt;have HN0:Hid (Dr.read b=none):=by show _=_;rw [HRD.out];exact if_pos (by have:=HNL.out;omega)
   clear hlt
   go_wp2_with fail
   go_region
   go_wp2_with fail
   refine leaves_cons (f:=109) (args:=#[.pointer (some ⟨w.heap.size,0,none⟩),.pointer (some ⟨w.heap.size+1,0,none⟩)]) (by simp) (by simp [go_sem]) ?_;refine (z5n _ _ _).mono ?_;rintro e u' w'' ⟨rfl,rfl,rfl⟩;have hl:=HP3.out.lt;have hP1:=(HP3.out.set5 (.int .i64 nd.cls) (.int .i64 nd.tag) (.bool nd.cons) (.slice Ab nb cb) (.slice Ak nk ck)).set5 (.int .i64 0) (.int .i64 0) (.bool false) (.slice none 0 0) (.slice none 0 0);have hQ1:=((HQ3.out.far5 (h:=w.heap.size) (by omega) (.int .i64 nd.cls) (.int .i64 nd.tag) (.bool nd.cons) (.slice Ab nb cb) (.slice Ak nk ck)).far5 (h:=w.heap.size) (by omega) (.int .i64 0) (.int .i64 0) (.bool false) (.slice none 0 0) (.slice none 0 0)).set2 (.int .i64 (k:Int)) (.int .i64 35);refine ⟨_,za1 rfl _ _ (hP1.far2 (h:=w.heap.size+1) (by omega) _ _).drew hQ1.drew rfl rfl,_,_,_,rfl,?_,?_,?_⟩
   ·rw [HN0.out];rfl
   ·rw [HN0.out];exact ⟨_,_,rfl,Is.z1U _ _,Is.z3e _ _⟩
   ·exact (z6j (z0y (z0y HB3.out (Nat.le_refl _) _ _ _ _ _) (Nat.le_refl _) _ _ _ _ _) (Nat.le_succ _) _ _).drew
  ·have hd1:decide ((k:Int)<(n:Int))=false:=decide_eq_false (by omega);have hd2:decide (k<n)=false:=decide_eq_false hlt;have HN0:Hid (Dr.read b=some nd):=by show _=_;rw [HRD.out];exact if_neg (by have:=HNL.out;omega)
   clear hlt
   go_wp2_with fail
   refine leaves_cons (f:=109) (args:=#[.pointer (some ⟨w.heap.size,0,none⟩),.pointer (some ⟨w.heap.size+1,0,none⟩)]) (by simp) (by simp [go_sem]) ?_;refine (z5n _ _ _).mono ?_;rintro e u' w'' ⟨rfl,rfl,rfl⟩;have hl:=HP3.out.lt;have hP1:=(HP3.out.set5 (.int .i64 nd.cls) (.int .i64 nd.tag) (.bool nd.cons) (.slice Ab nb cb) (.slice Ak nk ck)).set5 (.int .i64 nd.cls) (.int .i64 nd.tag) (.bool nd.cons) (.slice Ab nb cb) (.slice Ak nk ck);have hQ1:=((HQ3.out.far5 (h:=w.heap.size) (by omega) (.int .i64 nd.cls) (.int .i64 nd.tag) (.bool nd.cons) (.slice Ab nb cb) (.slice Ak nk ck)).far5 (h:=w.heap.size) (by omega) (.int .i64 nd.cls) (.int .i64 nd.tag) (.bool nd.cons) (.slice Ab nb cb) (.slice Ak nk ck)).set2 (.int .i64 0) (.int .i64 0);refine ⟨_,za1 rfl _ _ (hP1.far2 (h:=w.heap.size+1) (by omega) _ _) hQ1 rfl rfl,_,_,_,rfl,?_,?_,?_⟩
   ·rw [HN0.out];rfl
   ·rw [HN0.out];have h1:NdAt V3 (fun g=>g<w.heap.size+2) (.agg #[.int .i64 nd.cls,.int .i64 nd.tag,.bool nd.cons,.slice Ab nb cb,.slice Ak nk ck]) nd:=HV3.out.less (fun b hb _=>by have:=HR.out.lt;show b<V.heap.size;omega);have h2:=((h1.set5 (g:=w.heap.size) (by show _<_;omega) (.int .i64 nd.cls) (.int .i64 nd.tag) (.bool nd.cons) (.slice Ab nb cb) (.slice Ak nk ck)).set5 (g:=w.heap.size) (by show _<_;omega) (.int .i64 nd.cls) (.int .i64 nd.tag) (.bool nd.cons) (.slice Ab nb cb) (.slice Ak nk ck)).keep (Av':=fun g=>g<w.heap.size+2) (fun u d hu=>(hu.setCell (p:=⟨w.heap.size+1,0,none⟩) (Nat.lt_succ_self (w.heap.size+1)) (.int .i64 0)).setCell (p:=⟨w.heap.size+1,1,none⟩) (Nat.lt_succ_self (w.heap.size+1)) (.int .i64 0));exact h2.less (fun b hb _=>by have:b<w.heap.size:=hb;show b<w.heap.size+2;omega)
   ·exact z6j (z0y (z0y HB3.out (Nat.le_refl _) _ _ _ _ _) (Nat.le_refl _) _ _ _ _ _) (Nat.le_succ _) _ _
end Go.Proofs.YtgmppconibklcaaGreatDoor

