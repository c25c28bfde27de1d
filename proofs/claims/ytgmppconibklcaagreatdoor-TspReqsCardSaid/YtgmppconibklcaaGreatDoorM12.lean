/- Part of the proof. No condition. -/
import Derived.Test.YtgmppconibklcaaGreatDoorM11
import Derived.Deep.Cut
import Derived.Lib.SmallJoins
import Derived.Test.YtgmppconibklcaaGreatDoorProg
import Derived.Test.YtgmppconibklcaaGreatDoorM0
import Derived.Test.YtgmppconibklcaaGreatDoorM8
import Derived.WalkKit
import Derived.BigCall
import Derived.BigQuiet
import Derived.Outline
import Derived.Handy
set_option maxHeartbeats 40000000
set_option maxRecDepth 100000
set_option linter.unusedVariables false
set_option linter.unusedSimpArgs false
namespace Go.Proofs.YtgmppconibklcaaGreatDoor
open Go Go.RowKit
theorem z4U:(Tryz.prog.info? 5).map (fun i=>(i.zero,i.size,i.bytes))=some (some (.int .u8 0),1,1):=by kernel_rfl
theorem ziY:(Tryz.prog.info? 61).map (fun i=>(i.zero,i.size,i.bytes))=some (some (.agg #[.int .i64 0,.int .i64 0,.bool false,.slice none 0 0,.slice none 0 0]),5,72):=by kernel_rfl
theorem z4B (c t : Int) (k : Bool) (vb vk : Value) (w : World) :
    Calls Tryz.prog 143 #[.agg #[.int .i64 c, .int .i64 t, .bool k, vb, vk]] w fun e w' => e = .returned (.bool (Dr.may c t k)) ∧ Below w.heap.size w w' := by
  have hB : Below w.heap.size w (w.alloc (.cells #[.int .i64 c, .int .i64 t, .bool k, vb, vk] 61)) := (Below.refl _ w).alloc (Nat.le_refl _) _
  have HB := Lib.hid hB
  clear hB
  have hsf : ¬ (Dr.z2L t = true ∧ Dr.z1G t = true) := by
    rintro ⟨h1, h2⟩
    unfold Dr.z2L at h1
    simp only [Bool.or_eq_true, beq_iff_eq] at h1
    rcases h1 with h1 | h1 <;> (subst h1; revert h2; decide)
  by_cases ht0 : t < 0
  · have HR : Hid (Dr.may c t k = false) := by
      show _ = _
      unfold Dr.may
      rw [decide_eq_false (show ¬ 0 ≤ t by omega)]; rfl
    have h1 : decide (t < 0) = true := decide_eq_true ht0
    clear ht0 hsf
    go_enter Tryz.func143, Tryz.ntmps143
    go_wp2_with fail
    go_ret
    exact ⟨by rw [HR.out]; rfl, HB.out⟩
  by_cases ht1 : 30 < t
  · have HR : Hid (Dr.may c t k = false) := by
      show _ = _
      unfold Dr.may
      rw [decide_eq_false (show ¬ t ≤ 30 by omega), Bool.and_false]; rfl
    have h1 : decide (t < 0) = false := decide_eq_false ht0
    have h2 : decide (30 < t) = true := decide_eq_true ht1
    clear ht0 ht1 hsf
    go_enter Tryz.func143, Tryz.ntmps143
    go_wp2_with fail
    go_ret
    exact ⟨by rw [HR.out]; rfl, HB.out⟩
  have h1 : decide (t < 0) = false := decide_eq_false ht0
  have h2 : decide (30 < t) = false := decide_eq_false ht1
  have HT : Hid (Dr.may c t k = (c == 2 || c == 0 && (if k then Dr.z2L t else Dr.z1G t))) := by
    show _ = _
    unfold Dr.may
    rw [decide_eq_true (show 0 ≤ t by omega), decide_eq_true (show t ≤ 30 by omega)]; rfl
  clear ht0 ht1
  by_cases hc2 : c = 2
  · subst hc2
    clear hsf
    go_enter Tryz.func143, Tryz.ntmps143
    go_wp2_with fail
    go_ret
    exact ⟨by rw [HT.out]; rfl, HB.out⟩
  by_cases hc0 : c = 0
  · subst hc0
    clear hc2
    obtain ⟨a, ha⟩ : ∃ a, a = Dr.z2L t := ⟨_, rfl⟩
    obtain ⟨b, hb⟩ : ∃ b, b = Dr.z1G t := ⟨_, rfl⟩
    rw [← ha, ← hb] at hsf HT
    have HK : Hid (∀ w, Calls Tryz.prog 205 #[.int .i64 t] w fun e w' => e = .returned (.tuple #[.bool (a || b), .bool a]) ∧ w = w') := fun w => by rw [ha, hb]; exact zcn t w
    clear ha hb
    cases a <;> cases b <;> cases k
    all_goals first
      | (exact absurd ⟨rfl, rfl⟩ hsf)
      | (clear hsf
         go_enter Tryz.func143, Tryz.ntmps143
         go_wp2_with fail
         refine (HK.out _).mono ?_
         rintro e w' ⟨rfl, rfl⟩
         go_wp2_with fail
         go_ret
         exact ⟨by rw [HT.out]; rfl, HB.out⟩)
  · have e2 : (c == 2) = false := by rw [beq_eq_false_iff_ne]; exact hc2
    have e0 : (c == 0) = false := by rw [beq_eq_false_iff_ne]; exact hc0
    clear hc2 hc0 hsf
    go_enter Tryz.func143, Tryz.ntmps143
    go_wp2_with fail
    go_ret
    exact ⟨by rw [HT.out, e2, e0]; rfl, HB.out⟩
abbrev NoBl:Nat→Prop:=fun _=>False
def zNode:Array Value:=#[.int .i64 0,.int .i64 0,.bool false,.slice none 0 0,.slice none 0 0]
theorem Blk.five {w:World} {g:Nat} {t:TypeId} {c0 c1 c2 c3 c4:Value} (h:Blk w g t #[c0,c1,c2,c3,c4]):
  w.cell? ⟨g,0,none⟩=some c0∧w.cell? ⟨g,1,none⟩=some c1∧w.cell? ⟨g,2,none⟩=some c2∧w.cell? ⟨g,3,none⟩=some c3∧w.cell? ⟨g,4,none⟩=some c4 ∧
  w.frozen? ⟨g,0,none⟩=false∧w.frozen? ⟨g,1,none⟩=false∧w.frozen? ⟨g,2,none⟩=false∧w.frozen? ⟨g,3,none⟩=false∧w.frozen? ⟨g,4,none⟩=false:=
 ⟨by rw [h.cell];rfl,by rw [h.cell];rfl,by rw [h.cell];rfl,by rw [h.cell];rfl,by rw [h.cell];rfl,h.frozen 0,h.frozen 1,h.frozen 2,h.frozen 3,h.frozen 4⟩
abbrev World.set5 (w:World) (g:Nat) (c0 c1 c2 c3 c4:Value):World:=((((w.setCell ⟨g,0,none⟩ c0).setCell ⟨g,1,none⟩ c1).setCell ⟨g,2,none⟩ c2).setCell ⟨g,3,none⟩ c3).setCell ⟨g,4,none⟩ c4
theorem Blk.set5 {w:World} {g:Nat} {t:TypeId} {a0 a1 a2 a3 a4:Value} (h:Blk w g t #[a0,a1,a2,a3,a4]) (c0 c1 c2 c3 c4:Value):Blk (World.set5 w g c0 c1 c2 c3 c4) g t #[c0,c1,c2,c3,c4]:=
 ((((h.set_ 0 c0).set_ 1 c1).set_ 2 c2).set_ 3 c3).set_ 4 c4
theorem z0y {B:Nat} {a w:World} (h:Below B a w) {g:Nat} (hg:B≤g) (c0 c1 c2 c3 c4:Value):Below B a (World.set5 w g c0 c1 c2 c3 c4):=
 ((((h.setCell (p:=⟨g,0,none⟩) hg c0).setCell (p:=⟨g,1,none⟩) hg c1).setCell (p:=⟨g,2,none⟩) hg c2).setCell (p:=⟨g,3,none⟩) hg c3).setCell (p:=⟨g,4,none⟩) hg c4
theorem Is.set5 {w:World} {Av:Nat→Prop} {v:Value} {d:D} {g:Nat} (h:Is w Av v d) (hg:Av g) (c0 c1 c2 c3 c4:Value):Is (World.set5 w g c0 c1 c2 c3 c4) Av v d:=
 ((((h.setCell (p:=⟨g,0,none⟩) hg c0).setCell (p:=⟨g,1,none⟩) hg c1).setCell (p:=⟨g,2,none⟩) hg c2).setCell (p:=⟨g,3,none⟩) hg c3).setCell (p:=⟨g,4,none⟩) hg c4
theorem Is.any {w:World} {Av:Nat→Prop} {v:Value} {d:D} (h:Is w Av v d):Is w NoBl v d:=h.less (fun _ h _=>h.elim)
abbrev Old (w:World):Nat→Prop:=fun g=>g<w.heap.size
theorem z2h {fn:Func} {s:Tmp} (hr:fn.results=#[.cell s 61]) (tmps:Array Value) (w:World) {P:Nat} {c0 c1 c2 c3 c4:Value} (hB:Blk w P 61 #[c0,c1,c2,c3,c4]) (h4:tmps[s]?.getD undef = .pointer (some ⟨P,0,none⟩)):
  (results fn tmps).run Tryz.prog w = .ok (.agg #[c0,c1,c2,c3,c4]) w:=by
 obtain ⟨g0,g1,g2,g3,g4,_⟩:=hB.five;simp [results,hr,go_sem,h4,g0,g1,g2,g3,g4]
theorem z1d (t:Int) (A:Option Addr) (n c:Nat) (b:List UInt8) (Av:Nat→Prop) (w:World) (h:Is w Av (.slice A n c) (z04 b)) (hz:n≤100000000):
  Calls Tryz.prog 34 #[.int .i64 t,.slice A n c] w fun e w'=>∃ v,e = .returned v∧NdAt w' (Old w) v (Dr.prim t b)∧Below w.heap.size w w':=by
 obtain ⟨i0,hi,hz0,hz1,hz2⟩:=info_parts z4U;obtain ⟨A',c',e,hc,hr,_⟩:=h.bytes;injection e with e1 e2 e3;subst e1 e2 e3;have HR:=Lib.hid hr;obtain ⟨V,hV⟩:∃ V,V=w.alloc (.cells #[.int .i64 0,.int .i64 0,.bool false,.slice none 0 0,.slice none 0 0] 61):=⟨_,rfl⟩;have HB:Hid (Below w.heap.size w V):=by show Below _ _ _;rw [hV];exact (Below.refl _ w).alloc (Nat.le_refl _) _
 have HK:Hid (Blk V w.heap.size 61 #[.int .i64 0,.int .i64 0,.bool false,.slice none 0 0,.slice none 0 0]):=by show Blk _ _ _ _;rw [hV];exact Blk.new w _ _
 have hsz:=HB.out.size;have HV:=Lib.hid hV;clear h hr hV;go_enter Tryz.func34,Tryz.ntmps34
 go_upto_region 1 with fail
 rw [←HV.out]
 go_wp2_with (refine z57 rfl (.tmp 6) 22 rfl i0 Tryz.underlying22 hi hz0 hz1 hz2 _ _ _ _ b rfl (HR.out.below HB.out) hz ?_;intro A2 c2 w2 hc2 ho2 hb2;have Hk2:=Lib.hid (HK.out.below hb2 HK.out.lt);have Hb2:=Lib.hid hb2;have Ho2:=Lib.hid ho2;obtain ⟨q0,q1,q2,q3,q4,f0,f1,f2,f3,f4⟩:=Hk2.out.five;clear hb2 ho2 hc2)
 refine bodyPost_ret (z2h Tryz.results34 _ _ (Hk2.out.set5 _ _ _ _ _) rfl) rfl ⟨_,rfl,⟨_,_,rfl,?_,Is.z3e _ _⟩,?_⟩
 ·exact ((z1x (Av:=Old V) Ho2.out (fun g hg=>hg)).set5 HK.out.lt _ _ _ _ _).less (fun b hb _=>Nat.lt_of_lt_of_le hb hsz)
 ·exact z0y (HB.out.trans (Hb2.out.mono hsz)) (Nat.le_refl _) _ _ _ _ _
end Go.Proofs.YtgmppconibklcaaGreatDoor

namespace Go.Proofs.YtgmppconibklcaaGreatDoor
open Go Go.RowKit
theorem z0n {w w':World} {p:Addr} {v:Value} (hb:Below w.heap.size w w') (h:w.cell? p=some v):w'.cell? p=some v:=(hb.cell (World.block_lt_of_cell? w p h)).trans h
theorem z2I {l:List Nd} {k:Nat} (h:k<l.length):Dr.wt l[k]≤Dr.wts l:=by
 induction l generalizing k with
 | nil=>simp at h
 | cons n l ih=>
  rw [Dr.wts];match k,h with
  | 0,_=>simp
  | k+1,h=>have:=ih (k:=k) (by simpa using h);simp only [List.getElem_cons_succ];omega
theorem z1E (l:List Nd):10*l.length≤Dr.wts l:=by
 induction l with
 | nil=>simp
 | cons n l ih=>
  have:10≤Dr.wt n:=by cases n;rw [Dr.wt];omega
  rw [Dr.wts,List.length_cons];omega
theorem z0W (n:Nd):Dr.wt n=n.bytes.length+10+Dr.wts n.kids:=by cases n;rw [Dr.wt];rfl
theorem z0z.step {w w':World} {v v':Value} {xs us:List Value} {ds es:List D} {O:Nat→Prop}
  (h:z0z w (fun g=>O g∨v.ownBlock=some g) xs ds) (k:z0z w (fun g=>O g∨v.ownBlock=some g) us es)
  (hg:w.grownBy w' v.ownBlock) (hv:∀ g,v'.ownBlock=some g→v.ownBlock=some g∨w.heap.size≤g):z0z w' (fun g=>O g∨v'.ownBlock=some g) (xs++us) (ds++es):=by
 have key:∀ (u:Value) (d:D),Is w (fun g=>O g∨v.ownBlock=some g) u d→Is w' (fun g=>O g∨v'.ownBlock=some g) u d:=by
  intro u d hu;refine hu.keep (fun p x hp hc=>hg.cell hc (fun e=>hp (.inr e.symm))) (fun b hb hlt=>?_);rcases hb with hb|hb
  ·exact .inl hb
  ·rcases hv b hb with h|h
   ·exact .inr h
   ·omega
 exact (h.keep key).app (k.keep key)
theorem zgR (m:Nat):∀ (l:List Nd) (A:Option Addr) (n c:Nat) (Av:Nat→Prop) (w:World),Dr.wts l≤m→Dr.wts l≤10000000→Is w Av (.slice A n c) (ndsD l) →
  Calls Tryz.prog 76 #[.slice A n c] w fun e w'=>∃ v,e = .returned v∧Is w' (Old w) v (ndsD l)∧Below w.heap.size w w':=by
 induction m with
 | zero=>
  intro l A n c Av w hm hz h;have h0:l=[]:=by
   have:=z1E l;exact List.eq_nil_of_length_eq_zero (by omega)
  subst h0;obtain ⟨A',c',e,hc,_⟩:=h.nodes;injection e with e1 e2 e3;subst e1 e2 e3;go_enter Tryz.func76,Tryz.ntmps76
  go_wp2_with fail
  go_loopw [3,8] (fun t3 t8 wr=>t3 = .slice none 0 0∧t8 = .int .i64 0∧wr=w) (fun _ _ _=>0)
  case atStart=>exact ⟨rfl,rfl,rfl⟩
  case round=>
   obtain ⟨rfl,rfl,rfl⟩:=hrel
   go_wp2_with fail
   go_ret
   exact ⟨_,rfl,Is.z3e _ _,Below.refl _ _⟩
 | succ m ih=>
  intro l A n c Av w hm hz h;obtain ⟨A',c',e,hc,hel⟩:=h.nodes;injection e with e1 e2 e3;subst e1 e2 e3;obtain ⟨n,hn⟩:∃ n,n=l.length:=⟨_,rfl⟩;have hn9:n≤1000000:=by have:=z1E l;omega
  rw [←hn];have HEL:=Lib.hid hel;have Hn:=Lib.hid hn;have IH:=Lib.hid ih;have HM:Hid (Dr.wts l≤m+1∧Dr.wts l≤10000000):=⟨hm,hz⟩;obtain ⟨i8,hi8,hz80,hz81,hz82⟩:=info_parts z4U;obtain ⟨i5,hi5,hz50,hz51,hz52⟩:=info_parts ziY;clear h hel hn hm hz hc ih;go_enter Tryz.func76,Tryz.ntmps76
  go_wp2_with fail
  go_loopw [3,8] (fun t3 t8 wr=>∃ (i:Nat) (xs:List Value),t8 = .int .i64 i∧i≤n∧Hid (wr.ownsRow w.heap.size 61 5 t3 i xs∧z0z wr (fun g=>g<w.heap.size∨t3.ownBlock=some g) xs ((l.take i).flatMap Nd.cells)∧Below w.heap.size w wr)) (fun _ t8 _=>n-(intOf t8).toNat)
  case atStart=>exact ⟨0,[],rfl,Nat.zero_le _,World.ownsRow_nil _ _ _ _,.nil_,Below.refl _ _⟩
  case round=>
   obtain ⟨i,xs,rfl,hi,HI⟩:=hrel;by_cases hin:i<n
   ·have hin1:decide ((i:Int)<(n:Int))=true:=decide_eq_true (by omega);have hil:i<l.length:=by rw [←Hn.out];exact hin
    obtain ⟨g,o,vb,vk,rfl,_,hgw,k0,k1,k2,k3,k4,kb,kk⟩:=HEL.out i hil;obtain ⟨x,hx⟩:∃ x,x=l[i]'hil:=⟨_,rfl⟩;rw [←hx] at k0 k1 k2 kb kk;obtain ⟨Ab,cb,eb,hcb,hrb,_⟩:=kb.bytes;obtain ⟨Ak,ck,ek,hck,_⟩:=kk.nodes;subst eb ek;have hbw:=HI.out.2.2;have c0:=z0n hbw k0;have c1:=z0n hbw k1;have c2:=z0n hbw k2;have c3:=z0n hbw k3;have c4:=z0n hbw k4;have HX:=Lib.hid hx;clear hbw k0 k1 k2 k3 k4 hx;obtain ⟨nb,hnb⟩:∃ nb,nb=x.bytes.length:=⟨_,rfl⟩;obtain ⟨nk,hnk⟩:∃ nk,nk=x.kids.length:=⟨_,rfl⟩;have HNB:Hid (nb=x.bytes.length∧nk=x.kids.length):=⟨hnb,hnk⟩;have hwt:Dr.wt x≤Dr.wts l:=by rw [HX.out];exact z2I hil
    have hwx:=z0W x;have hnb9:nb≤10000000:=by have:=HM.out.2;omega
    have HKW:Hid (Dr.wts x.kids≤m∧Dr.wts x.kids≤10000000):=by have h1:=HM.out.1;have h2:=HM.out.2;exact ⟨by omega,by omega⟩
    rw [←hnb] at c3 hrb hcb;rw [←hnk] at c4 hck;obtain ⟨V1,hV1⟩:∃ V,V=wr.alloc (.cells #[.int .i64 x.cls,.int .i64 x.tag,.bool x.cons,.slice Ab nb cb,.slice Ak nk ck] 61):=⟨_,rfl⟩;have HB1:Hid (Below wr.heap.size wr V1):=by show Below _ _ _;rw [hV1];exact (Below.refl _ wr).alloc (Nat.le_refl _) _
    have HK1:Hid (Blk V1 wr.heap.size 61 #[.int .i64 x.cls,.int .i64 x.tag,.bool x.cons,.slice Ab nb cb,.slice Ak nk ck]):=by show Blk _ _ _ _;rw [hV1];exact Blk.new wr _ _
    have HV1:=Lib.hid hV1;have HRB:Hid (Reads V1 w.heap.size 1 Ab nb (Lib.byteCells x.bytes)):=by
     have h1:Reads w w.heap.size 1 Ab nb (Lib.byteCells x.bytes):=hrb;have h2:=HI.out.2.2;exact (h1.below h2).below (HB1.out.mono h2.size)
    have HKK:=Lib.hid kk;clear hV1 hnb hnk hwt hwx kb kk hrb hcb hck
    go_upto_region 5 with fail
    rw [←HV1.out];obtain ⟨q0,q1,q2,q3,q4,f0,f1,f2,f3,f4⟩:=HK1.out.five
    go_wp2_with (refine z57 rfl (.tmp 13) 22 rfl i8 Tryz.underlying22 hi8 hz80 hz81 hz82 _ _ _ _ x.bytes rfl HRB.out (by omega) ?_;intro A2 c2 V2 hc2 ho2 hb2;have HB2:=Lib.hid hb2;have HO2:=Lib.hid ho2;have HK2:=Lib.hid (HK1.out.below hb2 HK1.out.lt);clear q0 q1 q2 q3 q4 f0 f1 f2 f3 f4;obtain ⟨q0,q1,q2,q3,q4,f0,f1,f2,f3,f4⟩:=HK2.out.five;clear hb2 ho2)
    obtain ⟨V3,hV3⟩:∃ V,V=V2.setCell ⟨wr.heap.size,3,none⟩ (.slice A2 nb c2):=⟨_,rfl⟩;have HB3:Hid (Below wr.heap.size wr V3):=by show Below _ _ _;rw [hV3];exact (HB1.out.trans (HB2.out.mono HB1.out.size)).setCell (p:=⟨wr.heap.size,3,none⟩) (Nat.le_refl _) _
    have HK3:Hid (Blk V3 wr.heap.size 61 #[.int .i64 x.cls,.int .i64 x.tag,.bool x.cons,.slice A2 nb c2,.slice Ak nk ck]):=by show Blk _ _ _ _;rw [hV3];exact HK2.out.set_ 3 _
    have HD3:Hid (Is V3 (fun g=>g<wr.heap.size∨g=wr.heap.size) (.slice A2 nb c2) (z04 x.bytes)):=by
     show Is _ _ _ _;rw [hV3];exact (z1x HO2.out (fun g hg=>by have h1:=HK1.out.lt;rcases hg with hg|hg<;>omega)).setCell (p:=⟨wr.heap.size,3,none⟩) (.inr rfl) _
    have HV3:=Lib.hid hV3;rw [←hV3];clear hV3 q0 q1 q2 q3 q4 f0 f1 f2 f3 f4;refine (IH.out x.kids Ak nk ck Av V3 HKW.out.1 HKW.out.2 ?_).mono ?_
    ·have:=(HKK.out.stays HI.out.2.2).stays HB3.out;rw [←HNB.out.2] at this;exact this
    rintro e V4 ⟨v4,rfl,h4,hb4⟩;obtain ⟨A4,c4',e4,_,_⟩:=h4.nodes;subst e4;rw [←HNB.out.2] at h4 ⊢;have HD4:=Lib.hid h4;have HB4:=Lib.hid hb4;have HK4:=Lib.hid (HK3.out.below hb4 HK3.out.lt);obtain ⟨q0,q1,q2,q3,q4,f0,f1,f2,f3,f4⟩:=HK4.out.five;clear h4 hb4
    go_upto_region 7 with fail
    obtain ⟨V5,hV5⟩:∃ V,V=V4.setCell ⟨wr.heap.size,4,none⟩ (.slice A4 nk c4'):=⟨_,rfl⟩;have HB5:Hid (Below wr.heap.size wr V5):=by show Below _ _ _;rw [hV5];exact (HB3.out.trans (HB4.out.mono HB3.out.size)).setCell (p:=⟨wr.heap.size,4,none⟩) (Nat.le_refl _) _
    have HK5:Hid (Blk V5 wr.heap.size 61 #[.int .i64 x.cls,.int .i64 x.tag,.bool x.cons,.slice A2 nb c2,.slice A4 nk c4']):=by show Blk _ _ _ _;rw [hV5];exact HK4.out.set_ 4 _
    have HA5:Hid (z0z V5 (fun g=>g<w.heap.size∨u3.ownBlock=some g) [.int .i64 x.cls,.int .i64 x.tag,.bool x.cons,.slice A2 nb c2,.slice A4 nk c4'] x.cells):=by
     have hlt:∀ g,(g<w.heap.size∨u3.ownBlock=some g)→g<wr.heap.size:=fun g hg=>by
      rcases hg with hg|hg
      ·have:=HI.out.2.2.size;omega
      ·exact (HI.out.1.lt g hg).2
     have d3:Is V5 (fun g=>g<wr.heap.size∨g=wr.heap.size) (.slice A2 nb c2) (z04 x.bytes):=by
      rw [hV5];exact (HD3.out.stays HB4.out).setCell (p:=⟨wr.heap.size,4,none⟩) (.inr rfl) _
     have d4:Is V5 (Old V3) (.slice A4 nk c4') (ndsD x.kids):=by
      rw [hV5];exact HD4.out.setCell (p:=⟨wr.heap.size,4,none⟩) (show wr.heap.size<V3.heap.size from HK3.out.lt) _
     exact NdAt.all (d3.less (fun b hb _=> .inl (hlt b hb))) (d4.less (fun b hb _=>Nat.lt_of_lt_of_le (hlt b hb) HB3.out.size))
    have HV5:=Lib.hid hV5;rw [←hV5];clear hV5 q0 q1 q2 q3 q4 f0 f1 f2 f3 f4;obtain ⟨q0,q1,q2,q3,q4,f0,f1,f2,f3,f4⟩:=HK5.out.five;have hbase:w.heap.size≤V5.heap.size:=by have h1:=HI.out.2.2.size;have h2:=HB5.out.size;omega
    go_wp2_with (refine z6p rfl (.tmp 20) (.tmp 22) 59 61 rfl w.heap.size i5 _ 5 72 Tryz.underlying59 hi5 hz50 hz51 hz52 rfl (by decide) u3 i xs rfl (z1y HI.out.1 HB5.out) [.int .i64 x.cls,.int .i64 x.tag,.bool x.cons,.slice A2 nb c2,.slice A4 nk c4'] rfl (by intro u hu;simp at hu;rcases hu with rfl|rfl|rfl|rfl|rfl<;>rfl) 1 rfl (by omega) (by decide) hbase ?_;intro v6 V6 o6 g6 k6)
    refine ⟨⟨i+1,_,by go_num,by omega,o6,?_,?_⟩,by simp [intOf];omega⟩
    ·have e:l.take (i+1)=l.take i++[x]:=by rw [List.take_succ_eq_append_getElem hil,HX.out]
     rw [e,Nd.z6h];exact z0z.step (O:=fun g=>g<w.heap.size) (HI.out.2.1.keep fun u d hu=>hu.stays HB5.out) HA5.out g6 k6
    ·exact (HI.out.2.2.trans (HB5.out.mono HI.out.2.2.size)).grown g6 hbase (fun k hk=>(HI.out.1.lt k hk).1)
   ·have hin1:decide ((i:Int)<(n:Int))=false:=decide_eq_false (by omega);have hin2:decide (i<n)=false:=decide_eq_false hin;obtain rfl:i=n:=by omega
    clear hin
    go_wp2_with fail
    go_ret
    have e:l.take i=l:=List.take_of_length_le (by rw [←Hn.out];exact Nat.le_refl _);have ho:=HI.out.2.1;rw [e] at ho;refine ⟨_,rfl,zbL HI.out.1 (ho.keep fun u d hu=>hu.less (fun b hb _=> .inl hb)) ?_ (by decide) (fun g hg=>hg),HI.out.2.2⟩;rw [z1H Nd.z1Z,Hn.out]
theorem z8a (c t:Int) (l:List Nd) (A:Option Addr) (n cp:Nat) (Av:Nat→Prop) (w:World) (hz:Dr.wts l≤10000000) (h:Is w Av (.slice A n cp) (ndsD l)):
  Calls Tryz.prog 35 #[.int .i64 c,.int .i64 t,.slice A n cp] w fun e w'=>∃ v,e = .returned v∧NdAt w' (Old w) v (.mk c t true [] l)∧Below w.heap.size w w':=by
 have H:=Lib.hid h;obtain ⟨V,hV⟩:∃ V,V=w.alloc (.cells #[.int .i64 0,.int .i64 0,.bool false,.slice none 0 0,.slice none 0 0] 61):=⟨_,rfl⟩;have HB:Hid (Below w.heap.size w V):=by show Below _ _ _;rw [hV];exact (Below.refl _ w).alloc (Nat.le_refl _) _
 have HK:Hid (Blk V w.heap.size 61 #[.int .i64 0,.int .i64 0,.bool false,.slice none 0 0,.slice none 0 0]):=by show Blk _ _ _ _;rw [hV];exact Blk.new w _ _
 have hsz:=HB.out.size;have HV:=Lib.hid hV;clear h hV;go_enter Tryz.func35,Tryz.ntmps35
 go_upto_region 1 with fail
 rw [←HV.out]
 go_wp2_with fail
 refine (zgR _ l A n cp Av V (Nat.le_refl _) hz (H.out.stays HB.out)).mono ?_;rintro e w2 ⟨v,rfl,h2,hb2⟩;obtain ⟨A2,c2,rfl,_,_⟩:=h2.nodes;have H2:=Lib.hid h2;have HB2:=Lib.hid hb2;have HK2:=Lib.hid (HK.out.below hb2 HK.out.lt);obtain ⟨q0,q1,q2,q3,q4,f0,f1,f2,f3,f4⟩:=HK2.out.five;clear h2 hb2
 go_wp2_with fail
 refine bodyPost_ret (z2h Tryz.results35 _ _ (HK2.out.set5 _ _ _ _ _) rfl) rfl ⟨_,rfl,⟨_,_,rfl,Is.z1U _ _,?_⟩,?_⟩
 ·exact (H2.out.set5 HK.out.lt _ _ _ _ _).less (fun b hb _=>Nat.lt_of_lt_of_le hb hsz)
 ·exact z0y (HB.out.trans (HB2.out.mono hsz)) (Nat.le_refl _) _ _ _ _ _
theorem NdAt.form {w:World} {Av:Nat→Prop} {v:Value} {n:Nd} (h:NdAt w Av v n):∃ A c A2 c2,v = .agg #[.int .i64 n.cls,.int .i64 n.tag,.bool n.cons,.slice A n.bytes.length c,.slice A2 n.kids.length c2]:=by
 obtain ⟨vb,vk,rfl,hb,hk⟩:=h.ex;obtain ⟨A,c,rfl,_⟩:=hb.bytes;obtain ⟨A2,c2,rfl,_⟩:=hk.nodes;exact ⟨A,c,A2,c2,rfl⟩
theorem NdAt.set5 {w:World} {Av:Nat→Prop} {v:Value} {n:Nd} {g:Nat} (h:NdAt w Av v n) (hg:Av g) (c0 c1 c2 c3 c4:Value):NdAt (World.set5 w g c0 c1 c2 c3 c4) Av v n:=h.keep fun _ _ h=>h.set5 hg _ _ _ _ _
theorem NdAt.less {w:World} {Av Av':Nat→Prop} {v:Value} {n:Nd} (h:NdAt w Av v n) (ha:∀ b,Av' b→b<w.heap.size→Av b):NdAt w Av' v n:=h.keep fun _ _ h=>h.less ha
theorem z8J (l:List Nd) (A:Option Addr) (n cp:Nat) (Av:Nat→Prop) (w:World) (hz:Dr.wts l≤10000000) (h:Is w Av (.slice A n cp) (ndsD l)):
  Calls Tryz.prog 30 #[.slice A n cp] w fun e w'=>∃ v,e = .returned v∧NdAt w' (Old w) v (Dr.seq l)∧Below w.heap.size w w':=by
 have H:=Lib.hid h;obtain ⟨V,hV⟩:∃ V,V=w.alloc (.cells #[.int .i64 0,.int .i64 0,.bool false,.slice none 0 0,.slice none 0 0] 61):=⟨_,rfl⟩;have HB:Hid (Below w.heap.size w V):=by show Below _ _ _;rw [hV];exact (Below.refl _ w).alloc (Nat.le_refl _) _
 have HK:Hid (Blk V w.heap.size 61 #[.int .i64 0,.int .i64 0,.bool false,.slice none 0 0,.slice none 0 0]):=by show Blk _ _ _ _;rw [hV];exact Blk.new w _ _
 have hsz:=HB.out.size;have HV:=Lib.hid hV;clear h hV;go_enter Tryz.func30,Tryz.ntmps30
 go_upto_region 1 with fail
 rw [←HV.out]
 go_wp2_with fail
 refine (z8a 0 16 l A n cp Av V hz (H.out.stays HB.out)).mono ?_;rintro e w2 ⟨v,rfl,h2,hb2⟩;have H2:=Lib.hid h2;obtain ⟨A1,c1,A2,c2,rfl⟩:=h2.form;have HB2:=Lib.hid hb2;have HK2:=Lib.hid (HK.out.below hb2 HK.out.lt);obtain ⟨q0,q1,q2,q3,q4,f0,f1,f2,f3,f4⟩:=HK2.out.five;clear h2 hb2
 go_wp2_with fail
 refine bodyPost_ret (z2h Tryz.results30 _ _ (HK2.out.set5 _ _ _ _ _) rfl) rfl ⟨_,rfl,?_,?_⟩
 ·exact (H2.out.set5 HK.out.lt _ _ _ _ _).less (fun b hb _=>Nat.lt_of_lt_of_le hb hsz)
 ·exact z0y (HB.out.trans (HB2.out.mono hsz)) (Nat.le_refl _) _ _ _ _ _
end Go.Proofs.YtgmppconibklcaaGreatDoor

namespace Go.Proofs.YtgmppconibklcaaGreatDoor
open Go Go.RowKit
def lenV:Value→Nat
 | .slice _ n _=>n
 | _=>0
theorem zgT (n:Int) (w:World) (h0: -9223372036854775808≤n) (h1:n≤9223372036854775807):
  Calls Tryz.prog 31 #[.int .i64 n] w fun e w'=>∃ v,e = .returned v∧NdAt w' (Old w) v (Dr.intN n)∧Below w.heap.size w w':=by
 obtain ⟨i8,hi8,hz80,hz81,hz82⟩:=info_parts z4U;obtain ⟨V,hV⟩:∃ V,V=w.alloc (.cells #[.int .i64 0,.int .i64 0,.bool false,.slice none 0 0,.slice none 0 0] 61):=⟨_,rfl⟩;have HB:Hid (Below w.heap.size w V):=by show Below _ _ _;rw [hV];exact (Below.refl _ w).alloc (Nat.le_refl _) _
 have HK:Hid (Blk V w.heap.size 61 #[.int .i64 0,.int .i64 0,.bool false,.slice none 0 0,.slice none 0 0]):=by show Blk _ _ _ _;rw [hV];exact Blk.new w _ _
 have hsz:=HB.out.size;have HV:=Lib.hid hV;clear hV;go_enter Tryz.func31,Tryz.ntmps31
 go_wp2_with fail
 rw [←HV.out]
 go_loopw [3,4] (fun t3 t4 wr=>∃ (j:Nat),t4 = .int .i64 (7-(j:Int))∧j≤8∧Hid (wr.ownsRow V.heap.size 5 1 t3 j (Lib.byteCells ((Dr.eight n).take j))∧Below V.heap.size V wr)) (fun _ t4 _=>(intOf t4+1).toNat)
 case atStart=>exact ⟨0,rfl,Nat.zero_le _,World.ownsRow_nil _ _ _ _,Below.refl _ _⟩
 case round=>
  obtain ⟨j,rfl,hj,HI⟩:=hrel;by_cases hj8:j<8
  ·have hd:decide ((0:Int)≤7-(j:Int))=true:=decide_eq_true (by omega);obtain ⟨cc,hcc⟩:∃ cc:UInt8,cc=UInt8.ofNat (n / 2^(8*(7-j))%256).toNat:=⟨_,rfl⟩;have hcn:n / 2^(8*(7-j))%256=(cc.toNat:Int):=by
    rw [hcc,UInt8.toNat_ofNat'];have a1:=Int.emod_nonneg (n / 2^(8*(7-j))) (show (256:Int)≠0 by decide);have a2:=Int.emod_lt_of_pos (n / 2^(8*(7-j))) (show (0:Int)<256 by decide);omega
   have HT:Hid ((Dr.eight n).take (j+1)=(Dr.eight n).take j++[cc]):=by
    have hl:j<(Dr.eight n).length:=by simp [Dr.eight];omega
    show _=_;rw [List.take_succ_eq_append_getElem hl,hcc];simp [Dr.eight]
   have HL:Hid (((Dr.eight n).take j).length=j):=by show _=_;simp [Dr.eight];omega
   have HO:Hid (wr.ownsRow V.heap.size 5 1 u3 ((Dr.eight n).take j).length (Lib.byteCells ((Dr.eight n).take j))):=by
    show wr.ownsRow _ _ _ _ _ _;rw [HL.out];exact HI.out.1
   have HCN:=Lib.hid hcn;have hvs:=HI.out.2.size;clear hcc hcn
   go_wp2_with (refine z10 rfl (.tmp 9) (.tmp 15) 22 rfl V.heap.size i8 Tryz.underlying22 hi8 hz80 hz81 hz82 u3 _ rfl HO.out _ cc HCN.out 1 rfl (by rw [HL.out];omega) hvs ?_;intro v6 V6 ab)
   refine ⟨⟨j+1,by congr 1;omega,by omega,?_,?_⟩,by simp [intOf];omega⟩
   ·have:=ab.own;rw [←HT.out] at this;have e:((Dr.eight n).take (j+1)).length=j+1:=by simp [Dr.eight];omega
    rwa [e] at this
   ·exact HI.out.2.trans ((ab.below HO.out hvs))
  ·have hd:decide ((0:Int)≤7-(j:Int))=false:=decide_eq_false (by omega);obtain rfl:j=8:=by omega
   clear hj8 hj
   go_wp2_with fail
   have H8:Hid ((Dr.eight n).take 8=Dr.eight n∧(Dr.eight n).length=8):=⟨List.take_of_length_le (by simp [Dr.eight]),by simp [Dr.eight]⟩;obtain ⟨A0,c0,rfl,hr0⟩:=z0P HI.out.1;have HI0:Hid (Is wr (Old V) (.slice A0 8 c0) (z04 (Dr.eight n))):=by
    have:=z1x (Av:=Old V) HI.out.1 (fun g hg=>hg);rw [H8.out.1] at this;exact this
   clear hr0
   go_loopw [3] (fun t3 wx=>∃ (A:Option Addr) (m c:Nat) (L:List UInt8),t3 = .slice A m c∧m≤8∧wx=wr∧Hid (Is wr (Old V) (.slice A m c) (z04 L)∧L≠[]∧Dr.strip L=Dr.strip (Dr.eight n))) (fun t3 _=>lenV t3)
   case atStart=>exact ⟨A0,8,c0,_,rfl,by omega,rfl,HI0.out,(by intro h;have:=H8.out.2;rw [h] at this;cases this),rfl⟩
   case round=>
    obtain ⟨A,m,c,L,rfl,hm8,rfl,HL⟩:=hrel
    go_wp2_with fail
    refine (z4p A m c L _ _ HL.out.1).mono ?_;rintro e wy ⟨rfl,rfl⟩;cases hl:Dr.least L with
    | true=>
     have HS:Hid (L=Dr.intB n):=by
      have h1:=HL.out.2.2;have h2:Dr.strip L=L:=by
       match L,hl with
       | a::t,hl=>rw [Dr.strip,if_pos hl]
      show _=_;rw [←h2,h1];rfl
     go_wp2_with fail
     refine (z1d 2 A m c L _ _ HL.out.1 (by omega)).mono ?_;rintro e w9 ⟨v,rfl,h9,hb9⟩;rw [HS.out] at h9;have H9:=Lib.hid h9;obtain ⟨A1,c1,A2,c2,rfl⟩:=h9.form;have HB9:=Lib.hid (HI.out.2.trans (hb9.mono HI.out.2.size));have HK9:=Lib.hid (HK.out.below HB9.out HK.out.lt);obtain ⟨q0,q1,q2,q3,q4,f0,f1,f2,f3,f4⟩:=HK9.out.five;have hws:w.heap.size≤wr.heap.size:=by have h3:=HI.out.2.size;omega
     clear h9 hb9
     go_wp2_with fail
     refine bodyPost_ret (z2h Tryz.results31 _ _ (HK9.out.set5 _ _ _ _ _) rfl) rfl ⟨_,rfl,?_,?_⟩
     ·exact (H9.out.set5 (by have h4:=HK.out.lt;have h3:=HI.out.2.size;show w.heap.size<_;omega) _ _ _ _ _).less (fun b hb _=>Nat.lt_of_lt_of_le hb hws)
     ·exact z0y (HB.out.trans (HB9.out.mono hsz)) (Nat.le_refl _) _ _ _ _ _
    | false=>
     obtain ⟨x,y,t,rfl⟩:∃ x y t,L=x::y::t:=by
      match L,hl,HL.out.2.1 with
      | [x],hl,_=>cases hl
      | x::y::t,_,_=>exact ⟨x,y,t,rfl⟩
     obtain ⟨e1,e2,e3⟩:=HL.out.1.byteCells;obtain ⟨g,o,rfl,_⟩:=e3 (by rw [e1];simp);have hm2:2≤m:=by rw [e1];simp
     have HS:Hid (Dr.strip (y::t)=Dr.strip (Dr.eight n)):=by
      show _=_;rw [←HL.out.2.2]
      conv=>rhs;rw [Dr.strip,if_neg (by rw [hl];decide)]
     have HT:Hid (Is wr (Old V) (.slice (some ⟨g,o+1,none⟩) (m-1) (c-1)) (z04 (y::t))):=HL.out.1.zh3 (by omega);have i1:(1:Int)≤(m:Int):=by omega
     have i2:(1:Int)≤(c:Int):=by omega
     have hc1:¬c=1:=by omega
     have hmc:m≤c:=e2;clear e1 e2 e3 hl
     go_wp2_with fail
     refine ⟨⟨_,_,_,_,_,_,⟨_,m-1,c-1,_,rfl,by omega,trivial,HT.out,by simp,HS.out⟩,rfl⟩,by simp [lenV];omega⟩
end Go.Proofs.YtgmppconibklcaaGreatDoor

namespace Go.Proofs.YtgmppconibklcaaGreatDoor
open Go Go.RowKit
theorem znh:∀ t:Fin 31,bits BinOp.or IntKind.i64 (((0:Nat):Int)*64) ((t.val:Nat):Int)%256=((t.val:Nat):Int):=by decide +kernel
theorem zng:∀ t:Fin 31,bits BinOp.or IntKind.i64 (((2:Nat):Int)*64) ((t.val:Nat):Int)%256=((128+t.val:Nat):Int):=by decide +kernel
theorem or_cons:∀ t:Fin 31,bits BinOp.or IntKind.u8 ((t.val:Nat):Int) 32=((t.val+32:Nat):Int)∧bits BinOp.or IntKind.u8 ((128+t.val:Nat):Int) 32=((128+t.val+32:Nat):Int):=by decide +kernel
theorem AppB.len {base:Nat} {w w':World} {v v':Value} {l:List UInt8} (h:AppB base w w' v v' l) {n:Nat} (hn:n=l.length):w'.ownsRow base 5 1 v' n (Lib.byteCells l):=by rw [hn];exact h.own
theorem zlD {K size j:Nat} (hj:j<K) {c:UInt8} (hc:c.toNat=size / 256^(K-1-j)%256):(Nt.beN K size).take (j+1)=(Nt.beN K size).take j++[c]:=by
 have hl:j<(Nt.beN K size).length:=by rw [Nt.z0o];exact hj
 rw [List.take_succ_eq_append_getElem hl]
 congr 2
 apply UInt8.toNat_inj.1;have:=Nt.z9I K size (K-1-j) (by omega);have e:K-1-(K-1-j)=j:=by omega
 rw [e,List.getD_eq_getElem?_getD,List.getElem?_eq_getElem hl] at this;rw [hc];exact this
theorem z7D (k:Nat):(2:Nat)^(8*k)=256^k:=by rw [Nat.pow_mul]
theorem zdM (c t:Nat) (k:Bool) (size:Nat) (vb vk:Value) (w:World) (hc:c=0∨c=2) (ht:t≤30) (hz:size<4294967296):
  Calls Tryz.prog 146 #[.agg #[.int .i64 c,.int .i64 t,.bool k,vb,vk],.int .i64 size] w fun e w'=>∃ v,e = .returned v∧w'.ownsRow w.heap.size 5 1 v (Dr.head c t k size).length (Lib.byteCells (Dr.head c t k size))∧Below w.heap.size w w':=by
 obtain ⟨i8,hi8,hz80,hz81,hz82⟩:=info_parts z4U;obtain ⟨T0,hT0⟩:∃ T0:Nat,T0=c*64+t:=⟨_,rfl⟩;have hb0:bits BinOp.or IntKind.i64 ((c:Int)*64) (t:Int)%256=(T0:Int):=by
  rw [hT0];rcases hc with rfl|rfl
  ·have:=znh ⟨t,by omega⟩;simpa using this
  ·have:=zng ⟨t,by omega⟩;simpa using this
 have hb1:bits BinOp.or IntKind.u8 (T0:Int) 32=((T0+32:Nat):Int):=by
  rw [hT0];rcases hc with rfl|rfl
  ·have:=(or_cons ⟨t,by omega⟩).1;simpa using this
  ·have:=(or_cons ⟨t,by omega⟩).2;simpa using this
 obtain ⟨h8,hh8⟩:∃ h8:UInt8,h8=UInt8.ofNat (c*64+t+if k=true then 32 else 0):=⟨_,rfl⟩;have h8n:h8.toNat=T0+if k=true then 32 else 0:=by
  rw [hh8,UInt8.toNat_ofNat',hT0];rcases hc with rfl|rfl<;>cases k<;>simp<;>omega
 have HHD:Hid (Dr.head c t k size=h8::Dr.lenB size):=by show _=_;rw [hh8];rfl
 obtain ⟨V,hV⟩:∃ V,V=w.alloc (.cells #[.int .i64 c,.int .i64 t,.bool k,vb,vk] 61):=⟨_,rfl⟩;have HB:Hid (Below w.heap.size w V):=by show Below _ _ _;rw [hV];exact (Below.refl _ w).alloc (Nat.le_refl _) _
 have HK:Hid (Blk V w.heap.size 61 #[.int .i64 c,.int .i64 t,.bool k,vb,vk]):=by show Blk _ _ _ _;rw [hV];exact Blk.new w _ _
 have hsz:=HB.out.size;have HV:=Lib.hid hV;have HT0:=Lib.hid hb0;have HT1:=Lib.hid hb1;have H8:=Lib.hid h8n;clear hV hb0 hb1 h8n hh8 hT0;go_enter Tryz.func146,Tryz.ntmps146
 go_upto_region 2 with fail
 rw [HT0.out,←HV.out];obtain ⟨q0,q1,q2,q3,q4,f0,f1,f2,f3,f4⟩:=HK.out.five;go_upto_if 16 with fail
 go_cut [5] from 17 (fun s5 wx=>s5 = .int .u8 (h8.toNat:Int)∧wx=V)
 case first=>
  cases k with
  | true=>
   go_wp2_with fail
   go_meet
   exact ⟨by rw [HT1.out,H8.out];rfl,rfl⟩
  | false=>
   go_wp2_with fail
   go_meet
   exact ⟨by rw [H8.out];rfl,rfl⟩
 case rest=>
 obtain ⟨rfl,rfl⟩:=hcut;clear q0 q1 q2 q3 q4 f0 f1 f2 f3 f4 HT0 HT1 HK;have hszc:w.heap.size≤wc.heap.size:=hsz
 go_upto_region 5 with fail
 obtain ⟨V1,hV1⟩:∃ V1,V1=wc.alloc (.cells #[.int .u8 (h8.toNat:Int)] 5):=⟨_,rfl⟩;obtain ⟨v6,hv6⟩:∃ v6:Value,v6 = .slice (some ⟨wc.heap.size,0,none⟩) 1 1:=⟨_,rfl⟩;have HB1:Hid (Below wc.heap.size wc V1):=by show Below _ _ _;rw [hV1];exact (Below.refl _ wc).alloc (Nat.le_refl _) _
 have HO1:Hid (V1.ownsRow wc.heap.size 5 1 v6 [h8].length (Lib.byteCells [h8])):=by
  show V1.ownsRow _ _ _ _ _ _;rw [hV1,hv6];exact World.ownsRow_lit wc _ 1 (Nat.le_refl _) (by decide) rfl
 have hs1:=HB1.out.size;rw [←hV1,←hv6];clear hV1 hv6;by_cases h128:size<128
 ·have hd:decide ((size:Int)<128)=true:=decide_eq_true (by omega);obtain ⟨sc,hsc⟩:∃ sc:UInt8,sc=UInt8.ofNat size:=⟨_,rfl⟩;have hscn:(size:Int)%256=(sc.toNat:Int):=by rw [hsc,UInt8.toNat_ofNat'];omega
  have HSC:Hid (Dr.lenB size=[sc]∧(size:Int)%256=(sc.toNat:Int)):=⟨by unfold Dr.lenB;rw [if_pos h128,hsc],hscn⟩;clear hsc hscn h128
  go_wp2_with (refine z10 rfl (.tmp 23) (.tmp 26) 22 rfl wc.heap.size i8 Tryz.underlying22 hi8 hz80 hz81 hz82 v6 _ rfl HO1.out _ sc HSC.out.2 1 rfl (by simp) hs1 ?_;intro v7 V7 ab)
  go_ret
  refine ⟨_,rfl,?_,HB.out.trans ((HB1.out.trans (ab.below HO1.out hs1)).mono hszc)⟩;have:=ab.own;rw [HHD.out,HSC.out.1];exact Joins.ownsRow_le this hszc
 ·have hd:decide ((size:Int)<128)=false:=decide_eq_false (by omega);have H128:=Lib.hid h128;clear h128
  go_wp2_with fail
  go_loopw [7] (fun t7 wx=>∃ j:Nat,t7 = .int .i64 j∧1≤j∧j≤4∧Hid (256^(j-1)≤size)∧V1=wx) (fun t7 _=>10-(intOf t7).toNat)
  case atStart=>exact ⟨1,rfl,Nat.le_refl _,by decide,by show 1≤size;have:=H128.out;omega,rfl⟩
  case round=>
   obtain ⟨j,rfl,hj1,hj4,HJ,rfl⟩:=hrel;have hq:(size:Int) / 2^(8*j)=((size / 256^j:Nat):Int):=by rw [←z7D];norm_cast
   by_cases hlt:size<256^j
   ·have hd:decide ((0:Int)<(size:Int) / 2^(8*j))=false:=by
     rw [hq,Nat.div_eq_of_lt hlt];rfl
    have HLT:=Lib.hid hlt;have HLB:Hid (Dr.lenB size=UInt8.ofNat (128+j)::Nt.beN j size):=Dr.zdz (by have:=H128.out;omega) hj1 HJ.out hlt;clear hq hlt;obtain ⟨kc,hkc⟩:∃ kc:UInt8,kc=UInt8.ofNat (128+j):=⟨_,rfl⟩;have HKC:Hid ((128:Int)+(j:Int)=(kc.toNat:Int)):=by show _=_;rw [hkc,UInt8.toNat_ofNat'];omega
    rw [←hkc] at HLB;clear hkc
    go_wp2_with (refine z10 rfl (.tmp 35) (.tmp 39) 22 rfl wc.heap.size i8 Tryz.underlying22 hi8 hz80 hz81 hz82 v6 _ rfl HO1.out _ kc HKC.out 1 rfl (by simp) hs1 ?_;intro v7 V7 ab)
    have HO7:Hid (V7.ownsRow wc.heap.size 5 1 v7 (2+0) (Lib.byteCells ([h8,kc]++(Nt.beN j size).take 0))):=ab.own;have HB7:Hid (Below wc.heap.size wc V7):=HB1.out.trans (ab.below HO1.out hs1);clear ab
    go_loopw [6,7] (fun t6 t7 wx=>∃ i:Nat,t7 = .int .i64 ((j:Int)-(i:Int))∧i≤j∧Hid (wx.ownsRow wc.heap.size 5 1 t6 (2+i) (Lib.byteCells ([h8,kc]++(Nt.beN j size).take i))∧Below wc.heap.size wc wx)) (fun _ t7 _=>(intOf t7).toNat)
    case atStart=>exact ⟨0,by simp,Nat.zero_le _,HO7.out,HB7.out⟩
    case round=>
     obtain ⟨i,rfl,hij,HI⟩:=hrel;by_cases hi:i<j
     ·have hd:decide ((0:Int)<(j:Int)-(i:Int))=true:=decide_eq_true (by omega);obtain ⟨cc,hcc⟩:∃ cc:UInt8,cc=UInt8.ofNat (size / 256^(j-1-i)%256):=⟨_,rfl⟩;have hct:cc.toNat=size / 256^(j-1-i)%256:=by
       rw [hcc,UInt8.toNat_ofNat'];exact Nat.mod_eq_of_lt (Nat.lt_of_lt_of_le (Nat.mod_lt _ (by decide)) (by decide))
      have HCC:Hid ((size:Int) / 2^(8*(j-i-1))%256=(cc.toNat:Int)):=by
       show _=_;rw [hct,←z7D,show j-1-i=j-i-1 by omega]
       norm_cast
      have HTK:Hid ([h8,kc]++(Nt.beN j size).take (i+1)=([h8,kc]++(Nt.beN j size).take i)++[cc]):=by
       show _=_;rw [zlD hi hct,List.append_assoc]
      have HLN:Hid (([h8,kc]++(Nt.beN j size).take i).length=2+i):=by
       show _=_;rw [List.length_append,List.length_take,Nt.z0o];simp;omega
      have HO8:Hid (wr.ownsRow wc.heap.size 5 1 u6 ([h8,kc]++(Nt.beN j size).take i).length (Lib.byteCells ([h8,kc]++(Nt.beN j size).take i))):=by
       show wr.ownsRow _ _ _ _ _ _;rw [HLN.out];exact HI.out.1
      have hsr:=HI.out.2.size;clear hcc hct
      go_wp2_with (refine z10 rfl (.tmp 45) (.tmp 52) 22 rfl wc.heap.size i8 Tryz.underlying22 hi8 hz80 hz81 hz82 u6 _ rfl HO8.out _ cc HCC.out 1 rfl (by rw [HLN.out];omega) hsr ?_;intro v9 V9 ab9)
      refine ⟨⟨i+1,by congr 1;omega,by omega,?_,HI.out.2.trans (ab9.below HO8.out hsr)⟩,by simp [intOf];omega⟩;have:=ab9.own;rw [List.length_append,HLN.out] at this;rw [HTK.out];exact this
     ·have hd:decide ((0:Int)<(j:Int)-(i:Int))=false:=decide_eq_false (by omega);obtain rfl:i=j:=by omega
      clear hi
      go_wp2_with fail
      go_ret
      refine ⟨_,rfl,?_,HB.out.trans (HI.out.2.mono hszc)⟩;have e1:(Nt.beN i size).take i=Nt.beN i size:=List.take_of_length_le (by rw [Nt.z0o];exact Nat.le_refl _);have:=HI.out.1;rw [e1] at this;rw [HHD.out,HLB.out];have e2:(h8::kc::Nt.beN i size).length=2+i:=by simp [Nt.z0o];omega
      rw [e2];exact Joins.ownsRow_le this hszc
   ·have hj3:j<4:=by
     rcases Nat.lt_or_ge j 4 with h|h
     ·exact h
     ·exfalso;have:j=4:=by omega
      subst this;have:(256:Nat)^4=4294967296:=by decide
      omega
    have hd:decide ((0:Int)<(size:Int) / 2^(8*j))=true:=by
     rw [hq];have:=Nat.div_pos (Nat.le_of_not_lt hlt) (Nat.pow_pos (n:=j) (show 0<256 by decide));exact decide_eq_true (by omega)
    have HJ2:Hid (256^(j+1-1)≤size):=by show _≤_;rw [Nat.add_sub_cancel];omega
    clear hq hlt
    go_wp2_with fail
    refine ⟨⟨j+1,by go_num,by omega,by omega,HJ2.out,trivial⟩,by simp [intOf];omega⟩
end Go.Proofs.YtgmppconibklcaaGreatDoor

namespace Go.Proofs.YtgmppconibklcaaGreatDoor
open Go Go.RowKit

theorem zmO {k:IntKind} {a b:Int} (h:a=b):Ending.returned (.int k a) = .returned (.int k b):=by rw [h]

theorem zla (y:Int) (w:World) (h0:0≤y) (h1:y≤10000) (h:Cal.lp y=1):
  Calls Tryz.prog 322 #[.int .i64 y] w fun e w'=>e = .returned (.bool true)∧w=w':=by
 have h4:y%4=0:=by unfold Cal.lp at h;split at h<;>omega
 by_cases h100:y%100=0
 ·have h400:y%400=0:=by unfold Cal.lp at h;split at h<;>omega
  clear h;go_enter Tryz.func322,Tryz.ntmps322
  go_wp2
  go_ret
  exact ⟨rfl,rfl⟩
 ·clear h;go_enter Tryz.func322,Tryz.ntmps322
  go_wp2
  go_ret
  exact ⟨rfl,rfl⟩
theorem znw (y:Int) (w:World) (h0:0≤y) (h1:y≤10000) (h:Cal.lp y=0):
  Calls Tryz.prog 322 #[.int .i64 y] w fun e w'=>e = .returned (.bool false)∧w=w':=by
 by_cases h4:y%4=0
 ·have h100:y%100=0:=by unfold Cal.lp at h;split at h<;>omega
  have h400:(y%400==0)=false:=by unfold Cal.lp at h;split at h<;>simp<;>omega
  clear h;go_enter Tryz.func322,Tryz.ntmps322
  go_wp2
  go_ret
  exact ⟨rfl,rfl⟩
 ·clear h;go_enter Tryz.func322,Tryz.ntmps322
  go_wp2
  go_ret
  exact ⟨rfl,rfl⟩
theorem z1W (y m:Int) (w:World) (h0:0≤y) (h1:y≤10000):
  Calls Tryz.prog 262 #[.int .i64 y,.int .i64 m] w fun e w'=>e = .returned (.int .i64 (Cal.dim y m))∧w=w':=by
 by_cases h2:m=2
 ·subst h2;rcases Cal.zdt y with hl|hl
  ·have hd:Cal.dim y 2=28:=by simp [Cal.dim,hl]
   rw [hd];have Hl:=Lib.hid hl;clear hl hd;go_enter Tryz.func262,Tryz.ntmps262
   go_wp2_with (go_at_call 322;refine (znw _ _ h0 h1 Hl.out).mono ?_;rintro e w' ⟨rfl,rfl⟩)
   go_ret
   exact ⟨rfl,rfl⟩
  ·have hd:Cal.dim y 2=29:=by simp [Cal.dim,hl]
   rw [hd];have Hl:=Lib.hid hl;clear hl hd;go_enter Tryz.func262,Tryz.ntmps262
   go_wp2_with (go_at_call 322;refine (zla _ _ h0 h1 Hl.out).mono ?_;rintro e w' ⟨rfl,rfl⟩)
   go_ret
   exact ⟨rfl,rfl⟩
 ·by_cases hm:m=4∨m=6∨m=9∨m=11
  ·have hd:Cal.dim y m=30:=by simp [Cal.dim,h2,hm]
   rw [hd];clear hd;rcases hm with rfl|rfl|rfl|rfl;all_goals
    go_enter Tryz.func262,Tryz.ntmps262
    go_wp2
    go_ret
    exact ⟨rfl,rfl⟩
  ·have hd:Cal.dim y m=31:=by simp [Cal.dim,h2,hm]
   rw [hd];have e2:(m==2)=false:=by simpa using h2
   have e4:(m==4)=false:=by simp;omega
   have e6:(m==6)=false:=by simp;omega
   have e9:(m==9)=false:=by simp;omega
   have e11:(m==11)=false:=by simp;omega
   clear hd h2 hm;go_enter Tryz.func262,Tryz.ntmps262
   go_wp2
   go_ret
   exact ⟨rfl,rfl⟩
theorem zh6 (y:Int) (w:World) (h0:0≤y) (h1:y≤10000):
  Calls Tryz.prog 261 #[.int .i64 y] w fun e w'=>e = .returned (.int .i64 (Cal.dby y))∧w=w':=by
 by_cases hz:y=0
 ·subst hz;go_enter Tryz.func261,Tryz.ntmps261
  go_wp2
  go_ret
  exact ⟨rfl,rfl⟩
 ·go_enter Tryz.func261,Tryz.ntmps261
  go_wp2
  go_ret
  exact ⟨zmO (by unfold Cal.dby;omega),rfl⟩
theorem znV (z:Int):Cal.dby (z+400)=Cal.dby z+146097:=by unfold Cal.dby;omega
theorem lp_yes {y:Int} (h:Cal.lp y=1):y%4=0∧(¬y%100=0∨y%400=0):=by
 unfold Cal.lp at h;split at h
 ·assumption
 ·omega
theorem lp_no {y:Int} (h:Cal.lp y=0):¬y%4=0∨(y%100=0∧¬y%400=0):=by
 unfold Cal.lp at h;split at h<;>omega
def zfu (y m:Int):Int:=if m=0 then 365+Cal.lp y else Cal.dim y m
theorem zju (y m b:Int) (h:b=Cal.lp y):zfu y m=if m=0 then 365+b else if m=2 then 28+b else if m=4∨m=6∨m=9∨m=11 then 30 else 31:=by
 subst h;unfold zfu Cal.dim;rfl
theorem zdd {p:Prop} (h:p:=by
  rcases hk with ⟨h4,rfl⟩|⟨h4,h100,h400,rfl⟩|⟨h4,h100,h400,rfl⟩|⟨h4,h100,rfl⟩;all_goals
   go_enter Tryz.func342,Tryz.ntmps342
   go_wp2
   go_ret
   exact ⟨rfl,rfl⟩):p:=h
theorem zft (y m:Int) (w:World) (h0:0≤y) (h1:y≤10000):
  Calls Tryz.prog 342 #[.int .i64 y,.int .i64 m] w fun e w'=>e = .returned (.int .i64 (zfu y m))∧w=w':=by
 have key:∀ b:Int,b=Cal.lp y→(b=0∨b=1)→((¬y%4=0∧b=0)∨(y%4=0∧y%100=0∧y%400=0∧b=1)∨(y%4=0∧y%100=0∧(y%400==0)=false∧b=0)∨(y%4=0∧¬y%100=0∧b=1)):=by
  intro b hb _;subst hb;rcases Cal.zdt y with hl|hl
  ·have:=lp_no hl;simp only [beq_eq_false_iff_ne];omega
  ·have:=lp_yes hl;simp only [beq_eq_false_iff_ne];omega
 obtain ⟨b,hb⟩:∃ b,b=Cal.lp y:=⟨_,rfl⟩;rw [zju y m b hb];have hk:=key b hb (by subst hb;exact Cal.zdt y);clear key hb;by_cases hm0:m=0
 ·subst hm0;exact zdd
 ·rw [if_neg hm0];have e0:(m==0)=false:=by simpa using hm0
  clear hm0;by_cases h2:m=2
  ·subst h2;exact zdd
  ·rw [if_neg h2];have e2:(m==2)=false:=by simpa using h2
   by_cases hm:m=4∨m=6∨m=9∨m=11
   ·rw [if_pos hm];rcases hm with rfl|rfl|rfl|rfl;all_goals
     rcases hk with ⟨h4,rfl⟩|⟨h4,h100,h400,rfl⟩|⟨h4,h100,h400,rfl⟩|⟨h4,h100,rfl⟩;all_goals
      clear e0 e2 h2;go_enter Tryz.func342,Tryz.ntmps342
      go_wp2
      go_ret
      exact ⟨rfl,rfl⟩
   ·rw [if_neg hm];have e4:(m==4)=false:=by simp;omega
    have e6:(m==6)=false:=by simp;omega
    have e9:(m==9)=false:=by simp;omega
    have e11:(m==11)=false:=by simp;omega
    clear h2 hm;exact zdd
theorem zcr (y m:Int) (h:1≤m):zfu y m=Cal.dim y m:=if_neg (by omega)
theorem zjt (y:Int) (w:World) (h0:0≤y) (h1:y≤10000):
  Calls Tryz.prog 342 #[.int .i64 y,.int .i64 0] w fun e w'=>e = .returned (.int .i64 (365+Cal.lp y))∧w=w' :=
 (zft y 0 w h0 h1)
theorem z2H (y m:Int) (w:World) (h0:0≤y) (h1:y≤10000) (hm:1≤m):
  Calls Tryz.prog 342 #[.int .i64 y,.int .i64 m] w fun e w'=>e = .returned (.int .i64 (Cal.dim y m))∧w=w':=by
 rw [←zcr y m hm];exact zft y m w h0 h1
end Go.Proofs.YtgmppconibklcaaGreatDoor

