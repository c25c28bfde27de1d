/- Part of the proof. No condition. -/
import Derived.Test.YtgmppconibklcaaGreatDoorM21
import Derived.Deep.RegionHeld3
import Derived.Test.YtgmppconibklcaaGreatDoorM0
import Derived.Test.YtgmppconibklcaaGreatDoorProg
import Derived.WalkKit
import Derived.Maps.OwnSet
import Derived.Maps.Views
import Derived.Test.YtgmppconibklcaaGreatDoorM19
set_option maxHeartbeats 40000000
set_option maxRecDepth 100000
set_option linter.unusedVariables false
set_option linter.unusedSimpArgs false
namespace Go.Proofs.YtgmppconibklcaaGreatDoor
open Go Go.RowKit
structure ExAt (w:World) (Av:Nat→Prop) (v:Value) (e:Rq.Ex):Prop where
 ex:∃ vb,v = .agg #[.string ⟨e.oid.toArray⟩,.bool e.crit,vb]∧Is w Av vb (z04 e.val)
theorem ExAt.stays {w w':World} {Av:Nat→Prop} {v:Value} {e:Rq.Ex} (h:ExAt w Av v e) (hb:Below w.heap.size w w'):ExAt w' Av v e:=by
 obtain ⟨vb,e1,h1⟩:=h.ex;exact ⟨vb,e1,h1.stays hb⟩
theorem Blk.three {w:World} {g:Nat} {t:TypeId} {c0 c1 c2:Value} (h:Blk w g t #[c0,c1,c2]):w.cell? ⟨g,0,none⟩=some c0∧w.cell? ⟨g,1,none⟩=some c1∧w.cell? ⟨g,2,none⟩=some c2∧w.frozen? ⟨g,0,none⟩=false∧w.frozen? ⟨g,1,none⟩=false∧w.frozen? ⟨g,2,none⟩=false:=⟨h.cell 0,h.cell 1,h.cell 2,h.frozen 0,h.frozen 1,h.frozen 2⟩
theorem lit8 {W:World} {Av:Nat→Prop} {H:Nat} {t:TypeId} {n:Int} {b:UInt8} (h:Blk W H t #[.int .u8 n]) (hH:¬Av H) (hn:n=(b.toNat:Int)):Is W Av (.slice (some ⟨H,0,none⟩) 1 1) (z04 [b]):=by
 subst hn;refine Is.row_ (us:=[.int .u8 (b.toNat:Int)]) rfl (by decide) (Nat.le_refl _) (.z0D (.leaf _) .nil_) fun _=>⟨H,0,rfl,hH,fun j u hu=>?_⟩
 rw [Nat.zero_add,h.cell j];simpa using hu
structure CS (w W:World) (P0 P4:Nat) (c1 t1:Int) (k1:Bool) (vb vk:Value) (s:ByteArray) (crit:Bool) (A:Option Addr) (n c:Nat) (Av:Nat→Prop) (x:Rq.Ex):Prop where
 below:Below w.heap.size w W
 on:NdAt W (Old w) (.agg #[.int .i64 c1,.int .i64 t1,.bool k1,vb,vk]) (Rq.oidN x.oid)
 blkO:Blk W P4 61 #[.int .i64 c1,.int .i64 t1,.bool k1,vb,vk]
 blkX:Blk W w.heap.size 87 #[.string s,.bool crit,.slice A n c]
 blkK:Blk W P0 61 #[.int .i64 0,.int .i64 0,.bool false,.slice none 0 0,.slice none 0 0]
 val:Is W Av (.slice A n c) (z04 x.val)
section
variable {w W W':World} {P0 P4:Nat} {c1 t1:Int} {k1:Bool} {vb vk:Value} {s:ByteArray} {crit:Bool} {A:Option Addr} {n c:Nat} {Av:Nat→Prop} {x:Rq.Ex}
theorem CS.stays (h:CS w W P0 P4 c1 t1 k1 vb vk s crit A n c Av x) (hb:Below W.heap.size W W'):CS w W' P0 P4 c1 t1 k1 vb vk s crit A n c Av x:=
 ⟨h.below.trans (hb.mono h.below.size),h.on.stays hb,h.blkO.below hb h.blkO.lt,h.blkX.below hb h.blkX.lt,h.blkK.below hb h.blkK.lt,h.val.stays hb⟩
theorem CS.alloc (h:CS w W P0 P4 c1 t1 k1 vb vk s crit A n c Av x) {ob:Obj}:CS w (W.alloc ob) P0 P4 c1 t1 k1 vb vk s crit A n c Av x:=h.stays ((Below.refl _ _).alloc (Nat.le_refl _) _)
theorem CS.drew (h:CS w W P0 P4 c1 t1 k1 vb vk s crit A n c Av x):CS w W.drew P0 P4 c1 t1 k1 vb vk s crit A n c Av x:=h.stays (Below.refl _ _).drew
theorem CS.cells (h:CS w W P0 P4 c1 t1 k1 vb vk s crit A n c Av x):W.cell? ⟨P4,0,none⟩=some (.int .i64 c1)∧W.cell? ⟨P4,1,none⟩=some (.int .i64 t1)∧W.cell? ⟨P4,2,none⟩=some (.bool k1)∧W.cell? ⟨P4,3,none⟩=some vb∧W.cell? ⟨P4,4,none⟩=some vk∧W.cell? ⟨w.heap.size,2,none⟩=some (.slice A n c):=
 ⟨h.blkO.cell 0,h.blkO.cell 1,h.blkO.cell 2,h.blkO.cell 3,h.blkO.cell 4,h.blkX.cell 2⟩
end
def z6o (x:Rq.Ex) (w:World) (e:Ending) (w':World):Prop:=∃ v',e = .returned (.tuple #[v',.int .i64 (if Rq.exOk x then 0 else 62)])∧NdAt w' (Old w) v' (if Rq.exOk x then Rq.exN x else Nd.nil)∧Below w.heap.size w w'
theorem zeH {p:Prop} (h:p:=by
  intro V9 a b c d e hb9 h9;unfold z6o;rw [HF.out];have hl:=HK2.out.lt;have hl2:=HO2.out.lt;have h10:w.heap.size+1<P4+1:=by have:=HP4.out;omega
  exact ⟨_,rfl,(h9.set5 (g:=w.heap.size+1) h10 _ _ _ _ _).less (fun b hb _=>by have:b<w.heap.size:=hb;show b<P4+1;omega),z0y hb9 (Nat.le_succ _) _ _ _ _ _⟩):p:=h
theorem zey {p:Prop} (h:p:=by
  go_wp2_with fail
  exact bodyPost_ret (z1T Tryz.results71 _ _ (HK2.out.set5 _ _ _ _ _) rfl rfl) rfl (HBAD.out HF.out)):p:=h
theorem z8g (x:Rq.Ex) (v:Value) (Av:Nat→Prop) (w:World) (h:ExAt w Av v x) (hs:x.oid.length≤90000) (hz:x.val.length≤40000):
  Calls Tryz.prog 71 #[v] w (z6o x w):=by
 obtain ⟨vb,rfl,hb⟩:=h.ex;obtain ⟨A,c,rfl,hnc,_⟩:=hb.bytes;obtain ⟨n,hn⟩:∃ n,n=x.val.length:=⟨_,rfl⟩;rw [←hn] at hb hz ⊢;obtain ⟨s,hsx⟩:∃ s:ByteArray,s=⟨x.oid.toArray⟩:=⟨_,rfl⟩;have hsl:s.size≤90000:=by rw [hsx];show x.oid.toArray.size≤_;simpa using hs
 have hse:s.data.toList=x.oid:=by rw [hsx]
 rw [←hsx];obtain ⟨crit,hcr⟩:∃ k,k=x.crit:=⟨_,rfl⟩;rw [←hcr];obtain ⟨V0,hV0,hb0,hk0,hs0⟩:=z1V w 87 #[.string s,.bool crit,.slice A n c];obtain ⟨V,hV,hb1,hk1,hs1⟩:=z1V V0 61 #[.int .i64 0,.int .i64 0,.bool false,.slice none 0 0,.slice none 0 0];have HB:Hid (Below w.heap.size w V):=hb0.trans (hb1.mono hb0.size);have HX:Hid (Blk V w.heap.size 87 #[.string s,.bool crit,.slice A n c]):=hk0.below hb1 hk0.lt;have HK:Hid (Blk V (w.heap.size+1) 61 #[.int .i64 0,.int .i64 0,.bool false,.slice none 0 0,.slice none 0 0]):=by show Blk _ _ _ _;rw [←hs0];exact hk1
 have HI:Hid (Is V Av (.slice A n c) (z04 x.val)):=hb.stays HB.out;have HV0:=Lib.hid hV0;have HV:=Lib.hid hV;have HS0:=Lib.hid hs0;have HSE:=Lib.hid hse;have HN:=Lib.hid hn;have HCR:=Lib.hid hcr;clear h hb hnc hn hsx hse hcr hV0 hb0 hk0 hs0 hV hb1 hk1 hs1 hs;go_enter Tryz.func71,Tryz.ntmps71
 go_upto_region 1 with fail
 rw [←HV0.out,←HV.out];obtain ⟨e0,e1,e2,_,_,_⟩:=HX.out.three
 go_wp2_with fail
 refine (zdR s V hsl).mono ?_;rintro e V1 ⟨v1,rfl,h1,hb1⟩;obtain ⟨c1,t1,k1,A1,nb1,cb1,A2,nk1,ck1,rfl⟩:=h1.z7Z;obtain ⟨ok,hok⟩:∃ ok,ok=(Od.enc s.data.toList).isSome:=⟨_,rfl⟩;rw [←hok];have HOK:Hid (ok=Rq.z1p x.oid):=by show _=_;rw [hok,HSE.out];rfl
 have H1:Hid (NdAt V1 (Old w) (.agg #[.int .i64 c1,.int .i64 t1,.bool k1,.slice A1 nb1 cb1,.slice A2 nk1 ck1]) (Rq.oidN x.oid)):=by
  rw [HSE.out] at h1;exact h1.less (fun b hb _=>Nat.lt_of_lt_of_le hb HB.out.size)
 have HB1:Hid (Below w.heap.size w V1):=HB.out.trans (hb1.mono HB.out.size);have HX1:=Lib.hid (HX.out.below hb1 HX.out.lt);have HK1:=Lib.hid (HK.out.below hb1 HK.out.lt);have HI1:=Lib.hid (HI.out.stays hb1);clear h1 hb1 hok e0 e1 e2 HX HK HI
 go_upto_region 2 with fail
 obtain ⟨V2,hV2,hb2,hk2,hs2⟩:=z1V V1 61 #[.int .i64 c1,.int .i64 t1,.bool k1,.slice A1 nb1 cb1,.slice A2 nk1 ck1];rw [←hV2];have HB2:Hid (Below w.heap.size w V2):=HB1.out.trans (hb2.mono HB1.out.size);have H2:=Lib.hid (H1.out.stays hb2);have HX2:=Lib.hid (HX1.out.below hb2 HX1.out.lt);have HK2:=Lib.hid (HK1.out.below hb2 HK1.out.lt);have HI2:=Lib.hid (HI1.out.stays hb2);obtain ⟨P4,hP4⟩:∃ P,P=V1.heap.size:=⟨_,rfl⟩;have HP4:Hid (w.heap.size+1<P4):=by rw [hP4];exact HK1.out.lt
 rw [←hP4] at hk2 ⊢;have HO2:=Lib.hid hk2;clear hV2 hb2 hk2 hs2 hP4 H1 HX1 HK1 HI1;obtain ⟨e0,e1,e2,_,_,_⟩:=HX2.out.three;obtain ⟨q0,q1,q2,q3,q4,f0,f1,f2,f3,f4⟩:=HK2.out.five;obtain ⟨p0,p1,p2,p3,p4,g0,g1,g2,g3,g4⟩:=HO2.out.five;have HBAD:Hid (Rq.exOk x=false→z6o x w (.returned (.tuple #[.agg #[.int .i64 0,.int .i64 0,.bool false,.slice none 0 0,.slice none 0 0],.int .i64 62])) (World.set5 V2 (w.heap.size+1) (.int .i64 0) (.int .i64 0) (.bool false) (.slice none 0 0) (.slice none 0 0))):=by
  intro h0;unfold z6o;rw [h0];exact ⟨_,rfl,⟨_,_,rfl,Is.z1U _ _,Is.z3e _ _⟩,z0y HB2.out (Nat.le_succ _) _ _ _ _ _⟩
 cases ok with
 | false=>
  have HF:Hid (Rq.exOk x=false):=by show _=_;unfold Rq.exOk;rw [←HOK.out];rfl
  exact zey
 | true=>
  by_cases h2:n≤2000
  ·have hd2:decide ((2000:Int)<(n:Int))=false:=decide_eq_false (by omega);have HF:Hid (Rq.exOk x=true):=by show _=_;unfold Rq.exOk;rw [←HOK.out,←HN.out,decide_eq_true h2];rfl
   clear HBAD;cases crit with
   | false=>
    have HGOOD:∀ (V9:World) (a b c d e:Value),Below w.heap.size w V9→NdAt V9 (fun g=>g<P4+1) (.agg #[a,b,c,d,e]) (Rq.exN x)→z6o x w (.returned (.tuple #[.agg #[a,b,c,d,e],.int .i64 0])) (World.set5 V9 (w.heap.size+1) a b c d e):=by
     exact zeH
    have HG:=Lib.hid HGOOD;clear HGOOD
    go_upto_region 6 with fail
    have hne1:¬(P4=w.heap.size+1):=by have:=HP4.out;omega
    have hne2:¬(w.heap.size+1=P4):=fun h=>hne1 h.symm
    have hxl:x.val.length≤40000:=by rw [←HN.out];exact hz
    have hol:x.oid.length≤90000:=by rw [←HSE.out];exact hsl
    go_region_held3 (fun w'=>w'.cell? ⟨P4,0,none⟩=some (.int .i64 c1)∧w'.cell? ⟨P4,1,none⟩=some (.int .i64 t1)∧w'.cell? ⟨P4,2,none⟩=some (.bool k1)∧w'.cell? ⟨P4,3,none⟩=some (.slice A1 nb1 cb1)∧w'.cell? ⟨P4,4,none⟩=some (.slice A2 nk1 ck1)∧w'.cell? ⟨w.heap.size,2,none⟩=some (.slice A n c)) (first|go_keep) (first
     | (go_at_call 34;(with_reducible refine (z1d 4 A n c x.val Av _ (by exact HI2.out.drew) (by omega)).mono ?_);rintro e W1 ⟨v5,rfl,h5,hb5⟩;obtain ⟨c5,t5,k5,A6,nb5,cb5,A7,nk5,ck5,rfl⟩:=h5.z7Z;have HB5:Hid (Below V2.heap.size V2 W1):=((Below.refl _ V2).drew).trans hb5;have H5:Hid (NdAt W1 (Old w) (.agg #[.int .i64 c5,.int .i64 t5,.bool k5,.slice A6 nb5 cb5,.slice A7 nk5 ck5]) (Dr.prim 4 x.val)):=h5.less (fun b hb _=>Nat.lt_of_lt_of_le hb HB2.out.size);have hw1:w.heap.size≤W1.heap.size:=Nat.le_trans HB2.out.size HB5.out.size;have HO3:Hid (Blk W1 P4 61 #[.int .i64 c1,.int .i64 t1,.bool k1,.slice A1 nb1 cb1,.slice A2 nk1 ck1]):=HO2.out.drew.below hb5 HO2.out.lt;have HX3:Hid (Blk W1 w.heap.size 87 #[.string s,.bool false,.slice A n c]):=HX2.out.drew.below hb5 HX2.out.lt;have hf5:=HO3.out.five;have hf3:=HX3.out.three;have ha5:=fun ob=>(HO3.out.alloc ob).five;have ha3:=fun ob=>(HX3.out.alloc ob).three;clear h5 hb5)
     | (go_at_call 137;(with_reducible refine (z8f [Rq.oidN x.oid,Dr.prim 4 x.val] _ _ _ (Old w) _ (by have h0:=Rq.z8F x.oid;have h1:=Dr.z3j 4 x.val;simp only [Dr.wts];omega) (by exact Is.lit2 (Blk.new W1 _ _) ((H2.out.stays HB5.out).stays ((Below.refl _ W1).alloc (Nat.le_refl _) _)) (H5.out.stays ((Below.refl _ W1).alloc (Nat.le_refl _) _)) (Nat.not_lt.2 hw1))).mono ?_);rintro e W2 ⟨v6,rfl,h6,hb6⟩;obtain ⟨c6,t6,k6,A8,nb6,cb6,A9,nk6,ck6,rfl⟩:=h6.z7Z;have HO4:Hid (Blk W2 P4 61 #[.int .i64 c1,.int .i64 t1,.bool k1,.slice A1 nb1 cb1,.slice A2 nk1 ck1]):=(HO3.out.alloc _).below hb6 (HO3.out.alloc _).lt;have HX4:Hid (Blk W2 w.heap.size 87 #[.string s,.bool false,.slice A n c]):=(HX3.out.alloc _).below hb6 (HX3.out.alloc _).lt;have HB6:Hid (Below w.heap.size w W2):=HB2.out.trans ((HB5.out.trans (((Below.refl _ W1).alloc (Nat.le_refl _) _).mono HB5.out.size |>.trans (hb6.mono (by have:=HB5.out.size;simp;omega)))).mono HB2.out.size);have HK4:Hid (Blk W2 (w.heap.size+1) 61 #[.int .i64 0,.int .i64 0,.bool false,.slice none 0 0,.slice none 0 0]):=((HK2.out.below HB5.out HK2.out.lt).alloc _).below hb6 ((HK2.out.below HB5.out HK2.out.lt).alloc _).lt;have H6:Hid (NdAt W2 (fun g=>g<P4+1) (.agg #[.int .i64 c6,.int .i64 t6,.bool k6,.slice A8 nb6 cb6,.slice A9 nk6 ck6]) (Dr.seq [Rq.oidN x.oid,Dr.prim 4 x.val])):=h6.less (fun b hb _=>by have h7:=HO3.out.lt;have:b<P4+1:=hb;show b<(W1.alloc _).heap.size;simp;omega);clear hf5 hf3 ha5 ha3 h6 hb6;have hf5:=HO4.out.five;have hf3:=HX4.out.three;have hk5:=HK4.out.five))
    go_wp2_with fail
    have hE:Rq.exN x=Dr.seq [Rq.oidN x.oid,Dr.prim 4 x.val]:=by unfold Rq.exN;rw [←HCR.out];rfl
    exact bodyPost_ret (z1T Tryz.results71 _ _ (HK4.out.set5 _ _ _ _ _) rfl rfl) rfl (HG.out W2 _ _ _ _ _ HB6.out (by rw [hE];exact H6.out))
   | true=>
    have HGOOD:∀ (V9:World) (a b c d e:Value),Below w.heap.size w V9→NdAt V9 (fun g=>g<P4+1) (.agg #[a,b,c,d,e]) (Rq.exN x)→z6o x w (.returned (.tuple #[.agg #[a,b,c,d,e],.int .i64 0])) (World.set5 V9 (w.heap.size+1) a b c d e):=by
     exact zeH
    have HG:=Lib.hid HGOOD;clear HGOOD;have hne1:¬(P4=w.heap.size+1):=by have:=HP4.out;omega
    have hne2:¬(w.heap.size+1=P4):=fun h=>hne1 h.symm
    have hxl:x.val.length≤40000:=by rw [←HN.out];exact hz
    have hol:x.oid.length≤90000:=by rw [←HSE.out];exact hsl
    have HS:Hid (CS w V2 (w.heap.size+1) P4 c1 t1 k1 (.slice A1 nb1 cb1) (.slice A2 nk1 ck1) s true A n c Av x):=⟨HB2.out,H2.out,HO2.out,HX2.out,HK2.out,HI2.out⟩
    go_upto_region 5 with fail
    go_region_held3 (fun w'=>w'.cell? ⟨P4,0,none⟩=some (.int .i64 c1)∧w'.cell? ⟨P4,1,none⟩=some (.int .i64 t1)∧w'.cell? ⟨P4,2,none⟩=some (.bool k1)∧w'.cell? ⟨P4,3,none⟩=some (.slice A1 nb1 cb1)∧w'.cell? ⟨P4,4,none⟩=some (.slice A2 nk1 ck1)∧w'.cell? ⟨w.heap.size,2,none⟩=some (.slice A n c)) (first|go_keep) (first
     | (go_at_call 34;(with_reducible refine (z1d 1 _ 1 1 [255] (Old w) _ (by exact lit8 (Blk.new V2 _ _).drew (Nat.not_lt.2 HS.out.below.size) (by decide)) (by omega)).mono ?_);rintro e W3 ⟨v7,rfl,h7,hb7⟩;obtain ⟨c7,t7,k7,B6,nb7,cb7,B7,nk7,ck7,rfl⟩:=h7.z7Z;have HP1:Hid (NdAt W3 (Old w) (.agg #[.int .i64 c7,.int .i64 t7,.bool k7,.slice B6 nb7 cb7,.slice B7 nk7 ck7]) (Dr.prim 1 [255])):=h7.less (fun b hb _=>Nat.lt_of_lt_of_le hb HS.out.alloc.drew.below.size);have HS3:=Lib.hid (HS.out.alloc.drew.stays hb7);clear h7 hb7;have hcs:=HS3.out.cells)
     | (go_at_call 34;(with_reducible refine (z1d 4 A n c x.val Av _ (by exact HS3.out.val) (by omega)).mono ?_);rintro e W1 ⟨v5,rfl,h5,hb5⟩;obtain ⟨c5,t5,k5,A6,nb5,cb5,A7,nk5,ck5,rfl⟩:=h5.z7Z;have HP2:Hid (NdAt W1 (Old w) (.agg #[.int .i64 c5,.int .i64 t5,.bool k5,.slice A6 nb5 cb5,.slice A7 nk5 ck5]) (Dr.prim 4 x.val)):=h5.less (fun b hb _=>Nat.lt_of_lt_of_le hb HS3.out.below.size);have HP11:=Lib.hid (HP1.out.stays hb5);have HS1:=Lib.hid (HS3.out.stays hb5);clear h5 hb5;have hcs1:=HS1.out.cells;have hca1:=fun ob=>(HS1.out.alloc (ob:=ob)).cells)
     | (go_at_call 137;(with_reducible refine (z8f [Rq.oidN x.oid,Dr.prim 1 [255],Dr.prim 4 x.val] _ _ _ (Old w) _ (by have h0:=Rq.z8F x.oid;have h1:=Dr.z3j 4 x.val;have h2:=Dr.z3j 1 [255];simp only [Dr.wts];simp at h2;omega) (by exact Is.lit3 (Blk.new W1 _ _) HS1.out.alloc.on (HP11.out.stays ((Below.refl _ _).alloc (Nat.le_refl _) _)) (HP2.out.stays ((Below.refl _ _).alloc (Nat.le_refl _) _)) (Nat.not_lt.2 HS1.out.below.size))).mono ?_);rintro e W5 ⟨v6,rfl,h6,hb6⟩;obtain ⟨c6,t6,k6,A8,nb6,cb6,A9,nk6,ck6,rfl⟩:=h6.z7Z;have H6:Hid (NdAt W5 (fun g=>g<P4+1) (.agg #[.int .i64 c6,.int .i64 t6,.bool k6,.slice A8 nb6 cb6,.slice A9 nk6 ck6]) (Dr.seq [Rq.oidN x.oid,Dr.prim 1 [255],Dr.prim 4 x.val])):=h6.less (fun b hb _=>Nat.lt_of_lt_of_le hb HS1.out.alloc.blkO.lt);have HS5:=Lib.hid (HS1.out.alloc.stays hb6);clear h6 hb6 hcs hcs1 hca1;have hcs5:=HS5.out.cells;have hck:=HS5.out.blkK.five))
    ·go_wp2_with fail
     have hE:Rq.exN x=Dr.seq [Rq.oidN x.oid,Dr.prim 1 [255],Dr.prim 4 x.val]:=by unfold Rq.exN;rw [←HCR.out];rfl
     exact bodyPost_ret (z1T Tryz.results71 _ _ (HS5.out.blkK.set5 _ _ _ _ _) rfl rfl) rfl (HG.out _ _ _ _ _ _ HS5.out.below (by rw [hE];exact H6.out))
  ·have hd2:decide ((2000:Int)<(n:Int))=true:=decide_eq_true (by omega);have HF:Hid (Rq.exOk x=false):=by show _=_;unfold Rq.exOk;rw [←HN.out,decide_eq_false h2,Bool.and_false]
   clear h2;exact zey
end Go.Proofs.YtgmppconibklcaaGreatDoor

namespace Go.Proofs.YtgmppconibklcaaGreatDoor
open Go Go.RowKit Go.WideMaps Go.Maps
theorem zeg:Keyed Tryz.prog 9:=string_keyed Tryz.underlying9
theorem zhB (w:World):(zeroValue 4).run Tryz.prog w = .ok (.bool false) w:=by kernel_rfl
theorem z5t {H:Type} {P:Program} {e:TypeId} (he:P.underlying e=some .bool) {v:Value} {z:DataW H×List MemPlace} (h:plainElem P e v=some z):∃ x,v = .bool x∧z=(.lit (.bool x),[]):=by
 unfold plainElem at h;rw [he] at h;cases v<;>simp at h;exact ⟨_,rfl,h.symm⟩
def Seen (w:World) (b n:Nat) (l:List (List UInt8)):Prop:=∃ D:DataW Unit,w.ownsMap Tryz.prog 9 (plainElem Tryz.prog 4) b n D∧IsMap D∧∀ t:List UInt8,D.atKey (.string t) (.lit (.bool false)) = .lit (.bool (decide (t∈l)))
section
variable {w w':World} {b n:Nat} {l:List (List UInt8)}
theorem Seen.made (w:World):Seen (w.alloc (.map #[] 0)) w.heap.size 0 []:=⟨.map [],World.ownsMap_made _ _ _ _,⟨[],rfl⟩,fun t=>by simp [DataW.atKey]⟩
theorem Seen.lt (h:Seen w b n l):b<w.heap.size:=by obtain ⟨D,h,_⟩:=h;exact h.lt
theorem Seen.kept {row:Option Nat} (h:Seen w b n l) (hg:w.grownBy w' row) (hne:some b≠row):Seen w' b n l:=by
 obtain ⟨D,h,hm,ha⟩:=h;exact ⟨D,h.kept hg hne,hm,ha⟩
theorem Seen.below (h:Seen w b n l) (hb:Below w.heap.size w w'):Seen w' b n l:=h.kept (row:=none) (z0e hb none) (by simp)
theorem Seen.look (h:Seen w b n l) (s:ByteArray) (hs:s.size≤maxLen):(Instr.lookup 116 (.map (some b)) (.string s) false).run Tryz.prog w = .ok (.bool (decide (s.data.toList∈l))) w:=by
 obtain ⟨D,h,_,ha⟩:=h;obtain ⟨v,ps,hrun,hv⟩:=h.lookup zeg Tryz.underlying116 (zhB w) (plainElem_bool Tryz.underlying4 false) (keyOf_string_mk Tryz.underlying9 hs);obtain ⟨x,rfl,hx⟩:=z5t Tryz.underlying4 hv;rw [ha] at hx;simp only [Prod.mk.injEq,DataW.lit.injEq,Lit.bool.injEq] at hx;rw [hrun,hx.1]
theorem zcK {ops:Array Oper} {rest:List Oper} {o:Oper} {a:Act} {Q:Exit→Act→World→Prop} (hgd:o.guard=none) (m x:Operand) (ho:o.op=Op.mapUpdate 116 m x (.const (.bool true)))
  (hm:a.eval m = .map (some b)) (h:Seen w b n l) (s:ByteArray) (hx:a.eval x = .string s) (hs:s.size≤90000) (hn:n≤1000000)
  (hK:∀ w',Seen w' b (n+1) (s.data.toList::l)→w.grownBy w' (some b)→wpList Tryz.prog ops Q rest (a.put o.dst undef) w'):wpList Tryz.prog ops Q (o::rest) a w:=by
 obtain ⟨D,h,hmap,ha⟩:=h;refine wpList_mapUpdate_own w hgd m x (.const (.bool true)) 116 ho 9 4 zeg Tryz.underlying116 (plainElem (H:=Unit) Tryz.prog 4) b n D hm h (by unfold maxLen;omega) (.string s) (.bool true) (.string s.data.toList) hx rfl (keyOf_string_mk Tryz.underlying9 (by unfold maxLen;omega)) (.lit (.bool true)) [] (plainElem_bool Tryz.underlying4 true) (fun w' h1 h2=>hK w' ⟨_,h1,hmap.put _ _,fun t=>?_⟩ h2);by_cases ht:t=s.data.toList
 ·subst ht;rw [atKey_put_same hmap (by trivial)];simp
 ·rw [atKey_put_other (by simpa using ht),ha];simp [ht]
end
end Go.Proofs.YtgmppconibklcaaGreatDoor

namespace Go.Proofs.YtgmppconibklcaaGreatDoor
open Go Go.RowKit
def z2W (e:Rq.Ex):List D:=[.leaf (.string ⟨e.oid.toArray⟩),.leaf (.bool e.crit),z04 e.val]
theorem z3U (e:Rq.Ex):(z2W e).length=3:=rfl
abbrev exsD (l:List Rq.Ex):D:= .row 3 (l.flatMap z2W)
theorem Is.exs {w:World} {Av:Nat→Prop} {A:Option Addr} {n c:Nat} {l:List Rq.Ex} (h:Is w Av (.slice A n c) (exsD l)):n=l.length∧n≤c∧∀ k (hk:k<l.length),∃ g o A1 nb cb,A=some ⟨g,o,none⟩∧w.cell? ⟨g,o+k*3,none⟩=some (.string ⟨l[k].oid.toArray⟩)∧w.cell? ⟨g,o+k*3+1,none⟩=some (.bool l[k].crit)∧w.cell? ⟨g,o+k*3+2,none⟩=some (.slice A1 nb cb)∧Is w Av (.slice A1 nb cb) (z04 l[k].val):=by
 obtain ⟨A',c',e,hc,he⟩:=h.elems z3U;injection e with e1 e2 e3;subst e1 e3;refine ⟨e2,by omega,fun k hk=>?_⟩;obtain ⟨g,o,us,hA,hg,ha,hcell⟩:=he k hk;unfold z2W at ha;obtain ⟨u0,t0,rfl,h0,ha⟩:=ha.z2u;obtain ⟨u1,t1,rfl,h1,ha⟩:=ha.z2u;obtain ⟨u2,t2,rfl,h2,ha⟩:=ha.z2u;obtain rfl:=ha.zhk;obtain ⟨A1,cb,rfl,_⟩:=h2.bytes;exact ⟨g,o,A1,_,cb,hA,by rw [←h0.z0M];exact hcell 0 _ rfl,by rw [Nat.add_assoc,←h1.z0M];exact hcell 1 _ rfl,by rw [Nat.add_assoc];exact hcell 2 _ rfl,h2⟩
structure EI (w wr:World) (l:List Rq.Ex) (i:Nat) (v:Value) (xs:List Value):Prop where
 own:wr.ownsRow (w.heap.size+1) 61 5 v i xs
 all:z0z wr (fun g=>g<w.heap.size+1∨v.ownBlock=some g) xs (((l.take i).map Rq.exN).flatMap Nd.cells)
 seen:Seen wr w.heap.size i ((l.take i).map (·.oid)).reverse
 ok:(l.take i).all Rq.exOk=true∧((l.take i).map (·.oid)).Nodup
 below:Below w.heap.size w wr
def zaW (l:List Rq.Ex) (w:World) (e:Ending) (w':World):Prop:=∃ A m c,e = .returned (.tuple #[.slice A m c,.bool (Rq.z0N l)])∧(Rq.z0N l=true→Is w' (Old w) (.slice A m c) (ndsD (l.map Rq.exN)))∧Below w.heap.size w w'
theorem zjb {l:List Rq.Ex} {w w':World} {e:Ending} {A:Option Addr} {m c:Nat} (h:Rq.z0N l=false) (he:e = .returned (.tuple #[.slice A m c,.bool false])) (hb:Below w.heap.size w w'):zaW l w e w':=by
 refine ⟨A,m,c,by rw [h];exact he,fun h'=>?_,hb⟩;rw [h] at h';cases h'
theorem zfe {l:List Rq.Ex} {w w':World} {e:Ending} {A:Option Addr} {m c:Nat} {B:Bool} (h:Rq.z0N l=B) (he:e = .returned (.tuple #[.slice A m c,.bool B])) (hi:Is w' (Old w) (.slice A m c) (ndsD (l.map Rq.exN))) (hb:Below w.heap.size w w'):zaW l w e w' :=
 ⟨A,m,c,by rw [h];exact he,fun _=>hi,hb⟩
theorem zlj {l:List Rq.Ex} {k:Nat} (hk:k<l.length) (h:Rq.exOk l[k]=false):Rq.z0N l=false:=by
 unfold Rq.z0N;have:l.all Rq.exOk=false:=by rw [List.all_eq_false];exact ⟨l[k],List.getElem_mem hk,by simp [h]⟩
 rw [this,Bool.and_false,Bool.false_and]
theorem zgJ {l:List Rq.Ex} {k:Nat} (hk:k<l.length) (h:l[k].oid∈(l.take k).map (·.oid)):Rq.z0N l=false:=by
 unfold Rq.z0N;have:decide ((l.map (·.oid)).Nodup)=false:=by
  rw [decide_eq_false_iff_not];intro hn;have e:l=l.take k++l[k]::l.drop (k+1):=by rw [←List.drop_eq_getElem_cons hk,List.take_append_drop]
  rw [e,List.map_append,List.map_cons,List.nodup_append] at hn;exact hn.2.2 _ h _ List.mem_cons_self rfl
 rw [this,Bool.and_false]
theorem EI.step {w wr V3 V4 V6:World} {l:List Rq.Ex} {i:Nat} {v v':Value} {xs:List Value} {a b c d e:Value} (h:EI w wr l i v xs) (hi:i<l.length) (hok:Rq.exOk l[i]=true) (hnew:l[i].oid∉(l.take i).map (·.oid))
  (hb3:Below wr.heap.size wr V3) (hs:Seen V4 w.heap.size (i+1) (l[i].oid::((l.take i).map (·.oid)).reverse)) (hg4:V3.grownBy V4 (some w.heap.size)) (hn:NdAt V3 (Old wr) (.agg #[a,b,c,d,e]) (Rq.exN l[i]))
  (o6:V6.ownsRow (w.heap.size+1) 61 5 v' (i+1) (xs++[a,b,c,d,e])) (g6:V4.grownBy V6 v.ownBlock) (k6:∀ g,v'.ownBlock=some g→v.ownBlock=some g∨V4.heap.size≤g):EI w V6 l (i+1) v' (xs++[a,b,c,d,e]):=by
 have hlt:∀ g,v.ownBlock=some g→w.heap.size+1≤g∧g<wr.heap.size:=fun g hg=>h.own.lt g hg
 have hwl:=h.seen.lt;have et:l.take (i+1)=l.take i++[l[i]]:=List.take_succ_eq_append_getElem hi;refine ⟨o6,?_,?_,⟨?_,?_⟩,?_⟩
 ·have a4:z0z V4 (fun g=>g<w.heap.size+1∨v.ownBlock=some g) xs (((l.take i).map Rq.exN).flatMap Nd.cells):=h.all.keep fun u d hu=>(hu.stays hb3).grown hg4 (fun g hg=>by injection hg with hg;subst hg;exact .inl (Nat.lt_succ_self _))
  have n4:z0z V4 (fun g=>g<w.heap.size+1∨v.ownBlock=some g) [a,b,c,d,e] (Rq.exN l[i]).cells:=by
   have h3:NdAt V3 (fun g=>g<w.heap.size+1∨v.ownBlock=some g) (.agg #[a,b,c,d,e]) (Rq.exN l[i]):=hn.less (fun g hg _=>by
    rcases hg with hg|hg
    ·show g<wr.heap.size;omega
    ·exact (hlt g hg).2)
   exact h3.all_.keep fun u d hu=>hu.grown hg4 (fun g hg=>by injection hg with hg;subst hg;exact .inl (Nat.lt_succ_self _))
  rw [et,List.map_append,List.map_singleton,Nd.z6h];exact z0z.step (O:=fun g=>g<w.heap.size+1) a4 n4 g6 k6
 ·rw [et,List.map_append,List.map_singleton,List.reverse_append,List.reverse_singleton];exact hs.kept g6 (fun e=>by have:=(hlt _ e.symm).1;omega)
 ·rw [et,List.all_append,h.ok.1];simp [hok]
 ·rw [et,List.map_append,List.map_singleton,List.nodup_append];refine ⟨h.ok.2,by simp,fun x hx y hy=>?_⟩;simp at hy;subst hy;exact fun e=>hnew (by rw [←e];exact hx)
 ·have h3:=h.below.trans (hb3.mono h.below.size);have h4:=h3.grown hg4 h3.size (fun k hk=>by injection hk with hk;omega);exact h4.grown g6 h4.size (fun k hk=>by have:=(hlt k hk).1;omega)
theorem zcP (l:List Rq.Ex) (A:Option Addr) (n c:Nat) (Av:Nat→Prop) (w:World) (h:Is w Av (.slice A n c) (exsD l)) (hs:∀ e∈l,e.oid.length≤90000∧e.val.length≤40000) (hz:l.length≤10000):
  Calls Tryz.prog 28 #[.slice A n c] w (zaW l w):=by
 have hmm:=@run_makeMap Tryz.prog;obtain ⟨hn,hnc,hel⟩:=h.exs;obtain ⟨i5,hi5,hz50,hz51,hz52⟩:=info_parts ziY;have hn9:n≤10000:=by omega
 have Hn:=Lib.hid hn;have HEL:=Lib.hid hel;have HSZ:=Lib.hid hs;clear h hn hel hs hz;go_enter Tryz.func28,Tryz.ntmps28
 go_wp2_with fail
 go_loopw [4,13] (fun t4 t13 wr=>∃ (i:Nat) (xs:List Value),t13 = .int .i64 i∧i≤n∧Hid (EI w wr l i t4 xs)) (fun _ t13 _=>n-(intOf t13).toNat)
 case atStart=>exact ⟨0,[],rfl,Nat.zero_le _,World.ownsRow_nil _ _ _ _,.nil_,Seen.made w,⟨rfl,List.nodup_nil⟩,(Below.refl _ w).alloc (Nat.le_refl _) _⟩
 case round=>
  obtain ⟨i,xs,rfl,hi,HI⟩:=hrel;clear hmm;by_cases hin:i<n
  ·have hin1:decide ((i:Int)<(n:Int))=true:=decide_eq_true (by omega);have hil:i<l.length:=by rw [←Hn.out];exact hin
   obtain ⟨g,o,A1,nb,cb,rfl,k0,k1,k2,kb⟩:=HEL.out i hil;obtain ⟨x,hx⟩:∃ x,x=l[i]'hil:=⟨_,rfl⟩;rw [←hx] at k0 k1 kb;obtain ⟨hs1,hs2⟩:=HSZ.out x (by rw [hx];exact List.getElem_mem hil);obtain ⟨s,hsx⟩:∃ s:ByteArray,s=⟨x.oid.toArray⟩:=⟨_,rfl⟩;have hsl:s.size≤90000:=by rw [hsx];show x.oid.toArray.size≤_;simpa using hs1
   have hse:s.data.toList=x.oid:=by rw [hsx]
   obtain ⟨crit,hcr⟩:∃ k,k=x.crit:=⟨_,rfl⟩;have hxat:ExAt w Av (.agg #[.string s,.bool crit,.slice A1 nb cb]) x:=⟨_,by rw [hsx,hcr],kb⟩;rw [←hsx] at k0;rw [←hcr] at k1;have hbw:=HI.out.below;have c0:=z0n hbw k0;have c1:=z0n hbw k1;have c2:=z0n hbw k2;obtain ⟨V1,hV1,hb1,hk1,hs1'⟩:=z1V wr 87 #[.string s,.bool crit,.slice A1 nb cb];have HXA:=Lib.hid ((hxat.stays hbw).stays hb1);have HB1:=Lib.hid hb1;have HK1:=Lib.hid hk1;have HV1:=Lib.hid hV1;have HX:=Lib.hid hx;have HSE:=Lib.hid hse;have HSB:=Lib.hid (And.intro hs1 hs2);clear k0 k1 k2 kb hx hsx hse hcr hxat hbw hV1 hb1 hk1 hs1' hs1 hs2
   go_upto_region 6 with fail
   rw [←HV1.out];obtain ⟨P1,hP1⟩:∃ P,P=wr.heap.size:=⟨_,rfl⟩;rw [←hP1] at HK1 ⊢;have HP1:=Lib.hid hP1;clear c0 c1 c2 hP1;obtain ⟨e0,e1,e2,_,_,_⟩:=HK1.out.three
   go_wp2_with fail
   refine (z8g x _ Av V1 HXA.out HSB.out.1 HSB.out.2).mono ?_;rintro e V2 ⟨v2,rfl,h2,hb2⟩;obtain ⟨c2,t2,k2,A2,nb2,cb2,A3,nk2,ck2,rfl⟩:=h2.z7Z;obtain ⟨ok,hok⟩:∃ ok,ok=Rq.exOk x:=⟨_,rfl⟩;rw [←hok] at h2 ⊢;have HOK:=Lib.hid hok;have HB2:Hid (Below wr.heap.size wr V2):=HB1.out.trans (hb2.mono HB1.out.size);have HK2:=Lib.hid (HK1.out.below hb2 HK1.out.lt);have H2:Hid (NdAt V2 (Old wr) (.agg #[.int .i64 c2,.int .i64 t2,.bool k2,.slice A2 nb2 cb2,.slice A3 nk2 ck2]) (if ok then Rq.exN x else Nd.nil)):=h2.less (fun b hb _=>Nat.lt_of_lt_of_le hb HB1.out.size);clear h2 hb2 hok e0 e1 e2 HK1 HXA;cases ok with
   | false=>
    have HN:Hid (Rq.z0N l=false):=zlj hil (by rw [←HX.out];exact HOK.out.symm);have HB3:Hid (Below w.heap.size w V2):=HI.out.below.trans (HB2.out.mono HI.out.below.size);simp only [Bool.false_eq_true,if_false]
    go_wp2_with fail
    go_ret2
    exact zjb HN.out rfl (HB3.out.alloc HB3.out.size _)
   | true=>
    simp only [if_true] at H2;simp only [if_true]
    go_upto_region 7 with fail
    obtain ⟨V3,hV3,hb3,hk3,hs3⟩:=z1V V2 61 #[.int .i64 c2,.int .i64 t2,.bool k2,.slice A2 nb2 cb2,.slice A3 nk2 ck2];rw [←hV3];obtain ⟨P8,hP8⟩:∃ P,P=V2.heap.size:=⟨_,rfl⟩;have HB3:Hid (Below wr.heap.size wr V3):=HB2.out.trans (hb3.mono HB2.out.size);have H3:=Lib.hid (H2.out.stays hb3);have HK3:=Lib.hid (HK2.out.below hb3 HK2.out.lt);have HW1:Hid (w.heap.size<P1):=by have:=HI.out.seen.lt;rw [←HP1.out] at this;exact this
    have HW8:Hid (w.heap.size<P8):=by have h1:=HK2.out.lt;have h2:=HW1.out;rw [hP8];show _<_;omega
    rw [←hP8] at hk3 ⊢;have HQ3:=Lib.hid hk3;have hseen:Seen V3 w.heap.size i ((l.take i).map (·.oid)).reverse:=HI.out.seen.below HB3.out;have HS3:=Lib.hid hseen;have hlook:=hseen.look s (by unfold maxLen;omega);obtain ⟨B,hB⟩:∃ B,B=decide (s.data.toList∈((l.take i).map (·.oid)).reverse):=⟨_,rfl⟩;rw [←hB] at hlook;have HBB:Hid (B=decide (l[i].oid∈(l.take i).map (·.oid))):=by show _=_;rw [hB,HSE.out,HX.out];simp
    clear hV3 hb3 hk3 hs3 hP8 hseen hB;obtain ⟨e0,e1,e2,_,_,_⟩:=HK3.out.three;obtain ⟨q0,q1,q2,q3,q4,f0,f1,f2,f3,f4⟩:=HQ3.out.five;cases B with
    | true=>
     have HN:Hid (Rq.z0N l=false):=zgJ hil (of_decide_eq_true HBB.out.symm);have HB4:Hid (Below w.heap.size w V3):=HI.out.below.trans (HB3.out.mono HI.out.below.size)
     go_wp2_with fail
     go_ret2
     exact zjb HN.out rfl HB4.out
    | false=>
     have HNEW:Hid (l[i].oid∉(l.take i).map (·.oid)):=of_decide_eq_false HBB.out.symm;have hi6:i≤1000000:=by omega
     go_upto_region 9 with fail
     clear hlook;have HOWN3:Hid (V3.ownsRow (w.heap.size+1) 61 5 u4 i xs):=z1y HI.out.own HB3.out
     go_wp2_with (first
      | (at_mapUpdate;refine zcK rfl (.tmp 30) (.tmp 32) rfl rfl HS3.out s rfl hsl hi6 ?_;intro V4 hs4 hg4;have HS4:=Lib.hid hs4;have HG4:=Lib.hid hg4;have HQ4:Hid (Blk V4 P8 61 #[.int .i64 c2,.int .i64 t2,.bool k2,.slice A2 nb2 cb2,.slice A3 nk2 ck2]):=HQ3.out.grown hg4 (fun e=>by have h3:=HW8.out;injection e with e;omega);clear hs4 hg4 q0 q1 q2 q3 q4 f0 f1 f2 f3 f4 e0 e1 e2;obtain ⟨q0,q1,q2,q3,q4,f0,f1,f2,f3,f4⟩:=HQ4.out.five;have hbase:w.heap.size+1≤V4.heap.size:=(by have h1:=HI.out.seen.lt;have h2:=HB3.out.size;have h3:=HG4.out.size;omega);have HOWN4:=Lib.hid (HOWN3.out.kept HG4.out (.inr (fun e=>by have:=(HOWN3.out.lt _ e).1;omega))))
      | (at_builtin;refine z6p rfl (.tmp 33) (.tmp 35) 59 61 rfl (w.heap.size+1) i5 _ 5 72 Tryz.underlying59 hi5 hz50 hz51 hz52 rfl (by decide) u4 i xs rfl HOWN4.out [.int .i64 c2,.int .i64 t2,.bool k2,.slice A2 nb2 cb2,.slice A3 nk2 ck2] rfl (by intro u hu;simp at hu;rcases hu with rfl|rfl|rfl|rfl|rfl<;>rfl) 1 rfl (by omega) (by decide) hbase ?_;intro v6 V6 o6 g6 k6))
     have hsx:s.data.toList=l[i].oid:=by rw [HSE.out,HX.out]
     have h4:=HS4.out;rw [hsx] at h4;have hxi:Rq.exN x=Rq.exN l[i]:=by rw [HX.out]
     have h3:=H3.out;rw [hxi] at h3;refine ⟨⟨i+1,_,by go_num,by omega,HI.out.step hil (by rw [←HX.out];exact HOK.out.symm) HNEW.out HB3.out h4 HG4.out h3 o6 g6 k6⟩,by simp [intOf];omega⟩
  ·have hin1:decide ((i:Int)<(n:Int))=false:=decide_eq_false (by omega);have hin2:decide (i<n)=false:=decide_eq_false hin;obtain rfl:i=n:=by omega
   clear hin;have et:l.take i=l:=List.take_of_length_le (by rw [←Hn.out];exact Nat.le_refl _);have hok:Rq.z0N l=decide (i≤32):=by
    have h1:=HI.out.ok;rw [et] at h1;unfold Rq.z0N;rw [h1.1,decide_eq_true h1.2,Bool.and_true,Bool.and_true,Hn.out]
   have HOK:=Lib.hid hok;have HIS:Hid (Is wr (Old w) u4 (ndsD (l.map Rq.exN))):=by
    have h1:=HI.out.all;rw [et] at h1;refine zbL HI.out.own (h1.keep fun u d hu=>hu.less (fun b hb _=> .inl (by have:b<w.heap.size:=hb;omega))) ?_ (by decide) (fun g hg=>by have:g<w.heap.size:=hg;omega);rw [z1H Nd.z1Z,List.length_map,Hn.out]
   obtain ⟨A',m',c',xs',e4,_⟩:=HIS.out.open_row;subst e4;by_cases h32:i≤32
   ·have hd:decide ((i:Int)≤32)=true:=decide_eq_true (by omega);have HD:=Lib.hid h32;clear h32 hok et
    go_wp2_with fail
    go_ret2
    exact zfe (B:=true) (by rw [HOK.out,decide_eq_true HD.out]) rfl HIS.out HI.out.below
   ·have hd:decide ((i:Int)≤32)=false:=decide_eq_false (by omega);have HD:=Lib.hid h32;clear h32 hok et
    go_wp2_with fail
    go_ret2
    exact zfe (B:=false) (by rw [HOK.out,decide_eq_false HD.out]) rfl HIS.out HI.out.below
end Go.Proofs.YtgmppconibklcaaGreatDoor

namespace Go.Proofs.YtgmppconibklcaaGreatDoor
open Go Go.RowKit
namespace Am
variable {gl:Nat→Option (List D)}
def exL (l:List Rq.Ex):List D:=l.flatMap z2W
def exR (l:List Rq.Ex):D:= .row 3 (exL l)
@[simp] theorem row_exL (l:List Rq.Ex):D.row 3 (exL l)=exR l:=rfl
@[simp] theorem row_nil3:D.row 3 []=exR []:=rfl
@[simp] theorem exL_len (l:List Rq.Ex):(exL l).length=l.length*3:=z5C z3U l
@[simp] theorem exL_app (l k:List Rq.Ex):exL l++exL k=exL (l++k):=by simp [exL]
abbrev exX (e:Rq.Ex):E:= .agg [.d (.leaf (.string ⟨e.oid.toArray⟩)),.d (.leaf (.bool e.crit)),.d (z04 e.val)]
theorem zjg (e:Rq.Ex):[D.leaf (.string ⟨e.oid.toArray⟩),.leaf (.bool e.crit),z04 e.val]=exL [e]:=by simp [exL,z2W]
theorem DOk.exs (l:List Rq.Ex):DOk (exsD l):= .row _ _ fun d hd=>by
 obtain ⟨e,_,he⟩:=List.mem_flatMap.1 hd;simp only [z2W,List.mem_cons,List.not_mem_nil,or_false] at he;rcases he with rfl|rfl|rfl
 ·exact .leaf _ rfl
 ·exact .leaf _ rfl
 ·exact .bytes _
def z4G (l:List Rq.Ex):E:=if Rq.z0N l=true then rX (ndR (l.map Rq.exN)) else .one .dead
@[simp] theorem zlk (l:List Rq.Ex):(z4G l).z2y 0=true:=by unfold z4G;split<;>rfl
@[simp] theorem zjc (l:List Rq.Ex) (b:Nat):(z4G l).ren b=z4G l:=by unfold z4G;split<;>rfl
theorem zjd (l:List Rq.Ex):(z4G l).isD=true:=by unfold z4G;split<;>rfl
theorem zff (l:List Rq.Ex) (b:Bool):(T.tup [z4G l,bX b]).z2y 0=true:=by
 show ((z4G l).z2y 0&&((bX b).z2y 0&&true))=true;rw [zlk];rfl
theorem zcb (l:List Rq.Ex) (b:Bool) (n:Nat):(T.tup [z4G l,bX b]).ren n=T.tup [z4G l,bX b]:=by
 show T.tup [(z4G l).ren n,(bX b).ren n]=_;rw [zjc];rfl
theorem zja (l:List Rq.Ex) (hs:∀ e∈l,e.oid.length≤90000∧e.val.length≤40000) (hz:l.length≤10000):OK gl 28 [rX (exR l)] (.tup [z4G l,bX (Rq.z0N l)]):=
 z0v rfl (by simp [T.isD,zjd];rfl) z0q fun w vals hT hargs=>by
  obtain ⟨v,rfl,h⟩:=hargs.one_;have hi:Is w (fun _=>False) v (exsD l):=z3p (show RD (imOf w _) v (exsD l) from h);obtain ⟨A,n,c,xs,rfl,_⟩:=hi.open_row;refine (zcP l A n c _ w hi hs hz).mono ?_;rintro e w' ⟨A',m,c',rfl,h1,hb⟩;refine ⟨_,rfl,z2q (.z0D ?_ (.z0D (.leaf _ rfl) .nil_)),hb⟩;unfold z4G;split
  ·rename_i hok;exact z2D (h1 hok) (.nds _)
  ·show Value.oneCell' (.slice A' m c')=true;rfl
theorem zf0 (has:Bool) (l:List Nat) (hL:Nt.Lb l) (hz:l.length≤100000000):OK gl 29 [bX has,rX (limD l)] (.b (Rq.z0s has (Nt.vl l))):=
 z0v rfl rfl z0q fun w vals hT hargs=>by
  obtain ⟨u,v,rfl,hu,h⟩:=hargs.two;have hi:Is w (fun _=>False) v (limD l):=z3p (show RD (imOf w _) v (limD l) from h);have e0:=RD.z0M hu;subst e0;obtain ⟨A,n,c,xs,rfl,hn,_⟩:=hi.open_row;refine (zb5 has A n c l _ w hi hL (by simp at hn;omega)).mono ?_;rintro e w' ⟨rfl,rfl⟩;exact ⟨_,rfl,z4v rfl,Below.refl _ _⟩
end Am
end Go.Proofs.YtgmppconibklcaaGreatDoor

