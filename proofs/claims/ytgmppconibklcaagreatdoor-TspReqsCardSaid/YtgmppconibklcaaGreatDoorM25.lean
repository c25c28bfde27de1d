/- Part of the proof. No condition. -/
import Derived.Test.YtgmppconibklcaaGreatDoorM24
import Derived.BigRegion
import Derived.Deep.RegionHeld3
import Derived.IntWalk
set_option maxHeartbeats 40000000
set_option maxRecDepth 100000
set_option linter.unusedVariables false
set_option linter.unusedSimpArgs false
namespace Go.Proofs.YtgmppconibklcaaGreatDoor
open Go Go.RowKit
theorem ziE (M:Nat) (ih:zcH M):zjW false (M+1):=by
 intro b A n c rb at_ end_ d w hq hM hr hb hn he ha hd hT;have IH:=Lib.hid ih;have hmf:∀ (fn:Fn) (first cap:Array Value) (w:World),(Instr.makeFunc fn first cap).run Tryz.prog w = .ok (.func fn first cap) w:=fun _ _ _ _=>rfl
 obtain ⟨V0,hV0⟩:∃ V,V=w.alloc (.cells #[.int .i64 0,.int .i64 0,.bool false,.slice none 0 0,.slice none 0 0] 61):=⟨_,rfl⟩;have hP:V0.heap.size=w.heap.size+1:=by rw [hV0];simp [go_sem]
 obtain ⟨V,hV⟩:∃ V,V=V0.alloc (.cells #[.int .i64 at_] 3):=⟨_,rfl⟩;have HG:Hid (w.grownBy V (some rb)):=by show World.grownBy _ _ _;rw [hV,hV0];exact z2G (z2G (World.grownBy.refl _ _) _) _
 have HF:Hid (Blk V (w.heap.size+1) 3 #[.int .i64 at_]):=by show Blk _ _ _ _;rw [hV,←hP];exact Blk.new _ _ _
 have HN:Hid (Blk V w.heap.size 61 #[.int .i64 0,.int .i64 0,.bool false,.slice none 0 0,.slice none 0 0]):=by show Blk _ _ _ _;rw [hV,hV0];exact Blk.alloc (Blk.new w _ _) _
 have HR:Hid (Blk V rb 166 #[.slice A n c,.int .i64 at_]):=by show Blk _ _ _ _;rw [hV,hV0];exact (hr.alloc _).alloc _
 have HI:Hid (Is V (fun g=>g=rb∨w.heap.size≤g) (.slice A n c) (z04 b)):=by show Is _ _ _ _;rw [hV,hV0];exact ((hb.fresh (p:=fun g=>w.heap.size≤g) (fun b h=>h)).alloc _).alloc _
 have HLT:=Lib.hid hr.lt;have HT:=Lib.hid hT;have HV0:=Lib.hid hV0;have HV:=Lib.hid hV;have HP:=Lib.hid hP;have hr0:Blk V0 rb 166 #[.slice A n c,.int .i64 at_]:=by rw [hV0];exact hr.alloc _
 obtain ⟨s0,s1,_,_⟩:=hr0.two;clear hV hV0 hr hr0 hb hT ih hP;go_enter Tryz.func111,Tryz.ntmps111
 go_upto_region 1 with fail
 rw [←HV0.out]
 go_upto_region 2 with fail
 rw [HP.out,←HV.out];clear s0 s1;obtain ⟨p0,p1,f0,f1⟩:=HR.out.two;have q0:V.cell? ⟨w.heap.size+1,0,none⟩=some (.int .i64 at_):=HF.out.cell 0;by_cases hat:at_<end_
 ·have hd:decide (at_<end_)=true:=decide_eq_true hat;obtain ⟨hnl,hnc,hA⟩:=HI.out.byteCells;obtain ⟨g,o,rfl,hgr,hgl,hcell⟩:=hA (by omega);obtain ⟨x,hx⟩:∃ x,x=b[at_]'(by omega):=⟨_,rfl⟩;have k0:V.cell? ⟨g,o+at_,none⟩=some (.int .u8 (x.toNat:Int)):=by rw [hx];exact hcell at_ (by omega)
  have hra:(b.drop at_).take (end_-at_)=x::(b.drop (at_+1)).take (end_-at_-1):=by
   rw [zef hat (by omega),←hx]
  have HRA:=Lib.hid hra;have HQX:Hid ((x.toNat / 32%2==1)=false):=by
   show _=_;rw [←hq,hx,List.getD_eq_getElem?_getD,List.getElem?_eq_getElem (by omega),Option.getD_some]
  have HNL:=Lib.hid hnl;have HGR:Hid (¬(g=rb∨w.heap.size≤g)∧g<V.heap.size):=⟨hgr,hgl⟩;have hi1:(at_:Int)<(n:Int):=by omega
  have HI3:Hid (n≤c):=hnc;clear hnl hnc hA hgr hgl hcell hx hra hq
  go_wp2_with fail
  refine (z0T 30 _ V).mono ?_;rintro e w' ⟨rfl,rfl⟩;obtain ⟨X,hX⟩:∃ X,X=x.toNat:=⟨_,rfl⟩;have hX9:X<256:=by rw [hX];exact x.toNat_lt
  have hw:wrap64 (X:Int)=(X:Int):=by unfold wrap64;omega
  rw [←hX] at k0;have HX:=Lib.hid hX;clear hX
  go_upto_region 4 with fail
  go_quiet (fail)
  go_upto_region 6 with fail
  obtain ⟨V2,hV2⟩:∃ V2,V2=(w'.drewN nq).setCell ⟨rb,1,none⟩ (.int .i64 ((at_:Int)+1)):=⟨_,rfl⟩;have HG2:Hid (w.grownBy V2 (some rb)):=by show World.grownBy _ _ _;rw [hV2];exact z0r (z3B HG.out nq) (.inl rfl) _
  have HR2:Hid (Blk V2 rb 166 #[.slice (some ⟨g,o,none⟩) n c,.int .i64 ((at_:Int)+1)]):=by show Blk _ _ _ _;rw [hV2];exact (HR.out.drewN nq).set_ 1 _
  have HF2:Hid (Blk V2 (w.heap.size+1) 3 #[.int .i64 at_]):=by show Blk _ _ _ _;rw [hV2];exact (HF.out.drewN nq).far (by have:=HLT.out;show _≠rb;omega) _
  have HN2:Hid (Blk V2 w.heap.size 61 #[.int .i64 0,.int .i64 0,.bool false,.slice none 0 0,.slice none 0 0]):=by show Blk _ _ _ _;rw [hV2];exact (HN.out.drewN nq).far (by have:=HLT.out;show _≠rb;omega) _
  have HI2:Hid (Is V2 (fun g=>g=rb∨w.heap.size≤g) (.slice (some ⟨g,o,none⟩) n c) (z04 b)):=by show Is _ _ _ _;rw [hV2];exact (HI.out.drewN nq).setCell (p:=⟨rb,1,none⟩) (.inl rfl) _
  rw [←hV2];clear p0 p1 f0 f1 q0 hV2 k0 HG HR HF HN HI HV HV0;have hcl:=zfA X;have htg:=ze8 X hX9;have hcn:=zcv X hX9;obtain ⟨C,hC⟩:∃ C:Nat,C=X / 64:=⟨_,rfl⟩;obtain ⟨G,hG⟩:∃ G:Nat,G=X%32:=⟨_,rfl⟩;obtain ⟨Q,hQ⟩:∃ Q:Bool,Q=(X / 32%2==1):=⟨_,rfl⟩;rw [←hC] at hcl;rw [←hG] at htg;rw [←hQ] at hcn;have hC4:C<4:=by omega
  have hG4:G<32:=by omega
  have HCGQ:Hid (C=X / 64∧G=X%32∧Q=(X / 32%2==1)):=⟨hC,hG,hQ⟩;clear hC hG hQ
  go_upto_region 7 with fail
  obtain ⟨V3,hV3⟩:∃ V3,V3=V2.alloc (.cells #[.int .i64 C,.int .i64 G,.bool Q,.slice none 0 0,.slice none 0 0] 61):=⟨_,rfl⟩;have HS3:Hid (NS w V3 b (some ⟨g,o,none⟩) n c rb at_ ((at_:Int)+1) V2.heap.size #[.int .i64 C,.int .i64 G,.bool Q,.slice none 0 0,.slice none 0 0]):=by
   have hb:Below V2.heap.size V2 V3:=by rw [hV3];exact (Below.refl _ V2).alloc (Nat.le_refl _) _
   refine ⟨World.grownBy.trans HG2.out (z0e hb _),HR2.out.below hb HR2.out.lt,HF2.out.below hb HF2.out.lt,HN2.out.below hb HN2.out.lt,by rw [hV3];exact Blk.new V2 _ _,?_,HF2.out.lt,HLT.out⟩;exact HI2.out.stays hb
  rw [←hV3];obtain ⟨P,hP⟩:∃ P,P=V2.heap.size:=⟨_,rfl⟩;rw [←hP] at HS3 ⊢;clear hV3 hP hcl htg hcn HG2 HR2 HF2 HN2 HI2 V2 hw hX9 HLT HP;obtain ⟨p0,p1,p2,p3,p4,g0,g1,g2,g3,g4⟩:=HS3.out.nd.five
  go_wp2_with fail
  refine (z4B C G Q _ _ V3).mono ?_;rintro e V4 ⟨rfl,hb4⟩;have HS4:=Lib.hid (HS3.out.below hb4);clear hb4 p0 p1 p2 p3 p4 g0 g1 g2 g3 g4 HS3 V3;have q0:V4.cell? ⟨w.heap.size+1,0,none⟩=some (.int .i64 at_):=HS4.out.frm.cell 0;cases hm:Dr.may C G Q with
  | false=>
   have HM:Hid (Dr.rd d ((b.drop at_).take (end_-at_))=none):=by
    show _=_;obtain ⟨hC,hG,hQ⟩:=HCGQ.out;rw [HRA.out];exact zhZ HX.out (by rw [←hC,←hG,←hQ];exact hm)
   clear hm
   go_wp2_with fail
   refine (z13 31 at_ _ V4 q0).mono ?_;rintro e w' ⟨rfl,rfl⟩;exact ⟨rfl,z27 HM.out HS4.out.grown (by decide) rfl⟩
  | true=>
   have HM:=Lib.hid hm;clear hm
   go_wp2_with fail
   refine (z0T 31 _ V4).mono ?_;rintro e w3 ⟨rfl,rfl⟩
   go_wp2_with fail
   have hcast:((at_:Int)+1)=((at_+1:Nat):Int):=by omega
   refine (z4I b (some ⟨g,o,none⟩) n c rb (at_+1) at_ end_ w3 (by rw [←hcast];exact HS4.out.rd) HS4.out.zgV hn he (by omega)).mono ?_;rintro e V5 ⟨hg5,hm5⟩;have HRA2:Hid ((b.drop at_).take (end_-at_)=x::(b.drop (at_+1)).take (end_-(at_+1))):=HRA.out;obtain ⟨r,hr⟩:∃ r,r=(b.drop (at_+1)).take (end_-(at_+1)):=⟨_,rfl⟩;have hrl:r.length=end_-(at_+1):=by have:=HNL.out;rw [hr,List.length_take,List.length_drop];omega
   rw [←hr] at hm5 HRA2;have HR:=Lib.hid hr;have HRL:=Lib.hid hrl;clear hr hrl hcast q0 HRA;cases hl:Dr.z3l r with
   | none=>
    rw [hl] at hm5;obtain ⟨x1,y1,hy,rfl⟩:=hm5;have HN0:Hid (Dr.rd d ((b.drop at_).take (end_-at_))=none):=by show _=_;rw [HRA2.out];exact zi0 HX.out hl
    have HG5:=Lib.hid (World.grownBy.trans HS4.out.grown hg5);have HY:=Lib.hid hy;clear hl hg5 hy
    go_wp2_with fail
    exact ⟨rfl,z27 HN0.out HG5.out HY.out rfl⟩
   | some q=>
    obtain ⟨size,j⟩:=q;rw [hl] at hm5;obtain ⟨rfl,hb5⟩:=hm5;have HS5:Hid (NS w V5 b (some ⟨g,o,none⟩) n c rb at_ ((at_:Int)+1+(j:Int)) P #[.int .i64 C,.int .i64 G,.bool Q,.slice none 0 0,.slice none 0 0]):=
     HS4.out.step hg5 (by
      have e:(((at_+1+j:Nat)):Int)=(at_:Int)+1+(j:Int):=by omega
      rw [←e];exact hb5)
    have HL:=Lib.hid hl;have hjl:=(Dr.z1K hl).1;rw [HRL.out] at hjl;clear hl hg5 hb5 HS4;obtain ⟨s0,s1,f0,f1⟩:=HS5.out.rd.two;have q0:V5.cell? ⟨w.heap.size+1,0,none⟩=some (.int .i64 at_):=HS5.out.frm.cell 0;by_cases hsz:size≤end_-(at_+1)-j
    ·have hd1:decide ((size:Int)≤(end_:Int)-((at_:Int)+1+(j:Int)))=true:=decide_eq_true (by omega)
     go_wp2_with fail
     refine (z0T 30 _ V5).mono ?_;rintro e w5 ⟨rfl,rfl⟩;by_cases hd32:d≤32
     ·have hd2:decide ((d:Int)≤32)=true:=decide_eq_true (by omega)
      go_wp2_with fail
      refine (z0T 33 _ w5).mono ?_;rintro e w6 ⟨rfl,rfl⟩;have hS:((r.drop j).take size)=(b.drop (at_+1+j)).take size:=by rw [HR.out];exact zlQ hsz
      obtain ⟨S,hSS⟩:∃ S,S=(b.drop (at_+1+j)).take size:=⟨_,rfl⟩;have hSl:S.length=size:=by have:=HNL.out;rw [hSS,List.length_take,List.length_drop];omega
      have HBD:Hid (Dr.rd d ((b.drop at_).take (end_-at_))=if Q then
        match Dr.rds (d+1) S with
        | none=>none
        | some (ns,cuts)=>if C=0∧G=17∧Dr.rising cuts=false then none else some (.mk (C:Nat) (G:Nat) true [] ns,1+j+size)
       else if C=2∨Dr.value (G:Nat) S=true then some (.mk (C:Nat) (G:Nat) false S [],1+j+size) else none):=by
       show _=_;obtain ⟨hC,hG,hQ⟩:=HCGQ.out;rw [HRA2.out,zeo HX.out (by rw [←hC,←hG,←hQ];exact HM.out) HL.out (by have:=HRL.out;omega),←hC,←hG,←hQ,hSS,←hS];rfl
      have HSS:=Lib.hid hSS;have HSL:=Lib.hid hSl;clear hS hSS hSl;obtain ⟨p0,p1,p2,p3,p4,g0,g1,g2,g3,g4⟩:=HS5.out.nd.five;obtain rfl:Q=false:=by
       obtain ⟨_,_,hQ⟩:=HCGQ.out;rw [hQ,HX.out];exact HQX.out
      obtain ⟨A9,c9,hsl,hc9,hmid⟩:=z7n (some ⟨g,o,none⟩) n c (at_+1+j) size (lo:=(at_:Int)+1+(j:Int)) (hi:=(at_:Int)+1+(j:Int)+(size:Int)) (by omega) (by omega) (by have:=HI3.out;omega);have HMID:=Lib.hid hmid;have hb1:(at_:Int)+1+(j:Int)+(size:Int)≤40000:=by omega
      have hwr:IntKind.i64.wrap ((at_:Int)+1+(j:Int)+(size:Int))=(at_:Int)+1+(j:Int)+(size:Int):=IntWalk.i64_in _ ⟨by omega,by omega⟩;obtain ⟨i8,hi8,hz80,hz81,hz82⟩:=info_parts z4U;clear hmid;have hrp:¬(rb=P):=by have h1:=HS5.out.pl;have h2:=HS5.out.rl;omega
      have hpr:¬(P=rb):=fun h=>hrp h.symm
      have HRD:Hid (Reads w6 w6.heap.size 1 A9 size (Lib.byteCells S)):=by
       have:=(HMID.out w6 _ b HS5.out.zgV (by omega)).z3x.1;rw [←HSS.out] at this;exact this
      go_upto_region 12 with fail
      go_region_held3 (fun w'=>w'.cell? ⟨rb,0,none⟩=some (.slice (some ⟨g,o,none⟩) n c)∧w'.cell? ⟨rb,1,none⟩=some (.int .i64 ((at_:Int)+1+(j:Int)))) (first|go_keep|exact ⟨z0n hb7 s0,z0n hb7 s1⟩) ((refine zcV (by rfl) (.tmp 95) 22 (by rfl) i8 Tryz.underlying22 hi8 hz80 hz81 hz82 _ A9 size c9 S (by rfl) (by exact HRD.out) (by omega) ?_;intro A7 c7 w7 hc7 ho7 hb7;have HS7:=Lib.hid (HS5.out.drew.below hb7);have t0:=z0n hb7 s0;have t1:=z0n hb7 s1;have HO7:=Lib.hid ho7;clear ho7;obtain ⟨q10,q11,q12,q13,q14,g10,g11,g12,g13,g14⟩:=HS7.out.nd.five))
      obtain ⟨V8,hV8⟩:∃ V8,V8=w7.setCell ⟨P,3,none⟩ (.slice A7 size c7):=⟨_,rfl⟩;have HS8:Hid (NS w V8 b (some ⟨g,o,none⟩) n c rb at_ ((at_:Int)+1+(j:Int)) P #[.int .i64 C,.int .i64 G,.bool false,.slice A7 size c7,.slice none 0 0]):=by
       rw [hV8];exact HS7.out.setN 3 (.slice A7 size c7)
      have HD8:Hid (Is V8 (fun g=>g<w6.heap.size) (.slice A7 size c7) (z04 S)):=by
       have h1:Is w7 (fun g=>g<w6.heap.size) (.slice A7 size c7) (z04 S):=z1x HO7.out (fun g hg=>hg);show Is _ _ _ _;rw [hV8];exact h1.setCell (p:=⟨P,3,none⟩) HS5.out.nd.lt _
      rename_i hHeld;rw [←hV8] at hHeld ⊢;clear hHeld hV8 hsl q10 q11 q12 q13 q14 g10 g11 g12 g13 g14 t0 t1 s0 s1 f0 f1 p0 p1 p2 p3 p4 g0 g1 g2 g3 g4 HS7 HO7 hb7 q0 hwr;obtain ⟨t0,t1,f0,f1⟩:=HS8.out.rd.two
      go_upto_region 14 with fail
      obtain ⟨V9,hV9⟩:∃ V9,V9=V8.setCell ⟨rb,1,none⟩ (.int .i64 ((at_:Int)+1+(j:Int)+(size:Int))):=⟨_,rfl⟩;have HS9:Hid (NS w V9 b (some ⟨g,o,none⟩) n c rb at_ ((at_:Int)+1+(j:Int)+(size:Int)) P #[.int .i64 C,.int .i64 G,.bool false,.slice A7 size c7,.slice none 0 0]):=by
       rw [hV9];exact HS8.out.pos_ _
      have HD9:Hid (Is V9 (fun g=>g≤w.heap.size) (.slice A7 size c7) (z04 S)):=by
       have h2:Is V9 (fun g=>g<w6.heap.size) (.slice A7 size c7) (z04 S):=by rw [hV9];exact HD8.out.setCell (p:=⟨rb,1,none⟩) HS5.out.rd.lt _
       exact h2.less (fun b hb _=>Nat.lt_of_le_of_lt hb HS5.out.res.lt)
      have hpos:((at_:Int)+1+(j:Int)+(size:Int))=((at_+(1+j+size):Nat):Int):=by omega
      have HPOS:=Lib.hid hpos;have HHT:Hid (Tabs V9):=HT.out _ (z2m HS9.out.grown HS9.out.rl);rw [←hV9];clear hV9 hpos t0 t1 f0 f1 HS5 HS8 HD8 HRD HMID;obtain ⟨p0,p1,p2,p3,p4,g0,g1,g2,g3,g4⟩:=HS9.out.nd.five;obtain ⟨r0,r1,r2,r3,r4,h0,h1,h2,h3,h4⟩:=HS9.out.res.five;have q0:V9.cell? ⟨w.heap.size+1,0,none⟩=some (.int .i64 at_):=HS9.out.frm.cell 0;by_cases hC2:C=2
      ·have hc2:((C:Int)==2)=true:=by simp;omega
       have HN0:Hid (Dr.rd d ((b.drop at_).take (end_-at_))=some (.mk (C:Nat) (G:Nat) false S [],1+j+size)):=by
        show _=_;rw [HBD.out,if_neg (by decide),if_pos (.inl hC2)]
       clear hC2
       go_wp2_with fail
       refine (z0T 34 _ V9).mono ?_;rintro e w10 ⟨rfl,rfl⟩
       go_wp2_with fail
       exact bodyPost_ret (z2h Tryz.results111 _ _ (HS9.out.res.set5 _ _ _ _ _) rfl) rfl (HS9.out.done HN0.out HPOS.out HD9.out (Is.z3e _ _))
      ·have hc2:((C:Int)==2)=false:=by simp;omega
       have HC2:=Lib.hid hC2;clear hC2
       go_wp2_with fail
       refine (z4o G A7 size c7 S _ V9 HD9.out (by omega) HHT.out).mono ?_;rintro e V10 ⟨rfl,hb10⟩;have HS10:=Lib.hid (HS9.out.below hb10);have HD10:=Lib.hid (HD9.out.stays hb10);clear hb10 p0 p1 p2 p3 p4 g0 g1 g2 g3 g4 r0 r1 r2 r3 r4 h0 h1 h2 h3 h4 q0;obtain ⟨p0,p1,p2,p3,p4,g0,g1,g2,g3,g4⟩:=HS10.out.nd.five;obtain ⟨r0,r1,r2,r3,r4,h0,h1,h2,h3,h4⟩:=HS10.out.res.five;have q0:V10.cell? ⟨w.heap.size+1,0,none⟩=some (.int .i64 at_):=HS10.out.frm.cell 0;cases hv:Dr.value G S with
       | false=>
        have HN0:Hid (Dr.rd d ((b.drop at_).take (end_-at_))=none):=by
         show _=_;rw [HBD.out,hv,if_neg (by decide),if_neg (by have:=HC2.out;simp;omega)]
        clear hv
        go_wp2_with fail
        refine (z13 34 at_ _ V10 q0).mono ?_;rintro e w' ⟨rfl,rfl⟩;exact ⟨rfl,z27 HN0.out HS10.out.grown (by decide) rfl⟩
       | true=>
        have HN0:Hid (Dr.rd d ((b.drop at_).take (end_-at_))=some (.mk (C:Nat) (G:Nat) false S [],1+j+size)):=by
         show _=_;rw [HBD.out,hv,if_neg (by decide),if_pos (.inr rfl)]
        clear hv
        go_wp2_with fail
        refine (z0T 34 _ V10).mono ?_;rintro e w10 ⟨rfl,rfl⟩
        go_wp2_with fail
        exact bodyPost_ret (z2h Tryz.results111 _ _ (HS10.out.res.set5 _ _ _ _ _) rfl) rfl (HS10.out.done HN0.out HPOS.out HD10.out (Is.z3e _ _))
     ·have hd2:decide ((d:Int)≤32)=false:=decide_eq_false (by omega);have HN0:Hid (Dr.rd d ((b.drop at_).take (end_-at_))=none):=by show _=_;rw [HRA2.out];exact z5o HX.out HL.out (.inr (by omega))
      clear hd32
      go_wp2_with fail
      refine (z13 33 at_ _ w5 q0).mono ?_;rintro e w' ⟨rfl,rfl⟩;exact ⟨rfl,z27 HN0.out HS5.out.grown (by decide) rfl⟩
    ·have hd1:decide ((size:Int)≤(end_:Int)-((at_:Int)+1+(j:Int)))=false:=decide_eq_false (by omega);have HN0:Hid (Dr.rd d ((b.drop at_).take (end_-at_))=none):=by show _=_;rw [HRA2.out];exact z5o HX.out HL.out (.inl (by have:=HRL.out;omega))
     clear hsz
     go_wp2_with fail
     refine (z13 30 at_ _ V5 q0).mono ?_;rintro e w' ⟨rfl,rfl⟩;exact ⟨rfl,z27 HN0.out HS5.out.grown (by decide) rfl⟩
 ·have hd:decide (at_<end_)=false:=decide_eq_false hat;have hn0:Dr.rd d ((b.drop at_).take (end_-at_))=none:=by
   have e0:end_-at_=0:=by omega
   rw [e0,List.take_zero];exact Dr.zlR d
  have HN0:=Lib.hid hn0;clear hat hn0
  go_wp2_with fail
  refine (z13 30 at_ _ V q0).mono ?_;rintro e w' ⟨rfl,rfl⟩;exact ⟨rfl,z27 HN0.out HG.out (by decide) rfl⟩
end Go.Proofs.YtgmppconibklcaaGreatDoor

