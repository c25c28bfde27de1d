/- Part of the proof. No condition. -/
import Derived.Test.YtgmppconibklcaaGreatDoorM26
import Derived.BigRegion
import Derived.Deep.RegionHeld3
import Derived.IntWalk
import Derived.StillTailTactics
set_option maxHeartbeats 40000000
set_option maxRecDepth 100000
set_option linter.unusedVariables false
set_option linter.unusedSimpArgs false
namespace Go.Proofs.YtgmppconibklcaaGreatDoor
open Go Go.RowKit
theorem za9 {p:Prop} (h:p:=by
  go_wp2_with fail
  refine (z0T 34 _ wr).mono ?_;rintro e w10 ⟨rfl,rfl⟩
  go_wp2_with fail
  exact bodyPost_ret (z2h Tryz.results111 _ _ (HSp.out.res.set5 _ _ _ _ _) rfl) rfl (HSp.out.done HN0.out HPOS.out (Is.z1U _ _) HKD.out)):p:=h
theorem ziF (M:Nat) (ih:zcH M):zjW true (M+1):=by
 intro b A n c rb at_ end_ d w hq hM hr hb hn he ha hd hT;have IH:=Lib.hid ih;have hmf:∀ (fn:Fn) (first cap:Array Value) (w:World),(Instr.makeFunc fn first cap).run Tryz.prog w = .ok (.func fn first cap) w:=fun _ _ _ _=>rfl
 obtain ⟨V0,hV0⟩:∃ V,V=w.alloc (.cells #[.int .i64 0,.int .i64 0,.bool false,.slice none 0 0,.slice none 0 0] 61):=⟨_,rfl⟩;have hP:V0.heap.size=w.heap.size+1:=by rw [hV0];simp [go_sem]
 obtain ⟨V,hV⟩:∃ V,V=V0.alloc (.cells #[.int .i64 at_] 3):=⟨_,rfl⟩;have HG:Hid (w.grownBy V (some rb)):=by show World.grownBy _ _ _;rw [hV,hV0];exact z2G (z2G (World.grownBy.refl _ _) _) _
 have HF:Hid (Blk V (w.heap.size+1) 3 #[.int .i64 at_]):=by show Blk _ _ _ _;rw [hV,←hP];exact Blk.new _ _ _
 have HN:Hid (Blk V w.heap.size 61 #[.int .i64 0,.int .i64 0,.bool false,.slice none 0 0,.slice none 0 0]):=by show Blk _ _ _ _;rw [hV,hV0];exact Blk.alloc (Blk.new w _ _) _
 have HR:Hid (Blk V rb 166 #[.slice A n c,.int .i64 at_]):=by show Blk _ _ _ _;rw [hV,hV0];exact (hr.alloc _).alloc _
 have HI:Hid (Is V (fun g=>g=rb∨w.heap.size≤g) (.slice A n c) (z04 b)):=by show Is _ _ _ _;rw [hV,hV0];exact ((hb.fresh (p:=fun g=>w.heap.size≤g) (fun b h=>h)).alloc _).alloc _
 have HLT:=Lib.hid hr.lt;have HT:=Lib.hid hT;have HV0:=Lib.hid hV0;have HV:=Lib.hid hV;have HP:=Lib.hid hP;have hr0:Blk V0 rb 166 #[.slice A n c,.int .i64 at_]:=by rw [hV0];exact hr.alloc _
 obtain ⟨s0,s1,_,_⟩:=hr0.two;clear hV hV0 hr hr0 hb hT ih hP;go_enter Tryz.func111,Tryz.ntmps111
 go_upto_region 1 with fail
 rw [←HV0.out]
 go_upto_region 2 with fail
 rw [HP.out,←HV.out];clear s0 s1;obtain ⟨p0,p1,f0,f1⟩:=HR.out.two;have q0:V.cell? ⟨w.heap.size+1,0,none⟩=some (.int .i64 at_):=HF.out.cell 0;by_cases hat:at_<end_
 ·have hd:decide (at_<end_)=true:=decide_eq_true hat;obtain ⟨hnl,hnc,hA⟩:=HI.out.byteCells;obtain ⟨g,o,rfl,hgr,hgl,hcell⟩:=hA (by omega);obtain ⟨x,hx⟩:∃ x,x=b[at_]'(by omega):=⟨_,rfl⟩;have k0:V.cell? ⟨g,o+at_,none⟩=some (.int .u8 (x.toNat:Int)):=by rw [hx];exact hcell at_ (by omega)
  have hra:(b.drop at_).take (end_-at_)=x::(b.drop (at_+1)).take (end_-at_-1):=by
   rw [zef hat (by omega),←hx]
  have HRA:=Lib.hid hra;have HQX:Hid ((x.toNat / 32%2==1)=true):=by
   show _=_;rw [←hq,hx,List.getD_eq_getElem?_getD,List.getElem?_eq_getElem (by omega),Option.getD_some]
  have HNL:=Lib.hid hnl;have HGR:Hid (¬(g=rb∨w.heap.size≤g)∧g<V.heap.size):=⟨hgr,hgl⟩;have hi1:(at_:Int)<(n:Int):=by omega
  have HI3:Hid (n≤c):=hnc;clear hnl hnc hA hgr hgl hcell hx hra hq
  go_wp2_with fail
  refine (z0T 30 _ V).mono ?_;rintro e w' ⟨rfl,rfl⟩;obtain ⟨X,hX⟩:∃ X,X=x.toNat:=⟨_,rfl⟩;have hX9:X<256:=by rw [hX];exact x.toNat_lt
  have hw:wrap64 (X:Int)=(X:Int):=by unfold wrap64;omega
  rw [←hX] at k0;have HX:=Lib.hid hX;clear hX
  go_upto_region 4 with fail
  go_quiet (fail)
  go_upto_region 6 with fail
  obtain ⟨V2,hV2⟩:∃ V2,V2=(w'.drewN nq).setCell ⟨rb,1,none⟩ (.int .i64 ((at_:Int)+1)):=⟨_,rfl⟩;have HG2:Hid (w.grownBy V2 (some rb)):=by show World.grownBy _ _ _;rw [hV2];exact z0r (z3B HG.out nq) (.inl rfl) _
  have HR2:Hid (Blk V2 rb 166 #[.slice (some ⟨g,o,none⟩) n c,.int .i64 ((at_:Int)+1)]):=by show Blk _ _ _ _;rw [hV2];exact (HR.out.drewN nq).set_ 1 _
  have HF2:Hid (Blk V2 (w.heap.size+1) 3 #[.int .i64 at_]):=by show Blk _ _ _ _;rw [hV2];exact (HF.out.drewN nq).far (by have:=HLT.out;show _≠rb;omega) _
  have HN2:Hid (Blk V2 w.heap.size 61 #[.int .i64 0,.int .i64 0,.bool false,.slice none 0 0,.slice none 0 0]):=by show Blk _ _ _ _;rw [hV2];exact (HN.out.drewN nq).far (by have:=HLT.out;show _≠rb;omega) _
  have HI2:Hid (Is V2 (fun g=>g=rb∨w.heap.size≤g) (.slice (some ⟨g,o,none⟩) n c) (z04 b)):=by show Is _ _ _ _;rw [hV2];exact (HI.out.drewN nq).setCell (p:=⟨rb,1,none⟩) (.inl rfl) _
  rw [←hV2];clear p0 p1 f0 f1 q0 hV2 k0 HG HR HF HN HI HV HV0;have hcl:=zfA X;have htg:=ze8 X hX9;have hcn:=zcv X hX9;obtain ⟨C,hC⟩:∃ C:Nat,C=X / 64:=⟨_,rfl⟩;obtain ⟨G,hG⟩:∃ G:Nat,G=X%32:=⟨_,rfl⟩;obtain ⟨Q,hQ⟩:∃ Q:Bool,Q=(X / 32%2==1):=⟨_,rfl⟩;rw [←hC] at hcl;rw [←hG] at htg;rw [←hQ] at hcn;have hC4:C<4:=by omega
  have hG4:G<32:=by omega
  have HCGQ:Hid (C=X / 64∧G=X%32∧Q=(X / 32%2==1)):=⟨hC,hG,hQ⟩;clear hC hG hQ
  go_upto_region 7 with fail
  obtain ⟨V3,hV3⟩:∃ V3,V3=V2.alloc (.cells #[.int .i64 C,.int .i64 G,.bool Q,.slice none 0 0,.slice none 0 0] 61):=⟨_,rfl⟩;have HS3:Hid (NS w V3 b (some ⟨g,o,none⟩) n c rb at_ ((at_:Int)+1) V2.heap.size #[.int .i64 C,.int .i64 G,.bool Q,.slice none 0 0,.slice none 0 0]):=by
   have hb:Below V2.heap.size V2 V3:=by rw [hV3];exact (Below.refl _ V2).alloc (Nat.le_refl _) _
   refine ⟨World.grownBy.trans HG2.out (z0e hb _),HR2.out.below hb HR2.out.lt,HF2.out.below hb HF2.out.lt,HN2.out.below hb HN2.out.lt,by rw [hV3];exact Blk.new V2 _ _,?_,HF2.out.lt,HLT.out⟩;exact HI2.out.stays hb
  rw [←hV3];obtain ⟨P,hP⟩:∃ P,P=V2.heap.size:=⟨_,rfl⟩;rw [←hP] at HS3 ⊢;clear hV3 hP hcl htg hcn HG2 HR2 HF2 HN2 HI2 V2 hw hX9 HLT HP;obtain ⟨p0,p1,p2,p3,p4,g0,g1,g2,g3,g4⟩:=HS3.out.nd.five
  go_wp2_with fail
  refine (z4B C G Q _ _ V3).mono ?_;rintro e V4 ⟨rfl,hb4⟩;have HS4:=Lib.hid (HS3.out.below hb4);clear hb4 p0 p1 p2 p3 p4 g0 g1 g2 g3 g4 HS3 V3;have q0:V4.cell? ⟨w.heap.size+1,0,none⟩=some (.int .i64 at_):=HS4.out.frm.cell 0;cases hm:Dr.may C G Q with
  | false=>
   have HM:Hid (Dr.rd d ((b.drop at_).take (end_-at_))=none):=by
    show _=_;obtain ⟨hC,hG,hQ⟩:=HCGQ.out;rw [HRA.out];exact zhZ HX.out (by rw [←hC,←hG,←hQ];exact hm)
   clear hm
   go_wp2_with fail
   refine (z13 31 at_ _ V4 q0).mono ?_;rintro e w' ⟨rfl,rfl⟩;exact ⟨rfl,z27 HM.out HS4.out.grown (by decide) rfl⟩
  | true=>
   have HM:=Lib.hid hm;clear hm
   go_wp2_with fail
   refine (z0T 31 _ V4).mono ?_;rintro e w3 ⟨rfl,rfl⟩
   go_wp2_with fail
   have hcast:((at_:Int)+1)=((at_+1:Nat):Int):=by omega
   refine (z4I b (some ⟨g,o,none⟩) n c rb (at_+1) at_ end_ w3 (by rw [←hcast];exact HS4.out.rd) HS4.out.zgV hn he (by omega)).mono ?_;rintro e V5 ⟨hg5,hm5⟩;have HRA2:Hid ((b.drop at_).take (end_-at_)=x::(b.drop (at_+1)).take (end_-(at_+1))):=HRA.out;obtain ⟨r,hr⟩:∃ r,r=(b.drop (at_+1)).take (end_-(at_+1)):=⟨_,rfl⟩;have hrl:r.length=end_-(at_+1):=by have:=HNL.out;rw [hr,List.length_take,List.length_drop];omega
   rw [←hr] at hm5 HRA2;have HR:=Lib.hid hr;have HRL:=Lib.hid hrl;clear hr hrl hcast q0 HRA;cases hl:Dr.z3l r with
   | none=>
    rw [hl] at hm5;obtain ⟨x1,y1,hy,rfl⟩:=hm5;have HN0:Hid (Dr.rd d ((b.drop at_).take (end_-at_))=none):=by show _=_;rw [HRA2.out];exact zi0 HX.out hl
    have HG5:=Lib.hid (World.grownBy.trans HS4.out.grown hg5);have HY:=Lib.hid hy;clear hl hg5 hy
    go_wp2_with fail
    exact ⟨rfl,z27 HN0.out HG5.out HY.out rfl⟩
   | some q=>
    obtain ⟨size,j⟩:=q;rw [hl] at hm5;obtain ⟨rfl,hb5⟩:=hm5;have HS5:Hid (NS w V5 b (some ⟨g,o,none⟩) n c rb at_ ((at_:Int)+1+(j:Int)) P #[.int .i64 C,.int .i64 G,.bool Q,.slice none 0 0,.slice none 0 0]):=
     HS4.out.step hg5 (by
      have e:(((at_+1+j:Nat)):Int)=(at_:Int)+1+(j:Int):=by omega
      rw [←e];exact hb5)
    have HL:=Lib.hid hl;have hjl:=(Dr.z1K hl).1;rw [HRL.out] at hjl;clear hl hg5 hb5 HS4;obtain ⟨s0,s1,f0,f1⟩:=HS5.out.rd.two;have q0:V5.cell? ⟨w.heap.size+1,0,none⟩=some (.int .i64 at_):=HS5.out.frm.cell 0;by_cases hsz:size≤end_-(at_+1)-j
    ·have hd1:decide ((size:Int)≤(end_:Int)-((at_:Int)+1+(j:Int)))=true:=decide_eq_true (by omega)
     go_wp2_with fail
     refine (z0T 30 _ V5).mono ?_;rintro e w5 ⟨rfl,rfl⟩;by_cases hd32:d≤32
     ·have hd2:decide ((d:Int)≤32)=true:=decide_eq_true (by omega)
      go_wp2_with fail
      refine (z0T 33 _ w5).mono ?_;rintro e w6 ⟨rfl,rfl⟩;have hS:((r.drop j).take size)=(b.drop (at_+1+j)).take size:=by rw [HR.out];exact zlQ hsz
      obtain ⟨S,hSS⟩:∃ S,S=(b.drop (at_+1+j)).take size:=⟨_,rfl⟩;have hSl:S.length=size:=by have:=HNL.out;rw [hSS,List.length_take,List.length_drop];omega
      have HBD:Hid (Dr.rd d ((b.drop at_).take (end_-at_))=if Q then
        match Dr.rds (d+1) S with
        | none=>none
        | some (ns,cuts)=>if C=0∧G=17∧Dr.rising cuts=false then none else some (.mk (C:Nat) (G:Nat) true [] ns,1+j+size)
       else if C=2∨Dr.value (G:Nat) S=true then some (.mk (C:Nat) (G:Nat) false S [],1+j+size) else none):=by
       show _=_;obtain ⟨hC,hG,hQ⟩:=HCGQ.out;rw [HRA2.out,zeo HX.out (by rw [←hC,←hG,←hQ];exact HM.out) HL.out (by have:=HRL.out;omega),←hC,←hG,←hQ,hSS,←hS];rfl
      have HSS:=Lib.hid hSS;have HSL:=Lib.hid hSl;clear hS hSS hSl;obtain ⟨p0,p1,p2,p3,p4,g0,g1,g2,g3,g4⟩:=HS5.out.nd.five;obtain rfl:Q=true:=by
       obtain ⟨_,_,hQ⟩:=HCGQ.out;rw [hQ,HX.out];exact HQX.out
      obtain ⟨B0,hB0⟩:∃ B0:Nat,B0=at_+1+j:=⟨_,rfl⟩;have hB1:(at_:Int)+1+(j:Int)=(B0:Int):=by omega
      rw [←hB0] at HSS;rw [hB1] at HS5;have hB2:B0+size≤end_:=by omega
      have hB3:B0+size≤40000:=by omega
      have hB4:size<M:=by omega
      have HB0:=Lib.hid hB0;clear hB0 hB1 hsz hjl hd1 p0 p1 p2 p3 p4 g0 g1 g2 g3 g4 s0 s1 f0 f1 q0;obtain ⟨s0,s1,f0,f1⟩:=HS5.out.rd.two;obtain ⟨p0,p1,p2,p3,p4,g0,g1,g2,g3,g4⟩:=HS5.out.nd.five;obtain ⟨E0,hE0⟩:∃ E0:Nat,E0=B0+size:=⟨_,rfl⟩;have hE:(B0:Int)+(size:Int)=(E0:Int):=by omega
      obtain ⟨i5,hi5,hz50,hz51,hz52⟩:=info_parts ziY;have HE0:=Lib.hid hE0;clear hE0
      go_wp2_with fail
      have HE:=Lib.hid hE;clear hE p0 p1 p2 p3 p4 g0 g1 g2 g3 g4 s0 s1 f0 f1
      go_loopw [12,13] (fun t12 t13 wr=>∃ (i last m5 c5:Nat) (A5:Option Addr) (ri:Bool) (ns:List Nd) (cuts:List (List UInt8)) (xs:List Value),t12 = .int .i64 last∧t13 = .bool ri∧i≤size∧last≤40000∧Hid (LI w wr b S (some ⟨g,o,none⟩) n c rb at_ B0 d P C G i last ri ns cuts xs (.slice A5 m5 c5))) (fun _ _ wr=>E0-zad wr rb)
      case atStart=>exact ⟨0,B0,0,0,none,true,[],[],[],rfl,rfl,Nat.zero_le _,by omega,LI.start HS5.out⟩
      case round=>
       obtain ⟨i,last,m5,c5,A5,ri,ns,cuts,xs,rfl,rfl,hi,hlast,HI⟩:=hrel;clear HS5;obtain ⟨p,hp⟩:∃ p:Nat,p=B0+i:=⟨_,rfl⟩;have hpe:(B0:Int)+(i:Int)=(p:Int):=by omega
       have HSp:Hid (NS w wr b (some ⟨g,o,none⟩) n c rb at_ (p:Int) P #[.int .i64 C,.int .i64 G,.bool true,.slice none 0 0,.slice A5 m5 c5]):=by show NS _ _ _ _ _ _ _ _ _ _ _;rw [←hpe];exact HI.out.st
       have hpm:zad wr rb=p:=by rw [HSp.out.zad];omega
       have HPM:=Lib.hid hpm;have HP:=Lib.hid hp;have hpi:p=B0+i∧E0=B0+size:=⟨hp,HE0.out⟩;clear hpe hpm hp;obtain ⟨s0,s1,f0,f1⟩:=HSp.out.rd.two;obtain ⟨p0,p1,p2,p3,p4,g0,g1,g2,g3,g4⟩:=HSp.out.nd.five;by_cases hin:i<size
       ·have hin1:decide ((p:Int)<(E0:Int))=true:=decide_eq_true (by omega);have hin2:decide (p<E0)=true:=decide_eq_true (by omega);have hpE:p<E0∧E0≤n∧E0-p<M∧E0-p=size-i:=by omega
        have HPE:=Lib.hid hpE;clear hpi hpE
        go_upto_region 20 with fail
        obtain ⟨d1,hd1⟩:∃ d1:Nat,d1=d+1:=⟨_,rfl⟩;have hwd:IntKind.i64.wrap (d1:Int)=(d1:Int):=IntWalk.i64_in _ ⟨by omega,by omega⟩;have hwd2:(d:Int)+1=(d1:Int):=by omega
        have hd1b:d1≤1000:=by omega
        have hsg:(b.drop p).take (E0-p)=S.drop i:=zmL HSS.out HP.out HPE.out.2.2.2;have HSd:Hid (NS w wr.drew b (some ⟨g,o,none⟩) n c rb at_ (p:Int) P #[.int .i64 C,.int .i64 G,.bool true,.slice none 0 0,.slice A5 m5 c5]):=HSp.out.drew;have hcall:=zgu IH.out HSd.out HPE.out.2.2.1 hn HPE.out.2.1 (Nat.le_of_lt HPE.out.1) hd1b (HT.out.below (z2m HSd.out.grown HSd.out.rl));cases hrd:Dr.rd d1 (S.drop i) with
        | none=>
         have HRN:Hid (Dr.rd d1 ((b.drop p).take (E0-p))=none):=by show _=_;rw [hsg];exact hrd
         have HN0:Hid (Dr.rd d ((b.drop at_).take (end_-at_))=none):=by
          show _=_;rw [HBD.out,if_pos trivial,HI.out.none_ (by rw [HSL.out];exact hin) (by rw [←hd1];exact hrd)]
         have HCALL:=Lib.hid hcall;have HD1:=Lib.hid hd1;clear hcall hsg hrd hd1
         go_region_law (go_simp;go_at_call 111;(with_reducible refine HCALL.out.mono ?_);rintro e w2 hpost;obtain ⟨x1,y1,rfl,hy,hg⟩:=zal HRN.out hpost;suffices hz:wpAny Tryz.prog .any #[] (fun _ _ _=>True) 0 #[] {tmps:=#[],defers:=[]} w2 by exact ⟨rfl,z27 HN0.out (World.grownBy.trans HSd.out.grown hg) hy rfl⟩)
         all_goals exact trivial
        | some q=>
         obtain ⟨nd,k⟩:=q;have hrs:=Dr.rd_some hrd;have HRY:Hid (Dr.rd d1 ((b.drop p).take (E0-p))=some (nd,k)):=by show _=_;rw [hsg];exact hrd
         have HCALL:=Lib.hid hcall;have HD1:=Lib.hid hd1;have HRD1:Hid (Dr.rd (d+1) (S.drop i)=some (nd,k)):=by show _=_;rw [←hd1];exact hrd
         clear hcall hsg hrd hd1;have hk1:k≤size-i:=by have:=hrs.2.1;rw [List.length_drop,HSL.out] at this;exact this
         have hk0:=hrs.1;have hnl:=HI.out.few;have hP5:P+1≤wr.drew.heap.size:=HSd.out.nd.lt;have hrlt:rb<P:=by have h1:=HSp.out.pl;have h2:=HSp.out.rl;omega
         have hrp:¬(rb=P):=by omega
         have hpr:¬(P=rb):=fun h=>hrp h.symm
         clear hrs;have HOD:Hid (wr.drew.ownsRow (P+1) 61 5 (.slice A5 m5 c5) ns.length xs):=HI.out.own
         go_region_law (first
          | (go_simp;go_at_call 111;(with_reducible refine HCALL.out.mono ?_);rintro e w2 hpost;obtain ⟨Ab,cb,Ak,ck,rfl,hb,hk,hg,hs2⟩:=z8z HSd.out HRY.out hpost;have HG2:=Lib.hid hg;have HS2:=Lib.hid hs2;have HB2:=Lib.hid (And.intro hb hk);have t4:w2.cell? ⟨P,4,none⟩=some (.slice A5 m5 c5):=hs2.nd.cell 4;have t6:∀ ob:Obj,(w2.alloc ob).cell? ⟨P,4,none⟩=some (.slice A5 m5 c5):=fun ob=>(World.cell?_alloc_lt w2 ob _ hs2.nd.lt).trans t4;have hbase:=Nat.le_trans hP5 hg.size;have HO2:=Lib.hid (HOD.out.kept hg (.inr (fun e=>by have:=(HOD.out.lt _ e).1;omega)));clear hb hk hg hs2 hpost)
          | (refine zfY (by rfl) (.tmp 140) (.tmp 146) 59 61 (by rfl) (P+1) i5 _ 5 72 Tryz.underlying59 hi5 hz50 hz51 hz52 rfl (by decide) (.slice A5 m5 c5) ns.length xs (by rfl) HO2.out [.int .i64 nd.cls,.int .i64 nd.tag,.bool nd.cons,.slice Ab nd.bytes.length cb,.slice Ak nd.kids.length ck] rfl (by intro u hu;simp at hu;rcases hu with rfl|rfl|rfl|rfl|rfl<;>rfl) 1 (by rfl) (by omega) (by decide) hbase ?_;intro v6 w4 o6 g6 k6;obtain ⟨A6,c6,rfl,_⟩:=z0P o6;have HO6:=Lib.hid o6;have HG6:=Lib.hid g6;have HK6:=Lib.hid k6;have t5:w4.cell? ⟨P,4,none⟩=some (.slice A5 m5 c5):=(HS2.out.row g6 (fun g hg=>((HO2.out.lt g hg).1))).nd.cell 4;have f5:w4.frozen? ⟨P,4,none⟩=false:=(HS2.out.row g6 (fun g hg=>((HO2.out.lt g hg).1))).nd.frozen 4;clear o6 g6 k6))
         all_goals
          obtain ⟨V5,hV5⟩:∃ V5,V5=w4.setCell ⟨P,4,none⟩ (.slice A6 (ns.length+1) c6):=⟨_,rfl⟩;have HS5:Hid (NS w V5 b (some ⟨g,o,none⟩) n c rb at_ ((p:Int)+(k:Int)) P #[.int .i64 C,.int .i64 G,.bool true,.slice none 0 0,.slice A6 (ns.length+1) c6]):=by
           rw [hV5];exact (HS2.out.row HG6.out (fun g hg=>(HO2.out.lt g hg).1)).setN 4 _
          rw [←hV5];have HV5:=Lib.hid hV5;have hpk:p+k≤E0:=by have:=HPE.out.2.2.2;omega
          have HSTEP:∀ ri':Bool,ri'=(ri&&(ns.length==0||decide (Lib.compareBytes (cuts.getLastD []) ((S.drop i).take k)≤0)))→LI w V5 b S (some ⟨g,o,none⟩) n c rb at_ B0 d P C G (i+k) p ri' (ns++[nd]) (cuts++[(S.drop i).take k]) (xs++[.int .i64 nd.cls,.int .i64 nd.tag,.bool nd.cons,.slice Ab nd.bytes.length cb,.slice Ak nd.kids.length ck]) (.slice A6 (ns.length+1) c6):=by
           intro ri' hri;have hg2:wr.grownBy w2 (some rb):=World.grownBy.trans (zbO (World.grownBy.refl wr (some rb))) HG2.out;have h2:=HS2.out;have e:(p:Int)=(B0:Int)+(i:Int):=by have:=HP.out;omega
           rw [e] at h2;have:=HI.out.step HSS.out HSL.out hin HRD1.out hg2 h2 HB2.out.1 HB2.out.2 HO6.out HG6.out HK6.out hri;rw [←HP.out] at this;rw [HV5.out];exact this
          have HST:=Lib.hid HSTEP;clear HSTEP hV5 t4 t5 t6 f5 s0 s1 f0 f1 p0 p1 p2 p3 p4 g0 g1 g2 g3 g4 hwd hwd2;obtain ⟨s0,s1,f0,f1⟩:=HS5.out.rd.two;obtain ⟨p0,p1,p2,p3,p4,g0,g1,g2,g3,g4⟩:=HS5.out.nd.five;have HFIN:∀ ri':Bool,ri'=(ri&&(ns.length==0||decide (Lib.compareBytes (cuts.getLastD []) ((S.drop i).take k)≤0)))→∀ m:Nat,Hid (LI w (V5.drewN m) b S (some ⟨g,o,none⟩) n c rb at_ B0 d P C G (i+k) p ri' (ns++[nd]) (cuts++[(S.drop i).take k]) (xs++[.int .i64 nd.cls,.int .i64 nd.tag,.bool nd.cons,.slice Ab nd.bytes.length cb,.slice Ak nd.kids.length ck]) (.slice A6 (ns.length+1) c6))∧E0-zad (V5.drewN m) rb<E0-zad wr rb:=by
           intro ri' hri m;have h1:=HST.out ri' hri;refine ⟨⟨h1.st.drewN m,h1.own,?_,h1.rds,h1.cnt,h1.few,h1.lst,h1.ris⟩,?_⟩
           ·exact h1.all.keep fun u d hu=>hu.drewN m
           ·rw [HPM.out,(HS5.out.drewN m).zad];have:=HPE.out.1;omega
          have HF:=Lib.hid HFIN;have hp4:p≤40000∧p+k≤40000∧p+k≤n:=by have:=HPE.out.1;have:=HPE.out.2.1;omega
          clear HFIN;cases ri with
          | false=>
           go_upto_region 21 with fail
           go_quiet (fail)
           go_wp2_with fail
           exact ⟨⟨i+k,p,ns.length+1,c6,A6,false,_,_,_,rfl,rfl,by omega,by omega,(HF.out false rfl nq).1⟩,(HF.out false rfl nq).2⟩
          | true=>
           by_cases hn0:ns.length=0
           ·have hn1:((ns.length:Int)+1==1)=true:=by simp;omega
            have HN1:Hid ((ns.length==0)=true):=by show _=_;simp [hn0]
            clear hn0
            go_upto_region 21 with fail
            go_quiet (fail)
            go_wp2_with fail
            have hri:true=(true&&(ns.length==0||decide (Lib.compareBytes (cuts.getLastD []) ((S.drop i).take k)≤0))):=by rw [HN1.out];rfl
            exact ⟨⟨i+k,p,ns.length+1,c6,A6,true,_,_,_,rfl,rfl,by omega,by omega,(HF.out true hri nq).1⟩,(HF.out true hri nq).2⟩
           ·have hn1:((ns.length:Int)+1==1)=false:=by simp;omega
            have HN1:Hid ((ns.length==0)=false):=by show _=_;rw [beq_eq_false_iff_ne];exact hn0
            have hlst:=HI.out.lst;have hlp:last≤p:=by have:=HP.out;omega
            have HLC:Hid ((b.drop last).take (p-last)=cuts.getLastD []):=by have:=hlst.2 (by omega);rw [←HP.out] at this;exact this
            clear hn0 hlst;obtain ⟨A8,c8,hs8,hc8,hm8⟩:=z7n (some ⟨g,o,none⟩) n c last (p-last) (lo:=(last:Int)) (hi:=(p:Int)) rfl (by omega) (by have:=HI3.out;omega);obtain ⟨A9,c9,hs9,hc9,hm9⟩:=z7n (some ⟨g,o,none⟩) n c p k (lo:=(p:Int)) (hi:=(p:Int)+(k:Int)) rfl rfl (by have:=HI3.out;have:=HPE.out.2.1;omega);have HR8:∀ m:Nat,Reads (V5.drewN m) V5.heap.size 1 A8 (p-last) (Lib.byteCells (cuts.getLastD [])):=by
             intro m;have:=(hm8 V5 _ b HS5.out.zgV (by have:=HPE.out;omega)).z3x.1;rw [HLC.out] at this;exact this
            have HR9:∀ m:Nat,Reads (V5.drewN m) V5.heap.size 1 A9 k (Lib.byteCells ((S.drop i).take k)):=by
             intro m;have:=(hm9 V5 _ b HS5.out.zgV (by have:=HPE.out;omega)).z3x.1;rw [HP.out,z1r HSS.out hk1] at this;exact this
            obtain ⟨cmp,hcmp⟩:∃ cmp,cmp=Lib.compareBytes (cuts.getLastD []) ((S.drop i).take k):=⟨_,rfl⟩;have HCP:Hid (∀ m,Calls Tryz.prog 145 #[.slice A8 (p-last) c8,.slice A9 k c9] (V5.drewN m) fun e w'=>e = .returned (.int .i64 cmp)∧V5.drewN m=w'):=by
             intro m;rw [hcmp];exact z43 A8 A9 (p-last) k c8 c9 _ _ _ _ _ (HR8 m) (HR9 m)
            have HCM:=Lib.hid hcmp;clear hm8 hm9 HR8 HR9 hcmp;have hE4:p+k≤40000∧E0≤40000:=by have:=HPE.out.2.1;omega
            have hlo0:(last:Int)≤(p:Int):=by omega
            have hlo1:(p:Int)≤(p:Int)+(k:Int):=by omega
            have hwk:IntKind.i64.wrap ((p:Int)+(k:Int))=(p:Int)+(k:Int):=IntWalk.i64_in _ ⟨by omega,by omega⟩
            go_upto_region 21 with fail
            go_quiet ((go_at_call 145;exact zgp (HCP.out _)))
            go_wp2_with fail
            have hri:decide (cmp≤0)=(true&&(ns.length==0||decide (Lib.compareBytes (cuts.getLastD []) ((S.drop i).take k)≤0))):=by rw [HN1.out,←HCM.out];simp
            exact ⟨⟨i+k,p,ns.length+1,c6,A6,decide (cmp≤0),_,_,_,rfl,rfl,by omega,by omega,(HF.out _ hri nq).1⟩,(HF.out _ hri nq).2⟩
       ·have hin1:decide ((p:Int)<(E0:Int))=false:=decide_eq_false (by omega);have hin2:decide (p<E0)=false:=decide_eq_false (by omega);have HIE:Hid (Dr.rds (d+1) S=some (ns,cuts)):=HI.out.end_ (by rw [HSL.out];omega);have hpos:((p:Int))=((at_+(1+j+size):Nat):Int):=by have:=HB0.out;omega
        have HPOS:=Lib.hid hpos;have HRI:=Lib.hid HI.out.ris;have HKD:Hid (Is wr (fun g=>g≤w.heap.size) (.slice A5 m5 c5) (ndsD ns)):=by
         have:=HI.out.st.pl;exact zbL HI.out.own (HI.out.all.keep fun u d hu=>hu.less (fun b hb _=> .inl (by omega))) (z1H Nd.z1Z ns) (by decide) (fun g hg=>by omega)
        clear hin hpos hpi hi hlast;obtain ⟨r0,r1,r2,r3,r4,h0,h1,h2,h3,h4⟩:=HSp.out.res.five;have q0:wr.cell? ⟨w.heap.size+1,0,none⟩=some (.int .i64 at_):=HSp.out.frm.cell 0;have hbad:∀ D:Bool,D=decide (C=0∧G=17∧Dr.rising cuts=false)→Dr.rd d ((b.drop at_).take (end_-at_))=if D then none else some (.mk (C:Nat) (G:Nat) true [] ns,1+j+size):=by
         intro D hD;rw [HBD.out,if_pos trivial,HIE.out,hD];simp only [decide_eq_true_eq]
        have HBAD:=Lib.hid hbad;clear hbad;cases ri with
        | true=>
         have HN0:Hid (Dr.rd d ((b.drop at_).take (end_-at_))=some (.mk (C:Nat) (G:Nat) true [] ns,1+j+size)):=HBAD.out false (by rw [←HRI.out];simp);exact za9
        | false=>
         by_cases hC0:C=0
         ·by_cases hG7:G=17
          ·have hc2:((C:Int)==0)=true:=by simp;omega
           have hc3:((C:Int) != 0)=false:=by simp;omega
           have hg2:((G:Int)==17)=true:=by simp;omega
           have hg3:((G:Int) != 17)=false:=by simp;omega
           have HN0:Hid (Dr.rd d ((b.drop at_).take (end_-at_))=none):=HBAD.out true (by rw [←HRI.out];simp [hC0,hG7]);clear hC0 hG7
           go_wp2_with fail
           refine (z13 34 at_ _ wr q0).mono ?_;rintro e w' ⟨rfl,rfl⟩;exact ⟨rfl,z27 HN0.out HSp.out.grown (by decide) rfl⟩
          ·have hc2:((C:Int)==0)=true:=by simp;omega
           have hc3:((C:Int) != 0)=false:=by simp;omega
           have hg2:((G:Int)==17)=false:=by simp;omega
           have hg3:((G:Int) != 17)=true:=by simp;omega
           have HN0:Hid (Dr.rd d ((b.drop at_).take (end_-at_))=some (.mk (C:Nat) (G:Nat) true [] ns,1+j+size)):=HBAD.out false (by rw [←HRI.out];simp [hG7]);clear hC0 hG7;exact za9
         ·have hc2:((C:Int)==0)=false:=by simp;omega
          have hc3:((C:Int) != 0)=true:=by simp;omega
          have HN0:Hid (Dr.rd d ((b.drop at_).take (end_-at_))=some (.mk (C:Nat) (G:Nat) true [] ns,1+j+size)):=HBAD.out false (by rw [←HRI.out];simp [hC0]);clear hC0;exact za9
     ·have hd2:decide ((d:Int)≤32)=false:=decide_eq_false (by omega);have HN0:Hid (Dr.rd d ((b.drop at_).take (end_-at_))=none):=by show _=_;rw [HRA2.out];exact z5o HX.out HL.out (.inr (by omega))
      clear hd32
      go_wp2_with fail
      refine (z13 33 at_ _ w5 q0).mono ?_;rintro e w' ⟨rfl,rfl⟩;exact ⟨rfl,z27 HN0.out HS5.out.grown (by decide) rfl⟩
    ·have hd1:decide ((size:Int)≤(end_:Int)-((at_:Int)+1+(j:Int)))=false:=decide_eq_false (by omega);have HN0:Hid (Dr.rd d ((b.drop at_).take (end_-at_))=none):=by show _=_;rw [HRA2.out];exact z5o HX.out HL.out (.inl (by have:=HRL.out;omega))
     clear hsz
     go_wp2_with fail
     refine (z13 30 at_ _ V5 q0).mono ?_;rintro e w' ⟨rfl,rfl⟩;exact ⟨rfl,z27 HN0.out HS5.out.grown (by decide) rfl⟩
 ·have hd:decide (at_<end_)=false:=decide_eq_false hat;have hn0:Dr.rd d ((b.drop at_).take (end_-at_))=none:=by
   have e0:end_-at_=0:=by omega
   rw [e0,List.take_zero];exact Dr.zlR d
  have HN0:=Lib.hid hn0;clear hat hn0
  go_wp2_with fail
  refine (z13 30 at_ _ V q0).mono ?_;rintro e w' ⟨rfl,rfl⟩;exact ⟨rfl,z27 HN0.out HG.out (by decide) rfl⟩
end Go.Proofs.YtgmppconibklcaaGreatDoor

