/- Part of the proof. No condition. -/
import Derived.Test.YtgmppconibklcaaGreatDoorM45
import Derived.Test.YtgmppconibklcaaGreatDoorM16
import Derived.Test.YtgmppconibklcaaGreatDoorM44
import Derived.Test.YtgmppconibklcaaGreatDoorM28
import Derived.Test.YtgmppconibklcaaGreatDoorM15
import Derived.Test.YtgmppconibklcaaGreatDoorM17
set_option maxHeartbeats 40000000
set_option maxRecDepth 100000
set_option linter.unusedVariables false
set_option linter.unusedSimpArgs false
namespace Go.Proofs.YtgmppconibklcaaGreatDoor
open Go Go.RowKit

theorem zis (s:ByteArray) (h:3<s.size):partOf (s.extract 0 4)=if 0≤Pr.tw s.data.toList 0∧0≤Pr.tw s.data.toList 2 then Pr.tw s.data.toList 0*100+Pr.tw s.data.toList 2 else -1:=by
 have hl:s.size=s.data.toList.length:=Lib.size_eq s;obtain ⟨l,hll⟩:∃ l,l=s.data.toList:=⟨_,rfl⟩;have e:(s.extract 0 4).data.toList=[l.getD 0 0,l.getD 1 0,l.getD 2 0,l.getD 3 0]:=by
  rw [z5D,←hll,List.drop_zero];rw [←hll] at hl;have h4:4≤l.length:=by omega
  clear hl hll;match l,h4 with
  | a::b::c::d::r,_=>rfl
 unfold partOf Pr.tw Pr.lb;rw [e,←hll];simp only [List.all_cons,List.all_nil,Bool.and_true,Bool.and_eq_true,Od.z1s,decide_eq_true_eq,Od.val,List.foldl_cons,List.foldl_nil];generalize l.getD 0 0=a;generalize l.getD (0+1) 0=b;generalize l.getD 2 0=c;generalize l.getD (2+1) 0=d;by_cases c1:48≤a.toNat∧a.toNat≤57∧48≤b.toNat∧b.toNat≤57
 ·by_cases c2:48≤c.toNat∧c.toNat≤57∧48≤d.toNat∧d.toNat≤57
  ·rw [if_pos (by omega),if_pos (by rw [if_pos (by omega),if_pos (by omega)];omega),if_pos (by omega),if_pos (by omega)];omega
  ·rw [if_neg (by omega),if_neg (by rw [if_pos (by omega),if_neg (by omega)];omega)]
 ·rw [if_neg (by omega),if_neg (by rw [if_neg (by omega)];omega)]
def yrR (l:List UInt8):Int:=if 0≤Pr.tw l 0∧0≤Pr.tw l 2 then Pr.tw l 0*100+Pr.tw l 2 else -1
theorem zae (s:ByteArray) (x:Int) (w:World) (h:3<s.size) (hx:Hid (x=yrR s.data.toList)):
  Calls Tryz.prog 215 #[.string (s.extract 0 4)] w fun e w'=>e = .returned (.int .i64 x)∧w'=w:=by
 rw [hx.out,yrR,←zis s h];exact (zaf _ w (by simp;omega)).mono fun _ _ ⟨h1,h2⟩=>⟨h1,h2.symm⟩
theorem zaX (l:List UInt8): -1≤yrR l∧yrR l≤9999:=by
 have:=Pr.z1i l 0;have:=Pr.z1i l 2;unfold yrR;split<;>omega
theorem z9o {l:List UInt8} {x u:Int} {o:Option Int} (hF:Pr.Form l) (hx:x=yrR l) (ho:o=Pr.momO x l 4) (hu:u=if l.length=15 then 0 else (Pr.val (Pr.frac l):Int)):
  z1F (Pr.z29 l)=zgz o u:=by
 have r0:=Pr.z1i l 0;have r2:=Pr.z1i l 2;unfold yrR at hx;by_cases h:0≤Pr.tw l 0∧0≤Pr.tw l 2
 ·rw [if_pos h] at hx;unfold Pr.z29;rw [if_pos ⟨hF,h.1,h.2⟩,←hx,←ho];subst hu;cases o<;>rfl
 ·rw [if_neg h] at hx;have ho2:o=none:=by
   rw [ho];unfold Pr.momO Pr.atO;rw [if_neg (fun h=>by have:=h.1;omega)]
  subst ho2;exact z0Z (fun hh=>h ⟨hh.2.1,hh.2.2⟩)
theorem z7y (s:ByteArray) (w:World) (hlo:¬s.size<15) (hhi:¬22<s.size) (hz:PlainAid.bt s (s.size-1)=90) (h15:s.size=15):
  Calls Tryz.prog 156 #[.string s] w fun e w'=>e = .returned (z1F (Pr.z29 s.data.toList))∧∃ n,w'=w.drewN n:=by
 have hsz:s.size=s.data.toList.length:=Lib.size_eq s;have hb:=PlainAid.get_bt s;have e1:=z3S s (s.size-1);have rx:=zaX s.data.toList;obtain ⟨x,hx⟩:∃ a,a=yrR s.data.toList:=⟨_,rfl⟩;obtain ⟨o,ho⟩:∃ o,o=Pr.momO x s.data.toList 4:=⟨_,rfl⟩;have Ho:Hid (o=Pr.momO x (s.extract 4 14).data.toList 0):=by show _=_;rw [z6a _ s 4];exact ho
 have he:(s.extract 4 14).size=10:=by simp;omega
 have He:=Lib.hid he;have Hx:=Lib.hid hx;have HO:=Lib.hid ho;rw [←hx] at rx;obtain ⟨rx0,rx1⟩:=rx;have Hf:Hid (z1F (Pr.z29 s.data.toList)=zgz o 0):=by
  show _=_;refine z9o ⟨by omega,by omega,by omega,?_,fun h=>by omega⟩ hx ho (by rw [if_pos (by omega)]);rw [←hsz,e1];exact hz
 have q3:3<s.size:=by omega
 have q4:(4:Int)≤(s.size:Int):=by omega
 have q14:(14:Int)≤(s.size:Int):=by omega
 have q10: -10≤x:=by omega
 have hg:15≤s.size:=by omega
 have hl:s.size≤15:=by omega
 have h16:((s.size:Int)==16)=false:=by simp;omega
 have hem:=z2a.1 (show (s.extract 14 (s.size-1)).size=0 by simp;omega);have hem2:(!(s.extract 14 (s.size-1)).toList.isEmpty)=false:=by rw [hem];rfl
 clear h15 hsz e1 he hx ho;cases o with
 | none=>
  go_enter Tryz.func156,Tryz.ntmps156
  go_wp2_with fail
  go_quiet (first|(go_at_call 215;exact Calls.quiet_of_same (zae s x _ q3 Hx))|(go_at_call 216;exact Calls.quiet_of (ziA _ x _ _ He.out q10 rx1 rfl Ho)))
  go_wp2_with fail
  go_ret3
  exact ⟨by rw [Hf.out];rfl,_,rfl⟩
 | some t=>
  go_enter Tryz.func156,Tryz.ntmps156
  go_wp2_with fail
  go_quiet (first|(go_at_call 215;exact Calls.quiet_of_same (zae s x _ q3 Hx))|(go_at_call 216;exact Calls.quiet_of (ziz _ x t _ _ He.out q10 rx1 rfl Ho)))
  go_wp2_with fail
  go_ret3
  exact ⟨by rw [Hf.out];rfl,_,rfl⟩
theorem zkN {l:List UInt8} {j:Nat} (h0:17≤l.length) (h1:l.length≤22) (hj:l.length-16+j=6):(l.drop 15).take (l.length-16)++List.replicate j 48=Pr.frac l:=by
 unfold Pr.frac;rw [show j=22-l.length by omega]
theorem str_0 (a:ByteArray):(a++(⟨#[48]⟩:ByteArray)).data.toList=a.data.toList++[48]:=by simp
theorem zir (s:ByteArray) (l:List UInt8) (h:s.data.toList=Pr.frac l):partOf s=if (Pr.frac l).all Pr.z1s then (Pr.val (Pr.frac l):Int) else -1:=by
 unfold partOf;rw [h];rfl
theorem znd (s:ByteArray) (x:Int) (w:World) (hs:s.size≤10) (hx:Hid (x=partOf s)):
  Calls Tryz.prog 215 #[.string s] w fun e w'=>e = .returned (.int .i64 x)∧w'=w:=by
 rw [hx.out];exact (zaf _ w hs).mono fun _ _ ⟨h1,h2⟩=>⟨h1,h2.symm⟩
def strLen:Value→Nat | .string s=>s.size|_=>0
theorem z61 (s:ByteArray) (w:World) (hlo:¬s.size<15) (hhi:¬22<s.size) (hz:PlainAid.bt s (s.size-1)=90) (h15:¬s.size=15) (h16:¬s.size=16):
  Calls Tryz.prog 156 #[.string s] w fun e w'=>e = .returned (z1F (Pr.z29 s.data.toList))∧∃ n,w'=w.drewN n:=by
 have hsz:s.size=s.data.toList.length:=Lib.size_eq s;have e1:=z3S s (s.size-1);have e2:=z3S s (s.size-2);have e14:=z3S s 14;have rx:=zaX s.data.toList;obtain ⟨x,hx⟩:∃ a,a=yrR s.data.toList:=⟨_,rfl⟩;obtain ⟨o,ho⟩:∃ o,o=Pr.momO x s.data.toList 4:=⟨_,rfl⟩;have Ho:Hid (o=Pr.momO x (s.extract 4 14).data.toList 0):=by show _=_;rw [z6a _ s 4];exact ho
 have he:(s.extract 4 14).size=10:=by simp;omega
 have He:=Lib.hid he;have Hx:=Lib.hid hx;have HO:=Lib.hid ho;rw [←hx] at rx;obtain ⟨rx0,rx1⟩:=rx;have q3:3<s.size:=by omega
 have q4:(4:Int)≤(s.size:Int):=by omega
 have q14:(14:Int)≤(s.size:Int):=by omega
 have q10: -10≤x:=by omega
 have hg:17≤s.size:=by omega
 have h162:((s.size:Int)==16)=false:=by simp;omega
 have hfs:(s.extract 14 (s.size-1)).size=s.size-15:=by simp;omega
 have hem:=z2a.2 (show ¬(s.extract 14 (s.size-1)).size=0 by omega);have hem2:(!(s.extract 14 (s.size-1)).toList.isEmpty)=true:=by rw [hem];rfl
 have Hbf:Hid (∀ (n:Nat) (h:n<(s.extract 14 (s.size-1)).size),(((s.extract 14 (s.size-1))[n]'h).toNat:Int)=PlainAid.bt s (14+n)):=fun n h=>by
  rw [PlainAid.get_bt,←z3S,←z3S,ziS s 14 _ n (by omega)]
 have hbs:=PlainAid.get_bt s;have HG:Hid (((s.extract 14 (s.size-1)).extract 1 (s.size-1-14)).data.toList=(s.data.toList.drop 15).take (s.data.toList.length-16)):=by
  show _=_;rw [z5D,z5D,List.drop_take,List.drop_drop,List.take_take]
  congr 1
  omega
 have Hsz:=Lib.hid hsz;have HF:Hid (PlainAid.bt s 14=46→PlainAid.bt s (s.size-2)≠48→(Pr.frac s.data.toList).all Pr.z1s=true→Pr.Form s.data.toList):=by
  intro ha hb hd;refine ⟨by omega,by omega,by omega,?_,fun _=>⟨?_,?_,hd⟩⟩
  ·rw [←hsz,e1];exact hz
  ·rw [e14];exact ha
  ·rw [←hsz,e2];exact hb
 have HB:Hid (Pr.Form s.data.toList→PlainAid.bt s 14=46∧PlainAid.bt s (s.size-2)≠48∧(Pr.frac s.data.toList).all Pr.z1s=true):=by
  intro h;have h2:=h.2.2.2.2 (by omega);rw [e14,←hsz,e2] at h2;exact h2
 have Hfs:=Lib.hid hfs;have hzl:17≤s.size:=hg;have hzh:s.size≤22:=by omega
 have Hz:=Lib.hid hz;clear he hx ho hsz e1 e2 e14 hfs hem h15 h16 hlo hhi hg;go_enter Tryz.func156,Tryz.ntmps156
 go_wp2_with fail
 go_loop [7] (fun t7=>∃ (g:ByteArray) (j:Nat),t7 = .string g∧g.size≤6∧s.size-16+j≤6∧Hid (g.data.toList=(s.data.toList.drop 15).take (s.data.toList.length-16)++List.replicate j 48∧g.size=s.size-16+j)) (fun t7=>6-strLen t7)
 case atStart=>exact ⟨_,0,rfl,by simp;omega,by omega,by rw [HG.out];simp,by simp;omega⟩
 case round=>
  obtain ⟨g,j,rfl,hg6,hj,HJ⟩:=hrel;by_cases h6:g.size<6
  ·have HJ2:Hid ((g++(⟨#[48]⟩:ByteArray)).data.toList=(s.data.toList.drop 15).take (s.data.toList.length-16)++List.replicate (j+1) 48∧(g++(⟨#[48]⟩:ByteArray)).size=s.size-16+(j+1)):=by
    refine ⟨?_,?_⟩
    ·rw [str_0,HJ.out.1,List.replicate_succ',List.append_assoc]
    ·have:=HJ.out.2;rw [Lib.size_eq,str_0,List.length_append,←Lib.size_eq,this];simp;omega
   have hj2:s.size-16+(j+1)≤6:=by have:=HJ.out.2;omega
   have hg62:(g++(⟨#[48]⟩:ByteArray)).size≤6:=by have:=HJ2.out.2;omega
   have Hm:Hid (6-(g++(⟨#[48]⟩:ByteArray)).size<6-g.size):=by have h1:=HJ.out.2;have h2:=HJ2.out.2;show _<_;omega
   go_wp2_with fail
   go_round
   case rel=>exact ⟨_,j+1,rfl,hg62,hj2,HJ2⟩
   case measure=>exact Hm.out
  ·have hgf:g.data.toList=Pr.frac s.data.toList:=by
    have h1:=HJ.out;rw [h1.1];exact zkN (by have:=Hsz.out;omega) (by have:=Hsz.out;omega) (by have:=Hsz.out;omega)
   obtain ⟨u,hu⟩:∃ u,u=partOf g:=⟨_,rfl⟩;have hu2:=zir g s.data.toList hgf;rw [←hu] at hu2;have Hu:=Lib.hid hu;have Hu2:=Lib.hid hu2;have hg10:g.size≤10:=by omega
   have hb0:=Hbf.out 0 (by have:=Hfs.out;omega);have hb1:=Hbf.out (s.size-1-14-1) (by have:=Hfs.out;omega);rw [show 14+(s.size-1-14-1)=s.size-2 by omega] at hb1;rw [show 14+0=14 from rfl] at hb0;obtain ⟨c0,hc0⟩:∃ c,c=PlainAid.bt s 14:=⟨_,rfl⟩;obtain ⟨c1,hc1⟩:∃ c,c=PlainAid.bt s (s.size-2):=⟨_,rfl⟩;rw [←hc0] at hb0 HF HB;rw [←hc1] at hb1 HF HB;clear hu hu2 hgf hc0 hc1
   go_wp2_with fail
   refine (znd g u _ hg10 Hu).mono ?_;rintro _ w1 ⟨rfl,rfl⟩;have hcs:(¬c0=46)∨(c0=46∧u<0)∨(c0=46∧0≤u∧c1=48)∨(c0=46∧0≤u∧¬c1=48):=by omega
   rcases hcs with k0|⟨rfl,ku⟩|⟨rfl,ku,rfl⟩|⟨rfl,ku,k1⟩
   ·have Hf:=Lib.hid (z0Z (l:=s.data.toList) (fun h=>k0 (HB.out h.1).1));have k01:(c0==46)=false:=by simpa using k0
    have k02:(c0 != 46)=true:=by simpa using k0
    clear k0
    go_wp2_with fail
    go_ret3
    exact ⟨by rw [Hf.out];rfl,0,rfl⟩
   ·have Hf:=Lib.hid (z0Z (l:=s.data.toList) (fun h=>by
     have h1:=Hu2.out;rw [if_pos (HB.out h.1).2.2] at h1;omega))
    go_wp2_with fail
    go_ret3
    exact ⟨by rw [Hf.out];rfl,0,rfl⟩
   ·have Hf:=Lib.hid (z0Z (l:=s.data.toList) (fun h=>(HB.out h.1).2.1 rfl))
    go_wp2_with fail
    go_ret3
    exact ⟨by rw [Hf.out];rfl,0,rfl⟩
   ·have k11:(c1==48)=false:=by simpa using k1
    have hdig:(Pr.frac s.data.toList).all Pr.z1s=true:=by
     by_cases hd:(Pr.frac s.data.toList).all Pr.z1s=true
     ·exact hd
     ·have h1:=Hu2.out;rw [if_neg hd] at h1;omega
    have Hf:Hid (z1F (Pr.z29 s.data.toList)=zgz o u):=by
     have h1:=Hu2.out;rw [if_pos hdig] at h1;exact z9o (HF.out rfl k1 hdig) Hx.out HO.out (by rw [if_neg (by have:=Hsz.out;omega)];exact h1)
    clear hdig k1;cases o with
    | none=>
     go_wp2_with fail
     go_quiet (first|(go_at_call 215;exact Calls.quiet_of_same (zae s x _ q3 Hx))|(go_at_call 216;exact Calls.quiet_of (ziA _ x _ _ He.out q10 rx1 rfl Ho)))
     go_wp2_with fail
     go_ret3
     exact ⟨by rw [Hf.out];rfl,_,rfl⟩
    | some t=>
     go_wp2_with fail
     go_quiet (first|(go_at_call 215;exact Calls.quiet_of_same (zae s x _ q3 Hx))|(go_at_call 216;exact Calls.quiet_of (ziz _ x t _ _ He.out q10 rx1 rfl Ho)))
     go_wp2_with fail
     go_ret3
     exact ⟨by rw [Hf.out];rfl,_,rfl⟩
end Go.Proofs.YtgmppconibklcaaGreatDoor

namespace Go.Proofs.YtgmppconibklcaaGreatDoor
open Go Go.RowKit
theorem z5p {p:Prop} (h:p:=by
  go_enter Tryz.func156,Tryz.ntmps156
  go_wp2_with fail
  go_ret3
  exact ⟨by rw [Hf.out];rfl,0,rfl⟩):p:=h
theorem z6L (s:ByteArray) (w:World) (hs:s.size≤1000000):
  Calls Tryz.prog 156 #[.string s] w fun e w'=>e = .returned (z1F (Pr.z29 s.data.toList))∧∃ n,w'=w.drewN n:=by
 have hsz:s.size=s.data.toList.length:=Lib.size_eq s;have hb:=PlainAid.get_bt s;by_cases hlo:s.size<15
 ·have Hf:=Lib.hid (z0Z (l:=s.data.toList) (fun h=>by have:=h.1.1;omega));clear hsz hb;exact z5p
 by_cases hhi:22<s.size
 ·have Hf:=Lib.hid (z0Z (l:=s.data.toList) (fun h=>by have:=h.1.2.1;omega));clear hsz hb;exact z5p
 have e1:=z3S s (s.size-1);by_cases hz:PlainAid.bt s (s.size-1)=90
 ·by_cases h16:s.size=16
  ·have Hf:=Lib.hid (z0Z (l:=s.data.toList) (fun h=>by have:=h.1.2.2.1;omega));have h161:((s.size:Int)==16)=true:=by simp;omega
   clear hsz e1 h16;exact z5p
  ·by_cases h15:s.size=15
   ·exact z7y s w hlo hhi hz h15
   ·exact z61 s w hlo hhi hz h15 h16
 ·have Hf:=Lib.hid (z0Z (l:=s.data.toList) (fun h=>by have:=h.1.2.2.2.1;rw [←hsz] at this;omega));have hz1:(PlainAid.bt s (s.size-1)==90)=false:=by simpa using hz
  have hz2:(PlainAid.bt s (s.size-1) != 90)=true:=by simpa using hz
  clear hz hsz e1;exact z5p
end Go.Proofs.YtgmppconibklcaaGreatDoor

namespace Go.Proofs.YtgmppconibklcaaGreatDoor
open Go Go.RowKit
namespace Am
variable {gl:Nat→Option (List D)}
theorem zaY (b:List UInt8) (hb:b.length≤20000):OK gl 100 [rX (z04 b)] (.tup [sX ⟨((Od.decO b).getD []).toArray⟩,iX (if (Od.decO b).isSome then 0 else 20)]):=
 z0v rfl rfl z0q fun w vals hT hargs=>by
  obtain ⟨v,rfl,h⟩:=hargs.one_;obtain ⟨A,c,rfl,hc,hr,_⟩:=(z3p (Av:=fun _=>False) (show RD (imOf w _) v (z04 b) from h)).bytes;refine (z8u A c b w hr hb).mono ?_;rintro e w' ⟨rfl,hb⟩;refine ⟨_,rfl,?_,hb⟩;unfold z4a;cases Od.decO b with
  | none=>exact z2q (.z0D (.leaf _ rfl) (.z0D (.leaf _ rfl) .nil_))
  | some t=>exact z2q (.z0D (.leaf _ rfl) (.z0D (.leaf _ rfl) .nil_))
theorem xUtfR (s:ByteArray) (hs:s.size≤1000000):OK gl 152 [sX s] (.b (Utf.ok s)):=
 z0v rfl rfl z0q fun w vals hT hargs=>by
  obtain ⟨v,rfl,h⟩:=hargs.one_;have e:=RD.z0M h;subst e;refine (zd3 s w hs).mono ?_;rintro e w' ⟨rfl,rfl⟩;exact ⟨_,rfl,z4v rfl,Below.refl _ _⟩
theorem xPrR (s:ByteArray) (hs:s.size≤1000000):OK gl 153 [sX s] (.b (St.pr s)):=
 z0v rfl rfl z0q fun w vals hT hargs=>by
  obtain ⟨v,rfl,h⟩:=hargs.one_;have e:=RD.z0M h;subst e;refine (zhU s w hs).mono ?_;rintro e w' ⟨rfl,hb⟩;exact ⟨_,rfl,z4v rfl,hb⟩
theorem xIaR (s:ByteArray) (hs:s.size≤1000000):OK gl 154 [sX s] (.b (St.ia s)):=
 z0v rfl rfl z0q fun w vals hT hargs=>by
  obtain ⟨v,rfl,h⟩:=hargs.one_;have e:=RD.z0M h;subst e;refine (zhV s w hs).mono ?_;rintro e w' ⟨rfl,rfl⟩;exact ⟨_,rfl,z4v rfl,Below.refl _ _⟩
theorem zmr (s:ByteArray) (hs:s.size≤1000000):OK gl 155 [sX s] (.tup [iX ((Pr.z22 s.data.toList).getD 0),iX (if (Pr.z22 s.data.toList).isSome then 0 else 21)]):=
 z0v rfl rfl z0q fun w vals hT hargs=>by
  obtain ⟨v,rfl,h⟩:=hargs.one_;have e:=RD.z0M h;subst e;refine (z60 s w hs).mono ?_;rintro e w' ⟨rfl,hq⟩;refine ⟨_,rfl,?_,z7C hq⟩;show RT _ (z2w (Pr.z22 s.data.toList)) _;cases Pr.z22 s.data.toList with
  | none=>exact z2q (.z0D (.leaf _ rfl) (.z0D (.leaf _ rfl) .nil_))
  | some p=>exact z2q (.z0D (.leaf _ rfl) (.z0D (.leaf _ rfl) .nil_))
theorem xLongR (s:ByteArray) (hs:s.size≤1000000):OK gl 156 [sX s] (.tup [iX ((Pr.z29 s.data.toList).getD (0,0)).1,iX ((Pr.z29 s.data.toList).getD (0,0)).2,iX (if (Pr.z29 s.data.toList).isSome then 0 else 21)]):=
 z0v rfl rfl z0q fun w vals hT hargs=>by
  obtain ⟨v,rfl,h⟩:=hargs.one_;have e:=RD.z0M h;subst e;refine (z6L s w hs).mono ?_;rintro e w' ⟨rfl,hq⟩;refine ⟨_,rfl,?_,z7C hq⟩;show RT _ (z1F (Pr.z29 s.data.toList)) _;cases Pr.z29 s.data.toList with
  | none=>exact z2q (.z0D (.leaf _ rfl) (.z0D (.leaf _ rfl) (.z0D (.leaf _ rfl) .nil_)))
  | some p=>exact z2q (.z0D (.leaf _ rfl) (.z0D (.leaf _ rfl) (.z0D (.leaf _ rfl) .nil_)))
structure PowI (x:UInt8) (l:List UInt8) (k:Nat) (s:SF):Prop where
 e1:s.env 1=some (.e (rX (z04 (x::l))))
 e5:s.env 5=some (.e (iX ((l.length:Int)+1)))
 ex:∃ j,j+k=x.toNat∧s.env 8=some (.e (iX j))∧s.env 7=some (.e (iX ((2^j:Nat):Int)))
theorem zjD (x:UInt8) (l:List UInt8):Dr.value 3 (x::l)=(decide (x.toNat≤7)&&!(l.length==0&&decide (0<x.toNat))&&(x.toNat==0||((x::l).getD l.length 0).toNat%2^x.toNat==0)):=by
 show Dr.z9G (x::l)=_;unfold Dr.z9G;simp
theorem z2g {p:Prop} (h:p:=by
  refine z0d Tryz.func84 rfl (by show 2≤_;decide) ?_;unfold Tryz.f84;dsimp only;have d9:Drw 9 [1] []:=⟨⟩;exact am_):p:=h
theorem zmS (b:List UInt8) (hz:b.length≤20000):OK gl 84 [iX 3,rX (z04 b)] (.b (Dr.value 3 b)):=by
 rcases b with _|⟨x,l⟩
 ·have he:Dr.value 3 []=false:=rfl;exact z2g
 ·have he:=zjD x l;have hlz:l.length≤20000:=by simp at hz;omega
  generalize Dr.value 3 (x::l)=r at *;by_cases hx:7<x.toNat
  ·have he:r=false:=by
    rw [he,decide_eq_false (show ¬x.toNat≤7 by omega)];rfl
   refine z0d Tryz.func84 rfl (by show 2≤_;decide) ?_;unfold Tryz.f84;dsimp only;repeat' (first
    | (first|refine sq_ ?_|refine bk_ ?_)
    | ((first|refine rg_ fun Q hQ=>?_|refine if_ fun Q hQ=>?_|refine dr_ (id:=9) [1] [] (by kernel_rfl) fun Q hQ=>?_|refine ca_ ?_|show EndK _ _ _ _ _ _ _ _);simp -implicitDefEqProofs [*])
    | ((first|refine bs_ ?_ ?_|refine cs_ ?_ ?_)<;>(intro hc;have hb:=hc;(try simp only [hk_,ne_eq] at hc);(try have ⟨hc1,hc2⟩:_∧_:=hc);(try subst_vars))<;>first|contradiction|(exfalso;omega)|(simp -implicitDefEqProofs [*])|skip)
    | ((first|refine aq_ ?_|refine z05 ?_|refine z06 ?_|refine z07 ?_);try simp only [sk_,↓reduceIte,Nat.reduceEqDiff])
    | (with_reducible refine And.intro ?_ ?_;focus (decide +kernel))
    | ((with_reducible show OptK _ _);(simp (disch:=omega) only [if_pos,if_neg]);(try (simp -implicitDefEqProofs [*]))))
   all_goals omega
  ·obtain ⟨y,r2,hd,hy,_⟩:=z0t (l:=x::l) (k:=l.length) (by simp);have hlast:(x::l).getD l.length 0=y:=by rw [List.getD_eq_getElem?_getD,hy];rfl
   rw [hlast] at he;clear hy hlast;have hw:=z17 (k:=l.length) (by omega);have hwx:IntKind.wrap .i64 (x.toNat:Int)=x.toNat:=z0f (by omega) (by omega);have hwy:IntKind.wrap .i64 (y.toNat:Int)=y.toNat:=z0f (by have:=y.toNat_lt;omega) (by have:=y.toNat_lt;omega);refine z0d Tryz.func84 rfl (by show 2≤_;decide) ?_;unfold Tryz.f84;dsimp only;repeat' (first
    | ((refine z0J (y:= .seq (.seq (.region 19 _ _) _) _) ((fun s=>s.env 1=some (.e (rX (z04 (x::l))))∧s.env 5=some (.e (iX ((l.length:Int)+1)))∧s.env 7=some (.e (iX ((2^x.toNat:Nat):Int))))) ?_ ?_;intro Q hQ))
    | (first|refine sq_ ?_|refine bk_ ?_)
    | ((first|refine rg_ fun Q hQ=>?_|refine if_ fun Q hQ=>?_|refine dr_ (id:=9) [1] [] (by kernel_rfl) fun Q hQ=>?_|refine ca_ ?_|show EndK _ _ _ _ _ _ _ _);simp -implicitDefEqProofs [*])
    | ((first|refine bs_ ?_ ?_|refine cs_ ?_ ?_)<;>(intro hc;have hb:=hc;(try simp only [hk_,ne_eq] at hc);(try have ⟨hc1,hc2⟩:_∧_:=hc);(try subst_vars))<;>first|contradiction|(exfalso;omega)|(simp -implicitDefEqProofs [*])|skip)
    | ((first|refine aq_ ?_|refine z05 ?_|refine z06 ?_|refine z07 ?_);try simp only [sk_,↓reduceIte,Nat.reduceEqDiff])
    | (with_reducible refine And.intro ?_ ?_;focus (decide +kernel))
    | ((with_reducible show OptK _ _);(simp (disch:=omega) only [if_pos,if_neg]);(try (simp -implicitDefEqProofs [*]))))
   ·refine z0A (PowI x l) x.toNat ?_ ?_
    ·exact ⟨by simp,by simp,0,by simp,by simp,by simp⟩
    ·rintro k s ⟨h1,h5,j,hj,h8,h7⟩;cases k with
     | zero=>
      obtain rfl:j=x.toNat:=by omega
      generalize 2^x.toNat=m at *;repeat' (first
       | (first|refine sq_ ?_|refine bk_ ?_)
       | ((first|refine rg_ fun Q hQ=>?_|refine if_ fun Q hQ=>?_|refine dr_ (id:=9) [1] [] (by kernel_rfl) fun Q hQ=>?_|refine ca_ ?_|show EndK _ _ _ _ _ _ _ _);simp -implicitDefEqProofs [*])
       | ((first|refine bs_ ?_ ?_|refine cs_ ?_ ?_)<;>(intro hc;have hb:=hc;(try simp only [hk_,ne_eq] at hc);(try have ⟨hc1,hc2⟩:_∧_:=hc);(try subst_vars))<;>first|contradiction|(exfalso;omega)|(simp -implicitDefEqProofs [*])|skip)
       | ((first|refine aq_ ?_|refine z05 ?_|refine z06 ?_|refine z07 ?_);try simp only [sk_,↓reduceIte,Nat.reduceEqDiff])
       | (with_reducible refine And.intro ?_ ?_;focus (decide +kernel))
       | ((with_reducible show OptK _ _);(simp (disch:=omega) only [if_pos,if_neg]);(try (simp -implicitDefEqProofs [*]))))
      exact ⟨by simp [h1],by simp [h5],by simp [h7]⟩
     | succ k=>
      have hp:(2^j:Nat)≤2^7:=Nat.pow_le_pow_right (by decide) (by omega);have hw1:=z17 (k:=2^(j+1)) (by rw [Nat.pow_succ];omega);have hw2:IntKind.wrap .i64 ((j:Int)+1)=(j:Int)+1:=z0f (by omega) (by omega);have hpp:((2^j:Nat):Int)*2=((2^(j+1):Nat):Int):=by rw [Nat.pow_succ];push_cast;rfl
      have hw3:IntKind.wrap .i64 ((2:Int)^(j+1))=(2:Int)^(j+1):=by
       have:=hw1
       push_cast at this
       exact this
      generalize 2^j=m at *;repeat' (first
       | (first|refine sq_ ?_|refine bk_ ?_)
       | ((first|refine rg_ fun Q hQ=>?_|refine if_ fun Q hQ=>?_|refine dr_ (id:=9) [1] [] (by kernel_rfl) fun Q hQ=>?_|refine ca_ ?_|show EndK _ _ _ _ _ _ _ _);simp -implicitDefEqProofs [*])
       | ((first|refine bs_ ?_ ?_|refine cs_ ?_ ?_)<;>(intro hc;have hb:=hc;(try simp only [hk_,ne_eq] at hc);(try have ⟨hc1,hc2⟩:_∧_:=hc);(try subst_vars))<;>first|contradiction|(exfalso;omega)|(simp -implicitDefEqProofs [*])|skip)
       | ((first|refine aq_ ?_|refine z05 ?_|refine z06 ?_|refine z07 ?_);try simp only [sk_,↓reduceIte,Nat.reduceEqDiff])
       | (with_reducible refine And.intro ?_ ?_;focus (decide +kernel))
       | ((with_reducible show OptK _ _);(simp (disch:=omega) only [if_pos,if_neg]);(try (simp -implicitDefEqProofs [*]))))
      exact ⟨k,by omega,by simp [h1],by simp [h5],j+1,by omega,by simp [hw2],by simp [hw3]⟩
   ·rintro s ⟨h1,h5,h7⟩;have hp:0<2^x.toNat:=Nat.pow_pos (by decide);have hp7:(2^x.toNat:Nat)≤2^7:=Nat.pow_le_pow_right (by decide) (by omega);have hp1:2^x.toNat=1↔x.toNat=0:=by
     constructor
     ·intro h;by_cases h0:x.toNat=0
      ·exact h0
      ·have:=Nat.pow_le_pow_right (show 1≤2 by decide) (show 1≤x.toNat by omega);omega
     ·intro h;rw [h]
    have h7':decide (x.toNat≤7)=true:=decide_eq_true (by omega);generalize 2^x.toNat=m at *;have hm0:¬m=0:=by omega
    have hyx:(y.toNat:Int).tmod (m:Int)=((y.toNat%m:Nat):Int):=rfl;clear hp hp7;repeat' (first
     | (first|refine sq_ ?_|refine bk_ ?_)
     | ((first|refine rg_ fun Q hQ=>?_|refine if_ fun Q hQ=>?_|refine dr_ (id:=9) [1] [] (by kernel_rfl) fun Q hQ=>?_|refine ca_ ?_|show EndK _ _ _ _ _ _ _ _);simp -implicitDefEqProofs [*])
     | ((first|refine bs_ ?_ ?_|refine cs_ ?_ ?_)<;>(intro hc;have hb:=hc;(try simp only [hk_,ne_eq] at hc);(try have ⟨hc1,hc2⟩:_∧_:=hc);(try subst_vars))<;>first|contradiction|(exfalso;omega)|(simp -implicitDefEqProofs [*])|skip)
     | ((first|refine aq_ ?_|refine z05 ?_|refine z06 ?_|refine z07 ?_);try simp only [sk_,↓reduceIte,Nat.reduceEqDiff])
     | (with_reducible refine And.intro ?_ ?_;focus (decide +kernel))
     | ((with_reducible show OptK _ _);(simp (disch:=omega) only [if_pos,if_neg]);(try (simp -implicitDefEqProofs [*]))))
    ·by_cases hx0:x.toNat=0
     ·obtain rfl:=hp1.2 hx0;simp [hx0]
     ·have hm1:¬m=1:=fun h=>hx0 (hp1.1 h)
      have hl0:l.length=0:=by omega
      have hx1:0<x.toNat:=by omega
      have e:((m:Int)==1)=false:=by rw [beq_eq_false_iff_ne];omega
      simp [e,hl0,hx1]
    ·have hl0:¬l.length=0:=by omega
     have e:((y.toNat:Int)%(m:Int)==0)=(y.toNat%m==0):=by
      rw [Bool.eq_iff_iff,beq_iff_eq,beq_iff_eq];omega
     rw [e];by_cases hx0:x.toNat=0
     ·obtain rfl:=hp1.2 hx0;simp [hx0,Nat.mod_one]
     ·have hxb:(x.toNat==0)=false:=by rw [beq_eq_false_iff_ne];exact hx0
      have hlb:(l.length==0)=false:=by rw [beq_eq_false_iff_ne];exact hl0
      rw [hxb,hlb];rfl
theorem zhm (x y:UInt8) (l:List UInt8):(!((x.toNat:Int)*2+(y.toNat:Int) / 128==0)&&!((x.toNat:Int)*2+(y.toNat:Int) / 128==511))=Dr.least (x::y::l):=by
 have hx:=x.toNat_lt;have hy:=y.toNat_lt;unfold Dr.least;rw [Bool.eq_iff_iff];simp;omega
theorem zaa {p:Prop} (h:p:=by
  refine z0d Tryz.func84 rfl (by show 2≤_;decide) ?_;unfold Tryz.f84;dsimp only;repeat' (first
   | (first|refine sq_ ?_|refine bk_ ?_)
   | ((first|refine rg_ fun Q hQ=>?_|refine if_ fun Q hQ=>?_|refine dr_ (id:=9) [1] [] (by kernel_rfl) fun Q hQ=>?_|refine ca_ ?_|show EndK _ _ _ _ _ _ _ _);simp -implicitDefEqProofs [*])
   | ((first|refine bs_ ?_ ?_|refine cs_ ?_ ?_)<;>(intro hc;have hb:=hc;(try simp only [hk_,ne_eq] at hc);(try have ⟨hc1,hc2⟩:_∧_:=hc);(try subst_vars))<;>first|contradiction|(exfalso;omega)|(simp -implicitDefEqProofs [*])|skip)
   | ((first|refine aq_ ?_|refine z05 ?_|refine z06 ?_|refine z07 ?_);try simp only [sk_,↓reduceIte,Nat.reduceEqDiff])
   | (with_reducible refine And.intro ?_ ?_;focus (decide +kernel))
   | ((with_reducible show OptK _ _);(simp (disch:=omega) only [if_pos,if_neg]);(try (simp -implicitDefEqProofs [*]))))
  all_goals first|omega|(rw [Bool.eq_iff_iff];simp;done)|(rw [Bool.eq_iff_iff];simp;omega)):p:=h
theorem zmT (t:Int) (h:t=2∨t=10) (b:List UInt8) (hz:b.length≤20000):OK gl 84 [iX t,rX (z04 b)] (.b (Dr.least b)):=by
 rcases b with _|⟨x,_|⟨y,l⟩⟩
 ·have he:Dr.least []=false:=rfl;rcases h with rfl|rfl;all_goals
   exact z2g
 ·have he:Dr.least [x]=true:=rfl;rcases h with rfl|rfl;all_goals
   exact z2g
 ·have he:=zhm x y l;have hx:=x.toNat_lt;have hy:=y.toNat_lt;have w1:IntKind.wrap .i64 (x.toNat:Int)=x.toNat:=z0f (by omega) (by omega);have w2:IntKind.wrap .i64 (y.toNat:Int)=y.toNat:=z0f (by omega) (by omega);have w3:IntKind.wrap .i64 ((x.toNat:Int)*2)=(x.toNat:Int)*2:=z0f (by omega) (by omega);have w4:(y.toNat:Int).tdiv 128=(y.toNat:Int) / 128:=rfl;have w5:IntKind.wrap .i64 ((y.toNat:Int) / 128)=(y.toNat:Int) / 128:=z0f (by omega) (by omega);have w6:IntKind.wrap .i64 ((x.toNat:Int)*2+(y.toNat:Int) / 128)=(x.toNat:Int)*2+(y.toNat:Int) / 128:=z0f (by omega) (by omega);have hl:l.length≤20000:=by simp at hz;omega
  have hw:=z17 (k:=l.length+1) (by omega);generalize Dr.least (x::y::l)=r at *;rcases h with rfl|rfl;all_goals
   exact zaa
theorem zmU (b:List UInt8) (hz:b.length≤20000):OK gl 84 [iX 1,rX (z04 b)] (.b (Dr.value 1 b)):=by
 have he:Dr.value 1 b=(b.length==1&&((b.getD 0 0).toNat==0||(b.getD 0 0).toNat==255)):=rfl;rw [he];rcases b with _|⟨x,_|⟨y,l⟩⟩;all_goals
  exact zaa
theorem rValue (t:Int) (b:List UInt8) (hz:b.length≤20000):OK gl 84 [iX t,rX (z04 b)] (.b (Dr.value t b)):=by
 by_cases t3:t=3
 ·subst t3;exact zmS b hz
 by_cases t1:t=1
 ·subst t1;exact zmU b hz
 by_cases t2:t=2∨t=10
 ·have he:Dr.value t b=Dr.least b:=by rcases t2 with rfl|rfl<;>rfl
  rw [he];exact zmT t t2 b hz
 have hs:(⟨b.toArray⟩:ByteArray).size≤1000000:=by simp [ByteArray.size];omega
 by_cases t6:t=6
 ·subst t6;have he:Dr.value 6 b=(Od.decO b).isSome:=rfl;have c1:=zaY (gl:=gl) b hz;clear t3;generalize Od.decO b=o at *;cases o;all_goals simp at he c1
  all_goals
   exact z2g
 by_cases t12:t=12
 ·subst t12;have he:Dr.value 12 b=Utf.ok ⟨b.toArray⟩:=rfl;have c1:=xUtfR (gl:=gl) _ hs;clear t3;generalize Utf.ok ⟨b.toArray⟩=o at *;exact z2g
 by_cases t19:t=19
 ·subst t19;have he:Dr.value 19 b=St.pr ⟨b.toArray⟩:=rfl;have c1:=xPrR (gl:=gl) _ hs;clear t3;generalize St.pr ⟨b.toArray⟩=o at *;exact z2g
 by_cases t22:t=22
 ·subst t22;have he:Dr.value 22 b=St.ia ⟨b.toArray⟩:=rfl;have c1:=xIaR (gl:=gl) _ hs;clear t3;generalize St.ia ⟨b.toArray⟩=o at *;exact z2g
 by_cases t23:t=23
 ·subst t23;have he:Dr.value 23 b=(Pr.z22 b).isSome:=rfl;have c1:=zmr (gl:=gl) _ hs;clear t3;simp only at c1;generalize Pr.z22 b=o at *;cases o;all_goals simp at he c1
  all_goals
   exact z2g
 by_cases t24:t=24
 ·subst t24;have he:Dr.value 24 b=(Pr.z29 b).isSome:=rfl;have c1:=xLongR (gl:=gl) _ hs;clear t3;simp only at c1;generalize Pr.z29 b=o at *;cases o;all_goals simp at he c1
  all_goals
   exact z2g
 by_cases t5:t=5
 ·subst t5;have he:Dr.value 5 b=(b.length==0):=rfl;rw [he];clear t3 t1 t2;exact zaa
 have he:Dr.value t b=true:=by
  unfold Dr.value;rw [if_neg t1,if_neg t2,if_neg t3,if_neg t5,if_neg t6,if_neg t12,if_neg t19,if_neg t22,if_neg t23,if_neg t24]
 exact z2g
end Am
end Go.Proofs.YtgmppconibklcaaGreatDoor

namespace Go.Proofs.YtgmppconibklcaaGreatDoor
open Go Go.RowKit
namespace Am
variable {gl:Nat→Option (List D)}
abbrev bytT (n:Nd):T:= .tup [rX (z04 ((Dr.put n).getD [])),bX (Dr.put n).isSome]
theorem zdg {c t:Int} {k:Bool} {b:List UInt8} {l:List Nd} (h:Dr.may c t k=false):Dr.put (.mk c t k b l)=none:=by
 rw [Dr.put,h];rfl
theorem put_cb {c t:Int} {b:List UInt8} {l:List Nd} (h:0<b.length):Dr.put (.mk c t true b l)=none:=by
 rw [Dr.put,if_neg];simp [h]
theorem zm2 {c t:Int} {b:List UInt8} {l:List Nd} (h:0<l.length):Dr.put (.mk c t false b l)=none:=by
 rw [Dr.put,if_neg];simp [h]
theorem zdf {t:Int} {b:List UInt8} (h:Dr.value t b=false):Dr.put (.mk 0 t false b [])=none:=by
 rw [Dr.put,if_neg];simp [h]
theorem zeO {c t:Int} {b:List UInt8} (hm:Dr.may c t false=true) (hv:c=0→Dr.value t b=true):Dr.put (.mk c t false b [])=some (Dr.head c t false b.length++b):=by
 have h:=Dr.z5s (c:=c) (t:=t) (k:=false) (b:=b) (l:=[]) (bs:=[]) hm (fun h=>by cases h) (fun _=>rfl) (fun h _=>hv h) (by rw [Dr.puts]) (fun _ _=>rfl);simpa using h
abbrev mkY (c t:Int) (k:Bool) (b:List UInt8) (l:List Nd):E:= .agg [.d (.leaf (.int .i64 c)),.d (.leaf (.int .i64 t)),.d (.leaf (.bool k)),.d (z04 b),.d (ndR l)]
theorem zc6 {c t:Int} {k:Bool} (h:Dr.may c t k=true):∃ x:UInt8,(∀ n,Dr.head c t k n=x::Dr.lenB n)∧IntKind.wrap .i64 (64*c)=64*c∧IntKind.wrap .i64 (64*c+t)=64*c+t∧(k=false→IntKind.wrap .u8 (64*c+t)=x.toNat)∧(k=true→IntKind.wrap .i64 (64*c+t+32)=64*c+t+32∧IntKind.wrap .u8 (64*c+t+32)=x.toNat):=by
 obtain ⟨c',t',rfl,rfl,hc,ht⟩:=Dr.z7R h;refine ⟨_,fun n=>rfl,z0f (by omega) (by omega),z0f (by omega) (by omega),?_,?_⟩
 ·rintro rfl;rw [IntKind.wrap_u8,UInt8.toNat_ofNat'];simp;omega
 ·rintro rfl;refine ⟨z0f (by omega) (by omega),?_⟩;rw [IntKind.wrap_u8,UInt8.toNat_ofNat'];simp;omega
theorem znm (x:UInt8):nuL .u8 [x.toNat]=byL [x]:=rfl
theorem z5q {p:Prop} (h:p:=by
  refine z0d Tryz.func38 rfl (by show 1≤_;decide) ?_;unfold Tryz.f38;dsimp only;exact am_):p:=h
theorem zeC {p:Prop} (h:p:=by
  clear hp hv0;refine z0d Tryz.func38 rfl (by show 1≤_;decide) ?_;unfold Tryz.f38;dsimp only;have z0:=@znm;exact ama_):p:=h
theorem zdb (c t:Int) (b:List UInt8) (l:List Nd) (hz:b.length≤20000) (hlz:l.length≤10000000):OK gl 38 [mkY c t false b l] (bytT (.mk c t false b l)):=by
 have c1:=rMay (gl:=gl) c t false;cases hm:Dr.may c t false with
 | false=>
  have he:Dr.put (.mk c t false b l)=none:=zdg hm;rw [hm] at c1;exact z5q
 | true=>
  rw [hm] at c1;rcases l with _|⟨a,l⟩
  ·have c2:=rValue (gl:=gl) t b hz;have c3:=zd9 (gl:=gl) b.length (by omega);obtain ⟨x,hx,w1,w2,w3,_⟩:=zc6 hm;have w3:=w3 rfl;have hp:=fun h=>zeO (c:=c) (t:=t) (b:=b) hm h
   rw [hx] at hp;have hv0:=fun h:Dr.value t b=false=>zdf (t:=t) h
   generalize Dr.value t b=v at *;have hlb:=Dr.zap (n:=b.length) (by omega);generalize Dr.lenB b.length=lb at *;have s1:1+lb.length≤140737488355328:=by omega
   have s2:1+lb.length+b.length≤140737488355328:=by omega
   have s3:lb.length+1≤140737488355328:=by omega
   have s4:lb.length+1+b.length≤140737488355328:=by omega
   clear hx;by_cases hc:c=0
   ·subst hc;simp only [Int.mul_zero,Int.zero_add] at w1 w2 w3;cases v
    ·have he:=hv0 rfl;clear hp hv0;exact z5q
    ·have he:=hp (fun _=>rfl);exact zeC
   ·have he:=hp (fun h=>absurd h hc);exact zeC
  ·have he:Dr.put (.mk c t false b (a::l))=none:=zm2 (by simp);exact z5q
theorem zjF:∀ a b:List UInt8,bel b a=!decide (Lib.compareBytes a b≤0)
 | [],[]=>rfl
 | [],_::_=>rfl
 | _::_,[]=>rfl
 | x::a,y::b=>by
  have ih:=zjF a b;unfold bel Lib.compareBytes;by_cases h:y=x
  ·subst h;rw [if_pos rfl,if_neg (UInt8.lt_irrefl _),if_neg (UInt8.lt_irrefl _),ih]
  ·rw [if_neg h];by_cases h1:x<y
   ·have:=UInt8.lt_iff_toNat_lt.1 h1;rw [if_pos h1];simp;omega
   ·have h2:y<x:=by
     rw [UInt8.lt_iff_toNat_lt] at h1 ⊢;have:¬y.toNat=x.toNat:=fun e=>h (UInt8.toNat_inj.1 e)
     omega
    rw [if_neg h1,if_pos h2];have:=UInt8.lt_iff_toNat_lt.1 h2;simp;omega
structure BytI (c t:Int) (l:List Nd) (T0:Int) (k:Nat) (s:SF):Prop where
 e1:s.env 1=some (.e (.one (.ref 16 0)))
 g1:s.heap 16=some (.var 61 [.d (.leaf (.int .i64 c)),.d (.leaf (.int .i64 t)),.d (.leaf (.bool true)),.d (z04 []),.d (ndR l)])
 e4:s.env 4=some (.e (iX T0))
 ex:∃ (j:Nat) (bs:List (List UInt8)),j+k=l.length∧s.env 7=some (.e (iX j))∧Dr.puts (l.take j)=some bs∧(c=0→t=17→Dr.rising bs=true) ∧
  (j=0∧bs=[]∧s.env 5=some (.e (.one .nilS))∧s.env 6=some (.e (.one .nilS)) ∨
   0<j∧bs≠[]∧s.env 5=some (.e (.one (.gr 1456 1 (byL bs.flatten))))∧s.heap 1456=some (.own 5 1 bs.flatten.length)∧s.env 6=some (.e (rX (z04 (bs.getLastD [])))))
theorem zdc (c t:Int) (b:List UInt8) (l:List Nd) (hz:Dr.wts l≤10000000) (hbz:b.length≤100000000) (ih:∀ n∈l,OK gl 38 [nX n] (bytT n)):OK gl 38 [mkY c t true b l] (bytT (.mk c t true b l)):=by
 have c1:=rMay (gl:=gl) c t true;cases hm:Dr.may c t true with
 | false=>
  have he:Dr.put (.mk c t true b l)=none:=zdg hm;rw [hm] at c1;exact z5q
 | true=>
  rw [hm] at c1;rcases b with _|⟨b0,bt⟩
  ·have hlen:=z1E l;have hlz:l.length≤10000000:=by omega
   clear hlen hbz;obtain ⟨x,hx,w1,w2,_,w3⟩:=zc6 hm;obtain ⟨w3,w4⟩:=w3 rfl;refine z0d Tryz.func38 rfl (by show 1≤_;decide) ?_;unfold Tryz.f38;dsimp only;repeat' (first
    | (first|refine sq_ ?_|refine bk_ ?_)
    | ((first|refine rg_ fun Q hQ=>?_|refine if_ fun Q hQ=>?_|refine ca_ ?_|show EndK _ _ _ _ _ _ _ _);simp -implicitDefEqProofs [*])
    | ((first|refine bs_ ?_ ?_|refine cs_ ?_ ?_)<;>(intro hc;have hb:=hc;(try simp only [hk_,ne_eq] at hc);(try have ⟨hc1,hc2⟩:_∧_:=hc);(try subst_vars))<;>first|contradiction|(exfalso;omega)|(simp -implicitDefEqProofs [*])|skip)
    | ((first|refine aq_ ?_|refine z05 ?_|refine z06 ?_|refine z07 ?_);try simp only [sk_,↓reduceIte,Nat.reduceEqDiff])
    | ((with_reducible show OptK _ _);(simp (disch:=omega) only [if_pos,if_neg]);(try (simp -implicitDefEqProofs [*]))))
   refine z0A (BytI c t l (64*c+t+32)) l.length ?_ ?_
   ·exact ⟨by simp,by simp,by simp,0,[],by simp,by simp,by rw [List.take_zero,Dr.puts],fun _ _=>rfl,.inl ⟨rfl,rfl,by simp,by simp⟩⟩
   ·rintro k s ⟨e1,g1,e4,j,bs,hj,e7,hp,hr,h5⟩;cases k with
    | zero=>
     obtain rfl:j=l.length:=by omega
     rw [List.take_length] at hp;have he:=Dr.z5s (c:=c) (t:=t) (k:=true) (b:=[]) (l:=l) hm (fun _=>rfl) (fun h=>by cases h) (fun _ h=>by cases h) hp hr;rw [hx] at he;have hfl:=Dr.z5r l hp (by omega);have c3:=zd9 (gl:=gl) bs.flatten.length (by omega);have hlb:=Dr.zap (n:=bs.flatten.length) (by omega);rw [List.nil_append] at he;clear ih hx hp hr;rcases h5 with ⟨h0,rfl,h5,h6⟩|⟨h0,hne,h5,g5,h6⟩
     ·have z0:=@znm;exact ama_
     ·clear hne h6;generalize bs.flatten=fl at *;generalize Dr.lenB fl.length=lb at *;have s1:1+lb.length≤140737488355328:=by omega
      have s2:1+lb.length+fl.length≤140737488355328:=by omega
      have s3:lb.length+1≤140737488355328:=by omega
      have s4:lb.length+1+fl.length≤140737488355328:=by omega
      have z0:=@znm;exact ama_
    | succ k=>
     have g1':j<l.length:=by omega
     obtain ⟨x,r,hd,hxx,htk⟩:=z0t g1';have hmem:=List.mem_of_getElem? hxx;have cK:OK gl 38 [nX x] (.tup [rX (z04 ((Dr.put x).getD [])),bX (Dr.put x).isSome]):=ih x hmem;have hw:=z17 (k:=j+1) (by omega);clear ih hx;cases hpx:Dr.put x with
     | none=>
      have he:Dr.put (.mk c t true [] l)=none:=Dr.z6u hmem hpx;rw [hpx] at cK;clear htk hp hr h5 hxx hmem;exact am_
     | some o=>
      rw [hpx] at cK;have hps:Dr.puts (l.take (j+1))=some (bs++[o]):=by
       rw [htk];exact Dr.z4g _ _ hp hpx
      have hsz:=Dr.z5r _ hps (by have:=Dr.z55 l (j+1);omega);have hsz2:=Dr.z55 l (j+1);have ho:=Dr.zim x hpx;obtain ⟨o0,o1,rfl⟩:∃ o0 o1,o=o0::o1:=by
       cases o with
       | nil=>simp at ho
       | cons a b=>exact ⟨a,b,rfl⟩
      have hfl:(bs++[o0::o1]).flatten=bs.flatten++o0::o1:=by simp
      rw [hfl,List.length_append,List.length_cons] at hsz;have s1:bs.flatten.length+(o1.length+1)≤140737488355328:=by omega
      have s2:o1.length+1≤140737488355328:=by omega
      clear ho hpx hxx htk hp hmem;rcases h5 with ⟨rfl,rfl,h5,h6⟩|⟨hj0,hne,h5,g5,h6⟩
      ·repeat' (first
        | (first|refine sq_ ?_|refine bk_ ?_)
        | ((first|refine rg_ fun Q hQ=>?_|refine if_ fun Q hQ=>?_|refine ca_ ?_|show EndK _ _ _ _ _ _ _ _);simp -implicitDefEqProofs [*,z08])
        | ((first|refine bs_ ?_ ?_|refine cs_ ?_ ?_)<;>(intro hc;have hb:=hc;(try simp only [hk_,ne_eq] at hc);(try have ⟨hc1,hc2⟩:_∧_:=hc);(try subst_vars))<;>first|contradiction|(exfalso;omega)|(simp -implicitDefEqProofs [*,z08])|skip)
        | ((first|refine aq_ ?_|refine z05 ?_|refine z06 ?_|refine z07 ?_);try simp only [sk_,↓reduceIte,Nat.reduceEqDiff])
        | ((with_reducible show OptK _ _);(simp (disch:=omega) only [if_pos,if_neg]);(try (simp -implicitDefEqProofs [*,z08]))))
       all_goals exact ⟨k,by omega,⟨by simp [e1],by simp [g1],by simp [e4],1,[o0::o1],by simp at hj ⊢;omega,by simp,by simpa using hps,fun _ _=>rfl,.inr ⟨by omega,by simp,by simp,by simp,by simp⟩⟩⟩
      ·obtain ⟨bs0,a,rfl⟩:∃ bs0 a,bs=bs0++[a]:=by
        rcases List.eq_nil_or_concat bs with h|⟨b0,a,h⟩
        ·exact absurd h hne
        ·exact ⟨b0,a,by rw [h,List.concat_eq_append]⟩
       have hlast:(bs0++[a]).getLastD []=a:=by simp
       rw [hlast] at h6;have hal:a.length≤100000000:=by
        have:a.length≤(bs0++[a]).flatten.length:=by simp
        omega
       have cB:=rBelow (gl:=gl) (o0::o1) a (by simp;omega) hal;rw [zjF] at cB;have hrs:=Dr.z2N bs0 a (o0::o1);clear hne hlast;generalize (bs0++[a]).flatten=fb at *;by_cases hc0:c=0
       ·by_cases ht:t=17
        ·subst hc0;subst ht;have hr1:=hr rfl rfl;rw [hr1,Bool.true_and] at hrs;cases hcb:decide (Lib.compareBytes a (o0::o1)≤0) with
         | false=>
          have he:Dr.put (.mk 0 17 true [] l)=none:=Dr.z3m hps (by rw [hrs,hcb]);rw [hcb] at cB;clear hps hr hrs hr1 hcb;exact am_
         | true=>
          rw [hcb] at cB hrs;clear hr hr1 hcb;repeat' (first
           | (first|refine sq_ ?_|refine bk_ ?_)
           | ((first|refine rg_ fun Q hQ=>?_|refine if_ fun Q hQ=>?_|refine ca_ ?_|show EndK _ _ _ _ _ _ _ _);simp -implicitDefEqProofs [*,z08])
           | ((first|refine bs_ ?_ ?_|refine cs_ ?_ ?_)<;>(intro hc;have hb:=hc;(try simp only [hk_,ne_eq] at hc);(try have ⟨hc1,hc2⟩:_∧_:=hc);(try subst_vars))<;>first|contradiction|(exfalso;omega)|(simp -implicitDefEqProofs [*,z08])|skip)
           | ((first|refine aq_ ?_|refine z05 ?_|refine z06 ?_|refine z07 ?_);try simp only [sk_,↓reduceIte,Nat.reduceEqDiff])
           | ((with_reducible show OptK _ _);(simp (disch:=omega) only [if_pos,if_neg]);(try (simp -implicitDefEqProofs [*,z08]))))
          all_goals exact ⟨k,by omega,⟨by simp [e1],by simp [g1],by simp [e4],j+1,bs0++[a]++[o0::o1],by omega,by simpa using hw,hps,fun _ _=>hrs,.inr ⟨by omega,by simp,by rw [hfl];simp,by rw [hfl];simp,by simp⟩⟩⟩
        ·clear cB hrs;repeat' (first
          | (first|refine sq_ ?_|refine bk_ ?_)
          | ((first|refine rg_ fun Q hQ=>?_|refine if_ fun Q hQ=>?_|refine ca_ ?_|show EndK _ _ _ _ _ _ _ _);simp -implicitDefEqProofs [*,z08])
          | ((first|refine bs_ ?_ ?_|refine cs_ ?_ ?_)<;>(intro hc;have hb:=hc;(try simp only [hk_,ne_eq] at hc);(try have ⟨hc1,hc2⟩:_∧_:=hc);(try subst_vars))<;>first|contradiction|(exfalso;omega)|(simp -implicitDefEqProofs [*,z08])|skip)
          | ((first|refine aq_ ?_|refine z05 ?_|refine z06 ?_|refine z07 ?_);try simp only [sk_,↓reduceIte,Nat.reduceEqDiff])
          | ((with_reducible show OptK _ _);(simp (disch:=omega) only [if_pos,if_neg]);(try (simp -implicitDefEqProofs [*,z08]))))
         all_goals exact ⟨k,by omega,⟨by simp [e1],by simp [g1],by simp [e4],j+1,bs0++[a]++[o0::o1],by omega,by simpa using hw,hps,fun _ h=>absurd h ht,.inr ⟨by omega,by simp,by rw [hfl];simp,by rw [hfl];simp,by simp⟩⟩⟩
       ·clear cB hrs;repeat' (first
         | (first|refine sq_ ?_|refine bk_ ?_)
         | ((first|refine rg_ fun Q hQ=>?_|refine if_ fun Q hQ=>?_|refine ca_ ?_|show EndK _ _ _ _ _ _ _ _);simp -implicitDefEqProofs [*,z08])
         | ((first|refine bs_ ?_ ?_|refine cs_ ?_ ?_)<;>(intro hc;have hb:=hc;(try simp only [hk_,ne_eq] at hc);(try have ⟨hc1,hc2⟩:_∧_:=hc);(try subst_vars))<;>first|contradiction|(exfalso;omega)|(simp -implicitDefEqProofs [*,z08])|skip)
         | ((first|refine aq_ ?_|refine z05 ?_|refine z06 ?_|refine z07 ?_);try simp only [sk_,↓reduceIte,Nat.reduceEqDiff])
         | ((with_reducible show OptK _ _);(simp (disch:=omega) only [if_pos,if_neg]);(try (simp -implicitDefEqProofs [*,z08]))))
        all_goals exact ⟨k,by omega,⟨by simp [e1],by simp [g1],by simp [e4],j+1,bs0++[a]++[o0::o1],by omega,by simpa using hw,hps,fun h _=>absurd h hc0,.inr ⟨by omega,by simp,by rw [hfl];simp,by rw [hfl];simp,by simp⟩⟩⟩
  ·have he:Dr.put (.mk c t true (b0::bt) l)=none:=put_cb (by simp);clear ih hz;exact z5q
theorem zbz:∀ (m:Nat) (n:Nd),Dr.wt n≤m→Dr.wt n≤10000000→Dr.mx n≤20000→OK gl 38 [nX n] (bytT n)
 | 0,.mk c t k b l,h,_,_=>by rw [Dr.wt] at h;omega
 | m+1,.mk c t k b l,h,hz,hm=>by
  rw [Dr.wt] at h hz;rw [Dr.mx] at hm;have hlen:=z1E l;cases k with
  | false=>exact zdb c t b l (by omega) (by omega)
  | true=>
   exact zdc c t b l (by omega) (by omega) fun n hn=>by
    obtain ⟨i,hi,rfl⟩:=List.getElem_of_mem hn;have h1:=z2I hi;have h2:=Dr.z2s hn;exact zbz m _ (by omega) (by omega) (by omega)
theorem zlT (n:Nd) (hz:Dr.wt n≤10000000) (hm:Dr.mx n≤20000):OK gl 38 [nX n] (bytT n):=zbz _ n (Nat.le_refl _) hz hm
theorem zi2 (n:Nd) (hz:Dr.wt n≤10000000) (hm:Dr.mx n≤20000):OK gl 163 [nX n] (.b (Dr.right n)):=by
 have c1:OK gl 38 [nX n] (.tup [rX (z04 ((Dr.put n).getD [])),bX (Dr.put n).isSome]):=zlT n hz hm;have he:Dr.right n=(Dr.put n).isSome:=rfl;generalize Dr.put n=o at *;generalize Dr.right n=r at *;subst he;clear hz hm;cases o;all_goals
  refine z0d Tryz.func163 rfl (by show 1≤_;decide) ?_;unfold Tryz.f163;dsimp only;exact am_
end Am
end Go.Proofs.YtgmppconibklcaaGreatDoor

