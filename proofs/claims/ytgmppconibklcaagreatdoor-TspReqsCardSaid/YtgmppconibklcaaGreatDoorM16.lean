/- Part of the proof. No condition. -/
import Derived.Test.YtgmppconibklcaaGreatDoorM15
import Derived.Test.YtgmppconibklcaaGreatDoorM12
import Derived.Test.YtgmppconibklcaaGreatDoorM13
import Derived.BigQuiet
import Derived.IntWalk
import Derived.Test.YtgmppconibklcaaGreatDoorM11
import Derived.Test.YtgmppconibklcaaGreatDoorProg
import Derived.Shelf.Small.Strs
set_option maxHeartbeats 40000000
set_option maxRecDepth 100000
set_option linter.unusedVariables false
set_option linter.unusedSimpArgs false
namespace Go.Proofs.YtgmppconibklcaaGreatDoor
open Go Go.RowKit

def z2w (o:Option Int):Value:=match o with
 | some t=> .tuple #[.int .i64 t,.int .i64 0]
 | none=> .tuple #[.int .i64 0,.int .i64 21]
def z1F (o:Option (Int×Int)):Value:=match o with
 | some (t,u)=> .tuple #[.int .i64 t,.int .i64 u,.int .i64 0]
 | none=> .tuple #[.int .i64 0,.int .i64 0,.int .i64 21]
theorem z7P (y z:Int) (o:Option Int) (s:ByteArray) (w:World) (hs:s.size=10) (hy1:y≤9999) (e:y=z) (ho:Hid (o=Pr.momO z s.data.toList 0)):
  Calls Tryz.prog 192 #[.int .i64 y,.string s] w fun e w'=>e = .returned (z3Z o)∧∃ n,w'=w.drewN n:=by
 subst e;rw [ho.out];exact z9j y s w hs hy1
theorem z7O (y z:Int) (s:ByteArray) (w:World) (hs:s.size=10) (hy1:y≤9999) (e:y=z) (ho:Hid (none=Pr.momO z s.data.toList 0)):
  Calls Tryz.prog 192 #[.int .i64 y,.string s] w fun e w'=>e = .returned (.tuple #[.int .i64 0,.bool false])∧∃ n,w'=w.drewN n:=z7P y z none s w hs hy1 e ho
theorem z7N (y z t:Int) (s:ByteArray) (w:World) (hs:s.size=10) (hy1:y≤9999) (e:y=z) (ho:Hid (some t=Pr.momO z s.data.toList 0)):
  Calls Tryz.prog 192 #[.int .i64 y,.string s] w fun e w'=>e = .returned (.tuple #[.int .i64 t,.bool true])∧∃ n,w'=w.drewN n:=z7P y z (some t) s w hs hy1 e ho
theorem z2E {l:List UInt8} (h:¬(l.length=13∧Pr.lb l 12=90∧0≤Pr.tw l 0)):z2w (Pr.z22 l) = .tuple #[.int .i64 0,.int .i64 21]:=by
 unfold Pr.z22;rw [if_neg h];rfl
theorem zeF {p:Prop} (h:p:=by
  go_enter Tryz.func209,Tryz.ntmps209
  go_wp2_with fail
  go_ret2
  exact ⟨by rw [Hf.out];rfl,0,rfl⟩):p:=h
theorem z8w (s:ByteArray) (w:World) (hs:s.size≤1000000):
  Calls Tryz.prog 209 #[.string s] w fun e w'=>e = .returned (z2w (Pr.z22 s.data.toList))∧∃ n,w'=w.drewN n:=by
 have hsz:s.size=s.data.toList.length:=Lib.size_eq s;have hb:=PlainAid.get_bt s;have hl12:=z3S s 12;by_cases h13:s.size=13
 ·by_cases hz:PlainAid.bt s 12=90
  ·have htw:=Pr.z1i s.data.toList 0;have Htp:Hid (twP s.data.toList 0=if Pr.tw s.data.toList 0<0 then -1048576 else Pr.tw s.data.toList 0):=rfl;obtain ⟨x,hx⟩:∃ x,x=Pr.tw s.data.toList 0:=⟨_,rfl⟩;have Hm:Hid (∀ y,Pr.momO y (s.extract 2 12).data.toList 0=Pr.momO y s.data.toList 2):=fun y=>z6a y s 2
   have he:(s.extract 2 12).size=10:=by simp;omega
   have hsl:s.size≤13:=by omega
   have hsg:13≤s.size:=by omega
   rw [←hx] at htw Htp;have Hx:=Lib.hid hx;by_cases h0:x<0
   ·have Hf:=Lib.hid (z2E (l:=s.data.toList) (by rw [←hx];omega));have Htp2:Hid (twP s.data.toList 0 = -1048576):=by show _=_;rw [Htp.out,if_pos h0]
    have Hn:Hid (Pr.momO (-1048576) s.data.toList 2=none):=by show _=_;unfold Pr.momO Pr.atO;rw [if_neg (fun h=>by have:=h.1;omega)]
    have He:=Lib.hid he;clear hx hsz hl12 he;go_enter Tryz.func209,Tryz.ntmps209
    go_wp2_with fail
    refine (zmx s 0 _ (by omega) (by omega)).mono ?_;rintro _ w1 ⟨rfl,hq⟩;rw [Htp2.out];have Hq1:=Lib.hid hq;clear hq
    go_wp2_with fail
    refine (z9j _ _ _ He.out (by omega)).mono ?_;rintro _ w2 ⟨rfl,hq⟩;rw [Hm.out,Hn.out];have Hq2:=Lib.hid (z2c Hq1.out hq);clear hq Hq1;unfold z3Z
    go_wp2_with fail
    go_ret2
    exact ⟨by rw [Hf.out];rfl,Hq2.out⟩
   ·have Htp2:Hid (twP s.data.toList 0=x):=by show _=_;rw [Htp.out,if_neg h0]
    have Ho:Hid (Pr.z22 s.data.toList=Pr.momO (if x<50 then 2000+x else 1900+x) s.data.toList 2):=by
     show _=_;unfold Pr.z22;rw [if_pos ⟨by omega,by omega,by omega⟩,←hx]
    have He:=Lib.hid he;clear hx hsz hl12 he;obtain ⟨o,ho⟩:∃ o,o=Pr.momO (if x<50 then 2000+x else 1900+x) s.data.toList 2:=⟨_,rfl⟩;have Ho1:Hid (o=Pr.momO (if x<50 then 2000+x else 1900+x) (s.extract 2 12).data.toList 0):=by show _=_;rw [Hm.out];exact ho
    have Ho2:Hid (z2w (Pr.z22 s.data.toList)=z2w o):=by show _=_;rw [Ho.out,←ho]
    clear ho Ho;by_cases h50:x<50;all_goals
     go_enter Tryz.func209,Tryz.ntmps209
     go_wp2_with fail
     refine (zmx s 0 _ (by omega) (by omega)).mono ?_;rintro _ w1 ⟨rfl,hq⟩;rw [Htp2.out];have Hq1:=Lib.hid hq;clear hq
     go_wp2_with fail
     refine (z7P _ (if x<50 then 2000+x else 1900+x) o _ _ He.out (by omega) (by split<;>omega) Ho1).mono ?_;rintro _ w2 ⟨rfl,hq⟩;have Hq2:=Lib.hid (z2c Hq1.out hq);clear hq Hq1;cases o with
     | none=>
      unfold z3Z
      go_wp2_with fail
      go_ret2
      exact ⟨by rw [Ho2.out];rfl,Hq2.out⟩
     | some t=>
      unfold z3Z
      go_wp2_with fail
      go_ret2
      exact ⟨by rw [Ho2.out];rfl,Hq2.out⟩
  ·have Hf:=Lib.hid (z2E (l:=s.data.toList) (by omega));have hz1:(PlainAid.bt s 12==90)=false:=by simpa using hz
   have hz2:(PlainAid.bt s 12 != 90)=true:=by simpa using hz
   have hsl:s.size≤13:=by omega
   have hsg:13≤s.size:=by omega
   clear hz hl12 hsz h13;exact zeF
 ·have Hf:=Lib.hid (z2E (l:=s.data.toList) (by omega));have hz1:((s.size:Int)==13)=false:=by simp;omega
  have hz2:((s.size:Int) != 13)=true:=by simp;omega
  clear hb hl12 hsz h13;exact zeF
theorem z0Z {l:List UInt8} (h:¬(Pr.Form l∧0≤Pr.tw l 0∧0≤Pr.tw l 2)):z1F (Pr.z29 l) = .tuple #[.int .i64 0,.int .i64 0,.int .i64 21]:=by
 unfold Pr.z29;rw [if_neg h];rfl
structure FI (l:List UInt8) (k n:Nat):Prop where
 hd:((Pr.frac l).take k).all Pr.z1s=true
 hn:n=Pr.val ((Pr.frac l).take k)
 lt:n<10^k
theorem zle {l:List UInt8} (h0:17≤l.length) (h1:l.length≤22):(Pr.frac l).length=6:=by unfold Pr.frac;simp;omega
theorem znH {l:List UInt8} (h0:17≤l.length) (h1:l.length≤22) {k:Nat} (hk:15+k<l.length-1):(((Pr.frac l).getD k 0).toNat:Int)=Pr.lb l (15+k):=by
 unfold Pr.frac Pr.lb;rw [List.getD_eq_getElem?_getD,List.getElem?_append_left (by simp;omega),List.getElem?_take,if_pos (by omega),List.getElem?_drop,←List.getD_eq_getElem?_getD]
theorem zlf {l:List UInt8} (h0:17≤l.length) (h1:l.length≤22) {k:Nat} (hk:¬15+k<l.length-1) (h6:k<6):(Pr.frac l).getD k 0=48:=by
 have hl:((l.drop 15).take (l.length-16)).length=l.length-16:=by simp;omega
 unfold Pr.frac;rw [List.getD_eq_getElem?_getD,List.getElem?_append_right (by omega),List.getElem?_replicate,if_pos (by omega)];rfl
theorem z8s (F:List UInt8) (k:Nat) (hk:k<F.length):F.take (k+1)=F.take k++[F.getD k 0]:=by
 rw [List.take_succ_eq_append_getElem hk,List.getD_eq_getElem?_getD,List.getElem?_eq_getElem hk];rfl
theorem FI.start (l:List UInt8):FI l 0 0:=⟨by simp,by simp [Pr.val],by simp⟩
theorem FI.next {l:List UInt8} {k n:Nat} (h:FI l k n) (hk:k<(Pr.frac l).length) (hd:48≤((Pr.frac l).getD k 0).toNat∧((Pr.frac l).getD k 0).toNat≤57):FI l (k+1) (n*10+(((Pr.frac l).getD k 0).toNat-48)):=by
 have e:=z8s _ k hk;refine ⟨?_,?_,?_⟩
 ·rw [e,List.all_append,h.hd];simp only [List.all_cons,List.all_nil,Bool.and_true,Bool.true_and,Pr.z1s,decide_eq_true_eq];exact hd
 ·rw [e,Pr.z3M,←h.hn]
 ·have:=h.lt;rw [Nat.pow_succ];omega
theorem FI.bad {l:List UInt8} {k:Nat} (hk:k<(Pr.frac l).length) (hd:¬(48≤((Pr.frac l).getD k 0).toNat∧((Pr.frac l).getD k 0).toNat≤57)):¬(Pr.frac l).all Pr.z1s=true:=by
 intro h;have h1:=List.all_eq_true.1 h ((Pr.frac l)[k]) (List.getElem_mem hk);rw [List.getD_eq_getElem?_getD,List.getElem?_eq_getElem hk] at hd;simp only [Pr.z1s,decide_eq_true_eq] at h1;exact hd h1
theorem zlM (s:ByteArray) (k:Nat) (a:Int) (w:World) (hs:s.size≤1000) (h1:k+1<s.size) (ha:Hid (a=twP s.data.toList k)):
  Calls Tryz.prog 193 #[.string s,.int .i64 k] w fun e w'=>e = .returned (.int .i64 a)∧∃ n,w'=w.drewN n:=by
 rw [ha.out];exact zmx s k w hs h1
def zgz (o:Option Int) (u:Int):Value:=match o with
 | some t=> .tuple #[.int .i64 t,.int .i64 u,.int .i64 0]
 | none=> .tuple #[.int .i64 0,.int .i64 0,.int .i64 21]
theorem zkd (s:ByteArray) (a:Int) (w:World) (hs:s.size≤1000) (h1:1<s.size) (ha:Hid (a=twP s.data.toList 0)):
  Calls Tryz.prog 193 #[.string s,.int .i64 0] w fun e w'=>e = .returned (.int .i64 a)∧∃ n,w'=w.drewN n:=zlM s 0 a w hs h1 ha
theorem zkc (s:ByteArray) (a:Int) (w:World) (hs:s.size≤1000) (h1:3<s.size) (ha:Hid (a=twP s.data.toList 2)):
  Calls Tryz.prog 193 #[.string s,.int .i64 2] w fun e w'=>e = .returned (.int .i64 a)∧∃ n,w'=w.drewN n:=zlM s 2 a w hs h1 ha
theorem zbU {l:List UInt8} {a b u:Int} {o:Option Int} (hF:Pr.Form l) (ha:a=twP l 0) (hb:b=twP l 2) (ho:o=Pr.momO (a*100+b) l 4) (hu:u=if l.length=15 then 0 else (Pr.val (Pr.frac l):Int)):
  z1F (Pr.z29 l)=zgz o u:=by
 have r0:=Pr.z1i l 0;have r2:=Pr.z1i l 2;unfold twP at ha hb;by_cases h:0≤Pr.tw l 0∧0≤Pr.tw l 2
 ·rw [if_neg (by omega)] at ha hb;unfold Pr.z29;rw [if_pos ⟨hF,h.1,h.2⟩,←ha,←hb,←ho];subst hu;cases o<;>rfl
 ·have hn:a*100+b<0:=by
   by_cases h0:Pr.tw l 0<0
   ·rw [if_pos h0] at ha;split at hb<;>omega
   ·rw [if_pos (by omega)] at hb;rw [if_neg h0] at ha;omega
  have ho2:o=none:=by
   rw [ho];unfold Pr.momO Pr.atO;rw [if_neg (fun h=>by have:=h.1;omega)]
  subst ho2;exact z0Z (fun hh=>h ⟨hh.2.1,hh.2.2⟩)
theorem zbK (s:ByteArray) (w:World) (hlo:¬s.size<15) (hhi:¬22<s.size) (hz:PlainAid.bt s (s.size-1)=90) (h15:s.size=15):
  Calls Tryz.prog 127 #[.string s] w fun e w'=>e = .returned (z1F (Pr.z29 s.data.toList))∧∃ n,w'=w.drewN n:=by
 have hsz:s.size=s.data.toList.length:=Lib.size_eq s;have hb:=PlainAid.get_bt s;have e1:=z3S s (s.size-1);have e2:=z3S s (s.size-2);have e14:=z3S s 14;have ra:=z5d s.data.toList 0;have rb:=z5d s.data.toList 2;obtain ⟨a,ha⟩:∃ a,a=twP s.data.toList 0:=⟨_,rfl⟩;obtain ⟨b,hbb⟩:∃ b,b=twP s.data.toList 2:=⟨_,rfl⟩;obtain ⟨o,ho⟩:∃ o,o=Pr.momO (a*100+b) s.data.toList 4:=⟨_,rfl⟩;have Ho:Hid (o=Pr.momO (a*100+b) (s.extract 4 14).data.toList 0):=by show _=_;rw [z6a _ s 4];exact ho
 have he:(s.extract 4 14).size=10:=by simp;omega
 have He:=Lib.hid he;have Ha:=Lib.hid ha;have Hb:=Lib.hid hbb;have HO:=Lib.hid ho;rw [←ha] at ra;rw [←hbb] at rb;obtain ⟨ra0,ra1⟩:=ra;obtain ⟨rb0,rb1⟩:=rb;have q0:s.size≤1000:=by omega
 have q1:1<s.size:=by omega
 have q3:3<s.size:=by omega
 have q9:a*100+b≤9999:=by omega
 have q14:(14:Int)≤(s.size:Int):=by omega
 have qw1:IntKind.i64.wrap (a*100)=a*100:=IntWalk.i64_in _ (by omega);have qw2:IntKind.i64.wrap (a*100+b)=a*100+b:=IntWalk.i64_in _ (by omega);clear he ha hbb ho;have Hf:Hid (z1F (Pr.z29 s.data.toList)=zgz o 0):=by
  show _=_;refine zbU ⟨by omega,by omega,by omega,?_,fun h=>by omega⟩ Ha.out Hb.out HO.out (by rw [if_pos (by omega)]);rw [←hsz,e1];exact hz
 have hg:15≤s.size:=by omega
 have hl:s.size≤15:=by omega
 clear h15 hsz e1 e2 e14;go_enter Tryz.func127,Tryz.ntmps127
 go_wp2_with fail
 cases o with
 | none=>
  go_quiet (first|(go_at_call 193;first|(with_reducible exact Calls.quiet_of (zkd s a _ q0 q1 Ha))|(with_reducible exact Calls.quiet_of (zkc s b _ q0 q3 Hb)))|(go_at_call 192;exact Calls.quiet_of (z7O _ (a*100+b) _ _ He.out q9 rfl Ho)))
  go_wp2_with fail
  go_ret3
  exact ⟨by rw [Hf.out];rfl,_,rfl⟩
 | some t=>
  go_quiet (first|(go_at_call 193;first|(with_reducible exact Calls.quiet_of (zkd s a _ q0 q1 Ha))|(with_reducible exact Calls.quiet_of (zkc s b _ q0 q3 Hb)))|(go_at_call 192;exact Calls.quiet_of (z7N _ (a*100+b) t _ _ He.out q9 rfl Ho)))
  go_wp2_with fail
  go_ret3
  exact ⟨by rw [Hf.out];rfl,_,rfl⟩
end Go.Proofs.YtgmppconibklcaaGreatDoor

namespace Go.Proofs.YtgmppconibklcaaGreatDoor
open Go Go.RowKit

theorem z8x (s:ByteArray) (w:World) (hlo:¬s.size<15) (hhi:¬22<s.size) (hz:PlainAid.bt s (s.size-1)=90) (h15:¬s.size=15):
  Calls Tryz.prog 127 #[.string s] w fun e w'=>e = .returned (z1F (Pr.z29 s.data.toList))∧∃ n,w'=w.drewN n:=by
 have hsz:s.size=s.data.toList.length:=Lib.size_eq s;have hb:=PlainAid.get_bt s;have e1:=z3S s (s.size-1);have e2:=z3S s (s.size-2);have e14:=z3S s 14;have ra:=z5d s.data.toList 0;have rb:=z5d s.data.toList 2;obtain ⟨a,ha⟩:∃ a,a=twP s.data.toList 0:=⟨_,rfl⟩;obtain ⟨b,hbb⟩:∃ b,b=twP s.data.toList 2:=⟨_,rfl⟩;obtain ⟨o,ho⟩:∃ o,o=Pr.momO (a*100+b) s.data.toList 4:=⟨_,rfl⟩;have Ho:Hid (o=Pr.momO (a*100+b) (s.extract 4 14).data.toList 0):=by show _=_;rw [z6a _ s 4];exact ho
 have he:(s.extract 4 14).size=10:=by simp;omega
 have He:=Lib.hid he;have Ha:=Lib.hid ha;have Hb:=Lib.hid hbb;have HO:=Lib.hid ho;rw [←ha] at ra;rw [←hbb] at rb;obtain ⟨ra0,ra1⟩:=ra;obtain ⟨rb0,rb1⟩:=rb;have q0:s.size≤1000:=by omega
 have q1:1<s.size:=by omega
 have q3:3<s.size:=by omega
 have q9:a*100+b≤9999:=by omega
 have q14:(14:Int)≤(s.size:Int):=by omega
 have qw1:IntKind.i64.wrap (a*100)=a*100:=IntWalk.i64_in _ (by omega);have qw2:IntKind.i64.wrap (a*100+b)=a*100+b:=IntWalk.i64_in _ (by omega);clear he ha hbb ho;by_cases hok:PlainAid.bt s 14=46∧s.size≠16∧PlainAid.bt s (s.size-2)≠48
 ·obtain ⟨hd,h16,h48⟩:=hok;have hd2:(PlainAid.bt s (s.size-2)==48)=false:=by simpa using h48
  have h162:((s.size:Int)==16)=false:=by simp;omega
  have hg:17≤s.size:=by omega
  have hfl:=zle (l:=s.data.toList) (by omega) (by omega);have HF:Hid ((Pr.frac s.data.toList).all Pr.z1s=true→Pr.Form s.data.toList):=by
   intro h;refine ⟨by omega,by omega,by omega,?_,fun _=>⟨?_,?_,h⟩⟩
   ·rw [←hsz,e1];exact hz
   ·rw [e14];exact hd
   ·rw [←hsz,e2];exact h48
  have Hfl:=Lib.hid hfl;have Hsz:=Lib.hid hsz;clear h15 hsz e1 e2 e14 hfl h48 h16;go_enter Tryz.func127,Tryz.ntmps127
  go_wp2_with fail
  go_loop [6,42] (fun t6 t42=>∃ k n:Nat,t6 = .int .i64 n∧t42 = .int .i64 k∧k≤6∧Hid (FI s.data.toList k n)) (fun _ t42=>(6-intOf t42).toNat)
  case atStart=>exact ⟨0,0,rfl,rfl,Nat.zero_le _,FI.start _⟩
  case round=>
   obtain ⟨k,n,rfl,rfl,hk,HI⟩:=hrel;have hn6:n<1000000∨k=7:=by
    have h1:=HI.out.lt;have h2:10^k≤10^6:=Nat.pow_le_pow_right (by decide) hk;omega
   have hn:n<1000000:=by omega
   clear hn6;by_cases h6:k<6
   ·by_cases hin:15+k<s.size-1
    ·have hfa:=znH (l:=s.data.toList) (by have:=Hsz.out;omega) (by have:=Hsz.out;omega) (k:=k) (by have:=Hsz.out;omega);rw [z3S] at hfa;obtain ⟨c,hc⟩:∃ c,c=(Pr.frac s.data.toList).getD k 0:=⟨_,rfl⟩;rw [←hc] at hfa;have hc8:=c.toNat_lt;have hi1:15+(k:Int)<(s.size:Int)-1:=by omega
     have hb15:=hb (15+k) (by omega);rw [←hfa] at hb15;have hfa2:PlainAid.bt s (15+k)=(c.toNat:Int):=hfa.symm;by_cases hdig:48≤c.toNat∧c.toNat≤57
     ·have Hn:=Lib.hid (HI.out.next (by have:=Hfl.out;omega) (by rw [←hc];exact hdig));rw [←hc] at Hn;obtain ⟨hdig0,hdig1⟩:=hdig;clear hc hfa hb15
      go_wp2_with fail
      go_round
      case rel=>exact ⟨_,_,_,_,_,_,_,⟨k+1,n*10+(c.toNat-48),by go_num,by go_num,by omega,Hn⟩,rfl,rfl,rfl,rfl,rfl,rfl,rfl⟩
      case measure=>simp [intOf];omega
     ·have Hf:=Lib.hid (z0Z (l:=s.data.toList) (fun h=>FI.bad (l:=s.data.toList) (k:=k) (by have:=Hfl.out;omega) (by rw [←hc];exact hdig) (h.1.2.2.2.2 (by have:=Hsz.out;omega)).2.2));clear hc hfa hb15;by_cases hlow:c.toNat<48
      ·clear hdig
       go_wp2_with fail
       go_ret3
       exact ⟨by rw [Hf.out];rfl,0,rfl⟩
      ·have hup:57<c.toNat:=by omega
       clear hdig
       go_wp2_with fail
       go_ret3
       exact ⟨by rw [Hf.out];rfl,0,rfl⟩
    ·have hfe:=zlf (l:=s.data.toList) (by have:=Hsz.out;omega) (by have:=Hsz.out;omega) (k:=k) (by have:=Hsz.out;omega) h6;have Hn:=Lib.hid (HI.out.next (by have:=Hfl.out;omega) (by rw [hfe];decide));rw [hfe] at Hn;have hi1:¬15+(k:Int)<(s.size:Int)-1:=by omega
     clear hfe
     go_wp2_with fail
     go_round
     case rel=>exact ⟨k+1,n*10+((48:UInt8).toNat-48),by go_num,by go_num,by omega,Hn⟩
     case measure=>simp [intOf];omega
   ·obtain rfl:k=6:=by omega
    have Hf:Hid (z1F (Pr.z29 s.data.toList)=zgz o n):=by
     have h1:=HI.out;have h2:(Pr.frac s.data.toList).take 6=Pr.frac s.data.toList:=List.take_of_length_le (by have:=Hfl.out;omega);have h3:=h1.hd;have h4:=h1.hn;rw [h2] at h3 h4;refine zbU (HF.out h3) Ha.out Hb.out HO.out ?_;rw [if_neg (by have:=Hsz.out;omega),h4]
    go_wp2_with fail
    cases o with
    | none=>
     go_quiet (first|(go_at_call 193;first|(with_reducible exact Calls.quiet_of (zkd s a _ q0 q1 Ha))|(with_reducible exact Calls.quiet_of (zkc s b _ q0 q3 Hb)))|(go_at_call 192;exact Calls.quiet_of (z7O _ (a*100+b) _ _ He.out q9 rfl Ho)))
     go_wp2_with fail
     go_ret3
     exact ⟨by rw [Hf.out];rfl,_,rfl⟩
    | some t=>
     go_quiet (first|(go_at_call 193;first|(with_reducible exact Calls.quiet_of (zkd s a _ q0 q1 Ha))|(with_reducible exact Calls.quiet_of (zkc s b _ q0 q3 Hb)))|(go_at_call 192;exact Calls.quiet_of (z7N _ (a*100+b) t _ _ He.out q9 rfl Ho)))
     go_wp2_with fail
     go_ret3
     exact ⟨by rw [Hf.out];rfl,_,rfl⟩
 ·have Hf:=Lib.hid (z0Z (l:=s.data.toList) (fun h=>by
   have h1:=h.1.2.2.1;have h2:=h.1.2.2.2.2 (by omega);rw [e14,←hsz,e2] at h2;exact hok ⟨h2.1,by omega,h2.2.1⟩))
  have hg:16≤s.size:=by omega
  by_cases hd:PlainAid.bt s 14=46
  ·by_cases h16:s.size=16
   ·have h161:((s.size:Int)==16)=true:=by simp;omega
    clear hok h15 hsz e1 e2 e14 h16;go_enter Tryz.func127,Tryz.ntmps127
    go_wp2_with fail
    go_ret3
    exact ⟨by rw [Hf.out];rfl,0,rfl⟩
   ·have h48:PlainAid.bt s (s.size-2)=48:=by
     by_cases h48:PlainAid.bt s (s.size-2)=48
     ·exact h48
     ·exact absurd ⟨hd,h16,h48⟩ hok
    have h162:((s.size:Int)==16)=false:=by simp;omega
    clear hok h15 hsz e1 e2 e14 h16;go_enter Tryz.func127,Tryz.ntmps127
    go_wp2_with fail
    go_ret3
    exact ⟨by rw [Hf.out];rfl,0,rfl⟩
  ·have hd1:(PlainAid.bt s 14==46)=false:=by simpa using hd
   have hd2:(PlainAid.bt s 14 != 46)=true:=by simpa using hd
   clear hok h15 hsz e1 e2 e14 hd;go_enter Tryz.func127,Tryz.ntmps127
   go_wp2_with fail
   go_ret3
   exact ⟨by rw [Hf.out];rfl,0,rfl⟩
theorem zag (s:ByteArray) (w:World) (hs:s.size≤9223372036854775807):
  Calls Tryz.prog 127 #[.string s] w fun e w'=>e = .returned (z1F (Pr.z29 s.data.toList))∧∃ n,w'=w.drewN n:=by
 have hsz:s.size=s.data.toList.length:=Lib.size_eq s;have hb:=PlainAid.get_bt s;by_cases hlo:s.size<15
 ·have Hf:=Lib.hid (z0Z (l:=s.data.toList) (fun h=>by have:=h.1.1;omega));clear hsz hb;go_enter Tryz.func127,Tryz.ntmps127
  go_wp2_with fail
  go_ret3
  exact ⟨by rw [Hf.out];rfl,0,rfl⟩
 by_cases hhi:22<s.size
 ·have Hf:=Lib.hid (z0Z (l:=s.data.toList) (fun h=>by have:=h.1.2.1;omega));clear hsz hb;go_enter Tryz.func127,Tryz.ntmps127
  go_wp2_with fail
  go_ret3
  exact ⟨by rw [Hf.out];rfl,0,rfl⟩
 have e1:=z3S s (s.size-1);have e2:=z3S s (s.size-2);have e14:=z3S s 14;by_cases hz:PlainAid.bt s (s.size-1)=90
 ·by_cases h15:s.size=15
  ·exact zbK s w hlo hhi hz h15
  ·exact z8x s w hlo hhi hz h15
 ·have Hf:=Lib.hid (z0Z (l:=s.data.toList) (fun h=>by have:=h.1.2.2.2.1;rw [←hsz] at this;omega));have hz1:(PlainAid.bt s (s.size-1)==90)=false:=by simpa using hz
  have hz2:(PlainAid.bt s (s.size-1) != 90)=true:=by simpa using hz
  clear hz hsz e1 e2 e14;go_enter Tryz.func127,Tryz.ntmps127
  go_wp2_with fail
  go_ret3
  exact ⟨by rw [Hf.out];rfl,0,rfl⟩
end Go.Proofs.YtgmppconibklcaaGreatDoor

namespace Go.Proofs.YtgmppconibklcaaGreatDoor
open Go Go.RowKit
abbrev Tabs (w:World):Prop:=Lib.Utf8Tabs 1 2 w
theorem Is.str {w:World} {Av:Nat→Prop} {A:Option Addr} {n c:Nat} {b:List UInt8} (h:Is w Av (.slice A n c) (z04 b)):(convert 22 9 (.slice A n c)).run Tryz.prog w = .ok (.string ⟨b.toArray⟩) w:=by
 obtain ⟨A',c',e,hc,hr,_⟩:=h.bytes;injection e with e1 e2 e3;subst e1 e2 e3;exact z4d Tryz.underlying22 Tryz.underlying5 Tryz.underlying9 hr
theorem zcN (o:Option (List UInt8)):∃ s E,z4a o = .tuple #[.string s,.int .i64 E]∧(E==0)=o.isSome:=by cases o<;>exact ⟨_,_,rfl,rfl⟩
theorem z9R (o:Option Int):∃ s E,z2w o = .tuple #[.int .i64 s,.int .i64 E]∧(E==0)=o.isSome:=by cases o<;>exact ⟨_,_,rfl,rfl⟩
theorem zbV (o:Option (Int×Int)):∃ s u E,z1F o = .tuple #[.int .i64 s,.int .i64 u,.int .i64 E]∧(E==0)=o.isSome:=by cases o<;>exact ⟨_,_,_,rfl,rfl⟩
theorem zaC (t:Int) (A:Option Addr) (n c:Nat) (b:List UInt8) (Av:Nat→Prop) (w:World) (h:Is w Av (.slice A n c) (z04 b)) (hn:n≤40000) (hT:Tabs w) (ht:t=2∨t=10∨t=5∨t=6∨t=12∨t=19∨t=22∨t=23∨t=24):
  Calls Tryz.prog 144 #[.int .i64 t,.slice A n c] w fun e w'=>e = .returned (.bool (Dr.value t b))∧Below w.heap.size w w':=by
 have X:=h.str;obtain ⟨A',c',e,hc,hr,_⟩:=h.bytes;injection e with e1 e2 e3;subst e1 e2 e3;have H:=Lib.hid h;have HR:=Lib.hid hr;have HT:=Lib.hid hT;have HZ:Hid ((⟨b.toArray⟩:ByteArray).size≤40000):=hn;obtain ⟨S,hS⟩:∃ S:ByteArray,S=⟨b.toArray⟩:=⟨_,rfl⟩;have HS:Hid (S.data.toList=b∧S=⟨b.toArray⟩):=⟨by rw [hS],hS⟩;rw [←hS] at X HZ;clear h hr hT hS;rcases ht with rfl|rfl|rfl|rfl|rfl|rfl|rfl|rfl|rfl
 ·go_enter Tryz.func144,Tryz.ntmps144
  go_wp2_with fail
  refine (z4p A _ c b _ _ H.out).mono ?_;rintro e w' ⟨rfl,rfl⟩
  go_wp2_with fail
  go_ret
  exact ⟨rfl,Below.refl _ _⟩
 ·go_enter Tryz.func144,Tryz.ntmps144
  go_wp2_with fail
  refine (z4p A _ c b _ _ H.out).mono ?_;rintro e w' ⟨rfl,rfl⟩
  go_wp2_with fail
  go_ret
  exact ⟨rfl,Below.refl _ _⟩
 ·go_enter Tryz.func144,Tryz.ntmps144
  go_wp2_with fail
  go_ret
  refine ⟨?_,Below.refl _ _⟩;have e:Dr.value 5 b=(b.length==0):=rfl;rw [e];have e2:((b.length:Int)==0)=(b.length==0):=by rw [Bool.eq_iff_iff,beq_iff_eq,beq_iff_eq];omega
  rw [←e2];rfl
 ·go_enter Tryz.func144,Tryz.ntmps144
  go_wp2_with fail
  refine (z7I A c b _ HR.out hn).mono ?_;rintro e w' ⟨rfl,hb⟩;obtain ⟨s,E,hv,hE⟩:=zcN (Od.decO b);rw [hv];have HE:=Lib.hid hE;have HB:=Lib.hid hb;clear hv hE hb
  go_wp2_with fail
  go_ret
  exact ⟨by rw [HE.out];rfl,HB.out⟩
 ·go_enter Tryz.func144,Tryz.ntmps144
  go_wp2_with fail
  refine (zk9 S _ (by have:=HZ.out;omega) HT.out).mono ?_;rintro e w' ⟨rfl,hb⟩;have HB:=Lib.hid hb;clear hb
  go_wp2_with fail
  go_ret
  exact ⟨by rw [HS.out.2];rfl,HB.out⟩
 ·go_enter Tryz.func144,Tryz.ntmps144
  go_wp2_with fail
  refine (pr_any S _ (by have:=HZ.out;omega)).mono ?_;rintro e w' ⟨rfl,hb⟩;have HB:=Lib.hid hb;clear hb
  go_wp2_with fail
  go_ret
  exact ⟨by rw [HS.out.2];rfl,HB.out⟩
 ·go_enter Tryz.func144,Tryz.ntmps144
  go_wp2_with fail
  refine (ia_any S _ (by have:=HZ.out;omega)).mono ?_;rintro e w' ⟨rfl,hb⟩;have HB:=Lib.hid hb;clear hb
  go_wp2_with fail
  go_ret
  exact ⟨by rw [HS.out.2];rfl,HB.out⟩
 ·go_enter Tryz.func144,Tryz.ntmps144
  go_wp2_with fail
  refine (z8w S _ (by have:=HZ.out;omega)).mono ?_;rintro e w' ⟨rfl,nq,rfl⟩;obtain ⟨s,E,hv,hE⟩:=z9R (Pr.z22 S.data.toList);rw [hv];have HE:=Lib.hid hE;clear hv hE
  go_wp2_with fail
  go_ret
  exact ⟨by rw [HE.out,HS.out.1];rfl,below_drewN (Below.refl _ _) nq⟩
 ·go_enter Tryz.func144,Tryz.ntmps144
  go_wp2_with fail
  refine (zag S _ (by have:=HZ.out;omega)).mono ?_;rintro e w' ⟨rfl,nq,rfl⟩;obtain ⟨s,u,E,hv,hE⟩:=zbV (Pr.z29 S.data.toList);rw [hv];have HE:=Lib.hid hE;clear hv hE
  go_wp2_with fail
  go_ret
  exact ⟨by rw [HE.out,HS.out.1];rfl,below_drewN (Below.refl _ _) nq⟩
theorem zaE (A:Option Addr) (n c:Nat) (b:List UInt8) (Av:Nat→Prop) (w:World) (h:Is w Av (.slice A n c) (z04 b)):
  Calls Tryz.prog 144 #[.int .i64 1,.slice A n c] w fun e w'=>e = .returned (.bool (Dr.value 1 b))∧Below w.heap.size w w':=by
 obtain ⟨rfl,hc,hcells⟩:=h.byteCells;match b,hcells with
 | [],_=>
  go_enter Tryz.func144,Tryz.ntmps144
  go_wp2_with fail
  go_ret
  exact ⟨rfl,Below.refl _ _⟩
 | [x],hcells=>
  obtain ⟨g,o,rfl,_,_,hcell⟩:=hcells (by simp);have e0:w.cell? ⟨g,o,none⟩=some (.int .u8 (x.toNat:Int)):=hcell 0 (by simp);have HV:Hid (Dr.value 1 [x]=(((x.toNat:Int)==0)||((x.toNat:Int)==255))):=by
   show _=_;have e1:((x.toNat:Int)==0)=(x.toNat==0):=by rw [Bool.eq_iff_iff,beq_iff_eq,beq_iff_eq];omega
   have e2:((x.toNat:Int)==255)=(x.toNat==255):=by rw [Bool.eq_iff_iff,beq_iff_eq,beq_iff_eq];omega
   rw [e1,e2];rfl
  clear hcells hcell h hc;obtain ⟨p,hp⟩:∃ p,p=((x.toNat:Int)==0):=⟨_,rfl⟩;obtain ⟨q,hq⟩:∃ q,q=((x.toNat:Int)==255):=⟨_,rfl⟩;have hp':=hp.symm;have hq':=hq.symm;rw [←hp,←hq] at HV;clear hp hq;cases p<;>cases q;all_goals
   go_enter Tryz.func144,Tryz.ntmps144
   go_wp2_with fail
   go_ret
   exact ⟨by rw [HV.out];rfl,Below.refl _ _⟩
 | x::y::l,_=>
  obtain ⟨n,hn⟩:∃ n,n=(x::y::l).length:=⟨_,rfl⟩;have hn2:2≤n:=by rw [hn];simp
  have n1:((n:Int)==1)=false:=by rw [beq_eq_false_iff_ne];omega
  have HV:Hid (Dr.value 1 (x::y::l)=false):=by show _=_;unfold Dr.value;simp
  rw [←hn];clear hcells hn hc h;go_enter Tryz.func144,Tryz.ntmps144
  go_wp2_with fail
  go_ret
  exact ⟨by rw [HV.out];rfl,Below.refl _ _⟩
theorem zaD (t:Int) (A:Option Addr) (n c:Nat) (b:List UInt8) (w:World) (ht:t≠1∧t≠2∧t≠10∧t≠3∧t≠5∧t≠6∧t≠12∧t≠19∧t≠22∧t≠23∧t≠24):
  Calls Tryz.prog 144 #[.int .i64 t,.slice A n c] w fun e w'=>e = .returned (.bool (Dr.value t b))∧Below w.heap.size w w':=by
 obtain ⟨h1,h2,h10,h3,h5,h6,h12,h19,h22,h23,h24⟩:=ht;have HV:Hid (Dr.value t b=true):=by show _=_;unfold Dr.value;simp [h1,h2,h10,h3,h5,h6,h12,h19,h22,h23,h24]
 have e1:(t==1)=false:=by rw [beq_eq_false_iff_ne];exact h1
 have e2:(t==2)=false:=by rw [beq_eq_false_iff_ne];exact h2
 have e10:(t==10)=false:=by rw [beq_eq_false_iff_ne];exact h10
 have e3:(t==3)=false:=by rw [beq_eq_false_iff_ne];exact h3
 have e5:(t==5)=false:=by rw [beq_eq_false_iff_ne];exact h5
 have e6:(t==6)=false:=by rw [beq_eq_false_iff_ne];exact h6
 have e12:(t==12)=false:=by rw [beq_eq_false_iff_ne];exact h12
 have e19:(t==19)=false:=by rw [beq_eq_false_iff_ne];exact h19
 have e22:(t==22)=false:=by rw [beq_eq_false_iff_ne];exact h22
 have e23:(t==23)=false:=by rw [beq_eq_false_iff_ne];exact h23
 have e24:(t==24)=false:=by rw [beq_eq_false_iff_ne];exact h24
 clear h1 h2 h10 h3 h5 h6 h12 h19 h22 h23 h24;go_enter Tryz.func144,Tryz.ntmps144
 go_wp2_with fail
 go_ret
 exact ⟨by rw [HV.out];rfl,Below.refl _ _⟩
theorem z3Q (n:Nat):(((n:Nat):Int)==0)=(n==0):=by rw [Bool.eq_iff_iff,beq_iff_eq,beq_iff_eq];omega
theorem zlF:∀ (k:Fin 8) (y:Fin 256),bits BinOp.and IntKind.u8 (y.val:Int) (((2^k.val-1:Nat)):Int)=((y.val%2^k.val:Nat):Int):=by decide +kernel
theorem zaF (A:Option Addr) (n c:Nat) (b:List UInt8) (Av:Nat→Prop) (w:World) (h:Is w Av (.slice A n c) (z04 b)) (hn40:n≤40000):
  Calls Tryz.prog 144 #[.int .i64 3,.slice A n c] w fun e w'=>e = .returned (.bool (Dr.value 3 b))∧Below w.heap.size w w':=by
 obtain ⟨rfl,hc,hcells⟩:=h.byteCells;have HV:Hid (Dr.value 3 b=Dr.z9G b):=rfl;match b,hcells with
 | [],_=>
  go_enter Tryz.func144,Tryz.ntmps144
  go_wp2_with fail
  go_ret
  exact ⟨rfl,Below.refl _ _⟩
 | x::l,hcells=>
  obtain ⟨g,o,rfl,_,_,hcell⟩:=hcells (by simp);have e0:w.cell? ⟨g,o,none⟩=some (.int .u8 (x.toNat:Int)):=hcell 0 (by simp);obtain ⟨n,hn⟩:∃ n,n=(x::l).length:=⟨_,rfl⟩;have hn1:1≤n:=by rw [hn];simp
  have hn4:n≤40000:=by rw [hn];exact hn40
  clear hn40;obtain ⟨y,hy⟩:∃ y:UInt8,y=(x::l).getD ((x::l).length-1) 0:=⟨_,rfl⟩;have eL:w.cell? ⟨g,o+(n-1),none⟩=some (.int .u8 (y.toNat:Int)):=by
   rw [hy,hn];have:=hcell ((x::l).length-1) (by simp);rw [this,List.getD_eq_getElem?_getD,List.getElem?_eq_getElem (by simp)];rfl
  have HB:Hid (Dr.z9G (x::l)=(decide (x.toNat≤7)&&!(n==1&&decide (0<x.toNat))&&(x.toNat==0||y.toNat%2^x.toNat==0))):=by
   show _=_;unfold Dr.z9G;rw [←hy,←hn];simp only [List.getD_cons_zero];rw [decide_eq_true (show 0<n by omega),Bool.true_and]
  rw [←hn];have n0:((n:Int)==0)=false:=by rw [beq_eq_false_iff_ne];omega
  have i0:(0:Int)<(n:Int):=by omega
  clear hcells hcell h hc hy hn;by_cases hx7:7<x.toNat
  ·have d7:decide ((7:Int)<(x.toNat:Int))=true:=decide_eq_true (by omega);have HX:=Lib.hid hx7;clear hx7;go_enter Tryz.func144,Tryz.ntmps144
   go_wp2_with fail
   go_ret
   refine ⟨?_,Below.refl _ _⟩;rw [HV.out,HB.out,decide_eq_false (show ¬x.toNat≤7 by have:=HX.out;omega)];rfl
  ·have HV2:Hid (Dr.value 3 (x::l)=(decide (x.toNat≤7)&&!(n==1&&decide (0<x.toNat))&&(x.toNat==0||y.toNat%2^x.toNat==0))):=by show _=_;rw [HV.out,HB.out]
   obtain ⟨m,hm⟩:∃ m,m=x.toNat:=⟨_,rfl⟩;rw [←hm] at e0 HV2 hx7;have hm':m=0∨m=1∨m=2∨m=3∨m=4∨m=5∨m=6∨m=7:=by omega
   have HY:Hid (∀ k:Fin 8,bits BinOp.and IntKind.u8 (y.toNat:Int) (((2^k.val-1:Nat)):Int)=((y.toNat%2^k.val:Nat):Int)):=fun k=>zlF k ⟨y.toNat,y.toNat_lt⟩
   have hin:((n-1:Nat):Int)=(n:Int)-1:=by omega
   clear hm HB HV hx7;by_cases hn1:n=1
   ·subst hn1;clear hin eL;rcases hm' with rfl|rfl|rfl|rfl|rfl|rfl|rfl|rfl
    ·go_enter Tryz.func144,Tryz.ntmps144
     go_wp2_with fail
     go_quiet (fail)
     go_wp2_with fail
     go_ret
     exact ⟨by rw [HV2.out];rfl,below_drewN (Below.refl _ _) _⟩
    all_goals
     go_enter Tryz.func144,Tryz.ntmps144
     go_wp2_with fail
     go_ret
     exact ⟨by rw [HV2.out];rfl,Below.refl _ _⟩
   ·have n1:((n:Int)==1)=false:=by rw [beq_eq_false_iff_ne];omega
    have HN2:Hid ((n==1)=false):=by show _=_;rw [beq_eq_false_iff_ne];exact hn1
    obtain ⟨j,rfl⟩:∃ j,n=j+1:=⟨n-1,by omega⟩;have hj1:1≤j:=by omega
    rw [Nat.add_sub_cancel] at eL;have n0':((j:Int)+1==0)=false:=by rw [beq_eq_false_iff_ne];omega
    have n1':((j:Int)+1==1)=false:=by rw [beq_eq_false_iff_ne];omega
    have i0':(0:Int)<(j:Int)+1:=by omega
    have i1':(j:Int)<(j:Int)+1:=by omega
    have i2':(0:Int)≤(j:Int):=by omega
    have hj9:(j:Int)≤40000:=by omega
    have qw1:IntKind.i64.wrap ((j:Int)+1-1)=(j:Int):=by rw [Int.add_sub_cancel];exact IntWalk.i64_in _ (by omega)
    have qw2:IntKind.i64.wrap (j:Int)=(j:Int):=IntWalk.i64_in _ (by omega);clear hn1 hin i0 n0 n1;rcases hm' with rfl|rfl|rfl|rfl|rfl|rfl|rfl|rfl
    ·go_enter Tryz.func144,Tryz.ntmps144
     go_wp2_with fail
     go_quiet (fail)
     go_wp2_with fail
     go_ret
     exact ⟨by rw [HV2.out,HN2.out];rfl,below_drewN (Below.refl _ _) _⟩
    ·go_enter Tryz.func144,Tryz.ntmps144
     go_wp2_with fail
     go_quiet (fail)
     go_wp2_with fail
     go_ret
     refine ⟨?_,below_drewN (Below.refl _ _) _⟩;have hy:bits BinOp.and IntKind.u8 (y.toNat:Int) 1=((y.toNat%2:Nat):Int):=HY.out 1;show Ending.returned (.bool (bits BinOp.and IntKind.u8 (y.toNat:Int) 1==0))=_;rw [hy,HV2.out,HN2.out,z3Q];rfl
    ·go_enter Tryz.func144,Tryz.ntmps144
     go_wp2_with fail
     go_quiet (fail)
     go_wp2_with fail
     go_ret
     refine ⟨?_,below_drewN (Below.refl _ _) _⟩;have hy:bits BinOp.and IntKind.u8 (y.toNat:Int) 3=((y.toNat%4:Nat):Int):=HY.out 2;show Ending.returned (.bool (bits BinOp.and IntKind.u8 (y.toNat:Int) 3==0))=_;rw [hy,HV2.out,HN2.out,z3Q];rfl
    ·go_enter Tryz.func144,Tryz.ntmps144
     go_wp2_with fail
     go_quiet (fail)
     go_wp2_with fail
     go_ret
     refine ⟨?_,below_drewN (Below.refl _ _) _⟩;have hy:bits BinOp.and IntKind.u8 (y.toNat:Int) 7=((y.toNat%8:Nat):Int):=HY.out 3;show Ending.returned (.bool (bits BinOp.and IntKind.u8 (y.toNat:Int) 7==0))=_;rw [hy,HV2.out,HN2.out,z3Q];rfl
    ·go_enter Tryz.func144,Tryz.ntmps144
     go_wp2_with fail
     go_quiet (fail)
     go_wp2_with fail
     go_ret
     refine ⟨?_,below_drewN (Below.refl _ _) _⟩;have hy:bits BinOp.and IntKind.u8 (y.toNat:Int) 15=((y.toNat%16:Nat):Int):=HY.out 4;show Ending.returned (.bool (bits BinOp.and IntKind.u8 (y.toNat:Int) 15==0))=_;rw [hy,HV2.out,HN2.out,z3Q];rfl
    ·go_enter Tryz.func144,Tryz.ntmps144
     go_wp2_with fail
     go_quiet (fail)
     go_wp2_with fail
     go_ret
     refine ⟨?_,below_drewN (Below.refl _ _) _⟩;have hy:bits BinOp.and IntKind.u8 (y.toNat:Int) 31=((y.toNat%32:Nat):Int):=HY.out 5;show Ending.returned (.bool (bits BinOp.and IntKind.u8 (y.toNat:Int) 31==0))=_;rw [hy,HV2.out,HN2.out,z3Q];rfl
    ·go_enter Tryz.func144,Tryz.ntmps144
     go_wp2_with fail
     go_quiet (fail)
     go_wp2_with fail
     go_ret
     refine ⟨?_,below_drewN (Below.refl _ _) _⟩;have hy:bits BinOp.and IntKind.u8 (y.toNat:Int) 63=((y.toNat%64:Nat):Int):=HY.out 6;show Ending.returned (.bool (bits BinOp.and IntKind.u8 (y.toNat:Int) 63==0))=_;rw [hy,HV2.out,HN2.out,z3Q];rfl
    ·go_enter Tryz.func144,Tryz.ntmps144
     go_wp2_with fail
     go_quiet (fail)
     go_wp2_with fail
     go_ret
     refine ⟨?_,below_drewN (Below.refl _ _) _⟩;have hy:bits BinOp.and IntKind.u8 (y.toNat:Int) 127=((y.toNat%128:Nat):Int):=HY.out 7;show Ending.returned (.bool (bits BinOp.and IntKind.u8 (y.toNat:Int) 127==0))=_;rw [hy,HV2.out,HN2.out,z3Q];rfl
theorem z4o (t:Int) (A:Option Addr) (n c:Nat) (b:List UInt8) (Av:Nat→Prop) (w:World) (h:Is w Av (.slice A n c) (z04 b)) (hn:n≤40000) (hT:Tabs w):
  Calls Tryz.prog 144 #[.int .i64 t,.slice A n c] w fun e w'=>e = .returned (.bool (Dr.value t b))∧Below w.heap.size w w':=by
 by_cases h1:t=1
 ·subst h1;exact zaE A n c b Av w h
 by_cases h3:t=3
 ·subst h3;exact zaF A n c b Av w h hn
 by_cases ht:t=2∨t=10∨t=5∨t=6∨t=12∨t=19∨t=22∨t=23∨t=24
 ·exact zaC t A n c b Av w h hn hT ht
 ·exact zaD t A n c b w (by omega)
end Go.Proofs.YtgmppconibklcaaGreatDoor

namespace Go.Proofs.YtgmppconibklcaaGreatDoor
open Go Go.RowKit
theorem run_loadBytes {P:Program} {w:World}:∀ (l:List UInt8) (a:Addr) (acc:ByteArray),(∀ j (hj:j<l.length),w.cell? (a.add j)=some (.int .u8 (l[j].toNat:Int))) →
  (Extern.Bytes.loadBytes a l.length acc).run P w = .ok ⟨acc.data++l.toArray⟩ w
 | [],a,acc,_=>by
  simp [Extern.Bytes.loadBytes]
 | c::l,a,acc,h=>by
  have h0:=h 0 (by simp);have e0:a.add 0=a:=by unfold Addr.add;simp
  rw [e0] at h0;have ih:=run_loadBytes (P:=P) l (a.add 1) (acc.push c) (fun j hj=>by
   have:=h (j+1) (by simpa using hj);rw [z6m,Nat.add_comm 1 j];simpa using this)
  simp only [List.length_cons,Extern.Bytes.loadBytes];simp only [Sem.run_bind,run_load,h0];have e:(([c]:List UInt8)[0].toNat:Int).toNat.toUInt8=c:=by simp
  simp only [List.getElem_cons_zero,Result.andThen_ok];have e2:((c.toNat:Int)).toNat.toUInt8=c:=by simp
  rw [e2,ih];simp
theorem z7r {P:Program} {w:World} {B:Nat} {A:Option Addr} {n c:Nat} {b:List UInt8} (h:Reads w B 1 A n (Lib.byteCells b)):(Extern.Bytes.bytesOf (.slice A n c)).run P w = .ok ⟨b.toArray⟩ w:=by
 have hn:n=b.length:=by have:=h.1;rw [Lib.byteCells_length] at this;omega
 subst hn;cases A with
 | none=>
  have h0:b=[]:=by
   cases b with
   | nil=>rfl
   | cons x l=>obtain ⟨ad,h,_⟩:=h.2 (by simp);cases h
  subst h0;rfl
 | some a=>
  show (Extern.Bytes.loadBytes a b.length .empty).run P w=_;rw [run_loadBytes b a .empty (fun j hj=>by
   obtain ⟨ad,h,_,hc⟩:=h.2 (by omega);injection h with h;subst h;exact hc j _ (by simp [Lib.byteCells,List.getElem?_eq_getElem hj]))]
  congr 2
  simp
theorem z6J {P:Program} {w:World} {B B':Nat} {A A':Option Addr} {n n' c c':Nat} {a b:List UInt8} (ha:Reads w B 1 A n (Lib.byteCells a)) (hb:Reads w B' 1 A' n' (Lib.byteCells b)):
  (Extern.BytealgCompare.compare #[.slice A n c,.slice A' n' c']).run P w = .ok (.int .i64 (Lib.compareBytes a b)) w:=by
 change Sem.run P (do pure (goInt (Extern.BytealgCompare.cmp (←Extern.Bytes.bytesOf (.slice A n c)) (←Extern.Bytes.bytesOf (.slice A' n' c'))))) w=_;simp only [Sem.run_bind,Sem.run_pure,z7r ha,z7r hb,Result.andThen_ok];rw [Lib.cmp_eq];rfl
theorem z43 (A A':Option Addr) (n n' c c':Nat) (a b:List UInt8) (B B':Nat) (w:World) (ha:Reads w B 1 A n (Lib.byteCells a)) (hb:Reads w B' 1 A' n' (Lib.byteCells b)):
  Calls Tryz.prog 145 #[.slice A n c,.slice A' n' c'] w fun e w'=>e = .returned (.int .i64 (Lib.compareBytes a b))∧w=w':=by
 have hA:=Lib.hid ha;have hB:=Lib.hid hb;clear ha hb;go_enter Tryz.func145,Tryz.ntmps145
 go_wp2_with fail
 rw [run_callFunc_extern Tryz.func210 (by kernel_rfl) (by kernel_rfl) (by kernel_rfl) (e:=Extern.BytealgCompare.compare) (by kernel_rfl),z6J hA.out hB.out];simp only [Result.andThen];rw [Oper.upon_value]
 go_wp2_with fail
 go_ret
 exact ⟨rfl,rfl⟩
end Go.Proofs.YtgmppconibklcaaGreatDoor

namespace Go.Proofs.YtgmppconibklcaaGreatDoor
open Go Go.RowKit
def z8p (n:Nd) (w:World) (wb:Nat) (D d:Int) (e:Ending) (w':World):Prop:=
 w.grownBy w' (some wb)∧match Dr.put n with
 | some o=>∃ v,e = .returned v∧w'.ownsRow w.heap.size 5 1 v o.length (Lib.byteCells o)∧Blk w' wb 126 #[.int .i64 (max D (d+(Dr.deep n:Int)-1)),.bool false]
 | none=>∃ D':Int,e = .returned (.slice none 0 0)∧Blk w' wb 126 #[.int .i64 D',.bool true]
theorem zio {n:Nd} {w w':World} {wb:Nat} {D d D':Int} {e:Ending} (h:Dr.put n=none) (hg:w.grownBy w' (some wb)) (he:e = .returned (.slice none 0 0)) (hb:Blk w' wb 126 #[.int .i64 D',.bool true]):z8p n w wb D d e w':=by
 refine ⟨hg,?_⟩;rw [h];exact ⟨D',he,hb⟩
theorem zn1 {n:Nd} {w w':World} {wb:Nat} {D d:Int} {e:Ending} {o:List UInt8} {v:Value} (h:Dr.put n=some o) (hg:w.grownBy w' (some wb)) (he:e = .returned v) (ho:w'.ownsRow w.heap.size 5 1 v o.length (Lib.byteCells o))
  (hb:Blk w' wb 126 #[.int .i64 (max D (d+(Dr.deep n:Int)-1)),.bool false]):z8p n w wb D d e w':=by
 refine ⟨hg,?_⟩;rw [h];exact ⟨v,he,ho,hb⟩
theorem Blk.two {w:World} {g:Nat} {t:TypeId} {c0 c1:Value} (h:Blk w g t #[c0,c1]):w.cell? ⟨g,0,none⟩=some c0∧w.cell? ⟨g,1,none⟩=some c1∧w.frozen? ⟨g,0,none⟩=false∧w.frozen? ⟨g,1,none⟩=false:=
 ⟨by rw [h.cell];rfl,by rw [h.cell];rfl,h.frozen 0,h.frozen 1⟩
def z8D (B:Nat) (w:World):Prop:=∀ w',Below B w w'→Tabs w'
theorem z8D.below {B:Nat} {w w':World} (h:z8D B w) (hb:Below B w w'):z8D B w':=fun _ hb2=>h _ (hb.trans hb2)
theorem z8D.tabs {B:Nat} {w:World} (h:z8D B w):Tabs w:=h w (Below.refl _ _)
theorem z2m {w w':World} {wb:Nat} (hg:w.grownBy w' (some wb)) (hlt:wb<w.heap.size):Below wb w w':=⟨hg.os,hg.tape,hg.output,hg.size,fun k hk=>hg.block k (by omega) (fun e=>by injection e with e;omega)⟩
theorem NdAt.zcy {w:World} {Av:Nat→Prop} {a b c vb vk:Value} {n:Nd} (h:NdAt w Av (.agg #[a,b,c,vb,vk]) n):Is w Av vb (z04 n.bytes):=by
 obtain ⟨vb',vk',e,hb,hk⟩:=h.ex;injection e with e;injection e with e;injection e with _ e;injection e with _ e;injection e with _ e;injection e with e1 e;injection e with e2 e
 rw [e1];exact hb
theorem NdAt.kids_ {w:World} {Av:Nat→Prop} {a b c vb vk:Value} {n:Nd} (h:NdAt w Av (.agg #[a,b,c,vb,vk]) n):Is w Av vk (ndsD n.kids):=by
 obtain ⟨vb',vk',e,hb,hk⟩:=h.ex;injection e with e;injection e with e;injection e with _ e;injection e with _ e;injection e with _ e;injection e with e1 e;injection e with e2 e
 rw [e2];exact hk
theorem zbF {w:World} {wb:Nat} {D d:Int} {t:TypeId} {cs:Array Value} (hw:Blk w wb 126 #[.int .i64 D,.bool false]):
  w.grownBy ((w.setCell ⟨wb,0,none⟩ (.int .i64 (max D d))).alloc (.cells cs t)) (some wb)∧Blk ((w.setCell ⟨wb,0,none⟩ (.int .i64 (max D d))).alloc (.cells cs t)) wb 126 #[.int .i64 (max D d),.bool false] ∧
  Blk ((w.setCell ⟨wb,0,none⟩ (.int .i64 (max D d))).alloc (.cells cs t)) w.heap.size t cs∧((w.setCell ⟨wb,0,none⟩ (.int .i64 (max D d))).alloc (.cells cs t)).heap.size=w.heap.size+1:=by
 have hz:(w.setCell ⟨wb,0,none⟩ (.int .i64 (max D d))).heap.size=w.heap.size:=by simp [World.setCell]
 refine ⟨z2G (z0r (World.grownBy.refl w _) (.inl rfl) _) _,(hw.set_ 0 _).alloc _,?_,by rw [World.size_alloc,hz]⟩;have:=Blk.new (w.setCell ⟨wb,0,none⟩ (.int .i64 (max D d))) t cs
 rwa [hz] at this
theorem zkK (n:Nd) (h:Dr.may n.cls n.tag n.cons=false∨(n.cons=true∧0<n.bytes.length)∨(n.cons=false∧0<n.kids.length)∨(n.cls=0∧n.cons=false∧Dr.value n.tag n.bytes=false)):Dr.put n=none:=by
 obtain ⟨c,t,k,b,l⟩:=n;simp only [Nd.cls,Nd.tag,Nd.cons,Nd.bytes,Nd.kids] at h;rw [Dr.put,if_neg];intro hx;simp only [Bool.and_eq_true] at hx;obtain ⟨⟨⟨h1,h2⟩,h3⟩,h4⟩:=hx;rcases h with h|⟨rfl,h⟩|⟨rfl,h⟩|⟨rfl,rfl,h⟩
 ·rw [h] at h1;cases h1
 ·rw [decide_eq_true h] at h2;cases h2
 ·rw [decide_eq_true h] at h3;cases h3
 ·rw [h] at h4;cases h4
theorem zgQ (n:Nd) (Ab Ak:Option Addr) (cb ck:Nat) (w:World) (wb:Nat) (D d:Int) (hd:1≤d∧d≤1000000) (hD:0≤D∧D≤1000000) (hw:Blk w wb 126 #[.int .i64 D,.bool false])
  (hn:NdAt w (fun g=>g=wb) (.agg #[.int .i64 n.cls,.int .i64 n.tag,.bool n.cons,.slice Ab n.bytes.length cb,.slice Ak n.kids.length ck]) n) (hz:n.bytes.length≤40000) (hT:z8D wb w)
  (hm:Dr.may n.cls n.tag n.cons=false∨(Dr.may n.cls n.tag n.cons=true∧n.cons=true∧0<n.bytes.length)∨(Dr.may n.cls n.tag n.cons=true∧n.cons=false∧0<n.kids.length) ∨
   (Dr.may n.cls n.tag n.cons=true∧n.cons=false∧n.kids.length=0∧n.cls=0∧Dr.value n.tag n.bytes=false)):
  Calls Tryz.prog 77 #[.pointer (some ⟨wb,0,none⟩),.agg #[.int .i64 n.cls,.int .i64 n.tag,.bool n.cons,.slice Ab n.bytes.length cb,.slice Ak n.kids.length ck],.int .i64 d] w (z8p n w wb D d):=by
 have hput:Dr.put n=none:=zkK n (by
  rcases hm with h|⟨_,h1,h2⟩|⟨_,h1,h2⟩|⟨_,h1,_,h3,h4⟩
  ·exact .inl h
  ·exact .inr (.inl ⟨h1,h2⟩)
  ·exact .inr (.inr (.inl ⟨h1,h2⟩))
  ·exact .inr (.inr (.inr ⟨h3,h1,h4⟩)))
 obtain ⟨q0,q1,f0,f1⟩:=hw.two;have hlt:=hw.lt;obtain ⟨nb,hnb⟩:∃ nb,nb=n.bytes.length:=⟨_,rfl⟩;obtain ⟨nk,hnk⟩:∃ nk,nk=n.kids.length:=⟨_,rfl⟩;rw [←hnb,←hnk] at hm hn ⊢;rw [←hnb] at hz;obtain ⟨c,t,k,b,l⟩:=n;simp only [Nd.cls,Nd.tag,Nd.cons] at hm hn ⊢;obtain ⟨s1,s2,s3,s4⟩:=zbF (d:=d) (t:=61) (cs:=#[.int .i64 c,.int .i64 t,.bool k,.slice Ab nb cb,.slice Ak nk ck]) hw;obtain ⟨V,hV⟩:∃ V,V=(w.setCell ⟨wb,0,none⟩ (.int .i64 (max D d))).alloc (.cells #[.int .i64 c,.int .i64 t,.bool k,.slice Ab nb cb,.slice Ak nk ck] 61):=⟨_,rfl⟩;rw [←hV] at s1 s2 s3 s4;have HG:=Lib.hid s1;have HW:=Lib.hid s2;have HK:=Lib.hid s3;have HZ:=Lib.hid s4;have HV:=Lib.hid hV;have HP:=Lib.hid hput;have HDD:=Lib.hid (show (hd.1=hd.1∧hD.1=hD.1) from ⟨rfl,rfl⟩);have HNB:=Lib.hid (And.intro hnb hnk);have HN:=Lib.hid hn;have HT:=Lib.hid hT;clear s1 s2 s3 s4 hV hput hnb hnk hn hT;go_enter Tryz.func77,Tryz.ntmps77
 go_upto_region 2 with fail
 rw [←HV.out];clear q0 q1 f0 f1;obtain ⟨q0,q1,f0,f1⟩:=HW.out.two;obtain ⟨p0,p1,p2,p3,p4,g0,g1,g2,g3,g4⟩:=HK.out.five
 go_wp2_with fail
 refine (z4B c t k _ _ V).mono ?_;rintro e w2 ⟨rfl,hb2⟩;have HB2:=Lib.hid hb2;have HW2:=Lib.hid (HW.out.below hb2 HW.out.lt);have HK2:=Lib.hid (HK.out.below hb2 HK.out.lt);clear hb2 q0 q1 f0 f1 p0 p1 p2 p3 p4 g0 g1 g2 g3 g4;obtain ⟨q0,q1,f0,f1⟩:=HW2.out.two;obtain ⟨p0,p1,p2,p3,p4,g0,g1,g2,g3,g4⟩:=HK2.out.five;have HE:Hid (∀ w3,Below w2.heap.size w2 w3→z8p (.mk c t k b l) w wb D d (.returned (.slice none 0 0)) (w3.setCell ⟨wb,1,none⟩ (.bool true))):=fun w3 hb3=>by
  refine zio HP.out (z0r (World.grownBy.trans (World.grownBy.trans HG.out (z0e HB2.out _)) (z0e hb3 _)) (.inl rfl) _) rfl ((HW2.out.below hb3 HW2.out.lt).set_ 1 _)
 have HIS:Hid (∀ w3,Below w2.heap.size w2 w3→Is w3 (fun g=>g=wb) (.slice Ab nb cb) (z04 b)):=fun w3 hb3=>HN.out.zcy.grown (World.grownBy.trans (World.grownBy.trans HG.out (z0e HB2.out _)) (z0e hb3 _)) (fun g hg=>by injection hg with hg;exact hg.symm)
 have HTV:Hid (Tabs w2):=(HT.out.below (z2m (World.grownBy.trans HG.out (z0e HB2.out _)) hlt)).tabs;rcases hm with h|⟨h,rfl,h2⟩|⟨h,rfl,h2⟩|⟨h,rfl,h2,rfl,h4⟩
 ·rw [h];have HM:=Lib.hid h;clear h
  go_wp2_with fail
  go_ret
  exact HE.out w2 (Below.refl _ _)
 ·rw [h];have hd2:decide ((0:Int)<(nb:Int))=true:=decide_eq_true (by omega);have hd3:¬nb=0:=by omega
  clear h h2
  go_wp2_with fail
  go_ret
  exact HE.out w2 (Below.refl _ _)
 ·rw [h];have hd2:decide ((0:Int)<(nk:Int))=true:=decide_eq_true (by omega);have hd3:¬nk=0:=by omega
  clear h h2
  go_wp2_with fail
  go_ret
  exact HE.out w2 (Below.refl _ _)
 ·rw [h];subst h2;have H4:=Lib.hid h4;clear h h4
  go_wp2_with fail
  refine (z4o t Ab nb cb b _ w2 (HIS.out w2 (Below.refl _ _)) hz HTV.out).mono ?_;rintro e w3 ⟨rfl,hb3⟩;rw [show Dr.value t b=false from H4.out];have HW3:=Lib.hid (HW2.out.below hb3 HW2.out.lt);have HB3:=Lib.hid hb3;clear hb3 q0 q1 f0 f1 p0 p1 p2 p3 p4 g0 g1 g2 g3 g4;obtain ⟨q0,q1,f0,f1⟩:=HW3.out.two
  go_wp2_with fail
  go_ret
  exact HE.out w3 HB3.out
end Go.Proofs.YtgmppconibklcaaGreatDoor

