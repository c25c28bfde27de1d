/- Part of the proof. No condition. -/
import Derived.Test.YtgmppconibklcaaGreatDoorProg
import Derived.Test.YtgmppconibklcaaGreatDoorM0
import Derived.Test.YtgmppconibklcaaGreatDoorShelf
import Derived.Test.YtgmppconibklcaaGreatDoorM9
import Derived.WalkKit
import Derived.BigCall
import Derived.BigQuiet
import Derived.Outline
import Derived.Handy
import Derived.WalkLawsBesides
import Derived.WalkSpells
set_option maxHeartbeats 40000000
set_option maxRecDepth 100000
set_option linter.unusedVariables false
set_option linter.unusedSimpArgs false
namespace Go.Proofs.YtgmppconibklcaaGreatDoor
open Go Go.RowKit

def bw (n lo hi:Int):Bool:=decide (lo≤n∧n≤hi)
theorem z8i (n lo hi:Int) (w:World):
  Calls Tryz.prog 214 #[.int .i64 n,.int .i64 lo,.int .i64 hi] w fun e w'=>e = .returned (.bool (bw n lo hi))∧w=w':=by
 by_cases h1:lo≤n
 ·by_cases h2:n≤hi
  ·have e:bw n lo hi=true:=by simp [bw,h1,h2]
   rw [e];clear e;go_enter Tryz.func214,Tryz.ntmps214
   go_wp2
   go_ret
   exact ⟨rfl,rfl⟩
  ·have e:bw n lo hi=false:=by simp [bw,h2]
   rw [e];clear e;go_enter Tryz.func214,Tryz.ntmps214
   go_wp2
   go_ret
   exact ⟨rfl,rfl⟩
 ·have e:bw n lo hi=false:=by simp [bw,h1]
  rw [e];clear e;go_enter Tryz.func214,Tryz.ntmps214
  go_wp2
  go_ret
  exact ⟨rfl,rfl⟩
theorem z0c (n lo hi:Int) (w:World) (h:lo≤n∧n≤hi):
  Calls Tryz.prog 214 #[.int .i64 n,.int .i64 lo,.int .i64 hi] w fun e w'=>e = .returned (.bool true)∧w=w':=by
 have e:bw n lo hi=true:=by simp [bw,h]
 rw [←e];exact z8i n lo hi w
theorem z0l (n lo hi:Int) (w:World) (h:n<lo∨hi<n):
  Calls Tryz.prog 214 #[.int .i64 n,.int .i64 lo,.int .i64 hi] w fun e w'=>e = .returned (.bool false)∧w=w':=by
 have e:bw n lo hi=false:=by simp [bw];omega
 rw [←e];exact z8i n lo hi w
theorem ch0_ {p:Prop} (h:p:=by
  go_enter Tryz.func213,Tryz.ntmps213
  go_wp2_with (go_at_call 214;first|(refine (z0c _ _ _ _ (by omega)).mono ?_;rintro e w' ⟨rfl,rfl⟩)|(refine (z0l _ _ _ _ (by omega)).mono ?_;rintro e w' ⟨rfl,rfl⟩))
  go_ret2
  exact ⟨rfl,rfl⟩):p:=h
theorem ch1_ {p:Prop} (h:p:=by
  go_enter Tryz.func213,Tryz.ntmps213
  go_wp2_with (go_at_call 214;first|(refine (z0c _ _ _ _ (by omega)).mono ?_;rintro e w' ⟨rfl,rfl⟩)|(refine (z0l _ _ _ _ (by omega)).mono ?_;rintro e w' ⟨rfl,rfl⟩))
  refine wp_loop_rounds 1 ?_;rw [rounds_succ]
  go_wp2_with (go_at_call 214;first|(refine (z0c _ _ _ _ (by omega)).mono ?_;rintro e w' ⟨rfl,rfl⟩)|(refine (z0l _ _ _ _ (by omega)).mono ?_;rintro e w' ⟨rfl,rfl⟩))
  go_ret2
  exact ⟨rfl,rfl⟩):p:=h
theorem ch2_ {p:Prop} (h:p:=by
  go_enter Tryz.func213,Tryz.ntmps213
  go_wp2_with (go_at_call 214;first|(refine (z0c _ _ _ _ (by omega)).mono ?_;rintro e w' ⟨rfl,rfl⟩)|(refine (z0l _ _ _ _ (by omega)).mono ?_;rintro e w' ⟨rfl,rfl⟩))
  refine wp_loop_rounds 2 ?_;rw [rounds_succ]
  go_wp2_with (go_at_call 214;first|(refine (z0c _ _ _ _ (by omega)).mono ?_;rintro e w' ⟨rfl,rfl⟩)|(refine (z0l _ _ _ _ (by omega)).mono ?_;rintro e w' ⟨rfl,rfl⟩))
  rw [rounds_succ]
  go_wp2_with (go_at_call 214;first|(refine (z0c _ _ _ _ (by omega)).mono ?_;rintro e w' ⟨rfl,rfl⟩)|(refine (z0l _ _ _ _ (by omega)).mono ?_;rintro e w' ⟨rfl,rfl⟩))
  go_ret2
  exact ⟨rfl,rfl⟩):p:=h
theorem ch3_ {p:Prop} (h:p:=by
  go_enter Tryz.func213,Tryz.ntmps213
  go_wp2_with (go_at_call 214;first|(refine (z0c _ _ _ _ (by omega)).mono ?_;rintro e w' ⟨rfl,rfl⟩)|(refine (z0l _ _ _ _ (by omega)).mono ?_;rintro e w' ⟨rfl,rfl⟩))
  refine wp_loop_rounds 3 ?_;rw [rounds_succ]
  go_wp2_with (go_at_call 214;first|(refine (z0c _ _ _ _ (by omega)).mono ?_;rintro e w' ⟨rfl,rfl⟩)|(refine (z0l _ _ _ _ (by omega)).mono ?_;rintro e w' ⟨rfl,rfl⟩))
  rw [rounds_succ]
  go_wp2_with (go_at_call 214;first|(refine (z0c _ _ _ _ (by omega)).mono ?_;rintro e w' ⟨rfl,rfl⟩)|(refine (z0l _ _ _ _ (by omega)).mono ?_;rintro e w' ⟨rfl,rfl⟩))
  rw [rounds_succ]
  go_wp2_with (go_at_call 214;first|(refine (z0c _ _ _ _ (by omega)).mono ?_;rintro e w' ⟨rfl,rfl⟩)|(refine (z0l _ _ _ _ (by omega)).mono ?_;rintro e w' ⟨rfl,rfl⟩))
  go_ret2
  exact ⟨rfl,rfl⟩):p:=h
theorem ch4_ {p:Prop} (h:p:=by
  go_enter Tryz.func213,Tryz.ntmps213
  go_wp2_with (go_at_call 214;first|(refine (z0c _ _ _ _ (by omega)).mono ?_;rintro e w' ⟨rfl,rfl⟩)|(refine (z0l _ _ _ _ (by omega)).mono ?_;rintro e w' ⟨rfl,rfl⟩))
  refine wp_loop_rounds 4 ?_;rw [rounds_succ]
  go_wp2_with (go_at_call 214;first|(refine (z0c _ _ _ _ (by omega)).mono ?_;rintro e w' ⟨rfl,rfl⟩)|(refine (z0l _ _ _ _ (by omega)).mono ?_;rintro e w' ⟨rfl,rfl⟩))
  rw [rounds_succ]
  go_wp2_with (go_at_call 214;first|(refine (z0c _ _ _ _ (by omega)).mono ?_;rintro e w' ⟨rfl,rfl⟩)|(refine (z0l _ _ _ _ (by omega)).mono ?_;rintro e w' ⟨rfl,rfl⟩))
  rw [rounds_succ]
  go_wp2_with (go_at_call 214;first|(refine (z0c _ _ _ _ (by omega)).mono ?_;rintro e w' ⟨rfl,rfl⟩)|(refine (z0l _ _ _ _ (by omega)).mono ?_;rintro e w' ⟨rfl,rfl⟩))
  rw [rounds_succ]
  go_wp2_with (go_at_call 214;first|(refine (z0c _ _ _ _ (by omega)).mono ?_;rintro e w' ⟨rfl,rfl⟩)|(refine (z0l _ _ _ _ (by omega)).mono ?_;rintro e w' ⟨rfl,rfl⟩))
  go_ret2
  exact ⟨rfl,rfl⟩):p:=h
theorem zfB (s:ByteArray) (w:World) (hs:0<s.size) (hs1:s.size≤1000000):
  Calls Tryz.prog 213 #[.string s] w fun e w'=>e = .returned (.tuple #[.int .i64 (Utf.chr s).1,.int .i64 (Utf.chr s).2])∧w=w':=by
 have hb:=PlainAid.get_bt s;have l0:=PlainAid.bt_nonneg s 0;have u0:=PlainAid.bt_le s 0;have l1:=PlainAid.bt_nonneg s 1;have u1:=PlainAid.bt_le s 1;have l2:=PlainAid.bt_nonneg s 2;have u2:=PlainAid.bt_le s 2;have l3:=PlainAid.bt_nonneg s 3;have u3:=PlainAid.bt_le s 3;by_cases c1:PlainAid.bt s 0<128
 ·have e:Utf.chr s=(PlainAid.bt s 0,1):=by unfold Utf.chr Utf.chrZ;rw [if_pos c1]
  rw [e];clear e;go_enter Tryz.func213,Tryz.ntmps213
  go_wp2_with fail
  go_ret2
  exact ⟨rfl,rfl⟩
 ·by_cases c2:PlainAid.bt s 0<192∨248≤PlainAid.bt s 0
  ·have e:Utf.chr s=(0,0):=by unfold Utf.chr Utf.chrZ;rw [if_neg c1,if_pos c2]
   rw [e];clear e;exact ch0_
  ·have k1:192≤PlainAid.bt s 0:=by omega
   have k2:PlainAid.bt s 0≤247:=by omega
   by_cases c3:PlainAid.bt s 0<224
   ·skip
    by_cases z:s.size<2
    ·have z':(s.size:Int)<2:=by omega
     have e:Utf.chr s=(0,0):=by unfold Utf.chr Utf.chrZ;rw [if_neg c1,if_neg c2,if_pos c3,if_pos (by omega)]
     rw [e];clear e;exact ch0_
    ·have z':(2:Int)≤s.size:=by omega
     by_cases d1:PlainAid.bt s 1<128∨191<PlainAid.bt s 1
     ·skip
      have e:Utf.chr s=(0,0):=by unfold Utf.chr Utf.chrZ;rw [if_neg c1,if_neg c2,if_pos c3,if_pos (by omega)]
      rw [e];clear e;exact ch1_
     ·have d1':128≤PlainAid.bt s 1∧PlainAid.bt s 1≤191:=by omega
      by_cases v1:((PlainAid.bt s 0-192)*64+PlainAid.bt s 1-128)<128
      ·skip
       have e:Utf.chr s=(0,0):=by unfold Utf.chr Utf.chrZ;rw [if_neg c1,if_neg c2,if_pos c3,if_pos (by omega)]
       rw [e];clear e;exact ch2_
      ·skip
       have e:Utf.chr s=(((PlainAid.bt s 0-192)*64+PlainAid.bt s 1-128),2):=by unfold Utf.chr Utf.chrZ;rw [if_neg c1,if_neg c2,if_pos c3,if_neg (by omega)]
       rw [e];clear e;exact ch2_
   ·by_cases c4:PlainAid.bt s 0<240
    ·skip
     by_cases z:s.size<3
     ·have z':(s.size:Int)<3:=by omega
      have e:Utf.chr s=(0,0):=by unfold Utf.chr Utf.chrZ;rw [if_neg c1,if_neg c2,if_neg c3,if_pos c4,if_pos (by omega)]
      rw [e];clear e;exact ch0_
     ·have z':(3:Int)≤s.size:=by omega
      by_cases d1:PlainAid.bt s 1<128∨191<PlainAid.bt s 1
      ·skip
       have e:Utf.chr s=(0,0):=by unfold Utf.chr Utf.chrZ;rw [if_neg c1,if_neg c2,if_neg c3,if_pos c4,if_pos (by omega)]
       rw [e];clear e;exact ch1_
      ·have d1':128≤PlainAid.bt s 1∧PlainAid.bt s 1≤191:=by omega
       by_cases d2:PlainAid.bt s 2<128∨191<PlainAid.bt s 2
       ·skip
        have e:Utf.chr s=(0,0):=by unfold Utf.chr Utf.chrZ;rw [if_neg c1,if_neg c2,if_neg c3,if_pos c4,if_pos (by omega)]
        rw [e];clear e;exact ch2_
       ·have d2':128≤PlainAid.bt s 2∧PlainAid.bt s 2≤191:=by omega
        by_cases v1:(((PlainAid.bt s 0-224)*64+PlainAid.bt s 1-128)*64+PlainAid.bt s 2-128)<2048
        ·skip
         have e:Utf.chr s=(0,0):=by unfold Utf.chr Utf.chrZ;rw [if_neg c1,if_neg c2,if_neg c3,if_pos c4,if_pos (by omega)]
         rw [e];clear e;exact ch3_
        ·skip
         by_cases v2:55296≤(((PlainAid.bt s 0-224)*64+PlainAid.bt s 1-128)*64+PlainAid.bt s 2-128)∧(((PlainAid.bt s 0-224)*64+PlainAid.bt s 1-128)*64+PlainAid.bt s 2-128)≤57343
         ·skip
          have e:Utf.chr s=(0,0):=by unfold Utf.chr Utf.chrZ;rw [if_neg c1,if_neg c2,if_neg c3,if_pos c4,if_pos (by omega)]
          rw [e];clear e;exact ch3_
         ·skip
          have e:Utf.chr s=((((PlainAid.bt s 0-224)*64+PlainAid.bt s 1-128)*64+PlainAid.bt s 2-128),3):=by unfold Utf.chr Utf.chrZ;rw [if_neg c1,if_neg c2,if_neg c3,if_pos c4,if_neg (by omega)]
          rw [e];clear e;exact ch3_
    ·skip
     by_cases z:s.size<4
     ·have z':(s.size:Int)<4:=by omega
      have e:Utf.chr s=(0,0):=by unfold Utf.chr Utf.chrZ;rw [if_neg c1,if_neg c2,if_neg c3,if_neg c4,if_pos (by omega)]
      rw [e];clear e;exact ch0_
     ·have z':(4:Int)≤s.size:=by omega
      by_cases d1:PlainAid.bt s 1<128∨191<PlainAid.bt s 1
      ·skip
       have e:Utf.chr s=(0,0):=by unfold Utf.chr Utf.chrZ;rw [if_neg c1,if_neg c2,if_neg c3,if_neg c4,if_pos (by omega)]
       rw [e];clear e;exact ch1_
      ·have d1':128≤PlainAid.bt s 1∧PlainAid.bt s 1≤191:=by omega
       by_cases d2:PlainAid.bt s 2<128∨191<PlainAid.bt s 2
       ·skip
        have e:Utf.chr s=(0,0):=by unfold Utf.chr Utf.chrZ;rw [if_neg c1,if_neg c2,if_neg c3,if_neg c4,if_pos (by omega)]
        rw [e];clear e;exact ch2_
       ·have d2':128≤PlainAid.bt s 2∧PlainAid.bt s 2≤191:=by omega
        by_cases d3:PlainAid.bt s 3<128∨191<PlainAid.bt s 3
        ·skip
         have e:Utf.chr s=(0,0):=by unfold Utf.chr Utf.chrZ;rw [if_neg c1,if_neg c2,if_neg c3,if_neg c4,if_pos (by omega)]
         rw [e];clear e;exact ch3_
        ·have d3':128≤PlainAid.bt s 3∧PlainAid.bt s 3≤191:=by omega
         by_cases v1:((((PlainAid.bt s 0-240)*64+PlainAid.bt s 1-128)*64+PlainAid.bt s 2-128)*64+PlainAid.bt s 3-128)<65536
         ·skip
          have e:Utf.chr s=(0,0):=by unfold Utf.chr Utf.chrZ;rw [if_neg c1,if_neg c2,if_neg c3,if_neg c4,if_pos (by omega)]
          rw [e];clear e;exact ch4_
         ·skip
          by_cases v2:1114111<((((PlainAid.bt s 0-240)*64+PlainAid.bt s 1-128)*64+PlainAid.bt s 2-128)*64+PlainAid.bt s 3-128)
          ·skip
           have e:Utf.chr s=(0,0):=by unfold Utf.chr Utf.chrZ;rw [if_neg c1,if_neg c2,if_neg c3,if_neg c4,if_pos (by omega)]
           rw [e];clear e;exact ch4_
          ·skip
           have e:Utf.chr s=(((((PlainAid.bt s 0-240)*64+PlainAid.bt s 1-128)*64+PlainAid.bt s 2-128)*64+PlainAid.bt s 3-128),4):=by unfold Utf.chr Utf.chrZ;rw [if_neg c1,if_neg c2,if_neg c3,if_neg c4,if_neg (by omega)]
           rw [e];clear e;exact ch4_

end Go.Proofs.YtgmppconibklcaaGreatDoor

