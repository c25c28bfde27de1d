/- Part of the proof. No condition. -/
import Derived.Test.YtgmppconibklcaaGreatDoorM14
import Derived.Lib.OthersKept
import Derived.Test.YtgmppconibklcaaGreatDoorM9
import Derived.Test.YtgmppconibklcaaGreatDoorM8
import Derived.BigQuiet
import Derived.Test.YtgmppconibklcaaGreatDoorM12
set_option maxHeartbeats 40000000
set_option maxRecDepth 100000
set_option linter.unusedVariables false
set_option linter.unusedSimpArgs false
namespace Go.Proofs.YtgmppconibklcaaGreatDoor
open Go Go.RowKit

theorem zb1 (s:ByteArray) (pos:Nat) (h:pos<s.size):1≤(Utf8.decode s pos).2:=by
 by_cases ha:(s[pos]'h).toNat<128
 ·rw [decode_ascii s pos h ha];exact Nat.le_refl _
 ·exact (decode_high s pos h (by omega)).2
theorem zk6 (s:ByteArray) (pos:Nat) (h:pos<s.size):pos+(Utf8.decode s pos).2≤s.size:=by
 rw [Lib.decode_at];unfold Lib.decodeN;repeat' split
 all_goals simp only []
 all_goals omega
theorem chr_at (s:ByteArray) (pos:Nat):Utf.chr (s.extract pos s.size)=if Utf8.decode s pos=(65533,1) then (0,0) else (((Utf8.decode s pos).1:Int),((Utf8.decode s pos).2:Int)):=by
 rw [Utf.zh0,Utf.z4K]
theorem zd3 (s:ByteArray) (w:World) (hs:s.size≤1000000):
  Calls Tryz.prog 152 #[.string s] w fun e w'=>e = .returned (.bool (Utf.ok s))∧w=w':=by
 go_enter Tryz.func152,Tryz.ntmps152
 go_wp2_with fail
 go_loop [3] (fun t3=>∃ pos f:Nat,t3 = .int .i64 pos∧pos≤s.size∧Hid (Utf.z2Q s f pos=Utf.ok s∧s.size≤pos+f)) (fun t3=>s.size-(intOf t3).toNat)
 case atStart=>exact ⟨0,s.size,rfl,by omega,rfl,by omega⟩
 case round=>
  obtain ⟨pos,f,rfl,hp,HI⟩:=hrel;by_cases hlt:pos<s.size
  ·have hz:(s.extract pos s.size).size=s.size-pos:=by simp
   have hz1:0<(s.extract pos s.size).size:=by omega
   have hz2:(s.extract pos s.size).size≤1000000:=by omega
   have hc:=chr_at s pos;have hwp:=zb1 s pos hlt;have hwl:=zk6 s pos hlt;obtain ⟨f',rfl⟩:∃ f',f=f'+1:=⟨f-1,by have:=HI.out.2;omega⟩;obtain ⟨c,n,hcn⟩:∃ c n,Utf8.decode s pos=(c,n):=⟨_,_,rfl⟩;have hstep:Utf.z2Q s (f'+1) pos=if Utf8.decode s pos=(65533,1) then false else Utf.z2Q s f' (pos+(Utf8.decode s pos).2):=by simp [Utf.z2Q,hlt]
   rw [hcn] at hc hwp hwl hstep;clear hz;by_cases hb:(c,n)=(65533,1)
   ·rw [if_pos hb] at hc hstep;have Hf:Hid (Utf.ok s=false):=by show _=_;rw [←HI.out.1,hstep]
    have Hc:=Lib.hid hc;clear hc hstep hcn hb
    go_wp2_with (go_at_call 213;refine (zfB _ _ hz1 hz2).mono ?_;rintro e w' ⟨rfl,rfl⟩;rw [Hc.out])
    go_ret
    exact ⟨by rw [Hf.out];rfl,rfl⟩
   ·rw [if_neg hb] at hc hstep;have Hf:Hid (Utf.z2Q s f' (pos+n)=Utf.ok s∧s.size≤pos+n+f'):=⟨by rw [←hstep];exact HI.out.1,by have:=HI.out.2;simp at hwp;omega⟩;have Hc:=Lib.hid hc;have hn0:1≤n:=hwp;have hn1:pos+n≤s.size:=hwl;clear hc hstep hcn hb hwp hwl
    go_wp2_with (go_at_call 213;refine (zfB _ _ hz1 hz2).mono ?_;rintro e w' ⟨rfl,rfl⟩;rw [Hc.out])
    go_round
    case rel=>exact ⟨pos+n,f',by go_num,hn1,Hf⟩
    case measure=>simp [intOf];omega
  ·have Hf:Hid (Utf.ok s=true):=by show _=_;rw [←HI.out.1];exact Utf.z9c s f pos hlt
   go_wp2_with fail
   go_ret
   exact ⟨by rw [Hf.out];rfl,rfl⟩

theorem zdN (s:ByteArray) (pos:Nat) (h:pos<s.size):Lib.decodeGo (s.extract pos s.size)=Utf8.decode s pos:=by
 unfold Lib.decodeGo;rw [if_neg (by simp;omega),Utf.z4K]
theorem zhp {w wr:World} {g3 g4:Nat} (hT:Lib.Utf8Tabs g3 g4 w) (hb:Below w.heap.size w wr):Lib.Utf8Tabs g3 g4 wr:=Go.Proofs.Utf8Tabs_below hT hb
theorem zk9 (s:ByteArray) (w:World) (_:s.size≤1000000) (hT:Lib.Utf8Tabs 1 2 w):
  Calls Tryz.prog 206 #[.string s] w fun e w'=>e = .returned (.bool (Utf.ok s))∧Below w.heap.size w w':=by
 have HT:=Lib.hid hT;clear hT;go_enter Tryz.func206,Tryz.ntmps206
 go_wp2_with fail
 go_loopw [] (fun wr=>∃ pos f:Nat,wr.heap[w.heap.size]? = some (.stringIter s pos)∧Below w.heap.size w wr∧Hid (Utf.z2Q s f pos=Utf.ok s∧s.size≤pos+f)) (fun wr=>s.size-wr.iterPos w.heap.size)
 case atStart=>
  refine ⟨0,s.size,?_,(Below.refl _ w).alloc (Nat.le_refl _) _,rfl,by omega⟩;exact World.iter_heap w s 0
 case round=>
  obtain ⟨pos,f,hit,hb,HI⟩:=hrel;by_cases hlt:pos<s.size
  ·have hnx:∀ ty,(Instr.next (.pointer (some ⟨w.heap.size,0,none⟩)) true ty).run Tryz.prog wr=_:=fun ty=>Lib.run_next_any_at wr w.heap.size s pos ty hit hlt
   have hwp:=zb1 s pos hlt;have hdl:=decode_le s pos;obtain ⟨f',rfl⟩:∃ f',f=f'+1:=⟨f-1,by have:=HI.out.2;omega⟩;have hstep:Utf.z2Q s (f'+1) pos=if Utf8.decode s pos=(65533,1) then false else Utf.z2Q s f' (pos+(Utf8.decode s pos).2):=by simp [Utf.z2Q,hlt]
   have hdg:=zdN s pos hlt;obtain ⟨c,n,hcn⟩:∃ c n,Utf8.decode s pos=(c,n):=⟨_,_,rfl⟩;rw [hcn] at hnx hwp hdl hstep hdg;have hit2:=Lib.iterAt_heap wr w.heap.size s pos (pos+n) hit;have hb2:=Lib.below_iterAt hb (k:=w.heap.size) (Nat.le_refl _) s (pos+n);have hip:wr.iterPos w.heap.size=pos:=by simp [World.iterPos,hit]
   have Hip:=Lib.hid hip;have Hit2:=Lib.hid hit2;have hT2:=Lib.hid (zhp HT.out hb2);clear hit hip hit2;simp only [] at hnx hwp hdl;by_cases h3:c=65533
   ·subst h3;have Hdg:=Lib.hid hdg;clear hdg hcn;by_cases h1:n=1
    ·subst h1;have Hf:Hid (Utf.ok s=false):=by show _=_;rw [←HI.out.1,hstep,if_pos rfl]
     clear hstep hdl hwp
     go_wp2_with (go_at_call 285;refine (Tryz.utf8_DecodeRuneInString _ _ hT2.out).mono ?_;rintro e w3 ⟨rfl,hb3⟩;rw [Hdg.out])
     go_ret
     exact ⟨by rw [Hf.out];rfl,hb2.trans (hb3.mono hb2.size)⟩
    ·have hne:((n:Int)==1)=false:=by simp;omega
     have Hf:Hid (Utf.z2Q s f' (pos+n)=Utf.ok s∧s.size≤pos+n+f'):=⟨by rw [←HI.out.1,hstep,if_neg (by intro h;injection h with _ h;exact h1 h)],by have:=HI.out.2;omega⟩;clear hstep h1
     go_wp2_with (go_at_call 285;refine (Tryz.utf8_DecodeRuneInString _ _ hT2.out).mono ?_;rintro e w3 ⟨rfl,hb3⟩;rw [Hdg.out])
     have hit3:w3.heap[w.heap.size]? = some (.stringIter s (pos+n)):=(hb3.block _ (by rw [Lib.iterAt_size];have:=(Array.getElem?_eq_some_iff.1 Hit2.out).1;rw [Lib.iterAt_size] at this;exact this)).trans Hit2.out
     go_roundw
     case rel=>exact ⟨pos+n,f',hit3,hb2.trans (hb3.mono hb2.size),Hf⟩
     case measure=>rw [Hip.out];simp only [World.iterPos,hit3];omega
   ·have hne:((c:Int)==65533)=false:=by simp;omega
    have Hf:Hid (Utf.z2Q s f' (pos+n)=Utf.ok s∧s.size≤pos+n+f'):=⟨by rw [←HI.out.1,hstep,if_neg (by intro h;injection h with h _;exact h3 h)],by have:=HI.out.2;omega⟩;clear hstep h3 hdg hcn
    go_wp2_with fail
    go_roundw
    case rel=>exact ⟨pos+n,f',Hit2.out,hb2,Hf⟩
    case measure=>rw [Hip.out];simp only [World.iterPos,Hit2.out];omega
  ·have hnx:∀ ty,(Instr.next (.pointer (some ⟨w.heap.size,0,none⟩)) true ty).run Tryz.prog wr=_:=fun ty=>Lib.run_next_end_at wr w.heap.size s pos ty hit hlt
   have Hf:Hid (Utf.ok s=true):=by show _=_;rw [←HI.out.1];exact Utf.z9c s f pos hlt
   go_wp2_with fail
   go_ret
   exact ⟨by rw [Hf.out];rfl,hb⟩
end Go.Proofs.YtgmppconibklcaaGreatDoor

namespace Go.Proofs.YtgmppconibklcaaGreatDoor
open Go Go.RowKit

theorem zhV (s:ByteArray) (w:World) (hs:s.size≤1000000):
  Calls Tryz.prog 154 #[.string s] w fun e w'=>e = .returned (.bool (St.ia s))∧w=w':=by
 go_enter Tryz.func154,Tryz.ntmps154
 go_wp2_with fail
 go_loop [3] (fun t3=>∃ pos:Nat,t3 = .int .i64 pos∧pos≤s.size∧Hid ((s.data.toList.take pos).all St.iaC=true)) (fun t3=>s.size-(intOf t3).toNat)
 case atStart=>exact ⟨0,rfl,Nat.zero_le _,by simp [Hid]⟩
 case round=>
  obtain ⟨pos,rfl,hpos,HI⟩:=hrel;by_cases hlt:pos<s.size
  ·have hlt8:s[pos].toNat<256:=s[pos].toNat_lt;by_cases hc:127<s[pos].toNat
   ·have Hf:Hid (St.ia s=false):=St.z8m hlt (by simp [St.iaC];omega)
    go_wp2_with fail
    go_ret
    exact ⟨by rw [Hf.out];rfl,rfl⟩
   ·have Hn:Hid ((s.data.toList.take (pos+1)).all St.iaC=true):=St.z7e hlt HI.out (by simp [St.iaC];omega)
    go_wp2_with fail
    go_roundw
    case rel=>exact ⟨pos+1,by go_num,by omega,Hn.out⟩
    case measure=>simp [intOf];omega
  ·have Hf:Hid (St.ia s=true):=St.zaS hlt HI.out
   go_wp2_with fail
   go_ret
   exact ⟨by rw [Hf.out];rfl,rfl⟩
theorem ia_any (s:ByteArray) (w:World) (hs:s.size≤1000000):
  Calls Tryz.prog 208 #[.string s] w fun e w'=>e = .returned (.bool (St.ia s))∧Below w.heap.size w w':=by
 go_enter Tryz.func208,Tryz.ntmps208
 go_wp2_with fail
 go_loopw [] (fun wr=>∃ pos:Nat,wr.heap[w.heap.size]? = some (.stringIter s pos)∧Below w.heap.size w wr∧pos≤s.size∧Hid ((s.data.toList.take pos).all St.iaC=true)) (fun wr=>s.size-wr.iterPos w.heap.size)
 case atStart=>exact ⟨0,World.iter_heap w s 0,(Below.refl _ w).alloc (Nat.le_refl _) _,Nat.zero_le _,by simp [Hid]⟩
 case round=>
  obtain ⟨pos,hit,hbw,hpos,HI⟩:=hrel;by_cases hlt:pos<s.size
  ·have hnx:∀ ty,(Instr.next (.pointer (some ⟨w.heap.size,0,none⟩)) true ty).run Tryz.prog wr=_:=fun ty=>Lib.run_next_any_at wr w.heap.size s pos ty hit hlt
   have hd1:=decode_le s pos;have hip:wr.iterPos w.heap.size=pos:=by simp [World.iterPos,hit]
   have Hip:=Lib.hid hip;clear hip;by_cases ha:s[pos].toNat<128
   ·rw [decode_ascii s pos hlt ha] at hnx hd1;have hit2:=Lib.hid (Lib.iterAt_heap wr w.heap.size s pos (pos+1) hit);have hbw2:=Lib.below_iterAt hbw (k:=w.heap.size) (Nat.le_refl _) s (pos+1);have Hn:Hid ((s.data.toList.take (pos+1)).all St.iaC=true):=St.z7e hlt HI.out (by simp [St.iaC];omega);clear hit
    go_wp2_with fail
    go_roundw
    case rel=>exact ⟨pos+1,hit2.out,hbw2,by omega,Hn.out⟩
    case measure=>rw [Hip.out];simp only [World.iterPos,hit2.out];omega
   ·have hh:=(decode_high s pos hlt (by omega)).1;have hbw2:=Lib.below_iterAt hbw (k:=w.heap.size) (Nat.le_refl _) s (pos+(Utf8.decode s pos).2);have Hf:Hid (St.ia s=false):=St.z8m hlt (by simp [St.iaC];omega)
    go_wp2_with fail
    go_ret
    exact ⟨by rw [Hf.out];rfl,hbw2⟩
  ·have hnx:∀ ty,(Instr.next (.pointer (some ⟨w.heap.size,0,none⟩)) true ty).run Tryz.prog wr=_:=fun ty=>Lib.run_next_end_at wr w.heap.size s pos ty hit hlt
   have Hf:Hid (St.ia s=true):=St.zaS hlt HI.out
   go_wp2_with fail
   go_ret
   exact ⟨by rw [Hf.out];rfl,hbw⟩
namespace St
theorem kinds (n:Nat) (h:n<128):(65≤n∧n≤90)∨(97≤n∧n≤122)∨(48≤n∧n≤57)∨n=32∨n=39∨n=40∨n=41∨n=43∨n=44∨n=45∨n=46∨n=47∨n=58∨n=61∨n=63 ∨
  n<32∨(32<n∧n<39)∨n=42∨n=59∨n=60∨n=62∨n=64∨(90<n∧n<97)∨122<n:=by omega
theorem nes (n:Nat) (h:n<32∨(32<n∧n<39)∨(90<n∧n<97)∨122<n):((n:Int)==32)=false∧((n:Int)==39)=false∧((n:Int)==40)=false∧((n:Int)==41)=false∧((n:Int)==43)=false∧((n:Int)==44)=false∧((n:Int)==45)=false∧((n:Int)==46)=false∧((n:Int)==47)=false∧((n:Int)==58)=false∧((n:Int)==61)=false∧((n:Int)==63)=false:=by
 simp only [beq_eq_false_iff_ne];omega
theorem zn4 {c:UInt8} (h:(65≤c.toNat∧c.toNat≤90)∨(97≤c.toNat∧c.toNat≤122)∨(48≤c.toNat∧c.toNat≤57)∨c.toNat=32∨c.toNat=39∨c.toNat=40∨c.toNat=41∨c.toNat=43∨c.toNat=44∨c.toNat=45∨c.toNat=46∨c.toNat=47∨c.toNat=58∨c.toNat=61∨c.toNat=63):prC c=true:=by
 simp only [prC,more,decide_eq_true_eq,List.mem_cons,List.not_mem_nil,or_false];omega
theorem zm3 {c:UInt8} (h:c.toNat<32∨(32<c.toNat∧c.toNat<39)∨c.toNat=42∨c.toNat=59∨c.toNat=60∨c.toNat=62∨c.toNat=64∨(90<c.toNat∧c.toNat<97)∨122<c.toNat):prC c=false:=by
 simp only [prC,more,decide_eq_false_iff_not,List.mem_cons,List.not_mem_nil,or_false];omega
end St
theorem zib {p:Prop} (h:p:=by
  obtain ⟨e0,e1,e2,e3,e4,e5,e6,e7,e8,e9,e10,e11⟩:=St.nes n (by omega);have Hf:=Lib.hid (Hno.out (Hn2.out (by omega)));obtain ⟨h1,h2⟩:=h
  go_wp2_with fail
  go_ret
  exact ⟨by rw [Hf.out];rfl,hbw2⟩):p:=h
theorem zi7 {p:Prop} (h:p:=by
  obtain ⟨e0,e1,e2,e3,e4,e5,e6,e7,e8,e9,e10,e11⟩:=St.nes n (by omega);have Hf:=Lib.hid (Hno.out (Hn2.out (by omega)))
  go_wp2_with fail
  go_ret
  exact ⟨by rw [Hf.out];rfl,hbw2⟩):p:=h
theorem pr_any (s:ByteArray) (w:World) (hs:s.size≤1000000):
  Calls Tryz.prog 207 #[.string s] w fun e w'=>e = .returned (.bool (St.pr s))∧Below w.heap.size w w':=by
 go_enter Tryz.func207,Tryz.ntmps207
 go_wp2_with fail
 go_loopw [] (fun wr=>∃ pos:Nat,wr.heap[w.heap.size]? = some (.stringIter s pos)∧Below w.heap.size w wr∧pos≤s.size∧Hid ((s.data.toList.take pos).all St.prC=true)) (fun wr=>s.size-wr.iterPos w.heap.size)
 case atStart=>exact ⟨0,World.iter_heap w s 0,(Below.refl _ w).alloc (Nat.le_refl _) _,Nat.zero_le _,by simp [Hid]⟩
 case round=>
  obtain ⟨pos,hit,hbw,hpos,HI⟩:=hrel;by_cases hlt:pos<s.size
  ·have hnx:∀ ty,(Instr.next (.pointer (some ⟨w.heap.size,0,none⟩)) true ty).run Tryz.prog wr=_:=fun ty=>Lib.run_next_any_at wr w.heap.size s pos ty hit hlt
   have hd1:=decode_le s pos;have hip:wr.iterPos w.heap.size=pos:=by simp [World.iterPos,hit]
   have Hip:=Lib.hid hip;clear hip;by_cases ha:s[pos].toNat<128
   ·rw [decode_ascii s pos hlt ha] at hnx hd1;have hit2:=Lib.hid (Lib.iterAt_heap wr w.heap.size s pos (pos+1) hit);have hbw2:=Lib.below_iterAt hbw (k:=w.heap.size) (Nat.le_refl _) s (pos+1);have Hyes:Hid (St.prC s[pos]=true→(s.data.toList.take (pos+1)).all St.prC=true):=fun h=>St.z7e hlt HI.out h
    have Hno:Hid (St.prC s[pos]=false→St.pr s=false):=fun h=>St.z8m hlt h
    have Hy2:Hid (_):=Lib.hid (St.zn4 (c:=s[pos]));have Hn2:Hid (_):=Lib.hid (St.zm3 (c:=s[pos]));obtain ⟨n,hn⟩:∃ n:Nat,n=s[pos].toNat:=⟨_,rfl⟩;rw [←hn] at hnx ha hd1 Hy2 Hn2;clear hit hn;rcases St.kinds n ha with h|h|h|h|h|h|h|h|h|h|h|h|h|h|h|h|h|h|h|h|h|h|h|h
    iterate 3
     ·obtain ⟨h1,h2⟩:=h;have Hn:=Lib.hid (Hyes.out (Hy2.out (by omega)))
      go_wp2_with fail
      go_roundw
      case rel=>exact ⟨pos+1,hit2.out,hbw2,by omega,Hn.out⟩
      case measure=>rw [Hip.out];simp only [World.iterPos,hit2.out];omega
    iterate 12
     ·subst h;have Hn:=Lib.hid (Hyes.out (Hy2.out (by omega)))
      go_wp2_with fail
      go_roundw
      case rel=>exact ⟨pos+1,hit2.out,hbw2,by omega,Hn.out⟩
      case measure=>rw [Hip.out];simp only [World.iterPos,hit2.out];omega
    ·exact zi7
    ·exact zib
    iterate 5
     ·subst h;have Hf:=Lib.hid (Hno.out (Hn2.out (by omega)))
      go_wp2_with fail
      go_ret
      exact ⟨by rw [Hf.out];rfl,hbw2⟩
    ·exact zib
    ·exact zi7
   ·have hh:=(decode_high s pos hlt (by omega)).1;have hbw2:=Lib.below_iterAt hbw (k:=w.heap.size) (Nat.le_refl _) s (pos+(Utf8.decode s pos).2);have Hf:Hid (St.pr s=false):=St.z8m hlt (St.zm3 (by omega));obtain ⟨n,hn⟩:∃ n:Nat,n=(Utf8.decode s pos).1:=⟨_,rfl⟩;rw [←hn] at hnx hd1 hh;clear hn;obtain ⟨e0,e1,e2,e3,e4,e5,e6,e7,e8,e9,e10,e11⟩:=St.nes n (by omega)
    go_wp2_with fail
    go_ret
    exact ⟨by rw [Hf.out];rfl,hbw2⟩
  ·have hnx:∀ ty,(Instr.next (.pointer (some ⟨w.heap.size,0,none⟩)) true ty).run Tryz.prog wr=_:=fun ty=>Lib.run_next_end_at wr w.heap.size s pos ty hit hlt
   have Hf:Hid (St.pr s=true):=St.zaS hlt HI.out
   go_wp2_with fail
   go_ret
   exact ⟨by rw [Hf.out];rfl,hbw⟩
end Go.Proofs.YtgmppconibklcaaGreatDoor

namespace Go.Proofs.YtgmppconibklcaaGreatDoor
open Go Go.RowKit

theorem z52 (s:ByteArray) (k:Nat) (h:k<s.size):s.data.toList[k]'h=s[k]:=rfl
theorem z2a {s:ByteArray}:(s.size=0→s.toList.isEmpty=true)∧(¬s.size=0→s.toList.isEmpty=false):=by
 rw [Lib.toList_data,Lib.size_eq];cases s.data.toList<;>simp
theorem zj1 {s:ByteArray} (h:0<s.size):s.data.toList.head? = some 48↔PlainAid.bt s 0=48:=by
 have hl:0<s.data.toList.length:=h;rw [List.head?_eq_getElem?,List.getElem?_eq_getElem hl];unfold PlainAid.bt;rw [dif_pos h];show some s[0]=some 48↔_;simp only [Option.some.injEq];constructor
 ·intro e;rw [e];rfl
 ·intro e;apply UInt8.toNat_inj.1;simpa using (show s[0].toNat=48 by omega)
def z2k (s:ByteArray):Value:=match Od.numL s.data.toList with|some n=> .tuple #[.int .u64 n,.bool true]|none=> .tuple #[.int .u64 0,.bool false]
theorem z2S {s:ByteArray} (h:Od.numL s.data.toList=none):z2k s = .tuple #[.int .u64 0,.bool false]:=by unfold z2k;rw [h]
theorem z7J {s:ByteArray} {n:Nat} (h:Od.numL s.data.toList=some n):z2k s = .tuple #[.int .u64 n,.bool true]:=by unfold z2k;rw [h]
structure NInv (s:ByteArray) (pos n:Nat):Prop where
 hp:pos≤s.size
 hn:n=Od.val (s.data.toList.take pos)
 hd:(s.data.toList.take pos).all Od.z1s
theorem NInv.bad {s:ByteArray} {pos:Nat} (h:pos<s.size) (hb:s[pos].toNat<48∨57<s[pos].toNat):z2k s = .tuple #[.int .u64 0,.bool false]:=by
 refine z2S (Od.zdo (k:=pos) h ?_);rw [z52 s pos h];simp only [Od.z1s,decide_eq_false_iff_not];omega
theorem NInv.big {s:ByteArray} {pos n:Nat} (hI:NInv s pos n) (h:pos<s.size) (_:48≤s[pos].toNat) (hb:9223372036854775807<n*10+(s[pos].toNat-48)):z2k s = .tuple #[.int .u64 0,.bool false]:=by
 refine z2S (Od.zeY (k:=pos+1) ?_);have hv:=Od.z5a (l:=s.data.toList) (k:=pos) h;rw [z52 s pos h,←hI.hn] at hv;rw [hv];unfold Od.top;omega
theorem NInv.next {s:ByteArray} {pos n:Nat} (hI:NInv s pos n) (h:pos<s.size) (h0:48≤s[pos].toNat∧s[pos].toNat≤57):NInv s (pos+1) (n*10+(s[pos].toNat-48)):=by
 have hv:=Od.z5a (l:=s.data.toList) (k:=pos) h;rw [z52 s pos h,←hI.hn] at hv;exact ⟨h,hv.symm,Od.zaR h hI.hd (by rw [z52 s pos h];simp [Od.z1s,h0])⟩
theorem NInv.fin {s:ByteArray} {pos n:Nat} (hI:NInv s pos n) (h:¬pos<s.size) (hb:n≤9223372036854775807) (h0:¬s.size=0) (h1:¬(1<s.size∧PlainAid.bt s 0=48)):z2k s = .tuple #[.int .u64 n,.bool true]:=by
 have e:s.data.toList.take pos=s.data.toList:=List.take_of_length_le (by have:s.data.toList.length=s.size:=rfl;omega);have hn:=hI.hn;have hd:=hI.hd;rw [e] at hn hd;subst hn;refine z7J (Od.ziB ?_ hd (by unfold Od.top;omega));rintro (h2|⟨h2,h3⟩)
 ·apply h0;rw [Lib.size_eq,h2];rfl
 ·exact h1 ⟨h2,(zj1 (by omega)).1 h3⟩
theorem z7K {s:ByteArray} (h1:1<s.size) (h2:PlainAid.bt s 0=48):z2k s = .tuple #[.int .u64 0,.bool false]:=by
 refine z2S ?_;unfold Od.numL;rw [if_pos (.inr ⟨h1,(zj1 (by omega)).2 h2⟩)]
theorem z6A {s:ByteArray} (h:s.size=0):z2k s = .tuple #[.int .u64 0,.bool false]:=by
 refine z2S ?_;unfold Od.numL;rw [if_pos (.inl (List.eq_nil_of_length_eq_zero h))]
theorem zdn (s:ByteArray) (w:World) (hs:s.size≤1000000) (h0:¬s.size=0) (hc:(s.size:Int)≤1∨(PlainAid.bt s 0==48)=false):
  Calls Tryz.prog 141 #[.string s] w fun e w'=>e = .returned (z2k s)∧Below w.heap.size w w':=by
 have hne:=z2a.2 h0;have Hfin:Hid (¬(1<s.size∧PlainAid.bt s 0=48)):=by
  rintro ⟨a,b⟩;rcases hc with hc|hc
  ·omega
  ·rw [b] at hc;simp at hc
 have h0':0<s.size:=by omega
 have H0:=Lib.hid h0;clear h0;have hb:=PlainAid.get_bt s;have hz1:(s.size:Int)≤1∨¬(s.size:Int)≤1:=by omega
 rcases hz1 with hz1|hz1;all_goals rcases hc with hc|hc
 all_goals try (exfalso;omega)
 all_goals
  go_enter Tryz.func141,Tryz.ntmps141
  go_wp2_with fail
  clear hb
  go_loopw [4] (fun t4 wr=>∃ pos n:Nat,t4 = .int .u64 n∧(n:Int)≤9223372036854775807∧wr.heap[w.heap.size]? = some (.stringIter s pos)∧Below w.heap.size w wr∧Hid (NInv s pos n)) (fun _ wr=>s.size-wr.iterPos w.heap.size)
  case atStart=>exact ⟨0,0,rfl,by omega,World.iter_heap w s 0,(Below.refl _ w).alloc (Nat.le_refl _) _,Nat.zero_le _,by simp [Od.val],by simp⟩
  case round=>
   obtain ⟨pos,n,rfl,hn,hit,hbw,HI⟩:=hrel;by_cases hlt:pos<s.size
   ·have hnx:∀ ty,(Instr.next (.pointer (some ⟨w.heap.size,0,none⟩)) true ty).run Tryz.prog wr=_:=fun ty=>Lib.run_next_any_at wr w.heap.size s pos ty hit hlt
    have hd1:=decode_le s pos;have hip:wr.iterPos w.heap.size=pos:=by simp [World.iterPos,hit]
    have Hip:=Lib.hid hip;clear hip;by_cases ha:s[pos].toNat<128
    ·rw [decode_ascii s pos hlt ha] at hnx hd1;have hit2:=Lib.hid (Lib.iterAt_heap wr w.heap.size s pos (pos+1) hit);have hbw2:=Lib.below_iterAt hbw (k:=w.heap.size) (Nat.le_refl _) s (pos+1);obtain ⟨c,hcc⟩:∃ c:Nat,c=s[pos].toNat:=⟨_,rfl⟩;have Hcc:=Lib.hid hcc;rw [←hcc] at hnx ha hd1;clear hcc hit;by_cases hlo:(c:Int)<48
     ·have Hf:=Lib.hid (NInv.bad hlt (.inl (by rw [←Hcc.out];omega)))
      go_wp2_with fail
      go_ret2
      exact ⟨by rw [Hf.out];rfl,hbw2⟩
     ·by_cases hhi:57<(c:Int)
      ·have Hf:=Lib.hid (NInv.bad hlt (.inr (by rw [←Hcc.out];omega)))
       go_wp2_with fail
       go_ret2
       exact ⟨by rw [Hf.out];rfl,hbw2⟩
      ·have Hbig:Hid ((9223372036854775807-((c:Int)-48)) / 10<(n:Int)→z2k s = .tuple #[.int .u64 0,.bool false]):=fun hx=>
        HI.out.big hlt (by rw [←Hcc.out];omega) (by rw [←Hcc.out];omega)
       have Hnext:Hid ((n:Int)≤(9223372036854775807-((c:Int)-48)) / 10→NInv s (pos+1) (n*10+(c-48))∧((n*10+(c-48):Nat):Int)≤9223372036854775807):=fun hx=>
        ⟨by have:=HI.out.next hlt (by rw [←Hcc.out];omega);rwa [←Hcc.out] at this,by omega⟩
       go_wp2_with fail
       ·go_ret2
        have hx:(9223372036854775807-((c:Int)-48)) / 10<(n:Int):=by assumption
        exact ⟨by rw [Hbig.out hx];rfl,hbw2⟩
       ·have hx:(n:Int)≤(9223372036854775807-((c:Int)-48)) / 10:=by assumption
        have h2:=Hnext.out hx
        go_roundw
        case rel=>exact ⟨pos+1,n*10+(c-48),by go_num,h2.2,hit2.out,hbw2,h2.1⟩
        case measure=>rw [Hip.out];simp only [World.iterPos,hit2.out];omega
    ·have hh:=(decode_high s pos hlt (by omega)).1;have hbw2:=Lib.below_iterAt hbw (k:=w.heap.size) (Nat.le_refl _) s (pos+(Utf8.decode s pos).2);have Hf:=Lib.hid (NInv.bad hlt (.inr (by omega)))
     go_wp2_with fail
     go_ret2
     exact ⟨by rw [Hf.out];rfl,hbw2⟩
   ·have hnx:∀ ty,(Instr.next (.pointer (some ⟨w.heap.size,0,none⟩)) true ty).run Tryz.prog wr=_:=fun ty=>Lib.run_next_end_at wr w.heap.size s pos ty hit hlt
    have Hf:=Lib.hid (HI.out.fin hlt (by omega) H0.out Hfin.out)
    go_wp2_with fail
    go_ret2
    exact ⟨by rw [Hf.out];rfl,hbw⟩
theorem z9g (s:ByteArray) (w:World) (hs:s.size≤1000000):
  Calls Tryz.prog 141 #[.string s] w fun e w'=>e = .returned (z2k s)∧Below w.heap.size w w':=by
 by_cases h0:s.size=0
 ·rw [z6A h0];have he:=z2a.1 h0;clear h0;go_enter Tryz.func141,Tryz.ntmps141
  go_wp2_with fail
  go_ret2
  exact ⟨rfl,Below.refl _ _⟩
 ·by_cases hc:(s.size:Int)≤1∨(PlainAid.bt s 0==48)=false
  ·exact zdn s w hs h0 hc
  ·have h1:1<s.size:=by omega
   have h48:PlainAid.bt s 0=48:=by
    have:¬(PlainAid.bt s 0==48)=false:=fun h=>hc (.inr h)
    simpa using this
   rw [z7K h1 h48];have hne:=z2a.2 h0;have hb:=PlainAid.get_bt s;have h48':(PlainAid.bt s 0==48)=true:=by simpa using h48
   clear hc h48 h0;go_enter Tryz.func141,Tryz.ntmps141
   go_wp2_with fail
   go_ret2
   exact ⟨rfl,Below.refl _ _⟩
end Go.Proofs.YtgmppconibklcaaGreatDoor

namespace Go.Proofs.YtgmppconibklcaaGreatDoor
open Go Go.RowKit

def partOf (s:ByteArray):Int:=if s.data.toList.all Od.z1s then (Od.val s.data.toList:Int) else -1
theorem z9a {s:ByteArray} {pos:Nat} (h:pos<s.size) (hb:s[pos].toNat<48∨57<s[pos].toNat):partOf s = -1:=by
 unfold partOf;rw [if_neg];intro ha;have h1:=List.all_eq_true.1 ha (s.data.toList[pos]'h) (List.getElem_mem _);rw [z52 s pos h] at h1;simp only [Od.z1s,decide_eq_true_eq] at h1;omega
theorem zgs {s:ByteArray} {pos n:Nat} (hI:NInv s pos n) (h:¬pos<s.size):partOf s=(n:Int):=by
 have e:s.data.toList.take pos=s.data.toList:=List.take_of_length_le (by have:s.data.toList.length=s.size:=rfl;omega);have hn:=hI.hn;have hd:=hI.hd;rw [e] at hn hd;unfold partOf;rw [if_pos hd,hn]
theorem zic {p:Prop} (h:p:=by
  go_wp2_with fail
  refine (z0l _ _ _ _ (by omega)).mono ?_;rintro _ w2 ⟨rfl,rfl⟩
  go_wp2_with fail
  go_ret
  exact ⟨by rw [Hf.out];rfl,rfl⟩):p:=h
theorem zaf (s:ByteArray) (w:World) (hs:s.size≤10):
  Calls Tryz.prog 215 #[.string s] w fun e w'=>e = .returned (.int .i64 (partOf s))∧w=w':=by
 go_enter Tryz.func215,Tryz.ntmps215
 go_wp2_with fail
 go_loop [3,4] (fun t3 t4=>∃ pos n:Nat,t3 = .int .i64 n∧t4 = .int .i64 pos∧pos≤s.size∧Hid (NInv s pos n)) (fun _ t4=>s.size-(intOf t4).toNat)
 case atStart=>exact ⟨0,0,rfl,rfl,Nat.zero_le _,Nat.zero_le _,by simp [Od.val],by simp⟩
 case round=>
  obtain ⟨pos,n,rfl,rfl,hpos,HI⟩:=hrel;have hn10:n<10^pos:=by
   have h1:=Od.ze2 _ HI.out.hd;rw [←HI.out.hn,List.length_take] at h1;exact Nat.lt_of_lt_of_le h1 (Nat.pow_le_pow_right (by decide) (Nat.min_le_left _ _))
  have hn18:(n:Int)≤10000000000:=by
   have h1:10^pos≤10^10:=Nat.pow_le_pow_right (by decide) (by omega);omega
  clear hn10;by_cases hlt:pos<s.size
  ·have hlt8:s[pos].toNat<256:=s[pos].toNat_lt;by_cases hlo:s[pos].toNat<48
   ·have Hf:=Lib.hid (z9a hlt (.inl hlo));exact zic
   ·by_cases hhi:57<s[pos].toNat
    ·have Hf:=Lib.hid (z9a hlt (.inr hhi));exact zic
    ·have Hnext:=Lib.hid (HI.out.next hlt (by omega))
     go_wp2_with fail
     refine (z0c _ _ _ _ (by omega)).mono ?_;rintro _ w2 ⟨rfl,rfl⟩
     go_wp2_with fail
     go_roundw
     case rel=>exact ⟨pos+1,n*10+(s[pos].toNat-48),by go_num,by go_num,by omega,Hnext.out⟩
     case measure=>simp [intOf];omega
  ·have Hf:=Lib.hid (zgs HI.out hlt)
   go_wp2_with fail
   go_ret
   exact ⟨by rw [Hf.out];rfl,rfl⟩
end Go.Proofs.YtgmppconibklcaaGreatDoor

namespace Go.Proofs.YtgmppconibklcaaGreatDoor
open Go Go.RowKit

def twoN (a b:Nat):Int:=if 48≤a∧a≤57∧48≤b∧b≤57 then ((a-48)*10+(b-48):Nat) else -1048576
theorem zeD {p:Prop} (h:p:=by
  have Hf:Hid (twoN s[k].toNat s[k+1].toNat = -1048576):=by show _=_;unfold twoN;rw [if_neg (by omega)]
  go_enter Tryz.func193,Tryz.ntmps193
  go_wp2_with fail
  go_ret
  exact ⟨by rw [Hf.out];rfl,0,rfl⟩):p:=h
theorem z5T (s:ByteArray) (k:Nat) (w:World) (hs:s.size≤1000) (h0:k<s.size) (h1:k+1<s.size):
  Calls Tryz.prog 193 #[.string s,.int .i64 k] w fun e w'=>e = .returned (.int .i64 (twoN s[k].toNat s[k+1].toNat))∧∃ n,w'=w.drewN n:=by
 have ha:=s[k].toNat_lt;have hb:=s[k+1].toNat_lt;have hk1:((k:Int)+1)<(s.size:Int):=by omega
 by_cases a1:s[k].toNat<48
 ·exact zeD
 ·by_cases a2:57<s[k].toNat
  ·exact zeD
  ·by_cases b1:s[k+1].toNat<48
   ·exact zeD
   ·by_cases b2:57<s[k+1].toNat
    ·exact zeD
    ·have Hf:Hid (twoN s[k].toNat s[k+1].toNat=(((s[k].toNat-48)*10+(s[k+1].toNat-48):Nat):Int)):=by show _=_;unfold twoN;rw [if_pos (by omega)]
     go_enter Tryz.func193,Tryz.ntmps193
     go_wp2_with fail
     go_quiet (fail)
     go_wp2_with fail
     go_ret
     have e:((s[k].toNat:Int)-48)*10+((s[k+1].toNat:Int)-48)=(((s[k].toNat-48)*10+(s[k+1].toNat-48):Nat):Int):=by omega
     exact ⟨by rw [Hf.out,←e];rfl,_,rfl⟩
end Go.Proofs.YtgmppconibklcaaGreatDoor

namespace Go.Proofs.YtgmppconibklcaaGreatDoor
open Go Go.RowKit

theorem z2c {a b c:World} (h:∃ n,b=a.drewN n) (k:∃ n,c=b.drewN n):∃ n,c=a.drewN n:=by
 obtain ⟨n,rfl⟩:=h;obtain ⟨m,rfl⟩:=k;exact ⟨n+m,World.drewN_drewN _ _ _⟩
theorem zgM {a b:World} (h:a=b):∃ n,b=a.drewN n:=⟨0,by subst h;rfl⟩
def z3Z (o:Option Int):Value:=match o with
 | some t=> .tuple #[.int .i64 t,.bool true]
 | none=> .tuple #[.int .i64 0,.bool false]
theorem zny (s:ByteArray) (k:Nat) (h:k<s.size):Pr.lb s.data.toList k=(s[k].toNat:Int):=by
 have hl:k<s.data.toList.length:=h;unfold Pr.lb;have e:s.data.toList.getD k 0=s[k]:=by
  rw [List.getD_eq_getElem?_getD,List.getElem?_eq_getElem hl];rfl
 rw [e]
theorem z8I (s:ByteArray) (k:Nat) (h:k+1<s.size):(twoN s[k].toNat s[k+1].toNat=Pr.tw s.data.toList k∧0≤Pr.tw s.data.toList k)∨(twoN s[k].toNat s[k+1].toNat = -1048576∧Pr.tw s.data.toList k = -1):=by
 unfold Pr.tw twoN;rw [zny s k (by omega),zny s (k+1) h];by_cases hc:48≤s[k].toNat∧s[k].toNat≤57∧48≤s[k+1].toNat∧s[k+1].toNat≤57
 ·rw [if_pos hc,if_pos (by omega)];omega
 ·rw [if_neg hc,if_neg (by omega)];omega
theorem z4M {y m d h i q m' d' h' i' q':Int} (hm:(m=m'∧0≤m')∨(m = -1048576∧m' = -1)) (hd:(d=d'∧0≤d')∨(d = -1048576∧d' = -1)) (hh:(h=h'∧0≤h')∨(h = -1048576∧h' = -1)) (hi:(i=i'∧0≤i')∨(i = -1048576∧i' = -1)) (hq:(q=q'∧0≤q')∨(q = -1048576∧q' = -1))
  (dm:Int) (hdm:dm=Cal.dim y m) (_:28≤dm) (hb:m<1∨12<m∨d<1∨dm<d∨h<0∨23<h∨i<0∨59<i∨q<0∨59<q):Pr.atO y m' d' h' i' q'=none:=by
 unfold Pr.atO;rw [if_neg];rintro ⟨_,_,k2,k3,k4,k5,k6,k7,k8,k9,k10,k11⟩;obtain rfl:m=m':=by omega
 rw [←hdm] at k5;omega
theorem zo4 {y m d h i q m' d' h' i' q':Int} (hm:(m=m'∧0≤m')∨(m = -1048576∧m' = -1)) (hd:(d=d'∧0≤d')∨(d = -1048576∧d' = -1)) (hh:(h=h'∧0≤h')∨(h = -1048576∧h' = -1)) (hi:(i=i'∧0≤i')∨(i = -1048576∧i' = -1)) (hq:(q=q'∧0≤q')∨(q = -1048576∧q' = -1))
  (dm:Int) (hdm:dm=Cal.dim y m) (hy0:0≤y) (hy1:y≤9999) (k2:¬m<1) (k3:¬12<m) (k4:¬d<1) (k5:¬dm<d) (k6:¬h<0) (k7:¬23<h) (k8:¬i<0) (k9:¬59<i) (k10:¬q<0) (k11:¬59<q):Pr.atO y m' d' h' i' q'=some (Pr.atT y m d h i q):=by
 obtain rfl:m=m':=by omega
 obtain rfl:d=d':=by omega
 obtain rfl:h=h':=by omega
 obtain rfl:i=i':=by omega
 obtain rfl:q=q':=by omega
 unfold Pr.atO;rw [if_pos ⟨hy0,hy1,by omega,by omega,by omega,by omega,by omega,by omega,by omega,by omega,by omega,by omega⟩]
theorem z3r (a b:Nat):(0≤twoN a b∧twoN a b≤99)∨twoN a b = -1048576:=by unfold twoN;split<;>omega
theorem zgx (y:Int) (s:ByteArray) (w:World) (hy:y<0):
  Calls Tryz.prog 192 #[.int .i64 y,.string s] w fun e w'=>e = .returned (z3Z (Pr.momO y s.data.toList 0))∧w=w':=by
 have Hf:Hid (Pr.momO y s.data.toList 0=none):=by
  show _=_;unfold Pr.momO Pr.atO;rw [if_neg (fun h=>by have:=h.1;omega)]
 go_enter Tryz.func192,Tryz.ntmps192
 go_wp2_with fail
 go_ret2
 exact ⟨by rw [Hf.out];rfl,rfl⟩
theorem zgy (y:Int) (s:ByteArray) (w:World) (hs:s.size=10) (hy0:0≤y) (hy1:y≤9999):
  Calls Tryz.prog 192 #[.int .i64 y,.string s] w fun e w'=>e = .returned (z3Z (Pr.momO y s.data.toList 0))∧∃ n,w'=w.drewN n:=by
 have HO:Hid (Pr.momO y s.data.toList 0=Pr.atO y (Pr.tw s.data.toList 0) (Pr.tw s.data.toList 2) (Pr.tw s.data.toList 4) (Pr.tw s.data.toList 6) (Pr.tw s.data.toList 8)):=rfl;have T0:=Lib.hid (z8I s 0 (by omega));have T1:=Lib.hid (z8I s 2 (by omega));have T2:=Lib.hid (z8I s 4 (by omega));have T3:=Lib.hid (z8I s 6 (by omega));have T4:=Lib.hid (z8I s 8 (by omega));have r0:=z3r s[0].toNat s[1].toNat;have r1:=z3r s[2].toNat s[3].toNat;have r2:=z3r s[4].toNat s[5].toNat;have r3:=z3r s[6].toNat s[7].toNat;have r4:=z3r s[8].toNat s[9].toNat;obtain ⟨m,hmm⟩:∃ x,x=twoN s[0].toNat s[1].toNat:=⟨_,rfl⟩;obtain ⟨d,hdd⟩:∃ x,x=twoN s[2].toNat s[3].toNat:=⟨_,rfl⟩;obtain ⟨h,hhh⟩:∃ x,x=twoN s[4].toNat s[5].toNat:=⟨_,rfl⟩;obtain ⟨i,hii⟩:∃ x,x=twoN s[6].toNat s[7].toNat:=⟨_,rfl⟩;obtain ⟨q,hqq⟩:∃ x,x=twoN s[8].toNat s[9].toNat:=⟨_,rfl⟩;rw [←hmm] at r0;rw [←hdd] at r1;rw [←hhh] at r2;rw [←hii] at r3;rw [←hqq] at r4;rw [←hmm] at T0;rw [←hdd] at T1;rw [←hhh] at T2;rw [←hii] at T3;rw [←hqq] at T4;have Hmm:=Lib.hid hmm;have Hdd:=Lib.hid hdd;have Hhh:=Lib.hid hhh;have Hii:=Lib.hid hii;have Hqq:=Lib.hid hqq;clear hmm hdd hhh hii hqq;have R0:=Lib.hid r0;have R1:=Lib.hid r1;have R2:=Lib.hid r2;have R3:=Lib.hid r3;have R4:=Lib.hid r4;clear r0 r1 r2 r3 r4;go_enter Tryz.func192,Tryz.ntmps192
 go_wp2_with fail
 refine (z5T s 0 _ (by omega) (by omega) (by omega)).mono ?_;rintro _ w1 ⟨rfl,hb⟩;rw [←Hmm.out];have Hb1:=Lib.hid hb;clear hb
 go_wp2_with fail
 refine (z5T s 2 _ (by omega) (by omega) (by omega)).mono ?_;rintro _ w2 ⟨rfl,hb⟩;rw [←Hdd.out];have Hb2:=Lib.hid (z2c Hb1.out hb);clear hb Hb1
 go_wp2_with fail
 refine (z5T s 4 _ (by omega) (by omega) (by omega)).mono ?_;rintro _ w3 ⟨rfl,hb⟩;rw [←Hhh.out];have Hb3:=Lib.hid (z2c Hb2.out hb);clear hb Hb2
 go_wp2_with fail
 refine (z5T s 6 _ (by omega) (by omega) (by omega)).mono ?_;rintro _ w4 ⟨rfl,hb⟩;rw [←Hii.out];have Hb4:=Lib.hid (z2c Hb3.out hb);clear hb Hb3
 go_wp2_with fail
 refine (z5T s 8 _ (by omega) (by omega) (by omega)).mono ?_;rintro _ w5 ⟨rfl,hb⟩;rw [←Hqq.out];have Hb5:=Lib.hid (z2c Hb4.out hb);clear hb Hb4;have hm1:=R0.out;have hd1:=R1.out;have hh1:=R2.out;have hi1:=R3.out;have hq1:=R4.out;have hdim:=Cal.zci y m;have bm: -1048576≤m∧m≤99:=by omega
 have bd: -1048576≤d∧d≤99:=by omega
 have bh: -1048576≤h∧h≤99:=by omega
 have bi: -1048576≤i∧i≤99:=by omega
 have bq: -1048576≤q∧q≤99:=by omega
 obtain ⟨bm0,bm1⟩:=bm;obtain ⟨bd0,bd1⟩:=bd;obtain ⟨bh0,bh1⟩:=bh;obtain ⟨bi0,bi1⟩:=bi;obtain ⟨bq0,bq1⟩:=bq;clear hm1 hd1 hh1 hi1 hq1 R0 R1 R2 R3 R4;obtain ⟨dm,hdm⟩:∃ dm,dm=Cal.dim y m:=⟨_,rfl⟩;have Hdm:=Lib.hid hdm;rw [←hdm] at hdim;obtain ⟨hdim0,hdim1⟩:=hdim;clear hdm;by_cases c0:m<1
 ·have Hn:Hid (Pr.momO y s.data.toList 0=none):=by
   show _=_;rw [HO.out];exact z4M T0.out T1.out T2.out T3.out T4.out dm Hdm.out hdim0 (by omega)
  go_wp2_with fail
  go_ret2
  exact ⟨by rw [Hn.out];rfl,Hb5.out⟩
 by_cases c1:12<m
 ·have Hn:Hid (Pr.momO y s.data.toList 0=none):=by
   show _=_;rw [HO.out];exact z4M T0.out T1.out T2.out T3.out T4.out dm Hdm.out hdim0 (by omega)
  go_wp2_with fail
  go_ret2
  exact ⟨by rw [Hn.out];rfl,Hb5.out⟩
 by_cases c2:d<1
 ·have Hn:Hid (Pr.momO y s.data.toList 0=none):=by
   show _=_;rw [HO.out];exact z4M T0.out T1.out T2.out T3.out T4.out dm Hdm.out hdim0 (by omega)
  go_wp2_with fail
  go_ret2
  exact ⟨by rw [Hn.out];rfl,Hb5.out⟩
 by_cases c3:dm<d
 ·have Hn:Hid (Pr.momO y s.data.toList 0=none):=by
   show _=_;rw [HO.out];exact z4M T0.out T1.out T2.out T3.out T4.out dm Hdm.out hdim0 (by omega)
  go_wp2_with fail
  refine (z1W y m _ hy0 (by omega)).mono ?_;rintro _ w6 ⟨rfl,rfl⟩;rw [←Hdm.out]
  go_wp2_with fail
  go_ret2
  exact ⟨by rw [Hn.out];rfl,Hb5.out⟩
 by_cases c4:h<0
 ·have Hn:Hid (Pr.momO y s.data.toList 0=none):=by
   show _=_;rw [HO.out];exact z4M T0.out T1.out T2.out T3.out T4.out dm Hdm.out hdim0 (by omega)
  go_wp2_with fail
  refine (z1W y m _ hy0 (by omega)).mono ?_;rintro _ w6 ⟨rfl,rfl⟩;rw [←Hdm.out]
  go_wp2_with fail
  go_ret2
  exact ⟨by rw [Hn.out];rfl,Hb5.out⟩
 by_cases c5:23<h
 ·have Hn:Hid (Pr.momO y s.data.toList 0=none):=by
   show _=_;rw [HO.out];exact z4M T0.out T1.out T2.out T3.out T4.out dm Hdm.out hdim0 (by omega)
  go_wp2_with fail
  refine (z1W y m _ hy0 (by omega)).mono ?_;rintro _ w6 ⟨rfl,rfl⟩;rw [←Hdm.out]
  go_wp2_with fail
  go_ret2
  exact ⟨by rw [Hn.out];rfl,Hb5.out⟩
 by_cases c6:i<0
 ·have Hn:Hid (Pr.momO y s.data.toList 0=none):=by
   show _=_;rw [HO.out];exact z4M T0.out T1.out T2.out T3.out T4.out dm Hdm.out hdim0 (by omega)
  go_wp2_with fail
  refine (z1W y m _ hy0 (by omega)).mono ?_;rintro _ w6 ⟨rfl,rfl⟩;rw [←Hdm.out]
  go_wp2_with fail
  go_ret2
  exact ⟨by rw [Hn.out];rfl,Hb5.out⟩
 by_cases c7:59<i
 ·have Hn:Hid (Pr.momO y s.data.toList 0=none):=by
   show _=_;rw [HO.out];exact z4M T0.out T1.out T2.out T3.out T4.out dm Hdm.out hdim0 (by omega)
  go_wp2_with fail
  refine (z1W y m _ hy0 (by omega)).mono ?_;rintro _ w6 ⟨rfl,rfl⟩;rw [←Hdm.out]
  go_wp2_with fail
  go_ret2
  exact ⟨by rw [Hn.out];rfl,Hb5.out⟩
 by_cases c8:q<0
 ·have Hn:Hid (Pr.momO y s.data.toList 0=none):=by
   show _=_;rw [HO.out];exact z4M T0.out T1.out T2.out T3.out T4.out dm Hdm.out hdim0 (by omega)
  go_wp2_with fail
  refine (z1W y m _ hy0 (by omega)).mono ?_;rintro _ w6 ⟨rfl,rfl⟩;rw [←Hdm.out]
  go_wp2_with fail
  go_ret2
  exact ⟨by rw [Hn.out];rfl,Hb5.out⟩
 by_cases c9:59<q
 ·have Hn:Hid (Pr.momO y s.data.toList 0=none):=by
   show _=_;rw [HO.out];exact z4M T0.out T1.out T2.out T3.out T4.out dm Hdm.out hdim0 (by omega)
  go_wp2_with fail
  refine (z1W y m _ hy0 (by omega)).mono ?_;rintro _ w6 ⟨rfl,rfl⟩;rw [←Hdm.out]
  go_wp2_with fail
  go_ret2
  exact ⟨by rw [Hn.out];rfl,Hb5.out⟩
 have Hg:Hid (Pr.momO y s.data.toList 0=some (Pr.atT y m d h i q)):=by
  show _=_;rw [HO.out];exact zo4 T0.out T1.out T2.out T3.out T4.out dm Hdm.out hy0 hy1 c0 c1 c2 c3 c4 c5 c6 c7 c8 c9
 have bdb:=Cal.zfs y hy0 (by omega);have HT:Hid (Pr.atT y m d h i q=(Cal.dby y+(d-1)+Cal.cum y m)*86400-62167219200+h*3600+i*60+q):=by
  show _=_;unfold Pr.atT Cal.num;omega
 go_wp2_with fail
 refine (z1W y m _ hy0 (by omega)).mono ?_;rintro _ w6 ⟨rfl,rfl⟩;rw [←Hdm.out]
 go_wp2_with fail
 refine (zh6 y _ hy0 (by omega)).mono ?_;rintro _ w6 ⟨rfl,rfl⟩
 go_wp2_with fail
 go_loop [11,12] (fun t11 t12=>∃ k:Int,1≤k∧k≤m∧t12 = .int .i64 k∧t11 = .int .i64 (Cal.dby y+(d-1)+Cal.cum y k)) (fun _ t12=>(m-intOf t12).toNat)
 case atStart=>exact ⟨1,by omega,by omega,rfl,by rw [Cal.zlx];go_num⟩
 case round=>
  obtain ⟨k,hk0,hk1,rfl,rfl⟩:=hrel;have cb:=Cal.zfx y k hk0 (by omega);by_cases hkm:k<m
  ·have Hc:=Lib.hid (Cal.z3V y k hk0 (by omega));have db:=Cal.zci y k
   go_wp2_with fail
   refine (z1W y k _ hy0 (by omega)).mono ?_;rintro _ w7 ⟨rfl,rfl⟩
   go_wp2_with fail
   go_round
   case rel=>exact ⟨k+1,by omega,by omega,rfl,by rw [Hc.out];go_num⟩
   case measure=>simp [intOf];omega
  ·obtain rfl:k=m:=by omega
   go_wp2_with fail
   go_ret2
   exact ⟨by rw [Hg.out,HT.out];exact congrArg (fun x=>Ending.returned (.tuple #[.int .i64 x,.bool true])) (by omega),Hb5.out⟩
theorem z9j (y:Int) (s:ByteArray) (w:World) (hs:s.size=10) (hy1:y≤9999):
  Calls Tryz.prog 192 #[.int .i64 y,.string s] w fun e w'=>e = .returned (z3Z (Pr.momO y s.data.toList 0))∧∃ n,w'=w.drewN n:=by
 by_cases hy:y<0
 ·exact (zgx y s w hy).mono fun _ _ ⟨h1,h2⟩=>⟨h1,zgM h2⟩
 ·exact zgy y s w hs (by omega) hy1
def twP (l:List UInt8) (k:Nat):Int:=if Pr.tw l k<0 then -1048576 else Pr.tw l k
theorem zmx (s:ByteArray) (k:Nat) (w:World) (hs:s.size≤1000) (h1:k+1<s.size):
  Calls Tryz.prog 193 #[.string s,.int .i64 k] w fun e w'=>e = .returned (.int .i64 (twP s.data.toList k))∧∃ n,w'=w.drewN n:=by
 refine (z5T s k w hs (by omega) h1).mono ?_;rintro e w' ⟨rfl,hq⟩;refine ⟨?_,hq⟩;have h:=z8I s k h1;unfold twP;rcases h with ⟨h,h0⟩|⟨h,h0⟩
 ·rw [if_neg (by omega),h]
 ·rw [if_pos (by omega),h]
theorem z5d (l:List UInt8) (k:Nat): -1048576≤twP l k∧twP l k≤99:=by
 have:=Pr.z1i l k;unfold twP;split<;>omega
theorem z3S (s:ByteArray) (k:Nat):Pr.lb s.data.toList k=PlainAid.bt s k:=by
 by_cases h:k<s.size
 ·rw [zny s k h,PlainAid.get_bt]
 ·rw [PlainAid.bt_end s (by omega)];have hl:s.data.toList.length≤k:=by have:s.size=s.data.toList.length:=Lib.size_eq s;omega
  unfold Pr.lb;rw [List.getD_eq_getElem?_getD,List.getElem?_eq_none hl];rfl
theorem z5D (s:ByteArray) (a b:Nat):(s.extract a b).data.toList=(s.data.toList.drop a).take (b-a):=by
 obtain ⟨⟨l⟩⟩:=s;rw [ByteArray.extract_mk]
theorem ziS (s:ByteArray) (a b k:Nat) (h:a+k<b):Pr.lb (s.extract a b).data.toList k=Pr.lb s.data.toList (a+k):=by
 unfold Pr.lb;rw [z5D,List.getD_eq_getElem?_getD,List.getD_eq_getElem?_getD,List.getElem?_take,if_pos (by omega),List.getElem?_drop]
theorem zb3 (s:ByteArray) (a b k:Nat) (h:a+k+1<b):Pr.tw (s.extract a b).data.toList k=Pr.tw s.data.toList (a+k):=by
 unfold Pr.tw;rw [ziS s a b k (by omega),ziS s a b (k+1) (by omega),Nat.add_assoc]
theorem z6a (y:Int) (s:ByteArray) (a:Nat):Pr.momO y (s.extract a (a+10)).data.toList 0=Pr.momO y s.data.toList a:=by
 unfold Pr.momO;rw [zb3 s a _ 0 (by omega),zb3 s a _ (0+2) (by omega),zb3 s a _ (0+4) (by omega),zb3 s a _ (0+6) (by omega),zb3 s a _ (0+8) (by omega)];rfl
end Go.Proofs.YtgmppconibklcaaGreatDoor

