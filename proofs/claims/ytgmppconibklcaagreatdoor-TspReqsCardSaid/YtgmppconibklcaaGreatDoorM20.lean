/- Part of the proof. No condition. -/
import Derived.Test.YtgmppconibklcaaGreatDoorM19
import Derived.Outline
import Derived.StillTailTactics
import Derived.Test.YtgmppconibklcaaGreatDoorM12
import Derived.Test.YtgmppconibklcaaGreatDoorM18
import Derived.Test.YtgmppconibklcaaGreatDoorM17
set_option maxHeartbeats 40000000
set_option maxRecDepth 100000
set_option linter.unusedVariables false
set_option linter.unusedSimpArgs false
namespace Go.Proofs.YtgmppconibklcaaGreatDoor
open Go Go.RowKit Go.Shelf
attribute [local go_sem] Oper.semAt_some

theorem zf8:(Tryz.prog.info? 180).map (fun i=>(i.zero,i.size,i.bytes))=some (some (.int .u64 0),1,8):=by kernel_rfl
def z2e (s:ByteArray) (w:World) (e:Ending) (w':World):Prop:=
 match Od.enc s.data.toList with
 | some out=>∃ v,e = .returned (.tuple #[v,.int .i64 0])∧w'.ownsRow w.heap.size 5 1 v out.length (Lib.byteCells out)∧Below w.heap.size w w'
 | none=>e = .returned (.tuple #[.slice none 0 0,.int .i64 20])∧Below w.heap.size w w'
theorem zkO (w:World) (base:Nat):w.ownsRow base 5 1 (.slice none 0 0) (List.length ([]:List UInt8)) (Lib.byteCells []):=World.ownsRow_nil _ _ _ _
theorem zm1 (a:Int) (n:Nat) (v:Value) (l0:List UInt8) (base:Nat) (w:World) (ha:a=n) (hown:w.ownsRow base 5 1 v l0.length (Lib.byteCells l0)) (hbase:base≤w.heap.size) (hl0:l0.length≤1000000)
  (h0:(n:Int)≤18446744073709551615):
  Calls Tryz.prog 142 #[v,.int .u64 a] w fun e w'=>∃ v',e = .returned v'∧AppB base w w' v v' (l0++Od.b128 n):=by
 subst ha;exact zn2 n v l0 base w hown hbase hl0 h0
theorem z6k {A B:World} (h:A.grownBy B none):Below A.heap.size A B:=⟨h.os,h.tape,h.output,h.size,fun k hk=>h.block k hk (by simp)⟩
theorem zh2 {A B:World} {p:Addr} {v:Value} (hb:Below A.heap.size A B) (h:A.cell? p=some v):B.cell? p=some v:=
 (hb.cell (World.block_lt_of_cell? A p h)).trans h
def accB (n0 n1:Nat) (l:List Nat):List UInt8:=Od.b128 (40*n0+n1)++l.flatMap Od.b128
theorem z8n (n0 n1:Nat) (l:List Nat):(accB n0 n1 l).length≤11+11*l.length:=by
 unfold accB;have h1:=Od.z33 (40*n0+n1);have h2:∀ l:List Nat,(l.flatMap Od.b128).length≤11*l.length:=by
  intro l;induction l with
  | nil=>simp
  | cons a l ih=>have:=Od.z33 a;simp only [List.flatMap_cons,List.length_append,List.length_cons];omega
 have:=h2 l;rw [List.length_append];omega
theorem zcF (n0 n1:Nat) {l:List Nat} {k:Nat} (h:k<l.length):accB n0 n1 (l.take (k+1))=accB n0 n1 (l.take k)++Od.b128 l[k]:=by
 unfold accB;rw [List.take_succ_eq_append_getElem h,List.flatMap_append];simp
theorem zlL {ns:List Nat} (h:¬ns.length<2):∃ n0 n1 rest,ns=n0::n1::rest:=by
 match ns,h with
 | [],h=>simp at h
 | [_],h=>simp at h
 | n0::n1::rest,_=>exact ⟨n0,n1,rest,rfl⟩
theorem zaN {W:World} {k t t':Nat} {u u':Value} (h:Boxed W k t u) (h':Boxed W k t' u'):t=t':=by
 have:=(show W.heap[k]? = _ from h).symm.trans (show W.heap[k]? = _ from h');simp at this;exact this.2
theorem ziq {c:UInt8} {s:ByteArray} {pre:List ByteArray} {x:ByteArray} (h:(pre++[x]) <+: z1L c s):x.size≤s.size:=by
 have hx:x∈z1L c s:=h.subset (by simp);obtain ⟨p,hp,rfl⟩:=List.mem_map.1 hx;have:=Od.z5v p hp;rw [Lib.size_eq,Lib.size_eq s];simpa [mkS] using this
theorem zeX {c:UInt8} {s:ByteArray} {pre:List ByteArray} {ns:List Nat} (h:pre <+: z1L c s) (hn:Od.z0w (pre.map (·.data.toList))=some ns):ns.length≤s.size+1:=by
 have h1:=(z3D hn).1;have h2:=h.length_le;have h3:=Od.z2P c s.data.toList;unfold z1L at h2;rw [List.length_map] at h2 h1;rw [Lib.size_eq];omega
theorem z4j {s:ByteArray} {w w':World} {out:List UInt8} {v:Value} (h:Od.enc s.data.toList=some out) (hr:w'.ownsRow w.heap.size 5 1 v out.length (Lib.byteCells out)) (hb:Below w.heap.size w w'):z2e s w (.returned (.tuple #[v,.int .i64 0])) w':=by
 unfold z2e;rw [h];exact ⟨v,rfl,hr,hb⟩
theorem zeG {p:Prop} (h:p:=by
  repeat still_step
  refine wpStill_nil ?_
  go_wp2_with fail
  rw [←HW2.out];have hz2:=Hb2.out.size;refine (zm1 _ (40*n0+n1) _ _ _ _ (by omega) (zkO W2 w.heap.size) hz2 (Nat.zero_le _) (by omega)).mono ?_;rintro e W3 ⟨v3,rfl,A3⟩;have HA3:=Lib.hid A3;have hr2':=Lib.hid hr2;have he2':=Lib.hid he2;have hb3:=z6k A3.grown;have HB3:=Lib.hid hb3;have hr3:=hr2.kept (z0e hb3 none) (by simp);have he3:=he2.kept (z0e hb3 none) (by simp);have f4:W3.cell? ⟨w.heap.size+2,0,none⟩=some (.slice (some ⟨g,0,none⟩) (rest.length+1+1) cap):=zh2 hb3 d4;have Hrow3:=Lib.hid (z1y Hrow2.out hb3);clear A3 hb3 d4 d5 d6 hr2 he2
  go_wp2_with fail
  by_cases hc:cap=2
  ·have hrl:rest.length=0:=by
    have h1:=Hrow2.out.2;rcases h1 with ⟨h1,_⟩|⟨g',cap',cur,h1,_,_,h2,_⟩
    ·cases h1
    ·injection h1 with _ _ h3;omega
   obtain rfl:rest=[]:=List.eq_nil_of_length_eq_zero hrl;clear hrl;subst hc
   gi_wp2
   gi_loopw [8,70] (fun t8 t70 wr=>∃ (k:Nat) (v1:Value),v1=t8∧t70 = .int .i64 k∧k≤0∧Hid (AppB w.heap.size W2 wr (.slice none 0 0) v1 (accB n0 n1 ([]:List Nat)))) (fun _ t70 _=>0-(intOf t70).toNat)
   case atStart=>exact ⟨0,v3,rfl,rfl,Nat.zero_le _,by have:=HA3.out;simpa [accB,Hid] using this⟩
   case round=>
    clear hr3 he3 f4;obtain ⟨k,v1,rfl,rfl,hk,HA⟩:=hrel;have hbr:=Lib.hid (z6k HA.out.grown);have hzr:=hbr.out.size;by_cases hlt:k<0
    ·exfalso;omega
    ·have hr4:=hr2'.out.kept (z0e hbr.out none) (by simp);have he4:=he2'.out.kept (z0e hbr.out none) (by simp);have p0:=hr4.cell;have p1:=hr4.frozen;have p2:=he4.cell;have p3:=he4.frozen;have Hr4:=Lib.hid hr4;have He4:=Lib.hid he4;clear hr4 he4;have hv1:∃ A c,v1 = .slice A (accB n0 n1 ([]:List Nat)).length c:=by
      obtain ⟨A,c,h,_⟩:=z0P HA.out.own;exact ⟨A,c,h⟩
     obtain ⟨A,c,rfl⟩:=hv1
     gi_wp2
     have HAf:=HA.out;have hrow9:=HAf.own;have n0':=(Hr4.out).not_row (by decide) hrow9;have n1':=(He4.out).not_row (by decide) hrow9;have q0:=((Hr4.out.set (.slice A (accB n0 n1 ([]:List Nat)).length c)).kept (grownBy_setCell' _ (w.heap.size+1) (.int .i64 0)) (by simp)).kept (grownBy_putObj' _ W0.heap.size (.deferred none)) (by intro e;injection e;omega);have q1:=((He4.out.kept (grownBy_setCell' _ w.heap.size (.slice A (accB n0 n1 ([]:List Nat)).length c)) (by simp)).set (.int .i64 0)).kept (grownBy_putObj' _ W0.heap.size (.deferred none)) (by intro e;injection e;omega);have x0:=q0.cell;have x1:=q1.cell;have hK9:((wr.setCell ⟨w.heap.size,0,none⟩ (.slice A (accB n0 n1 ([]:List Nat)).length c)).setCell ⟨w.heap.size+1,0,none⟩ (.int .i64 0)).heap[W0.heap.size]? = some (.deferred (some [])):=by
      rw [Below.heap_setCell _ _ _ _ (by simp;omega),Below.heap_setCell _ _ _ _ (by simp;omega),hbr.out.block _ (Array.getElem?_eq_some_iff.1 HK3.out).1];exact HK3.out
     refine ⟨by simp,.inl ⟨_,_,rfl,run_takeDeferred hK9,?_⟩⟩;refine ⟨.tuple #[.slice A (accB n0 n1 ([]:List Nat)).length c,.int .i64 0],by simp [results,Tryz.results74,go_sem,x0,x1],?_⟩;have hbz:Below w.heap.size w wr:=Hb2.out.trans (hbr.out.mono hz2);have hb9:=(hbz.setCell (p:=⟨w.heap.size,0,none⟩) (Nat.le_refl _) (.slice A (accB n0 n1 ([]:List Nat)).length c)).setCell (p:=⟨w.heap.size+1,0,none⟩) (by simp) (.int .i64 0);refine z4j (out:=accB n0 n1 ([]:List Nat)) (by rw [Henc.out,Hok.out];simp [Od.bytesOf,accB]) ?_ (hb9.grown (grownBy_putObj' _ _ _) hb9.size (fun k e=>by injection e;omega));exact ownsRow_putObj ((hrow9.kept (grownBy_setCell' _ _ _) (.inr n0'.symm)).kept (grownBy_setCell' _ _ _) (.inr n1'.symm)) _ hK9 rfl
  ·gi_wp2
   gi_loopw [8,70] (fun t8 t70 wr=>∃ (k:Nat) (v1:Value),v1=t8∧t70 = .int .i64 k∧k≤rest.length∧Hid (AppB w.heap.size W2 wr (.slice none 0 0) v1 (accB n0 n1 (rest.take k)))) (fun _ t70 _=>rest.length-(intOf t70).toNat)
   case atStart=>exact ⟨0,v3,rfl,rfl,Nat.zero_le _,by have:=HA3.out;simpa [accB,Hid] using this⟩
   case round=>
    clear hr3 he3 f4;obtain ⟨k,v1,rfl,rfl,hk,HA⟩:=hrel;have hbr:=Lib.hid (z6k HA.out.grown);have hzr:=hbr.out.size;by_cases hlt:k<rest.length
    ·have hcell:wr.cell? ⟨g,2+k,none⟩=some (.int .u64 (rest[k]:Int)):=by
      have h1:=(z1y Hrow2.out hbr.out).cells (g:=g) rfl (2+k) (.int .u64 (rest[k]:Int)) (by simp [u64s,Nat.add_comm 2 k,List.getElem?_eq_getElem hlt])
      rwa [show (⟨g,0,none⟩:Addr).add (2+k)=⟨g,2+k,none⟩ by unfold Addr.add;split<;>simp;omega] at h1
     have hnt:rest[k]<9223372036854775808:=Htop.out rest[k] (by simp);have hal:=z8n n0 n1 (rest.take k);have htl:(rest.take k).length≤k:=List.length_take_le _ _;have Hnext:Hid (∀ v' w',AppB w.heap.size wr w' v1 v' (accB n0 n1 (rest.take k)++Od.b128 rest[k])→AppB w.heap.size W2 w' (.slice none 0 0) v' (accB n0 n1 (rest.take (k+1)))):=fun v' w' h=>by
      rw [zcF n0 n1 hlt];exact HA.out.trans h
     have hz5:w.heap.size≤wr.heap.size:=by omega
     gi_wp2_with (refine ⟨trivial,?_⟩;gi_at_call 142;refine (callsIn_wide.2 (zm1 _ rest[k] _ _ w.heap.size _ rfl HA.out.own hz5 (by omega) (by omega))).mono ?_;rintro e w5 ⟨v5,rfl,A5⟩)
     go_roundw
     case rel=>exact ⟨k+1,v5,rfl,by go_num,by omega,Hnext.out _ _ A5⟩
     case measure=>simp [intOf];omega
    ·have hr4:=hr2'.out.kept (z0e hbr.out none) (by simp);have he4:=he2'.out.kept (z0e hbr.out none) (by simp);have p0:=hr4.cell;have p1:=hr4.frozen;have p2:=he4.cell;have p3:=he4.frozen;have Hr4:=Lib.hid hr4;have He4:=Lib.hid he4;clear hr4 he4;have hv1:∃ A c,v1 = .slice A (accB n0 n1 (rest.take k)).length c:=by
      obtain ⟨A,c,h,_⟩:=z0P HA.out.own;exact ⟨A,c,h⟩
     obtain ⟨A,c,rfl⟩:=hv1
     gi_wp2
     have hk':rest.take k=rest:=List.take_of_length_le (by omega);have HAf:=HA.out;rw [hk'] at HAf;have hrow9:=HAf.own;have n0':=(Hr4.out).not_row (by decide) hrow9;have n1':=(He4.out).not_row (by decide) hrow9;have q0:=((Hr4.out.set (.slice A (accB n0 n1 (rest.take k)).length c)).kept (grownBy_setCell' _ (w.heap.size+1) (.int .i64 0)) (by simp)).kept (grownBy_putObj' _ W0.heap.size (.deferred none)) (by intro e;injection e;omega);have q1:=((He4.out.kept (grownBy_setCell' _ w.heap.size (.slice A (accB n0 n1 (rest.take k)).length c)) (by simp)).set (.int .i64 0)).kept (grownBy_putObj' _ W0.heap.size (.deferred none)) (by intro e;injection e;omega);have x0:=q0.cell;have x1:=q1.cell;have hK9:((wr.setCell ⟨w.heap.size,0,none⟩ (.slice A (accB n0 n1 (rest.take k)).length c)).setCell ⟨w.heap.size+1,0,none⟩ (.int .i64 0)).heap[W0.heap.size]? = some (.deferred (some [])):=by
      rw [Below.heap_setCell _ _ _ _ (by simp;omega),Below.heap_setCell _ _ _ _ (by simp;omega),hbr.out.block _ (Array.getElem?_eq_some_iff.1 HK3.out).1];exact HK3.out
     refine ⟨by simp,.inl ⟨_,_,rfl,run_takeDeferred hK9,?_⟩⟩;refine ⟨.tuple #[.slice A (accB n0 n1 (rest.take k)).length c,.int .i64 0],by simp [results,Tryz.results74,go_sem,x0,x1],?_⟩;have hbz:Below w.heap.size w wr:=Hb2.out.trans (hbr.out.mono hz2);have hb9:=(hbz.setCell (p:=⟨w.heap.size,0,none⟩) (Nat.le_refl _) (.slice A (accB n0 n1 (rest.take k)).length c)).setCell (p:=⟨w.heap.size+1,0,none⟩) (by simp) (.int .i64 0);refine z4j (out:=accB n0 n1 rest) (by rw [Henc.out,Hok.out];simp [Od.bytesOf,accB]) ?_ (hb9.grown (grownBy_putObj' _ _ _) hb9.size (fun k e=>by injection e;omega));rw [hk'] at hK9 ⊢;exact ownsRow_putObj ((hrow9.kept (grownBy_setCell' _ _ _) (.inr n0'.symm)).kept (grownBy_setCell' _ _ _) (.inr n1'.symm)) _ hK9 rfl):p:=h
theorem z6U {p:Prop} (h:p:=by
  gi_wp2
  have k0:=K0.out;have k1:=K1.out;refine ⟨by simp,.inl ⟨_,_,rfl,run_takeDeferred HK2.out,?_⟩⟩;exact ⟨.tuple #[.slice none 0 0,.int .i64 20],by simp [results,Tryz.results74,go_sem,k0,k1],Hbad.out Hok.out⟩):p:=h
theorem z6z (s:ByteArray) (w:World) (hs:s.size≤90000):
  Calls Tryz.prog 74 #[.string s] w (z2e s w):=by
 obtain ⟨i0,hi0,hz0,hz1',hz2⟩:=info_parts zf8;refine (callsIn_wide (n:=4)).1 ?_;refine callsIn_of_wp_marks Tryz.func74 rfl trivial ?_ rfl;simp only [Tryz.ntmps74,List.size_toArray,List.length_cons,List.length_nil,Nat.reduceAdd,Nat.reduceSub,Array.replicate_succ,Array.replicate_zero,List.push_toArray,List.append_toArray,List.nil_append,List.cons_append]
 gi_wp2_with (refine ⟨trivial,?_⟩;gi_at_call 140;refine (callsIn_wide.2 (zbg _ _ _)).mono ?_;rintro e w' ⟨rfl,rfl⟩)
 simp only [Nat.add_assoc,Nat.reduceAdd];have hB0:Below w.heap.size w ((((((w.alloc (.cells #[.slice none 0 0] 22)).alloc (.cells #[.int .i64 0] 30)).alloc (.cells #[.slice none 0 0] 151)).alloc (.cells #[.string s] 9)).alloc (.cells #[.string ⟨#[46]⟩] 9)).alloc (.cells #[.int .i64 0] 3)):=
  ((((((Below.refl _ w).alloc (Nat.le_refl _) _).alloc (by simp) _).alloc (by simp;omega) _).alloc (by simp;omega) _).alloc (by simp;omega) _).alloc (by simp;omega) _
 have b0:=((((((Boxed.new w 22 (.slice none 0 0)).alloc (.cells #[.int .i64 0] 30)).alloc (.cells #[.slice none 0 0] 151)).alloc (.cells #[.string s] 9)).alloc (.cells #[.string ⟨#[46]⟩] 9)).alloc (.cells #[.int .i64 0] 3));have b1:=(((((Boxed.new (w.alloc (.cells #[.slice none 0 0] 22)) 30 (.int .i64 0)).alloc (.cells #[.slice none 0 0] 151)).alloc (.cells #[.string s] 9)).alloc (.cells #[.string ⟨#[46]⟩] 9)).alloc (.cells #[.int .i64 0] 3));have b2:=((((Boxed.new ((w.alloc (.cells #[.slice none 0 0] 22)).alloc (.cells #[.int .i64 0] 30)) 151 (.slice none 0 0)).alloc (.cells #[.string s] 9)).alloc (.cells #[.string ⟨#[46]⟩] 9)).alloc (.cells #[.int .i64 0] 3));have b3:=(((Boxed.new (((w.alloc (.cells #[.slice none 0 0] 22)).alloc (.cells #[.int .i64 0] 30)).alloc (.cells #[.slice none 0 0] 151)) 9 (.string s)).alloc (.cells #[.string ⟨#[46]⟩] 9)).alloc (.cells #[.int .i64 0] 3));have b4:=((Boxed.new ((((w.alloc (.cells #[.slice none 0 0] 22)).alloc (.cells #[.int .i64 0] 30)).alloc (.cells #[.slice none 0 0] 151)).alloc (.cells #[.string s] 9)) 9 (.string ⟨#[46]⟩)).alloc (.cells #[.int .i64 0] 3));have b5:=Boxed.new (((((w.alloc (.cells #[.slice none 0 0] 22)).alloc (.cells #[.int .i64 0] 30)).alloc (.cells #[.slice none 0 0] 151)).alloc (.cells #[.string s] 9)).alloc (.cells #[.string ⟨#[46]⟩] 9)) 3 (.int .i64 0);simp only [World.size_alloc,Nat.add_assoc,Nat.reduceAdd] at b1 b2 b3 b4 b5;obtain ⟨W0,hW0⟩:∃ W0,W0=((((((w.alloc (.cells #[.slice none 0 0] 22)).alloc (.cells #[.int .i64 0] 30)).alloc (.cells #[.slice none 0 0] 151)).alloc (.cells #[.string s] 9)).alloc (.cells #[.string ⟨#[46]⟩] 9)).alloc (.cells #[.int .i64 0] 3)):=⟨_,rfl⟩;have hzW:W0.heap.size=w.heap.size+6:=by rw [hW0];simp only [World.size_alloc]
 rw [←hW0] at hB0 b0 b1 b2 b3 b4 b5 ⊢;clear hW0;refine z4E rfl (by omega) (gf:=284) (lb:=#[.pointer (some ⟨w.heap.size+4,0,none⟩),.pointer (some ⟨w.heap.size+3,0,none⟩),.pointer (some ⟨w.heap.size+5,0,none⟩)]) rfl trivial (enters_of Tryz.func284 (by kernel_rfl) rfl)
  (zcX 3 (by omega) (w.heap.size+3) 46 s (by omega) W0 (by omega) b3 b4 b5) (by omega) (fun h k=>zc1 h k) (fun W l o o' hl ho=>zc2 W o o' (by omega) ho) (fun _=>rfl)
  (OI w) (OX w) (OI.own w _ (by omega)) (fun c=>OX.own w c _ (by omega)) (fun pre W u h=>h.state u)
  ⟨⟨_,[],b2,World.ownsRow_nil _ _ _ _,rfl⟩,b0,b1,⟨_,b3⟩,⟨_,b4⟩,⟨_,b5⟩,hB0⟩
  (fun x=>{tmps:=#[.string s,undef,.pointer (some ⟨w.heap.size,0,none⟩),.pointer (some ⟨w.heap.size+1,0,none⟩),.pointer (some ⟨w.heap.size+2,0,none⟩),.string x,undef,undef,undef,undef,undef,.string s,.func (.func 284) #[] #[.pointer (some ⟨w.heap.size+4,0,none⟩),.pointer (some ⟨w.heap.size+3,0,none⟩),.pointer (some ⟨w.heap.size+5,0,none⟩)],.string x,undef,undef,undef,undef,undef,undef,undef,undef,undef,undef,undef,undef,undef,undef,undef,undef,undef,undef,undef,undef,undef,undef,undef,undef,undef,undef,undef,undef,undef,undef,undef,undef,undef,undef,undef,undef,undef,undef,undef,undef,undef,undef,undef,undef,undef,undef,undef,undef,undef,undef,undef,undef,undef,undef,undef,undef,undef,undef,undef,undef,undef,undef,undef,undef,undef],defers:=[]}) ?assign ?body ?done ?stop
 case assign=>
  intro l x W K hK
  gi_wp2
  exact hK
 case body=>
  rintro l pre x W hI hpre;have hxs:=ziq hpre;have hI1:=Lib.hid hI;cases hn:Od.numL x.data.toList with
  | none=>
   have Hv:=Lib.hid (z2S hn);have Hn:=Lib.hid hn;clear hn hI
   gi_wp2_with (refine ⟨trivial,?_⟩;gi_at_call 141;refine (CallsIn.inRound l (callsIn_wide.2 (z9g x _ (by omega)))).mono ?_;rintro e w1 ⟨rfl,hb1⟩;rw [Hv.out];have hI2:=hI1.out.call hb1;have HI2:=Lib.hid hI2;have c1:=hI2.r.cell;have c2:=hI2.r.frozen;have c3:=hI2.e.cell;have c4:=hI2.e.frozen;have c5:=hI2.e.lt;clear hI2)
   have hI2:=HI2.out;refine ⟨((z4J hb1).trans (KeepsOthers.setCell _ _ _)).trans (KeepsOthers.setCell _ _ _),rfl,?_,?_,?_,?_⟩
   ·exact (hI2.r.set _).kept (grownBy_setCell' _ (w.heap.size+1) _) (by simp)
   ·exact (hI2.e.kept (grownBy_setCell' _ w.heap.size _) (by simp)).set _
   ·exact (hI2.b.setCell (p:=⟨w.heap.size,0,none⟩) (Nat.le_refl _) _).setCell (p:=⟨w.heap.size+1,0,none⟩) (by simp) _
   ·exact ⟨x,by simp,Hn.out⟩
  | some n=>
   have Hv:=Lib.hid (z7J hn);have Hn:=Lib.hid hn;obtain ⟨⟨v,ns,hv,hrow,hns⟩,_⟩:=hI;have hlen:ns.length≤90001:=by
    have:=zeX (pre:=pre) (List.IsPrefix.trans (List.prefix_append _ _) hpre) hns;omega
   have Hns:=Lib.hid hns;have Hv0:=Lib.hid hv;have Hrow:=Lib.hid hrow;clear hn hns hv hrow
   gi_wp2_with (first
    | (refine ⟨trivial,?_⟩;gi_at_call 141;refine (CallsIn.inRound l (callsIn_wide.2 (z9g x _ (by omega)))).mono ?_;rintro e w1 ⟨rfl,hb1⟩;rw [Hv.out];have hv1:=Hv0.out.kept (z0e hb1 none) (by simp);have HR1:=Lib.hid (z1y Hrow.out hb1);have c1:=hv1.cell;have c2:=hv1.frozen;have hz1:=hb1.size)
    | (gi_at_builtin;refine wpListIn_append_own _ rfl _ _ 151 rfl w.heap.size 180 i0 (.int .u64 0) 1 8 Tryz.underlying151 hi0 hz0 hz1' hz2 rfl (by decide) _ _ _ rfl (HR1.out.alloc _) ⟨w1.heap.size,0,none⟩ 1 1 [.int .u64 (n:Int)] rfl rfl (cell_one_new _ _ _) (by simp [Value.oneCell']) (by simp only [maxLen];omega) (by omega) (by have:=hI1.out.b.size;simp;omega) ?_;intro v' w2 hown' hgrow _;obtain ⟨g',cap',rfl⟩:=ownsRow_succ hown';obtain ⟨hv2,hv3,hr2,hk2,hb2⟩:=hv1.appended (by decide) HR1.out (by have:=hI1.out.b.size;omega) (by omega) hown' hgrow;have d1:=hv2.cell;have d2:=hv2.frozen))
   have hI:=hI1.out;have hbb:Below w.heap.size W w1:=hb1.mono hI.b.size;have step:∀ k t u,Boxed W k t u→t≠180→k≠w.heap.size+2→Boxed (w2.setCell ⟨w.heap.size+2,0,none⟩ (.slice (some ⟨g',0,none⟩) (ns.length+1) cap')) k t u:=by
    intro k t u hk ht hne;have h1:Boxed w1 k t u:=hk.kept (z0e hb1 none) (by simp);have h2:Boxed w2 k t u:=(h1.alloc _).kept hgrow (h1.not_row ht HR1.out);exact h2.kept (grownBy_setCell' _ (w.heap.size+2) _) (by intro e;injection e;omega)
   have e1:u64s (ns++[n])=u64s ns++[.int .u64 (n:Int)]:=by simp [u64s]
   refine ⟨(z4J hb1).trans hk2,?_,⟨⟨_,ns++[n],hv3,?_,?_⟩,step _ _ _ hI.r (by decide) (by omega),step _ _ _ hI.e (by decide) (by omega),?_,?_,?_,?_⟩⟩
   ·intro k t u hk hu;rcases hk with rfl|rfl|rfl
    ·obtain ⟨q,hq⟩:=hI.s;have:t=9:=zaN hu hq;subst this;exact step _ _ _ hu (by decide) (by omega)
    ·obtain ⟨q,hq⟩:=hI.p;have:t=9:=zaN hu hq;subst this;exact step _ _ _ hu (by decide) (by omega)
    ·obtain ⟨q,hq⟩:=hI.n;have:t=3:=zaN hu hq;subst this;exact step _ _ _ hu (by decide) (by omega)
   ·rw [e1,List.length_append];exact hr2
   ·rw [List.map_append];exact zdm Hns.out Hn.out
   ·obtain ⟨q,hq⟩:=hI.s;exact ⟨q,step _ _ _ hq (by decide) (by omega)⟩
   ·obtain ⟨q,hq⟩:=hI.p;exact ⟨q,step _ _ _ hq (by decide) (by omega)⟩
   ·obtain ⟨q,hq⟩:=hI.n;exact ⟨q,step _ _ _ hq (by decide) (by omega)⟩
   ·exact (hI.b.trans hbb).trans hb2
 case done=>
  intro W hI hK;have hzW2:w.heap.size+6≤W0.heap.size:=by omega
  clear hzW b0 b1 b2 b3 b4 b5 hB0;obtain ⟨⟨v,ns,hv,hrow,hns⟩,hr,he,_,_,_,hb⟩:=hI;have hnums:Od.z0w (Od.parts 46 s.data.toList)=some ns:=by
   have e:(z1L 46 s).map (·.data.toList)=Od.parts 46 s.data.toList:=by
    unfold z1L;rw [List.map_map];simp [Function.comp_def,mkS]
   rw [←e];exact hns
  have hlen:ns.length≤90001:=by
   have:=zeX (List.prefix_refl (z1L 46 s)) hns;omega
  have henc:Od.enc s.data.toList=if Od.z1q ns then some (Od.bytesOf ns) else none:=by unfold Od.enc;rw [hnums]
  have Henc:=Lib.hid henc;have Hb:=Lib.hid hb;have HK:=Lib.hid hK;have hWz:=hb.size;have htop:=(z3D hnums).2;have badfin:Od.z1q ns=false→z2e s w (.returned (.tuple #[.slice none 0 0,.int .i64 20])) (((W.setCell ⟨w.heap.size,0,none⟩ (.slice none 0 0)).setCell ⟨w.heap.size+1,0,none⟩ (.int .i64 20)).putObj W0.heap.size (.deferred none)):=fun h=>by
   unfold z2e;rw [Henc.out,h];refine ⟨rfl,?_⟩;have h1:=(hb.setCell (p:=⟨w.heap.size,0,none⟩) (Nat.le_refl _) (.slice none 0 0)).setCell (p:=⟨w.heap.size+1,0,none⟩) (by simp) (.int .i64 20);exact h1.grown (grownBy_putObj' _ _ _) h1.size (fun k e=>by injection e;omega)
  have Hbad:=Lib.hid badfin;clear badfin hnums henc hK hns hb;have c0:=hr.cell;have c1:=hr.frozen;have c2:=he.cell;have c3:=he.frozen;have c4:=hv.cell;have k0:=(((hr.set (.slice none 0 0)).kept (grownBy_setCell' _ (w.heap.size+1) (.int .i64 20)) (by simp)).kept (grownBy_putObj' _ W0.heap.size (.deferred none)) (by intro e;injection e;omega)).cell;have k1:=(((he.kept (grownBy_setCell' W w.heap.size (.slice none 0 0)) (by simp)).set (.int .i64 20)).kept (grownBy_putObj' _ W0.heap.size (.deferred none)) (by intro e;injection e;omega)).cell;have HK2:Hid (((W.setCell ⟨w.heap.size,0,none⟩ (.slice none 0 0)).setCell ⟨w.heap.size+1,0,none⟩ (.int .i64 20)).heap[W0.heap.size]? = some (.deferred (some []))):=by
   show _=_;rw [Below.heap_setCell _ _ _ _ (by simp;omega),Below.heap_setCell _ _ _ _ (by simp;omega)];exact HK.out
  have K0:=Lib.hid k0;have K1:=Lib.hid k1;clear k0 k1;by_cases hl2:ns.length<2
  ·have hv':∃ A c,v = .slice A ns.length c:=by
    obtain ⟨A,c,h,_⟩:=z0P hrow;exact ⟨A,c,h⟩
   obtain ⟨A,c,rfl⟩:=hv';have hl2':(ns.length:Int)<2:=by omega
   have hok:Od.z1q ns=false:=by simp [Od.z1q];omega
   have Hok:=Lib.hid hok;clear hok htop;exact z6U
  ·obtain ⟨n0,n1,rest,rfl⟩:=zlL hl2;obtain ⟨g,cap,rfl⟩:=ownsRow_succ hrow;have hg0:W.cell? ⟨g,0,none⟩=some (.int .u64 (n0:Int)):=by
    have:=hrow.cells (g:=g) rfl 0 (.int .u64 (n0:Int)) rfl;simpa [Addr.add] using this
   have hg1:W.cell? ⟨g,1,none⟩=some (.int .u64 (n1:Int)):=by
    have:=hrow.cells (g:=g) rfl 1 (.int .u64 (n1:Int)) rfl;simpa [Addr.add] using this
   have hlr:(n0::n1::rest).length=rest.length+2:=by simp
   rw [hlr] at hlen;have hn0:n0<9223372036854775808:=htop n0 (by simp);have hn1:n1<9223372036854775808:=htop n1 (by simp);have Htop:=Lib.hid htop;have Hrow:=Lib.hid hrow;clear htop hl2 hlr hrow;have hcases:(2<n0∨(n0<2∧40≤n1)∨(n0=2∧9223372036854775728≤n1))∨((n0<2∧n1<40)∨(n0=2∧n1<9223372036854775728)):=by omega
   rcases hcases with hbad|hgood
   ·have hok:Od.z1q (n0::n1::rest)=false:=by
     simp only [Od.z1q,decide_eq_false_iff_not,List.getD_cons_zero,List.getD_cons_succ,Od.top];omega
    have Hok:=Lib.hid hok;clear hok;rcases hbad with hbad|⟨hbad,hb1⟩|⟨rfl,hb1⟩
    ·have hx:(2:Int)<n0:=by omega
     clear hbad hn0 hn1;exact z6U
    ·have hx:¬(2:Int)<n0:=by omega
     have hx2:(n0:Int)<2:=by omega
     have hx3:(40:Int)≤n1:=by omega
     clear hbad hb1 hn0 hn1;exact z6U
    ·have hx3:(9223372036854775728:Int)≤n1:=by omega
     clear hb1 hn0 hn1;exact z6U
   ·have hok:Od.z1q (n0::n1::rest)=true:=by
     simp only [Od.z1q,decide_eq_true_eq,List.getD_cons_zero,List.getD_cons_succ,Od.top,List.length_cons];omega
    have Hok:=Lib.hid hok;clear hok;have h40:40*n0+n1≤9223372036854775807:=by omega
    have h40':(40*(n0:Int)+n1)≤9223372036854775807:=by omega
    have hn00:(n0:Int)≤2:=by omega
    rcases hgood with ⟨hx,hy⟩|⟨hx,hy⟩
    ·have hx1:¬(2:Int)<n0:=by omega
     have hx2:(n0:Int)<2:=by omega
     have hx3:¬(40:Int)≤n1:=by omega
     have hx4:((n0:Int)==2)=false:=by simp;omega
     clear hx hy hn0 hn1
     gi_wp2
     refine wpIn_wide.2 ?_;refine wp_region_still_tail 8 (by kernel_rfl) (by kernel_rfl) ?_;obtain ⟨W2,hW2⟩:∃ W2,W2=W.drew:=⟨_,rfl⟩;have hr2:Boxed W2 w.heap.size 22 (.slice none 0 0):=by rw [hW2];exact hr
     have he2:Boxed W2 (w.heap.size+1) 30 (.int .i64 0):=by rw [hW2];exact he
     have d4:W2.cell? ⟨w.heap.size+2,0,none⟩=some (.slice (some ⟨g,0,none⟩) (rest.length+1+1) cap):=by rw [hW2];exact c4
     have d5:W2.cell? ⟨g,0,none⟩=some (.int .u64 (n0:Int)):=by rw [hW2];exact hg0
     have d6:W2.cell? ⟨g,1,none⟩=some (.int .u64 (n1:Int)):=by rw [hW2];exact hg1
     have Hb2:Hid (Below w.heap.size w W2):=by show Below _ _ _;rw [hW2];exact Hb.out.drew
     have HK3:Hid (W2.heap[W0.heap.size]? = some (.deferred (some []))):=by show _=_;rw [hW2];exact HK.out
     have Hrow2:Hid (W2.ownsRow w.heap.size 180 1 (.slice (some ⟨g,0,none⟩) (rest.length+1+1) cap) (rest.length+1+1) (u64s (n0::n1::rest))):=by show World.ownsRow _ _ _ _ _ _ _;rw [hW2];exact Hrow.out
     change wpStill _ _ W.drew _ _ _;rw [←hW2];have HW2:=Lib.hid hW2;clear hW2 hr he c0 c1 c2 c3 c4 hg0 hg1 Hb HK Hrow HK2 K0 K1 Hbad;simp only [List.take_succ_cons,List.take_zero,List.drop_succ_cons,List.drop_zero];have hlr1:(1:Int)<(rest.length:Int)+1+1:=by omega
     exact zeG
    ·have hx1:¬(2:Int)<n0:=by omega
     have hx2:¬(n0:Int)<2:=by omega
     have hx3:¬(9223372036854775728:Int)≤n1:=by omega
     have hx4:((n0:Int)==2)=true:=by simp;omega
     clear hx hy hn0 hn1
     gi_wp2
     refine wpIn_wide.2 ?_;refine wp_region_still_tail 8 (by kernel_rfl) (by kernel_rfl) ?_;obtain ⟨W2,hW2⟩:∃ W2,W2=W.drew:=⟨_,rfl⟩;have hr2:Boxed W2 w.heap.size 22 (.slice none 0 0):=by rw [hW2];exact hr
     have he2:Boxed W2 (w.heap.size+1) 30 (.int .i64 0):=by rw [hW2];exact he
     have d4:W2.cell? ⟨w.heap.size+2,0,none⟩=some (.slice (some ⟨g,0,none⟩) (rest.length+1+1) cap):=by rw [hW2];exact c4
     have d5:W2.cell? ⟨g,0,none⟩=some (.int .u64 (n0:Int)):=by rw [hW2];exact hg0
     have d6:W2.cell? ⟨g,1,none⟩=some (.int .u64 (n1:Int)):=by rw [hW2];exact hg1
     have Hb2:Hid (Below w.heap.size w W2):=by show Below _ _ _;rw [hW2];exact Hb.out.drew
     have HK3:Hid (W2.heap[W0.heap.size]? = some (.deferred (some []))):=by show _=_;rw [hW2];exact HK.out
     have Hrow2:Hid (W2.ownsRow w.heap.size 180 1 (.slice (some ⟨g,0,none⟩) (rest.length+1+1) cap) (rest.length+1+1) (u64s (n0::n1::rest))):=by show World.ownsRow _ _ _ _ _ _ _;rw [hW2];exact Hrow.out
     change wpStill _ _ W.drew _ _ _;rw [←hW2];have HW2:=Lib.hid hW2;clear hW2 hr he c0 c1 c2 c3 c4 hg0 hg1 Hb HK Hrow HK2 K0 K1 Hbad;simp only [List.take_succ_cons,List.take_zero,List.drop_succ_cons,List.drop_zero];have hlr1:(1:Int)<(rest.length:Int)+1+1:=by omega
     clear hx1 hx2 hx3 hx4;exact zeG
 case stop=>
  rintro c pre W hpre ⟨rfl,hr,he,hb,x,hx,hxn⟩ hK;have hbad:Od.z0w (Od.parts 46 s.data.toList)=none:=by
   refine z9f (p:=x.data.toList) ?_ hxn;have:x∈z1L 46 s:=hpre.subset hx;obtain ⟨p,hp,rfl⟩:=List.mem_map.1 this;simpa [mkS] using hp
  have henc:Od.enc s.data.toList=none:=by unfold Od.enc;rw [hbad]
  gi_wp2
  have hr2:=hr.kept (grownBy_putObj' W W0.heap.size (.deferred none)) (by intro e;injection e;omega);have he2:=he.kept (grownBy_putObj' W W0.heap.size (.deferred none)) (by intro e;injection e;omega);have c0:=hr2.cell;have c1:=he2.cell;refine ⟨by simp,.inl ⟨_,_,rfl,run_takeDeferred hK,?_⟩⟩;refine ⟨.tuple #[.slice none 0 0,.int .i64 20],by simp [results,Tryz.results74,go_sem,c0,c1],?_⟩;unfold z2e;rw [henc];exact ⟨rfl,hb.trans (belowK_b (w:=w) (Nat.le_refl _) W W0.heap.size _ _ (by omega) hK rfl rfl)⟩
end Go.Proofs.YtgmppconibklcaaGreatDoor

namespace Go.Proofs.YtgmppconibklcaaGreatDoor
open Go Go.RowKit
theorem zfh {s b:List UInt8} (h:Od.enc s=some b):b.length≤22+11*s.length:=by
 unfold Od.enc at h;cases hn:Od.z0w (Od.parts 46 s) with
 | none=>rw [hn] at h;cases h
 | some l=>
  rw [hn] at h;replace h:(if Od.z1q l=true then some (Od.bytesOf l) else none)=some b:=h;split at h
  ·injection h with h;subst h;have h1:=(z3D hn).1;have h2:=Od.z2P 46 s;have h3:=Od.z33 (40*l.getD 0 0+l.getD 1 0);have h4:∀ l:List Nat,(l.flatMap Od.b128).length≤11*l.length:=by
    intro l;induction l with
    | nil=>simp
    | cons a l ih=>have:=Od.z33 a;simp only [List.flatMap_cons,List.length_append,List.length_cons];omega
   have h5:=h4 (l.drop 2);unfold Od.bytesOf;rw [List.length_append];rw [List.length_drop] at h5;omega
  ·cases h
theorem z1T {fn:Func} {s s2:Tmp} (hr:fn.results=#[.cell s 61,.tmp s2]) (tmps:Array Value) (w:World) {P:Nat} {c0 c1 c2 c3 c4 u:Value} (hB:Blk w P 61 #[c0,c1,c2,c3,c4]) (h4:tmps[s]?.getD undef = .pointer (some ⟨P,0,none⟩)) (h5:tmps[s2]?.getD undef=u):
  (results fn tmps).run Tryz.prog w = .ok (.tuple #[.agg #[c0,c1,c2,c3,c4],u]) w:=by
 obtain ⟨g0,g1,g2,g3,g4,_⟩:=hB.five;simp [results,hr,go_sem,h4,h5,g0,g1,g2,g3,g4]
theorem z6y {s:ByteArray} {w w':World} {e:Ending} (h:z2e s w e w'):∃ A n c E,e = .returned (.tuple #[.slice A n c,.int .i64 E])∧(E==0)=(Od.enc s.data.toList).isSome∧Is w' (Old w) (.slice A n c) (z04 ((Od.enc s.data.toList).getD []))∧Below w.heap.size w w':=by
 unfold z2e at h;split at h
 ·rename_i out ho;obtain ⟨v,rfl,hr,hb⟩:=h;obtain ⟨A,c,rfl,_⟩:=z0P hr;exact ⟨A,_,c,0,rfl,by rw [ho];rfl,by rw [ho];exact z1x hr (fun g hg=>hg),hb⟩
 ·rename_i ho;obtain ⟨rfl,hb⟩:=h;exact ⟨none,0,0,20,rfl,by rw [ho];rfl,by rw [ho];exact Is.z1U _ _,hb⟩
theorem zid {p:Prop} (h:p:=by
  rw [←HOB.out];exact (H9.out.set5 (by show w.heap.size<_;exact hws) _ _ _ _ _).less (fun b hb _=>Nat.lt_of_lt_of_le hb (Nat.le_of_lt hws))):p:=h
theorem z8L (s:ByteArray) (w:World) (hs:s.size≤90000):
  Calls Tryz.prog 32 #[.string s] w fun e w'=>∃ v,e = .returned (.tuple #[v,.bool (Od.enc s.data.toList).isSome])∧NdAt w' (Old w) v (Dr.prim 6 ((Od.enc s.data.toList).getD []))∧Below w.heap.size w w':=by
 obtain ⟨V,hV⟩:∃ V,V=w.alloc (.cells #[.int .i64 0,.int .i64 0,.bool false,.slice none 0 0,.slice none 0 0] 61):=⟨_,rfl⟩;have HB:Hid (Below w.heap.size w V):=by show Below _ _ _;rw [hV];exact (Below.refl _ w).alloc (Nat.le_refl _) _
 have HK:Hid (Blk V w.heap.size 61 #[.int .i64 0,.int .i64 0,.bool false,.slice none 0 0,.slice none 0 0]):=by show Blk _ _ _ _;rw [hV];exact Blk.new w _ _
 have hsz:=HB.out.size;have HV:=Lib.hid hV;have HL:Hid (((Od.enc s.data.toList).getD []).length≤100000000):=by
  show _≤_;cases h:Od.enc s.data.toList with
  | none=>simp
  | some b=>
   have h1:=zfh h;have h2:s.data.toList.length=s.size:=rfl;show b.length≤_;omega
 clear hV;go_enter Tryz.func32,Tryz.ntmps32
 go_upto_region 1 with fail
 rw [←HV.out]
 go_wp2_with fail
 refine (z6z s V hs).mono ?_;intro e V2 hp;obtain ⟨A,n,c,E,rfl,hE,h2,hb2⟩:=z6y hp;obtain ⟨ob,hob⟩:∃ ob,ob=(Od.enc s.data.toList).getD []:=⟨_,rfl⟩;rw [←hob] at h2 HL;have hn:n≤100000000:=by have:=h2.byteCells.1;have:=HL.out;omega
 have H2:=Lib.hid h2;have HB2:=Lib.hid hb2;have HE:=Lib.hid hE;have HOB:=Lib.hid hob;clear h2 hb2 hp hE hob
 go_wp2_with fail
 refine (z1d 6 A n c ob _ _ H2.out hn).mono ?_;rintro e w9 ⟨v,rfl,h9,hb9⟩;have H9:=Lib.hid h9;obtain ⟨A1,c1,A3,c3,rfl⟩:=h9.form;have HB9:=Lib.hid (HB2.out.trans (hb9.mono HB2.out.size));have HK9:=Lib.hid (HK.out.below HB9.out HK.out.lt);obtain ⟨q0,q1,q2,q3,q4,f0,f1,f2,f3,f4⟩:=HK9.out.five;have hws:w.heap.size<V2.heap.size:=by have h3:=HB2.out.size;have h4:=HK.out.lt;omega
 clear h9 hb9
 go_wp2_with fail
 refine bodyPost_ret (z1T Tryz.results32 _ _ (u:= .bool (E==0)) (HK9.out.set5 _ _ _ _ _) rfl rfl) rfl ⟨_,by rw [←HE.out],?_,?_⟩
 ·exact zid
 ·exact z0y (HB.out.trans (HB9.out.mono hsz)) (Nat.le_refl _) _ _ _ _ _
theorem zdR (s:ByteArray) (w:World) (hs:s.size≤90000):
  Calls Tryz.prog 136 #[.string s] w fun e w'=>∃ v,e = .returned (.tuple #[v,.bool (Od.enc s.data.toList).isSome])∧NdAt w' (Old w) v (Dr.prim 6 ((Od.enc s.data.toList).getD []))∧Below w.heap.size w w':=by
 obtain ⟨V,hV⟩:∃ V,V=w.alloc (.cells #[.int .i64 0,.int .i64 0,.bool false,.slice none 0 0,.slice none 0 0] 61):=⟨_,rfl⟩;have HB:Hid (Below w.heap.size w V):=by show Below _ _ _;rw [hV];exact (Below.refl _ w).alloc (Nat.le_refl _) _
 have HK:Hid (Blk V w.heap.size 61 #[.int .i64 0,.int .i64 0,.bool false,.slice none 0 0,.slice none 0 0]):=by show Blk _ _ _ _;rw [hV];exact Blk.new w _ _
 have hsz:=HB.out.size;have HV:=Lib.hid hV;have HL:Hid (((Od.enc s.data.toList).getD []).length≤100000000):=by
  show _≤_;cases h:Od.enc s.data.toList with
  | none=>simp
  | some b=>
   have h1:=zfh h;have h2:s.data.toList.length=s.size:=rfl;show b.length≤_;omega
 clear hV;go_enter Tryz.func136,Tryz.ntmps136
 go_upto_region 1 with fail
 rw [←HV.out]
 go_wp2_with fail
 refine (z6z s V hs).mono ?_;intro e V2 hp;obtain ⟨A,n,c,E,rfl,hE,h2,hb2⟩:=z6y hp;obtain ⟨ob,hob⟩:∃ ob,ob=(Od.enc s.data.toList).getD []:=⟨_,rfl⟩;rw [←hob] at h2 HL;have hn:n≤100000000:=by have:=h2.byteCells.1;have:=HL.out;omega
 have H2:=Lib.hid h2;have HB2:=Lib.hid hb2;have HE:=Lib.hid hE;have HOB:=Lib.hid hob;clear h2 hb2 hp hE hob
 go_wp2_with fail
 refine (z1d 6 A n c ob _ _ H2.out hn).mono ?_;rintro e w9 ⟨v,rfl,h9,hb9⟩;have H9:=Lib.hid h9;obtain ⟨A1,c1,A3,c3,rfl⟩:=h9.form;have HB9:=Lib.hid (HB2.out.trans (hb9.mono HB2.out.size));have HK9:=Lib.hid (HK.out.below HB9.out HK.out.lt);obtain ⟨q0,q1,q2,q3,q4,f0,f1,f2,f3,f4⟩:=HK9.out.five;have hws:w.heap.size<V2.heap.size:=by have h3:=HB2.out.size;have h4:=HK.out.lt;omega
 clear h9 hb9
 go_wp2_with fail
 refine bodyPost_ret (z1T Tryz.results136 _ _ (u:= .bool (E==0)) (HK9.out.set5 _ _ _ _ _) rfl rfl) rfl ⟨_,by rw [←HE.out],?_,?_⟩
 ·exact zid
 ·exact z0y (HB.out.trans (HB9.out.mono hsz)) (Nat.le_refl _) _ _ _ _ _
end Go.Proofs.YtgmppconibklcaaGreatDoor

namespace Go.Proofs.YtgmppconibklcaaGreatDoor
open Go Go.RowKit
end Go.Proofs.YtgmppconibklcaaGreatDoor

namespace Go.Proofs.YtgmppconibklcaaGreatDoor
open Go Go.RowKit
end Go.Proofs.YtgmppconibklcaaGreatDoor

namespace Go.Proofs.YtgmppconibklcaaGreatDoor
namespace Rq
open Dr
structure Info where
 policy:Bs
 alg:Bs
 impr:Bs
 serial:Nat
 time:Int
 micros:Int
 secs:Int
 millis:Int
 has:Bool
 nonce:Nat
open Classical in
noncomputable def znu (t u:Int):Option Bs:=if h:∃ l,Pr.z29 l=some (t,u) then some h.choose else none
def millN (v:Int):Nd:= .mk 2 0 false (intB v) []
def zo7 (s m:Int):List Nd:=opt (decide (0<s)) (intN s)++opt (decide (0<m)) (millN m)
def accN (s m:Int):List Nd:=opt (decide (0<s∨0<m)) (seq (zo7 s m))
noncomputable def infoNode (i:Info):Nd:=seq (intN 1::oidN i.policy::impN i.alg i.impr::natN i.serial::prim 24 ((znu i.time i.micros).getD [])::(accN i.secs i.millis++opt i.has (natN i.nonce)))
def zbs (i:Info):Bool:=decide (0<Nt.bl i.serial)&&decide (Nt.bl i.serial≤64)&&decide (0≤i.secs)&&decide (i.secs≤1000000)&&decide (0≤i.millis)&&decide (i.millis≤999)&&z0s i.has i.nonce
noncomputable def rightInfo (i:Info):Bool:=z1p i.policy&&z2z i.alg i.impr&&(znu i.time i.micros).isSome&&zbs i
def zkh:List Nd→Option (Int×List Nd)
 | []=>some (0,[])
 | k::t=>if k.cls=0∧k.tag=2 then match intOf k with
   | some v=>if 1≤v∧v≤1000000 then some (v,t) else none
   | none=>none
  else some (0,k::t)
def zki:List Nd→Option (Int×List Nd)
 | []=>some (0,[])
 | k::t=>if k.cls=2∧k.tag=0∧k.cons=false then match intOf (prim 2 k.bytes) with
   | some v=>if 1≤v∧v≤999 then some (v,t) else none
   | none=>none
  else some (0,k::t)
def accOf (n:Nd):Option (Int×Int):=
 match zkh n.kids with
 | none=>none
 | some (s,l)=>match zki l with
  | none=>none
  | some (m,l')=>if l'.isEmpty&&!n.kids.isEmpty then some (s,m) else none
def zmy (l:List Nd):Option ((Int×Int)×List Nd):=
 match l with
 | []=>some ((0,0),[])
 | k::t=>if z0U k 1 2 then match accOf k with
   | some a=>some (a,t)
   | none=>none
  else some ((0,0),k::t)
def z9s (n:Nd):Option Info:=
 if z0U n 5 7&&(intOf (kid n 0)==some 1&&(kid n 0).tag==2) then
  match z2R (kid n 1),z6M (kid n 2),z1z (kid n 3),Pr.z29 (kid n 4).bytes with
  | some policy,some (alg,impr),some serial,some (t,u)=>
   if (kid n 3).tag==2&&((kid n 4).cls==0&&(kid n 4).tag==24) then
    match zmy (n.kids.drop 5) with
    | none=>none
    | some ((s,m),l)=>
     if (z0p l).2.2.isEmpty&&zbs ⟨policy,alg,impr,serial,t,u,s,m,(z0p l).1,(z0p l).2.1⟩ then
      some ⟨policy,alg,impr,serial,t,u,s,m,(z0p l).1,(z0p l).2.1⟩
     else none
   else none
  | _,_,_,_=>none
 else none
end Rq
end Go.Proofs.YtgmppconibklcaaGreatDoor

namespace Go.Proofs.YtgmppconibklcaaGreatDoor
namespace Rq
open Dr
theorem zme:∀ (f k n:Nat),n<128^k→(Od.hiF f n).length≤k
 | 0,k,n,_=>by simp [Od.hiF]
 | f+1,k,n,h=>by
  unfold Od.hiF;split
  ·simp
  ·rename_i h0;cases k with
   | zero=>simp at h;omega
   | succ k=>
    have:=zme f k (n / 128) (by rw [Nat.pow_succ] at h;omega);simp;omega
theorem zjJ {n k:Nat} (h:n<128^(k+1)):(Od.b128 n).length≤k+1:=by
 have:=zme 10 k (n / 128) (by rw [Nat.pow_succ] at h;omega);unfold Od.b128;simp;omega
theorem zmd:∀ (f n:Nat),n<128^f→n<128^(Od.hiF f n).length
 | 0,n,h=>by simpa [Od.hiF] using h
 | f+1,n,h=>by
  unfold Od.hiF;split
  ·rename_i h0;subst h0;simp
  ·have:=zmd f (n / 128) (by rw [Nat.pow_succ] at h;omega);rw [List.length_append,List.length_singleton,Nat.pow_succ];omega
theorem zo1 {n:Nat} (h:n<Od.top):n<128^(Od.b128 n).length:=by
 have:=zmd 10 (n / 128) (by unfold Od.top at h;omega);unfold Od.b128;rw [List.length_append,List.length_singleton,Nat.pow_succ];omega
theorem zaQ (n:Nat):1≤(Od.b128 n).length:=by unfold Od.b128;simp
theorem zmg {n:Nat} (h:n<Od.top):n<10^(Dig.dgs n 1).length:=by
 have h1:=Od.ze2 _ (Od.zaB h);have h2:Od.val (Dig.dgs n 1)=n:=Od.z5b 20 n 1 (by unfold Od.top at h;omega) (by omega)
 rwa [h2] at h1
theorem zjq {n:Nat} (h:n<Od.top):1≤(Dig.dgs n 1).length:=(Dig.zfp 20 n 1 (by unfold Od.top at h;omega) (by omega)).1
theorem zdI:∀ (f m n k:Nat),n<10^m→k≤m→(Dig.dgsF f n k).length≤m
 | 0,m,n,k,_,_=>by simp [Dig.dgsF]
 | f+1,m,n,k,h,hk=>by
  by_cases hh:n=0∧k=0
  ·rw [Dig.z0Q _ _ _ hh];simp
  ·rw [Dig.z1b _ _ _ hh];cases m with
   | zero=>simp at h;omega
   | succ m=>
    have:=zdI f m (n / 10) (k-1) (by rw [Nat.pow_succ] at h;omega) (by omega);simp;omega
theorem zm4 (k:Nat):10^(k+1)+80≤128^(k+1):=by
 induction k with
 | zero=>decide
 | succ k ih=>rw [Nat.pow_succ 10,Nat.pow_succ 128];omega
theorem zlE {n:Nat} (h:n<Od.top):(Od.b128 n).length≤(Dig.dgs n 1).length:=by
 have h1:=zmg h;have h2:=zjq h;obtain ⟨k,hk⟩:∃ k,(Dig.dgs n 1).length=k+1:=⟨_,(Nat.sub_add_cancel h2).symm⟩;rw [hk] at h1 ⊢;have:=zm4 k;exact zjJ (by omega)
theorem zh7 {a b:Nat} (h:b<Od.top) (ha:a=2∨a<2∧b<40):(Od.b128 (40*a+b)).length≤(Dig.dgs b 1).length:=by
 have h1:=zmg h;have h2:=zjq h;obtain ⟨k,hk⟩:∃ k,(Dig.dgs b 1).length=k+1:=⟨_,(Nat.sub_add_cancel h2).symm⟩;rw [hk] at h1 ⊢;have:=zm4 k;exact zjJ (by omega)
theorem zfn {n m:Nat} (h:n<Od.top) (hm:m≤n):(Dig.dgs m 1).length≤3*(Od.b128 n).length:=by
 have h1:=zo1 h;have h2:=zaQ n;refine zdI 20 _ m 1 ?_ (by omega);have h3:128^(Od.b128 n).length≤1000^(Od.b128 n).length:=Nat.pow_le_pow_left (by decide) _;have h4:10^(3*(Od.b128 n).length)=1000^(Od.b128 n).length:=by rw [Nat.pow_mul]
 rw [h4];omega
def tot (ps:List (List UInt8)):Nat:=(ps.map List.length).sum
theorem z6R (p:List UInt8) (ps:List (List UInt8)):tot (p::ps)=p.length+tot ps:=by simp [tot]
theorem ze5:∀ (ps:List (List UInt8)),tot ps≤(Od.join ps).length
 | []=>by simp [tot]
 | [p]=>by simp [tot,Od.join]
 | p::q::ps=>by
  have:=ze5 (q::ps);rw [z6R,Od.join_cons _ (by simp),List.length_append,List.length_cons];omega
theorem zc9:∀ {l:List Nat},(∀ x∈l,x<Od.top)→(l.flatMap Od.b128).length≤tot (l.map (Dig.dgs · 1))
 | [],_=>by simp
 | a::l,h=>by
  have h1:=zlE (h a (by simp));have h2:=zc9 (l:=l) (fun x hx=>h x (by simp [hx]));rw [List.flatMap_cons,List.map_cons,z6R,List.length_append];omega
theorem enc_le {s b:Bs} (h:Od.enc s=some b):b.length≤s.length:=by
 unfold Od.enc at h;cases hn:Od.z0w (Od.parts 46 s) with
 | none=>rw [hn] at h;cases h
 | some l=>
  rw [hn] at h;replace h:(if Od.z1q l=true then some (Od.bytesOf l) else none)=some b:=h;split at h
  ·rename_i hok;injection h with h;subst h;obtain ⟨h1,h2⟩:=Od.z4T _ _ hn;have h3:=ze5 (Od.parts 46 s);rw [Od.z9p,h1] at h3;unfold Od.z1q at hok;have hok:=of_decide_eq_true hok;match l,hok,h2,h3 with
   | a::b::l,hok,h2,h3=>
    simp only [List.getD_cons_zero,List.getD_cons_succ] at hok;have e1:=zh7 (a:=a) (b:=b) (h2 b (by simp)) (by omega);have e2:=zc9 (l:=l) (fun x hx=>h2 x (by simp [hx]));rw [List.map_cons,List.map_cons,z6R,z6R] at h3;simp only [Od.bytesOf,List.getD_cons_zero,List.getD_cons_succ,List.drop_succ_cons,List.drop_zero,List.length_append];omega
   | [_],hok,_,_=>simp at hok
   | [],hok,_,_=>simp at hok
  ·cases h
theorem zhn:∀ {l:List Nat},(∀ x∈l,x<Od.top)→(Od.z0H l).length≤4*(l.flatMap Od.b128).length
 | [],_=>by simp [Od.z0H]
 | a::l,h=>by
  have h1:=zfn (h a (by simp)) (Nat.le_refl _);have h2:=zhn (l:=l) (fun x hx=>h x (by simp [hx]));have h3:=zaQ a;rw [Od.z0H,List.flatMap_cons,List.length_cons,List.length_append,List.length_append];omega
theorem zfr {b t:Bs} (h:Od.decO b=some t):t.length≤4*b.length+1:=by
 obtain ⟨g,gs,hd,rfl⟩:=Od.z8c h;obtain ⟨h1,h2⟩:=Od.z4q b 0 _ (by decide) hd;rw [Od.z2t,List.nil_append] at h1;have e1:(Dig.dgs (Od.fst2 g) 1).length≤1:=zdI 20 1 _ 1 (by unfold Od.fst2;split<;>omega) (Nat.le_refl _);have e2:=zfn (m:=g-40*Od.fst2 g) (h2 g (by simp)) (by omega);have e3:=zhn (l:=gs) (fun x hx=>h2 x (by simp [hx]));have e4:=zaQ g;rw [h1,List.flatMap_cons,Od.z0m,List.length_append,List.length_append,List.length_cons,List.length_append];omega
theorem z8F (s:Bs):wt (oidN s)≤s.length+10:=by
 unfold oidN;rw [z3j];cases h:Od.enc s with
 | none=>simp
 | some b=>have:=enc_le h;simp;omega
theorem wt_ex (e:Ex):wt (exN e)≤e.oid.length+e.val.length+41:=by
 have h1:=z8F e.oid;unfold exN;rw [zaZ];cases e.crit
 ·simp only [Bool.false_eq_true,if_false,wts,z3j];omega
 ·simp only [if_true,wts,z3j,List.length_cons,List.length_nil];omega
theorem z2V (e:Ex) (l:List Ex):z42 (e::l)=1+e.oid.length+e.val.length+z42 l:=by simp [z42]
theorem zhg (l:List Ex):wts (l.map exN)≤z42 l+40*l.length:=by
 induction l with
 | nil=>simp [wts]
 | cons e l ih=>
  have h1:=wt_ex e;rw [List.map_cons,wts,z2V,List.length_cons];omega
theorem zhf (alg impr:Bs):wt (impN alg impr)≤alg.length+impr.length+40:=by
 have:=z8F alg;unfold impN;rw [zaZ,wts,wts,wts,zaZ,wts,wts,z3j];omega
theorem z9N {q:Req} (h:Nt.bl q.nonce≤160):wt (node q)≤z2r q+40*q.exts.length+130:=by
 have h2:=z8F q.policy;have h3:=zms h;have h4:=zhg q.exts;have o1:=ze1 (!q.policy.isEmpty) (oidN q.policy);have o2:=ze1 q.has (natN q.nonce);have o3:=ze1 q.cert z1u;have o4:=ze1 (!q.exts.isEmpty) (ctxN q.exts);have e3:wt z1u=11:=by unfold z1u;rw [z3j];rfl
 have e4:wt (ctxN q.exts)=wts (q.exts.map exN)+10:=by unfold ctxN;rw [wt];simp;omega
 have e5:wt (intN 1)=11:=by unfold intN;rw [z3j];rfl
 have e6:=zhf q.alg q.impr;unfold node z1B z2r;rw [zaZ,wts,wts,z5P,z5P,z5P];omega
theorem zkZ {has:Bool} {n:Nat} (h:z0s has n=true):Nt.bl n≤160:=by
 unfold z0s at h;simp only [Bool.and_eq_true,decide_eq_true_eq] at h;exact h.1
theorem z2O {q:Req} (h:z0i q=true):Nt.bl q.nonce≤160:=by
 unfold z0i at h;simp only [Bool.and_eq_true] at h;exact zkZ h.1.2
theorem z3a {q:Req} (h:z0i q=true):q.exts.length≤32:=by
 unfold z0i z0N at h;simp only [Bool.and_eq_true,decide_eq_true_eq] at h;exact h.2.1.1
theorem z69 {q:Req} (h:z0i q=true) (hz:z2r q≤16000000):∃ o,put (node q)=some o∧write (node q)=(o,0)∧o.length≤z2r q+1410:=by
 have hb:=z2O h;have hr:=zgc h;unfold right at hr;obtain ⟨o,ho⟩:=Option.isSome_iff_exists.1 hr;have hw:=z9N hb;have hl:=z3a h;have hp:=zdh _ ho (by omega);have hd:=zjr q hb;refine ⟨o,ho,?_,by omega⟩;unfold write;rw [ho];simp only;rw [if_neg (by omega),if_neg (by omega)]
theorem zas (c t:Int) (k:Bool) (n:Nat):2≤(head c t k n).length:=by
 have:1≤(lenB n).length:=by unfold lenB;split<;>simp
 unfold head;rw [List.length_cons];omega
mutual
theorem put_wt:∀ (n:Nd) {o:List UInt8},put n=some o→wt n≤5*o.length
 | .mk c t k b l,o,h=>by
  rw [put] at h;split at h
  ·split at h
   ·rename_i bs hbs;have h1:=zij l hbs;split at h
    ·cases h
    ·injection h with h;subst h;have h3:=zas c t k (b++bs.flatten).length;obtain ⟨H,hH⟩:∃ H,H=head c t k (b++bs.flatten).length:=⟨_,rfl⟩;rw [←hH] at h3 ⊢;rw [wt,List.length_append,List.length_append];omega
   ·cases h
  ·cases h
theorem zij:∀ (l:List Nd) {o:List (List UInt8)},puts l=some o→wts l≤5*o.flatten.length
 | [],o,h=>by rw [wts];omega
 | n::l,o,h=>by
  rw [puts] at h;split at h
  ·rename_i b hb;split at h
   ·rename_i bs hbs;injection h with h;subst h;have h1:=put_wt n hb;have h2:=zij l hbs;rw [wts,List.flatten_cons,List.length_append];omega
   ·cases h
  ·cases h
end
theorem zhe {l:List Nd} {x:Nd} (h:x∈l):wt x≤wts l:=by
 induction l with
 | nil=>cases h
 | cons a l ih=>
  rw [wts];rcases List.mem_cons.1 h with rfl|h
  ·omega
  ·have:=ih h;omega
mutual
theorem mx_wt:∀ n:Nd,mx n≤wt n
 | .mk c t k b l=>by have:=ziJ l;rw [mx,wt];omega
theorem ziJ:∀ l:List Nd,mxs l≤wts l
 | []=>by rw [mxs];omega
 | n::l=>by have h1:=mx_wt n;have h2:=ziJ l;rw [mxs,wts];omega
end
mutual
theorem zaH:∀ n:Nd,10*deep n≤wt n
 | .mk c t k b l=>by have:=zcp l;rw [deep,wt];omega
theorem zcp:∀ l:List Nd,10*z0V l≤wts l
 | []=>by rw [z0V];omega
 | n::l=>by have h1:=zaH n;have h2:=zcp l;rw [z0V,wts];omega
end
structure zaU (q:Req):Prop where
 alg:q.alg.length≤90000
 pol:q.policy.length≤90000
 impr:q.impr.length≤40000
 oid:∀ e∈q.exts,e.oid.length≤90000
 val:∀ e∈q.exts,e.val.length≤40000
 len:q.exts.length≤10000
structure zjR (q:Req):Prop extends zaU q where
 sz:z42 q.exts≤3000000
 node:z0i q=true→wt (node q)≤30000
theorem z9v {l:List Ex} {e:Ex} (h:e∈l):1+e.oid.length+e.val.length≤z42 l:=by
 induction l with
 | nil=>cases h
 | cons a l ih=>
  rw [z2V];rcases List.mem_cons.1 h with rfl|h
  ·omega
  ·have:=ih h;omega
theorem zgK (l:List Ex):l.length≤z42 l:=by
 induction l with
 | nil=>simp
 | cons a l ih=>rw [z2V,List.length_cons];omega
theorem zje {l:List Ex} {m:Nat} (h:∀ e∈l,1+e.oid.length+e.val.length≤m):z42 l≤m*l.length:=by
 induction l with
 | nil=>simp [z42]
 | cons a l ih=>
  have h1:=h a (by simp);have h2:=ih (fun e he=>h e (by simp [he]));rw [z2V,List.length_cons,Nat.mul_add];omega
theorem z4Y {q:Req} (h:z2r q≤6000):zjR q:=by
 have h0:=zgK q.exts;unfold z2r at h;refine ⟨⟨by omega,by omega,by omega,fun e he=>?_,fun e he=>?_,by omega⟩,by omega,fun hr=>?_⟩
 ·have:=z9v he;omega
 ·have:=z9v he;omega
 ·have h1:=z9N (z2O hr);have h2:=z3a hr;unfold z2r at h1;omega
theorem z8t {q:Req} (h:z0i q=true):z2z q.alg q.impr=true∧(q.policy.isEmpty=true∨z1p q.policy=true)∧z0s q.has q.nonce=true∧q.exts.length≤32∧(∀ e∈q.exts,exOk e=true):=by
 unfold z0i z0N at h;simp only [Bool.and_eq_true,Bool.or_eq_true,decide_eq_true_eq,List.all_eq_true] at h;exact ⟨h.1.1.1,h.1.1.2,h.1.2,h.2.1.1,h.2.1.2⟩
end Rq
end Go.Proofs.YtgmppconibklcaaGreatDoor

