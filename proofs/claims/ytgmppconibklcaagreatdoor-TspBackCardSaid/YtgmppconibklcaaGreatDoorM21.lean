/- Part of the proof of TspBack. No condition: lemmas alone. -/
import Derived.Test.YtgmppconibklcaaGreatDoorM20
import Derived.Test.YtgmppconibklcaaGreatDoorM16
import Derived.Test.YtgmppconibklcaaGreatDoorM14
import Derived.Outline
import Derived.StillTailTactics
set_option linter.unusedVariables false
set_option linter.unusedSimpArgs false
namespace Go.Proofs.YtgmppconibklcaaGreatDoor
open Go Go.RowKit Go.Shelf
attribute [local go_sem] Oper.semAt_some

def u64s (l:List Nat):List Value:=l.map fun (n:Nat)=>Value.int .u64 (n:Int)
theorem zcF {ps:List (List UInt8)} {p:List UInt8} {ns:List Nat} {n:Nat} (h:Od.z1b ps=some ns) (hn:Od.numL p=some n):Od.z1b (ps++[p])=some (ns++[n]):=by
 induction ps generalizing ns with
 | nil=>simp [Od.z1b] at h;subst h;simp [Od.z1b,hn]
 | cons q ps ih=>
  rw [List.cons_append];unfold Od.z1b at h ⊢;cases hq:Od.numL q with
  | none=>rw [hq] at h;simp at h
  | some m=>
   rw [hq] at h;cases hp:Od.z1b ps with
   | none=>rw [hp] at h;simp at h
   | some ms=>
    rw [hp] at h;simp only [Option.some.injEq] at h;subst h;rw [ih hp];rfl
theorem zfs {ps:List (List UInt8)} {p:List UInt8} (hp:p∈ps) (h:Od.numL p=none):Od.z1b ps=none:=by
 induction ps with
 | nil=>cases hp
 | cons q ps ih=>
  unfold Od.z1b;rcases List.mem_cons.1 hp with rfl|hp
  ·rw [h]
  ·rw [ih hp];cases Od.numL q<;>rfl
theorem z5X {ps:List (List UInt8)} {ns:List Nat} (h:Od.z1b ps=some ns):ns.length=ps.length∧∀ n∈ns,n<Od.top:=by
 induction ps generalizing ns with
 | nil=>simp [Od.z1b] at h;subst h;simp
 | cons q ps ih=>
  unfold Od.z1b at h;cases hq:Od.numL q with
  | none=>rw [hq] at h;simp at h
  | some m=>
   rw [hq] at h;cases hp:Od.z1b ps with
   | none=>rw [hp] at h;simp at h
   | some ms=>
    rw [hp] at h;simp only [Option.some.injEq] at h;subst h;obtain ⟨h1,h2⟩:=ih hp;refine ⟨by simp [h1],?_⟩;intro x hx;rcases List.mem_cons.1 hx with rfl|hx
    ·unfold Od.numL at hq;split at hq
     ·cases hq
     ·split at hq
      ·split at hq
       ·injection hq with hq;omega
       ·cases hq
      ·cases hq
    ·exact h2 x hx
theorem z1O {A B:World} {row:Option Nat} {k t:Nat} {v:Value} (h:Boxed A k t v) (hg:A.grownBy B row) (hr:∀ r,row=some r→∃ o:Obj,A.heap[r]? = some o∧o.isCells=false):Boxed B k t v:=
 h.kept hg (fun e=>by
  obtain ⟨o,ho,hc⟩:=hr k e.symm;rw [show A.heap[k]? = _ from h] at ho;cases ho;cases hc)
theorem zgT {A B:World} {row:Option Nat} {base e size n:Nat} {v:Value} {xs:List Value} (h:A.ownsRow base e size v n xs) (hg:A.grownBy B row) (hr:∀ r,row=some r→∃ o:Obj,A.heap[r]? = some o∧o.isCells=false):B.ownsRow base e size v n xs:=by
 refine h.kept hg ?_;rcases h.2 with ⟨rfl,_⟩|⟨g,cap,cur,rfl,_,hgb,_⟩
 ·exact .inl rfl
 ·refine .inr fun e'=>?_
  obtain ⟨o,ho,hc⟩:=hr g (by simpa [Value.ownBlock] using e'.symm);rw [hgb] at ho;cases ho;cases hc
structure OI (w:World) (pre:List ByteArray) (W:World):Prop where
 l:∃ v ns,Boxed W (w.heap.size+2) 151 v∧W.ownsRow w.heap.size 180 1 v ns.length (u64s ns)∧Od.z1b (pre.map (·.data.toList))=some ns
 r:Boxed W w.heap.size 22 (.slice none 0 0)
 e:Boxed W (w.heap.size+1) 30 (.int .i64 0)
 s:∃ v,Boxed W (w.heap.size+3) 9 v
 p:∃ v,Boxed W (w.heap.size+4) 9 v
 n:∃ v,Boxed W (w.heap.size+5) 3 v
 b:Below w.heap.size w W
structure OX (w:World) (c:Code) (pre:List ByteArray) (W:World):Prop where
 c:c = .ret
 r:Boxed W w.heap.size 22 (.slice none 0 0)
 e:Boxed W (w.heap.size+1) 30 (.int .i64 20)
 b:Below w.heap.size w W
 x:∃ x∈pre,Od.numL x.data.toList=none
theorem OI.own (w:World) (B:Nat) (hB:w.heap.size≤B):OwnFrom B (OI w):=by
 rintro pre A W row ⟨⟨v,ns,h1,h2,h3⟩,h4,h5,⟨v6,h6⟩,⟨v7,h7⟩,⟨v8,h8⟩,h9⟩ hg hr;have hr':=fun r e=>(hr r e).2
 exact ⟨⟨v,ns,z1O h1 hg hr',zgT h2 hg hr',h3⟩,z1O h4 hg hr',z1O h5 hg hr',⟨v6,z1O h6 hg hr'⟩,⟨v7,z1O h7 hg hr'⟩,⟨v8,z1O h8 hg hr'⟩,
  h9.grown hg h9.size (fun k e=>Nat.le_trans hB (hr k e).1)⟩
theorem OX.own (w:World) (c:Code) (B:Nat) (hB:w.heap.size≤B):OwnFrom B (OX w c):=by
 rintro pre A W row ⟨h1,h2,h3,h4,h5⟩ hg hr;have hr':=fun r e=>(hr r e).2
 exact ⟨h1,z1O h2 hg hr',z1O h3 hg hr',h4.grown hg h4.size (fun k e=>Nat.le_trans hB (hr k e).1),h5⟩
theorem OI.state {w:World} {pre:List ByteArray} {W:World} (h:OI w pre W) (u:Value):OI w pre (W.setCell ⟨w.heap.size+3,0,none⟩ u):=by
 obtain ⟨⟨v,ns,h1,h2,h3⟩,h4,h5,⟨v6,h6⟩,⟨v7,h7⟩,⟨v8,h8⟩,h9⟩:=h;have hg:=grownBy_setCell' W (w.heap.size+3) u;exact ⟨⟨v,ns,h1.kept hg (by simp),h2.kept hg (.inr (h6.not_row (by decide) h2).symm),h3⟩,h4.kept hg (by simp),h5.kept hg (by simp),⟨u,h6.set u⟩,⟨v7,h7.kept hg (by simp)⟩,⟨v8,h8.kept hg (by simp)⟩,
  h9.setCell (p:=⟨w.heap.size+3,0,none⟩) (by simp) u⟩
theorem OI.call {w:World} {pre:List ByteArray} {W W1:World} (h:OI w pre W) (hb:Below W.heap.size W W1):OI w pre W1:=
 OI.own w w.heap.size (Nat.le_refl _) pre W W1 none h (z0c hb none) (fun r e=>by cases e)
theorem z4N {W W1:World} (hb:Below W.heap.size W W1):KeepsOthers W W1:=KeepsOthers.of_grownBy (z0c hb none) (fun j o ej hj=>by cases ej)
theorem zaK (s sep:ByteArray) (w:World):
  Calls Tryz.prog 140 #[.string s,.string sep] w fun e w'=>e = .returned (.func (.func 284) #[] #[.pointer (some ⟨w.heap.size+1,0,none⟩),.pointer (some ⟨w.heap.size,0,none⟩),.pointer (some ⟨w.heap.size+2,0,none⟩)]) ∧
   w'=((w.alloc (.cells #[.string s] 9)).alloc (.cells #[.string sep] 9)).alloc (.cells #[.int .i64 0] 3):=by
 go_enter Tryz.func140,Tryz.ntmps140
 go_wp2
 go_ret
 exact ⟨rfl,rfl⟩
end Go.Proofs.YtgmppconibklcaaGreatDoor

namespace Go.Proofs.YtgmppconibklcaaGreatDoor
open Go Go.RowKit Go.Shelf
attribute [local go_sem] Oper.semAt_some

theorem zju:(Tryz.prog.info? 180).map (fun i=>(i.zero,i.size,i.bytes))=some (some (.int .u64 0),1,8):=by kernel_rfl
def z4r (s:ByteArray) (w:World) (e:Ending) (w':World):Prop:=
 match Od.enc s.data.toList with
 | some out=>∃ v,e = .returned (.tuple #[v,.int .i64 0])∧w'.ownsRow w.heap.size 5 1 v out.length (Lib.byteCells out)∧Below w.heap.size w w'
 | none=>e = .returned (.tuple #[.slice none 0 0,.int .i64 20])∧Below w.heap.size w w'
theorem zdU (w:World) (base:Nat):w.ownsRow base 5 1 (.slice none 0 0) (List.length ([]:List UInt8)) (Lib.byteCells []):=World.ownsRow_nil _ _ _ _
theorem zdP (a:Int) (n:Nat) (v:Value) (l0:List UInt8) (base:Nat) (w:World) (ha:a=n) (hown:w.ownsRow base 5 1 v l0.length (Lib.byteCells l0)) (hbase:base≤w.heap.size) (hl0:l0.length≤1000000)
  (h0:(n:Int)≤18446744073709551615):
  Calls Tryz.prog 142 #[v,.int .u64 a] w fun e w'=>∃ v',e = .returned v'∧AppB base w w' v v' (l0++Od.b128 n):=by
 subst ha;exact zlj n v l0 base w hown hbase hl0 h0
theorem z2u {A B:World} (h:A.grownBy B none):Below A.heap.size A B:=⟨h.os,h.tape,h.output,h.size,fun k hk=>h.block k hk (by simp)⟩
theorem z9j {A B:World} {p:Addr} {v:Value} (hb:Below A.heap.size A B) (h:A.cell? p=some v):B.cell? p=some v:=
 (hb.cell (World.block_lt_of_cell? A p h)).trans h
def accB (n0 n1:Nat) (l:List Nat):List UInt8:=Od.b128 (40*n0+n1)++l.flatMap Od.b128
theorem z88 (n0 n1:Nat) (l:List Nat):(accB n0 n1 l).length≤11+11*l.length:=by
 unfold accB;have h1:=Od.z3U (40*n0+n1);have h2:∀ l:List Nat,(l.flatMap Od.b128).length≤11*l.length:=by
  intro l;induction l with
  | nil=>simp
  | cons a l ih=>have:=Od.z3U a;simp only [List.flatMap_cons,List.length_append,List.length_cons];omega
 have:=h2 l;rw [List.length_append];omega
theorem zc5 (n0 n1:Nat) {l:List Nat} {k:Nat} (h:k<l.length):accB n0 n1 (l.take (k+1))=accB n0 n1 (l.take k)++Od.b128 l[k]:=by
 unfold accB;rw [List.take_succ_eq_append_getElem h,List.flatMap_append];simp
theorem two_of {ns:List Nat} (h:¬ns.length<2):∃ n0 n1 rest,ns=n0::n1::rest:=by
 match ns,h with
 | [],h=>simp at h
 | [_],h=>simp at h
 | n0::n1::rest,_=>exact ⟨n0,n1,rest,rfl⟩
theorem zac {W:World} {k t t':Nat} {u u':Value} (h:Boxed W k t u) (h':Boxed W k t' u'):t=t':=by
 have:=(show W.heap[k]? = _ from h).symm.trans (show W.heap[k]? = _ from h');simp at this;exact this.2
theorem zgR {c:UInt8} {s:ByteArray} {pre:List ByteArray} {x:ByteArray} (h:(pre++[x]) <+: z1M c s):x.size≤s.size:=by
 have hx:x∈z1M c s:=h.subset (by simp);obtain ⟨p,hp,rfl⟩:=List.mem_map.1 hx;have:=Od.z5s p hp;rw [Lib.size_eq,Lib.size_eq s];simpa [mkS] using this
theorem ze0 {c:UInt8} {s:ByteArray} {pre:List ByteArray} {ns:List Nat} (h:pre <+: z1M c s) (hn:Od.z1b (pre.map (·.data.toList))=some ns):ns.length≤s.size+1:=by
 have h1:=(z5X hn).1;have h2:=h.length_le;have h3:=Od.z4h c s.data.toList;unfold z1M at h2;rw [List.length_map] at h2 h1;rw [Lib.size_eq];omega
theorem z2S {s:ByteArray} {w w':World} {out:List UInt8} {v:Value} (h:Od.enc s.data.toList=some out) (hr:w'.ownsRow w.heap.size 5 1 v out.length (Lib.byteCells out)) (hb:Below w.heap.size w w'):z4r s w (.returned (.tuple #[v,.int .i64 0])) w':=by
 unfold z4r;rw [h];exact ⟨v,rfl,hr,hb⟩
set_option maxRecDepth 100000 in
set_option maxHeartbeats 4000000 in
theorem z6r (s:ByteArray) (w:World) (hs:s.size≤90000):
  Calls Tryz.prog 74 #[.string s] w (z4r s w):=by
 obtain ⟨i0,hi0,hz0,hz1',hz2⟩:=info_parts zju;refine (callsIn_wide (n:=4)).1 ?_;refine callsIn_of_wp_marks Tryz.func74 rfl trivial ?_ rfl;simp only [Tryz.ntmps74,List.size_toArray,List.length_cons,List.length_nil,Nat.reduceAdd,Nat.reduceSub,Array.replicate_succ,Array.replicate_zero,List.push_toArray,List.append_toArray,List.nil_append,List.cons_append]
 gi_wp2_with (refine ⟨trivial,?_⟩;gi_at_call 140;refine (callsIn_wide.2 (zaK _ _ _)).mono ?_;rintro e w' ⟨rfl,rfl⟩)
 simp only [Nat.add_assoc,Nat.reduceAdd];have hB0:Below w.heap.size w ((((((w.alloc (.cells #[.slice none 0 0] 22)).alloc (.cells #[.int .i64 0] 30)).alloc (.cells #[.slice none 0 0] 151)).alloc (.cells #[.string s] 9)).alloc (.cells #[.string ⟨#[46]⟩] 9)).alloc (.cells #[.int .i64 0] 3)):=
  ((((((Below.refl _ w).alloc (Nat.le_refl _) _).alloc (by simp) _).alloc (by simp;omega) _).alloc (by simp;omega) _).alloc (by simp;omega) _).alloc (by simp;omega) _
 have b0:=((((((Boxed.new w 22 (.slice none 0 0)).alloc (.cells #[.int .i64 0] 30)).alloc (.cells #[.slice none 0 0] 151)).alloc (.cells #[.string s] 9)).alloc (.cells #[.string ⟨#[46]⟩] 9)).alloc (.cells #[.int .i64 0] 3));have b1:=(((((Boxed.new (w.alloc (.cells #[.slice none 0 0] 22)) 30 (.int .i64 0)).alloc (.cells #[.slice none 0 0] 151)).alloc (.cells #[.string s] 9)).alloc (.cells #[.string ⟨#[46]⟩] 9)).alloc (.cells #[.int .i64 0] 3));have b2:=((((Boxed.new ((w.alloc (.cells #[.slice none 0 0] 22)).alloc (.cells #[.int .i64 0] 30)) 151 (.slice none 0 0)).alloc (.cells #[.string s] 9)).alloc (.cells #[.string ⟨#[46]⟩] 9)).alloc (.cells #[.int .i64 0] 3));have b3:=(((Boxed.new (((w.alloc (.cells #[.slice none 0 0] 22)).alloc (.cells #[.int .i64 0] 30)).alloc (.cells #[.slice none 0 0] 151)) 9 (.string s)).alloc (.cells #[.string ⟨#[46]⟩] 9)).alloc (.cells #[.int .i64 0] 3));have b4:=((Boxed.new ((((w.alloc (.cells #[.slice none 0 0] 22)).alloc (.cells #[.int .i64 0] 30)).alloc (.cells #[.slice none 0 0] 151)).alloc (.cells #[.string s] 9)) 9 (.string ⟨#[46]⟩)).alloc (.cells #[.int .i64 0] 3));have b5:=Boxed.new (((((w.alloc (.cells #[.slice none 0 0] 22)).alloc (.cells #[.int .i64 0] 30)).alloc (.cells #[.slice none 0 0] 151)).alloc (.cells #[.string s] 9)).alloc (.cells #[.string ⟨#[46]⟩] 9)) 3 (.int .i64 0);simp only [World.size_alloc,Nat.add_assoc,Nat.reduceAdd] at b1 b2 b3 b4 b5;obtain ⟨W0,hW0⟩:∃ W0,W0=((((((w.alloc (.cells #[.slice none 0 0] 22)).alloc (.cells #[.int .i64 0] 30)).alloc (.cells #[.slice none 0 0] 151)).alloc (.cells #[.string s] 9)).alloc (.cells #[.string ⟨#[46]⟩] 9)).alloc (.cells #[.int .i64 0] 3)):=⟨_,rfl⟩;have hzW:W0.heap.size=w.heap.size+6:=by rw [hW0];simp only [World.size_alloc]
 rw [←hW0] at hB0 b0 b1 b2 b3 b4 b5 ⊢;clear hW0;refine z4H rfl (by omega) (gf:=284) (lb:=#[.pointer (some ⟨w.heap.size+4,0,none⟩),.pointer (some ⟨w.heap.size+3,0,none⟩),.pointer (some ⟨w.heap.size+5,0,none⟩)]) rfl trivial (enters_of Tryz.func284 (by kernel_rfl) rfl)
  (zcr 3 (by omega) (w.heap.size+3) 46 s (by omega) W0 (by omega) b3 b4 b5) (by omega) (fun h k=>zbq h k) (fun W l o o' hl ho=>zbr W o o' (by omega) ho) (fun _=>rfl)
  (OI w) (OX w) (OI.own w _ (by omega)) (fun c=>OX.own w c _ (by omega)) (fun pre W u h=>h.state u)
  ⟨⟨_,[],b2,World.ownsRow_nil _ _ _ _,rfl⟩,b0,b1,⟨_,b3⟩,⟨_,b4⟩,⟨_,b5⟩,hB0⟩
  (fun x=>{tmps:=#[.string s,undef,.pointer (some ⟨w.heap.size,0,none⟩),.pointer (some ⟨w.heap.size+1,0,none⟩),.pointer (some ⟨w.heap.size+2,0,none⟩),.string x,undef,undef,undef,undef,undef,.string s,.func (.func 284) #[] #[.pointer (some ⟨w.heap.size+4,0,none⟩),.pointer (some ⟨w.heap.size+3,0,none⟩),.pointer (some ⟨w.heap.size+5,0,none⟩)],.string x,undef,undef,undef,undef,undef,undef,undef,undef,undef,undef,undef,undef,undef,undef,undef,undef,undef,undef,undef,undef,undef,undef,undef,undef,undef,undef,undef,undef,undef,undef,undef,undef,undef,undef,undef,undef,undef,undef,undef,undef,undef,undef,undef,undef,undef,undef,undef,undef,undef,undef,undef,undef,undef,undef,undef,undef,undef,undef,undef,undef,undef,undef,undef,undef,undef],defers:=[]}) ?assign ?body ?done ?stop
 case assign=>
  intro l x W K hK
  gi_wp2
  exact hK
 case body=>
  rintro l pre x W hI hpre;have hxs:=zgR hpre;have hI1:=Lib.hid hI;cases hn:Od.numL x.data.toList with
  | none=>
   have Hv:=Lib.hid (z2E hn);have Hn:=Lib.hid hn;clear hn hI
   gi_wp2_with (refine ⟨trivial,?_⟩;gi_at_call 141;refine (CallsIn.inRound l (callsIn_wide.2 (z8S x _ (by omega)))).mono ?_;rintro e w1 ⟨rfl,hb1⟩;rw [Hv.out];have hI2:=hI1.out.call hb1;have HI2:=Lib.hid hI2;have c1:=hI2.r.cell;have c2:=hI2.r.frozen;have c3:=hI2.e.cell;have c4:=hI2.e.frozen;have c5:=hI2.e.lt;clear hI2)
   have hI2:=HI2.out;refine ⟨((z4N hb1).trans (KeepsOthers.setCell _ _ _)).trans (KeepsOthers.setCell _ _ _),rfl,?_,?_,?_,?_⟩
   ·exact (hI2.r.set _).kept (grownBy_setCell' _ (w.heap.size+1) _) (by simp)
   ·exact (hI2.e.kept (grownBy_setCell' _ w.heap.size _) (by simp)).set _
   ·exact (hI2.b.setCell (p:=⟨w.heap.size,0,none⟩) (Nat.le_refl _) _).setCell (p:=⟨w.heap.size+1,0,none⟩) (by simp) _
   ·exact ⟨x,by simp,Hn.out⟩
  | some n=>
   have Hv:=Lib.hid (z7t hn);have Hn:=Lib.hid hn;obtain ⟨⟨v,ns,hv,hrow,hns⟩,_⟩:=hI;have hlen:ns.length≤90001:=by
    have:=ze0 (pre:=pre) (List.IsPrefix.trans (List.prefix_append _ _) hpre) hns;omega
   have Hns:=Lib.hid hns;have Hv0:=Lib.hid hv;have Hrow:=Lib.hid hrow;clear hn hns hv hrow
   gi_wp2_with (first
    | (refine ⟨trivial,?_⟩;gi_at_call 141;refine (CallsIn.inRound l (callsIn_wide.2 (z8S x _ (by omega)))).mono ?_;rintro e w1 ⟨rfl,hb1⟩;rw [Hv.out];have hv1:=Hv0.out.kept (z0c hb1 none) (by simp);have HR1:=Lib.hid (z1U Hrow.out hb1);have c1:=hv1.cell;have c2:=hv1.frozen;have hz1:=hb1.size)
    | (gi_at_builtin;refine wpListIn_append_own _ rfl _ _ 151 rfl w.heap.size 180 i0 (.int .u64 0) 1 8 Tryz.underlying151 hi0 hz0 hz1' hz2 rfl (by decide) _ _ _ rfl (HR1.out.alloc _) ⟨w1.heap.size,0,none⟩ 1 1 [.int .u64 (n:Int)] rfl rfl (cell_one_new _ _ _) (by simp [Value.oneCell']) (by simp only [maxLen];omega) (by omega) (by have:=hI1.out.b.size;simp;omega) ?_;intro v' w2 hown' hgrow _;obtain ⟨g',cap',rfl⟩:=ownsRow_succ hown';obtain ⟨hv2,hv3,hr2,hk2,hb2⟩:=hv1.appended (by decide) HR1.out (by have:=hI1.out.b.size;omega) (by omega) hown' hgrow;have d1:=hv2.cell;have d2:=hv2.frozen))
   have hI:=hI1.out;have hbb:Below w.heap.size W w1:=hb1.mono hI.b.size;have step:∀ k t u,Boxed W k t u→t≠180→k≠w.heap.size+2→Boxed (w2.setCell ⟨w.heap.size+2,0,none⟩ (.slice (some ⟨g',0,none⟩) (ns.length+1) cap')) k t u:=by
    intro k t u hk ht hne;have h1:Boxed w1 k t u:=hk.kept (z0c hb1 none) (by simp);have h2:Boxed w2 k t u:=(h1.alloc _).kept hgrow (h1.not_row ht HR1.out);exact h2.kept (grownBy_setCell' _ (w.heap.size+2) _) (by intro e;injection e;omega)
   have e1:u64s (ns++[n])=u64s ns++[.int .u64 (n:Int)]:=by simp [u64s]
   refine ⟨(z4N hb1).trans hk2,?_,⟨⟨_,ns++[n],hv3,?_,?_⟩,step _ _ _ hI.r (by decide) (by omega),step _ _ _ hI.e (by decide) (by omega),?_,?_,?_,?_⟩⟩
   ·intro k t u hk hu;rcases hk with rfl|rfl|rfl
    ·obtain ⟨q,hq⟩:=hI.s;have:t=9:=zac hu hq;subst this;exact step _ _ _ hu (by decide) (by omega)
    ·obtain ⟨q,hq⟩:=hI.p;have:t=9:=zac hu hq;subst this;exact step _ _ _ hu (by decide) (by omega)
    ·obtain ⟨q,hq⟩:=hI.n;have:t=3:=zac hu hq;subst this;exact step _ _ _ hu (by decide) (by omega)
   ·rw [e1,List.length_append];exact hr2
   ·rw [List.map_append];exact zcF Hns.out Hn.out
   ·obtain ⟨q,hq⟩:=hI.s;exact ⟨q,step _ _ _ hq (by decide) (by omega)⟩
   ·obtain ⟨q,hq⟩:=hI.p;exact ⟨q,step _ _ _ hq (by decide) (by omega)⟩
   ·obtain ⟨q,hq⟩:=hI.n;exact ⟨q,step _ _ _ hq (by decide) (by omega)⟩
   ·exact (hI.b.trans hbb).trans hb2
 case done=>
  intro W hI hK;have hzW2:w.heap.size+6≤W0.heap.size:=by omega
  clear hzW b0 b1 b2 b3 b4 b5 hB0;obtain ⟨⟨v,ns,hv,hrow,hns⟩,hr,he,_,_,_,hb⟩:=hI;have hnums:Od.z1b (Od.parts 46 s.data.toList)=some ns:=by
   have e:(z1M 46 s).map (·.data.toList)=Od.parts 46 s.data.toList:=by
    unfold z1M;rw [List.map_map];simp [Function.comp_def,mkS]
   rw [←e];exact hns
  have hlen:ns.length≤90001:=by
   have:=ze0 (List.prefix_refl (z1M 46 s)) hns;omega
  have henc:Od.enc s.data.toList=if Od.z3L ns then some (Od.bytesOf ns) else none:=by unfold Od.enc;rw [hnums]
  have Henc:=Lib.hid henc;have Hb:=Lib.hid hb;have HK:=Lib.hid hK;have hWz:=hb.size;have htop:=(z5X hnums).2;have badfin:Od.z3L ns=false→z4r s w (.returned (.tuple #[.slice none 0 0,.int .i64 20])) (((W.setCell ⟨w.heap.size,0,none⟩ (.slice none 0 0)).setCell ⟨w.heap.size+1,0,none⟩ (.int .i64 20)).putObj W0.heap.size (.deferred none)):=fun h=>by
   unfold z4r;rw [Henc.out,h];refine ⟨rfl,?_⟩;have h1:=(hb.setCell (p:=⟨w.heap.size,0,none⟩) (Nat.le_refl _) (.slice none 0 0)).setCell (p:=⟨w.heap.size+1,0,none⟩) (by simp) (.int .i64 20);exact h1.grown (grownBy_putObj' _ _ _) h1.size (fun k e=>by injection e;omega)
  have Hbad:=Lib.hid badfin;clear badfin hnums henc hK hns hb;have c0:=hr.cell;have c1:=hr.frozen;have c2:=he.cell;have c3:=he.frozen;have c4:=hv.cell;have k0:=(((hr.set (.slice none 0 0)).kept (grownBy_setCell' _ (w.heap.size+1) (.int .i64 20)) (by simp)).kept (grownBy_putObj' _ W0.heap.size (.deferred none)) (by intro e;injection e;omega)).cell;have k1:=(((he.kept (grownBy_setCell' W w.heap.size (.slice none 0 0)) (by simp)).set (.int .i64 20)).kept (grownBy_putObj' _ W0.heap.size (.deferred none)) (by intro e;injection e;omega)).cell;have HK2:Hid (((W.setCell ⟨w.heap.size,0,none⟩ (.slice none 0 0)).setCell ⟨w.heap.size+1,0,none⟩ (.int .i64 20)).heap[W0.heap.size]? = some (.deferred (some []))):=by
   show _=_;rw [Below.heap_setCell _ _ _ _ (by simp;omega),Below.heap_setCell _ _ _ _ (by simp;omega)];exact HK.out
  have K0:=Lib.hid k0;have K1:=Lib.hid k1;clear k0 k1;by_cases hl2:ns.length<2
  ·have hv':∃ A c,v = .slice A ns.length c:=by
    obtain ⟨A,c,h,_⟩:=z0K hrow;exact ⟨A,c,h⟩
   obtain ⟨A,c,rfl⟩:=hv';have hl2':(ns.length:Int)<2:=by omega
   have hok:Od.z3L ns=false:=by simp [Od.z3L];omega
   have Hok:=Lib.hid hok;clear hok htop
   gi_wp2
   have k0:=K0.out;have k1:=K1.out;refine ⟨by simp,.inl ⟨_,_,rfl,run_takeDeferred HK2.out,?_⟩⟩;exact ⟨.tuple #[.slice none 0 0,.int .i64 20],by simp [results,Tryz.results74,go_sem,k0,k1],Hbad.out Hok.out⟩
  ·obtain ⟨n0,n1,rest,rfl⟩:=two_of hl2;obtain ⟨g,cap,rfl⟩:=ownsRow_succ hrow;have hg0:W.cell? ⟨g,0,none⟩=some (.int .u64 (n0:Int)):=by
    have:=hrow.cells (g:=g) rfl 0 (.int .u64 (n0:Int)) rfl;simpa [Addr.add] using this
   have hg1:W.cell? ⟨g,1,none⟩=some (.int .u64 (n1:Int)):=by
    have:=hrow.cells (g:=g) rfl 1 (.int .u64 (n1:Int)) rfl;simpa [Addr.add] using this
   have hlr:(n0::n1::rest).length=rest.length+2:=by simp
   rw [hlr] at hlen;have hn0:n0<9223372036854775808:=htop n0 (by simp);have hn1:n1<9223372036854775808:=htop n1 (by simp);have Htop:=Lib.hid htop;have Hrow:=Lib.hid hrow;clear htop hl2 hlr hrow;have hcases:(2<n0∨(n0<2∧40≤n1)∨(n0=2∧9223372036854775728≤n1))∨((n0<2∧n1<40)∨(n0=2∧n1<9223372036854775728)):=by omega
   rcases hcases with hbad|hgood
   ·have hok:Od.z3L (n0::n1::rest)=false:=by
     simp only [Od.z3L,decide_eq_false_iff_not,List.getD_cons_zero,List.getD_cons_succ,Od.top];omega
    have Hok:=Lib.hid hok;clear hok;rcases hbad with hbad|⟨hbad,hb1⟩|⟨rfl,hb1⟩
    ·have hx:(2:Int)<n0:=by omega
     clear hbad hn0 hn1
     gi_wp2
     have k0:=K0.out;have k1:=K1.out;refine ⟨by simp,.inl ⟨_,_,rfl,run_takeDeferred HK2.out,?_⟩⟩;exact ⟨.tuple #[.slice none 0 0,.int .i64 20],by simp [results,Tryz.results74,go_sem,k0,k1],Hbad.out Hok.out⟩
    ·have hx:¬(2:Int)<n0:=by omega
     have hx2:(n0:Int)<2:=by omega
     have hx3:(40:Int)≤n1:=by omega
     clear hbad hb1 hn0 hn1
     gi_wp2
     have k0:=K0.out;have k1:=K1.out;refine ⟨by simp,.inl ⟨_,_,rfl,run_takeDeferred HK2.out,?_⟩⟩;exact ⟨.tuple #[.slice none 0 0,.int .i64 20],by simp [results,Tryz.results74,go_sem,k0,k1],Hbad.out Hok.out⟩
    ·have hx3:(9223372036854775728:Int)≤n1:=by omega
     clear hb1 hn0 hn1
     gi_wp2
     have k0:=K0.out;have k1:=K1.out;refine ⟨by simp,.inl ⟨_,_,rfl,run_takeDeferred HK2.out,?_⟩⟩;exact ⟨.tuple #[.slice none 0 0,.int .i64 20],by simp [results,Tryz.results74,go_sem,k0,k1],Hbad.out Hok.out⟩
   ·have hok:Od.z3L (n0::n1::rest)=true:=by
     simp only [Od.z3L,decide_eq_true_eq,List.getD_cons_zero,List.getD_cons_succ,Od.top,List.length_cons];omega
    have Hok:=Lib.hid hok;clear hok;have h40:40*n0+n1≤9223372036854775807:=by omega
    have h40':(40*(n0:Int)+n1)≤9223372036854775807:=by omega
    have hn00:(n0:Int)≤2:=by omega
    rcases hgood with ⟨hx,hy⟩|⟨hx,hy⟩
    ·have hx1:¬(2:Int)<n0:=by omega
     have hx2:(n0:Int)<2:=by omega
     have hx3:¬(40:Int)≤n1:=by omega
     have hx4:((n0:Int)==2)=false:=by simp;omega
     clear hx hy hn0 hn1
     gi_wp2
     refine wpIn_wide.2 ?_;refine wp_region_still_tail 8 (by kernel_rfl) (by kernel_rfl) ?_;obtain ⟨W2,hW2⟩:∃ W2,W2=W.drew:=⟨_,rfl⟩;have hr2:Boxed W2 w.heap.size 22 (.slice none 0 0):=by rw [hW2];exact hr
     have he2:Boxed W2 (w.heap.size+1) 30 (.int .i64 0):=by rw [hW2];exact he
     have d4:W2.cell? ⟨w.heap.size+2,0,none⟩=some (.slice (some ⟨g,0,none⟩) (rest.length+1+1) cap):=by rw [hW2];exact c4
     have d5:W2.cell? ⟨g,0,none⟩=some (.int .u64 (n0:Int)):=by rw [hW2];exact hg0
     have d6:W2.cell? ⟨g,1,none⟩=some (.int .u64 (n1:Int)):=by rw [hW2];exact hg1
     have Hb2:Hid (Below w.heap.size w W2):=by show Below _ _ _;rw [hW2];exact Hb.out.drew
     have HK3:Hid (W2.heap[W0.heap.size]? = some (.deferred (some []))):=by show _=_;rw [hW2];exact HK.out
     have Hrow2:Hid (W2.ownsRow w.heap.size 180 1 (.slice (some ⟨g,0,none⟩) (rest.length+1+1) cap) (rest.length+1+1) (u64s (n0::n1::rest))):=by show World.ownsRow _ _ _ _ _ _ _;rw [hW2];exact Hrow.out
     change wpStill _ _ W.drew _ _ _;rw [←hW2];have HW2:=Lib.hid hW2;clear hW2 hr he c0 c1 c2 c3 c4 hg0 hg1 Hb HK Hrow HK2 K0 K1 Hbad;simp only [List.take_succ_cons,List.take_zero,List.drop_succ_cons,List.drop_zero];have hlr1:(1:Int)<(rest.length:Int)+1+1:=by omega
     repeat still_step
     refine wpStill_nil ?_
     go_wp2_with fail
     rw [←HW2.out];have hz2:=Hb2.out.size;refine (zdP _ (40*n0+n1) _ _ _ _ (by omega) (zdU W2 w.heap.size) hz2 (Nat.zero_le _) (by omega)).mono ?_;rintro e W3 ⟨v3,rfl,A3⟩;have HA3:=Lib.hid A3;have hr2':=Lib.hid hr2;have he2':=Lib.hid he2;have hb3:=z2u A3.grown;have HB3:=Lib.hid hb3;have hr3:=hr2.kept (z0c hb3 none) (by simp);have he3:=he2.kept (z0c hb3 none) (by simp);have f4:W3.cell? ⟨w.heap.size+2,0,none⟩=some (.slice (some ⟨g,0,none⟩) (rest.length+1+1) cap):=z9j hb3 d4;have Hrow3:=Lib.hid (z1U Hrow2.out hb3);clear A3 hb3 d4 d5 d6 hr2 he2
     go_wp2_with fail
     by_cases hc:cap=2
     ·have hrl:rest.length=0:=by
       have h1:=Hrow2.out.2;rcases h1 with ⟨h1,_⟩|⟨g',cap',cur,h1,_,_,h2,_⟩
       ·cases h1
       ·injection h1 with _ _ h3;omega
      obtain rfl:rest=[]:=List.eq_nil_of_length_eq_zero hrl;clear hrl;subst hc
      gi_wp2
      gi_loopw [8,70] (fun t8 t70 wr=>∃ (k:Nat) (v1:Value),v1=t8∧t70 = .int .i64 k∧k≤0∧Hid (AppB w.heap.size W2 wr (.slice none 0 0) v1 (accB n0 n1 ([]:List Nat)))) (fun _ t70 _=>0-(intOf t70).toNat)
      case atStart=>exact ⟨0,v3,rfl,rfl,Nat.zero_le _,by have:=HA3.out;simpa [accB,Hid] using this⟩
      case round=>
       clear hr3 he3 f4;obtain ⟨k,v1,rfl,rfl,hk,HA⟩:=hrel;have hbr:=Lib.hid (z2u HA.out.grown);have hzr:=hbr.out.size;by_cases hlt:k<0
       ·exfalso;omega
       ·have hr4:=hr2'.out.kept (z0c hbr.out none) (by simp);have he4:=he2'.out.kept (z0c hbr.out none) (by simp);have p0:=hr4.cell;have p1:=hr4.frozen;have p2:=he4.cell;have p3:=he4.frozen;have Hr4:=Lib.hid hr4;have He4:=Lib.hid he4;clear hr4 he4;have hv1:∃ A c,v1 = .slice A (accB n0 n1 ([]:List Nat)).length c:=by
         obtain ⟨A,c,h,_⟩:=z0K HA.out.own;exact ⟨A,c,h⟩
        obtain ⟨A,c,rfl⟩:=hv1
        gi_wp2
        have HAf:=HA.out;have hrow9:=HAf.own;have n0':=(Hr4.out).not_row (by decide) hrow9;have n1':=(He4.out).not_row (by decide) hrow9;have q0:=((Hr4.out.set (.slice A (accB n0 n1 ([]:List Nat)).length c)).kept (grownBy_setCell' _ (w.heap.size+1) (.int .i64 0)) (by simp)).kept (grownBy_putObj' _ W0.heap.size (.deferred none)) (by intro e;injection e;omega);have q1:=((He4.out.kept (grownBy_setCell' _ w.heap.size (.slice A (accB n0 n1 ([]:List Nat)).length c)) (by simp)).set (.int .i64 0)).kept (grownBy_putObj' _ W0.heap.size (.deferred none)) (by intro e;injection e;omega);have x0:=q0.cell;have x1:=q1.cell;have hK9:((wr.setCell ⟨w.heap.size,0,none⟩ (.slice A (accB n0 n1 ([]:List Nat)).length c)).setCell ⟨w.heap.size+1,0,none⟩ (.int .i64 0)).heap[W0.heap.size]? = some (.deferred (some [])):=by
         rw [Below.heap_setCell _ _ _ _ (by simp;omega),Below.heap_setCell _ _ _ _ (by simp;omega),hbr.out.block _ (Array.getElem?_eq_some_iff.1 HK3.out).1];exact HK3.out
        refine ⟨by simp,.inl ⟨_,_,rfl,run_takeDeferred hK9,?_⟩⟩;refine ⟨.tuple #[.slice A (accB n0 n1 ([]:List Nat)).length c,.int .i64 0],by simp [results,Tryz.results74,go_sem,x0,x1],?_⟩;have hbz:Below w.heap.size w wr:=Hb2.out.trans (hbr.out.mono hz2);have hb9:=(hbz.setCell (p:=⟨w.heap.size,0,none⟩) (Nat.le_refl _) (.slice A (accB n0 n1 ([]:List Nat)).length c)).setCell (p:=⟨w.heap.size+1,0,none⟩) (by simp) (.int .i64 0);refine z2S (out:=accB n0 n1 ([]:List Nat)) (by rw [Henc.out,Hok.out];simp [Od.bytesOf,accB]) ?_ (hb9.grown (grownBy_putObj' _ _ _) hb9.size (fun k e=>by injection e;omega));exact ownsRow_putObj ((hrow9.kept (grownBy_setCell' _ _ _) (.inr n0'.symm)).kept (grownBy_setCell' _ _ _) (.inr n1'.symm)) _ hK9 rfl
     ·gi_wp2
      gi_loopw [8,70] (fun t8 t70 wr=>∃ (k:Nat) (v1:Value),v1=t8∧t70 = .int .i64 k∧k≤rest.length∧Hid (AppB w.heap.size W2 wr (.slice none 0 0) v1 (accB n0 n1 (rest.take k)))) (fun _ t70 _=>rest.length-(intOf t70).toNat)
      case atStart=>exact ⟨0,v3,rfl,rfl,Nat.zero_le _,by have:=HA3.out;simpa [accB,Hid] using this⟩
      case round=>
       clear hr3 he3 f4;obtain ⟨k,v1,rfl,rfl,hk,HA⟩:=hrel;have hbr:=Lib.hid (z2u HA.out.grown);have hzr:=hbr.out.size;by_cases hlt:k<rest.length
       ·have hcell:wr.cell? ⟨g,2+k,none⟩=some (.int .u64 (rest[k]:Int)):=by
         have h1:=(z1U Hrow2.out hbr.out).cells (g:=g) rfl (2+k) (.int .u64 (rest[k]:Int)) (by simp [u64s,Nat.add_comm 2 k,List.getElem?_eq_getElem hlt])
         rwa [show (⟨g,0,none⟩:Addr).add (2+k)=⟨g,2+k,none⟩ by unfold Addr.add;split<;>simp;omega] at h1
        have hnt:rest[k]<9223372036854775808:=Htop.out rest[k] (by simp);have hal:=z88 n0 n1 (rest.take k);have htl:(rest.take k).length≤k:=List.length_take_le _ _;have Hnext:Hid (∀ v' w',AppB w.heap.size wr w' v1 v' (accB n0 n1 (rest.take k)++Od.b128 rest[k])→AppB w.heap.size W2 w' (.slice none 0 0) v' (accB n0 n1 (rest.take (k+1)))):=fun v' w' h=>by
         rw [zc5 n0 n1 hlt];exact HA.out.trans h
        have hz5:w.heap.size≤wr.heap.size:=by omega
        gi_wp2_with (refine ⟨trivial,?_⟩;gi_at_call 142;refine (callsIn_wide.2 (zdP _ rest[k] _ _ w.heap.size _ rfl HA.out.own hz5 (by omega) (by omega))).mono ?_;rintro e w5 ⟨v5,rfl,A5⟩)
        go_roundw
        case rel=>exact ⟨k+1,v5,rfl,by go_num,by omega,Hnext.out _ _ A5⟩
        case measure=>simp [intOf];omega
       ·have hr4:=hr2'.out.kept (z0c hbr.out none) (by simp);have he4:=he2'.out.kept (z0c hbr.out none) (by simp);have p0:=hr4.cell;have p1:=hr4.frozen;have p2:=he4.cell;have p3:=he4.frozen;have Hr4:=Lib.hid hr4;have He4:=Lib.hid he4;clear hr4 he4;have hv1:∃ A c,v1 = .slice A (accB n0 n1 (rest.take k)).length c:=by
         obtain ⟨A,c,h,_⟩:=z0K HA.out.own;exact ⟨A,c,h⟩
        obtain ⟨A,c,rfl⟩:=hv1
        gi_wp2
        have hk':rest.take k=rest:=List.take_of_length_le (by omega);have HAf:=HA.out;rw [hk'] at HAf;have hrow9:=HAf.own;have n0':=(Hr4.out).not_row (by decide) hrow9;have n1':=(He4.out).not_row (by decide) hrow9;have q0:=((Hr4.out.set (.slice A (accB n0 n1 (rest.take k)).length c)).kept (grownBy_setCell' _ (w.heap.size+1) (.int .i64 0)) (by simp)).kept (grownBy_putObj' _ W0.heap.size (.deferred none)) (by intro e;injection e;omega);have q1:=((He4.out.kept (grownBy_setCell' _ w.heap.size (.slice A (accB n0 n1 (rest.take k)).length c)) (by simp)).set (.int .i64 0)).kept (grownBy_putObj' _ W0.heap.size (.deferred none)) (by intro e;injection e;omega);have x0:=q0.cell;have x1:=q1.cell;have hK9:((wr.setCell ⟨w.heap.size,0,none⟩ (.slice A (accB n0 n1 (rest.take k)).length c)).setCell ⟨w.heap.size+1,0,none⟩ (.int .i64 0)).heap[W0.heap.size]? = some (.deferred (some [])):=by
         rw [Below.heap_setCell _ _ _ _ (by simp;omega),Below.heap_setCell _ _ _ _ (by simp;omega),hbr.out.block _ (Array.getElem?_eq_some_iff.1 HK3.out).1];exact HK3.out
        refine ⟨by simp,.inl ⟨_,_,rfl,run_takeDeferred hK9,?_⟩⟩;refine ⟨.tuple #[.slice A (accB n0 n1 (rest.take k)).length c,.int .i64 0],by simp [results,Tryz.results74,go_sem,x0,x1],?_⟩;have hbz:Below w.heap.size w wr:=Hb2.out.trans (hbr.out.mono hz2);have hb9:=(hbz.setCell (p:=⟨w.heap.size,0,none⟩) (Nat.le_refl _) (.slice A (accB n0 n1 (rest.take k)).length c)).setCell (p:=⟨w.heap.size+1,0,none⟩) (by simp) (.int .i64 0);refine z2S (out:=accB n0 n1 rest) (by rw [Henc.out,Hok.out];simp [Od.bytesOf,accB]) ?_ (hb9.grown (grownBy_putObj' _ _ _) hb9.size (fun k e=>by injection e;omega));rw [hk'] at hK9 ⊢;exact ownsRow_putObj ((hrow9.kept (grownBy_setCell' _ _ _) (.inr n0'.symm)).kept (grownBy_setCell' _ _ _) (.inr n1'.symm)) _ hK9 rfl
    ·have hx1:¬(2:Int)<n0:=by omega
     have hx2:¬(n0:Int)<2:=by omega
     have hx3:¬(9223372036854775728:Int)≤n1:=by omega
     have hx4:((n0:Int)==2)=true:=by simp;omega
     clear hx hy hn0 hn1
     gi_wp2
     refine wpIn_wide.2 ?_;refine wp_region_still_tail 8 (by kernel_rfl) (by kernel_rfl) ?_;obtain ⟨W2,hW2⟩:∃ W2,W2=W.drew:=⟨_,rfl⟩;have hr2:Boxed W2 w.heap.size 22 (.slice none 0 0):=by rw [hW2];exact hr
     have he2:Boxed W2 (w.heap.size+1) 30 (.int .i64 0):=by rw [hW2];exact he
     have d4:W2.cell? ⟨w.heap.size+2,0,none⟩=some (.slice (some ⟨g,0,none⟩) (rest.length+1+1) cap):=by rw [hW2];exact c4
     have d5:W2.cell? ⟨g,0,none⟩=some (.int .u64 (n0:Int)):=by rw [hW2];exact hg0
     have d6:W2.cell? ⟨g,1,none⟩=some (.int .u64 (n1:Int)):=by rw [hW2];exact hg1
     have Hb2:Hid (Below w.heap.size w W2):=by show Below _ _ _;rw [hW2];exact Hb.out.drew
     have HK3:Hid (W2.heap[W0.heap.size]? = some (.deferred (some []))):=by show _=_;rw [hW2];exact HK.out
     have Hrow2:Hid (W2.ownsRow w.heap.size 180 1 (.slice (some ⟨g,0,none⟩) (rest.length+1+1) cap) (rest.length+1+1) (u64s (n0::n1::rest))):=by show World.ownsRow _ _ _ _ _ _ _;rw [hW2];exact Hrow.out
     change wpStill _ _ W.drew _ _ _;rw [←hW2];have HW2:=Lib.hid hW2;clear hW2 hr he c0 c1 c2 c3 c4 hg0 hg1 Hb HK Hrow HK2 K0 K1 Hbad;simp only [List.take_succ_cons,List.take_zero,List.drop_succ_cons,List.drop_zero];have hlr1:(1:Int)<(rest.length:Int)+1+1:=by omega
     clear hx1 hx2 hx3 hx4;repeat still_step
     refine wpStill_nil ?_
     go_wp2_with fail
     rw [←HW2.out];have hz2:=Hb2.out.size;refine (zdP _ (40*n0+n1) _ _ _ _ (by omega) (zdU W2 w.heap.size) hz2 (Nat.zero_le _) (by omega)).mono ?_;rintro e W3 ⟨v3,rfl,A3⟩;have HA3:=Lib.hid A3;have hr2':=Lib.hid hr2;have he2':=Lib.hid he2;have hb3:=z2u A3.grown;have HB3:=Lib.hid hb3;have hr3:=hr2.kept (z0c hb3 none) (by simp);have he3:=he2.kept (z0c hb3 none) (by simp);have f4:W3.cell? ⟨w.heap.size+2,0,none⟩=some (.slice (some ⟨g,0,none⟩) (rest.length+1+1) cap):=z9j hb3 d4;have Hrow3:=Lib.hid (z1U Hrow2.out hb3);clear A3 hb3 d4 d5 d6 hr2 he2
     go_wp2_with fail
     by_cases hc:cap=2
     ·have hrl:rest.length=0:=by
       have h1:=Hrow2.out.2;rcases h1 with ⟨h1,_⟩|⟨g',cap',cur,h1,_,_,h2,_⟩
       ·cases h1
       ·injection h1 with _ _ h3;omega
      obtain rfl:rest=[]:=List.eq_nil_of_length_eq_zero hrl;clear hrl;subst hc
      gi_wp2
      gi_loopw [8,70] (fun t8 t70 wr=>∃ (k:Nat) (v1:Value),v1=t8∧t70 = .int .i64 k∧k≤0∧Hid (AppB w.heap.size W2 wr (.slice none 0 0) v1 (accB n0 n1 ([]:List Nat)))) (fun _ t70 _=>0-(intOf t70).toNat)
      case atStart=>exact ⟨0,v3,rfl,rfl,Nat.zero_le _,by have:=HA3.out;simpa [accB,Hid] using this⟩
      case round=>
       clear hr3 he3 f4;obtain ⟨k,v1,rfl,rfl,hk,HA⟩:=hrel;have hbr:=Lib.hid (z2u HA.out.grown);have hzr:=hbr.out.size;by_cases hlt:k<0
       ·exfalso;omega
       ·have hr4:=hr2'.out.kept (z0c hbr.out none) (by simp);have he4:=he2'.out.kept (z0c hbr.out none) (by simp);have p0:=hr4.cell;have p1:=hr4.frozen;have p2:=he4.cell;have p3:=he4.frozen;have Hr4:=Lib.hid hr4;have He4:=Lib.hid he4;clear hr4 he4;have hv1:∃ A c,v1 = .slice A (accB n0 n1 ([]:List Nat)).length c:=by
         obtain ⟨A,c,h,_⟩:=z0K HA.out.own;exact ⟨A,c,h⟩
        obtain ⟨A,c,rfl⟩:=hv1
        gi_wp2
        have HAf:=HA.out;have hrow9:=HAf.own;have n0':=(Hr4.out).not_row (by decide) hrow9;have n1':=(He4.out).not_row (by decide) hrow9;have q0:=((Hr4.out.set (.slice A (accB n0 n1 ([]:List Nat)).length c)).kept (grownBy_setCell' _ (w.heap.size+1) (.int .i64 0)) (by simp)).kept (grownBy_putObj' _ W0.heap.size (.deferred none)) (by intro e;injection e;omega);have q1:=((He4.out.kept (grownBy_setCell' _ w.heap.size (.slice A (accB n0 n1 ([]:List Nat)).length c)) (by simp)).set (.int .i64 0)).kept (grownBy_putObj' _ W0.heap.size (.deferred none)) (by intro e;injection e;omega);have x0:=q0.cell;have x1:=q1.cell;have hK9:((wr.setCell ⟨w.heap.size,0,none⟩ (.slice A (accB n0 n1 ([]:List Nat)).length c)).setCell ⟨w.heap.size+1,0,none⟩ (.int .i64 0)).heap[W0.heap.size]? = some (.deferred (some [])):=by
         rw [Below.heap_setCell _ _ _ _ (by simp;omega),Below.heap_setCell _ _ _ _ (by simp;omega),hbr.out.block _ (Array.getElem?_eq_some_iff.1 HK3.out).1];exact HK3.out
        refine ⟨by simp,.inl ⟨_,_,rfl,run_takeDeferred hK9,?_⟩⟩;refine ⟨.tuple #[.slice A (accB n0 n1 ([]:List Nat)).length c,.int .i64 0],by simp [results,Tryz.results74,go_sem,x0,x1],?_⟩;have hbz:Below w.heap.size w wr:=Hb2.out.trans (hbr.out.mono hz2);have hb9:=(hbz.setCell (p:=⟨w.heap.size,0,none⟩) (Nat.le_refl _) (.slice A (accB n0 n1 ([]:List Nat)).length c)).setCell (p:=⟨w.heap.size+1,0,none⟩) (by simp) (.int .i64 0);refine z2S (out:=accB n0 n1 ([]:List Nat)) (by rw [Henc.out,Hok.out];simp [Od.bytesOf,accB]) ?_ (hb9.grown (grownBy_putObj' _ _ _) hb9.size (fun k e=>by injection e;omega));exact ownsRow_putObj ((hrow9.kept (grownBy_setCell' _ _ _) (.inr n0'.symm)).kept (grownBy_setCell' _ _ _) (.inr n1'.symm)) _ hK9 rfl
     ·gi_wp2
      gi_loopw [8,70] (fun t8 t70 wr=>∃ (k:Nat) (v1:Value),v1=t8∧t70 = .int .i64 k∧k≤rest.length∧Hid (AppB w.heap.size W2 wr (.slice none 0 0) v1 (accB n0 n1 (rest.take k)))) (fun _ t70 _=>rest.length-(intOf t70).toNat)
      case atStart=>exact ⟨0,v3,rfl,rfl,Nat.zero_le _,by have:=HA3.out;simpa [accB,Hid] using this⟩
      case round=>
       clear hr3 he3 f4;obtain ⟨k,v1,rfl,rfl,hk,HA⟩:=hrel;have hbr:=Lib.hid (z2u HA.out.grown);have hzr:=hbr.out.size;by_cases hlt:k<rest.length
       ·have hcell:wr.cell? ⟨g,2+k,none⟩=some (.int .u64 (rest[k]:Int)):=by
         have h1:=(z1U Hrow2.out hbr.out).cells (g:=g) rfl (2+k) (.int .u64 (rest[k]:Int)) (by simp [u64s,Nat.add_comm 2 k,List.getElem?_eq_getElem hlt])
         rwa [show (⟨g,0,none⟩:Addr).add (2+k)=⟨g,2+k,none⟩ by unfold Addr.add;split<;>simp;omega] at h1
        have hnt:rest[k]<9223372036854775808:=Htop.out rest[k] (by simp);have hal:=z88 n0 n1 (rest.take k);have htl:(rest.take k).length≤k:=List.length_take_le _ _;have Hnext:Hid (∀ v' w',AppB w.heap.size wr w' v1 v' (accB n0 n1 (rest.take k)++Od.b128 rest[k])→AppB w.heap.size W2 w' (.slice none 0 0) v' (accB n0 n1 (rest.take (k+1)))):=fun v' w' h=>by
         rw [zc5 n0 n1 hlt];exact HA.out.trans h
        have hz5:w.heap.size≤wr.heap.size:=by omega
        gi_wp2_with (refine ⟨trivial,?_⟩;gi_at_call 142;refine (callsIn_wide.2 (zdP _ rest[k] _ _ w.heap.size _ rfl HA.out.own hz5 (by omega) (by omega))).mono ?_;rintro e w5 ⟨v5,rfl,A5⟩)
        go_roundw
        case rel=>exact ⟨k+1,v5,rfl,by go_num,by omega,Hnext.out _ _ A5⟩
        case measure=>simp [intOf];omega
       ·have hr4:=hr2'.out.kept (z0c hbr.out none) (by simp);have he4:=he2'.out.kept (z0c hbr.out none) (by simp);have p0:=hr4.cell;have p1:=hr4.frozen;have p2:=he4.cell;have p3:=he4.frozen;have Hr4:=Lib.hid hr4;have He4:=Lib.hid he4;clear hr4 he4;have hv1:∃ A c,v1 = .slice A (accB n0 n1 (rest.take k)).length c:=by
         obtain ⟨A,c,h,_⟩:=z0K HA.out.own;exact ⟨A,c,h⟩
        obtain ⟨A,c,rfl⟩:=hv1
        gi_wp2
        have hk':rest.take k=rest:=List.take_of_length_le (by omega);have HAf:=HA.out;rw [hk'] at HAf;have hrow9:=HAf.own;have n0':=(Hr4.out).not_row (by decide) hrow9;have n1':=(He4.out).not_row (by decide) hrow9;have q0:=((Hr4.out.set (.slice A (accB n0 n1 (rest.take k)).length c)).kept (grownBy_setCell' _ (w.heap.size+1) (.int .i64 0)) (by simp)).kept (grownBy_putObj' _ W0.heap.size (.deferred none)) (by intro e;injection e;omega);have q1:=((He4.out.kept (grownBy_setCell' _ w.heap.size (.slice A (accB n0 n1 (rest.take k)).length c)) (by simp)).set (.int .i64 0)).kept (grownBy_putObj' _ W0.heap.size (.deferred none)) (by intro e;injection e;omega);have x0:=q0.cell;have x1:=q1.cell;have hK9:((wr.setCell ⟨w.heap.size,0,none⟩ (.slice A (accB n0 n1 (rest.take k)).length c)).setCell ⟨w.heap.size+1,0,none⟩ (.int .i64 0)).heap[W0.heap.size]? = some (.deferred (some [])):=by
         rw [Below.heap_setCell _ _ _ _ (by simp;omega),Below.heap_setCell _ _ _ _ (by simp;omega),hbr.out.block _ (Array.getElem?_eq_some_iff.1 HK3.out).1];exact HK3.out
        refine ⟨by simp,.inl ⟨_,_,rfl,run_takeDeferred hK9,?_⟩⟩;refine ⟨.tuple #[.slice A (accB n0 n1 (rest.take k)).length c,.int .i64 0],by simp [results,Tryz.results74,go_sem,x0,x1],?_⟩;have hbz:Below w.heap.size w wr:=Hb2.out.trans (hbr.out.mono hz2);have hb9:=(hbz.setCell (p:=⟨w.heap.size,0,none⟩) (Nat.le_refl _) (.slice A (accB n0 n1 (rest.take k)).length c)).setCell (p:=⟨w.heap.size+1,0,none⟩) (by simp) (.int .i64 0);refine z2S (out:=accB n0 n1 rest) (by rw [Henc.out,Hok.out];simp [Od.bytesOf,accB]) ?_ (hb9.grown (grownBy_putObj' _ _ _) hb9.size (fun k e=>by injection e;omega));rw [hk'] at hK9 ⊢;exact ownsRow_putObj ((hrow9.kept (grownBy_setCell' _ _ _) (.inr n0'.symm)).kept (grownBy_setCell' _ _ _) (.inr n1'.symm)) _ hK9 rfl
 case stop=>
  rintro c pre W hpre ⟨rfl,hr,he,hb,x,hx,hxn⟩ hK;have hbad:Od.z1b (Od.parts 46 s.data.toList)=none:=by
   refine zfs (p:=x.data.toList) ?_ hxn;have:x∈z1M 46 s:=hpre.subset hx;obtain ⟨p,hp,rfl⟩:=List.mem_map.1 this;simpa [mkS] using hp
  have henc:Od.enc s.data.toList=none:=by unfold Od.enc;rw [hbad]
  gi_wp2
  have hr2:=hr.kept (grownBy_putObj' W W0.heap.size (.deferred none)) (by intro e;injection e;omega);have he2:=he.kept (grownBy_putObj' W W0.heap.size (.deferred none)) (by intro e;injection e;omega);have c0:=hr2.cell;have c1:=he2.cell;refine ⟨by simp,.inl ⟨_,_,rfl,run_takeDeferred hK,?_⟩⟩;refine ⟨.tuple #[.slice none 0 0,.int .i64 20],by simp [results,Tryz.results74,go_sem,c0,c1],?_⟩;unfold z4r;rw [henc];exact ⟨rfl,hb.trans (belowK_b (w:=w) (Nat.le_refl _) W W0.heap.size _ _ (by omega) hK rfl rfl)⟩
end Go.Proofs.YtgmppconibklcaaGreatDoor

