/- Part of the proof of TspBack. No condition: lemmas alone. -/
import Derived.Test.YtgmppconibklcaaGreatDoorM39
import Derived.Test.YtgmppconibklcaaGreatDoorM42
import Derived.Test.YtgmppconibklcaaGreatDoorM46
import Derived.WideShapes
import Derived.Test.YtgmppconibklcaaGreatDoorTie
import Derived.Test.YtgmppconibklcaaGreatDoorCards
import Derived.Test.YtgmppconibklcaaGreatDoorM0
import Derived.Test.YtgmppconibklcaaGreatDoorShelf
import Derived.ProofKit
import Derived.OpenShut
import Derived.LaidMore
import Derived.Lay
import Derived.Stop.Joined
import Derived.Lib.LaidU8
import Derived.Test.YtgmppconibklcaaGreatDoorProg
import Derived.HandedShaped
import Derived.SizedLaws
import Derived.Carry
import GoSem.ClaimGoes
import Derived.KernelRfl
set_option linter.unusedVariables false
set_option linter.unusedSimpArgs false
set_option maxRecDepth 100000
namespace Go.Proofs.YtgmppconibklcaaGreatDoor
open Go Go.RowKit Go.WideShapes
namespace Am
section
variable {P:Program} {R:Nat} {t e:TypeId} {ds:List D}
theorem z5Q {k:IntKind} (hu:P.underlying t=some (.int k)) (h:Shp P R t ds):∃ n,ds=[.leaf (.int k n)]∧(Lit.int k n).wf=true:=by
 cases h with
 | int _ k' n h w=>rw [hu] at h;cases h;exact ⟨n,rfl,w⟩
 | _=>simp_all
theorem z6N (hu:P.underlying t=some .bool) (h:Shp P R t ds):∃ b,ds=[.leaf (.bool b)]:=by
 cases h with
 | bool _ b h=>exact ⟨b,rfl⟩
 | _=>simp_all
theorem z7d (hu:P.underlying t=some .string) (h:Shp P R t ds):∃ l:List UInt8,ds=[.leaf (.string ⟨l.toArray⟩)]∧l.length≤R:=by
 cases h with
 | str _ s h w=>exact ⟨s.data.toList,by rw [Array.toArray_toList],by rw [Array.length_toList];exact w⟩
 | _=>simp_all
theorem z7e (hu:P.underlying t=some (.slice e)) (h:Shp P R t ds):∃ xs:List (List D),ds=[.row (P.cellsOf e) xs.flatten]∧(∀ x∈xs,Shp P R e x)∧xs.length*P.bytesOf e≤R:=by
 cases h with
 | slice _ e' xs h hl hs w=>rw [hu] at h;cases h;exact ⟨xs,rfl,hs,w⟩
 | _=>simp_all
theorem z5P {fs:Array Field} (hu:P.underlying t=some (.struct fs)) (h:Shp P R t ds):ds.length=P.cellsOf t∧∀ f∈fs.toList,Shp P R f.type ((ds.drop f.offset).take (P.cellsOf f.type)):=by
 cases h with
 | struct _ fs' ds h hl hs=>rw [hu] at h;cases h;exact ⟨hl,hs⟩
 | _=>simp_all
end
theorem z6S {β:Type} {g:β→List D} {Q:β→Prop}:∀ (xs:List (List D)),(∀ x∈xs,∃ n,x=g n∧Q n)→∃ ns:List β,xs.flatten=ns.flatMap g∧ns.length=xs.length∧∀ n∈ns,Q n
 | [],_=>⟨[],rfl,rfl,fun n h=>by cases h⟩
 | x::r,h=>by
  obtain ⟨n,rfl,hq⟩:=h x List.mem_cons_self;obtain ⟨ns,h1,h2,h3⟩:=z6S r fun y hy=>h y (List.mem_cons_of_mem _ hy)
  exact ⟨n::ns,by rw [List.flatten_cons,h1,List.flatMap_cons],by simp [h2],fun m hm=>by
   rcases List.mem_cons.1 hm with rfl|hm
   ·exact hq
   ·exact h3 m hm⟩
theorem z7K {α:Type} (f:α→D) (l:List α):(l.flatMap fun x=>[f x])=l.map f:=by
 induction l with
 | nil=>rfl
 | cons a l ih=>rw [List.flatMap_cons,ih];rfl
section
variable {R:Nat} {ds:List D}
theorem zdA (h:Shp Tryz.prog R 22 ds):∃ b:List UInt8,ds=[z05 b]∧b.length≤R:=by
 obtain ⟨xs,rfl,h1,h2⟩:=z7e Tryz.underlying22 h;obtain ⟨ns,h3,h4,_⟩:=z6S (g:=fun b:UInt8=>[.leaf (.int .u8 (b.toNat:Int))]) (Q:=fun _=>True) xs fun x hx=>by
  obtain ⟨n,rfl,hw⟩:=z5Q Tryz.underlying5 (h1 x hx);simp only [Lit.wf,Bool.and_eq_true,decide_eq_true_eq] at hw;have e1:IntKind.u8.min=0:=rfl;have e2:IntKind.u8.max=255:=rfl;refine ⟨UInt8.ofNat n.toNat,?_,trivial⟩;have:(UInt8.ofNat n.toNat).toNat=n.toNat:=by rw [UInt8.toNat_ofNat'];omega
  rw [this];have:((n.toNat:Nat):Int)=n:=by omega
  rw [this]
 refine ⟨ns,?_,?_⟩
 ·rw [h3,z7K,show Tryz.prog.cellsOf 5=1 by kernel_rfl];rfl
 ·have:Tryz.prog.bytesOf 5=1:=by kernel_rfl
  rw [this] at h2;omega
theorem zcs {t:TypeId} (hu:Tryz.prog.underlying t=some (.slice 208)) (h:Shp Tryz.prog R t ds):∃ l:List Nat,ds=[nuR .u32 l]∧Nt.Lb l∧l.length≤R:=by
 obtain ⟨xs,rfl,h1,h2⟩:=z7e hu h;obtain ⟨ns,h3,h4,h5⟩:=z6S (g:=fun n:Nat=>[.leaf (.int .u32 (n:Int))]) (Q:=fun n=>n<4294967296) xs fun x hx=>by
  obtain ⟨n,rfl,hw⟩:=z5Q Tryz.underlying208 (h1 x hx);simp only [Lit.wf,Bool.and_eq_true,decide_eq_true_eq] at hw;have e1:IntKind.u32.min=0:=rfl;have e2:IntKind.u32.max=4294967295:=rfl;refine ⟨n.toNat,?_,by omega⟩;have:((n.toNat:Nat):Int)=n:=by omega
  rw [this]
 refine ⟨ns,?_,h5,?_⟩
 ·rw [h3,z7K,show Tryz.prog.cellsOf 208=1 by kernel_rfl];rfl
 ·have:Tryz.prog.bytesOf 208=4:=by kernel_rfl
  rw [this] at h2;omega
theorem len3 {l:List D} (h:l.length=3):∃ a b c,l=[a,b,c]:=by
 match l,h with
 | [a,b,c],_=>exact ⟨a,b,c,rfl⟩
theorem zl7 (h:Shp Tryz.prog R 87 ds):∃ x:Rq.Ex,ds=z3d x∧x.oid.length≤R∧x.val.length≤R:=by
 obtain ⟨h0,h1⟩:=z5P Tryz.underlying87 h;have hc:Tryz.prog.cellsOf 87=3:=by kernel_rfl
 have cs:Tryz.prog.cellsOf 9=1:=by kernel_rfl
 have cb:Tryz.prog.cellsOf 4=1:=by kernel_rfl
 have cu:Tryz.prog.cellsOf 22=1:=by kernel_rfl
 obtain ⟨a,b,c,rfl⟩:=len3 (h0.trans hc);simp [cs,cb,cu] at h1;obtain ⟨ha,hb,hd⟩:=h1;obtain ⟨l,e1,w1⟩:=z7d Tryz.underlying9 ha;obtain ⟨f,e2⟩:=z6N Tryz.underlying4 hb;obtain ⟨v,e3,w3⟩:=zdA hd;cases e1;cases e2;cases e3;exact ⟨⟨l,f,v⟩,rfl,w1,w3⟩
theorem ziR (h:Shp Tryz.prog R 25 ds):∃ l:List Rq.Ex,ds=[exR l]∧l.length≤R∧∀ x∈l,x.oid.length≤R∧x.val.length≤R:=by
 obtain ⟨xs,rfl,h1,h2⟩:=z7e Tryz.underlying25 h;obtain ⟨ns,h3,h4,h5⟩:=z6S (g:=z3d) (Q:=fun x=>x.oid.length≤R∧x.val.length≤R) xs fun x hx=>zl7 (h1 x hx)
 refine ⟨ns,?_,?_,h5⟩
 ·rw [h3,show Tryz.prog.cellsOf 87=3 by kernel_rfl];rfl
 ·have:0<Tryz.prog.bytesOf 87:=of_decide_eq_true (by kernel_rfl);have:=Nat.le_mul_of_pos_right xs.length this;omega
end
theorem zir {w:World} {Av:Nat→Prop}:∀ {us:List Value} {ds:List D},z0v w Av us ds→(∀ d∈ds,DOk d)→RCs (Gw w Av) us (ds.map C.d)
 | us,[],h,_=>by rw [h.zge];exact .nil_
 | us,d::ds,h,ho=>by
  obtain ⟨u,us',rfl,h1,h2⟩:=h.z2k;exact .z0D (z3V h1 (ho d List.mem_cons_self)) (zir h2 fun x hx=>ho x (List.mem_cons_of_mem _ hx))
theorem DOk.nu (k:IntKind) (l:List Nat):DOk (nuR k l):= .row _ _ fun d hd=>by
 simp [nuL] at hd;obtain ⟨x,_,rfl⟩:=hd;exact .leaf _ rfl
theorem DOk.exts (l:List Rq.Ex):DOk (exR l):= .row _ _ fun d hd=>by
 simp [exL,z3d] at hd;obtain ⟨x,_,h⟩:=hd;rcases h with rfl|rfl|rfl
 ·exact .leaf _ rfl
 ·exact .leaf _ rfl
 ·exact .bytes _
def argT:List TypeId:=[3,2,4,9,5,208,22,24,87,25,27,46]
theorem z84:zi5 Tryz.prog argT=true:=by kernel_rfl
section
variable {H:Type} {enc:TypeId×Value→H} {W:World} {b0:Nat} {v:Value} {d:DataW H} {p:List MemPlace}
theorem zdY {t:TypeId} {fs:Array Field} (ht:t∈argT) (hu:Tryz.prog.underlying t=some (.struct fs)) (hv:Value.okWide Tryz.prog W .any b0 t v) (h0:DataW.Trod enc Tryz.prog W 0 (fun _=>true) true t v d p)
  (hz:∀ n∈d.weights Tryz.prog t,n≤reachBytes):∃ us:Array Value,∃ ds,v = .agg us∧z0v W (fun _=>False) us.toList ds∧Shp Tryz.prog reachBytes t ds:=by
 obtain ⟨cs,rfl,_⟩:=okWide_struct hu hv;obtain ⟨fuel,hf⟩:=h0;obtain ⟨ds,h1,h2,_⟩:=z6K z84 fuel t _ _ ht hf hz;exact ⟨cs,ds,rfl,h1,h2⟩
theorem z8j {b0:Nat} (hv:Value.okWide Tryz.prog W .any b0 22 v) (h0:DataW.Trod enc Tryz.prog W 0 (fun _=>true) true 22 v d p)
  (hz:∀ n∈d.weights Tryz.prog 22,n≤reachBytes):∃ b:List UInt8,RE (Gw W fun _=>False) v (rX (z05 b)):=by
 obtain ⟨a,l,c,rfl⟩:=okWide_slice Tryz.underlying22 hv;obtain ⟨fuel,hf⟩:=h0;obtain ⟨ds,h1,h2,_⟩:=z6K z84 fuel _ _ _ (by decide) hf hz;obtain ⟨b,rfl,_⟩:=zdA h2;obtain ⟨u,us,e,h3,_⟩:=h1.z2k;cases e;exact ⟨b,z3V h3 (.bytes _)⟩
theorem len7 {l:List D} (h:l.length=7):∃ a b c d e f g,l=[a,b,c,d,e,f,g]:=by
 match l,h with
 | [a,b,c,d,e,f,g],_=>exact ⟨a,b,c,d,e,f,g,rfl⟩
theorem len10 {l:List D} (h:l.length=10):∃ a b c d e f g i j k,l=[a,b,c,d,e,f,g,i,j,k]:=by
 match l,h with
 | [a,b,c,d,e,f,g,i,j,k],_=>exact ⟨a,b,c,d,e,f,g,i,j,k,rfl⟩
theorem c3:Tryz.prog.cellsOf 3=1:=by kernel_rfl
theorem c64:Tryz.prog.cellsOf 2=1:=by kernel_rfl
theorem cs:Tryz.prog.cellsOf 9=1:=by kernel_rfl
theorem cb:Tryz.prog.cellsOf 4=1:=by kernel_rfl
theorem cu:Tryz.prog.cellsOf 22=1:=by kernel_rfl
theorem cn:Tryz.prog.cellsOf 24=1:=by kernel_rfl
theorem ce:Tryz.prog.cellsOf 25=1:=by kernel_rfl
theorem in64 {n:Int} (h:(Lit.int .i64 n).wf=true): -9223372036854775808≤n∧n≤9223372036854775807:=by
 simp only [Lit.wf,Bool.and_eq_true,decide_eq_true_eq] at h;have e1:IntKind.i64.min = -9223372036854775808:=rfl;have e2:IntKind.i64.max=9223372036854775807:=rfl;omega
theorem zj9 (hv:Value.okWide Tryz.prog W .any b0 27 v) (h0:DataW.Trod enc Tryz.prog W 0 (fun _=>true) true 27 v d p)
  (hz:∀ n∈d.weights Tryz.prog 27,n≤reachBytes):∃ (q:Rq.Req) (ls:List Nat),RE (Gw W fun _=>False) v (reqY q ls)∧Nt.Lb ls∧Nt.vl ls=q.nonce ∧
   q.alg.length≤reachBytes∧q.impr.length≤reachBytes∧q.policy.length≤reachBytes∧ls.length≤reachBytes∧q.exts.length≤reachBytes∧∀ e∈q.exts,e.oid.length≤reachBytes∧e.val.length≤reachBytes:=by
 obtain ⟨us,ds,rfl,h1,h2⟩:=zdY (by decide) Tryz.underlying27 hv h0 hz;obtain ⟨h3,h4⟩:=z5P Tryz.underlying27 h2;obtain ⟨a,b,c,dd,e,f,g,rfl⟩:=len7 (h3.trans (by kernel_rfl));simp [cs,cb,cu,cn,ce] at h4;obtain ⟨g0,g1,g2,g3,g4,g5,g6⟩:=h4;obtain ⟨x0,e0,w0⟩:=z7d Tryz.underlying9 g0;obtain ⟨x1,e1,w1⟩:=zdA g1;obtain ⟨x2,e2,w2⟩:=z7d Tryz.underlying9 g2;obtain ⟨x3,e3⟩:=z6N Tryz.underlying4 g3;obtain ⟨x4,e4,l4,w4⟩:=zcs Tryz.underlying24 g4;obtain ⟨x5,e5⟩:=z6N Tryz.underlying4 g5;obtain ⟨x6,e6,w6,z6⟩:=ziR g6;cases e0;cases e1;cases e2;cases e3;cases e4;cases e5;cases e6;refine ⟨⟨x0,x1,x2,x3,Nt.vl x4,x5,x6⟩,x4,⟨us,rfl,?_⟩,l4,rfl,w0,w1,w2,w4,w6,z6⟩;refine zir h1 fun d hd=>?_
 simp only [List.mem_cons,List.not_mem_nil,or_false] at hd;rcases hd with rfl|rfl|rfl|rfl|rfl|rfl|rfl
 ·exact .leaf _ rfl
 ·exact .bytes _
 ·exact .leaf _ rfl
 ·exact .leaf _ rfl
 ·exact .nu _ _
 ·exact .leaf _ rfl
 ·exact .exts _
theorem zgX (hv:Value.okWide Tryz.prog W .any b0 46 v) (h0:DataW.Trod enc Tryz.prog W 0 (fun _=>true) true 46 v d p)
  (hz:∀ n∈d.weights Tryz.prog 46,n≤reachBytes):∃ (q:Rq.Info) (sl nl:List Nat),RE (Gw W fun _=>False) v (infX q sl nl)∧Nt.Lb sl∧Nt.vl sl=q.serial∧Nt.Lb nl∧Nt.vl nl=q.nonce ∧
   q.policy.length≤reachBytes∧q.alg.length≤reachBytes∧q.impr.length≤reachBytes∧sl.length≤reachBytes∧nl.length≤reachBytes∧(-9223372036854775808≤q.secs∧q.secs≤9223372036854775807)∧(-9223372036854775808≤q.millis∧q.millis≤9223372036854775807):=by
 obtain ⟨us,ds,rfl,h1,h2⟩:=zdY (by decide) Tryz.underlying46 hv h0 hz;obtain ⟨h3,h4⟩:=z5P Tryz.underlying46 h2;obtain ⟨a,b,c,dd,e,f,g,i,j,k,rfl⟩:=len10 (h3.trans (by kernel_rfl));simp [cs,cb,cu,cn,c3,c64] at h4;obtain ⟨g0,g1,g2,g3,g4,g5,g6,g7,g8,g9⟩:=h4;obtain ⟨x0,e0,w0⟩:=z7d Tryz.underlying9 g0;obtain ⟨x1,e1,w1⟩:=z7d Tryz.underlying9 g1;obtain ⟨x2,e2,w2⟩:=zdA g2;obtain ⟨x3,e3,l3,w3⟩:=zcs Tryz.underlying24 g3;obtain ⟨x4,e4,w4⟩:=z5Q Tryz.underlying2 g4;obtain ⟨x5,e5,w5⟩:=z5Q Tryz.underlying3 g5;obtain ⟨x6,e6,w6⟩:=z5Q Tryz.underlying3 g6;obtain ⟨x7,e7,w7⟩:=z5Q Tryz.underlying3 g7;obtain ⟨x8,e8⟩:=z6N Tryz.underlying4 g8;obtain ⟨x9,e9,l9,w9⟩:=zcs Tryz.underlying24 g9;cases e0;cases e1;cases e2;cases e3;cases e4;cases e5;cases e6;cases e7;cases e8;cases e9;refine ⟨⟨x0,x1,x2,Nt.vl x3,x4,x5,x6,x7,x8,Nt.vl x9⟩,x3,x9,⟨us,rfl,?_⟩,l3,rfl,l9,rfl,w0,w1,w2,w3,w9,in64 w6,in64 w7⟩;refine zir h1 fun d hd=>?_
 simp only [List.mem_cons,List.not_mem_nil,or_false] at hd;rcases hd with rfl|rfl|rfl|rfl|rfl|rfl|rfl|rfl|rfl|rfl
 ·exact .leaf _ rfl
 ·exact .leaf _ rfl
 ·exact .bytes _
 ·exact .nu _ _
 ·exact .leaf _ rfl
 ·exact .leaf _ rfl
 ·exact .leaf _ rfl
 ·exact .leaf _ rfl
 ·exact .leaf _ rfl
 ·exact .nu _ _
end
end Am
end Go.Proofs.YtgmppconibklcaaGreatDoor

namespace Go.Proofs.YtgmppconibklcaaGreatDoor
open Go Go.RowKit
open Am in
theorem zaw {W:World} {v0 v1 v3:Value} {q:Rq.Req} {ls:List Nat} {i:Rq.Info} {sl nl:List Nat} {n:Int} {b:List UInt8} (h0:RE (Gw W fun _=>False) v0 (reqY q ls)) (h1:RE (Gw W fun _=>False) v1 (infX i sl nl)) (h3:RE (Gw W fun _=>False) v3 (rX (z05 b)))
  (hz:zmb q ls i sl nl) (hL:Nt.Lb ls) (hv:Nt.vl ls=q.nonce) (hS:Nt.Lb sl) (hsv:Nt.vl sl=i.serial) (hN:Nt.Lb nl) (hnv:Nt.vl nl=i.nonce) (hT:Tabs W):
  Calls Tryz.prog 5 #[v0,v1,.int .i64 n,v3] W fun e W'=>e = .returned (.bool true)∧Below W.heap.size W W':=by
 refine (z0M.calls (zcg (gl:=fun _=>none) q ls i sl nl n b hz hL hv hS hsv hN hnv) W [v0,v1,.int .i64 n,v3] (fun _=>False) hT (fun _ _ h=>by cases h) (.z0D h0 (.z0D h1 (.z0D (.leaf _ rfl) (.z0D h3 .nil_)))) rfl).mono ?_;rintro e w' ⟨v,rfl,hr,hb⟩;have e:v = .bool true:=RD.z16 hr;subst e;exact ⟨rfl,hb⟩
end Go.Proofs.YtgmppconibklcaaGreatDoor

namespace Go.Proofs.YtgmppconibklcaaGreatDoor
open Go Go.ChangeShapes Go.WideShapes Go.ChangeAt Go.RowKit

theorem own:ownKnob Tryz.prog.godebug=none:=by kernel_rfl
def zaG:List (String×DataW Unit):=[("unicode/utf8.acceptRanges",Rows.laid_unicode_utf8_acceptRanges),("unicode/utf8.first",Rows.laid_unicode_utf8_first)]
theorem zgj:zaG=[("unicode/utf8.acceptRanges",Lib.acceptData),("unicode/utf8.first",Lib.firstData)]:=by kernel_rfl
theorem zaF {W:World} (h:laidMetH Tryz.prog zaG W):Lib.Utf8Tabs 1 2 W:=by
 rw [MakeChecks.laidMetH_plain _ _ _ (by kernel_rfl),zgj] at h;exact utf8Tabs_of_reads (ρ:=Tryz.lays260_ren) {Tryz.lays260 with} ⟨by kernel_rfl,by kernel_rfl,by kernel_rfl,by kernel_rfl,by kernel_rfl,by kernel_rfl,by kernel_rfl⟩ (Lib.laidMet.reads h (.tail _ (.head _))) (Lib.laidMet.reads h (.head _))
theorem ziO (os:Os) (args:Array Value):laidMetH Tryz.prog zaG ((World.laidAll Tryz.prog os zaG).forCall (fun _ _=>0) ⟨#[],args,[]⟩).memory:=by
 rw [MakeChecks.laidMetH_plain _ _ _ (by kernel_rfl)];exact laidMet_laidAll _ (by kernel_rfl) (by kernel_rfl)
end Go.Proofs.YtgmppconibklcaaGreatDoor

namespace Go.Proofs.YtgmppconibklcaaGreatDoor
open Go Go.ChangeShapes Go.WideShapes Go.ChangeAt Go.RowKit
theorem z52 {H:Type} {enc:TypeId×Value→H} {a:Assume} {C:Checked} {os:Os} {f:FuncId} {fn:Func} {s:ChangeSpec} {conds:List PathCond} {apart fresh handsOn again:Bool} {X:World→Array Value→Prop}
  (hX:∀ (w w':World) (args:Array Value),w.heap=w'.heap→X w args→X w' args)
  (own:ownKnob C.prog.godebug=none) (started:os.Started) (noInit:C.prog.inits.idxOf? f=none) (hfn:C.prog.funcs[f]? = some fn)
  (witness:∃ (w:World) (tape:Tape) (i:Input),w.os=os∧(w.forCall tape i).Shaped C.prog∧i.vars=[]∧Input.okWide C.prog (w.forCall tape i) .any w.heap.size f i ∧
   ((s.pre enc C.prog fn conds apart (w.forCall tape i).memory i.args∧X (w.forCall tape i).memory i.args)∧sizedMet enc C.prog fn (OpenSpec.ofChange s) apart (w.forCall tape i).memory i.args)∧a.holds C.prog (lone (Frame.enter C.prog f i.args .normal) [] (w.forCall tape i)))
  (contract:∀ (W:World) (base:Nat) (args:Array Value) (ds gs:List (DataW H)) (before:List MemPlace),
   (∀ (j:Nat) t v,fn.params[j]? = some t→args[j]? = some v→Value.okWide C.prog W .any base t v) →
   DataW.Whole enc C.prog fn.params.toList s.vars apart W args.toList ds gs before →
   (DataW.weightsEach C.prog (fn.params.toList++(OpenSpec.ofChange s).bare.plain.varTypes C.prog) (ds++gs)).all (·≤reachBytes)=true →
   X W args→W.ShapedOpen C.prog →
   Calls C.prog f args W fun e W'=>∃ v,e = .returned v∧s.post enc C.prog fn apart fresh handsOn again W args v W'):
  ReturnsInHanded a C os f .any (fun w args=>(s.pre enc C.prog fn conds apart w args∧X w args)∧sizedMet enc C.prog fn (OpenSpec.ofChange s) apart w args) (s.post enc C.prog fn apart fresh handsOn again):=by
 refine returnsInHanded_of_calls own started noInit witness ?_;intro w tape i _ hsh _ hok hpre hholds;obtain ⟨_,_,_,fn',hfn',_,_,_,_,hval⟩:=hok;have e:fn'=fn:=Option.some.inj (hfn'.symm.trans hfn);subst e;obtain ⟨⟨⟨ds,gs,before,hw,hc⟩,hx⟩,hz⟩:=hpre;have hw':=DataW.Whole.of_heap (w':=w.forCall tape i) (by rfl) hw;refine (contract (w.forCall tape i) w.heap.size i.args ds gs before hval hw' (hz.weights hw) (hX _ _ _ (by rfl) hx) hsh).mono fun e W' ⟨v,he,hp⟩=>?_
 subst he;exact ChangeSpec.post_blind hp
end Go.Proofs.YtgmppconibklcaaGreatDoor

namespace Go.Proofs.YtgmppconibklcaaGreatDoor
open Go Go.ChangeShapes Go.WideShapes Go.ChangeAt Go.RowKit
theorem zjs:laidOutB Tryz.prog=true:=by kernel_rfl
set_option maxRecDepth 100000 in
open Am in
theorem z8c (os:Os) (started:os.Started) (H:Type) (enc:TypeId×Value→H):
  ReturnsInHanded {} Tryz.checked os 5 .any (fun w args=>(Rows.tspBackSpec.pre enc Tryz.prog Tryz.f5 [] false w args∧laidMetH Tryz.prog zaG w)∧sizedMet enc Tryz.prog Tryz.f5 (OpenSpec.ofChange Rows.tspBackSpec) false w args)
   (Rows.tspBackSpec.post enc Tryz.prog Tryz.f5 false true false false):=by
 refine z52 (C:=Tryz.checked) (X:=fun w _=>laidMetH Tryz.prog zaG w) (fun _ _ _ hh h=>h.of_heap hh) own started (by kernel_rfl) Tryz.func5
  (ChangeSpec.witness_shaped (enc:=enc) (C:=Tryz.checked) (os:=os) (X:=fun w _=>laidMetH Tryz.prog zaG w) false (World.laidAll Tryz.prog os zaG) #[.agg #[.string ⟨#[]⟩,.slice none 0 0,.string ⟨#[]⟩,.bool false,.slice none 0 0,.bool false,.slice none 0 0],.agg #[.string ⟨#[]⟩,.string ⟨#[]⟩,.slice none 0 0,.slice none 0 0,.int .i64 0,.int .i64 0,.int .i64 0,.int .i64 0,.bool false,.slice none 0 0],.int .i64 0,.slice none 0 0] 8 (World.laidAll_os _ _ _)
   (World.shaped_of_ZipB (by kernel_rfl) (by kernel_rfl)) (by kernel_rfl) (by kernel_rfl) (by kernel_rfl) (ziO os _)) ?_
 intro W base args ds gs before hval0 hW hZ hL hS;have hval:∀ (j:Nat) t v,Tryz.f5.params[j]? = some t→args[j]? = some v→Value.okWide Tryz.prog W .any base t v:=hval0;have hW':=hW;obtain ⟨p,q,hA0,hV,rfl,_,_⟩:=hW;have hA:DataW.TrodAll enc Tryz.prog W 0 (fun _=>true) true Tryz.f5.params.toList args.toList ds p:=hA0;have hZ2:(DataW.weightsEach Tryz.prog (Tryz.f5.params.toList++(OpenSpec.ofChange Rows.tspBackSpec).bare.plain.varTypes Tryz.prog) (ds++gs)).all (·≤reachBytes)=true:=hZ;rw [Tryz.params5] at hA hval hZ2;obtain ⟨v0,v1,v2,v3,d0,d1,d2,d3,p0,p1,p2,p3,rfl,rfl,rfl,h0,h1,h2,h3⟩:=trodAll_four hA;obtain ⟨rfl,rfl⟩:=trodVars_none hV;obtain ⟨r0,l0,a0,lb0,lv0,s1,s2,s3,s4,s5,s6⟩:=zj9 (hval 0 27 v0 rfl rfl) h0 (fun n hn=>by simpa using List.all_eq_true.1 hZ2 n (DataW.weights_mem_each (j:=0) (t:=27) (d:=d0) rfl rfl n hn));obtain ⟨i0,sl,nl,a1,lb1,lv1,lb2,lv2,z1,z2,z3,z4,z5,z6,z7⟩:=zgX (hval 1 46 v1 rfl rfl) h1 (fun n hn=>by simpa using List.all_eq_true.1 hZ2 n (DataW.weights_mem_each (j:=1) (t:=46) (d:=d1) rfl rfl n hn));obtain ⟨x2,rfl,rfl,rfl,w2⟩:=open_int Tryz.underlying3 (hval 2 3 v2 rfl rfl) h2;obtain ⟨b3,a3⟩:=z8j (hval 3 22 v3 rfl rfl) h3 (fun n hn=>by simpa using List.all_eq_true.1 hZ2 n (DataW.weights_mem_each (j:=3) (t:=22) (d:=d3) rfl rfl n hn));have hR:reachBytes≤140737488355328:=by unfold reachBytes;omega
 simp only [List.append_nil] at hW';have hlt:∀ x∈p0++p1++p3,x.block<W.heap.size:=fun x hx=>hW'.lt x (by simpa using hx)
 have hz:zmb r0 l0 i0 sl nl:=⟨by omega,by omega,by omega,by omega,by omega,fun e he=>⟨Nat.le_trans (s6 e he).1 hR,Nat.le_trans (s6 e he).2 hR⟩,by omega,by omega,by omega,by omega,by omega,z6,z7⟩;refine (zaw (n:=x2) a0 a1 a3 hz lb0 lv0 lb1 lv1 lb2 lv2 (zaF hL)).mono fun e W' ⟨he,hb⟩=>?_
 subst he;have st:∀ {t:TypeId} {v:Value} {d:DataW H} {pp:List MemPlace} {sp:Nat→Bool},Tryz.prog.readableRec t=true→t<Tryz.prog.types.size→DataW.Trod enc Tryz.prog W 0 (fun _=>true) true t v d pp→(∀ x∈pp,x∈p0++p1++p3)→(∀ x∈p0++p1++p3,sp x.block=true)→DataW.Trod enc Tryz.prog W' 0 sp true t v d pp:=
  fun hr hrow h hm hsp=>WideElems.Trod_stays zjs hr hrow h (fun x hx=>hb.same (hlt x (hm x hx))) (fun x hx=>hsp x (hm x hx))
 exact ⟨_,rfl,z9F (pa:=p0++p1++p3) (pv:=[]) hW' (fun _ _ _=>trodAll_mk1 (shut_bool Tryz.underlying4 _)) (fun _ hsp=>by
   have:=trodAll_mk4 (st (by kernel_rfl) (of_decide_eq_true (by kernel_rfl)) h0 (fun x hx=>by simp [hx]) hsp) (st (by kernel_rfl) (of_decide_eq_true (by kernel_rfl)) h1 (fun x hx=>by simp [hx]) hsp) (shut_int Tryz.underlying3 w2) (st (by kernel_rfl) (of_decide_eq_true (by kernel_rfl)) h3 (fun x hx=>by simp [hx]) hsp);rw [show p0++(p1++([]++p3))=p0++p1++p3 by simp] at this;exact this) (fun _ _=>rfl) (by simp) hb (ok_one (by kernel_rfl) rfl (okWide_bool_mk Tryz.underlying4 _))⟩
end Go.Proofs.YtgmppconibklcaaGreatDoor

namespace Go.Proofs.YtgmppconibklcaaGreatDoor
open Go
noncomputable def z0w (a n:Nat):Bool:=(List.range' a n).all fun g=>!((Tryz.prog.funcs[g]?).any Func.goes)
theorem still0:z0w 0 30=true:=by kernel_rfl
theorem still1:z0w 30 30=true:=by kernel_rfl
theorem still2:z0w 60 30=true:=by kernel_rfl
theorem still3:z0w 90 30=true:=by kernel_rfl
theorem still4:z0w 120 30=true:=by kernel_rfl
theorem still5:z0w 150 30=true:=by kernel_rfl
theorem still6:z0w 180 30=true:=by kernel_rfl
theorem still7:z0w 210 30=true:=by kernel_rfl
theorem still8:z0w 240 30=true:=by kernel_rfl
theorem still9:z0w 270 30=true:=by kernel_rfl
theorem zl6:z0w 300 30=true:=by kernel_rfl
theorem zl5:z0w 330 30=true:=by kernel_rfl
theorem zl4:z0w 360 30=true:=by kernel_rfl
theorem zl3:z0w 390 30=true:=by kernel_rfl
theorem zl2:z0w 420 30=true:=by kernel_rfl
theorem zl1:z0w 450 30=true:=by kernel_rfl
theorem zl0:z0w 480 30=true:=by kernel_rfl
theorem part:∀ k:Nat,k<17→z0w (30*k) 30=true
 | 0,_=>still0
 | 1,_=>still1
 | 2,_=>still2
 | 3,_=>still3
 | 4,_=>still4
 | 5,_=>still5
 | 6,_=>still6
 | 7,_=>still7
 | 8,_=>still8
 | 9,_=>still9
 | 10,_=>zl6
 | 11,_=>zl5
 | 12,_=>zl4
 | 13,_=>zl3
 | 14,_=>zl2
 | 15,_=>zl1
 | 16,_=>zl0
 | k+17,h=>absurd h (by omega)
theorem zfG:Tryz.prog.funcs.size=500:=by kernel_rfl
theorem zaJ (g:Nat):(Tryz.prog.funcs[g]?).any Func.goes=false:=by
 by_cases hg:g<510
 ·have h:=part (g / 30) (by omega);unfold z0w at h;have:=List.all_eq_true.1 h g (List.mem_range'_1.2 ⟨by omega,by omega⟩);simpa using this
 rw [Array.getElem?_eq_none (by rw [zfG];omega)];rfl
theorem zhv (f:FuncId):Tryz.prog.goes f=false:=by
 have h2:Tryz.prog.funcs.any Func.goes=false:=by
  rw [Array.any_eq_false];intro i hi;have:=zaJ i;rw [Array.getElem?_eq_getElem hi] at this;simpa using this
 have h1:((Tryz.prog.closure f).any fun g=>(Tryz.prog.funcs[g]?).any Func.goes)=false:=by
  rw [List.any_eq_false];intro g _;rw [zaJ g];simp
 unfold Program.goes;rw [h1,h2];simp
theorem zlP {c:OpenClaim} (h:c.start = .entering):false=c.goesBy Tryz.prog:=by
 unfold OpenClaim.goesBy Program.goesAt Program.goesFrom;rw [h];cases Tryz.prog.funcNamed c.func with
 | none=>rfl
 | some f=>simp [zhv f]
end Go.Proofs.YtgmppconibklcaaGreatDoor

