/- Part of the proof. No condition. -/
import Derived.Test.YtgmppconibklcaaGreatDoorM6
import Derived.Test.YtgmppconibklcaaGreatDoorM7
import Derived.Test.YtgmppconibklcaaGreatDoorProg
import Derived.KernelRfl
import Derived.Lib.UnsafeStr
set_option maxHeartbeats 40000000
set_option maxRecDepth 100000
set_option linter.unusedVariables false
set_option linter.unusedSimpArgs false
namespace Go.Proofs.YtgmppconibklcaaGreatDoor
open Go Go.RowKit
namespace Am
@[simp] theorem putF_at (d:Nat) (t:T) (env:Nat→Option T) (k:Nat):putF (some d) t env k=if d=k then some t else env k:=rfl
@[simp] theorem putF_none (t:T) (env:Nat→Option T):putF none t env=env:=rfl
@[simp] theorem killF_at (ks:List Nat) (env:Nat→Option T) (k:Nat):znz ks env k=(env k).map (T.kill ks):=rfl
@[simp] theorem killH_at (ks:List Nat) (h:Nat→Option O) (k:Nat):killH ks h k=(h k).map (O.kill ks):=rfl
@[simp] theorem hSet_at (h:Objs) (u:Nat×Option O) (p:Nat):hSet h u p=if p=u.1 then u.2 else h p:=rfl
@[simp] theorem z02 {P:Program} {gl:Nat→Option (List D)} {tb:World→Prop} {sz:Nat} {b:Code} {Q:Ex→SF→Prop} {s:SF}:SeqK P gl tb sz b Q .normal s=WpC P gl tb sz b Q s:=propext Iff.rfl
@[simp] theorem zbl {P:Program} {gl:Nat→Option (List D)} {tb:World→Prop} {sz:Nat} {b:Code} {Q:Ex→SF→Prop} {s:SF} {id:Nat}:SeqK P gl tb sz b Q (.exit id) s=Q (.exit id) s:=propext Iff.rfl
@[simp] theorem zkq {P:Program} {gl:Nat→Option (List D)} {tb:World→Prop} {sz:Nat} {b:Code} {Q:Ex→SF→Prop} {s:SF}:SeqK P gl tb sz b Q .ret s=Q .ret s:=propext Iff.rfl
@[simp] theorem z03 {Q:Ex→SF→Prop} {s:SF} {id:Nat}:BlkK id Q .normal s=Q .normal s:=propext Iff.rfl
@[simp] theorem zcC {Q:Ex→SF→Prop} {s:SF} {id id':Nat}:BlkK id Q (.exit id') s=if id'=id then Q .normal s else Q (.exit id') s:=propext Iff.rfl
@[simp] theorem zlB {Q:Ex→SF→Prop} {s:SF} {id:Nat}:BlkK id Q .ret s=Q .ret s:=propext Iff.rfl
@[simp] theorem z00 {I:Nat→SF→Prop} {k:Nat} {Q:Ex→SF→Prop} {s:SF}:zjX I k Q .normal s=∃ j,j<k∧I j s:=propext Iff.rfl
@[simp] theorem z9l {I:Nat→SF→Prop} {k:Nat} {Q:Ex→SF→Prop} {s:SF} {id:Nat}:zjX I k Q (.exit id) s=Q (.exit id) s:=propext Iff.rfl
@[simp] theorem ziM {I:Nat→SF→Prop} {k:Nat} {Q:Ex→SF→Prop} {s:SF}:zjX I k Q .ret s=Q .ret s:=propext Iff.rfl
@[simp] theorem enterF_at (args:List E) (k:Nat):z6D args k=(args[k]?).map .e:=rfl
@[simp] theorem minus_at (zs:List Nat) (h:Nat→Option O) (p:Nat):minus zs h p=if p∈zs then none else h p:=rfl
@[simp] theorem loadE_ref (P:Program) (h:Nat→Option O) (t:TypeId) (p off:Nat):z2n P h t (.ref p off)=match h p with
  | some (.var _ cs)=>part P t cs off
  | _=>none:=rfl
@[simp] theorem rowOf_nilS (s:Nat):rowOf s (some (.e (.one .nilS)))=some []:=rfl
attribute [simp] zhh wpOps_cons znW zfy zfz z2j zix zat z7Y zgY zdP z01 zct zfw evR ev gdOf fits valOf nm z8l T.eff e? int? bool? str? row? z9E zc E.cells C.fz fzs E.fz z5F z6e bound zds z2X z3Y z2Y z86 z83 zce z88 lay z5u z3f elems zfg zax z4A zjj unV zjk binV zfJ zfI ziH nil? zdV C.kill E.kill T.kill O.kill EndK z6K resE z26 z4h outE zai outC tupT setE setC z16 zbh z0R refsOf dsOf C.d? E.ds z23 zgr zbH z6w C.isD C.z2y E.z2y T.z2y C.ren E.ren T.ren bytesOf? byteOf?
end Am
end Go.Proofs.YtgmppconibklcaaGreatDoor

namespace Go.Proofs.YtgmppconibklcaaGreatDoor
open Go Go.RowKit
namespace Am
open Classical in
noncomputable def imOf (w:World) (Av:Nat→Prop):Im:=fun a=>if Av a.block then none else w.cell? a
theorem z2T {w:World} {Av:Nat→Prop} {a:Addr} {u:Value} (h:imOf w Av a=some u):¬Av a.block∧w.cell? a=some u:=by
 unfold imOf at h;split at h
 ·cases h
 ·rename_i hn;exact ⟨hn,h⟩
theorem z7X {w:World} {Av:Nat→Prop} {a:Addr} {u:Value} (hn:¬Av a.block) (h:w.cell? a=some u):imOf w Av a=some u:=by
 unfold imOf;rw [if_neg hn];exact h
inductive DOk:D→Prop
 | leaf (v:Value) (h:v.oneCell'=true):DOk (.leaf v)
 | row (s:Nat) (l:List D) (h:∀ d,d∈l→DOk d):DOk (.row s l)
theorem DOk.bytes (b:List UInt8):DOk (z04 b):= .row _ _ fun d hd=>by
 simp at hd;obtain ⟨x,_,rfl⟩:=hd;exact .leaf _ rfl
theorem z2D {w:World} {Av:Nat→Prop} {v:Value} {d:D} (h:Is w Av v d) (ho:DOk d):RD (imOf w Av) v d:=by
 induction h with
 | leaf v=>cases ho with|leaf _ h=>exact .leaf v h
 | row A n c size xs l hn hx hz hc hs hd ih=>
  cases ho with
  | row _ _ ho=>
   refine .row A n c size xs l hn hx hz hc (fun h0=>?_) (fun j u d hu hdj=>ih j u d hu hdj (ho d (List.mem_of_getElem? hdj)));obtain ⟨g,o,hA,hg,hcell⟩:=hs h0;exact ⟨g,o,hA,fun j u hu=>z7X hg (hcell j u hu)⟩
theorem zlI {im:Im} {w:World} {Av:Nat→Prop} {v:Value} {d:D} (h:RD im v d) (hi:∀ a u,im a=some u→¬Av a.block∧w.cell? a=some u):Is w Av v d:=by
 induction h with
 | leaf v h=>exact .leaf v
 | row A n c size xs l hn hx hz hc hs hd ih=>
  refine .row A n c size xs l hn hx hz hc (fun h0=>?_) ih;obtain ⟨g,o,hA,hcell⟩:=hs h0;have h1:0<xs.length:=by rw [hx,hn];exact Nat.mul_pos h0 hz
  exact ⟨g,o,hA,(hi _ _ (hcell 0 _ (List.getElem?_eq_getElem h1))).1,fun j u hu=>(hi _ _ (hcell j u hu)).2⟩
theorem z3p {w:World} {Av:Nat→Prop} {v:Value} {d:D} (h:RD (imOf w Av) v d):Is w Av v d:=zlI h fun _ _ h=>z2T h
def C.isX:C→Bool
 | .d _=>true
 | .dead=>true
 | _=>false
theorem zmb {G G':Gh} {v:Value} {cc:C} (hd:cc.isX=true) (hi:∀ a u,G.im a=some u→G'.im a=some u) (hr:RC G v cc):RC G' v cc:=by
 cases cc with
 | d x=>exact RD.mono hr hi
 | dead=>exact hr
 | _=>cases hd
theorem znA {G G':Gh} {us:List Value} {cs:List C} (hd:cs.all C.isX=true) (hi:∀ a u,G.im a=some u→G'.im a=some u) (hr:RCs G us cs):RCs G' us cs:=
 ⟨hr.1,fun j u cc hu hc=>zmb (List.all_eq_true.1 hd cc (List.mem_of_getElem? hc)) hi (hr.2 j u cc hu hc)⟩
def E.isD (x:E):Bool:=x.cells.all C.isX
def T.isD:T→Bool
 | .e x=>x.isD
 | .tup xs=>xs.all E.isD
 | .undef=>true
theorem zml {G G':Gh} {v:Value} {x:E} (hd:x.isD=true) (hi:∀ a u,G.im a=some u→G'.im a=some u) (h:RE G v x):RE G' v x:=by
 cases x with
 | one c=>exact zmb (by simpa [E.isD,E.cells] using hd) hi h
 | agg cs=>obtain ⟨us,rfl,h⟩:=h;exact ⟨us,rfl,znA hd hi h⟩
theorem zdY {G G':Gh} {vs:List Value} {xs:List E} (hd:xs.all E.isD=true) (hi:∀ a u,G.im a=some u→G'.im a=some u) (h:REs G vs xs):REs G' vs xs:=
 ⟨h.1,fun j u x hu hx=>zml (List.all_eq_true.1 hd x (List.mem_of_getElem? hx)) hi (h.2 j u x hu hx)⟩
theorem zfN {G G':Gh} {v:Value} {t:T} (hd:t.isD=true) (hi:∀ a u,G.im a=some u→G'.im a=some u) (h:RT G v t):RT G' v t:=by
 cases t with
 | e x=>exact zml hd hi h
 | tup xs=>obtain ⟨vs,rfl,h⟩:=h;exact ⟨vs,rfl,zdY hd hi h⟩
 | undef=>exact h
noncomputable abbrev Gw (w:World) (Av:Nat→Prop):Gh:=⟨imOf w Av,fun _=>none⟩
section
variable {P:Program} {gl:Nat→Option (List D)} {tb:World→Prop} {g:FuncId} {args:List E} {t:T}
theorem z3y:z3z []=fun _=>none:=by funext p;unfold z3z;simp
theorem zel:resH [] []=fun _=>none:=by funext p;unfold resH;simp [z3y]
theorem z5y:locP (fun _=>none)=fun _=>none:=by funext p;unfold locP;simp
theorem z0S.calls (h:z0S P gl tb g args [] t [] []) (w:World) (vals:List Value) (Av:Nat→Prop) (htb:tb w) (hgl:∀ g l,gl g=some l→RC (Gw w Av) (.pointer (some ⟨g,0,none⟩)) (.ep l)) (hargs:REs (Gw w Av) vals args) (ht:t.isD=true):
  Calls P g vals.toArray w fun e w'=>∃ v,e = .returned v∧RT (Gw w' fun b=>Av b∧b<w.heap.size) v t∧Below w.heap.size w w':=by
 have hI:Inv ⟨w,w,imOf w Av,gl,tb,fun _=>False,fun _=>none⟩ (Gw w Av) (z3z []) w:=by
  rw [z3y];exact ⟨htb,Below.refl _ _,fun _ h=>h.elim,Only.refl _ _,fun a u ha=>(z2T ha).2,fun _ _ h=>h,fun _ _ _=>rfl,fun _=>rfl,hgl,fun p o hp=>(by cases hp),fun p q o o' b hp=>(by cases hp)⟩
 have:=h w (imOf w Av) w vals (fun _=>False) (fun _=>none) (by rw [z5y];exact hI) (by rw [z5y];exact hargs);refine this.mono ?_;rintro e w' ⟨v,G',rfl,hr,hI'⟩;have hb:Below w.heap.size w w':=⟨hI'.below.os,hI'.below.tape,hI'.below.output,hI'.below.size,fun k hk=>hI'.below.block k hk (fun h=>h)⟩;refine ⟨v,rfl,zfN (G:=G') ht (fun a u ha=>by
  refine z7X (w:=w') (Av:=fun b=>Av b∧b<w.heap.size) (fun hh=>?_) (hI'.imw a u ha);have:=hI'.imo a hh.2 (fun h=>h);rw [ha] at this;exact (z2T this.symm).1 hh.1) hr,hb⟩
theorem z0v {tw:World→Prop} (hd:args.all E.isD=true) (ht:t.isD=true) (htb:∀ W0 w,tb W0→Below W0.heap.size W0 w→tw w)
  (h:∀ (w:World) (vals:List Value),tw w→REs (Gw w fun _=>False) vals args→Calls P g vals.toArray w fun e w'=>∃ v,e = .returned v∧RT (Gw w' fun b=>b<w.heap.size) v t∧Below w.heap.size w w'):z0S P gl tb g args [] t [] []:=by
 intro W0 im w vals ch lo hI hargs;have hargs':REs (Gw w fun _=>False) vals args:=zdY (G:=⟨im,locP lo⟩) hd (fun a u ha=>z7X (w:=w) (Av:=fun _=>False) (fun h=>h) (hI.imw a u ha)) hargs;refine (h w vals (htb _ _ hI.tb hI.old) hargs').mono ?_;rintro e w' ⟨v,rfl,hr,hb⟩
 let im':Im:=fun a=>if a.block<w.heap.size then im a else w'.cell? a
 have hI':=hI.grow hb im' (fun a ha=>if_pos ha) (fun a u ha=>by
  by_cases hlt:a.block<w.heap.size
  ·have:im' a=im a:=if_pos hlt;rw [this] at ha;exact (hb.cell hlt).trans (hI.imw a u ha)
  ·have:im' a=w'.cell? a:=if_neg hlt;rw [this] at ha;exact ha)
 refine ⟨v,_,rfl,zfN (G:=Gw w' fun b=>b<w.heap.size) ht (fun a u ha=>?_) hr,by rw [zel];rw [z3y] at hI';exact hI'⟩;have ha':imOf w' (fun b=>b<w.heap.size) a=some u:=ha;obtain ⟨h1,h2⟩:=z2T ha';show im' a=some u;have:im' a=w'.cell? a:=if_neg h1;rw [this];exact h2
theorem zlz {tw:World→Prop} {R:T→Prop} (hd:args.all E.isD=true) (ht:∀ t,R t→t.isD=true) (htb:∀ W0 w,tb W0→Below W0.heap.size W0 w→tw w)
  (h:∀ (w:World) (vals:List Value),tw w→REs (Gw w fun _=>False) vals args→Calls P g vals.toArray w fun e w'=>∃ t v,R t∧e = .returned v∧RT (Gw w' fun b=>b<w.heap.size) v t∧Below w.heap.size w w'):z3q P gl tb g args [] (fun t ws os'=>R t∧ws=[]∧os'=[]):=by
 intro W0 im w vals ch lo hI hargs;have hargs':REs (Gw w fun _=>False) vals args:=zdY (G:=⟨im,locP lo⟩) hd (fun a u ha=>z7X (w:=w) (Av:=fun _=>False) (fun h=>h) (hI.imw a u ha)) hargs;refine (h w vals (htb _ _ hI.tb hI.old) hargs').mono ?_;rintro e w' ⟨t,v,hR,rfl,hr,hb⟩;refine ⟨t,[],[],⟨hR,rfl,rfl⟩,?_⟩
 let im':Im:=fun a=>if a.block<w.heap.size then im a else w'.cell? a
 have hI':=hI.grow hb im' (fun a ha=>if_pos ha) (fun a u ha=>by
  by_cases hlt:a.block<w.heap.size
  ·have:im' a=im a:=if_pos hlt;rw [this] at ha;exact (hb.cell hlt).trans (hI.imw a u ha)
  ·have:im' a=w'.cell? a:=if_neg hlt;rw [this] at ha;exact ha)
 refine ⟨v,_,rfl,zfN (G:=Gw w' fun b=>b<w.heap.size) (ht t hR) (fun a u ha=>?_) hr,by rw [zel];rw [z3y] at hI';exact hI'⟩;have ha':imOf w' (fun b=>b<w.heap.size) a=some u:=ha;obtain ⟨h1,h2⟩:=z2T ha';show im' a=some u;have:im' a=w'.cell? a:=if_neg h1;rw [this];exact h2
theorem z3q.calls {R:T→Prop} (h:z3q P gl tb g args [] (fun t ws os'=>R t∧ws=[]∧os'=[])) (w:World) (vals:List Value) (Av:Nat→Prop) (htb:tb w) (hgl:∀ g l,gl g=some l→RC (Gw w Av) (.pointer (some ⟨g,0,none⟩)) (.ep l)) (hargs:REs (Gw w Av) vals args) (ht:∀ t,R t→t.isD=true):
  Calls P g vals.toArray w fun e w'=>∃ t v,R t∧e = .returned v∧RT (Gw w' fun b=>Av b∧b<w.heap.size) v t∧Below w.heap.size w w':=by
 have hI:Inv ⟨w,w,imOf w Av,gl,tb,fun _=>False,fun _=>none⟩ (Gw w Av) (z3z []) w:=by
  rw [z3y];exact ⟨htb,Below.refl _ _,fun _ h=>h.elim,Only.refl _ _,fun a u ha=>(z2T ha).2,fun _ _ h=>h,fun _ _ _=>rfl,fun _=>rfl,hgl,fun p o hp=>(by cases hp),fun p q o o' b hp=>(by cases hp)⟩
 have:=h w (imOf w Av) w vals (fun _=>False) (fun _=>none) (by rw [z5y];exact hI) (by rw [z5y];exact hargs);refine this.mono ?_;rintro e w' ⟨t,ws,os',⟨hR,rfl,rfl⟩,v,G',rfl,hr,hI'⟩;have hb:Below w.heap.size w w':=⟨hI'.below.os,hI'.below.tape,hI'.below.output,hI'.below.size,fun k hk=>hI'.below.block k hk (fun h=>h)⟩;refine ⟨t,v,hR,rfl,zfN (G:=G') (ht t hR) (fun a u ha=>?_) hr,hb⟩;refine z7X (w:=w') (Av:=fun b=>Av b∧b<w.heap.size) (fun hh=>?_) (hI'.imw a u ha);have:=hI'.imo a hh.2 (fun h=>h);rw [ha] at this;exact (z2T this.symm).1 hh.1
end
end Am
end Go.Proofs.YtgmppconibklcaaGreatDoor

namespace Go.Proofs.YtgmppconibklcaaGreatDoor
open Go Go.RowKit
namespace Am
theorem z1h:Tryz.prog.follows .mixedOrders=true:=by kernel_rfl
theorem z0b:z14 Tryz.prog:=by
 intro g fn h;have:(Tryz.prog.funcs.toList.all fun fn=>!(fn.name=="runtime.NumGoroutine"))=true:=by kernel_rfl
 rw [List.all_eq_true] at this;have h2:=this fn (by simpa using Array.mem_of_getElem? h);simpa using h2
end Am
end Go.Proofs.YtgmppconibklcaaGreatDoor

namespace Go.Proofs.YtgmppconibklcaaGreatDoor
open Go
namespace Am
@[simp] theorem bod_6:Tryz.f6.body.isNone=false:=by kernel_rfl
@[simp] theorem bod_7:Tryz.f7.body.isNone=false:=by kernel_rfl
@[simp] theorem bod_8:Tryz.f8.body.isNone=false:=by kernel_rfl
@[simp] theorem bod_9:Tryz.f9.body.isNone=false:=by kernel_rfl
@[simp] theorem bod_10:Tryz.f10.body.isNone=false:=by kernel_rfl
@[simp] theorem bod_11:Tryz.f11.body.isNone=false:=by kernel_rfl
@[simp] theorem bod_12:Tryz.f12.body.isNone=false:=by kernel_rfl
@[simp] theorem bod_13:Tryz.f13.body.isNone=false:=by kernel_rfl
@[simp] theorem bod_14:Tryz.f14.body.isNone=false:=by kernel_rfl
@[simp] theorem bod_15:Tryz.f15.body.isNone=false:=by kernel_rfl
@[simp] theorem bod_16:Tryz.f16.body.isNone=false:=by kernel_rfl
@[simp] theorem bod_18:Tryz.f18.body.isNone=false:=by kernel_rfl
@[simp] theorem bod_25:Tryz.f25.body.isNone=false:=by kernel_rfl
@[simp] theorem bod_26:Tryz.f26.body.isNone=false:=by kernel_rfl
@[simp] theorem bod_27:Tryz.f27.body.isNone=false:=by kernel_rfl
@[simp] theorem bod_28:Tryz.f28.body.isNone=false:=by kernel_rfl
@[simp] theorem bod_29:Tryz.f29.body.isNone=false:=by kernel_rfl
@[simp] theorem bod_30:Tryz.f30.body.isNone=false:=by kernel_rfl
@[simp] theorem bod_31:Tryz.f31.body.isNone=false:=by kernel_rfl
@[simp] theorem bod_32:Tryz.f32.body.isNone=false:=by kernel_rfl
@[simp] theorem bod_33:Tryz.f33.body.isNone=false:=by kernel_rfl
@[simp] theorem bod_34:Tryz.f34.body.isNone=false:=by kernel_rfl
@[simp] theorem bod_35:Tryz.f35.body.isNone=false:=by kernel_rfl
@[simp] theorem bod_36:Tryz.f36.body.isNone=false:=by kernel_rfl
@[simp] theorem bod_37:Tryz.f37.body.isNone=false:=by kernel_rfl
@[simp] theorem bod_38:Tryz.f38.body.isNone=false:=by kernel_rfl
@[simp] theorem bod_39:Tryz.f39.body.isNone=false:=by kernel_rfl
@[simp] theorem bod_40:Tryz.f40.body.isNone=false:=by kernel_rfl
@[simp] theorem bod_41:Tryz.f41.body.isNone=false:=by kernel_rfl
@[simp] theorem bod_42:Tryz.f42.body.isNone=false:=by kernel_rfl
@[simp] theorem bod_43:Tryz.f43.body.isNone=false:=by kernel_rfl
@[simp] theorem bod_44:Tryz.f44.body.isNone=false:=by kernel_rfl
@[simp] theorem bod_45:Tryz.f45.body.isNone=false:=by kernel_rfl
@[simp] theorem bod_46:Tryz.f46.body.isNone=false:=by kernel_rfl
@[simp] theorem bod_47:Tryz.f47.body.isNone=false:=by kernel_rfl
@[simp] theorem bod_48:Tryz.f48.body.isNone=false:=by kernel_rfl
@[simp] theorem bod_49:Tryz.f49.body.isNone=false:=by kernel_rfl
@[simp] theorem bod_50:Tryz.f50.body.isNone=false:=by kernel_rfl
@[simp] theorem bod_51:Tryz.f51.body.isNone=false:=by kernel_rfl
@[simp] theorem bod_52:Tryz.f52.body.isNone=false:=by kernel_rfl
@[simp] theorem bod_53:Tryz.f53.body.isNone=false:=by kernel_rfl
@[simp] theorem bod_54:Tryz.f54.body.isNone=false:=by kernel_rfl
@[simp] theorem bod_55:Tryz.f55.body.isNone=false:=by kernel_rfl
@[simp] theorem bod_58:Tryz.f58.body.isNone=false:=by kernel_rfl
@[simp] theorem bod_60:Tryz.f60.body.isNone=false:=by kernel_rfl
@[simp] theorem bod_61:Tryz.f61.body.isNone=false:=by kernel_rfl
@[simp] theorem bod_62:Tryz.f62.body.isNone=false:=by kernel_rfl
@[simp] theorem bod_64:Tryz.f64.body.isNone=false:=by kernel_rfl
@[simp] theorem bod_65:Tryz.f65.body.isNone=false:=by kernel_rfl
@[simp] theorem bod_76:Tryz.f76.body.isNone=false:=by kernel_rfl
@[simp] theorem bod_78:Tryz.f78.body.isNone=false:=by kernel_rfl
@[simp] theorem bod_79:Tryz.f79.body.isNone=false:=by kernel_rfl
@[simp] theorem bod_80:Tryz.f80.body.isNone=false:=by kernel_rfl
@[simp] theorem bod_81:Tryz.f81.body.isNone=false:=by kernel_rfl
@[simp] theorem bod_82:Tryz.f82.body.isNone=false:=by kernel_rfl
@[simp] theorem bod_83:Tryz.f83.body.isNone=false:=by kernel_rfl
@[simp] theorem bod_84:Tryz.f84.body.isNone=false:=by kernel_rfl
@[simp] theorem bod_85:Tryz.f85.body.isNone=false:=by kernel_rfl
@[simp] theorem bod_86:Tryz.f86.body.isNone=false:=by kernel_rfl
@[simp] theorem bod_87:Tryz.f87.body.isNone=false:=by kernel_rfl
@[simp] theorem bod_88:Tryz.f88.body.isNone=false:=by kernel_rfl
@[simp] theorem bod_89:Tryz.f89.body.isNone=false:=by kernel_rfl
@[simp] theorem bod_90:Tryz.f90.body.isNone=false:=by kernel_rfl
@[simp] theorem bod_91:Tryz.f91.body.isNone=false:=by kernel_rfl
@[simp] theorem bod_92:Tryz.f92.body.isNone=false:=by kernel_rfl
@[simp] theorem bod_93:Tryz.f93.body.isNone=false:=by kernel_rfl
@[simp] theorem bod_94:Tryz.f94.body.isNone=false:=by kernel_rfl
@[simp] theorem bod_95:Tryz.f95.body.isNone=false:=by kernel_rfl
@[simp] theorem bod_96:Tryz.f96.body.isNone=false:=by kernel_rfl
@[simp] theorem bod_97:Tryz.f97.body.isNone=false:=by kernel_rfl
@[simp] theorem bod_98:Tryz.f98.body.isNone=false:=by kernel_rfl
@[simp] theorem bod_99:Tryz.f99.body.isNone=false:=by kernel_rfl
@[simp] theorem bod_100:Tryz.f100.body.isNone=false:=by kernel_rfl
@[simp] theorem bod_101:Tryz.f101.body.isNone=false:=by kernel_rfl
@[simp] theorem bod_102:Tryz.f102.body.isNone=false:=by kernel_rfl
@[simp] theorem bod_103:Tryz.f103.body.isNone=false:=by kernel_rfl
@[simp] theorem bod_104:Tryz.f104.body.isNone=false:=by kernel_rfl
@[simp] theorem bod_105:Tryz.f105.body.isNone=false:=by kernel_rfl
@[simp] theorem bod_107:Tryz.f107.body.isNone=false:=by kernel_rfl
@[simp] theorem bod_118:Tryz.f118.body.isNone=false:=by kernel_rfl
@[simp] theorem bod_120:Tryz.f120.body.isNone=false:=by kernel_rfl
@[simp] theorem bod_126:Tryz.f126.body.isNone=false:=by kernel_rfl
@[simp] theorem bod_147:Tryz.f147.body.isNone=false:=by kernel_rfl
@[simp] theorem bod_148:Tryz.f148.body.isNone=false:=by kernel_rfl
@[simp] theorem bod_149:Tryz.f149.body.isNone=false:=by kernel_rfl
@[simp] theorem bod_150:Tryz.f150.body.isNone=false:=by kernel_rfl
@[simp] theorem bod_151:Tryz.f151.body.isNone=false:=by kernel_rfl
@[simp] theorem bod_152:Tryz.f152.body.isNone=false:=by kernel_rfl
@[simp] theorem bod_153:Tryz.f153.body.isNone=false:=by kernel_rfl
@[simp] theorem bod_154:Tryz.f154.body.isNone=false:=by kernel_rfl
@[simp] theorem bod_155:Tryz.f155.body.isNone=false:=by kernel_rfl
@[simp] theorem bod_156:Tryz.f156.body.isNone=false:=by kernel_rfl
@[simp] theorem bod_157:Tryz.f157.body.isNone=false:=by kernel_rfl
@[simp] theorem bod_158:Tryz.f158.body.isNone=false:=by kernel_rfl
@[simp] theorem bod_159:Tryz.f159.body.isNone=false:=by kernel_rfl
@[simp] theorem bod_160:Tryz.f160.body.isNone=false:=by kernel_rfl
@[simp] theorem bod_161:Tryz.f161.body.isNone=false:=by kernel_rfl
@[simp] theorem bod_162:Tryz.f162.body.isNone=false:=by kernel_rfl
@[simp] theorem bod_163:Tryz.f163.body.isNone=false:=by kernel_rfl
@[simp] theorem bod_165:Tryz.f165.body.isNone=false:=by kernel_rfl
@[simp] theorem bod_166:Tryz.f166.body.isNone=false:=by kernel_rfl
@[simp] theorem bod_217:Tryz.f217.body.isNone=false:=by kernel_rfl
end Am
end Go.Proofs.YtgmppconibklcaaGreatDoor

namespace Go.Proofs.YtgmppconibklcaaGreatDoor
namespace Od
def top:Nat:=9223372036854775808
def z1s (c:UInt8):Bool:=decide (48≤c.toNat∧c.toNat≤57)
def val (l:List UInt8):Nat:=l.foldl (fun n c=>n*10+(c.toNat-48)) 0
def numL (l:List UInt8):Option Nat:=
 if l=[]∨(1<l.length∧l.head? = some 48) then none else if l.all z1s then (if val l<top then some (val l) else none) else none
theorem z3M (l:List UInt8) (c:UInt8):val (l++[c])=val l*10+(c.toNat-48):=by simp [val]
theorem zmv:val []=0:=rfl
theorem z9u (l:List UInt8) (n:Nat):n≤l.foldl (fun n c=>n*10+(c.toNat-48)) n:=by
 induction l generalizing n with
 | nil=>exact Nat.le_refl _
 | cons c l ih=>exact Nat.le_trans (show n≤n*10+(c.toNat-48) by omega) (ih _)
theorem zk7 (a b:List UInt8):val a≤val (a++b):=by
 unfold val;rw [List.foldl_append];exact z9u _ _
theorem ze2 (l:List UInt8) (h:l.all z1s):val l<10^l.length:=by
 have key:∀ (l:List UInt8),l.all z1s→∀ n,l.foldl (fun n c=>n*10+(c.toNat-48)) n<(n+1)*10^l.length:=by
  intro l;induction l with
  | nil=>intro _ n;simp
  | cons c l ih=>
   intro h n;simp only [List.all_cons,Bool.and_eq_true] at h;have hc:48≤c.toNat∧c.toNat≤57:=by simpa [z1s] using h.1
   refine Nat.lt_of_lt_of_le (ih h.2 _) ?_;rw [List.length_cons,Nat.pow_succ,Nat.mul_comm (10^l.length) 10,←Nat.mul_assoc];exact Nat.mul_le_mul_right _ (show n*10+(c.toNat-48)+1≤(n+1)*10 by omega)
 have:=key l h 0;simpa [val] using this
theorem zdo {l:List UInt8} {k:Nat} (h:k<l.length) (hb:z1s l[k]=false):numL l=none:=by
 unfold numL;split
 ·rfl
 ·rw [if_neg];intro ha;have:=List.all_eq_true.1 ha l[k] (List.getElem_mem h);rw [hb] at this;cases this
theorem zeY {l:List UInt8} {k:Nat} (h:top≤val (l.take k)):numL l=none:=by
 have h2:val (l.take k)≤val l:=by
  have:=zk7 (l.take k) (l.drop k)
  rwa [List.take_append_drop] at this
 unfold numL;split
 ·rfl
 ·split
  ·rw [if_neg (by omega)]
  ·rfl
theorem ziB {l:List UInt8} (h0:¬(l=[]∨(1<l.length∧l.head? = some 48))) (hd:l.all z1s) (hv:val l<top):numL l=some (val l):=by
 unfold numL;rw [if_neg h0,if_pos hd,if_pos hv]
theorem zaR {l:List UInt8} {k:Nat} (h:k<l.length) (ha:(l.take k).all z1s) (hc:z1s l[k]=true):(l.take (k+1)).all z1s:=by
 rw [List.take_succ_eq_append_getElem h,List.all_append];simp [ha,hc]
theorem z5a {l:List UInt8} {k:Nat} (h:k<l.length):val (l.take (k+1))=val (l.take k)*10+(l[k].toNat-48):=by
 rw [List.take_succ_eq_append_getElem h,z3M]
def parts (c:UInt8):List UInt8→List (List UInt8)
 | []=>[[]]
 | b::l=>if b=c then []::parts c l else match parts c l with
  | []=>[[b]]
  | p::ps=>(b::p)::ps
theorem zeR (c:UInt8) (l:List UInt8):parts c l≠[]:=by
 induction l with
 | nil=>simp [parts]
 | cons b l ih=>
  unfold parts;split
  ·simp
  ·split<;>simp
theorem z63 {c:UInt8} {l:List UInt8} (h:∀ b∈l,b≠c):parts c l=[l]:=by
 induction l with
 | nil=>rfl
 | cons b l ih=>
  unfold parts;rw [if_neg (h b (by simp)),ih (fun x hx=>h x (by simp [hx]))]
theorem z7E {c:UInt8} {a b:List UInt8} (h:∀ x∈a,x≠c):parts c (a++c::b)=a::parts c b:=by
 induction a with
 | nil=>simp [parts]
 | cons x a ih=>
  rw [List.cons_append,parts,if_neg (h x (by simp)),ih (fun y hy=>h y (by simp [hy]))]
theorem z2P (c:UInt8) (l:List UInt8):(parts c l).length≤l.length+1:=by
 induction l with
 | nil=>simp [parts]
 | cons b l ih=>
  unfold parts;split
  ·simp;omega
  ·split
   ·simp
   ·rename_i p ps hp;rw [hp] at ih;simp at ih ⊢;omega
theorem z5v {c:UInt8}:∀ {l:List UInt8},∀ p∈parts c l,p.length≤l.length
 | [],p,hp=>by simp [parts] at hp;simp [hp]
 | b::l,p,hp=>by
  unfold parts at hp;split at hp
  ·rcases List.mem_cons.1 hp with rfl|hp
   ·simp
   ·have:=z5v p hp;simp;omega
  ·split at hp
   ·simp at hp;simp [hp]
   ·rename_i q qs hq;rcases List.mem_cons.1 hp with rfl|hp
    ·have:=z5v (l:=l) (c:=c) q (by rw [hq];simp);simp;omega
    ·have:=z5v (l:=l) (c:=c) p (by rw [hq];simp [hp]);simp;omega
def z0w:List (List UInt8)→Option (List Nat)
 | []=>some []
 | p::ps=>match numL p,z0w ps with
  | some n,some ns=>some (n::ns)
  | _,_=>none
def z1q (l:List Nat):Bool:=decide (2≤l.length∧((l.getD 0 0=2∧l.getD 1 0<top-80)∨(l.getD 0 0<2∧l.getD 1 0<40)))
def hiF:Nat→Nat→List UInt8
 | 0,_=>[]
 | f+1,m=>if m=0 then [] else hiF f (m / 128)++[UInt8.ofNat (m%128+128)]
def b128 (n:Nat):List UInt8:=hiF 10 (n / 128)++[UInt8.ofNat (n%128)]
def dg (n j:Nat):UInt8:=UInt8.ofNat (n / 128^j%128+128)
def dn (n:Nat):Nat→List UInt8
 | 0=>[]
 | k+1=>dg n (k+1)::dn n k
theorem zlu (n j:Nat):dg n (j+1)=dg (n / 128) j:=by
 unfold dg;rw [Nat.pow_succ,Nat.mul_comm,←Nat.div_div_eq_div_mul]
theorem zlq (n k:Nat):dn n (k+1)=dn (n / 128) k++[dg n 1]:=by
 induction k with
 | zero=>rfl
 | succ k ih=>
  show dg n (k+2)::dn n (k+1)=(dg (n / 128) (k+1)::dn (n / 128) k)++[dg n 1];rw [ih,zlu];rfl
theorem hi_dn (K:Nat):∀ (f n:Nat),K≤f→n / 128^(K+1)=0→(K=0∨n / 128^K≠0)→hiF f (n / 128)=dn n K:=by
 induction K with
 | zero=>
  intro f n _ h _;have:n / 128=0:=by simpa using h
  rw [this];cases f<;>simp [hiF,dn]
 | succ K ih=>
  intro f n hf h h2;obtain ⟨f,rfl⟩:∃ f',f=f'+1:=⟨f-1,by omega⟩;have hne:n / 128≠0:=by
   intro e;rcases h2 with h2|h2
   ·omega
   ·apply h2;rw [Nat.pow_succ,Nat.mul_comm,←Nat.div_div_eq_div_mul,e,Nat.zero_div]
  have e1:∀ j,n / 128 / 128^j=n / 128^(j+1):=fun j=>by
   rw [Nat.div_div_eq_div_mul,Nat.pow_succ,Nat.mul_comm]
  simp only [hiF,if_neg hne];rw [ih f (n / 128) (by omega) (by rw [e1];exact h) (by
   rcases Nat.eq_zero_or_pos K with h0|h0
   ·exact .inl h0
   ·right;rw [e1];rcases h2 with h2|h2
    ·omega
    ·exact h2),zlq]
  simp [dg]
theorem zo2 {n K:Nat} (hK:K≤10) (h:n / 128^(K+1)=0) (h2:K=0∨n / 128^K≠0):b128 n=dn n K++[UInt8.ofNat (n%128)]:=by
 unfold b128;rw [hi_dn K 10 n hK h h2]
theorem pow_two (k:Nat):(2:Nat)^(7*k)=128^k:=by rw [Nat.pow_mul]
theorem z33 (n : Nat) : (b128 n).length ≤ 11 := by
  have : ∀ f m, (hiF f m).length ≤ f := by
    intro f
    induction f with
    | zero => intro m; simp [hiF]
    | succ f ih => intro m; unfold hiF; split
                   · simp
                   · have := ih (m / 128); simp; omega
  have := this 10 (n / 128)
  unfold b128; simp; omega
def bytesOf (l:List Nat):List UInt8:=b128 (40*l.getD 0 0+l.getD 1 0)++(l.drop 2).flatMap b128
def enc (s:List UInt8):Option (List UInt8):=match z0w (parts 46 s) with
 | some l=>if z1q l then some (bytesOf l) else none
 | none=>none
end Od
end Go.Proofs.YtgmppconibklcaaGreatDoor

namespace Go.Proofs.YtgmppconibklcaaGreatDoor
namespace Dig
def dig (n:Nat):UInt8:=UInt8.ofNat (48+n%10)
def dgsF:Nat→Nat→Nat→List UInt8
 | 0,_,_=>[]
 | f+1,n,k=>if n=0∧k=0 then [] else dgsF f (n / 10) (k-1)++[dig n]
def dgs (n k:Nat):List UInt8:=dgsF 20 n k
theorem z3H (n:Nat):(dig n).toNat=48+n%10:=by
 unfold dig;rw [UInt8.toNat_ofNat'];omega
theorem z0Q (f n k:Nat) (h:n=0∧k=0):dgsF f n k=[]:=by cases f<;>simp [dgsF,h]
theorem z1b (f n k:Nat) (h:¬(n=0∧k=0)):dgsF (f+1) n k=dgsF f (n / 10) (k-1)++[dig n]:=by simp [dgsF,h]
theorem z8B (f n k:Nat):(dgsF f n k).length≤f:=by
 induction f generalizing n k with
 | zero=>simp [dgsF]
 | succ f ih=>
  by_cases h:n=0∧k=0
  ·rw [z0Q _ _ _ h];simp
  ·rw [z1b _ _ _ h];have:=ih (n / 10) (k-1);simp;omega
theorem z0u (n k:Nat):(dgs n k).length≤20:=z8B 20 n k
theorem z3c {n f:Nat} (h:n<10^(f+1)):n / 10<10^f:=by
 rw [Nat.pow_succ] at h;omega
theorem zfp (f n k:Nat) (h:n<10^f) (hk:k≤f):k≤(dgsF f n k).length∧∀ c∈dgsF f n k,48≤c.toNat∧c.toNat≤57:=by
 induction f generalizing n k with
 | zero=>simp [dgsF];omega
 | succ f ih=>
  by_cases hh:n=0∧k=0
  ·rw [z0Q _ _ _ hh];simp [hh]
  ·rw [z1b _ _ _ hh];obtain ⟨a,b⟩:=ih (n / 10) (k-1) (z3c h) (by omega);refine ⟨by simp;omega,?_⟩;intro c hc;rw [List.mem_append] at hc;rcases hc with hc|hc
   ·exact b c hc
   ·simp at hc;subst hc;rw [z3H];omega
structure Inv (n least f m:Nat) (l:List UInt8):Prop where
 hm:m<10^f
 hf:l.length+f=20
 hk:least≤20
 d:dgs n least=dgsF f m (least-l.length)++l
theorem Inv.start {n least:Nat} (h:n<10^20) (hk:least≤20):Inv n least 20 n []:=⟨h,by simp,hk,by simp [dgs]⟩
theorem Inv.pos {n least f m:Nat} {l:List UInt8} (h:Inv n least f m l) (hh:0<m∨l.length<least):l.length<20:=by
 obtain ⟨a,b,c,d⟩:=h;rcases Nat.eq_zero_or_pos f with h0|h0
 ·subst h0;simp at a;omega
 ·omega
theorem Inv.next {n least f m:Nat} {l:List UInt8} (h:Inv n least f m l) (hh:0<m∨l.length<least):∃ f',Inv n least f' (m / 10) (dig m::l):=by
 have hp:=h.pos hh;obtain ⟨a,b,c,d⟩:=h;obtain ⟨f',rfl⟩:∃ f',f=f'+1:=⟨f-1,by omega⟩;refine ⟨f',z3c a,by simp;omega,c,?_⟩;rw [d,z1b _ _ _ (by omega)];simp [Nat.sub_sub]
theorem Inv.stop {n least f m:Nat} {l:List UInt8} (h:Inv n least f m l) (hm:¬0<m) (hl:¬l.length<least):dgs n least=l:=by
 rw [h.d,z0Q _ _ _ ⟨by omega,by omega⟩];rfl
theorem znR (n k:Nat) (h:n<10^20) (hk:k≤20):k≤(dgs n k).length∧∀ c∈dgs n k,48≤c.toNat∧c.toNat≤57:=zfp 20 n k h hk
end Dig
end Go.Proofs.YtgmppconibklcaaGreatDoor

namespace Go.Proofs.YtgmppconibklcaaGreatDoor
namespace Od
def z0H:List Nat→List UInt8
 | []=>[]
 | n::l=>46::(Dig.dgs n 1++z0H l)
def fst2 (g:Nat):Nat:=if g / 40<2 then g / 40 else 2
def z0m:List Nat→List UInt8
 | []=>[]
 | g::l=>Dig.dgs (fst2 g) 1++46::(Dig.dgs (g-40*fst2 g) 1++z0H l)
theorem zb8 (a b:List Nat):z0H (a++b)=z0H a++z0H b:=by
 induction a with
 | nil=>rfl
 | cons n a ih=>simp [z0H,ih]
theorem z4O {l:List Nat} (h:l≠[]) (g:Nat):z0m (l++[g])=z0m l++46::Dig.dgs g 1:=by
 cases l with
 | nil=>exact absurd rfl h
 | cons a l=>simp [z0m,zb8,z0H]
def dec:Nat→List UInt8→Option (List Nat)
 | n,[]=>if n=0 then some [] else none
 | n,c::l=>if (n=0∧c.toNat=128)∨72057594037927935<n then none
  else if 128≤c.toNat then dec (n*128+c.toNat%128) l else match dec 0 l with
   | some r=>some ((n*128+c.toNat%128)::r)
   | none=>none
def decO (b:List UInt8):Option (List UInt8):=match dec 0 b with
 | some (g::gs)=>some (z0m (g::gs))
 | _=>none
theorem z8b {n:Nat} {c:UInt8} {l:List UInt8} (h:(n=0∧c.toNat=128)∨72057594037927935<n):dec n (c::l)=none:=by
 unfold dec;rw [if_pos h]
theorem z78 {n:Nat} {c:UInt8} {l:List UInt8} (h:¬((n=0∧c.toNat=128)∨72057594037927935<n)) (hc:128≤c.toNat):dec n (c::l)=dec (n*128+c.toNat%128) l:=by
 conv=>lhs;unfold dec
 rw [if_neg h,if_pos hc]
theorem z79 {n:Nat} {c:UInt8} {l:List UInt8} (h:¬((n=0∧c.toNat=128)∨72057594037927935<n)) (hc:c.toNat<128):dec n (c::l)=match dec 0 l with
  | some r=>some ((n*128+c.toNat%128)::r)
  | none=>none:=by
 conv=>lhs;unfold dec
 rw [if_neg h,if_neg (by omega)]
theorem z2t (f:Nat):hiF f 0=[]:=by cases f<;>simp [hiF]
theorem zdD:∀ (f g m:Nat),m<128^f→m<128^g→hiF f m=hiF g m
 | 0,g,m,h,_=>by
  have:m=0:=by simpa using h
  subst this;rw [z2t,z2t]
 | f+1,0,m,_,h=>by
  have:m=0:=by simpa using h
  subst this;rw [z2t,z2t]
 | f+1,g+1,m,hf,hg=>by
  unfold hiF;by_cases h0:m=0
  ·rw [if_pos h0,if_pos h0]
  ·rw [if_neg h0,if_neg h0,zdD f g (m / 128) (by rw [Nat.pow_succ] at hf;omega) (by rw [Nat.pow_succ] at hg;omega)]
theorem zjB {c:UInt8} {n:Nat} (h:n=c.toNat):UInt8.ofNat n=c:=by
 subst h;simp
theorem ziZ {n:Nat} {c:UInt8} (h:¬((n=0∧c.toNat=128)∨72057594037927935<n)) (hc:128≤c.toNat):hiF 10 (n*128+c.toNat%128)=hiF 10 n++[c]:=by
 have hlt:=c.toNat_lt;have hm:n*128+c.toNat%128≠0:=by omega
 have e1:(n*128+c.toNat%128) / 128=n:=by omega
 have e2:(n*128+c.toNat%128)%128+128=c.toNat:=by omega
 have e3:hiF 9 n=hiF 10 n:=zdD 9 10 n (by omega) (by omega)
 conv=>lhs;unfold hiF
 rw [if_neg hm,e1,e2,e3,zjB rfl]
theorem zjI {n:Nat} {c:UInt8} (hc:c.toNat<128):b128 (n*128+c.toNat%128)=hiF 10 n++[c]:=by
 have e1:(n*128+c.toNat%128) / 128=n:=by omega
 have e2:(n*128+c.toNat%128)%128=c.toNat:=by omega
 unfold b128;rw [e1,e2,zjB rfl]
theorem z4q:∀ (l:List UInt8) (n:Nat) (gs:List Nat),n<top→dec n l=some gs→hiF 10 n++l=gs.flatMap b128∧∀ g∈gs,g<top
 | [],n,gs,_,h=>by
  unfold dec at h;split at h
  ·rename_i h0;injection h with h;subst h h0;simp [z2t]
  ·cases h
 | c::l,n,gs,hn,h=>by
  have hlt:=c.toNat_lt;by_cases hb:(n=0∧c.toNat=128)∨72057594037927935<n
  ·rw [z8b hb] at h;cases h
  ·by_cases hc:128≤c.toNat
   ·rw [z78 hb hc] at h;obtain ⟨h1,h2⟩:=z4q l _ gs (by unfold top;omega) h;rw [ziZ hb hc] at h1;exact ⟨by rw [←h1];simp,h2⟩
   ·rw [z79 hb (by omega)] at h;cases hd:dec 0 l with
    | none=>rw [hd] at h;cases h
    | some r=>
     rw [hd] at h;simp only [Option.some.injEq] at h;subst h;obtain ⟨h1,h2⟩:=z4q l 0 r (by decide) hd;rw [z2t,List.nil_append] at h1;refine ⟨?_,fun g hg=>?_⟩
     ·rw [List.flatMap_cons,zjI (by omega),←h1];simp
     ·rcases List.mem_cons.1 hg with rfl|hg
      ·unfold top;omega
      ·exact h2 g hg
theorem zmh:∀ (f m:Nat) (l:List UInt8),m<128^f→m<top→dec 0 (hiF f m++l)=dec m l
 | 0,m,l,h,_=>by
  have:m=0:=by simpa using h
  subst this;rfl
 | f+1,m,l,h,ht=>by
  by_cases h0:m=0
  ·subst h0;rw [z2t];rfl
  ·have e:hiF (f+1) m=hiF f (m / 128)++[UInt8.ofNat (m%128+128)]:=by
    conv=>lhs;unfold hiF
    rw [if_neg h0]
   have hc:(UInt8.ofNat (m%128+128)).toNat=m%128+128:=by rw [UInt8.toNat_ofNat'];omega
   unfold top at ht;rw [e,List.append_assoc,zmh f (m / 128) _ (by rw [Nat.pow_succ] at h;omega) (by unfold top;omega)];show dec (m / 128) (UInt8.ofNat (m%128+128)::l)=_;rw [z78 (by rw [hc];omega) (by rw [hc];omega),hc]
   congr 1;omega
theorem zlw (g:Nat) (l:List UInt8) (h:g<top):dec 0 (b128 g++l)=match dec 0 l with
  | some r=>some (g::r)
  | none=>none:=by
 have hc:(UInt8.ofNat (g%128)).toNat=g%128:=by rw [UInt8.toNat_ofNat'];omega
 unfold top at h;unfold b128;rw [List.append_assoc,zmh 10 (g / 128) _ (by omega) (by unfold top;omega)];show dec (g / 128) (UInt8.ofNat (g%128)::l)=_;rw [z79 (by rw [hc];omega) (by rw [hc];omega),hc];have e:g / 128*128+g%128%128=g:=by omega
 rw [e]
theorem z4r:∀ (gs:List Nat),(∀ g∈gs,g<top)→dec 0 (gs.flatMap b128)=some gs
 | [],_=>rfl
 | g::gs,h=>by
  rw [List.flatMap_cons,zlw g _ (h g (by simp)),z4r gs (fun x hx=>h x (by simp [hx]))]
theorem z5b:∀ (f n k:Nat),n<10^f→k≤f→val (Dig.dgsF f n k)=n
 | 0,n,k,h,_=>by
  have:n=0:=by simpa using h
  subst this;rfl
 | f+1,n,k,h,hk=>by
  by_cases hh:n=0∧k=0
  ·rw [Dig.z0Q _ _ _ hh,hh.1];rfl
  ·rw [Dig.z1b _ _ _ hh,z3M,z5b f _ _ (Dig.z3c h) (by omega),Dig.z3H];omega
theorem zcj:∀ (f n:Nat),n<10^f→n≠0→∃ c l,Dig.dgsF f n 0=c::l∧c≠48
 | 0,n,h,h0=>by
  have:n=0:=by simpa using h
  exact absurd this h0
 | f+1,n,h,h0=>by
  rw [Dig.z1b _ _ _ (by omega)];by_cases h1:n / 10=0
  ·rw [h1,Dig.z0Q _ _ _ ⟨rfl,rfl⟩];refine ⟨_,_,rfl,fun e=>?_⟩;have:=congrArg UInt8.toNat e;rw [Dig.z3H] at this;have e2:(48:UInt8).toNat=48:=rfl;omega
  ·obtain ⟨c,l,e,hc⟩:=zcj f (n / 10) (Dig.z3c h) h1;exact ⟨c,l++[Dig.dig n],by rw [show 0-1=0 from rfl,e];rfl,hc⟩
theorem zjp {n:Nat} (h:n≠0):Dig.dgs n 1=Dig.dgsF 20 n 0:=by
 unfold Dig.dgs;rw [Dig.z1b 19 n 1 (by omega),Dig.z1b 19 n 0 (by omega)]
theorem zfm:Dig.dgs 0 1=[48]:=by decide +kernel
theorem zaB {n:Nat} (h:n<top):(Dig.dgs n 1).all z1s=true:=by
 unfold top at h;have:=(Dig.znR n 1 (by omega) (by omega)).2;rw [List.all_eq_true];intro c hc;simpa [z1s] using this c hc
theorem zkX {n:Nat} (h:n<top):numL (Dig.dgs n 1)=some n:=by
 have hd:=zaB h;unfold top at h;have hv:val (Dig.dgs n 1)=n:=z5b 20 n 1 (by omega) (by omega);have key:=fun h0=>ziB (l:=Dig.dgs n 1) h0 hd (by rw [hv];exact h)
 rw [hv] at key;refine key ?_;by_cases h0:n=0
 ·subst h0;rw [zfm];simp
 ·rw [zjp h0];obtain ⟨c,l,e,hc⟩:=zcj 20 n (by omega) h0;rw [e];simp [hc]
theorem zk8 {c:UInt8} {l:List UInt8}:c.toNat-48≤val (c::l):=by
 show _≤l.foldl _ (0*10+(c.toNat-48));rw [Nat.zero_mul,Nat.zero_add];exact z9u _ _
theorem zfo:∀ (n f:Nat) (p:List UInt8),p.length=n→n≤f→p.all z1s=true→p.head? ≠ some 48→Dig.dgsF f (val p) 0=p
 | 0,f,p,hl,_,_,_=>by
  have:p=[]:=List.eq_nil_of_length_eq_zero hl;subst this;rw [zmv,Dig.z0Q _ _ _ ⟨rfl,rfl⟩]
 | n+1,0,p,_,hf,_,_=>by omega
 | n+1,f+1,p,hl,hf,hd,hh=>by
  have hne:val p≠0:=by
   match p,hl with
   | c::l,_=>
    have h1:=zk8 (c:=c) (l:=l);have h2:z1s c=true:=by simp only [List.all_cons,Bool.and_eq_true] at hd;exact hd.1
    have h3:48≤c.toNat∧c.toNat≤57:=by simpa [z1s] using h2
    have h4:c.toNat≠48:=by
     intro e;apply hh;have:c=48:=UInt8.toNat_inj.1 (by rw [e];rfl);simp [this]
    omega
  rcases List.eq_nil_or_concat p with h0|⟨q,c,h0⟩
  ·subst h0;cases hl
  ·rw [List.concat_eq_append] at h0;subst h0;rw [List.all_append,Bool.and_eq_true] at hd;have h3:48≤c.toNat∧c.toNat≤57:=by simpa [z1s] using hd.2
   have e1:val (q++[c]) / 10=val q:=by rw [z3M];omega
   have e2:Dig.dig (val (q++[c]))=c:=by
    apply UInt8.toNat_inj.1;rw [Dig.z3H,z3M];omega
   have hq:q.head? ≠ some 48:=by
    cases q with
    | nil=>simp
    | cons x q=>simpa using hh
   rw [Dig.z1b _ _ _ (by omega),e1,e2,zfo n f q (by simpa using hl) (by omega) hd.1 hq]
theorem zck:∀ (f g n:Nat),n<10^f→n<10^g→Dig.dgsF f n 0=Dig.dgsF g n 0
 | 0,g,n,h,_=>by
  have:n=0:=by simpa using h
  subst this;rw [Dig.z0Q _ _ _ ⟨rfl,rfl⟩,Dig.z0Q _ _ _ ⟨rfl,rfl⟩]
 | f+1,0,n,_,h=>by
  have:n=0:=by simpa using h
  subst this;rw [Dig.z0Q _ _ _ ⟨rfl,rfl⟩,Dig.z0Q _ _ _ ⟨rfl,rfl⟩]
 | f+1,g+1,n,hf,hg=>by
  by_cases h0:n=0
  ·rw [Dig.z0Q _ _ _ ⟨h0,rfl⟩,Dig.z0Q _ _ _ ⟨h0,rfl⟩]
  ·rw [Dig.z1b _ _ _ (by omega),Dig.z1b _ _ _ (by omega),zck f g (n / 10) (Dig.z3c hf) (Dig.z3c hg)]
theorem ziD {p:List UInt8} {n:Nat} (h:numL p=some n):p=Dig.dgs n 1∧n<top:=by
 unfold numL at h;split at h
 ·cases h
 ·rename_i hn;split at h
  ·rename_i hd;split at h
   ·rename_i hv;injection h with h;subst h;refine ⟨?_,hv⟩;by_cases h48:p.head? = some 48
    ·have h1:p.length≤1:=by
      rcases Nat.lt_or_ge 1 p.length with h1|h1
      ·exact absurd (.inr ⟨h1,h48⟩) hn
      ·exact h1
     match p,h48,h1 with
     | [c],h48,_=>
      simp at h48;subst h48;rw [show val [48]=0 from by decide,zfm]
    ·have hp:=zfo _ p.length p rfl (Nat.le_refl _) hd h48;have hlt:=ze2 p hd;have h0:val p≠0:=by
      intro e;rw [e,Dig.z0Q _ _ _ ⟨rfl,rfl⟩] at hp;exact hn (.inl hp.symm)
     unfold top at hv;rw [zjp h0,zck 20 p.length _ (by omega) hlt,hp]
   ·cases h
  ·cases h
def join:List (List UInt8)→List UInt8
 | []=>[]
 | [p]=>p
 | p::ps=>p++46::join ps
theorem join_cons (p:List UInt8) {ps:List (List UInt8)} (h:ps≠[]):join (p::ps)=p++46::join ps:=by
 cases ps with
 | nil=>exact absurd rfl h
 | cons q ps=>rfl
theorem z9p (s:List UInt8):join (parts 46 s)=s:=by
 induction s with
 | nil=>rfl
 | cons b s ih=>
  unfold parts;by_cases hb:b=46
  ·rw [if_pos hb,join_cons _ (zeR 46 s),ih,hb];rfl
  ·rw [if_neg hb];cases hp:parts 46 s with
   | nil=>exact absurd hp (zeR 46 s)
   | cons q qs=>
    rw [hp] at ih;cases qs with
    | nil=>simp only [join] at ih ⊢;rw [ih]
    | cons r rs=>simp only [join] at ih ⊢;rw [←ih];rfl
theorem z99:∀ (ps:List (List UInt8)),ps≠[]→(∀ p∈ps,∀ b∈p,b≠46)→parts 46 (join ps)=ps
 | [],h,_=>absurd rfl h
 | [p],_,h=>z63 (h p (by simp))
 | p::q::ps,_,h=>by
  rw [join_cons _ (by simp),z7E (h p (by simp)),z99 (q::ps) (by simp) (fun x hx=>h x (by simp [hx]))]
theorem znQ {n:Nat} (h:n<top):∀ b∈Dig.dgs n 1,b≠46:=by
 intro b hb e;have:=List.all_eq_true.1 (zaB h) b hb;subst e;revert this;decide
theorem zho (a:List UInt8) (l:List Nat):a++z0H l=join (a::l.map (Dig.dgs · 1)):=by
 induction l generalizing a with
 | nil=>simp [z0H,join]
 | cons n l ih=>
  rw [List.map_cons,join_cons _ (by simp),←ih];rfl
def two:List Nat→List Nat
 | []=>[]
 | g::l=>fst2 g::(g-40*fst2 g)::l
theorem z7j (g:Nat) (l:List Nat):z0m (g::l)=join ((two (g::l)).map (Dig.dgs · 1)):=by
 show Dig.dgs (fst2 g) 1++46::(Dig.dgs (g-40*fst2 g) 1++z0H l)=_;rw [zho];rfl
theorem zmw {g:Nat} {l:List Nat} (h:∀ x∈g::l,x<top):∀ x∈two (g::l),x<top:=by
 intro x hx;have hg:=h g (by simp);unfold two at hx;rcases List.mem_cons.1 hx with rfl|hx
 ·unfold fst2 top;split<;>omega
 ·rcases List.mem_cons.1 hx with rfl|hx
  ·omega
  ·exact h x (by simp [hx])
theorem two_ok {g:Nat} {l:List Nat} (h:g<top):z1q (two (g::l))=true:=by
 unfold top at h;simp only [z1q,two,top,decide_eq_true_eq,List.length_cons,List.getD_cons_zero,List.getD_cons_succ];unfold fst2;split<;>omega
theorem two_bytes (g:Nat) (l:List Nat):bytesOf (two (g::l))=(g::l).flatMap b128:=by
 have e:40*fst2 g+(g-40*fst2 g)=g:=by unfold fst2;split<;>omega
 simp only [bytesOf,two,List.getD_cons_zero,List.getD_cons_succ,e,List.drop_succ_cons,List.drop_zero,List.flatMap_cons]
theorem z9e:∀ (l:List Nat),(∀ x∈l,x<top)→z0w (l.map (Dig.dgs · 1))=some l
 | [],_=>rfl
 | n::l,h=>by
  rw [List.map_cons];unfold z0w;rw [zkX (h n (by simp)),z9e l (fun x hx=>h x (by simp [hx]))]
theorem z9w {g:Nat} {l:List Nat} (h:∀ x∈g::l,x<top):enc (z0m (g::l))=some ((g::l).flatMap b128):=by
 have ht:=zmw h;have e:parts 46 (z0m (g::l))=(two (g::l)).map (Dig.dgs · 1):=by
  rw [z7j];refine z99 _ (by simp [two]) (fun p hp b hb=>?_);obtain ⟨x,hx,rfl⟩:=List.mem_map.1 hp;exact znQ (ht x hx) b hb
 unfold enc;rw [e,z9e _ ht];simp only [two_ok (h g (by simp)),if_true,two_bytes]
theorem z4T:∀ (ps:List (List UInt8)) (l:List Nat),z0w ps=some l→ps=l.map (Dig.dgs · 1)∧∀ x∈l,x<top
 | [],l,h=>by
  simp [z0w] at h;subst h;simp
 | p::ps,l,h=>by
  unfold z0w at h;cases hp:numL p with
  | none=>rw [hp] at h;simp at h
  | some n=>
   rw [hp] at h;cases hq:z0w ps with
   | none=>rw [hq] at h;simp at h
   | some ns=>
    rw [hq] at h;simp only [Option.some.injEq] at h;subst h;obtain ⟨h1,h2⟩:=z4T ps ns hq;obtain ⟨h3,h4⟩:=ziD hp;refine ⟨by rw [List.map_cons,←h1,←h3],fun x hx=>?_⟩;rcases List.mem_cons.1 hx with rfl|hx
    ·exact h4
    ·exact h2 x hx
theorem zaI {s b:List UInt8} (h:enc s=some b):decO b=some s:=by
 unfold enc at h;cases hn:z0w (parts 46 s) with
 | none=>rw [hn] at h;cases h
 | some l=>
  rw [hn] at h;replace h:(if z1q l=true then some (bytesOf l) else none)=some b:=h;cases hok:z1q l with
  | false=>rw [hok] at h;cases h
  | true=>
   rw [hok] at h;simp only [if_true,Option.some.injEq] at h;subst h;obtain ⟨h1,h2⟩:=z4T _ _ hn;match l,hok,h1,h2 with
   | [],hok,_,_=>simp [z1q] at hok
   | [a],hok,_,_=>simp [z1q] at hok
   | a::c::l,hok,h1,h2=>
    simp only [z1q,top,decide_eq_true_eq,List.length_cons,List.getD_cons_zero,List.getD_cons_succ] at hok;have e1:fst2 (40*a+c)=a:=by unfold fst2;split<;>omega
    have e2:two ((40*a+c)::l)=a::c::l:=by
     show fst2 (40*a+c)::(40*a+c-40*fst2 (40*a+c))::l=_;rw [e1,show 40*a+c-40*a=c by omega]
    have ht:∀ x∈(40*a+c)::l,x<top:=by
     intro x hx;rcases List.mem_cons.1 hx with rfl|hx
     ·unfold top;omega
     ·exact h2 x (by simp [hx])
    have e3:bytesOf (a::c::l)=((40*a+c)::l).flatMap b128:=by rw [←e2,two_bytes]
    unfold decO;rw [e3,z4r _ ht];simp only [z7j,e2,←h1,z9p]
theorem z8c {b t:List UInt8} (h:decO b=some t):∃ g gs,dec 0 b=some (g::gs)∧t=z0m (g::gs):=by
 unfold decO at h;cases hd:dec 0 b with
 | none=>rw [hd] at h;cases h
 | some r=>
  rw [hd] at h;cases r with
  | nil=>cases h
  | cons g gs=>injection h with h;exact ⟨g,gs,rfl,h.symm⟩
theorem zln {b t:List UInt8} (h:decO b=some t):enc t=some b:=by
 obtain ⟨g,gs,hd,rfl⟩:=z8c h;obtain ⟨h1,h2⟩:=z4q b 0 _ (by decide) hd;rw [z2t,List.nil_append] at h1;rw [z9w h2,←h1]
end Od
end Go.Proofs.YtgmppconibklcaaGreatDoor

namespace Go.Proofs.YtgmppconibklcaaGreatDoor

namespace Cal
def lp (y:Int):Int:=if y%4=0∧(y%100≠0∨y%400=0) then 1 else 0
def dim (y m:Int):Int:=if m=2 then 28+lp y else if m=4∨m=6∨m=9∨m=11 then 30 else 31
def dby (y:Int):Int:=365*y+(y+3) / 4-(y+99) / 100+(y+399) / 400
def cum (y m:Int):Int:=
 if m≤1 then 0 else if m=2 then 31 else if m=3 then 59+lp y else if m=4 then 90+lp y else if m=5 then 120+lp y else if m=6 then 151+lp y
 else if m=7 then 181+lp y else if m=8 then 212+lp y else if m=9 then 243+lp y else if m=10 then 273+lp y else if m=11 then 304+lp y else if m=12 then 334+lp y else 365+lp y
def num (y m d:Int):Int:=dby y+cum y m+d-1
structure Is (n y m d:Int):Prop where
 y0:0≤y
 y1:y≤9999
 m0:1≤m
 m1:m≤12
 d0:1≤d
 d1:d≤dim y m
 n:num y m d=n

theorem zdt (y:Int):lp y=0∨lp y=1:=by unfold lp;split<;>simp
theorem zci (y m:Int):28≤dim y m∧dim y m≤31:=by
 have:=zdt y;unfold dim;split
 ·omega
 ·split<;>omega
theorem zaK (y:Int) (_:0≤y):dby (y+1)=dby y+365+lp y:=by
 unfold dby lp;split<;>omega
theorem z7a (a b:Int) (h:a≤b):dby a≤dby b:=by unfold dby;omega
theorem zaJ:dby 0=0:=rfl
theorem zjs:dby 10000=3652425:=rfl
theorem z3V (y m:Int) (h0:1≤m) (h1:m≤12):cum y (m+1)=cum y m+dim y m:=by
 have:=zdt y;obtain rfl|rfl|rfl|rfl|rfl|rfl|rfl|rfl|rfl|rfl|rfl|rfl:m=1∨m=2∨m=3∨m=4∨m=5∨m=6∨m=7∨m=8∨m=9∨m=10∨m=11∨m=12:=by omega
 all_goals (simp [cum,dim];try omega)
theorem zjv (y m:Int) (h0:1≤m) (h1:m≤12):cum y m<cum y (m+1):=by
 have:=z3V y m h0 h1;have:=zci y m;omega
theorem zjw (y:Int):cum y 13=365+lp y:=by simp [cum]
theorem zlx (y:Int):cum y 1=0:=by simp [cum]
theorem z5H (y a b:Int) (h0:1≤a) (h:a≤b) (h1:b≤13):cum y a≤cum y b:=by
 obtain ⟨k,rfl⟩:∃ k:Nat,b=a+k:=⟨(b-a).toNat,by omega⟩;induction k with
 | zero=>simp
 | succ j ih=>
  have h2:=ih (by omega) (by omega);have h3:=zjv y (a+j) (by omega) (by omega);rw [show a+((j+1:Nat):Int)=a+j+1 by omega];omega
theorem zfx (y m:Int) (h0:1≤m) (h1:m≤13):0≤cum y m∧cum y m≤366:=by
 have a:=z5H y 1 m (by omega) h0 h1;have b:=z5H y m 13 h0 h1 (by omega);have c:=zdt y;rw [zlx] at a;rw [zjw] at b;omega
theorem Is.within {n y m d:Int} (h:Is n y m d):dby y≤n∧n<dby (y+1):=by
 obtain ⟨y0,y1,m0,m1,d0,d1,hn⟩:=h;have h1:=z3V y m m0 m1;have h2:=z5H y (m+1) 13 (by omega) (by omega) (by omega);have h3:=zjw y;have h4:=zaK y y0;have h5:=zfx y m m0 (by omega);unfold num at hn;omega
theorem Is.range {n y m d:Int} (h:Is n y m d):0≤n∧n<3652425:=by
 have hw:=h.within;have a:=z7a 0 y h.y0;have b:=z7a (y+1) 10000 (by have:=h.y1;omega);rw [zaJ] at a;rw [zjs] at b;omega
theorem Is.one {n y m d y' m' d':Int} (h:Is n y m d) (k:Is n y' m' d'):y=y'∧m=m'∧d=d':=by
 have hw:=h.within;have kw:=k.within;have hy:y=y':=by
  rcases Int.lt_trichotomy y y' with hl|he|hl
  ·have:=z7a (y+1) y' (by omega);omega
  ·exact he
  ·have:=z7a (y'+1) y (by omega);omega
 subst hy;obtain ⟨y0,y1,m0,m1,d0,d1,hn⟩:=h;obtain ⟨_,_,n0,n1,e0,e1,hm⟩:=k;unfold num at hn hm;have c1:=z3V y m m0 m1;have c2:=z3V y m' n0 n1;have hmm:m=m':=by
  rcases Int.lt_trichotomy m m' with hl|he|hl
  ·have:=z5H y (m+1) m' (by omega) (by omega) (by omega);omega
  ·exact he
  ·have:=z5H y (m'+1) m (by omega) (by omega) (by omega);omega
 subst hmm;exact ⟨rfl,rfl,by omega⟩
theorem zl3 (y:Int) (r:Int) (h0:0≤r) (h1:r<365+lp y):∃ m,1≤m∧m≤12∧cum y m≤r∧r<cum y (m+1):=by
 have hk:∀ k:Nat,k≤12→r<cum y ((k:Int)+1)→∃ m,1≤m∧m≤12∧cum y m≤r∧r<cum y (m+1):=by
  intro k;induction k with
  | zero=>intro _ h;rw [show ((0:Nat):Int)+1=1 by omega,zlx] at h;omega
  | succ j ih=>
   intro hj h;by_cases hc:cum y ((j:Int)+1)≤r
   ·exact ⟨(j:Int)+1,by omega,by omega,hc,by rw [show ((j+1:Nat):Int)+1=(j:Int)+1+1 by omega] at h;exact h⟩
   ·exact ih (by omega) (by omega)
 exact hk 12 (by omega) (by rw [show ((12:Nat):Int)+1=13 by omega,zjw];exact h1)
theorem zmq (n:Int) (h0:0≤n) (h1:n<3652425):∃ y,0≤y∧y≤9999∧dby y≤n∧n<dby (y+1):=by
 have hk:∀ k:Nat,k≤10000→n<dby (k:Int)→∃ y,0≤y∧y≤9999∧dby y≤n∧n<dby (y+1):=by
  intro k;induction k with
  | zero=>intro _ h;rw [show ((0:Nat):Int)=0 by omega,zaJ] at h;omega
  | succ j ih=>
   intro hj h;by_cases hc:dby (j:Int)≤n
   ·exact ⟨(j:Int),by omega,by omega,hc,by rw [show ((j+1:Nat):Int)=(j:Int)+1 by omega] at h;exact h⟩
   ·exact ih (by omega) (by omega)
 exact hk 10000 (by omega) (by rw [show ((10000:Nat):Int)=10000 by omega,zjs];exact h1)
theorem ex (n:Int) (h0:0≤n) (h1:n<3652425):∃ y m d,Is n y m d:=by
 obtain ⟨y,y0,y1,h2,h3⟩:=zmq n h0 h1;have hs:=zaK y y0;obtain ⟨m,m0,m1,h4,h5⟩:=zl3 y (n-dby y) (by omega) (by omega);have hc:=z3V y m m0 m1;exact ⟨y,m,n-dby y-cum y m+1,y0,y1,m0,m1,by omega,by omega,by unfold num;omega⟩
theorem zfs (a:Int) (h0:0≤a) (h:a≤10000):0≤dby a∧dby a≤3652425:=by unfold dby;omega
end Cal
end Go.Proofs.YtgmppconibklcaaGreatDoor

namespace Go.Proofs.YtgmppconibklcaaGreatDoor
namespace Tm
def clk (m d s:Nat):List UInt8:=Dig.dgs m 2++Dig.dgs d 2++Dig.dgs (s / 3600) 2++Dig.dgs (s / 60%60) 2++Dig.dgs (s%60) 2
def yr (y width:Nat):Nat:=if width=2 then y%100 else y
def txt (y m d s width:Nat):List UInt8:=Dig.dgs (yr y width) width++clk m d s
def rstrip (l:List UInt8):List UInt8:=(l.reverse.dropWhile (·==48)).reverse
def long (y m d s u:Nat):List UInt8:=if u=0 then txt y m d s 4++[90] else rstrip (txt y m d s 4++46::Dig.dgs u 6)++[90]
def short (y m d s:Nat):List UInt8:=txt y m d s 2++[90]
end Tm
end Go.Proofs.YtgmppconibklcaaGreatDoor

