/- Part of the proof. No condition. -/
import Derived.Test.YtgmppconibklcaaGreatDoorM0
import Derived.Great.FillDense
import Derived.Great.BuildSlice
import Derived.Laws.IdiomCopy
set_option maxHeartbeats 40000000
set_option maxRecDepth 100000
set_option linter.unusedVariables false
set_option linter.unusedSimpArgs false
namespace Go.Proofs.YtgmppconibklcaaGreatDoor
open Go Go.RowKit
namespace Am
abbrev Im:=Addr→Option Value
inductive RD (im:Im):Value→D→Prop
 | leaf (v:Value) (h:v.oneCell'=true):RD im v (.leaf v)
 | row (A:Option Addr) (n c size:Nat) (xs:List Value) (l:List D) (hn:l.length=n*size) (hx:xs.length=l.length) (hz:0<size) (hc:n≤c)
   (hs:0<n→∃ g o,A=some ⟨g,o,none⟩∧∀ j u,xs[j]? = some u→im ⟨g,o+j,none⟩=some u)
   (hd:∀ (j:Nat) (u:Value) (d:D),xs[j]? = some u→l[j]? = some d→RD im u d):RD im (.slice A n c) (.row size l)
structure Gh where
 im:Im
 loc:Nat→Option Value
def RC (G:Gh) (v:Value):C→Prop
 | .d x=>RD G.im v x
 | .nilS=>v = .slice none 0 0
 | .gr q s l=>RD G.im v (.row s l)∧G.loc q=some v
 | .ref p off=>∃ b,G.loc p=some (.pointer (some ⟨b,0,none⟩))∧v = .pointer (some ⟨b,off,none⟩)
 | .ep l=>∃ g o,v = .pointer (some ⟨g,o,none⟩)∧∀ (j:Nat) (x:D),l[j]? = some x→∃ u,G.im ⟨g,o+j,none⟩=some u∧RD G.im u x
 | .sl p n s=>∃ b,G.loc p=some (.pointer (some ⟨b,0,none⟩))∧v = .slice (some ⟨b,0,none⟩) n n
 | .dead=>v.oneCell'=true
def RCs (G:Gh) (us:List Value) (cs:List C):Prop:=us.length=cs.length∧∀ (j:Nat) (u:Value) (c:C),us[j]? = some u→cs[j]? = some c→RC G u c
def RE (G:Gh) (v:Value):E→Prop
 | .one c=>RC G v c
 | .agg cs=>∃ us:Array Value,v = .agg us∧RCs G us.toList cs
def REs (G:Gh) (vs:List Value) (xs:List E):Prop:=vs.length=xs.length∧∀ (j:Nat) (u:Value) (x:E),vs[j]? = some u→xs[j]? = some x→RE G u x
def RT (G:Gh) (v:Value):T→Prop
 | .e x=>RE G v x
 | .tup xs=>∃ vs:Array Value,v = .tuple vs∧REs G vs.toList xs
 | .undef=>v=undef
theorem RD.one {im:Im} {v:Value} {x:D} (h:RD im v x):v.oneCell'=true:=by cases h with|leaf _ h=>exact h|row=>rfl
theorem RD.mono {im im':Im} {v:Value} {x:D} (h:RD im v x) (hi:∀ a u,im a=some u→im' a=some u):RD im' v x:=by
 induction h with
 | leaf v h=>exact .leaf v h
 | row A n c size xs l hn hx hz hc hs hd ih=>
  refine .row A n c size xs l hn hx hz hc (fun h0=>?_) ih;obtain ⟨g,o,hA,hcell⟩:=hs h0;exact ⟨g,o,hA,fun j u hu=>hi _ _ (hcell j u hu)⟩
theorem RC.one {G:Gh} {v:Value} {c:C} (h:RC G v c):v.oneCell'=true:=by
 cases c with
 | d x=>exact RD.one h
 | nilS=>rw [show v=_ from h];rfl
 | gr q s l=>exact RD.one h.1
 | ref p off=>obtain ⟨b,_,rfl⟩:=h;rfl
 | ep l=>obtain ⟨g,o,rfl,_⟩:=h;rfl
 | sl p n s=>obtain ⟨b,_,rfl⟩:=h;rfl
 | dead=>exact h
theorem zaj {v:Value} (h:v.oneCell'=true):v.cells=#[v]:=by cases v<;>first|rfl|cases h
theorem RE.cells {G:Gh} {v:Value} {x:E} (h:RE G v x):RCs G v.cells.toList x.cells:=by
 cases x with
 | one c=>
  rw [zaj (RC.one h)];refine ⟨rfl,fun j u c' hu hc=>?_⟩;match j with
  | 0=>simp [E.cells] at hu hc;subst hu;subst hc;exact h
  | j+1=>simp at hu
 | agg cs=>obtain ⟨us,rfl,h⟩:=h;exact h
theorem zlZ {p:Prop} (h:p:=by
  by_cases hne:p∈ks
  ·simp only [C.kill,List.contains_iff_mem.2 hne,if_true];obtain ⟨b,_,rfl⟩:=h;rfl
  ·have:ks.contains p=false:=by simpa using hne
   simp only [C.kill,this,Bool.false_eq_true,if_false];obtain ⟨b,h1,h2⟩:=h;exact ⟨b,(hl _ hne).trans h1,h2⟩):p:=h
theorem RC.kill {G G':Gh} {v:Value} {c:C} {ks:List Nat} (h:RC G v c) (hi:∀ a u,G.im a=some u→G'.im a=some u) (hl:∀ p,p∉ks→G'.loc p=G.loc p):RC G' v (c.kill ks):=by
 cases c with
 | d x=>exact RD.mono h hi
 | nilS=>exact h
 | gr q' s l=>
  by_cases hne:q'∈ks
  ·simp only [C.kill,List.contains_iff_mem.2 hne,if_true];exact RD.one h.1
  ·have:ks.contains q'=false:=by simpa using hne
   simp only [C.kill,this,Bool.false_eq_true,if_false];exact ⟨RD.mono h.1 hi,(hl _ hne).trans h.2⟩
 | ref p off=>
  exact zlZ
 | ep l=>
  obtain ⟨g,o,h1,h2⟩:=h;exact ⟨g,o,h1,fun j x hx=>by obtain ⟨u,h3,h4⟩:=h2 j x hx;exact ⟨u,hi _ _ h3,h4.mono hi⟩⟩
 | sl p n s=>
  exact zlZ
 | dead=>exact h
theorem C.z0I (c:C):c.kill []=c:=by cases c<;>rfl
theorem z6B (cs:List C):cs.map (C.kill [])=cs:=by
 induction cs with
 | nil=>rfl
 | cons c cs ih=>rw [List.map_cons,ih,C.z0I]
theorem E.z0I (x:E):x.kill []=x:=by cases x<;>simp [E.kill,C.z0I,z6B]
theorem T.z0I (t:T):t.kill []=t:=by
 cases t with
 | e x=>simp [T.kill,E.z0I]
 | tup xs=>
  simp only [T.kill]
  congr 1
  induction xs with
  | nil=>rfl
  | cons c cs ih=>rw [List.map_cons,ih,E.z0I]
 | undef=>rfl
theorem O.z0I (o:O):o.kill []=o:=by cases o<;>simp [O.kill,z6B]
theorem RC.mono {G G':Gh} {v:Value} {c:C} (h:RC G v c) (hi:∀ a u,G.im a=some u→G'.im a=some u) (hl:G'.loc=G.loc):RC G' v c:=by
 cases c with
 | d x=>exact RD.mono h hi
 | nilS=>exact h
 | gr q' s l=>exact ⟨RD.mono h.1 hi,by rw [hl];exact h.2⟩
 | ref p off=>obtain ⟨b,h1,h2⟩:=h;exact ⟨b,by rw [hl];exact h1,h2⟩
 | ep l=>
  obtain ⟨g,o,h1,h2⟩:=h;exact ⟨g,o,h1,fun j x hx=>by obtain ⟨u,h3,h4⟩:=h2 j x hx;exact ⟨u,hi _ _ h3,h4.mono hi⟩⟩
 | sl p n s=>obtain ⟨b,h1,h2⟩:=h;exact ⟨b,by rw [hl];exact h1,h2⟩
 | dead=>exact h
theorem RCs.map {G G':Gh} {us:List Value} {cs:List C} {f:C→C} (h:RCs G us cs) (hf:∀ u c,RC G u c→RC G' u (f c)):RCs G' us (cs.map f):=
 ⟨by simp [h.1],fun j u c hu hc=>by
  rw [List.getElem?_map] at hc;cases hcj:cs[j]? with
  | none=>rw [hcj] at hc;cases hc
  | some c0=>
   rw [hcj] at hc;simp at hc;subst hc;exact hf u c0 (h.2 j u c0 hu hcj)⟩
theorem REs.map {G G':Gh} {us:List Value} {xs:List E} {f:E→E} (h:REs G us xs) (hf:∀ u x,RE G u x→RE G' u (f x)):REs G' us (xs.map f):=
 ⟨by simp [h.1],fun j u c hu hc=>by
  rw [List.getElem?_map] at hc;cases hcj:xs[j]? with
  | none=>rw [hcj] at hc;cases hc
  | some c0=>
   rw [hcj] at hc;simp at hc;subst hc;exact hf u c0 (h.2 j u c0 hu hcj)⟩
section
variable {G G':Gh} {ks:List Nat}
theorem RE.kill (hi:∀ a u,G.im a=some u→G'.im a=some u) (hl:∀ p,p∉ks→G'.loc p=G.loc p) {v:Value} {x:E} (h:RE G v x):RE G' v (x.kill ks):=by
 cases x with
 | one c=>exact RC.kill h hi hl
 | agg cs=>obtain ⟨us,rfl,h⟩:=h;exact ⟨us,rfl,h.map fun u c hc=>hc.kill hi hl⟩
theorem RT.kill (hi:∀ a u,G.im a=some u→G'.im a=some u) (hl:∀ p,p∉ks→G'.loc p=G.loc p) {v:Value} {t:T} (h:RT G v t):RT G' v (t.kill ks):=by
 cases t with
 | e x=>exact RE.kill hi hl h
 | tup xs=>obtain ⟨vs,rfl,h⟩:=h;exact ⟨vs,rfl,h.map fun u c hc=>hc.kill hi hl⟩
 | undef=>exact h
theorem RCs.mono {us:List Value} {cs:List C} (h:RCs G us cs) (hi:∀ a u,G.im a=some u→G'.im a=some u) (hl:G'.loc=G.loc):RCs G' us cs:=⟨h.1,fun j u c hu hc=>(h.2 j u c hu hc).mono hi hl⟩
theorem RE.mono {v:Value} {x:E} (h:RE G v x) (hi:∀ a u,G.im a=some u→G'.im a=some u) (hl:G'.loc=G.loc):RE G' v x:=by
 cases x with
 | one c=>exact RC.mono h hi hl
 | agg cs=>obtain ⟨us,rfl,h⟩:=h;exact ⟨us,rfl,h.mono hi hl⟩
theorem RT.mono {v:Value} {t:T} (h:RT G v t) (hi:∀ a u,G.im a=some u→G'.im a=some u) (hl:G'.loc=G.loc):RT G' v t:=by
 cases t with
 | e x=>exact RE.mono h hi hl
 | tup xs=>obtain ⟨vs,rfl,h⟩:=h;exact ⟨vs,rfl,h.1,fun j u x hu hx=>(h.2 j u x hu hx).mono hi hl⟩
 | undef=>exact h
end
def Gh.blk (G:Gh) (p:Nat):Option Nat:=
 match G.loc p with
 | some (.pointer (some a))=>some a.block
 | some (.slice (some a) _ _)=>some a.block
 | _=>none
structure Ctx where
 W0:World
 w1:World
 im1:Im
 gl:Nat→Option (List D)
 tb:World→Prop
 ch:Nat→Prop
 lo:Nat→Option Value
structure Only (ch:Nat→Prop) (w w':World):Prop where
 os:w'.os=w.os
 tape:w'.tape=w.tape
 output:w'.output=w.output
 size:w.heap.size≤w'.heap.size
 block:∀ k,k<w.heap.size→¬ch k→w'.heap[k]? = w.heap[k]?
theorem Only.refl (ch:Nat→Prop) (w:World):Only ch w w:=⟨rfl,rfl,rfl,Nat.le_refl _,fun _ _ _=>rfl⟩
theorem Only.step {ch ch':Nat→Prop} {a w w':World} (h:Only ch a w) (k:Only ch' w w') (hc:∀ b,ch' b→b<a.heap.size→ch b):Only ch a w' :=
 ⟨k.os.trans h.os,k.tape.trans h.tape,k.output.trans h.output,Nat.le_trans h.size k.size,fun i hi hn=>(k.block i (Nat.lt_of_lt_of_le hi h.size) (fun e=>hn (hc i e hi))).trans (h.block i hi hn)⟩
theorem Only.below {ch:Nat→Prop} {a w w':World} (h:Only ch a w) (k:Below w.heap.size w w'):Only ch a w' :=
 ⟨k.os.trans h.os,k.tape.trans h.tape,k.output.trans h.output,Nat.le_trans h.size k.size,fun i hi hn=>(k.block i (Nat.lt_of_lt_of_le hi h.size)).trans (h.block i hi hn)⟩
theorem Only.grown {ch:Nat→Prop} {a w w':World} {r:Option Nat} (h:Only ch a w) (k:w.grownBy w' r) (hr:∀ g,r=some g→a.heap.size≤g∨ch g):Only ch a w' :=
 ⟨k.os.trans h.os,k.tape.trans h.tape,k.output.trans h.output,Nat.le_trans h.size k.size,fun i hi hn=>(k.block i (Nat.lt_of_lt_of_le hi h.size) (fun e=>by
  rcases hr i e.symm with h1|h1
  ·omega
  ·exact hn h1)).trans (h.block i hi hn)⟩
def RO (c:Ctx) (G:Gh) (w:World) (p:Nat):O→Prop
 | .var ty cs=>∃ (b:Nat) (us:Array Value),G.loc p=some (.pointer (some ⟨b,0,none⟩))∧(c.w1.heap.size≤b∨c.ch b)∧Blk w b ty us∧RCs G us.toList cs∧∀ off,G.im ⟨b,off,none⟩=none
 | .own e s n=>∃ (v:Value) (us:List Value),G.loc p=some v∧w.ownsRow c.w1.heap.size e s v n us∧∀ g,v.ownBlock=some g→∀ off u,G.im ⟨g,off,none⟩=some u→off<n*s
structure Inv (c:Ctx) (G:Gh) (h:Nat→Option O) (w:World):Prop where
 tb:c.tb c.W0
 base:Below c.W0.heap.size c.W0 c.w1
 chb:∀ k,c.ch k→c.W0.heap.size≤k∧k<c.w1.heap.size
 below:Only c.ch c.w1 w
 imw:∀ a u,G.im a=some u→w.cell? a=some u
 imx:∀ a u,c.im1 a=some u→G.im a=some u
 imo:∀ a,a.block<c.w1.heap.size→¬c.ch a.block→G.im a=c.im1 a
 pas:∀ i,G.loc (i*16+15)=c.lo i
 glob:∀ g l,c.gl g=some l→RC G (.pointer (some ⟨g,0,none⟩)) (.ep l)
 obj:∀ p o,h p=some o→RO c G w p o
 sep:∀ p q o o' b,h p=some o→h q=some o'→G.blk p=some b→G.blk q=some b→p=q
theorem Inv.old {c:Ctx} {G:Gh} {h:Nat→Option O} {w:World} (hI:Inv c G h w):Below c.W0.heap.size c.W0 w:=
 ⟨hI.below.os.trans hI.base.os,hI.below.tape.trans hI.base.tape,hI.below.output.trans hI.base.output,Nat.le_trans hI.base.size hI.below.size,fun k hk=>(hI.below.block k (Nat.lt_of_lt_of_le hk hI.base.size) (fun e=>by have:=(hI.chb k e).1;omega)).trans (hI.base.block k hk)⟩
theorem RO.z5K {c:Ctx} {G:Gh} {w:World} {p:Nat} {o:O} (h:RO c G w p o) {b:Nat} (hb:G.blk p=some b):(c.w1.heap.size≤b∨c.ch b)∧b<w.heap.size:=by
 cases o with
 | var ty cs=>
  obtain ⟨b',us,h1,h2,h3,_,_⟩:=h;unfold Gh.blk at hb;rw [h1] at hb;simp at hb;subst hb;exact ⟨h2,h3.lt⟩
 | own e s n=>
  obtain ⟨v,us,h1,h2,_⟩:=h;unfold Gh.blk at hb;rw [h1] at hb;refine (fun h:c.w1.heap.size≤b∧b<w.heap.size=>⟨.inl h.1,h.2⟩) (h2.lt b ?_);split at hb
  ·rename_i a e;injection e with e;subst e;rcases h2.2 with ⟨h,_⟩|⟨g,cap,cur,h,_⟩<;>cases h
  ·rename_i a _ _ e;injection e with e;subst e;exact hb
  ·cases hb
end Am
end Go.Proofs.YtgmppconibklcaaGreatDoor

namespace Go.Proofs.YtgmppconibklcaaGreatDoor
open Go Go.RowKit
namespace Am
section
variable {P:Program} {w:World} {G:Gh}
theorem zf7 {t:TypeId} {d:TypeDesc} (h:P.underlying t=some d):∃ i,P.info? t=some i:=by
 unfold Program.underlying at h;cases hi:P.info? t with
 | none=>rw [hi] at h;cases h
 | some i=>exact ⟨i,rfl⟩
theorem ziW {t:TypeId} (h:z0g P t≠0):∃ i,P.info? t=some i:=by
 unfold z0g at h;cases hi:P.info? t with
 | none=>rw [hi] at h;exact absurd rfl h
 | some i=>exact ⟨i,rfl⟩
theorem z5h {t:TypeId} {i:TypeInfo} (h:P.info? t=some i):(sizeOf t).run P w = .ok (z0g P t) w:=by
 simp [sizeOf,typeInfo,h,z0g]
theorem z2M {t:TypeId} (h:z0g P t≠0):(sizeOf t).run P w = .ok (z0g P t) w:=by
 obtain ⟨i,hi⟩:=ziW h;exact z5h hi
theorem z5j {t:TypeId} (h:(P.underlying t).isNone=false):(isAgg t).run P w = .ok (zc4 P t) w:=by
 cases hd:P.underlying t with
 | none=>rw [hd] at h;cases h
 | some d=>
  cases d<;>simp [isAgg,run_underlying hd,zc4,hd]
theorem z3h (b o j:Nat):(⟨b,o,none⟩:Addr).add j=⟨b,o+j,none⟩:=by
 unfold Addr.add;split
 ·rename_i h;subst h;rfl
 ·rfl
theorem RCs.get {us:List Value} {cs:List C} (h:RCs G us cs) {j:Nat} {c:C} (hc:cs[j]? = some c):∃ u,us[j]? = some u∧RC G u c:=by
 have hj:j<cs.length:=(List.getElem?_eq_some_iff.1 hc).1;have hj2:j<us.length:=by rw [h.1];exact hj
 exact ⟨us[j],List.getElem?_eq_getElem hj2,h.2 j _ c (List.getElem?_eq_getElem hj2) hc⟩
theorem RCs.drop {us:List Value} {cs:List C} (h:RCs G us cs) (k:Nat):RCs G (us.drop k) (cs.drop k):=
 ⟨by simp [h.1],fun j u c hu hc=>h.2 (k+j) u c (by simpa using hu) (by simpa using hc)⟩
theorem RCs.take {us:List Value} {cs:List C} (h:RCs G us cs) (k:Nat):RCs G (us.take k) (cs.take k):=
 ⟨by simp [h.1],fun j u c hu hc=>h.2 j u c (by rw [List.getElem?_take] at hu;split at hu<;>simp_all) (by rw [List.getElem?_take] at hc;split at hc<;>simp_all)⟩
theorem RCs.app {us vs:List Value} {cs ds:List C} (h:RCs G us cs) (k:RCs G vs ds):RCs G (us++vs) (cs++ds):=
 ⟨by simp [h.1,k.1],fun j u c hu hc=>by
  rcases Nat.lt_or_ge j us.length with hj|hj
  ·rw [List.getElem?_append_left hj] at hu;rw [List.getElem?_append_left (by have:=h.1;omega)] at hc;exact h.2 j u c hu hc
  ·rw [List.getElem?_append_right hj] at hu;rw [List.getElem?_append_right (by have:=h.1;omega),←h.1] at hc;exact k.2 _ u c hu hc⟩
theorem RCs.nil_:RCs G [] []:=⟨rfl,fun j u c hu=>by simp at hu⟩
theorem RCs.zeV {us:List Value} {cs:List C} (h:RCs G us cs):∀ u∈us,u.oneCell'=true:=by
 intro u hu;obtain ⟨j,hj,rfl⟩:=List.getElem_of_mem hu;have hj2:j<cs.length:=by rw [←h.1];exact hj
 exact RC.one (h.2 j us[j] cs[j] (List.getElem?_eq_getElem hj) (List.getElem?_eq_getElem hj2))
theorem zei {t:TypeId} {us:Array Value} {cs:List C} {off:Nat} {x:E} (h:RCs G us.toList cs) (hp:Am.part P t cs off=some x):∃ u,(Go.part t us off).run P w = .ok u w∧RE G u x:=by
 unfold Am.part at hp;cases hn:(P.underlying t).isNone with
 | true=>rw [hn] at hp;simp at hp
 | false=>
  rw [hn] at hp;simp only [Bool.false_eq_true,if_false] at hp;cases ha:zc4 P t with
  | true=>
   rw [ha] at hp;simp only [if_true] at hp;split at hp
   ·rename_i hl;injection hp with hp;subst hp;obtain ⟨d,hd⟩:∃ d,P.underlying t=some d:=by cases hd:P.underlying t with|none=>rw [hd] at hn;cases hn|some d=>exact ⟨d,rfl⟩
    obtain ⟨i,hi⟩:=zf7 hd;refine ⟨.agg (us.extract off (off+z0g P t)),by simp [Go.part,z5j hn,ha,z5h hi],_,rfl,?_⟩;have e:(us.extract off (off+z0g P t)).toList=(us.toList.drop off).take (z0g P t):=by
     simp [List.extract_eq_take_drop]
    rw [e];exact (h.drop off).take _
   ·cases hp
  | false=>
   rw [ha] at hp;simp only [Bool.false_eq_true,if_false] at hp;split at hp
   ·rename_i c hc;injection hp with hp;subst hp;obtain ⟨u,hu,hr⟩:=h.get hc;have hu2:us[off]? = some u:=by rw [←Array.getElem?_toList];exact hu
    exact ⟨u,by simp [Go.part,z5j hn,ha,hu2],hr⟩
   ·cases hp
theorem z2f {t:TypeId} {b o off:Nat} {cs:List C} {x:E} (hc:∀ j c,cs[j]? = some c→∃ u,w.cell? ⟨b,o+j,none⟩=some u∧RC G u c) (hp:Am.part P t cs off=some x):
  ∃ v,(loadVar t ⟨b,o+off,none⟩).run P w = .ok v w∧RE G v x:=by
 unfold Am.part at hp;cases hn:(P.underlying t).isNone with
 | true=>rw [hn] at hp;simp at hp
 | false=>
  rw [hn] at hp;simp only [Bool.false_eq_true,if_false] at hp;cases ha:zc4 P t with
  | true=>
   rw [ha] at hp;simp only [if_true] at hp;split at hp
   ·rename_i hl;injection hp with hp;subst hp;obtain ⟨d,hd⟩:∃ d,P.underlying t=some d:=by cases hd:P.underlying t with|none=>rw [hd] at hn;cases hn|some d=>exact ⟨d,rfl⟩
    obtain ⟨i,hi⟩:=zf7 hd;have hall:∀ j,j<z0g P t→∃ u,w.cell? ⟨b,o+off+j,none⟩=some u∧RC G u (cs[off+j]?.getD .dead):=by
     intro j hj;have hjl:off+j<cs.length:=by omega
     obtain ⟨u,h1,h2⟩:=hc (off+j) cs[off+j] (List.getElem?_eq_getElem hjl);exact ⟨u,by rw [Nat.add_assoc];exact h1,by rw [List.getElem?_eq_getElem hjl];exact h2⟩
    have hl2:=run_loadCells (P:=P) w ⟨b,o+off,none⟩ (z0g P t) (fun j=>(w.cell? ⟨b,o+off+j,none⟩).getD undef) (fun j hj=>by
     rw [z3h];obtain ⟨u,h1,_⟩:=hall j hj;rw [h1];rfl)
    refine ⟨_,by simp [loadVar,z5j hn,ha,z5h hi,hl2];rfl,_,rfl,?_,?_⟩
    ·simp;omega
    ·intro j u c hu hcj;simp only [List.getElem?_map] at hu;rcases Nat.lt_or_ge j (z0g P t) with hj|hj
     ·obtain ⟨u',h1,h2⟩:=hall j hj;rw [List.getElem?_range hj] at hu;simp [h1] at hu;subst hu;rw [List.getElem?_take,if_pos hj,List.getElem?_drop] at hcj;rw [hcj] at h2;exact h2
     ·rw [List.getElem?_eq_none (by simpa using hj)] at hu;cases hu
   ·cases hp
  | false=>
   rw [ha] at hp;simp only [Bool.false_eq_true,if_false] at hp;split at hp
   ·rename_i c hcc;injection hp with hp;subst hp;obtain ⟨u,hu,hr⟩:=hc _ _ hcc;exact ⟨u,by simp [loadVar,z5j hn,ha,hu],hr⟩
   ·cases hp
theorem Blk.setCells {b:Nat} {ty:TypeId}:∀ (vs:List Value) (o:Nat) (w:World) (us:Array Value),Blk w b ty us→o+vs.length≤us.size→Blk (w.setCells b o vs) b ty (us.toList.take o++(vs++us.toList.drop (o+vs.length))).toArray
 | [],o,w,us,h,_=>by simpa [World.setCells] using h
 | v::r,o,w,us,h,hl=>by
  rw [World.setCells];have h1:=h.set_ o v;have h2:=Blk.setCells r (o+1) _ _ h1 (by simp at hl ⊢;omega);have e:((us.setIfInBounds o v).toList.take (o+1)++(r++(us.setIfInBounds o v).toList.drop (o+1+r.length)))=us.toList.take o++((v::r)++us.toList.drop (o+(v::r).length)):=by
   have ho:o<us.toList.length:=by simp at hl ⊢;omega
   apply List.ext_getElem?;intro k;simp only [Array.toList_setIfInBounds,List.getElem?_append,List.length_take,List.length_set,List.length_cons,List.getElem?_drop,List.getElem?_take,List.getElem?_set];rcases Nat.lt_trichotomy k o with hk|hk|hk
   ·rw [if_pos (by omega),if_pos (by omega),if_neg (by omega),if_pos (by omega),if_pos hk]
   ·subst hk;rw [if_pos (by omega),if_pos (by omega),if_pos rfl,if_pos ho,if_neg (by omega),if_pos (by omega),show k-min k us.toList.length=0 by omega];rfl
   ·rw [if_neg (by omega),if_neg (by omega:¬k<min o us.toList.length)];rw [show k-min (o+1) us.toList.length=k-(o+1) by omega,show k-min o us.toList.length=k-o by omega];by_cases hr:k-(o+1)<r.length
    ·rw [if_pos hr,if_pos (by omega),show k-o=(k-(o+1))+1 by omega,List.getElem?_cons_succ]
    ·rw [if_neg hr,if_neg (by omega),if_neg (by omega),show o+1+r.length+(k-(o+1)-r.length)=o+(r.length+1)+(k-o-(r.length+1)) by omega]
  rw [←e];exact h2
theorem z1f {b:Nat}:∀ (vs:List Value) (o:Nat) (w:World) (k:Nat),k≠b→(w.setCells b o vs).heap[k]? = w.heap[k]?
 | [],_,_,_,_=>rfl
 | v::r,o,w,k,h=>by
  rw [World.setCells,z1f r (o+1) _ k h];exact Below.heap_setCell w _ v k h
theorem z2x {b:Nat}:∀ (vs:List Value) (o:Nat) (w:World),(w.setCells b o vs).heap.size=w.heap.size
 | [],_,_=>rfl
 | v::r,o,w=>by rw [World.setCells,z2x r (o+1)];simp [World.setCell]
theorem z0X {b:Nat}:∀ (vs:List Value) (o:Nat) (w:World),(w.setCells b o vs).os=w.os∧(w.setCells b o vs).tape=w.tape∧(w.setCells b o vs).output=w.output
 | [],_,_=>⟨rfl,rfl,rfl⟩
 | v::r,o,w=>by rw [World.setCells];exact z0X r (o+1) _
theorem Below.setCells {B b:Nat} {a w:World} (h:Below B a w) (hb:B≤b) (o:Nat) (vs:List Value):Below B a (w.setCells b o vs):=by
 obtain ⟨h1,h2,h3⟩:=z0X (b:=b) vs o w;exact ⟨h1.trans h.os,h2.trans h.tape,h3.trans h.output,by rw [z2x];exact h.size,fun k hk=>(z1f vs o w k (by omega)).trans (h.block k hk)⟩
theorem z7q {t:TypeId} {b off:Nat} {ty:TypeId} {us:Array Value} {v:Value} (hB:Blk w b ty us) (hs:v.cells.size=z0g P t) (h0:0<v.cells.size) (hl:off+v.cells.size≤us.size) (h1:∀ u∈v.cells.toList,u.oneCell'=true):
  (storeVar t ⟨b,off,none⟩ v).run P w = .ok () (w.setCells b off v.cells.toList):=by
 have hr:=z2M (P:=P) (w:=w) (t:=t) (by omega);have hst:=run_storeCells_cells (P:=P) b off v.cells.toList 0 w (fun j hj=>by rw [hB.cell];simp at hj ⊢;omega) (fun j hj=>hB.frozen _) h1;simp only [Nat.add_zero] at hst;simp [storeVar,hr,hs];exact hst
theorem RCs.z3Y {us vs:List Value} {cs xs:List C} (h:RCs G us cs) (k:RCs G vs xs) (off:Nat):RCs G (us.take off++(vs++us.drop (off+vs.length))) (z3Y cs off xs):=by
 unfold Am.z3Y;rw [k.1];exact (h.take off).app (k.app (h.drop _))
theorem zca {place:Nat→Option (Nat×Nat)} {cells:Array Value} {i off size:Nat} {v:Value} {rest:List (Nat×Value)} (hp:place i=some (off,size)) (hs:v.cells.size=size) (hl:off+size≤cells.size):
  Instr.fill place cells ((i,v)::rest)=Instr.fill place (cells.toList.take off++(v.cells.toList++cells.toList.drop (off+v.cells.toList.length))).toArray rest:=by
 have hc:¬(v.cells.size≠size||off+v.cells.size>cells.size)=true:=by simp;omega
 simp only [Instr.fill,hp];rw [if_neg (by simpa using hc)]
 congr 1
 have hz:v.cells.zipIdx.foldl (fun cs (x:Value×Nat)=>cs.setIfInBounds (off+x.2) x.1) cells=(v.cells.toList.zipIdx 0).foldl (fun cs (x:Value×Nat)=>cs.setIfInBounds (off+x.2) x.1) cells:=by
  rw [←Array.foldl_toList,Array.toList_zipIdx]
 rw [hz];obtain ⟨h1,h2⟩:=Great.foldl_set off v.cells.toList 0 cells;apply Array.ext_getElem?;intro k;rw [h2 k];simp only [List.getElem?_toArray,List.getElem?_append,List.length_take,Array.length_toList,List.getElem?_take,List.getElem?_drop,Nat.add_zero];rcases Nat.lt_or_ge k off with hk|hk
 ·rw [if_neg (by omega),if_pos (by omega),if_pos hk,Array.getElem?_toList]
 ·rw [if_neg (by omega:¬k<min off cells.size),show k-min off cells.size=k-off by omega];by_cases hk2:k-off<v.cells.size
  ·rw [if_pos ⟨hk,by omega,by omega⟩,if_pos hk2]
  ·rw [if_neg (by omega),if_neg hk2,Array.getElem?_toList,show off+v.cells.size+(k-off-v.cells.size)=k by omega]
theorem zaq {place:Nat→Option (Nat×Nat)}:∀ (parts:List (Nat×Option E)) (vs:List (Nat×Value)) (cs cs':List C) (cells:Array Value),lay place cs parts=some cs'→RCs G cells.toList cs →
  vs.map (·.1)=parts.map (·.1)→(∀ (j:Nat) (p:Nat×Option E) (q:Nat×Value) (x:E),parts[j]? = some p→vs[j]? = some q→p.2=some x→RE G q.2 x) →
  ∃ cells':Array Value,Instr.fill place cells vs=some cells'∧RCs G cells'.toList cs'
 | [],vs,cs,cs',cells,h,hc,hm,hr=>by
  have:vs=[]:=by simpa using hm
  subst this;simp [lay] at h;subst h;exact ⟨cells,rfl,hc⟩
 | (i,none)::rest,vs,cs,cs',cells,h,hc,hm,hr=>by
  simp only [lay] at h;cases hp:place i<;>rw [hp] at h<;>cases h
 | (i,some x)::rest,vs,cs,cs',cells,h,hc,hm,hr=>by
  match vs,hm with
  | (k,v)::vs,hm=>
   simp only [List.map_cons,List.cons.injEq] at hm;obtain ⟨rfl,hm2⟩:=hm;simp only [lay] at h;cases hp:place k with
   | none=>rw [hp] at h;cases h
   | some os=>
    obtain ⟨off,size⟩:=os;rw [hp] at h;simp only at h;split at h
    ·rename_i hl;have hv:=hr 0 _ _ x rfl rfl rfl;have hcv:=hv.cells;have hsz:v.cells.size=size:=by have:=hcv.1;simp at this;omega
     have hcl:cells.size=cs.length:=by have:=hc.1;simpa using this
     rw [zca hp hsz (by omega)];refine zaq rest vs _ cs' _ h ?_ hm2 (fun j p q y h1 h2 h3=>hr (j+1) p q y (by simpa using h1) (by simpa using h2) h3);simp only [List.toList_toArray] ;exact hc.z3Y hcv off
    ·cases h
theorem zc_RC {v:Value} (h:v.oneCell'=true):RC G v (zc v):=by
 unfold zc;split
 ·rfl
 ·exact RD.leaf _ h
theorem zcu {v:Value} {x:E} (h:z9E v=some x):RE G v x:=by
 unfold z9E at h;split at h
 ·rename_i cs;split at h
  ·rename_i hall;injection h with h;subst h;refine ⟨cs,rfl,by simp,fun j u c hu hc=>?_⟩;rw [List.getElem?_map,hu] at hc;simp at hc;subst hc;exact zc_RC ((Array.all_eq_true_iff_forall_mem.1 hall) u (Array.mem_of_getElem? (by rw [←Array.getElem?_toList];exact hu)))
  ·cases h
 ·cases h
 ·rename_i h1 h2;injection h with h;subst h;refine zc_RC ?_;cases v<;>first|rfl|exact absurd rfl (h1 _)|exact absurd rfl (h2 _)
theorem z6T {t:TypeId} {x:E} (h:z3K P t=some x):∃ i z,P.info? t=some i∧i.zero=some z∧(zeroValue t).run P w = .ok z w∧RE G z x:=by
 unfold z3K at h;cases hi:P.info? t with
 | none=>rw [hi] at h;cases h
 | some i=>
  rw [hi] at h;simp only at h;cases hz:i.zero with
  | none=>rw [hz] at h;cases h
  | some z=>
   rw [hz] at h;exact ⟨i,z,rfl,hz,by simp [zeroValue,typeInfo,hi,hz],zcu h⟩
theorem z9k:∀ (fs:List Field),(∀ f∈fs,(P.info? f.type).isSome=true)→(fs.mapM fun f=>Prod.mk f.offset <$> sizeOf f.type).run P w = .ok (fs.map fun f=>(f.offset,z0g P f.type)) w
 | [],_=>by simp
 | f::fs,h=>by
  obtain ⟨i,hi⟩:=Option.isSome_iff_exists.1 (h f (by simp));simp [List.mapM_cons,z5h hi,z9k fs (fun g hg=>h g (by simp [hg]))]
theorem zg9 {t:TypeId} {parts:List (Nat×Option E)} {vs:Array (Nat×Value)} {x:E} (h:z88 P t parts=some x) (hm:vs.toList.map (·.1)=parts.map (·.1))
  (hr:∀ (j:Nat) (p:Nat×Option E) (q:Nat×Value) (y:E),parts[j]? = some p→vs.toList[j]? = some q→p.2=some y→RE G q.2 y):∃ v,(Instr.build t vs).run P w = .ok v w∧RE G v x:=by
 unfold z88 at h;cases hz:z3K P t with
 | none=>rw [hz] at h;cases h
 | some z=>
  rw [hz] at h;match z,hz,h with
  | .agg cs,hz,h=>
   simp only at h;cases hp:z1R P t with
   | false=>rw [hp] at h;simp at h
   | true=>
    rw [hp] at h;simp only [if_true] at h;cases hlay:lay (z5u P t) cs parts with
    | none=>rw [hlay] at h;cases h
    | some cs' =>
     rw [hlay] at h;simp at h;subst h;obtain ⟨i,zv,hi,hzv,hrun,hre⟩:=z6T (G:=G) (w:=w) hz;obtain ⟨us,rfl,hus⟩:=hre;unfold z1R at hp;cases hu:P.underlying t with
     | none=>rw [hu] at hp;cases hp
     | some d=>
      rw [hu] at hp;match d,hu,hp with
      | .struct fs,hu,hp=>
       have hall:∀ f∈fs.toList,(P.info? f.type).isSome=true:=fun f hf=>(Array.all_eq_true_iff_forall_mem.1 hp) f (by simpa using hf)
       obtain ⟨cells',hfill,hcs⟩:=zaq (place:=z5u P t) parts vs.toList cs cs' us hlay hus hm hr;have hpl:z5u P t=fun i=>((fs.toList.map fun f=>(f.offset,z0g P f.type)).toArray)[i]? := by
        funext i
        unfold z5u;rw [hu];simp;cases fs[i]? <;> rfl
       rw [hpl] at hfill;have hms:=z9k (P:=P) (w:=w) fs.toList hall;have hma:(fs.mapM fun f=>Prod.mk f.offset <$> sizeOf f.type).run P w = .ok (fs.toList.map fun f=>(f.offset,z0g P f.type)).toArray w:=by
        rw [Array.mapM_eq_mapM_toList];simp [hms]
       refine ⟨.agg cells',?_,cells',rfl,hcs⟩;simp only [Instr.build,Sem.run_bind,hrun,Result.andThen_ok,run_underlying hu];simp only [bind_pure_comp];simp only [Sem.run_bind,hma,Result.andThen_ok];simp only [Value.cells];rw [hfill];rfl
      | .array n e,hu,hp=>
       obtain ⟨ie,hie⟩:=Option.isSome_iff_exists.1 hp;obtain ⟨cells',hfill,hcs⟩:=zaq (place:=z5u P t) parts vs.toList cs cs' us hlay hus hm hr;have hpl:z5u P t=fun i=>some (i*z0g P e,z0g P e):=by
        funext i
        unfold z5u;rw [hu]
       rw [hpl] at hfill;refine ⟨.agg cells',?_,cells',rfl,hcs⟩;simp only [Instr.build,Sem.run_bind,hrun,Result.andThen_ok,run_underlying hu,z5h hie,Value.cells];rw [hfill];rfl
end
end Am
end Go.Proofs.YtgmppconibklcaaGreatDoor

namespace Go.Proofs.YtgmppconibklcaaGreatDoor
open Go Go.RowKit
namespace Am
abbrev Objs:=Nat→Option O
def hSet (h:Objs) (u:Nat×Option O):Objs:=fun p=>if p=u.1 then u.2 else h p
def hUp (e:Eff) (h:Objs):Objs:=e.ups.foldl hSet (fun p=>(h p).map (O.kill e.kills))
def z15 (c:Ctx) (G:Gh) (h:Objs) (e:Eff) (v:Value) (w':World):Prop:=
 ∃ G':Gh,(∀ a u,G.im a=some u→G'.im a=some u)∧(∀ p,p∉e.kills→G'.loc p=G.loc p)∧RT G' v e.t∧Inv c G' (hUp e h) w'
theorem zfc (t:T) (h:Objs):hUp ⟨t,[],[]⟩ h=h:=by
 funext p
 simp only [hUp,List.foldl_nil];cases h p with
 | none=>rfl
 | some o=>simp [O.z0I]
section
variable {P:Program} {w w':World} {G:Gh} {c:Ctx} {h:Objs}
theorem z15.pure {t:T} {v:Value} (hI:Inv c G h w) (hr:RT G v t):z15 c G h ⟨t,[],[]⟩ v w:=
 ⟨G,fun _ _ h=>h,fun _ _=>rfl,hr,by rw [zfc];exact hI⟩
theorem z2Z {a:Addr} {u:Value} (h:w.cell? a=some u):a.block<w.heap.size:=World.block_lt_of_cell? w a h
theorem RO.zjC {p:Nat} {o:O} (h:RO c G w p o):∀ b,G.blk p=some b→b<w.heap.size:=fun b hb=>(h.z5K hb).2
theorem Inv.grow (hI:Inv c G h w) (hb:Below w.heap.size w w') (im':Im) (h1:∀ a,a.block<w.heap.size→im' a=G.im a) (h2:∀ a u,im' a=some u→w'.cell? a=some u):Inv c ⟨im',G.loc⟩ h w':=by
 have hext:∀ a u,G.im a=some u→im' a=some u:=fun a u ha=>by rw [h1 a (z2Z (hI.imw a u ha))];exact ha
 have hsz:=hI.below.size;refine ⟨hI.tb,hI.base,hI.chb,hI.below.below hb,h2,fun a u ha=>hext _ _ (hI.imx a u ha),fun a ha hn=>(h1 a (by omega)).trans (hI.imo a ha hn),hI.pas,fun g l hg=>RC.mono (hI.glob g l hg) hext rfl,fun p o hp=>?_,fun p q o o' b=>hI.sep p q o o' b⟩;have hr:=hI.obj p o hp;cases o with
 | var ty cs=>
  obtain ⟨b,us,e1,e2,e3,e4,e5⟩:=hr;exact ⟨b,us,e1,e2,e3.below hb e3.lt,e4.mono hext rfl,fun off=>(h1 _ e3.lt).trans (e5 off)⟩
 | own e s n=>
  obtain ⟨v,us,e1,e2,e3⟩:=hr;refine ⟨v,us,e1,z1y e2 hb,fun g hg off u hu=>e3 g hg off u ?_⟩;rw [←h1 _ (e2.lt g hg).2];exact hu
theorem Inv.stays (hI:Inv c G h w) (hb:Below w.heap.size w w'):Inv c G h w':=by
 have:=hI.grow hb G.im (fun _ _=>rfl) (fun a u ha=>(hb.cell (z2Z (hI.imw a u ha))).trans (hI.imw a u ha));exact this
def upd (loc:Nat→Option Value) (base:Nat) (v:Value):Nat→Option Value:=fun p=>if p=base then some v else loc p
theorem z5c {loc:Nat→Option Value} {base p:Nat} {v:Value} (h:p≠base):upd loc base v p=loc p:=if_neg h
theorem z3X {loc:Nat→Option Value} {base:Nat} {v:Value}:upd loc base v base=some v:=if_pos rfl
theorem zaO {G:Gh} {base p:Nat} {v:Value} (h:p≠base):(⟨G.im,upd G.loc base v⟩:Gh).blk p=G.blk p:=by unfold Gh.blk;simp only [z5c h]
theorem RCs.kill {G G':Gh} {us:List Value} {cs:List C} {ks:List Nat} (h:RCs G us cs) (hi:∀ a u,G.im a=some u→G'.im a=some u) (hl:∀ p,p∉ks→G'.loc p=G.loc p):RCs G' us (cs.map (C.kill ks)):=h.map fun u c hc=>hc.kill hi hl
theorem RO.kill {G':Gh} {p:Nat} {o:O} {ks:List Nat} (h:RO c G w p o) (him:G'.im=G.im) (hl:∀ p,p∉ks→G'.loc p=G.loc p) (hp:G'.loc p=G.loc p):RO c G' w p (o.kill ks):=by
 cases o with
 | var ty cs=>
  obtain ⟨b,us,e1,e2,e3,e4,e5⟩:=h;exact ⟨b,us,hp.trans e1,e2,e3,e4.kill (fun a u ha=>by rw [him];exact ha) hl,fun off=>by rw [him];exact e5 off⟩
 | own e s n=>
  obtain ⟨v,us,e1,e2,e3⟩:=h;exact ⟨v,us,hp.trans e1,e2,fun g hg off u hu=>e3 g hg off u (by rw [←him];exact hu)⟩
theorem Inv.newK (hI:Inv c G h w) {base:Nat} {ks:List Nat} (hb15:base%16≠15) (hks:base∈ks) {v:Value} {o:O} (hR:RO c ⟨G.im,upd G.loc base v⟩ w base o) (hf:∀ p o' b,p≠base→h p=some o'→G.blk p=some b→(⟨G.im,upd G.loc base v⟩:Gh).blk base≠some b):
  Inv c ⟨G.im,upd G.loc base v⟩ (hSet (fun p=>(h p).map (O.kill ks)) (base,some o)) w:=by
 have hne:∀ p,p∉ks→upd G.loc base v p=G.loc p:=fun p hp=>z5c (fun e=>hp (e▸hks))
 refine ⟨hI.tb,hI.base,hI.chb,hI.below,hI.imw,hI.imx,hI.imo,fun i=>(z5c (by omega)).trans (hI.pas i),fun g l hg=>?_,fun p o' hp=>?_,fun p q o1 o2 b hp hq hbp hbq=>?_⟩
 ·exact RC.kill (c:= .ep l) (ks:=ks) (hI.glob g l hg) (fun _ _ h=>h) hne
 ·simp only [hSet] at hp;by_cases he:p=base
  ·rw [if_pos he] at hp;injection hp with hp;subst hp;subst he;exact hR
  ·rw [if_neg he] at hp;cases hh:h p with
   | none=>rw [hh] at hp;cases hp
   | some o1=>
    rw [hh] at hp;simp at hp;subst hp;exact (hI.obj p o1 hh).kill rfl hne (z5c he)
 ·simp only [hSet] at hp hq;by_cases e1:p=base<;>by_cases e2:q=base
  ·rw [e1,e2]
  ·rw [if_neg e2] at hq;cases hh:h q with
   | none=>rw [hh] at hq;cases hq
   | some o3=>
    rw [zaO e2] at hbq;subst e1;exact absurd hbp (hf q o3 b e2 hh hbq)
  ·rw [if_neg e1] at hp;cases hh:h p with
   | none=>rw [hh] at hp;cases hp
   | some o3=>
    rw [zaO e1] at hbp;subst e2;exact absurd hbq (hf p o3 b e1 hh hbp)
  ·rw [if_neg e1] at hp;rw [if_neg e2] at hq;cases hh:h p with
   | none=>rw [hh] at hp;cases hp
   | some o3=>
    cases hh2:h q with
    | none=>rw [hh2] at hq;cases hq
    | some o4=>
     rw [zaO e1] at hbp;rw [zaO e2] at hbq;exact hI.sep p q o3 o4 b hh hh2 hbp hbq
theorem Inv.new (hI:Inv c G h w) {base:Nat} (hb15:base%16≠15) {v:Value} {o:O} (hR:RO c ⟨G.im,upd G.loc base v⟩ w base o) (hf:∀ p o' b,p≠base→h p=some o'→G.blk p=some b→(⟨G.im,upd G.loc base v⟩:Gh).blk base≠some b):
  Inv c ⟨G.im,upd G.loc base v⟩ (hSet (fun p=>(h p).map (O.kill [base])) (base,some o)) w:=hI.newK hb15 (by simp) hR hf
theorem Inv.grow2 (hI:Inv c G h w) {r:Option Nat} (hg:w.grownBy w' r) (hr:∀ g,r=some g→c.w1.heap.size≤g) (im':Im) (h1:∀ a u,G.im a=some u→im' a=some u) (h2:∀ a u,im' a=some u→w'.cell? a=some u) (h3:∀ a,a.block<w.heap.size→some a.block≠r→im' a=G.im a)
  {h':Objs} (hh:∀ p o,h' p=some o→h p=some o∧∀ g,r=some g→G.blk p≠some g):Inv c ⟨im',G.loc⟩ h' w':=by
 have hsz:=hI.below.size;refine ⟨hI.tb,hI.base,hI.chb,hI.below.grown hg (fun g e=> .inl (hr g e)),h2,fun a u ha=>h1 _ _ (hI.imx a u ha),fun a ha hn=>(h3 a (by omega) (fun e=>by have:=hr _ e.symm;omega)).trans (hI.imo a ha hn),hI.pas,fun g l hg=>RC.mono (hI.glob g l hg) h1 rfl,fun p o hp=>?_,fun p q o o' b hp hq=>hI.sep p q o o' b (hh p o hp).1 (hh q o' hq).1⟩;have hr':=hI.obj p o (hh p o hp).1;have hnb:=(hh p o hp).2;cases o with
 | var ty cs=>
  obtain ⟨b,us,e1,e2,e3,e4,e5⟩:=hr';have hb:G.blk p=some b:=by unfold Gh.blk;rw [e1]
  have hne:some b≠r:=fun e=>hnb b e.symm hb
  exact ⟨b,us,e1,e2,e3.grown hg hne,e4.mono h1 rfl,fun off=>(h3 _ e3.lt hne).trans (e5 off)⟩
 | own e s n=>
  obtain ⟨v,us,e1,e2,e3⟩:=hr';have hb:G.blk p=v.ownBlock:=by
   unfold Gh.blk;rw [e1];rcases e2.2 with ⟨rfl,rfl⟩|⟨g,cap,cur,rfl,_⟩<;>rfl
  have hne:v.ownBlock=none∨v.ownBlock≠r:=by
   cases hv:v.ownBlock with
   | none=>exact .inl rfl
   | some g=>exact .inr (fun e=>hnb g e.symm (by rw [hb,hv]))
  refine ⟨v,us,e1,e2.kept hg hne,fun g hgv off u hu=>e3 g hgv off u ?_⟩;rw [←h3 _ (e2.lt g hgv).2 ?_]
  ·exact hu
  ·rcases hne with hne|hne
   ·rw [hne] at hgv;cases hgv
   ·rw [←hgv];exact hne
theorem z15.box {base:Nat} (hb15:base%16≠15) {ty:TypeId} {x:E} {v:Value} (hI:Inv c G h w) (hr:RE G v x):z15 c G h (zjj base ty x) (.pointer (some ⟨w.heap.size,0,none⟩)) (w.alloc (.cells v.cells ty)):=by
 have hI2:=hI.stays ((Below.refl w.heap.size w).alloc (Nat.le_refl _) (.cells v.cells ty));have hc:=hr.cells;have him:∀ off,G.im ⟨w.heap.size,off,none⟩=none:=fun off=>by
  cases hh:G.im ⟨w.heap.size,off,none⟩ with
  | none=>rfl
  | some u=>have:=z2Z (hI.imw _ _ hh);simp at this
 refine ⟨⟨G.im,upd G.loc base (.pointer (some ⟨w.heap.size,0,none⟩))⟩,fun _ _ h=>h,fun p hp=>z5c (by simpa [zjj] using hp),⟨w.heap.size,z3X,rfl⟩,?_⟩;refine hI2.new (base:=base) hb15 ⟨w.heap.size,v.cells,z3X,.inl hI.below.size,Blk.new _ _ _,?_,him⟩ (fun p o' b hp hh hb=>?_)
 ·exact hc.kill (fun _ _ h=>h) (fun p hp=>z5c (by simpa using hp))
 ·have:=(hI.obj p o' hh).zjC b hb;simp only [Gh.blk,z3X];simp;omega
end
end Am
end Go.Proofs.YtgmppconibklcaaGreatDoor

