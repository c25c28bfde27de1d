/- Part of the proof. No condition. -/
import Derived.Test.YtgmppconibklcaaGreatDoorM1
import Derived.Lib.SmallJoins
set_option maxHeartbeats 40000000
set_option maxRecDepth 100000
set_option linter.unusedVariables false
set_option linter.unusedSimpArgs false
namespace Go.Proofs.YtgmppconibklcaaGreatDoor
open Go Go.RowKit
namespace Am
def RDs (im:Im) (us:List Value) (l:List D):Prop:=us.length=l.length∧∀ (j:Nat) (u:Value) (x:D),us[j]? = some u→l[j]? = some x→RD im u x
section
variable {P:Program} {w w':World} {G:Gh} {c:Ctx} {h:Objs}
theorem RDs.mono {im im':Im} {us:List Value} {l:List D} (h:RDs im us l) (hi:∀ a u,im a=some u→im' a=some u):RDs im' us l:=⟨h.1,fun j u x hu hx=>(h.2 j u x hu hx).mono hi⟩
theorem RDs.app {im:Im} {us vs:List Value} {l m:List D} (h:RDs im us l) (k:RDs im vs m):RDs im (us++vs) (l++m):=
 ⟨by simp [h.1,k.1],fun j u c hu hc=>by
  rcases Nat.lt_or_ge j us.length with hj|hj
  ·rw [List.getElem?_append_left hj] at hu;rw [List.getElem?_append_left (by have:=h.1;omega)] at hc;exact h.2 j u c hu hc
  ·rw [List.getElem?_append_right hj] at hu;rw [List.getElem?_append_right (by have:=h.1;omega),←h.1] at hc;exact k.2 _ u c hu hc⟩
theorem RDs.nil_ (im:Im):RDs im [] []:=⟨rfl,fun j u x hu=>by simp at hu⟩
theorem RDs.one {im:Im} {us:List Value} {l:List D} (h:RDs im us l):∀ u∈us,u.oneCell'=true:=by
 intro u hu;obtain ⟨j,hj,rfl⟩:=List.getElem_of_mem hu;have hj2:j<l.length:=by rw [←h.1];exact hj
 exact RD.one (h.2 j us[j] l[j] (List.getElem?_eq_getElem hj) (List.getElem?_eq_getElem hj2))
theorem RD.row_ {im:Im} {v:Value} {s:Nat} {l:List D} (h:RD im v (.row s l)):∃ A n cap us,v = .slice A n cap∧l.length=n*s∧0<s∧n≤cap∧RDs im us l∧(0<n→∃ g o,A=some ⟨g,o,none⟩∧∀ j u,us[j]? = some u→im ⟨g,o+j,none⟩=some u):=by
 cases h with
 | row A n cap size xs l hn hx hz hc hs hd=>exact ⟨A,n,cap,xs,rfl,hn,hz,hc,⟨hx,hd⟩,hs⟩
theorem zm6 {im:Im} {b0:Nat} {e:TypeId} {s n:Nat} {v:Value} {us:List Value} {l:List D} (ho:w.ownsRow b0 e s v n us) (hs:0<s) (hd:RDs im us l) (hc:∀ g,v.ownBlock=some g→∀ j u,us[j]? = some u→im ⟨g,j,none⟩=some u):RD im v (.row s l):=by
 have hl:l.length=n*s:=by rw [←hd.1];exact ho.1
 rcases ho.2 with ⟨rfl,rfl⟩|⟨g,cap,cur,rfl,_,_,hnc,_⟩
 ·exact .row none 0 0 s us l hl hd.1 hs (Nat.le_refl _) (fun h=>by omega) hd.2
 ·refine .row (some ⟨g,0,none⟩) n cap s us l hl hd.1 hs hnc (fun _=>⟨g,0,rfl,fun j u hu=>?_⟩) hd.2;rw [Nat.zero_add];exact hc g rfl j u hu
def z3T (im:Im) (v:Value) (k:Nat) (w':World):Im:=fun a=>match v.ownBlock with
 | some g=>if a.block=g∧a.spot=none∧a.off<k then w'.cell? a else im a
 | none=>im a
theorem z6Z {b0:Nat} {e:TypeId} {s n:Nat} {v:Value} {us:List Value} (ho:w.ownsRow b0 e s v n us) {g:Nat} (hg:v.ownBlock=some g) {j:Nat} {u:Value} (hu:us[j]? = some u):w.cell? ⟨g,j,none⟩=some u:=by
 have:=ho.cells hg j u hu
 rwa [z3h,Nat.zero_add] at this
theorem zf9 {im:Im} {b0:Nat} {e:TypeId} {s n:Nat} {v:Value} {us:List Value} (ho:w.ownsRow b0 e s v n us) {g:Nat} (hg:v.ownBlock=some g) {j:Nat} {u:Value} (hu:us[j]? = some u):z3T im v (n*s) w ⟨g,j,none⟩=some u:=by
 unfold z3T;rw [hg];have hj:j<us.length:=(List.getElem?_eq_some_iff.1 hu).1;have hl:=ho.1;simp only;rw [if_pos ⟨trivial,trivial,by omega⟩];exact z6Z ho hg hu
theorem z64 {G:Gh} {base b0:Nat} {e:TypeId} {s n:Nat} {v:Value} {us:List Value} (ho:w.ownsRow b0 e s v n us) (hl:G.loc base=some v):G.blk base=v.ownBlock:=by
 unfold Gh.blk;rw [hl];rcases ho.2 with ⟨rfl,rfl⟩|⟨g,cap,cur,rfl,_⟩<;>rfl
def z8o (c:Ctx) (G:Gh) (h:Objs) (base s n:Nat) (e:TypeId) (l:List D) (ks:List Nat) (v:Value) (w':World):Prop:=
 ∃ G':Gh,(∀ a u,G.im a=some u→G'.im a=some u)∧(∀ p,p≠base→G'.loc p=G.loc p)∧RC G' v (.gr base s l)∧Inv c G' (hSet (fun p=>(h p).map (O.kill ks)) (base,some (.own e s n))) w'
theorem z8o.after {base s n:Nat} {e:TypeId} {l:List D} {v:Value} (hp:z8o c G h base s n e l [base] v w'):z15 c G h ⟨.e (.one (.gr base s l)),[(base,some (.own e s n))],[base]⟩ v w':=by
 obtain ⟨G',h1,h2,h3,h4⟩:=hp;exact ⟨G',h1,fun p hp=>h2 p (by simpa using hp),h3,h4⟩
theorem zhG {base s n:Nat} (hb15:base%16≠15) {e:TypeId} {v:Value} {us:List Value} {l:List D} {ks:List Nat} (hks:base∈ks) (hI:Inv c G h w) (hb:Below w.heap.size w w') (ho:w'.ownsRow w.heap.size e s v n us) (hs:0<s) (hd:RDs G.im us l):
  z8o c G h base s n e l ks v w':=by
 have hge:∀ g,v.ownBlock=some g→w.heap.size≤g:=fun g hg=>(ho.lt g hg).1
 have him1:∀ a:Addr,a.block<w.heap.size→z3T G.im v (n*s) w' a=G.im a:=by
  intro a ha;unfold z3T;cases hv:v.ownBlock with
  | none=>rfl
  | some g=>simp only;rw [if_neg];rintro ⟨h1,_⟩;have:=hge g hv;omega
 have him2:∀ a u,z3T G.im v (n*s) w' a=some u→w'.cell? a=some u:=by
  intro a u ha;have hold:G.im a=some u→w'.cell? a=some u:=fun hh=>(hb.cell (z2Z (hI.imw a u hh))).trans (hI.imw a u hh)
  unfold z3T at ha;cases hv:v.ownBlock with
  | none=>rw [hv] at ha;exact hold ha
  | some g=>
   rw [hv] at ha;simp only at ha;split at ha
   ·exact ha
   ·exact hold ha
 have hext:∀ a u,G.im a=some u→z3T G.im v (n*s) w' a=some u:=fun a u ha=>by rw [him1 a (z2Z (hI.imw a u ha))];exact ha
 have hI2:=hI.grow hb _ him1 him2;refine ⟨⟨z3T G.im v (n*s) w',upd G.loc base v⟩,hext,fun p hp=>z5c hp,⟨zm6 ho hs (hd.mono hext) (fun g hg j u hu=>zf9 ho hg hu),z3X⟩,?_⟩;have hR:RO c ⟨z3T G.im v (n*s) w',upd G.loc base v⟩ w' base (.own e s n):=by
  refine ⟨v,us,z3X,Joins.ownsRow_le ho hI.below.size,fun g hg off u hu=>?_⟩;simp only at hu;unfold z3T at hu;rw [hg] at hu;simp only at hu;split at hu
  ·rename_i h1;exact h1.2.2
  ·have:=z2Z (hI.imw _ _ hu);have:=hge g hg;simp at *;omega
 refine hI2.newK (G:=⟨z3T G.im v (n*s) w',G.loc⟩) hb15 hks hR (fun p o' b hp hh hbp=>?_);have h1:b<w.heap.size:=(hI.obj p o' hh).zjC b hbp;rw [z64 (G:=⟨z3T G.im v (n*s) w',upd G.loc base v⟩) ho z3X];intro hb2;have:=hge b hb2;omega
theorem z15.row {base s n:Nat} (hb15:base%16≠15) {e:TypeId} {v:Value} {us:List Value} {l:List D} (hI:Inv c G h w) (hb:Below w.heap.size w w') (ho:w'.ownsRow w.heap.size e s v n us) (hs:0<s) (hd:RDs G.im us l):
  z15 c G h ⟨.e (.one (.gr base s l)),[(base,some (.own e s n))],[base]⟩ v w':=(zhG hb15 (by simp) hI hb ho hs hd).after
theorem Inv.sub (hI:Inv c G h w) {h':Objs} (hh:∀ p o,h' p=some o→h p=some o):Inv c G h' w:=
 ⟨hI.tb,hI.base,hI.chb,hI.below,hI.imw,hI.imx,hI.imo,hI.pas,hI.glob,fun p o hp=>hI.obj p o (hh p o hp),fun p q o o' b hp hq=>hI.sep p q o o' b (hh p o hp) (hh q o' hq)⟩
theorem z4L {r:Option Nat} (h:w.grownBy w' r) (hr:∀ g,r=some g→w.heap.size≤g):Below w.heap.size w w' :=
 ⟨h.os,h.tape,h.output,h.size,fun k hk=>h.block k hk (fun e=>by have:=hr k e.symm;omega)⟩
theorem z9W {s:Nat} {x:Option T} {t:T} {l:List D} {v:Value} (hs:0<s) (hx:x=some t) (h:rowOf s x=some l) (hr:RT G v t):∃ A n cap us,v = .slice A n cap∧l.length=n*s∧n≤cap∧RDs G.im us l∧(0<n→∃ g o,A=some ⟨g,o,none⟩∧∀ j u,us[j]? = some u→G.im ⟨g,o+j,none⟩=some u):=by
 subst hx;have hrow:∀ s' l',RD G.im v (.row s' l')→(if s'=s then some l' else none)=some l→∃ A n cap us,v = .slice A n cap∧l.length=n*s∧n≤cap∧RDs G.im us l∧(0<n→∃ g o,A=some ⟨g,o,none⟩∧∀ j u,us[j]? = some u→G.im ⟨g,o+j,none⟩=some u):=by
  intro s' l' hd hh;split at hh
  ·rename_i he;subst he;injection hh with hh;subst hh;obtain ⟨A,n,cap,us,h1,h2,_,h3,h4,h5⟩:=hd.row_;exact ⟨A,n,cap,us,h1,h2,h3,h4,h5⟩
  ·cases hh
 match t,h,hr with
 | .e (.one .nilS),h,hr=>
  simp [rowOf] at h;subst h;have hr:v = .slice none 0 0:=hr;subst hr;exact ⟨none,0,0,[],rfl,by simp,Nat.le_refl _,.nil_ _,fun h=>by omega⟩
 | .e (.one (.d (.row s' l'))),h,hr=>exact hrow s' l' hr h
 | .e (.one (.gr q s' l')),h,hr=>exact hrow s' l' hr.1 h
theorem za0 {A:Option Addr} {n s:Nat} {us:List Value} {l:List D} (hI:Inv c G h w) (hl:l.length=n*s) (hd:RDs G.im us l) (hc:0<n→∃ g o,A=some ⟨g,o,none⟩∧∀ j u,us[j]? = some u→G.im ⟨g,o+j,none⟩=some u) (hs:0<s):Reads w w.heap.size s A n us:=by
 refine ⟨by rw [hd.1];exact hl,fun hn=>?_⟩;obtain ⟨g,o,rfl,hcell⟩:=hc hn;have h0:0<us.length:=by rw [hd.1,hl];exact Nat.mul_pos hn hs
 refine ⟨_,rfl,?_,fun j u hu=>by rw [z3h];exact hI.imw _ _ (hcell j u hu)⟩;exact z2Z (hI.imw _ _ (hcell 0 us[0] (List.getElem?_eq_getElem h0)))
theorem z6N {e:TypeId} (h:zok P e=true):∃ i zv,P.info? e=some i∧i.zero=some zv∧i.size=z0g P e∧i.bytes=z30 P e∧zv.cells.size=z0g P e∧0<z0g P e∧zv.cells.toList.all Value.oneCell'=true:=by
 unfold zok at h;cases hz:z3K P e with
 | none=>rw [hz] at h;cases h
 | some z=>
  rw [hz] at h;simp at h;obtain ⟨i,zv,hi,hzv,_,hre⟩:=z6T (G:=⟨fun _=>none,fun _=>none⟩) (w:=default) hz;refine ⟨i,zv,hi,hzv,by unfold z0g;rw [hi],by unfold z30;rw [hi],?_,Nat.pos_of_ne_zero h.2,?_⟩
  ·have:=hre.cells.1;simp at this;omega
  ·rw [List.all_eq_true];exact hre.cells.zeV
theorem z15.zjM {base:Nat} (hb15:base%16≠15) {t e ty:TypeId} {y:Option T} {ty':T} {l:List D} {v:Value} (hI:Inv c G h w) (ht:P.underlying t=some (.slice e)) (hz:zok P e=true) (hy:y=some ty') (hl:rowOf (z0g P e) y=some l) (hr:RT G v ty')
  (hb1:(l.length / z0g P e)*z30 P e≤140737488355328) (hb2:l.length≤140737488355328):
  ∃ v' w',(Builtin.append_ #[t,t] ty #[.slice none 0 0,v]).run P w = .ok v' w'∧z15 c G h ⟨.e (.one (.gr base (z0g P e) l)),[(base,some (.own e (z0g P e) (l.length / z0g P e)))],[base]⟩ v' w':=by
 obtain ⟨i,zv,hi,hzv,hsz,hby,hzs,hs0,_⟩:=z6N hz;obtain ⟨A,n,cap,us,rfl,hn,hnc,hd,hc⟩:=z9W hs0 hy hl hr;have hdiv:l.length / z0g P e=n:=by rw [hn,Nat.mul_div_cancel _ hs0]
 rw [hdiv] at hb1 ⊢;have hnl:n≤140737488355328:=by have:=Nat.le_mul_of_pos_right n hs0;omega
 obtain ⟨v',w',hrun,ho,hg,_⟩:=z3k (P:=P) w w.heap.size t ty e i zv (z0g P e) (z30 P e) ht hi hzv hsz hby hzs hs0 (.slice none 0 0) 0 [] (World.ownsRow_nil w _ e _) w.heap.size A n cap us (za0 hI hn hd hc hs0) hd.one (by unfold maxLen;omega) (by simpa using hb1) (Nat.le_refl _);refine ⟨v',w',hrun,?_⟩;rw [Nat.zero_add,List.nil_append] at ho;exact z15.row hb15 hI (z4L hg (fun g hg=>by cases hg)) ho hs0 hd
theorem z15.zjL {base q s n:Nat} (hb15:base%16≠15) {t e ty:TypeId} {y:Option T} {ty':T} {l l':List D} {v0 v:Value} (hI:Inv c G h w) (ht:P.underlying t=some (.slice e)) (hz:zok P e=true) (hq:h q=some (.own e s n)) (h0:RC G v0 (.gr q s l)) (hs:s=z0g P e) (hln:l.length=n*s)
  (hy:y=some ty') (hl:rowOf (z0g P e) y=some l') (hr:RT G v ty') (hb1:((l.length+l'.length) / s)*z30 P e≤140737488355328) (hb2:l.length+l'.length≤140737488355328):
  ∃ v' w',(Builtin.append_ #[t,t] ty #[v0,v]).run P w = .ok v' w'∧z15 c G h ⟨.e (.one (.gr base s (l++l'))),(if q=base then [] else [(q,none)])++[(base,some (.own e s ((l.length+l'.length) / s)))],[q,base]⟩ v' w':=by
 obtain ⟨i,zv,hi,hzv,hsz,hby,hzs,hs0,_⟩:=z6N hz;subst hs;obtain ⟨A,m,cap,news,rfl,hm,hmc,hdn,hcn⟩:=z9W hs0 hy hl hr;obtain ⟨v1,us,hloc,hown,himo⟩:=hI.obj q _ hq;obtain ⟨hrd,hlq⟩:=h0;rw [hloc] at hlq;injection hlq with hlq;subst hlq;have hdiv:(l.length+l'.length) / z0g P e=n+m:=by rw [hln,hm,←Nat.add_mul,Nat.mul_div_cancel _ hs0]
 rw [hdiv] at hb1 ⊢;have hnl:n+m≤140737488355328:=by have:=Nat.le_mul_of_pos_right (n+m) hs0;rw [hln,hm,←Nat.add_mul] at hb2;omega
 -- the row's cells
 have hus:RDs G.im us l:=by
  obtain ⟨A0,n0,cap0,xs,hv,hl0,_,hnc0,hdx,hcx⟩:=hrd.row_;have hxl:us.length=xs.length:=by rw [hdx.1,hln];exact hown.1
  refine ⟨by rw [hxl];exact hdx.1,fun j u x hu hx=>hdx.2 j u x ?_ hx⟩;have hj:j<xs.length:=by rw [←hxl];exact (List.getElem?_eq_some_iff.1 hu).1
  have hn0:0<n0:=by
   rcases Nat.eq_zero_or_pos n0 with h|h
   ·subst h;rw [hdx.1] at hj;simp at hl0;rw [hl0] at hj;simp at hj
   ·exact h
  obtain ⟨g,o,hA,hcell⟩:=hcx hn0;have h1:=hI.imw _ _ (hcell j xs[j] (List.getElem?_eq_getElem hj));rcases hown.2 with ⟨hv2,_⟩|⟨g2,cap2,cur2,hv2,_⟩
  ·rw [hv2] at hv;injection hv with e1 e2 e3;omega
  ·rw [hv2] at hv;injection hv with e1 e2 e3;rw [hA] at e1;injection e1 with e1;injection e1 with e1 e4 e5;subst e1;have h2:=z6Z hown (g:=g2) (by rw [hv2];rfl) hu;rw [←e4,Nat.zero_add] at h1;rw [h1] at h2;injection h2 with h2;rw [List.getElem?_eq_getElem hj,h2]
 -- the heap without the old row
 obtain ⟨h',hh'⟩:∃ h':Objs,h'=fun p=>if p=q then none else h p:=⟨_,rfl⟩
 have hsub:∀ p o,h' p=some o→h p=some o∧p≠q:=by
  intro p o hp;rw [hh'] at hp;simp only at hp;split at hp
  ·cases hp
  ·rename_i hne;exact ⟨hp,hne⟩
 have fin:∀ v' w',z8o c G h' base (z0g P e) (n+m) e (l++l') [q,base] v' w'→z15 c G h ⟨.e (.one (.gr base (z0g P e) (l++l'))),(if q=base then [] else [(q,none)])++[(base,some (.own e (z0g P e) (n+m)))],[q,base]⟩ v' w':=by
  intro v' w' hp;obtain ⟨G',h1,h2,h3,h4⟩:=hp;refine ⟨G',h1,fun p hp=>h2 p (by simp at hp;exact hp.2),h3,?_⟩;have he:hUp ⟨.e (.one (.gr base (z0g P e) (l++l'))),(if q=base then [] else [(q,none)])++[(base,some (.own e (z0g P e) (n+m)))],[q,base]⟩ h=hSet (fun p=>(h' p).map (O.kill [q,base])) (base,some (.own e (z0g P e) (n+m))):=by
   funext p
   rw [hh'];unfold hUp;by_cases hqb:q=base
   ·subst hqb;simp only [if_true,List.nil_append,List.foldl_cons,List.foldl_nil,hSet];by_cases hp:p=q
    ·simp [hp]
    ·simp [hp]
   ·simp only [hqb,if_false,List.singleton_append,List.foldl_cons,List.foldl_nil,hSet];by_cases hp:p=base
    ·simp [hp]
    ·by_cases hp2:p=q
     ·simp [hp,hp2]
     ·simp [hp,hp2]
  rw [he];exact h4
 have hnew:∀ v' w',w'.ownsRow w.heap.size e (z0g P e) v' (n+m) (us++news)→w.grownBy w' none→z8o c G h' base (z0g P e) (n+m) e (l++l') [q,base] v' w':=fun v' w' ho hg=>
  zhG hb15 (by simp) (hI.sub fun p o hp=>(hsub p o hp).1) (z4L hg (fun g hg=>by cases hg)) ho hs0 (hus.app hdn)
 have hreads:=za0 hI hm hdn hcn hs0;rcases hown.2 with ⟨rfl,rfl⟩|⟨g,cap1,cur1,rfl,hbg,hg1,hnc1,hcm1,hcs1,htk1⟩
 ·-- nothing yet
  have hus0:us=[]:=List.eq_nil_of_length_eq_zero (by have:=hown.1;simpa using this);subst hus0;obtain ⟨v',w',hrun,ho,hg,_⟩:=z3k (P:=P) w w.heap.size t ty e i zv (z0g P e) (z30 P e) ht hi hzv hsz hby hzs hs0 (.slice none 0 0) 0 [] (World.ownsRow_nil w _ e _) w.heap.size A m cap news hreads hdn.one (by unfold maxLen;omega) hb1 (Nat.le_refl _);exact ⟨v',w',hrun,fin v' w' (hnew v' w' ho hg)⟩
 ·by_cases hroom:n+m≤cap1
  ·-- in its place
   have hfit:∃ w',(Builtin.append_ #[t,t] ty #[.slice (some ⟨g,0,none⟩) n cap1,.slice A m cap]).run P w = .ok (.slice (some ⟨g,0,none⟩) (n+m) cap1) w'∧w'.ownsRow c.w1.heap.size e (z0g P e) (.slice (some ⟨g,0,none⟩) (n+m) cap1) (n+m) (us++news)∧w.grownBy w' (some g):=by
    cases A with
    | none=>
     have hm0:m=0:=by
      rcases Nat.eq_zero_or_pos m with h0|h0
      ·exact h0
      ·obtain ⟨g',o',hA,_⟩:=hcn h0;cases hA
     subst hm0;have hn0:news=[]:=List.eq_nil_of_length_eq_zero (by rw [hdn.1,hm];simp);subst hn0;refine ⟨w,?_,by simpa using hown,World.grownBy.refl w _⟩;exact z3t w c.w1.heap.size t ty e i (z0g P e) ht hi _ n us hown cap
    | some ad=>
     have hcells:∀ j u,news[j]? = some u→w.cell? (ad.add j)=some u:=by
      intro j u hu;rcases Nat.eq_zero_or_pos m with h0|h0
      ·subst h0;have hn0:news=[]:=List.eq_nil_of_length_eq_zero (by rw [hdn.1,hm];simp);subst hn0;simp at hu
      ·obtain ⟨ad',h5,_,hc5⟩:=hreads.2 h0;injection h5 with h5;subst h5;exact hc5 j u hu
     exact run_append_fits (P:=P) w c.w1.heap.size t ty e i (z0g P e) ht hi hsz g n cap1 us hown ad m cap news (by rw [hdn.1,hm]) hcells hdn.one hroom
   obtain ⟨w',hrun,ho,hg⟩:=hfit;refine ⟨_,w',hrun,fin _ _ ?_⟩;have hv:(Value.slice (some ⟨g,0,none⟩) (n+m) cap1).ownBlock=some g:=rfl;have hblkq:G.blk q=some g:=by unfold Gh.blk;rw [hloc]
   have hin:∀ a u,G.im a=some u→a.block=g→w'.cell? a=some u:=by
    intro a u ha hag;have hc:=hI.imw a u ha;have hsp:=World.cell?_spot hc;obtain ⟨bl,off,sp⟩:=a;simp only at hag hsp;subst hag;subst hsp;have hlt:=himo bl rfl off u ha;have hj:off<us.length:=by rw [hown.1];exact hlt
    have h1:=z6Z hown (g:=bl) rfl (List.getElem?_eq_getElem hj);rw [h1] at hc;injection hc with hc;have h2:=z6Z ho hv (j:=off) (u:=us[off]) (by rw [List.getElem?_append_left hj];exact List.getElem?_eq_getElem hj);rw [h2,hc]
   have hold:∀ a u,G.im a=some u→w'.cell? a=some u:=by
    intro a u ha;by_cases hag:a.block=g
    ·exact hin a u ha hag
    ·exact (World.cell?_of_block (hg.block a.block (z2Z (hI.imw a u ha)) (fun e=>hag (by injection e)))).trans (hI.imw a u ha)
   have hext:∀ a u,G.im a=some u→z3T G.im (.slice (some ⟨g,0,none⟩) (n+m) cap1) ((n+m)*z0g P e) w' a=some u:=by
    intro a u ha;unfold z3T;rw [hv];simp only;split
    ·exact hold a u ha
    ·exact ha
   have hcl:∀ a u,z3T G.im (.slice (some ⟨g,0,none⟩) (n+m) cap1) ((n+m)*z0g P e) w' a=some u→w'.cell? a=some u:=by
    intro a u ha;unfold z3T at ha;rw [hv] at ha;simp only at ha;split at ha
    ·exact ha
    ·exact hold a u ha
   have h3:∀ a:Addr,a.block<w.heap.size→some a.block≠some g→z3T G.im (.slice (some ⟨g,0,none⟩) (n+m) cap1) ((n+m)*z0g P e) w' a=G.im a:=by
    intro a _ hne;unfold z3T;rw [hv];simp only;rw [if_neg];rintro ⟨h5,_⟩;exact hne (by rw [h5])
   have hI2:=hI.grow2 hg (fun g' hg'=>by injection hg' with hg';subst hg';exact hbg) _ hext hcl h3 (h':=h') (fun p o hp=>⟨(hsub p o hp).1,fun g' hg' hbp=>by
    injection hg' with hg';subst hg';exact (hsub p o hp).2 (hI.sep p q o _ g (hsub p o hp).1 hq hbp hblkq)⟩)
   refine ⟨⟨_,upd G.loc base (.slice (some ⟨g,0,none⟩) (n+m) cap1)⟩,hext,fun p hp=>z5c hp,⟨zm6 ho hs0 ((hus.app hdn).mono hext) (fun g' hg' j u hu=>zf9 ho hg' hu),z3X⟩,?_⟩;refine hI2.newK (G:=⟨_,G.loc⟩) hb15 (by simp) ⟨_,us++news,z3X,ho,fun g' hg' off u hu=>?_⟩ (fun p o' b hp hh hbp=>?_)
   ·rw [hv] at hg';injection hg' with hg';subst hg';simp only at hu;unfold z3T at hu;rw [hv] at hu;simp only at hu;split at hu
    ·rename_i h5;exact h5.2.2
    ·have:=himo g rfl off u hu;have:n*z0g P e≤(n+m)*z0g P e:=Nat.mul_le_mul_right _ (by omega);omega
   ·rw [z64 (G:=⟨_,upd G.loc base _⟩) ho z3X,hv];intro hb2;injection hb2 with hb2;subst hb2;exact (hsub p o' hh).2 (hI.sep p q o' _ _ (hsub p o' hh).1 hq hbp hblkq)
  ·-- zds
   have hm0:0<m:=by omega
   obtain ⟨ad,rfl,_,hcells⟩:=hreads.2 hm0;obtain ⟨v',w',hrun,ho,hg⟩:=run_append_arg_grows (P:=P) w t ty e i zv (z0g P e) (z30 P e) ht hi hzv hsz hby hzs hs0 ⟨g,0,none⟩ n cap1 us hown.1 (fun j u hu=>hown.cells (g:=g) rfl j u hu) ad m cap news (by rw [hdn.1,hm]) hcells (by omega) (by unfold maxLen;omega) hb1;exact ⟨v',w',hrun,fin v' w' (hnew v' w' ho hg)⟩
end
end Am
end Go.Proofs.YtgmppconibklcaaGreatDoor

namespace Go.Proofs.YtgmppconibklcaaGreatDoor
open Go Go.RowKit
namespace Am
section
variable {P:Program} {w w':World} {G:Gh} {c:Ctx} {h:Objs} {ρ:Operand→Option T} {σ:Operand→Value}
def Rho (G:Gh) (ρ:Operand→Option T) (σ:Operand→Value):Prop:=∀ x t,ρ x=some t→RT G (σ x) t
theorem int?_spec {o:Option T} {k:IntKind} {n:Int} (h:int? o=some (k,n)):o=some (.i k n):=by
 unfold int? at h;split at h
 ·simp at h;obtain ⟨rfl,rfl⟩:=h;rfl
 ·cases h
theorem bool?_spec {o:Option T} {b:Bool} (h:bool? o=some b):o=some (.b b):=by
 unfold bool? at h;split at h
 ·simp at h;subst h;rfl
 ·cases h
theorem str?_spec {o:Option T} {s:ByteArray} (h:str? o=some s):o=some (.s s):=by
 unfold str? at h;split at h
 ·simp at h;subst h;rfl
 ·cases h
theorem RT_v {v u:Value} (h:RT G v (.v u)):v=u:=by
 have h:RD G.im v (.leaf u):=h;cases h;rfl
theorem z8E {u:Value} (h:u.oneCell'=true):RT G u (.v u):=RD.leaf u h
theorem e?_spec {o:Option T} {x:E} (h:e? o=some x):o=some (.e x):=by
 unfold e? at h;split at h
 ·injection h with h;subst h;rfl
 ·cases h
theorem row?_spec {o:Option T} {s:Nat} {l:List D} {v:Value} {t:T} (h:row? o=some (s,l)) (ho:o=some t) (hr:RT G v t):RD G.im v (.row s l):=by
 subst ho;unfold row? at h;split at h
 ·rename_i e;injection e with e;subst e;simp at h;obtain ⟨rfl,rfl⟩:=h;exact hr
 ·rename_i e;injection e with e;subst e;simp at h;obtain ⟨rfl,rfl⟩:=h;exact hr.1
 ·cases h
theorem zfO {v:Value} {a c':C} {off:Nat} (h:zds off a=some c') (hr:RC G v a):∃ ad:Addr,v = .pointer (some ad)∧RC G (.pointer (some (ad.add off))) c':=by
 cases a with
 | ref p o=>
  simp [zds] at h;subst h;obtain ⟨b,h1,rfl⟩:=hr;exact ⟨_,rfl,b,h1,by rw [z3h]⟩
 | ep l=>
  simp [zds] at h;subst h;obtain ⟨g,o,rfl,h2⟩:=hr;refine ⟨_,rfl,g,o+off,by rw [z3h],fun j x hx=>?_⟩;rw [List.getElem?_drop] at hx;obtain ⟨u,h3,h4⟩:=h2 _ x hx;exact ⟨u,by rw [Nat.add_assoc];exact h3,h4⟩
 | _=>cases h
theorem z9V {t:TypeId} {f:Nat} {v:Value} {a c':C} (h:z2Y P t f a=some c') (hr:RC G v a):∃ u,(Instr.fieldAt t v f).run P w = .ok u w∧RC G u c':=by
 unfold z2Y z83 at h;cases hu:P.underlying t with
 | none=>rw [hu] at h;cases h
 | some d=>
  rw [hu] at h;cases d with
  | struct fs=>
   simp only at h;cases hf:fs[f]? with
   | none=>rw [hf] at h;cases h
   | some fd=>
    rw [hf] at h;simp only at h;split at h
    ·cases h
    ·rename_i hs;obtain ⟨ad,rfl,h2⟩:=zfO h hr;exact ⟨_,by simp [Instr.fieldAt,run_underlying hu,hf,Instr.sureAddr,fieldPlace,z2M hs,hs],h2⟩
  | _=>cases h
theorem zhF {t:TypeId} {f:Nat} {v:Value} {x y:E} (h:z86 P t f x=some y) (hr:RE G v x):∃ u,(Instr.field t v f).run P w = .ok u w∧RE G u y:=by
 unfold z86 z83 at h;cases hu:P.underlying t with
 | none=>rw [hu] at h;cases h
 | some d=>
  rw [hu] at h;cases d with
  | struct fs=>
   simp only at h;cases hf:fs[f]? with
   | none=>rw [hf] at h;cases h
   | some fd=>
    rw [hf] at h;cases x with
    | one c=>cases h
    | agg cs=>
     simp only at h;obtain ⟨us,rfl,hus⟩:=hr;obtain ⟨u,h1,h2⟩:=zei (w:=w) hus h;exact ⟨u,by simp [Instr.field,run_underlying hu,hf,asAgg,h1],h2⟩
  | _=>cases h
theorem z9U {t:TypeId} {x:Option T} {tx:T} {k:IntKind} {i:Int} {v:Value} {c':C} (h:z0j P t x i=some c') (hx:x=some tx) (hr:RT G v tx):∃ u,(Instr.indexAt t v (.int k i)).run P w = .ok u w∧RC G u c':=by
 unfold z0j at h;cases hu:P.underlying t with
 | none=>rw [hu] at h;cases h
 | some d=>
  rw [hu] at h;cases d with
  | array n e=>
   subst hx;simp only at h;split at h
   ·rename_i a heq;injection heq with heq;subst heq;split at h
    ·rename_i hb;obtain ⟨ad,rfl,h2⟩:=zfO h hr;exact ⟨_,by simp [Instr.indexAt,run_underlying hu,asIntOf,Instr.sureAddr,hb.2.1,hb.2.2,z2M hb.1],h2⟩
    ·cases h
   ·cases h
  | slice e=>
   simp only at h;have rowcase:(match row? x with
    | some (s,l)=>if s=z0g P e∧zdV s l.length i=true then some (C.ep (l.drop (i.toNat*s))) else none
    | none=>none)=some c'→∃ u,(Instr.indexAt t v (.int k i)).run P w = .ok u w∧RC G u c':=by
    intro h;cases hrow:row? x with
    | none=>rw [hrow] at h;cases h
    | some sl=>
     obtain ⟨s,l⟩:=sl;rw [hrow] at h;simp only at h;split at h
     ·rename_i hb;obtain ⟨hs,hat⟩:=hb;unfold zdV at hat;simp only [Bool.and_eq_true,decide_eq_true_eq] at hat;obtain ⟨⟨h0,hs0⟩,hlt⟩:=hat;injection h with h;subst h;obtain ⟨A,n,cap,us,rfl,hl,_,hnc,hd,hc⟩:=(row?_spec hrow hx hr).row_;have hn:l.length / s=n:=by rw [hl,Nat.mul_div_cancel _ hs0]
      rw [hn] at hlt;obtain ⟨g,o,rfl,hcell⟩:=hc (by omega);have hi:i<(n:Int):=by omega
      refine ⟨.pointer (some ((⟨g,o,none⟩:Addr).add (i.toNat*z0g P e))),by simp [Instr.indexAt,run_underlying hu,asIntOf,h0,hi,z2M (P:=P) (t:=e) (by omega)],g,o+i.toNat*s,by rw [z3h,hs],fun j x hx=>?_⟩;rw [List.getElem?_drop] at hx;have hj:i.toNat*s+j<us.length:=by rw [hd.1];exact (List.getElem?_eq_some_iff.1 hx).1
      refine ⟨us[i.toNat*s+j],?_,hd.2 _ _ _ (List.getElem?_eq_getElem hj) hx⟩;have:=hcell _ _ (List.getElem?_eq_getElem hj);rw [Nat.add_assoc];exact this
     ·cases h
   subst hx;split at h
   ·rename_i p n s heq;injection heq with heq;subst heq;split at h
    ·rename_i hb;obtain ⟨hs,hs0,h0,hn⟩:=hb;injection h with h;subst h;obtain ⟨b,h1,rfl⟩:=hr;refine ⟨.pointer (some ((⟨b,0,none⟩:Addr).add (i.toNat*z0g P e))),by simp [Instr.indexAt,run_underlying hu,asIntOf,h0,hn,z2M (P:=P) (t:=e) (by omega)],b,h1,by rw [z3h,hs,Nat.zero_add]⟩
    ·cases h
   ·exact rowcase h
  | _=>cases h
theorem zg8 {t:TypeId} {x:Option T} {tx:T} {k:IntKind} {i:Int} {v:Value} {y:E} (h:z6e P t x i=some y) (hx:x=some tx) (hr:RT G v tx):∃ u,(Instr.index t v (.int k i)).run P w = .ok u w∧RE G u y:=by
 unfold z6e at h;cases hu:P.underlying t with
 | none=>rw [hu] at h;cases h
 | some d=>
  rw [hu] at h;cases d with
  | string=>
   simp only at h;cases hs:str? x with
   | none=>rw [hs] at h;cases h
   | some s=>
    rw [hs] at h;simp only at h;have hxs:=str?_spec hs;rw [hx] at hxs;injection hxs with hxs;subst hxs;obtain rfl:=RT_v hr;split at h
    ·rename_i h0;split at h
     ·rename_i b hb;injection h with h;subst h;exact ⟨.int .u8 b.toNat,by simp [Instr.index,run_underlying hu,asIntOf,h0,hb],RD.leaf _ rfl⟩
     ·cases h
    ·cases h
  | array n e=>
   simp only at h;cases he:e? x with
   | none=>rw [he] at h;cases h
   | some z=>
    rw [he] at h;cases z with
    | one c=>cases h
    | agg cs=>
     simp only at h;split at h
     ·rename_i hb;have hxs:=e?_spec he;rw [hx] at hxs;injection hxs with hxs;subst hxs;obtain ⟨us,rfl,hus⟩:=hr;obtain ⟨u,h1,h2⟩:=zei (w:=w) hus h;exact ⟨u,by simp [Instr.index,run_underlying hu,asIntOf,hb.2.1,hb.2.2,z2M hb.1,h1],h2⟩
     ·cases h
  | _=>cases h
theorem z9F {o:Option Operand} {d k:Nat} (hρ:Rho G ρ σ) (h:bound (o.map ρ) d=some k):(o=none∧k=d)∨∃ x kd,o=some x∧σ x = .int kd (k:Int):=by
 cases o with
 | none=>simp [bound] at h;exact .inl ⟨rfl,h.symm⟩
 | some x=>
  simp only [Option.map_some,bound] at h;cases hi:int? (ρ x) with
  | none=>rw [hi] at h;cases h
  | some kn=>
   obtain ⟨kd,n⟩:=kn;rw [hi] at h;simp only at h;split at h
   ·rename_i h0;injection h with h;subst h;have:=RT_v (hρ x _ (int?_spec hi));exact .inr ⟨x,kd,rfl,by rw [this,Int.toNat_of_nonneg h0]⟩
   ·cases h
theorem z8U {isS:Bool} {len cap a b:Nat} {lo hi:Option Operand} (hρ:Rho G ρ σ) (hlo:bound (lo.map ρ) 0=some a) (hhi:bound (hi.map ρ) len=some b) (hab:a≤b) (hb:b≤cap):(Instr.sliceBounds isS len cap (lo.map σ) (hi.map σ) none).run P w = .ok (a,b,cap) w:=by
 rcases z9F hρ hlo with ⟨rfl,rfl⟩|⟨x,kx,rfl,hx⟩<;>rcases z9F hρ hhi with ⟨rfl,rfl⟩|⟨y,ky,rfl,hy⟩
 ·simp [Instr.sliceBounds]
 ·simp [Instr.sliceBounds,hy,Instr.sliceBound,asIntOf,hb]
 ·simp [Instr.sliceBounds,hx,Instr.sliceBound,asIntOf,hab]
 ·simp [Instr.sliceBounds,hx,hy,Instr.sliceBound,asIntOf,hab,hb]
theorem zg7 {t:TypeId} {x:Operand} {lo hi:Option Operand} {c':C} (hρ:Rho G ρ σ) (h:z3n P t (ρ x) (lo.map ρ) (hi.map ρ)=some c'):∃ u,(Instr.sliceAt t (σ x) (lo.map σ) (hi.map σ) none).run P w = .ok u w∧RC G u c':=by
 unfold z3n at h;cases hu:P.underlying t with
 | none=>rw [hu] at h;cases h
 | some d=>
  rw [hu] at h;cases d with
  | string=>
   simp only at h;cases hs:str? (ρ x) with
   | none=>rw [hs] at h;cases h
   | some s=>
    rw [hs] at h;simp only at h;have hv:=RT_v (hρ x _ (str?_spec hs));split at h
    ·rename_i l k hl hk;split at h
     ·rename_i hb;injection h with h;subst h;have:=z8U (P:=P) (w:=w) (isS:=false) (cap:=s.size) hρ hl hk hb.1 hb.2;exact ⟨.string (s.extract l k),by simp [Instr.sliceAt,Instr.slice,run_underlying hu,hv,this],RD.leaf _ rfl⟩
     ·cases h
    ·cases h
  | slice e=>
   simp only at h;cases hrow:row? (ρ x) with
   | none=>rw [hrow] at h;cases h
   | some sl=>
    obtain ⟨s,l⟩:=sl;rw [hrow] at h;simp only at h;split at h
    ·rename_i hs;obtain ⟨hs,hs0⟩:=hs;split at h
     ·rename_i a b ha hb;split at h
      ·rename_i hab;injection h with h;subst h;obtain ⟨tx,htx⟩:∃ tx,ρ x=some tx:=by
        cases hx:ρ x with
        | none=>rw [hx] at hrow;cases hrow
        | some tx=>exact ⟨tx,rfl⟩
       obtain ⟨A,n,cap,us,hv,hl,_,hnc,hd,hc⟩:=(row?_spec hrow htx (hρ x tx htx)).row_;have hn:l.length / s=n:=by rw [hl,Nat.mul_div_cancel _ hs0]
       rw [hn] at hb hab;have:=z8U (P:=P) (w:=w) (isS:=true) (cap:=cap) hρ ha hb hab.1 (by omega);refine ⟨.slice (if cap=a then A else A.map (·.add (a*z0g P e))) (b-a) (cap-a),by simp [Instr.sliceAt,Instr.slice,run_underlying hu,hv,this,z2M (P:=P) (t:=e) (by omega)],?_⟩;have hlen:((l.drop (a*s)).take ((b-a)*s)).length=(b-a)*s:=by
        rw [List.length_take,List.length_drop,hl,←Nat.sub_mul];exact Nat.min_eq_left (Nat.mul_le_mul_right _ (by omega))
       refine RD.row _ (b-a) (cap-a) s ((us.drop (a*s)).take ((b-a)*s)) _ hlen (by simp [hd.1]) hs0 (by omega) (fun h0=>?_) (fun j u d hu hd'=>?_)
       ·obtain ⟨g,o,rfl,hcell⟩:=hc (by omega);rw [if_neg (by omega)];refine ⟨g,o+a*s,by simp [z3h,hs],fun j u hu=>?_⟩;rw [List.getElem?_take] at hu;split at hu
        ·rw [List.getElem?_drop] at hu;have:=hcell _ u hu;rw [Nat.add_assoc];exact this
        ·cases hu
       ·rw [List.getElem?_take] at hu hd';split at hu
        ·rename_i hj;rw [if_pos hj] at hd';rw [List.getElem?_drop] at hu hd';exact hd.2 _ u d hu hd'
        ·cases hu
      ·cases h
     ·cases h
    ·cases h
  | _=>cases h
theorem zkt {t ty:TypeId} {x:Operand} {n:Nat} (hρ:Rho G ρ σ) (h:z2B P t (ρ x)=some n):(Builtin.len_ #[t] ty #[σ x]).run P w = .ok (.int .i64 n) w:=by
 unfold z2B at h;cases hu:P.underlying t with
 | none=>rw [hu] at h;cases h
 | some d=>
  rw [hu] at h;cases d with
  | string=>
   simp only at h;cases hs:str? (ρ x) with
   | none=>rw [hs] at h;cases h
   | some s=>
    rw [hs] at h;simp at h;subst h;have hv:=RT_v (hρ x _ (str?_spec hs));simp [Builtin.len_,run_underlying hu,hv,goInt]
  | array k e=>
   simp at h;subst h;simp [Builtin.len_,run_underlying hu,goInt]
  | slice e=>
   simp only at h;cases hx:ρ x with
   | none=>rw [hx] at h;simp [row?] at h
   | some tx=>
    have hr:=hρ x tx hx;rw [hx] at h;split at h
    ·rename_i heq;injection heq with heq;subst heq;injection h with h;subst h;have hr:σ x = .slice none 0 0:=hr;simp [Builtin.len_,run_underlying hu,hr,goInt]
    ·rename_i p m s heq;injection heq with heq;subst heq;injection h with h;subst h;obtain ⟨b,_,hv⟩:=hr;simp [Builtin.len_,run_underlying hu,hv,goInt]
    ·cases hrow:row? (some tx) with
     | none=>rw [hrow] at h;cases h
     | some sl=>
      obtain ⟨s,l⟩:=sl;rw [hrow] at h;simp only at h;split at h
      ·rename_i hs0;injection h with h;subst h;obtain ⟨A,m,cap,us,hv,hl,_⟩:=(row?_spec hrow rfl hr).row_;simp [Builtin.len_,run_underlying hu,hv,goInt,hl,Nat.mul_div_cancel _ hs0]
      ·cases h
  | _=>cases h
end
end Am
end Go.Proofs.YtgmppconibklcaaGreatDoor

namespace Go.Proofs.YtgmppconibklcaaGreatDoor
open Go Go.RowKit
namespace Am
section
variable {P:Program} {w w':World} {G:Gh} {c:Ctx} {h:Objs} {ρ:Operand→Option T} {σ:Operand→Value}
theorem z8V {op:BinOp} {t:TypeId} {k:IntKind} {x y:Int} {v:Value} (h:zfJ op k x y=some v) (h1:op ≠ .shl) (h2:op ≠ .shr):(binOp op t (.int k x) (.int k y)).run P w = .ok v w∧v.oneCell'=true:=by
 cases op<;>simp [zfJ] at h<;>try (exact absurd rfl h1) 
 all_goals try (exact absurd rfl h2)
 all_goals first
  | (obtain ⟨h0,rfl⟩:=h;simp [binOp,Op.intArith,Op.intDiv,Op.intBits,Op.intCmp,h0,Value.oneCell'];done)
  | (subst h;simp [binOp,Op.intArith,Op.intDiv,Op.intBits,Op.intCmp,Value.oneCell'];done)
theorem zga {op:BinOp} {t:TypeId} {x y:ByteArray} {v:Value} (h:zfI op x y=some v):(binOp op t (.string x) (.string y)).run P w = .ok v w∧v.oneCell'=true:=by
 cases op<;>simp only [zfI] at h<;>try (cases h;done)
 ·split at h
  ·cases h
  ·rename_i h0;injection h with h;subst h;refine ⟨?_,rfl⟩;simp only [binOp,Op.stringOp];rw [if_neg h0];rfl
 all_goals (injection h with h;subst h;simp [binOp,Op.stringOp,Value.oneCell'])
theorem zbp {op:BinOp} {t:TypeId} {x y:Operand} {a b:Value} (ha:a.oneCell'=true) (hb:b.oneCell'=true) (hn:a ≠ .nilIface):(eqGuard op t x y a b).run P w = .ok () w:=by
 unfold eqGuard;cases a<;>simp [Value.oneCell'] at ha<;>cases b<;>simp [Value.oneCell'] at hb<;>first
  | exact absurd rfl hn
  | (cases op<;>simp)
theorem zkv {op:BinOp} {t:TypeId} {x y v:Value} (h:binV P op t x y=some v):(binOp op t x y).run P w = .ok v w∧v.oneCell'=true∧x.oneCell'=true∧y.oneCell'=true∧x ≠ .nilIface:=by
 unfold binV at h;split at h
 ·rename_i k a k' b;refine ⟨?_,?_,rfl,rfl,by simp⟩
  ·split at h
   ·split at h
    ·cases h
    ·rename_i h0;injection h with h;subst h;simp [binOp,Op.shift,h0]
   ·split at h
    ·cases h
    ·rename_i h0;injection h with h;subst h;simp [binOp,Op.shift,h0]
   ·rename_i h1 h2;split at h
    ·rename_i hk;subst hk;exact (z8V h (fun e=>h1 e) (fun e=>h2 e)).1
    ·cases h
  ·split at h
   ·split at h
    ·cases h
    ·injection h with h;subst h;rfl
   ·split at h
    ·cases h
    ·injection h with h;subst h;rfl
   ·rename_i h1 h2;split at h
    ·rename_i hk;subst hk;exact (z8V (P:=P) (w:=w) (t:=t) h (fun e=>h1 e) (fun e=>h2 e)).2
    ·cases h
 ·obtain ⟨h1,h2⟩:=zga (P:=P) (w:=w) (t:=t) h;exact ⟨h1,h2,rfl,rfl,by simp⟩
 ·rename_i a b;split at h
  ·rename_i hu;refine ⟨?_,?_,rfl,rfl,by simp⟩
   ·split at h
    ·injection h with h;subst h;simp [binOp,run_equal_bool w t a b hu]
    ·injection h with h;subst h;simp [binOp,run_equal_bool w t a b hu]
    ·cases h
   ·split at h
    ·injection h with h;subst h;rfl
    ·injection h with h;subst h;rfl
    ·cases h
  ·cases h
 ·cases h
theorem zlU {p:Prop} (h:p:=by
  have hn:0<n:=Nat.pos_of_ne_zero (by rintro rfl;simp at hl);obtain ⟨g,o,rfl,_⟩:=hc hn;exact ⟨_,n,cap,rfl,rfl,fun h=>by cases h⟩):p:=h
theorem nil?_spec {v:Value} {cc:C} {b:Bool} (h:nil? cc=some b) (hr:RC G v cc):∃ A n k,v = .slice A n k∧A.isNone=b∧(b=true→v = .slice none 0 0):=by
 unfold nil? at h;split at h
 ·injection h with h;subst h;exact ⟨none,0,0,hr,rfl,fun _=>hr⟩
 ·injection h with h;subst h;obtain ⟨A,n,cap,us,rfl,hl,hs,_,_,hc⟩:=RD.row_ hr;exact zlU
 ·injection h with h;subst h;obtain ⟨A,n,cap,us,rfl,hl,hs,_,_,hc⟩:=RD.row_ hr.1;exact zlU
 ·cases h
theorem z5k (w:World) (d:Nat) {t e:TypeId} (hu:P.underlying t=some (.slice e)) (A B:Option Addr) (n m k l:Nat) (h1:A=none∨B=none):(Op.equalIn (d+1) t (.slice A n k) (.slice B m l)).run P w = .ok (A.isNone&&B.isNone) w:=by
 cases A<;>cases B<;>simp at h1<;>simp [Op.equalIn,run_underlying hu]
theorem zlY {p:Prop} (h:p:=by
  split at h
  ·injection h with h;subst h;exact ⟨by simp [binOp,this],rfl,by simp⟩
  ·injection h with h;subst h;exact ⟨by simp [binOp,this],rfl,by simp⟩
  ·cases h):p:=h
theorem zhD {op:BinOp} {t:TypeId} {a b:C} {x y v:Value} (h:ziH P op t a b=some v) (ha:RC G x a) (hb:RC G y b):(binOp op t x y).run P w = .ok v w∧v.oneCell'=true∧x ≠ .nilIface:=by
 unfold ziH at h;split at h
 ·rename_i e hu;have key:∀ (A B:Option Addr) (n m k l:Nat) (r:Bool),(A=none∨B=none)→(A.isNone&&B.isNone)=r→(Op.equal t (.slice A n k) (.slice B m l)).run P w = .ok r w:=by
   intro A B n m k l r h1 h2;subst h2;exact z5k w 9999 hu A B n m k l h1
  split at h
  ·rename_i a' ha' hb';obtain ⟨A,n,k,rfl,h3,_⟩:=nil?_spec ha' ha;obtain ⟨B,m,l,rfl,h4,h5⟩:=nil?_spec hb' hb;have hB:B=none:=by cases B with|none=>rfl|some _=>cases h4
   subst hB;have:=key A none n m k l a' (.inr rfl) (by rw [h3];simp);exact zlY
  ·rename_i b' _ ha' hb';obtain ⟨A,n,k,rfl,h3,_⟩:=nil?_spec ha' ha;obtain ⟨B,m,l,rfl,h4,_⟩:=nil?_spec hb' hb;have hA:A=none:=by cases A with|none=>rfl|some _=>cases h3
   subst hA;have:=key none B n m k l b' (.inl rfl) (by rw [h4];simp);exact zlY
  ·cases h
 ·cases h
theorem zmM {op:BinOp} {t:TypeId} {x y:Operand} {r:T} (hρ:Rho G ρ σ) (h:zjk P op t (ρ x) (ρ y)=some r):∃ v,(do eqGuard op t x y (σ x) (σ y);binOp op t (σ x) (σ y):Sem Value).run P w = .ok v w∧RT G v r:=by
 unfold zjk at h;split at h
 ·rename_i a b hx hy;cases hb:binV P op t a b with
  | none=>rw [hb] at h;cases h
  | some v=>
   rw [hb] at h;simp at h;subst h;obtain ⟨h1,h2,h3,h4,h5⟩:=zkv (w:=w) hb;have ex:=RT_v (hρ x _ hx);have ey:=RT_v (hρ y _ hy);refine ⟨v,?_,z8E h2⟩;rw [ex,ey];simp [zbp h3 h4 h5,h1]
 ·rename_i a b _ hx hy;cases hb:ziH P op t a b with
  | none=>rw [hb] at h;cases h
  | some v=>
   rw [hb] at h;simp at h;subst h;have ex:=hρ x _ hx;have ey:=hρ y _ hy;obtain ⟨h1,h2,h3⟩:=zhD (w:=w) hb ex ey;exact ⟨v,by simp [zbp (RC.one ex) (RC.one ey) h3,h1],z8E h2⟩
 ·cases h
theorem run_un {op:UnOp} {x v:Value} (h:unV op x=some v):(Op.unary op x).run P w = .ok v w∧v.oneCell'=true:=by
 unfold unV at h;split at h
 ·injection h with h;subst h;simp [Op.unary,Op.intArith,Value.oneCell']
 ·injection h with h;subst h;simp [Op.unary,Op.intBits,Value.oneCell']
 ·injection h with h;subst h;simp [Op.unary,Value.oneCell']
 ·cases h
theorem zkr {x y:Operand} {r:T} (hρ:Rho G ρ σ) (h:zax (ρ x) (ρ y) false=some r) (ts:Array TypeId) (ty:TypeId):∃ v,(Builtin.min_ ts ty #[σ x,σ y]).run P w = .ok v w∧RT G v r:=by
 unfold zax at h;split at h
 ·rename_i k a k' b hx hy;split at h
  ·rename_i hk;subst hk;injection h with h;subst h;have ex:=RT_v (hρ x _ (int?_spec hx));have ey:=RT_v (hρ y _ (int?_spec hy));exact ⟨.int k (if b<a then b else a),by simp [Builtin.min_,ex,ey,Builtin.min2],z8E rfl⟩
  ·cases h
 ·cases h
theorem zks {x y:Operand} {r:T} (hρ:Rho G ρ σ) (h:zax (ρ x) (ρ y) true=some r) (ts:Array TypeId) (ty:TypeId):∃ v,(Builtin.max_ ts ty #[σ x,σ y]).run P w = .ok v w∧RT G v r:=by
 unfold zax at h;split at h
 ·rename_i k a k' b hx hy;split at h
  ·rename_i hk;subst hk;injection h with h;subst h;have ex:=RT_v (hρ x _ (int?_spec hx));have ey:=RT_v (hρ y _ (int?_spec hy));exact ⟨.int k (if b>a then b else a),by simp [Builtin.max_,ex,ey,Builtin.max2],z8E rfl⟩
  ·cases h
 ·cases h
theorem bytesOf?_spec:∀ {l:List D} {bs:List UInt8},bytesOf? l=some bs→l=bs.map zcB
 | [],bs,h=>by simp [bytesOf?] at h;subst h;rfl
 | x::l,bs,h=>by
  rw [bytesOf?] at h;cases hx:byteOf? x with
  | none=>rw [hx] at h;cases h
  | some b=>
   rw [hx] at h;simp only at h;cases hl:bytesOf? l with
   | none=>rw [hl] at h;cases h
   | some bs' =>
    rw [hl] at h;simp at h;subst h;rw [List.map_cons,←bytesOf?_spec hl]
    congr 1
    unfold byteOf? at hx;split at hx
    ·rename_i n;split at hx
     ·rename_i hn;injection hx with hx;subst hx;unfold zcB
      congr 2
      simp;omega
     ·cases hx
    ·cases hx
theorem zjT {us:List Value} {bs:List UInt8} (h:RDs G.im us (bs.map zcB)):us=Lib.byteCells bs:=by
 refine List.ext_getElem? fun j=>?_
 rcases Nat.lt_or_ge j us.length with hj|hj
 ·have hb:j<bs.length:=by have:=h.1;simp at this;omega
  have hr:=h.2 j us[j] (zcB bs[j]) (List.getElem?_eq_getElem hj) (by simp [List.getElem?_eq_getElem hb]);rw [List.getElem?_eq_getElem hj];have hr:RT G us[j] (.v (.int .u8 (bs[j].toNat:Int))):=hr;rw [RT_v hr];simp [Lib.byteCells,List.getElem?_eq_getElem hb]
 ·have hb:bs.length≤j:=by have:=h.1;simp at this;omega
  rw [List.getElem?_eq_none hj,List.getElem?_eq_none (by simpa [Lib.byteCells] using hb)]
end
end Am
end Go.Proofs.YtgmppconibklcaaGreatDoor

