/- Part of the proof of TspBack. No condition: lemmas alone. -/
import Derived.Test.YtgmppconibklcaaGreatDoorM3
set_option linter.unusedVariables false
set_option linter.unusedSimpArgs false
namespace Go.Proofs.YtgmppconibklcaaGreatDoor
open Go Go.RowKit
namespace Am
def z1P (os:List O):Objs:=fun p=>if p%16=15 then os[p / 16]? else none
def resH (ws os:List O):Objs:=fun p=>if p%16=14 then ws[p / 16]? else z1P os p
def locP (lo:Nat→Option Value):Nat→Option Value:=fun p=>if p%16=15 then lo (p / 16) else none
def zao (c:Ctx) (t:T) (ws os:List O) (e:Ending) (w':World):Prop:=∃ v G',e = .returned v∧RT G' v t∧Inv c G' (resH ws os) w'
def z0M (P:Program) (gl:Nat→Option (List D)) (tb:World→Prop) (g:FuncId) (args:List E) (os:List O) (t:T) (ws os':List O):Prop:=
 ∀ (W0:World) (im:Im) (w:World) (vals:List Value) (ch:Nat→Prop) (lo:Nat→Option Value),Inv ⟨W0,w,im,gl,tb,ch,lo⟩ ⟨im,locP lo⟩ (z1P os) w→REs ⟨im,locP lo⟩ vals args →
  Calls P g vals.toArray w (zao ⟨W0,w,im,gl,tb,ch,lo⟩ t ws os')
def z1J (P:Program) (gl:Nat→Option (List D)) (tb:World→Prop) (X:z1F):Prop:=∀ g args os t ws os',X g args os=some (t,ws,os')→z0M P gl tb g args os t ws os'
def z1j (P:Program):Prop:=∀ (g:FuncId) (fn:Func),P.funcs[g]? = some fn→(fn.name=="runtime.NumGoroutine")=false
section
variable {P:Program} {w w':World} {G:Gh} {c:Ctx} {h:Objs} {ρ:Operand→Option T} {σ:Operand→Value}
theorem isD_RC {G G':Gh} {v:Value} {cc:C} (hd:cc.isD=true) (hi:∀ a u,G.im a=some u→G'.im a=some u) (hr:RC G v cc):RC G' v cc:=by
 cases cc with
 | d x=>exact RD.mono hr hi
 | _=>cases hd
theorem zcU {G G':Gh} {us:List Value} {cs:List C} (hd:cs.all C.isD=true) (hi:∀ a u,G.im a=some u→G'.im a=some u) (hr:RCs G us cs):RCs G' us cs:=
 ⟨hr.1,fun j u cc hu hc=>isD_RC (List.all_eq_true.1 hd cc (List.mem_of_getElem? hc)) hi (hr.2 j u cc hu hc)⟩
theorem z5h:∀ (cs:List C) (ps:List Nat) (p:Nat),(p∈ps∨∃ n s,C.sl p n s∈cs)→p∈zaL cs ps
 | [],ps,p,h=>by simpa [zaL] using h
 | cc::cs,ps,p,h=>by
  cases cc with
  | sl q m t=>
   simp only [zaL];refine z5h cs _ p ?_;by_cases hq:ps.contains q=true
   ·rw [if_pos hq];rcases h with h|⟨n,s,h⟩
    ·exact .inl h
    ·rcases List.mem_cons.1 h with h|h
     ·injection h with h1 h2 h3;subst h1;exact .inl (by simpa using hq)
     ·exact .inr ⟨n,s,h⟩
   ·rw [if_neg hq];rcases h with h|⟨n,s,h⟩
    ·exact .inl (by simp [h])
    ·rcases List.mem_cons.1 h with h|h
     ·injection h with h1 h2 h3;subst h1;exact .inl (by simp)
     ·exact .inr ⟨n,s,h⟩
  | _=>
   simp only [zaL];refine z5h cs _ p ?_;rcases h with h|⟨n,s,h⟩
   ·exact .inl h
   ·rcases List.mem_cons.1 h with h|h
    ·cases h
    ·exact .inr ⟨n,s,h⟩
theorem z3j:∀ (xs:List (Option E)) (ps:List Nat) (p:Nat),(p∈ps∨∃ x n s,some x∈xs∧C.sl p n s∈x.cells)→p∈z1s xs ps
 | [],ps,p,h=>by
  rcases h with h|⟨x,n,s,h,_⟩
  ·exact h
  ·cases h
 | none::xs,ps,p,h=>by
  rw [z1s];refine z3j xs ps p ?_;rcases h with h|⟨x,n,s,h,h2⟩
  ·exact .inl h
  ·rcases List.mem_cons.1 h with h|h
   ·cases h
   ·exact .inr ⟨x,n,s,h,h2⟩
 | some y::xs,ps,p,h=>by
  rw [z1s];refine z3j xs _ p ?_;rcases h with h|⟨x,n,s,h,h2⟩
  ·exact .inl (z5h _ _ _ (.inl h))
  ·rcases List.mem_cons.1 h with h|h
   ·injection h with h;subst h;exact .inl (z5h _ _ _ (.inr ⟨n,s,h2⟩))
   ·exact .inr ⟨x,n,s,h,h2⟩
theorem Inv.settle (hI:Inv c G h w) (zs:List Nat):∃ im':Im,(∀ a u,G.im a=some u→im' a=some u)∧Inv c ⟨im',G.loc⟩ (fun p=>if p∈zs then none else h p) w ∧
  ∀ p ty cs b us,p∈zs→h p=some (.var ty cs)→G.loc p=some (.pointer (some ⟨b,0,none⟩))→Blk w b ty us→∀ j u,us[j]? = some u→im' ⟨b,j,none⟩=some u:=by
 let cond:Addr→Prop:=fun a=>∃ p ty cs,p∈zs∧h p=some (.var ty cs)∧G.blk p=some a.block
 obtain ⟨im',him⟩:∃ im':Im,∀ a,(cond a→im' a=w.cell? a)∧(¬cond a→im' a=G.im a):=by
  refine ⟨fun a=>@ite _ (cond a) (Classical.propDecidable _) (w.cell? a) (G.im a),fun a=>⟨fun h=>if_pos h,fun h=>if_neg h⟩⟩
 have hext:∀ a u,G.im a=some u→im' a=some u:=fun a u ha=>by
  by_cases hc:cond a
  ·rw [(him a).1 hc];exact hI.imw a u ha
  ·rw [(him a).2 hc];exact ha
 refine ⟨im',hext,⟨hI.tb,hI.base,hI.chb,hI.below,fun a u ha=>?_,fun a u ha=>hext _ _ (hI.imx a u ha),fun a ha hn=>?_,hI.pas,fun g l hg=>RC.mono (hI.glob g l hg) hext rfl,fun p o hp=>?_,fun p q o o' b hp hq=>?_⟩,fun p ty cs b us hz hp hl hB j u hu=>?_⟩
 ·have ha:im' a=some u:=ha;by_cases hc:cond a
  ·rw [(him a).1 hc] at ha;exact ha
  ·rw [(him a).2 hc] at ha;exact hI.imw a u ha
 ·have hc:¬cond a:=by
   rintro ⟨p,ty,cs,_,hp,hb⟩;rcases ((hI.obj p _ hp).z5F hb).1 with h1|h1
   ·omega
   ·exact hn h1
  show im' a=c.im1 a;rw [(him a).2 hc];exact hI.imo a ha hn
 ·split at hp
  ·cases hp
  ·rename_i hz;have hr:=hI.obj p o hp;have hnc:∀ a:Addr,G.blk p=some a.block→¬cond a:=by
    rintro a hb ⟨q,ty,cs,hq,hhq,hbq⟩;have:=hI.sep p q o _ a.block hp hhq hb hbq;exact hz (this▸hq)
   cases o with
   | var ty cs=>
    obtain ⟨b,us,e1,e2,e3,e4,e5⟩:=hr;exact ⟨b,us,e1,e2,e3,e4.mono hext rfl,fun off=>by
     show im' ⟨b,off,none⟩=none;rw [(him _).2 (hnc ⟨b,off,none⟩ (by unfold Gh.blk;rw [e1]))];exact e5 off⟩
   | own e s n=>
    obtain ⟨v,us,e1,e2,e3⟩:=hr;exact ⟨v,us,e1,e2,fun g hg off u hu=>e3 g hg off u (by
     rw [←(him _).2 (hnc ⟨g,off,none⟩ (by rw [z5V e2 e1];exact hg))];exact hu)⟩
 ·split at hp
  ·cases hp
  ·split at hq
   ·cases hq
   ·exact hI.sep p q o o' b hp hq
 ·rw [(him _).1 ⟨p,ty,cs,hz,hp,by unfold Gh.blk;rw [hl]⟩,hB.cell,hu]
theorem zcv {v:Value} {cc:C} {zs:List Nat} {im':Im} (hI:Inv c G h w) (hext:∀ a u,G.im a=some u→im' a=some u)
  (hz:∀ p ty cs b us,p∈zs→h p=some (.var ty cs)→G.loc p=some (.pointer (some ⟨b,0,none⟩))→Blk w b ty us→∀ j u,us[j]? = some u→im' ⟨b,j,none⟩=some u) (hmem:∀ p n s,cc = .sl p n s→p∈zs) (hr:RC G v cc):RC ⟨im',G.loc⟩ v (setC h cc):=by
 have same:RC ⟨im',G.loc⟩ v cc:=RC.mono hr hext rfl;cases cc with
 | sl p n s=>
  simp only [setC];split
  ·rename_i ty cs hp;split
   ·rename_i l hl;split
    ·rename_i hb;obtain ⟨b,us,e1,_,hB,hcs,_⟩:=hI.obj p _ hp;obtain ⟨b',e2,rfl⟩:=hr;rw [e1] at e2;simp at e2;subst e2;have hds:=(z9Z hcs hl).mono hext;refine RD.row _ n n s us.toList l hb.1 hds.1 hb.2 (Nat.le_refl _) (fun _=>⟨b,0,rfl,fun j u hu=>?_⟩) hds.2;rw [Nat.zero_add];exact hz p ty cs b us (hmem p n s rfl) hp e1 hB j u (by rw [←Array.getElem?_toList];exact hu)
    ·exact same
   ·exact same
  ·exact same
 | _=>exact same
theorem zcu {v:Value} {x:E} {zs:List Nat} {im':Im} (hI:Inv c G h w) (hext:∀ a u,G.im a=some u→im' a=some u)
  (hz:∀ p ty cs b us,p∈zs→h p=some (.var ty cs)→G.loc p=some (.pointer (some ⟨b,0,none⟩))→Blk w b ty us→∀ j u,us[j]? = some u→im' ⟨b,j,none⟩=some u) (hmem:∀ p n s,C.sl p n s∈x.cells→p∈zs) (hr:RE G v x):RE ⟨im',G.loc⟩ v (setE h x):=by
 cases x with
 | one cc=>exact zcv hI hext hz (fun p n s e=>hmem p n s (by simp [E.cells,e])) hr
 | agg cs=>
  obtain ⟨us,rfl,h1,h2⟩:=hr;refine ⟨us,rfl,by simp [h1],fun j u cc hu hc=>?_⟩;rw [List.getElem?_map] at hc;cases hcj:cs[j]? with
  | none=>rw [hcj] at hc;cases hc
  | some c0=>
   rw [hcj] at hc;simp at hc;subst hc;exact zcv hI hext hz (fun p n s e=>hmem p n s (by subst e;exact List.mem_of_getElem? hcj)) (h2 j u c0 hu hcj)
theorem zeg:∀ (ps:List Nat) (p i k:Nat),idx p ps i=some k→i≤k∧ps[k-i]? = some p
 | [],p,i,k,h=>by simp [idx] at h
 | q::qs,p,i,k,h=>by
  simp only [idx] at h;split at h
  ·rename_i e;injection h with h;subst h;subst e;exact ⟨Nat.le_refl _,by simp⟩
  ·obtain ⟨h1,h2⟩:=zeg qs p (i+1) k h;exact ⟨by omega,by rw [show k-i=(k-(i+1))+1 by omega,List.getElem?_cons_succ];exact h2⟩
theorem zhh (lo:Nat→Option Value) (i:Nat):locP lo (i*16+15)=lo i:=by
 unfold locP;rw [if_pos (by omega),show (i*16+15) / 16=i by omega]
theorem zdR {v:Value} {cc cc':C} {ps:List Nat} (hp:zb5 ps cc=some cc') (hr:RC G v cc):RC ⟨G.im,locP fun i=>(ps[i]?).bind G.loc⟩ v cc':=by
 cases cc with
 | d x=>simp [zb5] at hp;subst hp;exact hr
 | ref p off=>
  simp only [zb5] at hp;cases hi:idx p ps 0 with
  | none=>rw [hi] at hp;cases hp
  | some i=>
   rw [hi] at hp;simp at hp;subst hp;have:=(zeg ps p 0 i hi).2;rw [Nat.sub_zero] at this;obtain ⟨b,h1,h2⟩:=hr;exact ⟨b,by
    show locP (fun i=>(ps[i]?).bind G.loc) (i*16+15)=_;rw [zhh];show (ps[i]?).bind G.loc=_;rw [this];exact h1,h2⟩
 | _=>cases hp
theorem z8K {ps:List Nat}:∀ {cs cs':List C} {us:List Value},z6o ps cs=some cs'→RCs G us cs→RCs ⟨G.im,locP fun i=>(ps[i]?).bind G.loc⟩ us cs'
 | [],cs',us,h,hr=>by
  simp [z6o] at h;subst h;have:us=[]:=List.eq_nil_of_length_eq_zero hr.1;subst this;exact .nil_
 | cc::cs,cs',us,h,hr=>by
  rw [z6o] at h;cases hc:zb5 ps cc with
  | none=>rw [hc] at h;cases h
  | some c1=>
   rw [hc] at h;simp only at h;cases hcs:z6o ps cs with
   | none=>rw [hcs] at h;cases h
   | some cs1=>
    rw [hcs] at h;simp at h;subst h;match us,hr with
    | [],hr=>exact absurd hr.1 (by simp)
    | u::us,hr=>
     have r1:RC G u cc:=hr.2 0 u cc rfl rfl;have r2:RCs G us cs:=⟨by simpa using hr.1,fun j u c hu hc=>hr.2 (j+1) u c (by simpa using hu) (by simpa using hc)⟩;have a1:=zdR hc r1;have a2:=z8K hcs r2;refine ⟨by simp [a2.1],fun j x y hx hy=>?_⟩;match j with
     | 0=>simp at hx hy;subst hx;subst hy;exact a1
     | j+1=>exact a2.2 j x y (by simpa using hx) (by simpa using hy)
theorem zj8 {v:Value} {x y:E} {ps:List Nat} (hp:zfr ps x=some y) (hr:RE G v x):RE ⟨G.im,locP fun i=>(ps[i]?).bind G.loc⟩ v y:=by
 cases x with
 | one cc=>
  simp only [zfr] at hp;cases hc:zb5 ps cc with
  | none=>rw [hc] at hp;cases hp
  | some c1=>rw [hc] at hp;simp at hp;subst hp;exact zdR hc hr
 | agg cs=>
  simp only [zfr] at hp;cases hc:z6o ps cs with
  | none=>rw [hc] at hp;cases hp
  | some c1=>
   rw [hc] at hp;simp at hp;subst hp;obtain ⟨us,rfl,hr⟩:=hr;exact ⟨us,rfl,z8K hc hr⟩
theorem z55 {ps:List Nat}:∀ {ts:List TypeId} {xs:List (Option E)} {ys:List E} {vs:List Value},z23 P ps ts xs=some ys→vs.length=xs.length→(∀ (j:Nat) (v:Value) (x:E),vs[j]? = some v→xs[j]? = some (some x)→RE G v x)→REs ⟨G.im,locP fun i=>(ps[i]?).bind G.loc⟩ vs ys
 | [],[],ys,vs,h,hl,_=>by
  simp [z23] at h;subst h;have:vs=[]:=List.eq_nil_of_length_eq_zero hl;subst this;exact ⟨rfl,fun j u x hu=>by simp at hu⟩
 | t::ts,[],ys,vs,h,_,_=>by simp [z23] at h
 | [],some x::xs,ys,vs,h,_,_=>by simp [z23] at h
 | [],none::xs,ys,vs,h,_,_=>by simp [z23] at h
 | t::ts,none::xs,ys,vs,h,_,_=>by simp [z23] at h
 | t::ts,some x::xs,ys,vs,h,hl,hr=>by
  match vs,hl with
  | v::vs,hl=>
   rw [z23] at h;cases hd:zfr ps (x.fz (slz P 8 t)) with
   | none=>rw [hd] at h;cases h
   | some y=>
    rw [hd] at h;simp only at h;cases hf:z23 P ps ts xs with
    | none=>rw [hf] at h;cases h
    | some ys' =>
     rw [hf] at h;simp at h;subst h;have h1:=z55 hf (by simpa using hl) (fun j v x hv hx=>hr (j+1) v x (by simpa using hv) (by simpa using hx));refine ⟨by simp [h1.1],fun j u y' hu hy=>?_⟩;match j with
     | 0=>simp at hu hy;subst hu;subst hy;exact zj8 hd (hr 0 v x rfl rfl).fz
     | j+1=>exact h1.2 j u y' (by simpa using hu) (by simpa using hy)
theorem z4X:∀ {ps:List Nat} {os:List O},z1o P h ps=some os→os.length=ps.length∧∀ (i p:Nat) (o:O),ps[i]? = some p→os[i]? = some o→∃ ty cs,h p=some (.var ty cs)∧o = .var ty (fzs (slz P 8 ty) cs)∧(fzs (slz P 8 ty) cs).all C.isD=true
 | [],os,h=>by
  simp [z1o] at h;subst h;exact ⟨rfl,fun i p o hp=>by simp at hp⟩
 | p::ps,os,hh=>by
  rw [z1o] at hh;cases hb:(h p).bind (zcz P) with
  | none=>rw [hb] at hh;cases hh
  | some o1=>
   rw [hb] at hh;simp only at hh;cases hr:z1o P h ps with
   | none=>rw [hr] at hh;cases hh
   | some os1=>
    rw [hr] at hh;simp at hh;subst hh;obtain ⟨h1,h2⟩:=z4X hr;refine ⟨by simp [h1],fun i q o hq ho=>?_⟩;cases i with
    | zero=>
     simp at hq ho;subst hq;subst ho;cases hp:h p with
     | none=>rw [hp] at hb;cases hb
     | some o0=>
      rw [hp] at hb;simp only [Option.bind_some] at hb;cases o0 with
      | own e s n=>cases hb
      | var ty cs=>
       simp only [zcz] at hb;split at hb
       ·rename_i hall;injection hb with hb;exact ⟨ty,cs,rfl,hb.symm,hall⟩
       ·cases hb
    | succ i=>exact h2 i q o (by simpa using hq) (by simpa using ho)
theorem zdQ {os:List O} {p:Nat} {o:O} (hp:z1P os p=some o):p%16=15∧os[p / 16]? = some o:=by
 unfold z1P at hp;split at hp
 ·rename_i h15;exact ⟨h15,hp⟩
 ·cases hp
def chOf (G:Gh) (ps:List Nat):Nat→Prop:=fun b=>∃ p,p∈ps∧G.blk p=some b
theorem Inv.callee (hI:Inv c G h w) {ps:List Nat} {os:List O} (hnd:ps.Nodup) (hos:z1o P h ps=some os):
  Inv ⟨c.W0,w,G.im,c.gl,c.tb,chOf G ps,fun i=>(ps[i]?).bind G.loc⟩ ⟨G.im,locP fun i=>(ps[i]?).bind G.loc⟩ (z1P os) w:=by
 obtain ⟨hlen,hspec⟩:=z4X hos;have at_:∀ p o,z1P os p=some o→∃ q ty cs,ps[p / 16]? = some q∧q∈ps∧p%16=15∧h q=some (.var ty cs)∧o = .var ty (fzs (slz P 8 ty) cs)∧(fzs (slz P 8 ty) cs).all C.isD=true∧locP (fun i=>(ps[i]?).bind G.loc) p=G.loc q:=by
  intro p o hp;obtain ⟨h15,ho⟩:=zdQ hp;have hlt:p / 16<ps.length:=by rw [←hlen];exact (List.getElem?_eq_some_iff.1 ho).1
  have hq:=List.getElem?_eq_getElem hlt;obtain ⟨ty,cs,h1,h2,h3⟩:=hspec _ _ o hq ho;exact ⟨_,ty,cs,hq,List.getElem_mem hlt,h15,h1,h2,h3,by
   unfold locP;rw [if_pos h15];show (ps[p / 16]?).bind G.loc=_;rw [hq];rfl⟩
 have inos:∀ p,p∈ps→∃ ty cs,h p=some (.var ty cs):=by
  intro p hp;obtain ⟨i,hi,rfl⟩:=List.getElem_of_mem hp;have hi2:i<os.length:=by rw [hlen];exact hi
  obtain ⟨ty,cs,h1,_⟩:=hspec i _ os[i] (List.getElem?_eq_getElem hi) (List.getElem?_eq_getElem hi2);exact ⟨ty,cs,h1⟩
 refine ⟨hI.tb,hI.old,fun k hk=>?_,Only.refl _ _,hI.imw,fun _ _ h=>h,fun _ _ _=>rfl,fun i=>zhh (fun i=>(ps[i]?).bind G.loc) i,fun g l hg=>?_,fun p o hp=>?_,fun p q o o' b hp hq hbp hbq=>?_⟩
 ·obtain ⟨p,hp,hb⟩:=hk;obtain ⟨ty,cs,h1⟩:=inos p hp;have h2:=(hI.obj p _ h1).z5F hb;refine ⟨?_,h2.2⟩;rcases h2.1 with h3|h3
  ·exact Nat.le_trans hI.base.size h3
  ·exact (hI.chb _ h3).1
 ·obtain ⟨g',o',h1,h2⟩:=hI.glob g l hg;exact ⟨g',o',h1,h2⟩
 ·obtain ⟨q,ty,cs,hq,hqm,h15,h1,rfl,hall,hloc⟩:=at_ p o hp;obtain ⟨b,us,e1,e2,e3,e4,e5⟩:=hI.obj q _ h1;refine ⟨b,us,hloc.trans e1,.inr ⟨q,hqm,by unfold Gh.blk;rw [e1]⟩,e3,?_,e5⟩;exact zcU (G:=⟨G.im,G.loc⟩) hall (fun _ _ h=>h) (RCs.fzs (G:=⟨G.im,G.loc⟩) e4)
 ·obtain ⟨q1,ty1,cs1,a1,_,a2,a3,_,_,a4⟩:=at_ p o hp;obtain ⟨q2,ty2,cs2,b1,_,b2,b3,_,_,b4⟩:=at_ q o' hq;have hb1:G.blk q1=some b:=by unfold Gh.blk at hbp ⊢;rw [←a4];exact hbp
  have hb2:G.blk q2=some b:=by unfold Gh.blk at hbq ⊢;rw [←b4];exact hbq
  have hqq:=hI.sep q1 q2 _ _ b a3 b3 hb1 hb2;subst hqq;have h1:=(List.getElem?_eq_some_iff.1 a1).1;have h2:=(List.getElem?_eq_some_iff.1 b1).1;have e1:=(List.getElem?_eq_some_iff.1 a1).2;have e2:=(List.getElem?_eq_some_iff.1 b1).2;have hp2:=List.pairwise_iff_getElem.1 hnd;have:p / 16=q / 16:=by
   rcases Nat.lt_trichotomy (p / 16) (q / 16) with hlt|heq|hgt
   ·exact absurd (e1.trans e2.symm) (hp2 _ _ h1 h2 hlt)
   ·exact heq
   ·exact absurd (e2.trans e1.symm) (hp2 _ _ h2 h1 hgt)
  omega
theorem z4g:∀ (cs:List C) (ps:List Nat),ps.Nodup→(refsOf cs ps).Nodup
 | [],ps,h=>h
 | cc::cs,ps,h=>by
  cases cc with
  | ref p off=>
   simp only [refsOf];refine z4g cs _ ?_;by_cases hp:ps.contains p=true
   ·rw [if_pos hp];exact h
   ·rw [if_neg hp];have hp':p∉ps:=by simpa using hp
    exact List.nodup_append.2 ⟨h,by simp,fun a ha b hb=>by simp at hb;subst hb;exact fun e=>hp' (e▸ha)⟩
  | _=>simp only [refsOf];exact z4g cs _ h
theorem z2P:∀ (xs:List (Option E)) (ps:List Nat),ps.Nodup→(z0O xs ps).Nodup
 | [],ps,h=>h
 | none::xs,ps,h=>by rw [z0O];exact z2P xs ps h
 | some x::xs,ps,h=>by rw [z0O];exact z2P xs _ (z4g _ _ h)
theorem z4x:∀ (os:List O) (base i:Nat) (h:Objs) (p:Nat),(named base i os).foldl hSet h p=if base+1+i≤p∧p<base+1+i+os.length then os[p-(base+1+i)]? else h p
 | [],base,i,h,p=>by
  show h p=_;rw [if_neg (by intro hh;simp at hh;omega)]
 | o::os,base,i,h,p=>by
  rw [named,List.foldl_cons,z4x os base (i+1)];simp only [List.length_cons];by_cases h1:base+1+(i+1)≤p∧p<base+1+(i+1)+os.length
  ·rw [if_pos h1,if_pos (by omega),show p-(base+1+i)=(p-(base+1+(i+1)))+1 by omega,List.getElem?_cons_succ]
  ·rw [if_neg h1];unfold hSet;by_cases h2:p=base+1+i
   ·subst h2;rw [if_pos rfl,if_pos (by omega),Nat.sub_self];rfl
   ·simp only;rw [if_neg h2,if_neg (by omega)]
theorem z7v:∀ (os:List O) (base i p:Nat),p∈(named base i os).map (·.1)↔base+1+i≤p∧p<base+1+i+os.length
 | [],base,i,p=>by simp [named]
 | o::os,base,i,p=>by
  rw [named,List.map_cons,List.mem_cons,z7v os base (i+1)];simp only [List.length_cons];omega
theorem z6c:∀ (ps:List Nat) (os:List O) (h:Objs),ps.Nodup→os.length=ps.length→(∀ (i p:Nat),ps[i]? = some p→(z4q ps os).foldl hSet h p=os[i]?)∧∀ (p:Nat),p∉ps→(z4q ps os).foldl hSet h p=h p
 | [],[],h,_,_=>⟨fun i p hp=>by simp at hp,fun p _=>rfl⟩
 | [],o::os,h,_,hl=>by simp at hl
 | q::ps,[],h,_,hl=>by simp at hl
 | q::ps,o::os,h,hn,hl=>by
  obtain ⟨hq,hn⟩:=List.nodup_cons.1 hn;obtain ⟨h1,h2⟩:=z6c ps os (hSet h (q,some o)) hn (by simpa using hl);refine ⟨fun i p hp=>?_,fun p hp=>?_⟩
  ·cases i with
   | zero=>
    simp at hp;subst hp;rw [z4q,List.foldl_cons,h2 q hq];unfold hSet;simp
   | succ i=>rw [z4q,List.foldl_cons];exact h1 i p (by simpa using hp)
  ·simp at hp;rw [z4q,List.foldl_cons,h2 p hp.2];unfold hSet;simp [hp.1]
theorem z8T:∀ (zs:List Nat) (h:Objs) (p:Nat),(zs.map fun z=>(z,(none:Option O))).foldl hSet h p=if p∈zs then none else h p
 | [],h,p=>by simp
 | z::zs,h,p=>by
  rw [List.map_cons,List.foldl_cons,z8T zs];unfold hSet;by_cases h1:p∈zs
  ·simp [h1]
  ·by_cases h2:p=z
   ·simp [h1,h2]
   ·simp [h1,h2]
theorem z5S:∀ {os os':List O},z2N os os'=true→os'.length=os.length
 | [],[],_=>rfl
 | [],o::os,h=>by simp [z2N] at h
 | o::os,[],h=>by simp [z2N] at h
 | .var t _::os,.var u _::os',h=>by
  simp [z2N] at h;simp [z5S h.2]
 | .own _ _ _::os,o'::os',h=>by simp [z2N] at h
 | .var _ _::os,.own _ _ _::os',h=>by simp [z2N] at h
def z1L (loc loc':Nat→Option Value) (base n:Nat):Nat→Option Value:=fun p=>if base+1≤p∧p<base+1+n then loc' ((p-(base+1))*16+14) else loc p
theorem RC.ren {G G':Gh} {v:Value} {cc:C} {base n:Nat} (hos:cc.z2o n=true) (hr:RC G' v cc):RC ⟨G'.im,z1L G.loc G'.loc base n⟩ v (cc.ren base):=by
 cases cc with
 | gr q s l=>
  simp [C.z2o] at hos;obtain ⟨h1,h2⟩:=hos;refine ⟨hr.1,?_⟩;show z1L _ _ _ _ _=_;unfold z1L;rw [if_pos (by omega)];have:(base+1+q / 16-(base+1))*16+14=q:=by omega
  rw [this];exact hr.2
 | d x=>exact hr
 | nilS=>exact hr
 | dead=>exact hr
 | _=>cases hos
theorem RE.ren {G G':Gh} {v:Value} {x:E} {base n:Nat} (hos:x.z2o n=true) (hr:RE G' v x):RE ⟨G'.im,z1L G.loc G'.loc base n⟩ v (x.ren base):=by
 cases x with
 | one cc=>exact RC.ren (by simpa [E.z2o,E.cells] using hos) hr
 | agg cs=>
  obtain ⟨us,rfl,h1,h2⟩:=hr;refine ⟨us,rfl,by simp [h1],fun j u cc hu hc=>?_⟩;rw [List.getElem?_map] at hc;cases hcj:cs[j]? with
  | none=>rw [hcj] at hc;cases hc
  | some c0=>
   rw [hcj] at hc;simp at hc;subst hc;exact RC.ren (List.all_eq_true.1 hos c0 (List.mem_of_getElem? hcj)) (h2 j u c0 hu hcj)
theorem RT.ren {G G':Gh} {v:Value} {t:T} {base n:Nat} (hos:t.z2o n=true) (hr:RT G' v t):RT ⟨G'.im,z1L G.loc G'.loc base n⟩ v (t.ren base):=by
 cases t with
 | e x=>exact RE.ren hos hr
 | tup xs=>
  obtain ⟨vs,rfl,h1,h2⟩:=hr;refine ⟨vs,rfl,by simp [h1],fun j u x hu hx=>?_⟩;rw [List.getElem?_map] at hx;cases hxj:xs[j]? with
  | none=>rw [hxj] at hx;cases hx
  | some x0=>
   rw [hxj] at hx;simp at hx;subst hx;exact RE.ren (List.all_eq_true.1 hos x0 (List.mem_of_getElem? hxj)) (h2 j u x0 hu hxj)
 | undef=>cases hos
theorem z9x (ws os:List O) (i:Nat):resH ws os (i*16+14)=ws[i]? := by
 unfold resH;rw [if_pos (by omega),show (i*16+14) / 16=i by omega]
theorem zgy (ws os:List O) (i:Nat):resH ws os (i*16+15)=os[i]? := by
 unfold resH z1P;rw [if_neg (by omega),if_pos (by omega),show (i*16+15) / 16=i by omega]
theorem Inv.call {v:Value} {t:T} {ws os os':List O} {ps zs:List Nat} {base:Nat} {G':Gh} (hI:Inv c G h w) (hnd:ps.Nodup) (hos:z1o P h ps=some os) (hlen:os'.length=os.length) (hb16:base%16=0) (hw:ws.length<14)
  (hws:ws.all O.zbs=true) (hpl:os'.all O.plain=true) (ht:t.z2o ws.length=true) (hr:RT G' v t) (hI':Inv ⟨c.W0,w,G.im,c.gl,c.tb,chOf G ps,fun i=>(ps[i]?).bind G.loc⟩ G' (resH ws os') w'):
  z17 c G h ⟨t.ren base,z4q ps os'++named base 0 ws,zs++(named base 0 ws).map (·.1)⟩ v w':=by
 have hext:∀ a u,G.im a=some u→G'.im a=some u:=hI'.imx;have hb:Only (chOf G ps) w w':=hI'.below;have hsz:=hI.below.size;obtain ⟨hol,hspec⟩:=z4X hos;have hlen2:os'.length=ps.length:=hlen.trans hol;have inos:∀ p,p∈ps→∃ ty cs,h p=some (.var ty cs):=by
  intro p hp;obtain ⟨i,hi,rfl⟩:=List.getElem_of_mem hp;obtain ⟨ty,cs,h1,_⟩:=hspec i _ (os[i]'(by omega)) (List.getElem?_eq_getElem hi) (List.getElem?_eq_getElem (by omega));exact ⟨ty,cs,h1⟩
 have hnames:∀ p,p∈(named base 0 ws).map (·.1)↔base+1≤p∧p<base+1+ws.length:=fun p=>by have:=z7v ws base 0 p;simpa using this
 have hloc:∀ p,p∉zs++(named base 0 ws).map (·.1)→z1L G.loc G'.loc base ws.length p=G.loc p:=fun p hp=>by
  unfold z1L;rw [if_neg];exact fun hh=>hp (List.mem_append_right _ ((hnames p).2 hh))
 refine ⟨⟨G'.im,z1L G.loc G'.loc base ws.length⟩,hext,hloc,RT.ren ht hr,?_⟩
 let ks:=zs++(named base 0 ws).map (·.1)
 have hup1:∀ p,base+1≤p∧p<base+1+ws.length→hUp ⟨t.ren base,z4q ps os'++named base 0 ws,zs++(named base 0 ws).map (·.1)⟩ h p=ws[p-(base+1)]? := fun p hp=>by
  unfold hUp;rw [List.foldl_append,z4x,Nat.add_zero,if_pos hp]
 have hup2:∀ (p i:Nat),¬(base+1≤p∧p<base+1+ws.length)→ps[i]? = some p→hUp ⟨t.ren base,z4q ps os'++named base 0 ws,zs++(named base 0 ws).map (·.1)⟩ h p=os'[i]? := fun p i hp hq=>by
  unfold hUp;rw [List.foldl_append,z4x,Nat.add_zero,if_neg hp];exact (z6c ps os' _ hnd hlen2).1 i p hq
 have hup3:∀ p,¬(base+1≤p∧p<base+1+ws.length)→p∉ps→hUp ⟨t.ren base,z4q ps os'++named base 0 ws,zs++(named base 0 ws).map (·.1)⟩ h p=(h p).map (O.kill (zs++(named base 0 ws).map (·.1))):=fun p hp hq=>by
  unfold hUp;rw [List.foldl_append,z4x,Nat.add_zero,if_neg hp];exact (z6c ps os' _ hnd hlen2).2 p hq
 have hblkn:∀ p,base+1≤p∧p<base+1+ws.length→(⟨G'.im,z1L G.loc G'.loc base ws.length⟩:Gh).blk p=G'.blk ((p-(base+1))*16+14):=fun p hp=>by
  simp only [Gh.blk,z1L,if_pos hp]
 have hlo:∀ p,¬(base+1≤p∧p<base+1+ws.length)→z1L G.loc G'.loc base ws.length p=G.loc p:=fun p hp=>by unfold z1L;rw [if_neg hp]
 have hblko:∀ p,¬(base+1≤p∧p<base+1+ws.length)→(⟨G'.im,z1L G.loc G'.loc base ws.length⟩:Gh).blk p=G.blk p:=fun p hp=>by
  simp only [Gh.blk,z1L,if_neg hp]
 have hobjn:∀ p o,base+1≤p∧p<base+1+ws.length→ws[p-(base+1)]? = some o→RO ⟨c.W0,w,G.im,c.gl,c.tb,chOf G ps,fun i=>(ps[i]?).bind G.loc⟩ G' w' ((p-(base+1))*16+14) o:=fun p o hp ho=>hI'.obj _ o (by rw [z9x];exact ho)
 have hpasl:∀ (i p:Nat),ps[i]? = some p→G'.loc (i*16+15)=G.loc p:=fun i p hp=>by
  rw [hI'.pas i];show (ps[i]?).bind G.loc=_;rw [hp];rfl
 have hpasb:∀ (i p:Nat),ps[i]? = some p→G'.blk (i*16+15)=G.blk p:=fun i p hp=>by unfold Gh.blk;rw [hpasl i p hp]
 have hold:∀ p o b,p∉ps→h p=some o→G.blk p=some b→b<w.heap.size∧¬chOf G ps b:=fun p o b hp ho hbp=>by
  refine ⟨((hI.obj p o ho).z5F hbp).2,?_⟩;rintro ⟨q,hq,hbq⟩;obtain ⟨ty,cs,h1⟩:=inos q hq;have:=hI.sep p q o _ b ho h1 hbp hbq;exact hp (this▸hq)
 have hmemi:∀ p,p∈ps→∃ i:Nat,ps[i]? = some p:=fun p hp=>by
  obtain ⟨i,hi,e⟩:=List.getElem_of_mem hp;exact ⟨i,by rw [List.getElem?_eq_getElem hi,e]⟩
 /- an own row of the call's: new -/
 have hown:∀ p o b,base+1≤p∧p<base+1+ws.length→ws[p-(base+1)]? = some o→G'.blk ((p-(base+1))*16+14)=some b→w.heap.size≤b:=fun p o b hp ho hbp=>by
  have hro:=hobjn p o hp ho;cases o with
  | var ty cs=>have:=List.all_eq_true.1 hws _ (List.mem_of_getElem? ho);cases this
  | own e s n=>
   obtain ⟨v1,us,e1,e2,e3⟩:=hro;rw [z5V e2 e1] at hbp;exact (e2.lt b hbp).1
 /- which object bears a name, and where its block lies -/
 have hwhere:∀ p o b,hUp ⟨t.ren base,z4q ps os'++named base 0 ws,zs++(named base 0 ws).map (·.1)⟩ h p=some o→(⟨G'.im,z1L G.loc G'.loc base ws.length⟩:Gh).blk p=some b →
   (base+1≤p∧p<base+1+ws.length∧w.heap.size≤b)∨(¬(base+1≤p∧p<base+1+ws.length)∧b<w.heap.size∧G.blk p=some b∧∃ o1,h p=some o1):=by
  intro p o b hp hbp;by_cases hn:base+1≤p∧p<base+1+ws.length
  ·rw [hup1 p hn] at hp;rw [hblkn p hn] at hbp;exact .inl ⟨hn.1,hn.2,hown p o b hn hp hbp⟩
  ·rw [hblko p hn] at hbp;by_cases hpp:p∈ps
   ·obtain ⟨ty,cs,h1⟩:=inos p hpp;exact .inr ⟨hn,((hI.obj p _ h1).z5F hbp).2,hbp,_,h1⟩
   ·rw [hup3 p hn hpp] at hp;cases hh:h p with
    | none=>rw [hh] at hp;cases hp
    | some o1=>exact .inr ⟨hn,((hI.obj p _ hh).z5F hbp).2,hbp,_,rfl⟩
 refine ⟨hI.tb,hI.base,hI.chb,hI.below.step hb (fun b hb hlt=>?_),hI'.imw,fun a u ha=>hext _ _ (hI.imx a u ha),fun a ha hn=>?_,fun i=>?_,fun g l hg=>?_,fun p o hp=>?_,fun p q o o' b hp hq hbp hbq=>?_⟩
 ·obtain ⟨p,hp,hbp⟩:=hb;obtain ⟨ty,cs,h1⟩:=inos p hp;rcases ((hI.obj p _ h1).z5F hbp).1 with h2|h2
  ·omega
  ·exact h2
 ·refine (hI'.imo a (by show a.block<w.heap.size;omega) ?_).trans (hI.imo a ha hn);rintro ⟨p,hp,hbp⟩;obtain ⟨ty,cs,h1⟩:=inos p hp;rcases ((hI.obj p _ h1).z5F hbp).1 with h2|h2
  ·omega
  ·exact hn h2
 ·show z1L _ _ _ _ _=_;rw [hlo _ (by omega)];exact hI.pas i
 ·obtain ⟨g',o',h1,h2⟩:=hI'.glob g l hg;exact ⟨g',o',h1,h2⟩
 ·by_cases hn:base+1≤p∧p<base+1+ws.length
  ·rw [hup1 p hn] at hp;have hro:=hobjn p o hn hp;cases o with
   | var ty cs=>have:=List.all_eq_true.1 hws _ (List.mem_of_getElem? hp);cases this
   | own e s n=>
    obtain ⟨v1,us,e1,e2,e3⟩:=hro;refine ⟨v1,us,?_,Joins.ownsRow_le e2 hsz,e3⟩;show z1L _ _ _ _ _=_;unfold z1L;rw [if_pos hn];exact e1
  ·by_cases hpp:p∈ps
   ·obtain ⟨i,hi⟩:=hmemi p hpp;rw [hup2 p i hn hi] at hp;have hro:=hI'.obj (i*16+15) o (by rw [zgy];exact hp);have hpo:=List.all_eq_true.1 hpl _ (List.mem_of_getElem? hp);cases o with
    | own e s n=>cases hpo
    | var ty cs=>
     obtain ⟨b,us,e1,e2,e3,e4,e5⟩:=hro;obtain ⟨ty1,cs1,h1⟩:=inos p hpp;have hbp:G.blk p=some b:=by rw [←hpasb i p hi];unfold Gh.blk;rw [e1]
     exact ⟨b,us,by show z1L _ _ _ _ _=_;rw [hlo p hn,←hpasl i p hi];exact e1,((hI.obj p _ h1).z5F hbp).1,e3,zcU (G:=⟨G'.im,G'.loc⟩) hpo (fun _ _ h=>h) e4,e5⟩
   ·rw [hup3 p hn hpp] at hp;cases hh:h p with
    | none=>rw [hh] at hp;cases hp
    | some o1=>
     rw [hh] at hp;simp at hp;subst hp;have hr1:=hI.obj p o1 hh;have hlp:z1L G.loc G'.loc base ws.length p=G.loc p:=hlo p hn;cases o1 with
     | var ty cs=>
      obtain ⟨b,us,e1,e2,e3,e4,e5⟩:=hr1;obtain ⟨k1,k2⟩:=hold p _ b hpp hh (by unfold Gh.blk;rw [e1]);exact ⟨b,us,hlp.trans e1,e2,(hb.block b k1 k2).trans e3,e4.kill hext hloc,fun off=>(hI'.imo _ k1 k2).trans (e5 off)⟩
     | own e s n=>
      obtain ⟨v1,us,e1,e2,e3⟩:=hr1;have hk:∀ g,v1.ownBlock=some g→g<w.heap.size∧¬chOf G ps g:=fun g hg=>hold p _ g hpp hh (by rw [z5V e2 e1];exact hg)
      refine ⟨v1,us,hlp.trans e1,⟨e2.1,?_⟩,fun g hg off u hu=>e3 g hg off u ?_⟩
      ·rcases e2.2 with h0|⟨g,cap,cur,hv,hbb,hgg,rest⟩
       ·exact .inl h0
       ·refine .inr ⟨g,cap,cur,hv,hbb,?_,rest⟩;obtain ⟨k1,k2⟩:=hk g (by rw [hv];rfl);exact (hb.block g k1 k2).trans hgg
      ·obtain ⟨k1,k2⟩:=hk g hg;exact (hI'.imo ⟨g,off,none⟩ k1 k2).symm.trans hu
 ·rcases hwhere p o b hp hbp with ⟨a1,a2,a3⟩|⟨a1,a2,a3,o1,a4⟩<;>rcases hwhere q o' b hq hbq with ⟨b1,b2,b3⟩|⟨b1,b2,b3,o2,b4⟩
  ·rw [hup1 p ⟨a1,a2⟩] at hp;rw [hup1 q ⟨b1,b2⟩] at hq;rw [hblkn p ⟨a1,a2⟩] at hbp;rw [hblkn q ⟨b1,b2⟩] at hbq;have:=hI'.sep _ _ o o' b (by rw [z9x];exact hp) (by rw [z9x];exact hq) hbp hbq;omega
  ·omega
  ·omega
  ·exact hI.sep p q o1 o2 b a4 b4 a3 b3
theorem z17.settled {v:Value} {im':Im} {t:T} {ups:List (Nat×Option O)} {zs ks:List Nat} (hext:∀ a u,G.im a=some u→im' a=some u)
  (hA:z17 c ⟨im',G.loc⟩ (fun p=>if p∈zs then none else h p) ⟨t,ups,zs++ks⟩ v w'):z17 c G h ⟨t,zs.map (fun z=>(z,none))++ups,zs++ks⟩ v w':=by
 obtain ⟨G',h1,h2,h3,h4⟩:=hA;refine ⟨G',fun a u ha=>h1 a u (hext a u ha),h2,h3,?_⟩;have:hUp ⟨t,zs.map (fun z=>(z,none))++ups,zs++ks⟩ h=hUp ⟨t,ups,zs++ks⟩ (fun p=>if p∈zs then none else h p):=by
  unfold hUp;simp only [List.foldl_append]
  congr 1
  funext p
  rw [z8T];by_cases hz:p∈zs
  ·simp [hz]
  ·simp [hz]
 rw [this];exact h4
end
end Am
end Go.Proofs.YtgmppconibklcaaGreatDoor

namespace Go.Proofs.YtgmppconibklcaaGreatDoor
open Go Go.RowKit
namespace Am
section
variable {P:Program} {w w':World} {G:Gh} {c:Ctx} {h:Objs} {ρ:Operand→Option T} {a:Act} {X:z1F} {K:Act→World→Prop} {Q:Exit→Act→World→Prop}
theorem zeq {t:T} {eff:Eff} (h:T.eff t=some eff):eff=⟨t,[],[]⟩:=by unfold T.eff at h;injection h with h;exact h.symm
theorem zfg {s:Nat} {x:Option T} {l:List D} (h:rowOf s x=some l):∃ t,x=some t:=by
 cases x with
 | none=>simp [rowOf,row?] at h
 | some t=>exact ⟨t,rfl⟩
theorem z2R {h h':Objs}:∀ {ps:List Nat},(∀ p,p∈ps→h p=h' p)→z1o P h ps=z1o P h' ps
 | [],_=>rfl
 | p::ps,hh=>by
  rw [z1o,z1o,hh p (by simp),z2R fun q hq=>hh q (by simp [hq])]
theorem zbG {base:Nat} {t:TypeId} {x y:Operand} {eff:Eff} {ty:TypeId} (hb15:base%16≠15) (hI:Inv c G h w) (hρ:Rho G ρ a.eval) (he:z0e P h base t (ρ x) (ρ y)=some eff):
  ∃ v w',(Builtin.append_ #[t,t] ty #[a.eval x,a.eval y]).run P w = .ok v w'∧z17 c G h eff v w':=by
 unfold z0e at he;split at he
 ·rename_i e hu;split at he
  ·cases he
  ·rename_i hz;simp only [Bool.not_eq_false] at hz;split at he
   ·rename_i l' hl';obtain ⟨ty',hty'⟩:=zfg hl';split at he
    ·rename_i hx;split at he
     ·rename_i hb;injection he with he;subst he;have hv:a.eval x = .slice none 0 0:=hρ x _ hx;rw [hv];exact z17.zii hb15 hI hu hz hty' hl' (hρ y ty' hty') hb.1 hb.2
     ·cases he
    ·rename_i q s l hx;split at he
     ·rename_i e' s' n hq;split at he
      ·rename_i hb;obtain ⟨h1,h2,h3,h4,h5,h6⟩:=hb;injection he with he;subst he;subst h2;subst h3;exact z17.zih hb15 hI hu hz hq (hρ x _ hx) h1 h4 hty' hl' (hρ y ty' hty') h5 h6
      ·cases he
     ·cases he
    ·cases he
   ·cases he
 ·cases he
theorem zhK {base:Nat} {f:Operand} {args:Array Operand} {argTypes:Array TypeId} {eff:Eff} {o:Oper} (hN:z1j P) (hX:z1J P c.gl c.tb X) (hI:Inv c G h w) (hρ:Rho G ρ a.eval) (hb16:base%16=0)
  (ho:o.op = .call {callee:= .value f,args:=args,argTypes:=argTypes}) (he:z5A P X h base (ρ f) (args.toList.map fun x=>e? (ρ x))=some eff) (hK:∀ v w',z17 c G h eff v w'→K (a.put o.dst v) w'):o.wp P a w K Q:=by
 unfold z5A at he;split at he
 ·rename_i g fs ks hf;split at he
  ·rename_i fn hfn;split at he
   ·cases he
   ·rename_i hbody;simp only [not_or,Bool.not_eq_true,ne_eq,Decidable.not_not] at hbody;obtain ⟨hbody,hfs,hks⟩:=hbody;have hfs:=Array.eq_empty_of_size_eq_zero hfs;have hks:=Array.eq_empty_of_size_eq_zero hks;subst hfs;subst hks;simp only at he;split at he
    ·cases he
    ·rename_i hdis;split at he
     ·rename_i ys os hys hos;split at he
      ·rename_i t ws os' hXg;split at he
       ·rename_i hb;obtain ⟨hlw,hws,ht,hpl,hty⟩:=hb;injection he with he;subst he;have hfv:=RT_v (hρ f _ hf);obtain ⟨im',hext,hI1,hset⟩:=hI.settle (z1s (args.toList.map fun x=>e? (ρ x)) []);have hnd:=z2P ((args.toList.map fun x=>e? (ρ x)).map (Option.map (setE h))) [] List.nodup_nil;have hos1:z1o P (fun p=>if p∈z1s (args.toList.map fun x=>e? (ρ x)) [] then none else h p) (z0O ((args.toList.map fun x=>e? (ρ x)).map (Option.map (setE h))) [])=some os:=by
         rw [←hos];refine z2R fun p hp=>?_
         rw [if_neg];intro hz;exact hdis (List.any_eq_true.2 ⟨p,hz,by simpa using hp⟩)
        have hargs:=z55 (G:=⟨im',G.loc⟩) (vs:=args.toList.map a.eval) hys (by simp) (fun j v x hv hx=>by
         rw [List.getElem?_map] at hv;rw [List.getElem?_map,List.getElem?_map] at hx;cases hp:args.toList[j]? with
         | none=>rw [hp] at hv;cases hv
         | some p=>
          rw [hp] at hv hx;simp at hv hx;subst hv;obtain ⟨y,hy,rfl⟩:=hx;exact zcu hI hext hset (fun q n s hq=>z3j _ _ _ (.inr ⟨y,n,s,List.mem_map.2 ⟨p,List.mem_of_getElem? hp,hy⟩,hq⟩)) (hρ p _ (e?_spec hy)))
        have hcall:=hX g ys os t ws os' hXg c.W0 im' w (args.toList.map a.eval) _ _ (hI1.callee hnd hos1) hargs;have hnm:=hN g fn hfn;unfold Oper.wp execOp;simp only [ho,resolve,hfv,Deferred.ofValue,invoke,callFunc,Sem.run_bind,Sem.run_pure,Result.andThen_ok,run_program,hfn,hnm,Bool.false_eq_true,if_false,hbody];simp only [Oper.upon_enter];have hav:(#[]:Array Value)++Array.map a.eval args++#[]=(args.toList.map a.eval).toArray:=by
         apply Array.ext';simp
        rw [hav];refine hcall.mono ?_;rintro e w' ⟨v,G',rfl,hr,hI'⟩;exact hK v w' (z17.settled hext (Inv.call hI1 hnd hos1 (z5S hty) hb16 hlw hws hpl ht hr hI'))
       ·cases he
      ·cases he
     ·cases he
  ·cases he
 ·cases he
theorem ev_wp {base:Nat} {o:Oper} {eff:Eff} (hb16:base%16=0) (hN:z1j P) (hX:z1J P c.gl c.tb X) (hI:Inv c G h w) (hρ:Rho G ρ a.eval) (he:ev P X base o.op ρ h=some eff)
  (hK:∀ v w',z17 c G h eff v w'→K (a.put o.dst v) w'):o.wp P a w K Q:=by
 have hb15:base%16≠15:=by omega
 have val:∀ {v:Value} {w':World},(execOp a.eval o).run P w = .ok (.value v) w'→z17 c G h eff v w'→o.wp P a w K Q:=fun hrun hA=>by
  unfold Oper.wp;rw [hrun];exact hK _ _ hA
 have pure_:∀ {v:Value} {t:T},(execOp a.eval o).run P w = .ok (.value v) w→T.eff t=some eff→RT G v t→o.wp P a w K Q:=fun hrun ht hr=>by
  obtain rfl:=zeq ht;exact val hrun (z17.pure hI hr)
 obtain ⟨dst,op,type,pos,after,guard⟩:=o;cases op with
 | move x=>
  simp only [ev] at he;cases hx:ρ x with
  | none=>rw [hx] at he;cases he
  | some t=>rw [hx] at he;exact pure_ (by simp [execOp]) he (hρ x t hx)
 | assign x=>
  simp only [ev] at he;cases hx:ρ x with
  | none=>rw [hx] at he;cases he
  | some t=>rw [hx] at he;exact pure_ (by simp [execOp]) he (hρ x t hx)
 | pick cc x y=>
  simp only [ev] at he;cases hb:bool? (ρ cc) with
  | none=>rw [hb] at he;cases he
  | some b=>
   rw [hb] at he;have hc:=RT_v (hρ cc _ (bool?_spec hb));simp only [Option.bind_some] at he;cases b with
   | true=>
    simp only [if_true] at he;cases hx:ρ x with
    | none=>rw [hx] at he;cases he
    | some t=>rw [hx] at he;exact pure_ (by simp [execOp,hc,asBool]) he (hρ x t hx)
   | false=>
    simp only [Bool.false_eq_true,if_false] at he;cases hx:ρ y with
    | none=>rw [hx] at he;cases he
    | some t=>rw [hx] at he;exact pure_ (by simp [execOp,hc,asBool]) he (hρ y t hx)
 | alloc t=>
  simp only [ev] at he;cases hz:z43 P t with
  | none=>rw [hz] at he;cases he
  | some z=>
   rw [hz] at he;simp only [Option.map_some,Option.some.injEq] at he;subst he;obtain ⟨i,zv,_,_,hrun,hre⟩:=z6O (G:=G) (w:=w) hz;refine val ?_ (z17.box hb15 hI hre);simp [execOp,Instr.alloc,hrun,newVar,newRow]
 | box t x=>
  simp only [ev] at he;cases hx:e? (ρ x) with
  | none=>rw [hx] at he;cases he
  | some y=>
   rw [hx] at he;simp only [Option.map_some,Option.some.injEq] at he;subst he;refine val ?_ (z17.box hb15 hI (hρ x _ (e?_spec hx)));simp [execOp,Instr.box,newVar,newRow]
 | build t ps=>
  simp only [ev] at he;cases hb:z7R P t (ps.toList.map fun p=>(p.1,e? (ρ p.2))) with
  | none=>rw [hb] at he;cases he
  | some y=>
   rw [hb] at he;obtain ⟨v,hrun,hre⟩:=zfa (G:=G) (w:=w) (vs:=ps.map fun (x:Nat×Operand)=>(x.1,a.eval x.2)) hb (by simp) (fun j p q z hp hq hz=>by
    rw [List.getElem?_map] at hp;rw [Array.toList_map,List.getElem?_map] at hq;cases hpj:ps.toList[j]? with
    | none=>rw [hpj] at hp;cases hp
    | some r=>
     rw [hpj] at hp hq;simp at hp hq;subst hp;subst hq;exact hρ r.2 _ (e?_spec hz))
   refine pure_ ?_ he hre;simp [execOp,hrun]
 | buildSlice t n ps=>
  simp only [ev] at he;obtain ⟨v,w',hrun,hA⟩:=z7i (c:=c) hb15 hI hρ he;exact val (by simp [execOp,hrun]) hA
 | makeSlice t n k=>
  simp only [ev] at he;obtain ⟨v,w',hrun,hA⟩:=zgr (c:=c) hb15 hI hρ he;exact val (by simp [execOp,hrun]) hA
 | load t x=>
  simp only [ev] at he;split at he
  ·rename_i cc hx;cases hl:z2j P h t cc with
   | none=>rw [hl] at he;cases he
   | some y=>
    rw [hl] at he;have hr:RC G (a.eval x) cc:=hρ x _ hx;unfold z2j at hl;split at hl
    ·rename_i p off;split at hl
     ·rename_i ty cs hp;obtain ⟨b,us,hloc,_,hB,hcs,_⟩:=hI.obj p _ hp;obtain ⟨b',hloc',hv⟩:=hr;rw [hloc] at hloc';simp at hloc';subst hloc';obtain ⟨v,hrun,hre⟩:=z2b (P:=P) (w:=w) (G:=G) (b:=b) (o:=0) (off:=off) (cs:=cs) (fun j cx hc=>by
       obtain ⟨u,h1,h2⟩:=hcs.get hc;exact ⟨u,by rw [Nat.zero_add,hB.cell,←Array.getElem?_toList];exact h1,h2⟩) hl
      rw [Nat.zero_add] at hrun;refine pure_ ?_ he hre;simp [execOp,Instr.loadAt,hv,Instr.sureAddr,hrun]
     ·cases hl
    ·rename_i l;obtain ⟨g,o,hv,hcell⟩:=hr;obtain ⟨v,hrun,hre⟩:=z2b (P:=P) (w:=w) (G:=G) (b:=g) (o:=o) (off:=0) (cs:=l.map .d) (fun j cx hc=>by
      rw [List.getElem?_map] at hc;cases hj:l[j]? with
      | none=>rw [hj] at hc;cases hc
      | some x=>
       rw [hj] at hc;simp at hc;subst hc;obtain ⟨u,h1,h2⟩:=hcell j x hj;exact ⟨u,hI.imw _ _ h1,h2⟩) hl
     rw [Nat.add_zero] at hrun;refine pure_ ?_ he hre;simp [execOp,Instr.loadAt,hv,Instr.sureAddr,hrun]
    ·cases hl
  ·cases he
 | store t x y=>
  simp only [ev] at he;split at he
  ·rename_i cx ey hx hy;obtain ⟨w',hrun,hA⟩:=zf7 hI (hρ x _ hx) (hρ y _ hy) he;unfold Oper.wp;simp only [execOp,Sem.run_bind,hrun,Result.andThen_ok,Sem.run_pure,Oper.upon_skip];exact hK _ _ hA
  ·cases he
 | nilCheck x=>
  simp only [ev] at he;cases hx:z4B (ρ x) with
  | none=>rw [hx] at he;cases he
  | some t=>
   rw [hx] at he;unfold z4B at hx;split at hx
   ·rename_i p o hp;injection hx with hx;subst hx;have hr:=hρ x _ hp;have hr2:=hr;obtain ⟨b,_,hv⟩:=hr2;refine pure_ ?_ he hr;simp [execOp,hv]
   ·rename_i l hp;injection hx with hx;subst hx;have hr:=hρ x _ hp;have hr2:=hr;obtain ⟨g,o,hv,_⟩:=hr2;refine pure_ ?_ he hr;simp [execOp,hv]
   ·rename_i g aa bb hp;injection hx with hx;subst hx;have hr:=hρ x _ hp;have hv:=RT_v hr;refine pure_ ?_ he hr;simp [execOp,hv]
   ·cases hx
 | binOp op t x y yt=>
  simp only [ev] at he;cases hb:zhM P op t (ρ x) (ρ y) with
  | none=>rw [hb] at he;cases he
  | some r=>
   rw [hb] at he;obtain ⟨v,hrun,hr⟩:=zla (w:=w) hρ hb;refine pure_ ?_ he hr;simp only [execOp,Sem.run_bind] at hrun ⊢;rw [hrun];rfl
 | unOp op t x=>
  simp only [ev] at he;split at he
  ·rename_i u hx;cases hu:unV op u with
   | none=>rw [hu] at he;cases he
   | some v=>
    rw [hu] at he;have hv:=RT_v (hρ x _ hx);obtain ⟨hrun,h1⟩:=run_un (P:=P) (w:=w) hu;exact pure_ (by simp [execOp,hv,hrun]) he (z8q h1)
  ·cases he
 | convert s d x=>
  simp only [ev] at he;cases hc:zbE P s d (ρ x) with
  | none=>rw [hc] at he;cases he
  | some cc=>
   rw [hc] at he;obtain rfl:=zeq he;obtain ⟨v,w',hrun,hA⟩:=ziX (c:=c) hI hρ hc;exact val (by simp [execOp,hrun]) hA
 | fieldAddr t x f=>
  simp only [ev] at he;split at he
  ·rename_i cc hx;cases hf:z2I P t f cc with
   | none=>rw [hf] at he;cases he
   | some cc' =>
    rw [hf] at he;obtain ⟨u,hrun,hr⟩:=z9v (w:=w) hf (hρ x _ hx);exact pure_ (by simp [execOp,hrun]) he hr
  ·cases he
 | field t x f=>
  simp only [ev] at he;cases hx:e? (ρ x) with
  | none=>rw [hx] at he;cases he
  | some z=>
   rw [hx] at he;simp only [Option.bind_some] at he;cases hf:z7Q P t f z with
   | none=>rw [hf] at he;cases he
   | some y=>
    rw [hf] at he;obtain ⟨u,hrun,hr⟩:=zgs (w:=w) hf (hρ x _ (e?_spec hx));exact pure_ (by simp [execOp,hrun]) he hr
 | indexAddr t x i=>
  simp only [ev] at he;cases hi:int? (ρ i) with
  | none=>rw [hi] at he;cases he
  | some kn=>
   obtain ⟨k,n⟩:=kn;rw [hi] at he;simp only [Option.bind_some] at he;cases hc:z0u P t (ρ x) n with
   | none=>rw [hc] at he;cases he
   | some cc=>
    rw [hc] at he;have hiv:=RT_v (hρ i _ (int?_spec hi));obtain ⟨tx,htx⟩:∃ tx,ρ x=some tx:=by
     cases hx:ρ x with
     | none=>rw [hx] at hc;unfold z0u at hc;split at hc<;>simp [row?] at hc
     | some tx=>exact ⟨tx,rfl⟩
    obtain ⟨u,hrun,hr⟩:=z9u (k:=k) (w:=w) hc htx (hρ x _ htx);exact pure_ (by simp [execOp,hiv,hrun]) he hr
 | index t x i=>
  simp only [ev] at he;cases hi:int? (ρ i) with
  | none=>rw [hi] at he;cases he
  | some kn=>
   obtain ⟨k,n⟩:=kn;rw [hi] at he;simp only [Option.bind_some] at he;cases hc:z65 P t (ρ x) n with
   | none=>rw [hc] at he;cases he
   | some cc=>
    rw [hc] at he;have hiv:=RT_v (hρ i _ (int?_spec hi));obtain ⟨tx,htx⟩:∃ tx,ρ x=some tx:=by
     cases hx:ρ x with
     | none=>rw [hx] at hc;unfold z65 at hc;split at hc<;>simp [str?,e?] at hc
     | some tx=>exact ⟨tx,rfl⟩
    obtain ⟨u,hrun,hr⟩:=zf9 (k:=k) (w:=w) hc htx (hρ x _ htx);exact pure_ (by simp [execOp,hiv,hrun]) he hr
 | slice t x lo hi mx=>
  cases mx with
  | some m=>simp [ev] at he
  | none=>
   simp only [ev,Option.isSome_none,Bool.false_eq_true,if_false] at he;cases hc:z3S P t (ρ x) (lo.map ρ) (hi.map ρ) with
   | none=>rw [hc] at he;cases he
   | some cc=>
    rw [hc] at he;obtain ⟨u,hrun,hr⟩:=zf8 (w:=w) hρ hc;exact pure_ (by simp [execOp,hrun]) he hr
 | extract x i=>
  simp only [ev] at he;split at he
  ·rename_i xs hx;cases hi:xs[i]? with
   | none=>rw [hi] at he;cases he
   | some y=>
    rw [hi] at he;obtain ⟨vs,hv,h1,h2⟩:=hρ x _ hx;have hlt:i<vs.toList.length:=by rw [h1];exact (List.getElem?_eq_some_iff.1 hi).1
    have hvi:vs[i]? = some (vs[i]'(by simpa using hlt)):=Array.getElem?_eq_getElem _;refine pure_ (v:=vs[i]'(by simpa using hlt)) ?_ he (h2 i _ y (by rw [Array.getElem?_toList];exact hvi) hi);simp [execOp,hv,Instr.extract,hvi]
  ·cases he
 | call cl=>
  obtain ⟨callee,args,argTypes⟩:=cl;cases callee with
  | value f=>exact zhK hN hX hI hρ hb16 rfl (by simpa only [ev] using he) hK
  | invoke r m=>simp [ev] at he
  | builtin b=>
   simp only [ev] at he;obtain ⟨args⟩:=args;obtain ⟨argTypes⟩:=argTypes;simp only at he;generalize hga:args=la at he;generalize hgt:argTypes=lt at he;unfold z5B at he;split at he
   ·rename_i x t;subst hga;subst hgt;cases hl:z45 P t (ρ x) with
    | none=>rw [hl] at he;cases he
    | some n=>
     rw [hl] at he;have:=ziW (w:=w) (ty:=type) hρ hl;exact pure_ (by simp [execOp,resolve,invoke,builtin,this]) he (z8q rfl)
   ·rename_i x y t t';subst hga;subst hgt;split at he
    ·rename_i htt;subst htt;obtain ⟨v,w',hrun,hA⟩:=zbG (ty:=type) hb15 hI hρ he;exact val (by simp [execOp,resolve,invoke,builtin,hrun]) hA
    ·cases he
   ·rename_i x y;subst hga;subst hgt;cases hl:z9X (ρ x) (ρ y) false with
    | none=>rw [hl] at he;cases he
    | some n=>
     rw [hl] at he;obtain ⟨v,hrun,hr⟩:=ziU (w:=w) hρ hl ⟨argTypes⟩ type;exact pure_ (by simp [execOp,resolve,invoke,builtin];rw [hrun];rfl) he hr
   ·rename_i x y;subst hga;subst hgt;cases hl:z9X (ρ x) (ρ y) true with
    | none=>rw [hl] at he;cases he
    | some n=>
     rw [hl] at he;obtain ⟨v,hrun,hr⟩:=ziV (w:=w) hρ hl ⟨argTypes⟩ type;exact pure_ (by simp [execOp,resolve,invoke,builtin];rw [hrun];rfl) he hr
   ·cases he
 | _=>simp [ev] at he
end
end Am
end Go.Proofs.YtgmppconibklcaaGreatDoor

