/- Part of the proof. No condition. -/
import Derived.Test.YtgmppconibklcaaGreatDoorM5
set_option maxHeartbeats 40000000
set_option maxRecDepth 100000
set_option linter.unusedVariables false
set_option linter.unusedSimpArgs false
namespace Go.Proofs.YtgmppconibklcaaGreatDoor
open Go Go.RowKit
namespace Am
section
variable {P:Program} {c:Ctx} {X:z1C} {G:Gh} {h:Objs} {w:World}
structure z6n (h:Objs) (u:Out):Prop where
 len:u.used.length=u.os.length
 nodup:u.used.Nodup
 own:∀ (i q:Nat) (o:O),u.used[i]? = some q→u.os[i]? = some o→h q=some o∧o.zc3=true
def Out.le (u u':Out):Prop:=∃ a b,u'.used=u.used++a∧u'.os=u.os++b
theorem Out.le_refl (u:Out):u.le u:=⟨[],[],by simp,by simp⟩
theorem Out.le_trans {a b d:Out} (h:a.le b) (k:b.le d):a.le d:=by
 obtain ⟨x,y,h1,h2⟩:=h;obtain ⟨x',y',h3,h4⟩:=k;exact ⟨x++x',y++y',by rw [h3,h1,List.append_assoc],by rw [h4,h2,List.append_assoc]⟩
def outG (G:Gh) (u:Out):Gh:=⟨G.im,fun p=>if p%16=14 then (u.used[p / 16]?).bind G.loc else G.loc p⟩
theorem znf {u u':Out} (h:u.le u') {i q:Nat} (hq:u.used[i]? = some q):(outG G u').loc (i*16+14)=G.loc q:=by
 obtain ⟨a,b,h1,h2⟩:=h;simp only [outG];rw [if_pos (by omega),show (i*16+14) / 16=i by omega,h1,List.getElem?_append_left (List.getElem?_eq_some_iff.1 hq).1,hq];rfl
theorem RC.noloc {G G':Gh} {v:Value} {cc:C} (him:G'.im=G.im) (hg:∀ q s l,cc ≠ .gr q s l) (hr:∀ p o,cc ≠ .ref p o) (hs:∀ p n s,cc ≠ .sl p n s) (h:RC G v cc):RC G' v cc:=by
 cases cc with
 | gr q s l=>exact absurd rfl (hg q s l)
 | ref p o=>exact absurd rfl (hr p o)
 | sl p n s=>exact absurd rfl (hs p n s)
 | d x=>show RD G'.im v x;rw [him];exact h
 | nilS=>exact h
 | ep l=>obtain ⟨g,o,h1,h2⟩:=h;exact ⟨g,o,h1,by rw [him];exact h2⟩
 | dead=>exact h
theorem zbM {kn:Bool} {z:Option Nat} {cc:C} {u:Out} (hu:z6n h u):z6n h (outC kn h z cc u).2∧u.le (outC kn h z cc u).2∧∀ (v:Value) (u':Out),(outC kn h z cc u).2.le u'→RC G v cc→RC (outG G u') v (outC kn h z cc u).1:=by
 have plain:∀ cc':C,(∀ q s l,cc' ≠ .gr q s l)→(∀ p o,cc' ≠ .ref p o)→(∀ p n s,cc' ≠ .sl p n s)→outC kn h z cc' u=(cc'.fz z,u)→z6n h (outC kn h z cc' u).2∧u.le (outC kn h z cc' u).2∧∀ (v:Value) (u':Out),(outC kn h z cc' u).2.le u'→RC G v cc'→RC (outG G u') v (outC kn h z cc' u).1:=by
  intro cc' h1 h2 h3 he;rw [he];exact ⟨hu,Out.le_refl _,fun v u' _ hr=>(RC.noloc (G:=G) (G':=outG G u') rfl h1 h2 h3 hr).fz⟩
 cases cc with
 | d x=>exact plain _ (by simp) (by simp) (by simp) rfl
 | nilS=>
  cases kn with
  | true=>exact ⟨hu,Out.le_refl _,fun v u' _ hr=>RC.noloc (G:=G) (G':=outG G u') (cc:= .nilS) rfl (by simp) (by simp) (by simp) hr⟩
  | false=>exact plain _ (by simp) (by simp) (by simp) rfl
 | ep l=>exact plain _ (by simp) (by simp) (by simp) rfl
 | dead=>exact plain _ (by simp) (by simp) (by simp) rfl
 | ref p o=>exact ⟨hu,Out.le_refl _,fun v u' _ hr=>RC.one hr⟩
 | sl p n s=>exact ⟨hu,Out.le_refl _,fun v u' _ hr=>RC.one hr⟩
 | gr q s l=>
  simp only [outC];by_cases hq:u.used.contains q=true
  ·simp only [if_pos hq];exact ⟨hu,Out.le_refl _,fun v u' _ hr=>hr.1⟩
  ·simp only [if_neg hq];have hq':q∉u.used:=by simpa using hq
   have other:z6n h u∧u.le u∧∀ (v:Value) (u':Out),u.le u'→RC G v (.gr q s l)→RC (outG G u') v (.d (.row s l)):=⟨hu,Out.le_refl _,fun v u' _ hr=>hr.1⟩;cases hh:h q with
   | none=>exact other
   | some o=>
    cases o with
    | var ty cs=>exact other
    | own e s' n=>
     refine ⟨⟨by simp [hu.len],?_,fun i q' o hi ho=>?_⟩,⟨[q],[.own e s' n],rfl,rfl⟩,fun v u' hle hr=>⟨hr.1,?_⟩⟩
     ·exact List.nodup_append.2 ⟨hu.nodup,by simp,fun a ha b hb=>by simp at hb;subst hb;exact fun e=>hq' (e▸ha)⟩
     ·simp only at hi ho;rcases Nat.lt_or_ge i u.used.length with hlt|hge
      ·rw [List.getElem?_append_left hlt] at hi;rw [List.getElem?_append_left (by rw [←hu.len];exact hlt)] at ho;exact hu.own i q' o hi ho
      ·rw [List.getElem?_append_right hge] at hi;rw [List.getElem?_append_right (by rw [←hu.len];exact hge)] at ho;have h0:i-u.used.length=0:=by
        have:=(List.getElem?_eq_some_iff.1 hi).1;simp at this;omega
       rw [h0] at hi;rw [←hu.len,h0] at ho;simp at hi ho;subst hi;subst ho;exact ⟨hh,rfl⟩
     ·have:=znf (G:=G) hle (i:=u.os.length) (q:=q) (by simp only;rw [List.getElem?_append_right (by rw [hu.len];exact Nat.le_refl _),hu.len];simp);rw [this];exact hr.2
theorem zlV {p:Prop} (h:p:=by
  exact ⟨hu,Out.le_refl _,fun us u' _ hr=>by
   have:us=[]:=List.eq_nil_of_length_eq_zero hr.1;subst this;exact ⟨rfl,fun j x y hx=>by simp at hx⟩⟩):p:=h
theorem z9b {kn:Bool}:∀ (cs:List C) (zs:List (Option Nat)) (u:Out),z6n h u→z6n h (zai kn h zs cs u).2∧u.le (zai kn h zs cs u).2∧∀ (us:List Value) (u':Out),(zai kn h zs cs u).2.le u'→RCs G us cs→RCs (outG G u') us (zai kn h zs cs u).1
 | [],zs,u,hu=>by
  simp only [zai];exact zlV
 | cc::cs,zs,u,hu=>by
  simp only [zai];obtain ⟨h1,h2,h3⟩:=zbM (G:=G) (z:=zs.headD none) (cc:=cc) hu;obtain ⟨h4,h5,h6⟩:=z9b cs zs.tail _ h1;refine ⟨h4,Out.le_trans h2 h5,fun us u' hle hr=>?_⟩;match us,hr with
  | [],hr=>exact absurd hr.1 (by simp)
  | v::us,hr=>
   have r1:RC G v cc:=hr.2 0 v cc rfl rfl;have r2:RCs G us cs:=⟨by simpa using hr.1,fun j u c hu hc=>hr.2 (j+1) u c (by simpa using hu) (by simpa using hc)⟩;have a1:=h3 v u' (Out.le_trans h5 hle) r1;have a2:=h6 us u' hle r2;refine ⟨by simp [a2.1],fun j x y hx hy=>?_⟩;match j with
   | 0=>simp only [List.getElem?_cons_zero,Option.some.injEq] at hx hy;subst hx;subst hy;exact a1
   | j+1=>exact a2.2 j x y (by simpa using hx) (by simpa using hy)
theorem ziw {kn:Bool} {zs:List (Option Nat)} {x:E} {u:Out} (hu:z6n h u):z6n h (outE kn h zs x u).2∧u.le (outE kn h zs x u).2∧∀ (v:Value) (u':Out),(outE kn h zs x u).2.le u'→RE G v x→RE (outG G u') v (outE kn h zs x u).1:=by
 cases x with
 | one cc=>exact zbM hu
 | agg cs=>
  obtain ⟨h1,h2,h3⟩:=z9b (G:=G) cs zs u hu;refine ⟨h1,h2,fun v u' hle hr=>?_⟩;obtain ⟨us,rfl,hr⟩:=hr;exact ⟨us,rfl,h3 _ u' hle hr⟩
theorem z65 {kn:Bool}:∀ (xs:List E) (ts:List TypeId) (u:Out),z6n h u→z6n h (z4h P kn h ts xs u).2∧u.le (z4h P kn h ts xs u).2∧∀ (us:List Value) (u':Out),(z4h P kn h ts xs u).2.le u'→REs G us xs→REs (outG G u') us (z4h P kn h ts xs u).1
 | [],ts,u,hu=>by
  simp only [z4h];exact zlV
 | x::xs,ts,u,hu=>by
  simp only [z4h];obtain ⟨h1,h2,h3⟩:=ziw (G:=G) (zs:=slz P 8 (ts.headD 0)) (x:=x) hu;obtain ⟨h4,h5,h6⟩:=z65 xs ts.tail _ h1;refine ⟨h4,Out.le_trans h2 h5,fun us u' hle hr=>?_⟩;match us,hr with
  | [],hr=>exact absurd hr.1 (by simp)
  | v::us,hr=>
   have r1:RE G v x:=hr.2 0 v x rfl rfl;have r2:REs G us xs:=⟨by simpa using hr.1,fun j u c hu hc=>hr.2 (j+1) u c (by simpa using hu) (by simpa using hc)⟩;have a1:=h3 v u' (Out.le_trans h5 hle) r1;have a2:=h6 us u' hle r2;refine ⟨by simp [a2.1],fun j p y hx hy=>?_⟩;match j with
   | 0=>simp only [List.getElem?_cons_zero,Option.some.injEq] at hx hy;subst hx;subst hy;exact a1
   | j+1=>exact a2.2 j p y (by simpa using hx) (by simpa using hy)
theorem z6v:∀ {os os':List O} {i:Nat},z26 P h i os=some os'→os'.length=os.length∧∀ (j:Nat) (o:O),os'[j]? = some o→∃ ty cs,h ((i+j)*16+15)=some (.var ty cs)∧o = .var ty (fzs (slz P 8 ty) cs)∧(fzs (slz P 8 ty) cs).all C.isD=true
 | [],os',i,hh=>by
  simp [z26] at hh;subst hh;exact ⟨rfl,fun j o ho=>by simp at ho⟩
 | o0::os,os',i,hh=>by
  rw [z26] at hh;cases hb:(h (i*16+15)).bind (zdi P) with
  | none=>rw [hb] at hh;cases hh
  | some o1=>
   rw [hb] at hh;simp only at hh;cases hr:z26 P h (i+1) os with
   | none=>rw [hr] at hh;cases hh
   | some os1=>
    rw [hr] at hh;simp at hh;subst hh;obtain ⟨h1,h2⟩:=z6v hr;refine ⟨by simp [h1],fun j o ho=>?_⟩;cases j with
    | zero=>
     simp at ho;subst ho;rw [Nat.add_zero];cases hp:h (i*16+15) with
     | none=>rw [hp] at hb;cases hb
     | some o2=>
      rw [hp] at hb;simp only [Option.bind_some] at hb;cases o2 with
      | own e s n=>cases hb
      | var ty cs=>
       simp only [zdi] at hb;split at hb
       ·rename_i hall;injection hb with hb;exact ⟨ty,cs,rfl,hb.symm,hall⟩
       ·cases hb
    | succ j=>
     obtain ⟨ty,cs,e1,e2,e3⟩:=h2 j o (by simpa using ho);exact ⟨ty,cs,by rw [show i+(j+1)=i+1+j by omega];exact e1,e2,e3⟩
theorem ziv {u:Out} {h0:Objs} {os os':List O} (hI:Inv c G h w) (hu:z6n h0 u) (hsub:∀ q o,h0 q=some o→h q=some o) (hos:z26 P h 0 os=some os'):Inv c (outG G u) (resH u.os os') w:=by
 obtain ⟨_,hpe⟩:=z6v hos;have at_:∀ p o,resH u.os os' p=some o→(∃ q,u.used[p / 16]? = some q∧p%16=14∧h q=some o∧o.zc3=true∧(outG G u).loc p=G.loc q)∨(∃ ty cs,p%16=15∧h p=some (.var ty cs)∧o = .var ty (fzs (slz P 8 ty) cs)∧(fzs (slz P 8 ty) cs).all C.isD=true∧(outG G u).loc p=G.loc p):=by
  intro p o hp;unfold resH at hp;split at hp
  ·rename_i h14;have hlt:p / 16<u.used.length:=by rw [hu.len];exact (List.getElem?_eq_some_iff.1 hp).1
   have hq:=List.getElem?_eq_getElem hlt;obtain ⟨h1,h2⟩:=hu.own _ _ o hq hp;refine .inl ⟨_,hq,h14,hsub _ _ h1,h2,?_⟩;simp only [outG];rw [if_pos h14,hq];rfl
  ·rename_i h14;obtain ⟨h15,ho⟩:=zeP hp;obtain ⟨ty,cs,e1,e2,e3⟩:=hpe _ o ho;rw [Nat.zero_add,show p / 16*16+15=p by omega] at e1;refine .inr ⟨ty,cs,h15,e1,e2,e3,?_⟩;simp only [outG];rw [if_neg h14]
 refine ⟨hI.tb,hI.base,hI.chb,hI.below,hI.imw,hI.imx,hI.imo,fun i=>?_,fun g l hg=>?_,fun p o hp=>?_,fun p q o o' b hp hq hbp hbq=>?_⟩
 ·show (if (i*16+15)%16=14 then _ else G.loc (i*16+15))=c.lo i;rw [if_neg (by omega)];exact hI.pas i
 ·obtain ⟨g',o',h1,h2⟩:=hI.glob g l hg;exact ⟨g',o',h1,h2⟩
 ·rcases at_ p o hp with ⟨q,_,_,h1,h2,h3⟩|⟨ty,cs,_,h1,rfl,h3,h4⟩
  ·have hr:=hI.obj q o h1;cases o with
   | var ty cs=>cases h2
   | own e s n=>
    obtain ⟨v,us,e1,e2,e3⟩:=hr;exact ⟨v,us,h3.trans e1,e2,e3⟩
  ·obtain ⟨b,us,e1,e2,e3,e4,e5⟩:=hI.obj p _ h1;exact ⟨b,us,h4.trans e1,e2,e3,zdC (G:=⟨G.im,G.loc⟩) h3 (fun _ _ h=>h) (RCs.fzs (G:=⟨G.im,G.loc⟩) e4),e5⟩
 ·rcases at_ p o hp with ⟨q1,a1,a2,a3,a5,a4⟩|⟨ty1,cs1,a2,a3,_,_,a4⟩<;>rcases at_ q o' hq with ⟨q2,b1,b2,b3,b5,b4⟩|⟨ty2,cs2,b2,b3,_,_,b4⟩
  ·have hb1:G.blk q1=some b:=by unfold Gh.blk at hbp ⊢;rw [←a4];exact hbp
   have hb2:G.blk q2=some b:=by unfold Gh.blk at hbq ⊢;rw [←b4];exact hbq
   have hqq:=hI.sep q1 q2 o o' b a3 b3 hb1 hb2;subst hqq;have h1:=(List.getElem?_eq_some_iff.1 a1).1;have h2:=(List.getElem?_eq_some_iff.1 b1).1;have:p / 16=q / 16:=by
    have e1:=(List.getElem?_eq_some_iff.1 a1).2;have e2:=(List.getElem?_eq_some_iff.1 b1).2;have hp:=List.pairwise_iff_getElem.1 hu.nodup;rcases Nat.lt_trichotomy (p / 16) (q / 16) with hlt|heq|hgt
    ·exact absurd (e1.trans e2.symm) (hp _ _ h1 h2 hlt)
    ·exact heq
    ·exact absurd (e2.trans e1.symm) (hp _ _ h2 h1 hgt)
   omega
  ·have hb1:G.blk q1=some b:=by unfold Gh.blk at hbp ⊢;rw [←a4];exact hbp
   have hb2:G.blk q=some b:=by unfold Gh.blk at hbq ⊢;rw [←b4];exact hbq
   have hqq:=hI.sep q1 q _ _ b a3 b3 hb1 hb2;subst hqq;rw [a3] at b3;injection b3 with b3;subst b3;cases a5
  ·have hb1:G.blk p=some b:=by unfold Gh.blk at hbp ⊢;rw [←a4];exact hbp
   have hb2:G.blk q2=some b:=by unfold Gh.blk at hbq ⊢;rw [←b4];exact hbq
   have hqq:=hI.sep p q2 _ _ b a3 b3 hb1 hb2;subst hqq;rw [b3] at a3;injection a3 with a3;subst a3;cases b5
  ·have hb1:G.blk p=some b:=by unfold Gh.blk at hbp ⊢;rw [←a4];exact hbp
   have hb2:G.blk q=some b:=by unfold Gh.blk at hbq ⊢;rw [←b4];exact hbq
   exact hI.sep p q _ _ b a3 b3 hb1 hb2
def z6s (tmps:Array Value):ResultVar→Sem Value
 | .tmp t=>pure (tmps.getD t undef)
 | .cell a t=>do loadVar t (←asAddr (tmps.getD a undef))
theorem zky {env:Nat→Option T} {h0:Objs} {r:ResultVar} {x:E} {tmps:Array Value} (hI:Inv c G h0 w) (he:EnvR G env tmps) (h:resE P env h0 r=some x):∃ v,(z6s tmps r).run P w = .ok v w∧RE G v x:=by
 cases r with
 | tmp t=>
  simp only [resE] at h;split at h
  ·rename_i y hy;injection h with h;subst h;obtain ⟨v,h1,h2⟩:=he t _ hy;exact ⟨v,by simp [z6s,h1],h2⟩
  ·cases h
 | cell a ty=>
  simp only [resE] at h;split at h
  ·rename_i cc hy;obtain ⟨va,h1,h2⟩:=he a _ hy;unfold z2n at h;split at h
   ·rename_i p off;split at h
    ·rename_i t' cs hp;obtain ⟨b,us,hloc,_,hB,hcs,_⟩:=hI.obj p _ hp;obtain ⟨b',hloc',hv⟩:=h2;rw [hloc] at hloc';simp at hloc';subst hloc';obtain ⟨v,hrun,hre⟩:=z2f (P:=P) (w:=w) (G:=G) (b:=b) (o:=0) (off:=off) (cs:=cs) (fun j cx hc=>by
      obtain ⟨u,h3,h4⟩:=hcs.get hc;exact ⟨u,by rw [Nat.zero_add,hB.cell,←Array.getElem?_toList];exact h3,h4⟩) h
     rw [Nat.zero_add] at hrun;exact ⟨v,by simp [z6s,h1,hv,asAddr,hrun],hre⟩
    ·cases h
   ·rename_i l;obtain ⟨g,o,hv,hcell⟩:=h2;obtain ⟨v,hrun,hre⟩:=z2f (P:=P) (w:=w) (G:=G) (b:=g) (o:=o) (off:=0) (cs:=l.map .d) (fun j cx hc=>by
     rw [List.getElem?_map] at hc;cases hj:l[j]? with
     | none=>rw [hj] at hc;cases hc
     | some x=>
      rw [hj] at hc;simp at hc;subst hc;obtain ⟨u,h3,h4⟩:=hcell j x hj;exact ⟨u,hI.imw _ _ h3,h4⟩) h
    rw [Nat.add_zero] at hrun;exact ⟨v,by simp [z6s,h1,hv,asAddr,hrun],hre⟩
   ·cases h
  ·cases h
theorem z7x {env:Nat→Option T} {h0:Objs} {tmps:Array Value} (hI:Inv c G h0 w) (he:EnvR G env tmps):∀ {rs:List ResultVar} {xs:List E},z6K P env h0 rs=some xs→∃ vs:List Value,(rs.mapM (z6s tmps)).run P w = .ok vs w∧REs G vs xs
 | [],xs,h=>by
  simp [z6K] at h;subst h;exact ⟨[],by simp,rfl,fun j u x hu=>by simp at hu⟩
 | r::rs,xs,h=>by
  rw [z6K] at h;cases hr:resE P env h0 r with
  | none=>rw [hr] at h;cases h
  | some x=>
   rw [hr] at h;cases hrs:z6K P env h0 rs with
   | none=>rw [hrs] at h;cases h
   | some ys=>
    rw [hrs] at h;simp at h;subst h;obtain ⟨v,h1,h2⟩:=zky hI he hr;obtain ⟨vs,h3,h4⟩:=z7x hI he hrs;refine ⟨v::vs,by simp [List.mapM_cons,h1,h3],by simp [h4.1],fun j u y hu hy=>?_⟩;match j with
    | 0=>simp at hu hy;subst hu;subst hy;exact h2
    | j+1=>exact h4.2 j u y (by simpa using hu) (by simpa using hy)
theorem z7w {fn:Func} {tmps:Array Value} {vs:List Value} (h:(fn.results.toList.mapM (z6s tmps)).run P w = .ok vs w):(results fn tmps).run P w = .ok (if h:vs.toArray.size=1 then vs.toArray[0] else .tuple vs.toArray) w:=by
 have e1:results fn tmps=(fn.results.mapM (z6s tmps) >>= fun vs=>pure (if h:vs.size=1 then vs[0] else .tuple vs)):=by
  unfold results
  congr 1
 have hma:(fn.results.mapM (z6s tmps)).run P w = .ok vs.toArray w:=by
  rw [Array.mapM_eq_mapM_toList];simp only [Sem.run_map,h,Result.andThen_ok]
 rw [e1,Sem.run_bind,hma];rfl
theorem zhl {G:Gh} {vs:List Value} {xs:List E} (h:REs G vs xs):RT G (if h:vs.toArray.size=1 then vs.toArray[0] else .tuple vs.toArray) (tupT xs):=by
 have tup:∀ (vs:List Value) (xs:List E),REs G vs xs→vs.length≠1→RT G (if h:vs.toArray.size=1 then vs.toArray[0] else .tuple vs.toArray) (.tup xs):=by
  intro vs xs h hne;rw [dif_neg (by simpa using hne)];exact ⟨vs.toArray,rfl,by simpa using h⟩
 match vs,xs,h with
 | [],[],h=>exact tup [] [] h (by simp)
 | [v],[x],h=>exact h.2 0 v x rfl rfl
 | u::v::vs,x::y::xs,h=>exact tup _ _ h (by simp)
 | [],x::xs,h=>exact absurd h.1 (by simp)
 | v::vs,[],h=>exact absurd h.1 (by simp)
 | [v],x::y::xs,h=>exact absurd h.1 (by simp)
 | u::v::vs,[x],h=>exact absurd h.1 (by simp)
theorem z9n:∀ (xs:List E) (i k:Nat) (t:T),look (enter i xs) k=some t→∃ x,i≤k∧xs[k-i]? = some x∧t = .e x
 | [],i,k,t,h=>by simp [enter,look] at h
 | x::xs,i,k,t,h=>by
  simp only [enter,look] at h;split at h
  ·rename_i e;subst e;injection h with h;exact ⟨x,Nat.le_refl _,by simp,h.symm⟩
  ·rename_i e;obtain ⟨y,h1,h2,h3⟩:=z9n xs (i+1) k t h;exact ⟨y,by omega,by rw [show k-i=(k-(i+1))+1 by omega,List.getElem?_cons_succ];exact h2,h3⟩
theorem z9m:∀ (os:List O) (i p:Nat),look (zbG i os) p=if p%16=15∧i≤p / 16 then os[p / 16-i]? else none
 | [],i,p=>by simp [zbG,look]
 | o::os,i,p=>by
  simp only [zbG,look];by_cases h:i*16+15=p
  ·rw [if_pos h,if_pos (by omega),show p / 16-i=0 by omega];rfl
  ·rw [if_neg h,z9m os (i+1) p];by_cases h2:p%16=15∧i+1≤p / 16
   ·rw [if_pos h2,if_pos (by omega),show p / 16-i=(p / 16-(i+1))+1 by omega,List.getElem?_cons_succ]
   ·rw [if_neg h2,if_neg (by omega)]
theorem ziO (os:List O):look (zbG 0 os)=z3z os:=by
 funext p
 rw [z9m];unfold z3z;simp
theorem REs.setE {vs:List Value} {xs:List E} {zs:List Nat} {im':Im} (hI:Inv c G h w) (hext:∀ a u,G.im a=some u→im' a=some u)
  (hz:∀ p ty cs b us,p∈zs→h p=some (.var ty cs)→G.loc p=some (.pointer (some ⟨b,0,none⟩))→Blk w b ty us→∀ j u,us[j]? = some u→im' ⟨b,j,none⟩=some u) (hmem:∀ x p n s,x∈xs→C.sl p n s∈x.cells→p∈zs) (hr:REs G vs xs):REs ⟨im',G.loc⟩ vs (xs.map (setE h)):=by
 refine ⟨by simp [hr.1],fun j u x hu hx=>?_⟩;rw [List.getElem?_map] at hx;cases hxj:xs[j]? with
 | none=>rw [hxj] at hx;cases hx
 | some x0=>
  rw [hxj] at hx;simp at hx;subst hx;exact zd0 hI hext hz (fun p n s hs=>hmem x0 p n s (List.mem_of_getElem? hxj) hs) (hr.2 j u x0 hu hxj)
theorem zlh {gl:Nat→Option (List D)} {tb:World→Prop} {F:Nat} {lv:Nat→Option (List Nat)} {own:Bool} {g:FuncId} {fn:Func} {args:List E} {os:List O} {t:T} {ws os':List O} (hm:P.follows .mixedOrders=true) (hN:z14 P) (hX:z1e P gl tb X)
  (hfn:P.funcs[g]? = some fn) (hr:zmN P gl X F lv own fn args os=some (t,ws,os')):z0S P gl tb g args os t ws os':=by
 intro W0 im w vals ch lo hI hargs;unfold zmN at hr;cases hb:fn.body with
 | none=>rw [hb] at hr;cases hr
 | some cd=>
  rw [hb] at hr;simp only at hr;split at hr
  ·rename_i hlen;cases hc:z0L P gl X fn.ntmps lv F cd ⟨enter 0 args,zbG 0 os⟩ with
   | none=>rw [hc] at hr;cases hr
   | some es=>
    obtain ⟨e,s⟩:=es;rw [hc] at hr;have hvl:vals.length=args.length:=hargs.1;have hR:RelS ⟨W0,w,im,gl,tb,ch,lo⟩ fn.ntmps ⟨enter 0 args,zbG 0 os⟩ {tmps:=vals.toArray++Array.replicate (fn.ntmps-vals.toArray.size) undef,defers:=[]} w:=by
     refine ⟨rfl,by simp;omega,⟨im,locP lo⟩,fun k t hk=>?_,by rw [ziO];exact hI⟩;obtain ⟨x,_,h2,rfl⟩:=z9n args 0 k t hk;rw [Nat.sub_zero] at h2;have hk2:k<vals.length:=by rw [hvl];exact (List.getElem?_eq_some_iff.1 h2).1
     refine ⟨vals[k],?_,hargs.2 k _ x (List.getElem?_eq_getElem hk2) h2⟩;rw [Array.getElem?_append_left (by simpa using hk2)];simp [hk2]
    refine calls_of_wp hfn hb ?_;refine Code.wp_mono ?_ (zgZ (c:=⟨W0,w,im,gl,tb,ch,lo⟩) hm hN hX cd _ _ _ _ _ hc hR);rintro e' a' w' ⟨rfl,hd,hsz,G,he,hI'⟩;have fin:(match z6K P (look s.env) (look s.heap) fn.results.toList with
     | some xs=>match z26 P (minus (z16 (xs.map some) []) (look s.heap)) 0 os with
      | some os'=>some (tupT (z4h P own (if own then minus (z16 (xs.map some) []) (look s.heap) else fun _=>none) fn.resultTypes.toList (xs.map (setE (look s.heap))) ⟨[],[]⟩).1,(z4h P own (if own then minus (z16 (xs.map some) []) (look s.heap) else fun _=>none) fn.resultTypes.toList (xs.map (setE (look s.heap))) ⟨[],[]⟩).2.os,os')
      | none=>none
     | none=>none)=some (t,ws,os')→a'.defers=[]∧∃ v,(results fn a'.tmps).run P w' = .ok v w'∧z7f ⟨W0,w,im,gl,tb,ch,lo⟩ t ws os' (.returned v) w':=by
     intro hr;cases hres:z6K P (look s.env) (look s.heap) fn.results.toList with
     | none=>rw [hres] at hr;cases hr
     | some xs=>
      rw [hres] at hr;simp only at hr;cases hpe:z26 P (minus (z16 (xs.map some) []) (look s.heap)) 0 os with
      | none=>rw [hpe] at hr;cases hr
      | some os1=>
       rw [hpe] at hr;simp only [Option.some.injEq,Prod.mk.injEq] at hr;obtain ⟨ht,hos,rfl⟩:=hr;obtain ⟨vs,hrun,hre⟩:=z7x hI' he hres;refine ⟨hd,_,z7w hrun,?_⟩;obtain ⟨im',hext,hI1,hset⟩:=hI'.settle (z16 (xs.map some) []);have hre1:=hre.setE hI' hext hset (fun x p n s hx hs=>z2K _ _ _ (.inr ⟨x,n,s,List.mem_map.2 ⟨x,hx,rfl⟩,hs⟩));have hok0:z6n (if own then minus (z16 (xs.map some) []) (look s.heap) else fun _=>none) ⟨[],[]⟩:=⟨rfl,List.nodup_nil,fun i q o hi=>by simp at hi⟩;obtain ⟨h1,_,h3⟩:=z65 (P:=P) (G:=⟨im',G.loc⟩) (xs.map (setE (look s.heap))) fn.resultTypes.toList ⟨[],[]⟩ hok0;refine ⟨_,outG ⟨im',G.loc⟩ (z4h P own (if own then minus (z16 (xs.map some) []) (look s.heap) else fun _=>none) fn.resultTypes.toList (xs.map (setE (look s.heap))) ⟨[],[]⟩).2,rfl,?_,?_⟩
       ·rw [←ht];exact zhl (h3 vs _ (Out.le_refl _) hre1)
       ·rw [←hos];refine ziv hI1 h1 (fun q o hq=>?_) hpe;cases own with
        | true=>exact hq
        | false=>simp at hq
    cases e with
    | normal=>exact fin hr
    | exit id=>cases hr
    | ret=>exact fin hr
  ·cases hr
theorem z8W (K:Cfg) {tb:World→Prop} (hm:K.P.follows .mixedOrders=true) (hN:z14 K.P) (hov:∀ f g args os t ws os',K.ov f=some g→g args os=some (t,ws,os')→z0S K.P K.gl tb f args os t ws os'):∀ n,z1e K.P K.gl tb (runF K n)
 | 0=>fun f args os t ws os' h=>by simp [runF] at h
 | n+1=>fun f args os t ws os' h=>by
  simp only [runF] at h;cases ho:K.ov f with
  | some g=>rw [ho] at h;exact hov f g args os t ws os' ho h
  | none=>
   rw [ho] at h;cases hf:K.P.funcs[f]? with
   | none=>rw [hf] at h;cases h
   | some fn=>
    rw [hf] at h;exact zlh hm hN (z8W K hm hN hov n) hf h
end
end Am
end Go.Proofs.YtgmppconibklcaaGreatDoor

namespace Go.Proofs.YtgmppconibklcaaGreatDoor
open Go Go.RowKit
namespace Am
structure SF where
 env:Nat→Option T
 heap:Nat→Option O
def Rel (c:Ctx) (sz:Nat) (s:SF) (a:Act) (w:World):Prop:=a.defers=[]∧a.tmps.size=sz∧∃ G,EnvR G s.env a.tmps∧Inv c G s.heap w
def putF (dst:Option Nat) (t:T) (env:Nat→Option T):Nat→Option T:=
 match dst with
 | some d=>fun k=>if d=k then some t else env k
 | none=>env
def znz (ks:List Nat) (env:Nat→Option T):Nat→Option T:=fun k=>(env k).map (T.kill ks)
def killH (ks:List Nat) (h:Nat→Option O):Nat→Option O:=fun k=>(h k).map (O.kill ks)
def z8l (e:Eff) (dst:Option Nat) (s:SF):SF:=
 match e.kills with
 | []=>⟨putF dst e.t s.env,e.ups.foldl hSet s.heap⟩
 | ks=>⟨putF dst e.t (znz ks s.env),e.ups.foldl hSet (killH ks s.heap)⟩
theorem zdW (e:Eff) (dst:Option Nat) (s:SF):(z8l e dst s).heap=hUp e s.heap:=by
 obtain ⟨t,ups,ks⟩:=e;cases ks with
 | nil=>
  show ups.foldl hSet s.heap=ups.foldl hSet _;simp only [z7S]
 | cons k ks=>rfl
theorem zh8 (e:Eff) (dst:Option Nat) (s:SF) (k:Nat):(z8l e dst s).env k=if dst=some k then some e.t else (s.env k).map (T.kill e.kills):=by
 obtain ⟨t,ups,ks⟩:=e;have put:∀ (env:Nat→Option T),putF dst t env k=if dst=some k then some t else env k:=fun env=>by
  cases dst with
  | none=>simp [putF]
  | some d=>simp [putF]
 cases ks with
 | nil=>
  show putF dst t s.env k=_;rw [put];simp only;split
  ·rfl
  ·cases s.env k with
   | none=>rfl
   | some x=>simp [T.z0I]
 | cons q ks=>
  show putF dst t (znz (q::ks) s.env) k=_;rw [put];rfl
def X0:z1C:=fun _ _ _=>none
theorem zdX {P:Program} {gl:Nat→Option (List D)} {tb:World→Prop}:z1e P gl tb X0:=fun _ _ _ _ _ _ h=>by cases h
open Classical in
noncomputable def tabX:List (FuncId×List E×List O×T×List O×List O)→z1C
 | []=>fun _ _ _=>none
 | r::rs=>fun g args os=>if r.1=g∧r.2.1=args∧r.2.2.1=os then some r.2.2.2 else tabX rs g args os
section
variable (P:Program) (gl:Nat→Option (List D)) (tb:World→Prop) (sz:Nat) (ops:Array Oper)
def z3q (g:FuncId) (args:List E) (os:List O) (R:T→List O→List O→Prop):Prop:=
 ∀ (W0:World) (im:Im) (w:World) (vals:List Value) (ch:Nat→Prop) (lo:Nat→Option Value),Inv ⟨W0,w,im,gl,tb,ch,lo⟩ ⟨im,locP lo⟩ (z3z os) w→REs ⟨im,locP lo⟩ vals args →
  Calls P g vals.toArray w fun e w'=>∃ t ws os',R t ws os'∧z7f ⟨W0,w,im,gl,tb,ch,lo⟩ t ws os' e w'
def zjY (h:Nat→Option O) (base:Nat) (f:Option T) (args:List (Option E)) (K:Eff→Prop):Prop:=
 ∃ g fn ys os,f=some (.e (.one (.d (.leaf (.func (.func g) #[] #[])))))∧P.funcs[g]? = some fn∧fn.body.isNone=false∧(z16 args []).any (fun z=>(z0R (args.map (Option.map (setE h))) []).contains z)=false ∧
  z23 P (z0R (args.map (Option.map (setE h))) []) fn.params.toList (args.map (Option.map (setE h)))=some ys∧z1k P h (z0R (args.map (Option.map (setE h))) [])=some os ∧
  ∃ R:T→List O→List O→Prop,z3q P gl tb g ys os R∧∀ t ws os',R t ws os'→(ws.length<14∧ws.all O.zc3=true∧t.z2y ws.length=true∧os'.all O.plain=true∧z38 os os'=true) ∧
   K ⟨t.ren base,(z16 args []).map (fun z=>(z,none))++(z4u (z0R (args.map (Option.map (setE h))) []) os'++named base 0 ws),z16 args []++(named base 0 ws).map (·.1)⟩
def OptK {α:Type} (x:Option α) (K:α→Prop):Prop:=match x with
 | some e=>K e
 | none=>False
def GdK (x:Option Bool) (KT KF:Unit→Prop):Prop:=match x with
 | some true=>KT ()
 | some false=>KF ()
 | none=>False
def evR (op:Op) (base:Nat) (s:SF) (K:Eff→Prop):Prop:=
 match op with
 | .call {callee:= .value f,args:=args,argTypes:=ts}=>zjY P gl tb s.heap base (valOf gl s.env f) (args.toList.map fun x=>e? (valOf gl s.env x)) K
 | op=>OptK (ev P X0 base op (valOf gl s.env) s.heap) K
def z5N:List Oper→(SF→Prop)→SF→Prop
 | [],Q,s=>Q s
 | o::l,Q,s=>GdK (gdOf ops o s.env) (fun _=>if fits sz o.dst then evR P gl tb o.op (nm o.dst) s (fun e=>z5N l Q (z8l e o.dst s)) else False) (fun _=>if fits sz o.dst then z5N l Q ⟨putF o.dst .undef s.env,s.heap⟩ else False)
def Cont (l:List Oper) (Q:SF→Prop) (dst:Option Nat) (s:SF):Eff→Prop:=fun e=>z5N P gl tb sz ops l Q (z8l e dst s)
def ContT (o:Oper) (l:List Oper) (Q:SF→Prop) (s:SF):Unit→Prop:=fun _=>if fits sz o.dst then evR P gl tb o.op (nm o.dst) s (Cont P gl tb sz ops l Q o.dst s) else False
def ContF (o:Oper) (l:List Oper) (Q:SF→Prop) (s:SF):Unit→Prop:=fun _=>if fits sz o.dst then z5N P gl tb sz ops l Q ⟨putF o.dst .undef s.env,s.heap⟩ else False
def WpC (cd:Code) (Q:Ex→SF→Prop) (s:SF):Prop:=
 ∀ (c:Ctx),c.gl=gl→c.tb=tb→∀ a w,Rel c sz s a w→cd.wp P (fun e' a' w'=>∃ e s',e'=exOf e∧Q e s'∧Rel c sz s' a' w') a w
end
theorem zhh {P:Program} {gl:Nat→Option (List D)} {tb:World→Prop} {sz:Nat} {ops:Array Oper} {Q:SF→Prop} {s:SF}:z5N P gl tb sz ops [] Q s=Q s:=propext Iff.rfl
theorem wpOps_cons {P:Program} {gl:Nat→Option (List D)} {tb:World→Prop} {sz:Nat} {ops:Array Oper} {o:Oper} {l:List Oper} {Q:SF→Prop} {s:SF}:z5N P gl tb sz ops (o::l) Q s=GdK (gdOf ops o s.env) (ContT P gl tb sz ops o l Q s) (ContF P gl tb sz ops o l Q s):=propext Iff.rfl
theorem zfy {P:Program} {gl:Nat→Option (List D)} {tb:World→Prop} {sz:Nat} {ops:Array Oper} {o:Oper} {l:List Oper} {Q:SF→Prop} {s:SF} {u:Unit}:ContT P gl tb sz ops o l Q s u=if fits sz o.dst then evR P gl tb o.op (nm o.dst) s (Cont P gl tb sz ops l Q o.dst s) else False:=propext Iff.rfl
theorem zfz {P:Program} {gl:Nat→Option (List D)} {tb:World→Prop} {sz:Nat} {ops:Array Oper} {o:Oper} {l:List Oper} {Q:SF→Prop} {s:SF} {u:Unit}:ContF P gl tb sz ops o l Q s u=if fits sz o.dst then z5N P gl tb sz ops l Q ⟨putF o.dst .undef s.env,s.heap⟩ else False:=propext Iff.rfl
theorem z2j {α:Type} {e:α} {K:α→Prop}:OptK (some e) K=K e:=propext Iff.rfl
theorem zix {α:Type} {K:α→Prop}:OptK none K=False:=propext Iff.rfl
theorem zat {KT KF:Unit→Prop}:GdK (some true) KT KF=KT ():=propext Iff.rfl
theorem z7Y {KT KF:Unit→Prop}:GdK (some false) KT KF=KF ():=propext Iff.rfl
theorem znW {P:Program} {gl:Nat→Option (List D)} {tb:World→Prop} {sz:Nat} {ops:Array Oper} {l:List Oper} {Q:SF→Prop} {dst:Option Nat} {s:SF} {e:Eff}:Cont P gl tb sz ops l Q dst s e=z5N P gl tb sz ops l Q (z8l e dst s):=propext Iff.rfl
section
variable {P:Program} {gl:Nat→Option (List D)} {tb:World→Prop} {sz:Nat} {ops:Array Oper}
theorem zhS {c:Ctx} {s:SF} {a:Act} {w':World} {dst:Option Nat} {e:Eff} {v:Value} {G:Gh} (hf:fits sz dst=true) (hd:a.defers=[]) (hsz:a.tmps.size=sz) (he:EnvR G s.env a.tmps) (hA:z15 c G s.heap e v w'):Rel c sz (z8l e dst s) (a.put dst v) w':=by
 obtain ⟨G',h1,h2,h3,h4⟩:=hA;refine ⟨by rw [z3P];exact hd,by rw [z6Y];exact hsz,G',fun k t hk=>?_,by rw [zdW];exact h4⟩;rw [zh8] at hk;rw [zab a dst v (by rw [hsz];exact hf)];by_cases hdk:dst=some k
 ·rw [if_pos hdk] at hk ⊢;injection hk with hk;subst hk;exact ⟨v,rfl,h3⟩
 ·rw [if_neg hdk] at hk ⊢;cases hl:s.env k with
  | none=>rw [hl] at hk;cases hk
  | some t0=>
   rw [hl] at hk;simp at hk;subst hk;obtain ⟨u,h5,h6⟩:=he k t0 hl;exact ⟨u,h5,h6.kill h1 h2⟩
theorem zhR {c:Ctx} {s:SF} {a:Act} {w:World} {dst:Option Nat} (hf:fits sz dst=true) (hR:Rel c sz s a w):Rel c sz ⟨putF dst .undef s.env,s.heap⟩ (a.put dst undef) w:=by
 obtain ⟨hd,hsz,G,he,hI⟩:=hR;refine ⟨by rw [z3P];exact hd,by rw [z6Y];exact hsz,G,fun k t hk=>?_,hI⟩;rw [zab a dst undef (by rw [hsz];exact hf)];cases dst with
 | none=>rw [if_neg (by simp)];exact he k t hk
 | some d=>
  simp only [putF] at hk;by_cases hdk:d=k
  ·rw [if_pos hdk] at hk;rw [if_pos (by rw [hdk])];injection hk with hk;subst hk;exact ⟨undef,rfl,rfl⟩
  ·rw [if_neg hdk] at hk;rw [if_neg (by simpa using hdk)];exact he k t hk
theorem zlp {c:Ctx} {base:Nat} {G:Gh} {h:Objs} {ρ:Operand→Option T} {a:Act} {w:World} {f:Operand} {args:Array Operand} {argTypes:Array TypeId} {o:Oper} {K:Eff→Prop} {KK:Act→World→Prop} {Q:Exit→Act→World→Prop} (hN:z14 P) (hI:Inv c G h w) (hρ:Rho G ρ a.eval) (hb16:base%16=0)
  (ho:o.op = .call {callee:= .value f,args:=args,argTypes:=argTypes}) (he:zjY P c.gl c.tb h base (ρ f) (args.toList.map fun x=>e? (ρ x)) K) (hK:∀ e v w',K e→z15 c G h e v w'→KK (a.put o.dst v) w'):o.wp P a w KK Q:=by
 obtain ⟨g,fn,ys,os,hf,hfn,hbody,hdis,hys,hos,R,hcR,hR⟩:=he;have hfv:=RT_v (hρ f _ hf);obtain ⟨im',hext,hI1,hset⟩:=hI.settle (z16 (args.toList.map fun x=>e? (ρ x)) []);have hnd:=z3b ((args.toList.map fun x=>e? (ρ x)).map (Option.map (setE h))) [] List.nodup_nil;have hos1:z1k P (fun p=>if p∈z16 (args.toList.map fun x=>e? (ρ x)) [] then none else h p) (z0R ((args.toList.map fun x=>e? (ρ x)).map (Option.map (setE h))) [])=some os:=by
  rw [←hos];refine z3d fun p hp=>?_
  rw [if_neg];intro hz;have:=List.any_eq_false.1 hdis p hz;exact this (by simpa using hp)
 have hargs:=z4X (G:=⟨im',G.loc⟩) (vs:=args.toList.map a.eval) hys (by simp) (fun j v x hv hx=>by
  rw [List.getElem?_map] at hv;rw [List.getElem?_map,List.getElem?_map] at hx;cases hp:args.toList[j]? with
  | none=>rw [hp] at hv;cases hv
  | some p=>
   rw [hp] at hv hx;simp at hv hx;subst hv;obtain ⟨y,hy,rfl⟩:=hx;exact zd0 hI hext hset (fun q n s hq=>z2K _ _ _ (.inr ⟨y,n,s,List.mem_map.2 ⟨p,List.mem_of_getElem? hp,hy⟩,hq⟩)) (hρ p _ (e?_spec hy)))
 have hcall:=hcR c.W0 im' w (args.toList.map a.eval) _ _ (hI1.callee hnd hos1) hargs;have hnm:=hN g fn hfn;unfold Oper.wp execOp;simp only [ho,resolve,hfv,Deferred.ofValue,invoke,callFunc,Sem.run_bind,Sem.run_pure,Result.andThen_ok,run_program,hfn,hnm,Bool.false_eq_true,if_false,hbody];simp only [Oper.upon_enter];have hav:(#[]:Array Value)++Array.map a.eval args++#[]=(args.toList.map a.eval).toArray:=by
  apply Array.ext';simp
 rw [hav];refine hcall.mono ?_;rintro e w' ⟨t,ws,os',hRt,v,G',rfl,hr,hI'⟩;obtain ⟨⟨hlw,hws,ht,hpl,hty⟩,hKe⟩:=hR t ws os' hRt;exact hK _ v w' hKe (z15.settled hext (Inv.call hI1 hnd hos1 (z5X hty) hb16 hlw hws hpl ht hr hI'))
theorem evR_wp {c:Ctx} {base:Nat} {s:SF} {G:Gh} {a:Act} {w:World} {o:Oper} {K:Eff→Prop} {KK:Act→World→Prop} {Q:Exit→Act→World→Prop} (hN:z14 P) (hb16:base%16=0) (hI:Inv c G s.heap w) (hρ:Rho G (valOf c.gl s.env) a.eval)
  (h:evR P c.gl c.tb o.op base s K) (hK:∀ e v w',K e→z15 c G s.heap e v w'→KK (a.put o.dst v) w'):o.wp P a w KK Q:=by
 unfold evR at h;split at h
 ·rename_i f args ts hop;exact zlp hN hI hρ hb16 hop h hK
 ·cases he:ev P X0 base o.op (valOf c.gl s.env) s.heap with
  | none=>rw [he] at h;cases h
  | some e=>rw [he] at h;exact ev_wp hb16 hN zdX hI hρ he (fun v w' hA=>hK e v w' h hA)
theorem z47 {c:Ctx} (hN:z14 P):∀ (l:List Oper) (Q:SF→Prop) (s:SF),z5N P c.gl c.tb sz ops l Q s→∀ a w,Rel c sz s a w→∀ Qc:Exit→Act→World→Prop,(∀ s' a w,Q s'→Rel c sz s' a w→Qc .normal a w)→wpList P ops Qc l a w
 | [],Q,s,h=>fun a w hR Qc hQ=>hQ s a w h hR
 | o::l,Q,s,h=>fun a w hR Qc hQc=>by
  rw [wpOps_cons] at h;have hR2:=hR;obtain ⟨hd,hsz,G,he,hI⟩:=hR2;cases hg:gdOf ops o s.env with
  | none=>rw [hg] at h;cases h
  | some b=>
   rw [hg] at h;cases b with
   | true=>
    rw [zat,zfy] at h;split at h
    ·rename_i hf;refine wpList_step fun K hKK=>?_
     rw [zdF he hg];simp only [if_true];exact evR_wp hN (nm_16 _) hI (zek hI he) h (fun e v w' hKe hA=>hKK _ _ (z47 hN l Q _ hKe _ _ (zhS hf hd hsz he hA) Qc hQc))
    ·cases h
   | false=>
    rw [z7Y,zfz] at h;split at h
    ·rename_i hf;refine wpList_step fun K hKK=>?_
     rw [zdF he hg];simp only [Bool.false_eq_true,if_false];exact hKK _ _ (z47 hN l Q _ h _ _ (zhR hf hR) Qc hQc)
    ·cases h
theorem zcJ (hN:z14 P) (l:List Oper) (Q:SF→Prop) (s:SF) (h:z5N P gl tb sz ops l Q s) (c:Ctx) (h1:c.gl=gl) (h2:c.tb=tb) (a:Act) (w:World) (hR:Rel c sz s a w) (Qc:Exit→Act→World→Prop) (hQ:∀ s' a w,Q s'→Rel c sz s' a w→Qc .normal a w):wpList P ops Qc l a w:=by
 subst h1;subst h2;exact z47 hN l Q s h a w hR Qc hQ
theorem z05 {Q:Ex→SF→Prop} {s:SF} (h:Q .normal s):WpC P gl tb sz .skip Q s:=fun c _ _ a w hR=>wp_skip ⟨_,_,rfl,h,hR⟩
theorem z06 {Q:Ex→SF→Prop} {s:SF} {id:Nat} (h:Q (.exit id) s):WpC P gl tb sz (.exit id) Q s:=fun c _ _ a w hR=>wp_exit ⟨.exit id,_,rfl,h,hR⟩
theorem z07 {Q:Ex→SF→Prop} {s:SF} (h:Q .ret s):WpC P gl tb sz .ret Q s:=fun c _ _ a w hR=>wp_ret ⟨.ret,_,rfl,h,hR⟩
theorem z8H (hN:z14 P) {Q:Ex→SF→Prop} {s:SF} {id:Nat} (h:z5N P gl tb sz ops ops.toList (Q .normal) s):WpC P gl tb sz (.region id ops false) Q s:=
 fun c h1 h2 a w hR=>wp_region_list (zcJ hN _ _ _ h c h1 h2 a w hR _ fun s' a w hq hR=>⟨.normal,s',rfl,hq,hR⟩)
theorem z09 (hN:z14 P) {Q:Ex→SF→Prop} {s:SF} {id:Nat} (h:∀ Q',Q'=Q→z5N P gl tb sz ops ops.toList (Q' .normal) s):WpC P gl tb sz (.region id ops false) Q s:=z8H hN (h Q rfl)
def snap (ks hs:List Nat) (s:SF):S:=⟨ks.filterMap fun k=>(s.env k).map fun t=>(k,t),hs.filterMap fun k=>(s.heap k).map fun t=>(k,t)⟩
theorem z4y {α:Type} {env:Nat→Option α}:∀ (ks:List Nat) (k:Nat) (t:α),look (ks.filterMap fun k=>(env k).map fun t=>(k,t)) k=some t→env k=some t
 | [],k,t,h=>by simp [look] at h
 | i::ks,k,t,h=>by
  rw [List.filterMap_cons] at h;cases hi:env i with
  | none=>rw [hi] at h;exact z4y ks k t h
  | some u=>
   rw [hi] at h;simp only [Option.map_some,look] at h;split at h
   ·rename_i e;rw [←e,hi];exact h
   ·exact z4y ks k t h
theorem Inv.sub' {c:Ctx} {G:Gh} {h h':Objs} {w:World} (hI:Inv c G h w) (hs:∀ p o,h' p=some o→h p=some o):Inv c G h' w:=
 ⟨hI.tb,hI.base,hI.chb,hI.below,hI.imw,hI.imx,hI.imo,hI.pas,hI.glob,fun p o hp=>hI.obj p o (hs p o hp),fun p q o o' b hp hq=>hI.sep p q o o' b (hs p o hp) (hs q o' hq)⟩
theorem zkz {c:Ctx} {ks hs:List Nat} {s:SF} {a:Act} {w:World} (hR:Rel c sz s a w):RelS c sz (snap ks hs s) a w:=by
 obtain ⟨h1,h2,G,h3,h4⟩:=hR;exact ⟨h1,h2,G,fun k t hk=>h3 k t (z4y ks k t hk),h4.sub' fun p o hp=>z4y hs p o hp⟩
theorem zk5 (hm:P.follows .mixedOrders=true) (hN:z14 P) {Q:Ex→SF→Prop} {s:SF} {id:Nat} (ks hs:List Nat) {X:z1C} (hX:z1e P gl tb X) {s1:S} (h:z3u P gl X sz ops true (snap ks hs s)=some s1) (hQ:Q .normal ⟨look s1.env,look s1.heap⟩):WpC P gl tb sz (.region id ops true) Q s:=
 fun c h1 h2 a w hR=>by
  subst h1;subst h2;exact z6t hm hN hX h (zkz (ks:=ks) (hs:=hs) hR) fun a w h=>⟨.normal,_,rfl,hQ,h⟩
def zjZ (ops:Array Oper) (Q:Ex→SF→Prop):S×List Log→Prop:=fun r=>z3I ops r.2=true∧Q .normal ⟨look r.1.env,look r.1.heap⟩
theorem z2C {Q:Ex→SF→Prop} {s1:S} {gs:List Log}:zjZ ops Q (s1,gs)=(z3I ops gs=true∧Q .normal ⟨look s1.env,look s1.heap⟩):=propext Iff.rfl
theorem z1O (hm:P.follows .mixedOrders=true) (hN:z14 P) {Q:Ex→SF→Prop} {s:SF} {id:Nat} (ks hs:List Nat) {X:z1C} (hX:z1e P gl tb X) (hd:z9z ops=true) (h:∀ Q',Q'=Q→OptK (z1w P gl X sz ops ops.toList (snap ks hs s)) (zjZ ops Q')):WpC P gl tb sz (.region id ops true) Q s:=by
 have h:=h Q rfl;cases hr:z1w P gl X sz ops ops.toList (snap ks hs s) with
 | none=>rw [hr] at h;cases h
 | some r=>
  obtain ⟨s1,gs⟩:=r;rw [hr] at h;refine zk5 hm hN ks hs hX (s1:=s1) ?_ h.2;have h1:z3I ops gs=true:=h.1;simp only [z3u,if_true,hr,h1,hd,Bool.and_self]
def SeqK (P:Program) (gl:Nat→Option (List D)) (tb:World→Prop) (sz:Nat) (b:Code) (Q:Ex→SF→Prop):Ex→SF→Prop:=fun e s=>
 match e with
 | .normal=>WpC P gl tb sz b Q s
 | e=>Q e s
theorem z0a {x y:Code} {Q:Ex→SF→Prop} {s:SF} (h:WpC P gl tb sz x (SeqK P gl tb sz y Q) s):WpC P gl tb sz (.seq x y) Q s:=fun c h1 h2 a w hR=>by
 refine wp_seq (Code.wp_mono ?_ (h c h1 h2 a w hR));rintro e' a' w' ⟨e,s1,rfl,hQ,hR1⟩;cases e with
 | normal=>exact hQ c h1 h2 a' w' hR1
 | exit id=>exact ⟨.exit id,s1,rfl,hQ,hR1⟩
 | ret=>exact ⟨.ret,s1,rfl,hQ,hR1⟩
theorem zmu {cd:Code} {Q R:Ex→SF→Prop} {s:SF} (h:WpC P gl tb sz cd R s) (hQ:∀ e s',R e s'→Q e s'):WpC P gl tb sz cd Q s:=fun c h1 h2 a w hR=>by
 refine Code.wp_mono ?_ (h c h1 h2 a w hR);rintro e' a' w' ⟨e,s1,rfl,hq,hR1⟩;exact ⟨e,s1,rfl,hQ e s1 hq,hR1⟩
def CutK (R:SF→Prop) (Q:Ex→SF→Prop):Ex→SF→Prop:=fun e s=>
 match e with
 | .normal=>R s
 | e=>Q e s
theorem z01 {R:SF→Prop} {Q:Ex→SF→Prop} {s:SF}:CutK R Q .normal s=R s:=propext Iff.rfl
theorem zct {R:SF→Prop} {Q:Ex→SF→Prop} {s:SF} {id:Nat}:CutK R Q (.exit id) s=Q (.exit id) s:=propext Iff.rfl
theorem zfw {R:SF→Prop} {Q:Ex→SF→Prop} {s:SF}:CutK R Q .ret s=Q .ret s:=propext Iff.rfl
theorem z2J (R:SF→Prop) {x y:Code} {Q:Ex→SF→Prop} {s:SF} (h:WpC P gl tb sz x (CutK R Q) s) (k:∀ s',R s'→WpC P gl tb sz y Q s'):WpC P gl tb sz (.seq x y) Q s:=by
 refine z0a (zmu h fun e s1 hQ=>?_);cases e with
 | normal=>exact k s1 hQ
 | exit id=>exact hQ
 | ret=>exact hQ
theorem zhs {g:FuncId} {ys:List E} {os:List O} {t:T} {ws os':List O} (hc:z0S P gl tb g ys os t ws os'):z1e P gl tb (tabX [(g,ys,os,t,ws,os')]):=by
 intro g' a' o' t' ws' os'' hx;simp only [tabX] at hx;split at hx
 ·rename_i hh;obtain ⟨rfl,rfl,rfl⟩:=hh;simp only [Option.some.injEq,Prod.mk.injEq] at hx;obtain ⟨rfl,rfl,rfl⟩:=hx;exact hc
 ·cases hx
theorem Rel.bool {c:Ctx} {s:SF} {a:Act} {w:World} {cc:Operand} {b:Bool} (hR:Rel c sz s a w) (hb:bool? (valOf c.gl s.env cc)=some b):a.eval cc = .bool b:=by
 obtain ⟨_,_,G,h3,h4⟩:=hR;exact RT_v (zek h4 h3 cc _ (bool?_spec hb))
theorem zk4 {cc:Operand} {x y:Code} {Q:Ex→SF→Prop} {s:SF} (hb:bool? (valOf gl s.env cc)=some true) (h:WpC P gl tb sz x Q s):WpC P gl tb sz (.cond cc x y) Q s:=
 fun c h1 h2 a w hR=>wp_cond_true (hR.bool (by rw [h1];exact hb)) (h c h1 h2 a w hR)
theorem zhi {cc:Operand} {x y:Code} {Q:Ex→SF→Prop} {s:SF} (hb:bool? (valOf gl s.env cc)=some false) (h:WpC P gl tb sz y Q s):WpC P gl tb sz (.cond cc x y) Q s:=
 fun c h1 h2 a w hR=>wp_cond_false (hR.bool (by rw [h1];exact hb)) (h c h1 h2 a w hR)
def ze0 (P:Program) (gl:Nat→Option (List D)) (tb:World→Prop) (sz:Nat) (x y:Code) (Q:Ex→SF→Prop) (s:SF):Bool→Prop:=fun b=>
 match b with
 | true=>WpC P gl tb sz x Q s
 | false=>WpC P gl tb sz y Q s
theorem zgY {x y:Code} {Q:Ex→SF→Prop} {s:SF}:ze0 P gl tb sz x y Q s true=WpC P gl tb sz x Q s:=propext Iff.rfl
theorem zdP {x y:Code} {Q:Ex→SF→Prop} {s:SF}:ze0 P gl tb sz x y Q s false=WpC P gl tb sz y Q s:=propext Iff.rfl
theorem z1I {cc:Operand} {x y:Code} {Q:Ex→SF→Prop} {s:SF} (h:∀ Q',Q'=Q→OptK (bool? (valOf gl s.env cc)) (ze0 P gl tb sz x y Q' s)):WpC P gl tb sz (.cond cc x y) Q s:=by
 have h:=h Q rfl;cases hb:bool? (valOf gl s.env cc) with
 | none=>rw [hb] at h;cases h
 | some b=>
  rw [hb] at h;cases b with
  | true=>exact zk4 hb h
  | false=>exact zhi hb h
def BlkK (id:Nat) (Q:Ex→SF→Prop):Ex→SF→Prop:=fun e s=>
 match e with
 | .exit id'=>if id'=id then Q .normal s else Q (.exit id') s
 | e=>Q e s
theorem z7h {id:Nat} {b:Code} {Q:Ex→SF→Prop} {s:SF} (h:WpC P gl tb sz b (BlkK id Q) s):WpC P gl tb sz (.block id b) Q s:=fun c h1 h2 a w hR=>by
 refine wp_block (Code.wp_mono ?_ (h c h1 h2 a w hR));rintro e' a' w' ⟨e,s1,rfl,hQ,hR1⟩;cases e with
 | normal=>exact ⟨.normal,s1,rfl,hQ,hR1⟩
 | ret=>exact ⟨.ret,s1,rfl,hQ,hR1⟩
 | exit id' =>
  show if id'=id then _ else _
  by_cases hid:id'=id
  ·simp only [BlkK,if_pos hid] at hQ;rw [if_pos hid];exact ⟨.normal,s1,rfl,hQ,hR1⟩
  ·simp only [BlkK,if_neg hid] at hQ;rw [if_neg hid];exact ⟨.exit id',s1,rfl,hQ,hR1⟩
def zjX (I:Nat→SF→Prop) (k:Nat) (Q:Ex→SF→Prop):Ex→SF→Prop:=fun e s=>
 match e with
 | .normal=>∃ j,j<k∧I j s
 | e=>Q e s
theorem z0A {b:Code} {Q:Ex→SF→Prop} {s:SF} (I:Nat→SF→Prop) (n:Nat) (h0:I n s) (step:∀ k s,I k s→WpC P gl tb sz b (zjX I k Q) s):WpC P gl tb sz (.loop b) Q s:=fun c h1 h2 a w hR=>by
 have more:∀ (n m:Nat) (a:Act) (w:World),n≤m→Code.rounds P b (fun e' a' w'=>∃ e s',e'=exOf e∧Q e s'∧Rel c sz s' a' w') n a w→Code.rounds P b (fun e' a' w'=>∃ e s',e'=exOf e∧Q e s'∧Rel c sz s' a' w') m a w:=by
  intro n;induction n with
  | zero=>intro m a w _ h;exact h.elim
  | succ n ih=>
   intro m a w hle h;match m,hle with
   | m+1,hle=>
    rw [rounds_succ] at h ⊢;refine Code.wp_mono ?_ h;intro e' a' w' hh;cases e' with
    | normal=>exact ih m a' w' (by omega) hh
    | _=>exact hh
 have key:∀ (n:Nat) (s:SF) (a:Act) (w:World),I n s→Rel c sz s a w→Code.rounds P b (fun e' a' w'=>∃ e s',e'=exOf e∧Q e s'∧Rel c sz s' a' w') (n+1) a w:=by
  intro n;induction n using Nat.strongRecOn with
  | ind n ih=>
   intro s a w hI hR;rw [rounds_succ];refine Code.wp_mono ?_ (step n s hI c h1 h2 a w hR);rintro e' a' w' ⟨e,s1,rfl,hQ,hR1⟩;cases e with
   | normal=>
    obtain ⟨j,hj,hI1⟩:=hQ;exact more (j+1) n a' w' (by omega) (ih j hj s1 a' w' hI1 hR1)
   | exit id=>exact ⟨.exit id,s1,rfl,hQ,hR1⟩
   | ret=>exact ⟨.ret,s1,rfl,hQ,hR1⟩
 exact wp_loop_rounds (n+1) (key n s a w h0 hR)
theorem z0S.toR {g:FuncId} {args:List E} {os:List O} {t:T} {ws os':List O} (h:z0S P gl tb g args os t ws os'):z3q P gl tb g args os (fun t' ws' os''=>t'=t∧ws'=ws∧os''=os'):=fun W0 im w vals ch lo hI hargs=>
 (h W0 im w vals ch lo hI hargs).mono fun _ _ hp=>⟨t,ws,os',⟨rfl,rfl,rfl⟩,hp⟩
theorem zgL {h:Objs} {base:Nat} {f:FuncId} {fn:Func} {args:List (Option E)} {K:Eff→Prop} {ys:List E} {R:T→Prop} (hf:P.funcs[f]? = some fn) (hb:fn.body.isNone=false)
  (hs:z16 args []=[]) (hp:z0R (args.map (Option.map (setE h))) []=[]) (ha:z23 P [] fn.params.toList (args.map (Option.map (setE h)))=some ys) (hc:z3q P gl tb f ys [] (fun t ws os'=>R t∧ws=[]∧os'=[])) (hK:∀ t,R t→t.z2y 0=true∧t.ren base=t∧K ⟨t,[],[]⟩):
  zjY P gl tb h base (some (.e (.one (.d (.leaf (.func (.func f) #[] #[])))))) args K:=by
 refine ⟨f,fn,ys,[],rfl,hf,hb,by rw [hs];rfl,by rw [hp];exact ha,by rw [hp];rfl,_,hc,?_⟩;rintro t ws os' ⟨hR,rfl,rfl⟩;obtain ⟨h1,h2,h3⟩:=hK t hR;refine ⟨⟨by simp,rfl,h1,rfl,rfl⟩,?_⟩;rw [hs,hp,h2];exact h3
theorem z0k {h:Objs} {base:Nat} {f:FuncId} {fn:Func} {args:List (Option E)} {K:Eff→Prop} {ys:List E} {t:T} (hf:P.funcs[f]? = some fn) (hb:fn.body.isNone=false)
  (hs:z16 args []=[]) (hp:z0R (args.map (Option.map (setE h))) []=[]) (ha:z23 P [] fn.params.toList (args.map (Option.map (setE h)))=some ys) (hc:z0S P gl tb f ys [] t [] []) (ht:t.z2y 0=true) (hr:t.ren base=t) (hK:K ⟨t,[],[]⟩):
  zjY P gl tb h base (some (.e (.one (.d (.leaf (.func (.func f) #[] #[])))))) args K:=
 zgL (R:=fun t'=>t'=t) hf hb hs hp ha (fun W0 im w vals ch lo hI hargs=>(hc.toR W0 im w vals ch lo hI hargs).mono fun _ _ ⟨t',ws,os',hh,hp⟩=>⟨t',ws,os',hh,hp⟩) fun t' e=>by subst e;exact ⟨ht,hr,hK⟩
def z6D (args:List E):Nat→Option T:=fun k=>(args[k]?).map .e
def EndK (P:Program) (own:Bool) (rs:List ResultVar) (ts:List TypeId) (os:List O) (R:T→List O→List O→Prop):Ex→SF→Prop:=fun e s=>
 match e with
 | .exit _=>False
 | _=>match z6K P s.env s.heap rs with
  | some xs=>match z26 P (minus (z16 (xs.map some) []) s.heap) 0 os with
   | some os'=>R (tupT (z4h P own (if own then minus (z16 (xs.map some) []) s.heap else fun _=>none) ts (xs.map (setE s.heap)) ⟨[],[]⟩).1) (z4h P own (if own then minus (z16 (xs.map some) []) s.heap else fun _=>none) ts (xs.map (setE s.heap)) ⟨[],[]⟩).2.os os'
   | none=>False
  | none=>False
theorem z6c (own:Bool) {g:FuncId} {fn:Func} {cd:Code} {args:List E} {os:List O} {R:T→List O→List O→Prop} (hfn:P.funcs[g]? = some fn) (hb:fn.body=some cd) (hlen:args.length≤fn.ntmps)
  (h:WpC P gl tb fn.ntmps cd (EndK P own fn.results.toList fn.resultTypes.toList os R) ⟨z6D args,z3z os⟩):z3q P gl tb g args os R:=by
 intro W0 im w vals ch lo hI hargs;have hvl:vals.length=args.length:=hargs.1;have hRel:Rel ⟨W0,w,im,gl,tb,ch,lo⟩ fn.ntmps ⟨z6D args,z3z os⟩ {tmps:=vals.toArray++Array.replicate (fn.ntmps-vals.toArray.size) undef,defers:=[]} w:=by
  refine ⟨rfl,by simp;omega,⟨im,locP lo⟩,fun k t hk=>?_,hI⟩;simp only [z6D] at hk;cases h2:args[k]? with
  | none=>rw [h2] at hk;cases hk
  | some x=>
   rw [h2] at hk;simp at hk;subst hk;have hk2:k<vals.length:=by rw [hvl];exact (List.getElem?_eq_some_iff.1 h2).1
   refine ⟨vals[k],?_,hargs.2 k _ x (List.getElem?_eq_getElem hk2) h2⟩;rw [Array.getElem?_append_left (by simpa using hk2)];simp [hk2]
 refine calls_of_wp hfn hb ?_;refine Code.wp_mono ?_ (h ⟨W0,w,im,gl,tb,ch,lo⟩ rfl rfl _ _ hRel);rintro e' a' w' ⟨e,s,rfl,hQ,hd,hsz,G,he,hI'⟩;have hfin:(match z6K P s.env s.heap fn.results.toList with
   | some xs=>match z26 P (minus (z16 (xs.map some) []) s.heap) 0 os with
    | some os'=>R (tupT (z4h P own (if own then minus (z16 (xs.map some) []) s.heap else fun _=>none) fn.resultTypes.toList (xs.map (setE s.heap)) ⟨[],[]⟩).1) (z4h P own (if own then minus (z16 (xs.map some) []) s.heap else fun _=>none) fn.resultTypes.toList (xs.map (setE s.heap)) ⟨[],[]⟩).2.os os'
    | none=>False
   | none=>False)→a'.defers=[]∧∃ v,(results fn a'.tmps).run P w' = .ok v w'∧∃ t ws os',R t ws os'∧z7f ⟨W0,w,im,gl,tb,ch,lo⟩ t ws os' (.returned v) w':=by
  intro h2;cases hres:z6K P s.env s.heap fn.results.toList with
  | none=>rw [hres] at h2;cases h2
  | some xs=>
   rw [hres] at h2;simp only at h2;cases hpe:z26 P (minus (z16 (xs.map some) []) s.heap) 0 os with
   | none=>rw [hpe] at h2;cases h2
   | some os' =>
    rw [hpe] at h2;simp only at h2;obtain ⟨vs,hrun,hre⟩:=z7x hI' he hres;refine ⟨hd,_,z7w hrun,_,_,_,h2,?_⟩;obtain ⟨im',hext,hI1,hset⟩:=hI'.settle (z16 (xs.map some) []);have hre1:=hre.setE hI' hext hset (fun x p n s hx hs=>z2K _ _ _ (.inr ⟨x,n,s,List.mem_map.2 ⟨x,hx,rfl⟩,hs⟩));have hok0:z6n (if own then minus (z16 (xs.map some) []) s.heap else fun _=>none) ⟨[],[]⟩:=⟨rfl,List.nodup_nil,fun i q o hi=>by simp at hi⟩;obtain ⟨h1,_,h3⟩:=z65 (P:=P) (G:=⟨im',G.loc⟩) (xs.map (setE s.heap)) fn.resultTypes.toList ⟨[],[]⟩ hok0;refine ⟨_,outG ⟨im',G.loc⟩ (z4h P own (if own then minus (z16 (xs.map some) []) s.heap else fun _=>none) fn.resultTypes.toList (xs.map (setE s.heap)) ⟨[],[]⟩).2,rfl,zhl (h3 vs _ (Out.le_refl _) hre1),?_⟩;refine ziv hI1 h1 (fun q o hq=>?_) hpe;cases own with
    | true=>exact hq
    | false=>simp at hq
 cases e with
 | normal=>exact hfin hQ
 | exit id=>exact hQ.elim
 | ret=>exact hfin hQ
theorem z0d {g:FuncId} {fn:Func} {cd:Code} {args:List E} {t:T} (hfn:P.funcs[g]? = some fn) (hb:fn.body=some cd) (hlen:args.length≤fn.ntmps)
  (h:WpC P gl tb fn.ntmps cd (EndK P false fn.results.toList fn.resultTypes.toList [] (fun t' ws os'=>t'=t∧ws=[]∧os'=[])) ⟨z6D args,fun _=>none⟩):z0S P gl tb g args [] t [] []:=by
 have e:(fun _=>none:Objs)=z3z []:=by funext p;unfold z3z;simp
 rw [e] at h;exact fun W0 im w vals ch lo hI hargs=>(z6c false hfn hb hlen h W0 im w vals ch lo hI hargs).mono (by
  rintro e w' ⟨t',ws,os',⟨rfl,rfl,rfl⟩,hp⟩;exact hp)
end
end Am
end Go.Proofs.YtgmppconibklcaaGreatDoor

