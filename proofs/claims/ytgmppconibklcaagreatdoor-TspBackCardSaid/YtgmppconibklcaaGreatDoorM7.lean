/- Part of the proof of TspBack. No condition: lemmas alone. -/
import Derived.Test.YtgmppconibklcaaGreatDoorM6
set_option linter.unusedVariables false
set_option linter.unusedSimpArgs false
namespace Go.Proofs.YtgmppconibklcaaGreatDoor
open Go Go.RowKit
namespace Am
structure SF where
 env:Nat→Option T
 heap:Nat→Option O
def Rel (c:Ctx) (sz:Nat) (s:SF) (a:Act) (w:World):Prop:=a.defers=[]∧a.tmps.size=sz∧∃ G,EnvR G s.env a.tmps∧Inv c G s.heap w
def putF (dst:Option Nat) (t:T) (env:Nat→Option T):Nat→Option T:=
 match dst with
 | some d=>fun k=>if d=k then some t else env k
 | none=>env
def zlJ (ks:List Nat) (env:Nat→Option T):Nat→Option T:=fun k=>(env k).map (T.kill ks)
def killH (ks:List Nat) (h:Nat→Option O):Nat→Option O:=fun k=>(h k).map (O.kill ks)
def z86 (e:Eff) (dst:Option Nat) (s:SF):SF:=
 match e.kills with
 | []=>⟨putF dst e.t s.env,e.ups.foldl hSet s.heap⟩
 | ks=>⟨putF dst e.t (zlJ ks s.env),e.ups.foldl hSet (killH ks s.heap)⟩
theorem zdh (e:Eff) (dst:Option Nat) (s:SF):(z86 e dst s).heap=hUp e s.heap:=by
 obtain ⟨t,ups,ks⟩:=e;cases ks with
 | nil=>
  show ups.foldl hSet s.heap=ups.foldl hSet _;simp only [z7A]
 | cons k ks=>rfl
theorem zg0 (e:Eff) (dst:Option Nat) (s:SF) (k:Nat):(z86 e dst s).env k=if dst=some k then some e.t else (s.env k).map (T.kill e.kills):=by
 obtain ⟨t,ups,ks⟩:=e;have put:∀ (env:Nat→Option T),putF dst t env k=if dst=some k then some t else env k:=fun env=>by
  cases dst with
  | none=>simp [putF]
  | some d=>simp [putF]
 cases ks with
 | nil=>
  show putF dst t s.env k=_;rw [put];simp only;split
  ·rfl
  ·cases s.env k with
   | none=>rfl
   | some x=>simp [T.z0G]
 | cons q ks=>
  show putF dst t (zlJ (q::ks) s.env) k=_;rw [put];rfl
def X0:z1F:=fun _ _ _=>none
theorem z8o {P:Program} {gl:Nat→Option (List D)} {tb:World→Prop}:z1J P gl tb X0:=fun _ _ _ _ _ _ h=>by cases h
open Classical in
noncomputable def tabX:List (FuncId×List E×List O×T×List O×List O)→z1F
 | []=>fun _ _ _=>none
 | r::rs=>fun g args os=>if r.1=g∧r.2.1=args∧r.2.2.1=os then some r.2.2.2 else tabX rs g args os
section
variable (P:Program) (gl:Nat→Option (List D)) (tb:World→Prop) (sz:Nat) (ops:Array Oper)
def z1Y (g:FuncId) (args:List E) (os:List O) (R:T→List O→List O→Prop):Prop:=
 ∀ (W0:World) (im:Im) (w:World) (vals:List Value) (ch:Nat→Prop) (lo:Nat→Option Value),Inv ⟨W0,w,im,gl,tb,ch,lo⟩ ⟨im,locP lo⟩ (z1P os) w→REs ⟨im,locP lo⟩ vals args →
  Calls P g vals.toArray w fun e w'=>∃ t ws os',R t ws os'∧zao ⟨W0,w,im,gl,tb,ch,lo⟩ t ws os' e w'
def ziw (h:Nat→Option O) (base:Nat) (f:Option T) (args:List (Option E)) (K:Eff→Prop):Prop:=
 ∃ g fn ys os,f=some (.e (.one (.d (.leaf (.func (.func g) #[] #[])))))∧P.funcs[g]? = some fn∧fn.body.isNone=false∧(z1s args []).any (fun z=>(z0O (args.map (Option.map (setE h))) []).contains z)=false ∧
  z23 P (z0O (args.map (Option.map (setE h))) []) fn.params.toList (args.map (Option.map (setE h)))=some ys∧z1o P h (z0O (args.map (Option.map (setE h))) [])=some os ∧
  ∃ R:T→List O→List O→Prop,z1Y P gl tb g ys os R∧∀ t ws os',R t ws os'→(ws.length<14∧ws.all O.zbs=true∧t.z2o ws.length=true∧os'.all O.plain=true∧z2N os os'=true) ∧
   K ⟨t.ren base,(z1s args []).map (fun z=>(z,none))++(z4q (z0O (args.map (Option.map (setE h))) []) os'++named base 0 ws),z1s args []++(named base 0 ws).map (·.1)⟩
def OptK {α:Type} (x:Option α) (K:α→Prop):Prop:=match x with
 | some e=>K e
 | none=>False
def GdK (x:Option Bool) (KT KF:Unit→Prop):Prop:=match x with
 | some true=>KT ()
 | some false=>KF ()
 | none=>False
def evR (op:Op) (base:Nat) (s:SF) (K:Eff→Prop):Prop:=
 match op with
 | .call {callee:= .value f,args:=args,argTypes:=ts}=>ziw P gl tb s.heap base (valOf gl s.env f) (args.toList.map fun x=>e? (valOf gl s.env x)) K
 | op=>OptK (ev P X0 base op (valOf gl s.env) s.heap) K
def z5I:List Oper→(SF→Prop)→SF→Prop
 | [],Q,s=>Q s
 | o::l,Q,s=>GdK (gdOf ops o s.env) (fun _=>if fits sz o.dst then evR P gl tb o.op (nm o.dst) s (fun e=>z5I l Q (z86 e o.dst s)) else False) (fun _=>if fits sz o.dst then z5I l Q ⟨putF o.dst .undef s.env,s.heap⟩ else False)
def Cont (l:List Oper) (Q:SF→Prop) (dst:Option Nat) (s:SF):Eff→Prop:=fun e=>z5I P gl tb sz ops l Q (z86 e dst s)
def ContT (o:Oper) (l:List Oper) (Q:SF→Prop) (s:SF):Unit→Prop:=fun _=>if fits sz o.dst then evR P gl tb o.op (nm o.dst) s (Cont P gl tb sz ops l Q o.dst s) else False
def ContF (o:Oper) (l:List Oper) (Q:SF→Prop) (s:SF):Unit→Prop:=fun _=>if fits sz o.dst then z5I P gl tb sz ops l Q ⟨putF o.dst .undef s.env,s.heap⟩ else False
def WpC (cd:Code) (Q:Ex→SF→Prop) (s:SF):Prop:=
 ∀ (c:Ctx),c.gl=gl→c.tb=tb→∀ a w,Rel c sz s a w→cd.wp P (fun e' a' w'=>∃ e s',e'=exOf e∧Q e s'∧Rel c sz s' a' w') a w
end
theorem zgb {P:Program} {gl:Nat→Option (List D)} {tb:World→Prop} {sz:Nat} {ops:Array Oper} {Q:SF→Prop} {s:SF}:z5I P gl tb sz ops [] Q s=Q s:=propext Iff.rfl
theorem wpOps_cons {P:Program} {gl:Nat→Option (List D)} {tb:World→Prop} {sz:Nat} {ops:Array Oper} {o:Oper} {l:List Oper} {Q:SF→Prop} {s:SF}:z5I P gl tb sz ops (o::l) Q s=GdK (gdOf ops o s.env) (ContT P gl tb sz ops o l Q s) (ContF P gl tb sz ops o l Q s):=propext Iff.rfl
theorem zeA {P:Program} {gl:Nat→Option (List D)} {tb:World→Prop} {sz:Nat} {ops:Array Oper} {o:Oper} {l:List Oper} {Q:SF→Prop} {s:SF} {u:Unit}:ContT P gl tb sz ops o l Q s u=if fits sz o.dst then evR P gl tb o.op (nm o.dst) s (Cont P gl tb sz ops l Q o.dst s) else False:=propext Iff.rfl
theorem zeB {P:Program} {gl:Nat→Option (List D)} {tb:World→Prop} {sz:Nat} {ops:Array Oper} {o:Oper} {l:List Oper} {Q:SF→Prop} {s:SF} {u:Unit}:ContF P gl tb sz ops o l Q s u=if fits sz o.dst then z5I P gl tb sz ops l Q ⟨putF o.dst .undef s.env,s.heap⟩ else False:=propext Iff.rfl
theorem z2f {α:Type} {e:α} {K:α→Prop}:OptK (some e) K=K e:=propext Iff.rfl
theorem zgW {α:Type} {K:α→Prop}:OptK none K=False:=propext Iff.rfl
theorem z9V {KT KF:Unit→Prop}:GdK (some true) KT KF=KT ():=propext Iff.rfl
theorem z7H {KT KF:Unit→Prop}:GdK (some false) KT KF=KF ():=propext Iff.rfl
theorem zm0 {P:Program} {gl:Nat→Option (List D)} {tb:World→Prop} {sz:Nat} {ops:Array Oper} {l:List Oper} {Q:SF→Prop} {dst:Option Nat} {s:SF} {e:Eff}:Cont P gl tb sz ops l Q dst s e=z5I P gl tb sz ops l Q (z86 e dst s):=propext Iff.rfl
section
variable {P:Program} {gl:Nat→Option (List D)} {tb:World→Prop} {sz:Nat} {ops:Array Oper}
theorem zgD {c:Ctx} {s:SF} {a:Act} {w':World} {dst:Option Nat} {e:Eff} {v:Value} {G:Gh} (hf:fits sz dst=true) (hd:a.defers=[]) (hsz:a.tmps.size=sz) (he:EnvR G s.env a.tmps) (hA:z17 c G s.heap e v w'):Rel c sz (z86 e dst s) (a.put dst v) w':=by
 obtain ⟨G',h1,h2,h3,h4⟩:=hA;refine ⟨by rw [z3J];exact hd,by rw [z6P];exact hsz,G',fun k t hk=>?_,by rw [zdh];exact h4⟩;rw [zg0] at hk;rw [z9E a dst v (by rw [hsz];exact hf)];by_cases hdk:dst=some k
 ·rw [if_pos hdk] at hk ⊢;injection hk with hk;subst hk;exact ⟨v,rfl,h3⟩
 ·rw [if_neg hdk] at hk ⊢;cases hl:s.env k with
  | none=>rw [hl] at hk;cases hk
  | some t0=>
   rw [hl] at hk;simp at hk;subst hk;obtain ⟨u,h5,h6⟩:=he k t0 hl;exact ⟨u,h5,h6.kill h1 h2⟩
theorem zgC {c:Ctx} {s:SF} {a:Act} {w:World} {dst:Option Nat} (hf:fits sz dst=true) (hR:Rel c sz s a w):Rel c sz ⟨putF dst .undef s.env,s.heap⟩ (a.put dst undef) w:=by
 obtain ⟨hd,hsz,G,he,hI⟩:=hR;refine ⟨by rw [z3J];exact hd,by rw [z6P];exact hsz,G,fun k t hk=>?_,hI⟩;rw [z9E a dst undef (by rw [hsz];exact hf)];cases dst with
 | none=>rw [if_neg (by simp)];exact he k t hk
 | some d=>
  simp only [putF] at hk;by_cases hdk:d=k
  ·rw [if_pos hdk] at hk;rw [if_pos (by rw [hdk])];injection hk with hk;subst hk;exact ⟨undef,rfl,rfl⟩
  ·rw [if_neg hdk] at hk;rw [if_neg (by simpa using hdk)];exact he k t hk
theorem zjM {c:Ctx} {base:Nat} {G:Gh} {h:Objs} {ρ:Operand→Option T} {a:Act} {w:World} {f:Operand} {args:Array Operand} {argTypes:Array TypeId} {o:Oper} {K:Eff→Prop} {KK:Act→World→Prop} {Q:Exit→Act→World→Prop} (hN:z1j P) (hI:Inv c G h w) (hρ:Rho G ρ a.eval) (hb16:base%16=0)
  (ho:o.op = .call {callee:= .value f,args:=args,argTypes:=argTypes}) (he:ziw P c.gl c.tb h base (ρ f) (args.toList.map fun x=>e? (ρ x)) K) (hK:∀ e v w',K e→z17 c G h e v w'→KK (a.put o.dst v) w'):o.wp P a w KK Q:=by
 obtain ⟨g,fn,ys,os,hf,hfn,hbody,hdis,hys,hos,R,hcR,hR⟩:=he;have hfv:=RT_v (hρ f _ hf);obtain ⟨im',hext,hI1,hset⟩:=hI.settle (z1s (args.toList.map fun x=>e? (ρ x)) []);have hnd:=z2P ((args.toList.map fun x=>e? (ρ x)).map (Option.map (setE h))) [] List.nodup_nil;have hos1:z1o P (fun p=>if p∈z1s (args.toList.map fun x=>e? (ρ x)) [] then none else h p) (z0O ((args.toList.map fun x=>e? (ρ x)).map (Option.map (setE h))) [])=some os:=by
  rw [←hos];refine z2R fun p hp=>?_
  rw [if_neg];intro hz;have:=List.any_eq_false.1 hdis p hz;exact this (by simpa using hp)
 have hargs:=z55 (G:=⟨im',G.loc⟩) (vs:=args.toList.map a.eval) hys (by simp) (fun j v x hv hx=>by
  rw [List.getElem?_map] at hv;rw [List.getElem?_map,List.getElem?_map] at hx;cases hp:args.toList[j]? with
  | none=>rw [hp] at hv;cases hv
  | some p=>
   rw [hp] at hv hx;simp at hv hx;subst hv;obtain ⟨y,hy,rfl⟩:=hx;exact zcu hI hext hset (fun q n s hq=>z3j _ _ _ (.inr ⟨y,n,s,List.mem_map.2 ⟨p,List.mem_of_getElem? hp,hy⟩,hq⟩)) (hρ p _ (e?_spec hy)))
 have hcall:=hcR c.W0 im' w (args.toList.map a.eval) _ _ (hI1.callee hnd hos1) hargs;have hnm:=hN g fn hfn;unfold Oper.wp execOp;simp only [ho,resolve,hfv,Deferred.ofValue,invoke,callFunc,Sem.run_bind,Sem.run_pure,Result.andThen_ok,run_program,hfn,hnm,Bool.false_eq_true,if_false,hbody];simp only [Oper.upon_enter];have hav:(#[]:Array Value)++Array.map a.eval args++#[]=(args.toList.map a.eval).toArray:=by
  apply Array.ext';simp
 rw [hav];refine hcall.mono ?_;rintro e w' ⟨t,ws,os',hRt,v,G',rfl,hr,hI'⟩;obtain ⟨⟨hlw,hws,ht,hpl,hty⟩,hKe⟩:=hR t ws os' hRt;exact hK _ v w' hKe (z17.settled hext (Inv.call hI1 hnd hos1 (z5S hty) hb16 hlw hws hpl ht hr hI'))
theorem evR_wp {c:Ctx} {base:Nat} {s:SF} {G:Gh} {a:Act} {w:World} {o:Oper} {K:Eff→Prop} {KK:Act→World→Prop} {Q:Exit→Act→World→Prop} (hN:z1j P) (hb16:base%16=0) (hI:Inv c G s.heap w) (hρ:Rho G (valOf c.gl s.env) a.eval)
  (h:evR P c.gl c.tb o.op base s K) (hK:∀ e v w',K e→z17 c G s.heap e v w'→KK (a.put o.dst v) w'):o.wp P a w KK Q:=by
 unfold evR at h;split at h
 ·rename_i f args ts hop;exact zjM hN hI hρ hb16 hop h hK
 ·cases he:ev P X0 base o.op (valOf c.gl s.env) s.heap with
  | none=>rw [he] at h;cases h
  | some e=>rw [he] at h;exact ev_wp hb16 hN z8o hI hρ he (fun v w' hA=>hK e v w' h hA)
theorem z4b {c:Ctx} (hN:z1j P):∀ (l:List Oper) (Q:SF→Prop) (s:SF),z5I P c.gl c.tb sz ops l Q s→∀ a w,Rel c sz s a w→∀ Qc:Exit→Act→World→Prop,(∀ s' a w,Q s'→Rel c sz s' a w→Qc .normal a w)→wpList P ops Qc l a w
 | [],Q,s,h=>fun a w hR Qc hQ=>hQ s a w h hR
 | o::l,Q,s,h=>fun a w hR Qc hQc=>by
  rw [wpOps_cons] at h;have hR2:=hR;obtain ⟨hd,hsz,G,he,hI⟩:=hR2;cases hg:gdOf ops o s.env with
  | none=>rw [hg] at h;cases h
  | some b=>
   rw [hg] at h;cases b with
   | true=>
    rw [z9V,zeA] at h;split at h
    ·rename_i hf;refine wpList_step fun K hKK=>?_
     rw [zcZ he hg];simp only [if_true];exact evR_wp hN (nm_16 _) hI (zgv hI he) h (fun e v w' hKe hA=>hKK _ _ (z4b hN l Q _ hKe _ _ (zgD hf hd hsz he hA) Qc hQc))
    ·cases h
   | false=>
    rw [z7H,zeB] at h;split at h
    ·rename_i hf;refine wpList_step fun K hKK=>?_
     rw [zcZ he hg];simp only [Bool.false_eq_true,if_false];exact hKK _ _ (z4b hN l Q _ h _ _ (zgC hf hR) Qc hQc)
    ·cases h
theorem zca (hN:z1j P) (l:List Oper) (Q:SF→Prop) (s:SF) (h:z5I P gl tb sz ops l Q s) (c:Ctx) (h1:c.gl=gl) (h2:c.tb=tb) (a:Act) (w:World) (hR:Rel c sz s a w) (Qc:Exit→Act→World→Prop) (hQ:∀ s' a w,Q s'→Rel c sz s' a w→Qc .normal a w):wpList P ops Qc l a w:=by
 subst h1;subst h2;exact z4b hN l Q s h a w hR Qc hQ
theorem z04 {Q:Ex→SF→Prop} {s:SF} (h:Q .normal s):WpC P gl tb sz .skip Q s:=fun c _ _ a w hR=>wp_skip ⟨_,_,rfl,h,hR⟩
theorem z06 {Q:Ex→SF→Prop} {s:SF} {id:Nat} (h:Q (.exit id) s):WpC P gl tb sz (.exit id) Q s:=fun c _ _ a w hR=>wp_exit ⟨.exit id,_,rfl,h,hR⟩
theorem z07 {Q:Ex→SF→Prop} {s:SF} (h:Q .ret s):WpC P gl tb sz .ret Q s:=fun c _ _ a w hR=>wp_ret ⟨.ret,_,rfl,h,hR⟩
theorem z8r (hN:z1j P) {Q:Ex→SF→Prop} {s:SF} {id:Nat} (h:z5I P gl tb sz ops ops.toList (Q .normal) s):WpC P gl tb sz (.region id ops false) Q s:=
 fun c h1 h2 a w hR=>wp_region_list (zca hN _ _ _ h c h1 h2 a w hR _ fun s' a w hq hR=>⟨.normal,s',rfl,hq,hR⟩)
theorem z08 (hN:z1j P) {Q:Ex→SF→Prop} {s:SF} {id:Nat} (h:∀ Q',Q'=Q→z5I P gl tb sz ops ops.toList (Q' .normal) s):WpC P gl tb sz (.region id ops false) Q s:=z8r hN (h Q rfl)
def snap (ks hs:List Nat) (s:SF):S:=⟨ks.filterMap fun k=>(s.env k).map fun t=>(k,t),hs.filterMap fun k=>(s.heap k).map fun t=>(k,t)⟩
theorem z4y {α:Type} {env:Nat→Option α}:∀ (ks:List Nat) (k:Nat) (t:α),look (ks.filterMap fun k=>(env k).map fun t=>(k,t)) k=some t→env k=some t
 | [],k,t,h=>by simp [look] at h
 | i::ks,k,t,h=>by
  rw [List.filterMap_cons] at h;cases hi:env i with
  | none=>rw [hi] at h;exact z4y ks k t h
  | some u=>
   rw [hi] at h;simp only [Option.map_some,look] at h;split at h
   ·rename_i e;rw [←e,hi];exact h
   ·exact z4y ks k t h
theorem Inv.sub' {c:Ctx} {G:Gh} {h h':Objs} {w:World} (hI:Inv c G h w) (hs:∀ p o,h' p=some o→h p=some o):Inv c G h' w:=
 ⟨hI.tb,hI.base,hI.chb,hI.below,hI.imw,hI.imx,hI.imo,hI.pas,hI.glob,fun p o hp=>hI.obj p o (hs p o hp),fun p q o o' b hp hq=>hI.sep p q o o' b (hs p o hp) (hs q o' hq)⟩
theorem zj1 {c:Ctx} {ks hs:List Nat} {s:SF} {a:Act} {w:World} (hR:Rel c sz s a w):RelS c sz (snap ks hs s) a w:=by
 obtain ⟨h1,h2,G,h3,h4⟩:=hR;exact ⟨h1,h2,G,fun k t hk=>h3 k t (z4y ks k t hk),h4.sub' fun p o hp=>z4y hs p o hp⟩
theorem ziD (hm:P.follows .mixedOrders=true) (hN:z1j P) {Q:Ex→SF→Prop} {s:SF} {id:Nat} (ks hs:List Nat) {X:z1F} (hX:z1J P gl tb X) {s1:S} (h:z4e P gl X sz ops true (snap ks hs s)=some s1) (hQ:Q .normal ⟨look s1.env,look s1.heap⟩):WpC P gl tb sz (.region id ops true) Q s:=
 fun c h1 h2 a w hR=>by
  subst h1;subst h2;exact zaX hm hN hX h (zj1 (ks:=ks) (hs:=hs) hR) fun a w h=>⟨.normal,_,rfl,hQ,h⟩
def zkb (ops:Array Oper) (Q:Ex→SF→Prop):S×List Log→Prop:=fun r=>z2l ops r.2=true∧Q .normal ⟨look r.1.env,look r.1.heap⟩
theorem z1I {Q:Ex→SF→Prop} {s1:S} {gs:List Log}:zkb ops Q (s1,gs)=(z2l ops gs=true∧Q .normal ⟨look s1.env,look s1.heap⟩):=propext Iff.rfl
theorem z1f (hm:P.follows .mixedOrders=true) (hN:z1j P) {Q:Ex→SF→Prop} {s:SF} {id:Nat} (ks hs:List Nat) {X:z1F} (hX:z1J P gl tb X) (hd:zbI ops=true) (h:∀ Q',Q'=Q→OptK (z1n P gl X sz ops ops.toList (snap ks hs s)) (zkb ops Q')):WpC P gl tb sz (.region id ops true) Q s:=by
 have h:=h Q rfl;cases hr:z1n P gl X sz ops ops.toList (snap ks hs s) with
 | none=>rw [hr] at h;cases h
 | some r=>
  obtain ⟨s1,gs⟩:=r;rw [hr] at h;refine ziD hm hN ks hs hX (s1:=s1) ?_ h.2;have h1:z2l ops gs=true:=h.1;simp only [z4e,if_true,hr,h1,hd,Bool.and_self]
def SeqK (P:Program) (gl:Nat→Option (List D)) (tb:World→Prop) (sz:Nat) (b:Code) (Q:Ex→SF→Prop):Ex→SF→Prop:=fun e s=>
 match e with
 | .normal=>WpC P gl tb sz b Q s
 | e=>Q e s
theorem z0b {x y:Code} {Q:Ex→SF→Prop} {s:SF} (h:WpC P gl tb sz x (SeqK P gl tb sz y Q) s):WpC P gl tb sz (.seq x y) Q s:=fun c h1 h2 a w hR=>by
 refine wp_seq (Code.wp_mono ?_ (h c h1 h2 a w hR));rintro e' a' w' ⟨e,s1,rfl,hQ,hR1⟩;cases e with
 | normal=>exact hQ c h1 h2 a' w' hR1
 | exit id=>exact ⟨.exit id,s1,rfl,hQ,hR1⟩
 | ret=>exact ⟨.ret,s1,rfl,hQ,hR1⟩
theorem zkR {cd:Code} {Q R:Ex→SF→Prop} {s:SF} (h:WpC P gl tb sz cd R s) (hQ:∀ e s',R e s'→Q e s'):WpC P gl tb sz cd Q s:=fun c h1 h2 a w hR=>by
 refine Code.wp_mono ?_ (h c h1 h2 a w hR);rintro e' a' w' ⟨e,s1,rfl,hq,hR1⟩;exact ⟨e,s1,rfl,hQ e s1 hq,hR1⟩
def CutK (R:SF→Prop) (Q:Ex→SF→Prop):Ex→SF→Prop:=fun e s=>
 match e with
 | .normal=>R s
 | e=>Q e s
theorem z01 {R:SF→Prop} {Q:Ex→SF→Prop} {s:SF}:CutK R Q .normal s=R s:=propext Iff.rfl
theorem zbT {R:SF→Prop} {Q:Ex→SF→Prop} {s:SF} {id:Nat}:CutK R Q (.exit id) s=Q (.exit id) s:=propext Iff.rfl
theorem zez {R:SF→Prop} {Q:Ex→SF→Prop} {s:SF}:CutK R Q .ret s=Q .ret s:=propext Iff.rfl
theorem z2v (R:SF→Prop) {x y:Code} {Q:Ex→SF→Prop} {s:SF} (h:WpC P gl tb sz x (CutK R Q) s) (k:∀ s',R s'→WpC P gl tb sz y Q s'):WpC P gl tb sz (.seq x y) Q s:=by
 refine z0b (zkR h fun e s1 hQ=>?_);cases e with
 | normal=>exact k s1 hQ
 | exit id=>exact hQ
 | ret=>exact hQ
theorem zgl {g:FuncId} {ys:List E} {os:List O} {t:T} {ws os':List O} (hc:z0M P gl tb g ys os t ws os'):z1J P gl tb (tabX [(g,ys,os,t,ws,os')]):=by
 intro g' a' o' t' ws' os'' hx;simp only [tabX] at hx;split at hx
 ·rename_i hh;obtain ⟨rfl,rfl,rfl⟩:=hh;simp only [Option.some.injEq,Prod.mk.injEq] at hx;obtain ⟨rfl,rfl,rfl⟩:=hx;exact hc
 ·cases hx
theorem Rel.bool {c:Ctx} {s:SF} {a:Act} {w:World} {cc:Operand} {b:Bool} (hR:Rel c sz s a w) (hb:bool? (valOf c.gl s.env cc)=some b):a.eval cc = .bool b:=by
 obtain ⟨_,_,G,h3,h4⟩:=hR;exact RT_v (zgv h4 h3 cc _ (bool?_spec hb))
theorem ziB {cc:Operand} {x y:Code} {Q:Ex→SF→Prop} {s:SF} (hb:bool? (valOf gl s.env cc)=some true) (h:WpC P gl tb sz x Q s):WpC P gl tb sz (.cond cc x y) Q s:=
 fun c h1 h2 a w hR=>wp_cond_true (hR.bool (by rw [h1];exact hb)) (h c h1 h2 a w hR)
theorem zgc {cc:Operand} {x y:Code} {Q:Ex→SF→Prop} {s:SF} (hb:bool? (valOf gl s.env cc)=some false) (h:WpC P gl tb sz y Q s):WpC P gl tb sz (.cond cc x y) Q s:=
 fun c h1 h2 a w hR=>wp_cond_false (hR.bool (by rw [h1];exact hb)) (h c h1 h2 a w hR)
def zdm (P:Program) (gl:Nat→Option (List D)) (tb:World→Prop) (sz:Nat) (x y:Code) (Q:Ex→SF→Prop) (s:SF):Bool→Prop:=fun b=>
 match b with
 | true=>WpC P gl tb sz x Q s
 | false=>WpC P gl tb sz y Q s
theorem zfV {x y:Code} {Q:Ex→SF→Prop} {s:SF}:zdm P gl tb sz x y Q s true=WpC P gl tb sz x Q s:=propext Iff.rfl
theorem zda {x y:Code} {Q:Ex→SF→Prop} {s:SF}:zdm P gl tb sz x y Q s false=WpC P gl tb sz y Q s:=propext Iff.rfl
theorem z1B {cc:Operand} {x y:Code} {Q:Ex→SF→Prop} {s:SF} (h:∀ Q',Q'=Q→OptK (bool? (valOf gl s.env cc)) (zdm P gl tb sz x y Q' s)):WpC P gl tb sz (.cond cc x y) Q s:=by
 have h:=h Q rfl;cases hb:bool? (valOf gl s.env cc) with
 | none=>rw [hb] at h;cases h
 | some b=>
  rw [hb] at h;cases b with
  | true=>exact ziB hb h
  | false=>exact zgc hb h
def BlkK (id:Nat) (Q:Ex→SF→Prop):Ex→SF→Prop:=fun e s=>
 match e with
 | .exit id'=>if id'=id then Q .normal s else Q (.exit id') s
 | e=>Q e s
theorem z6Z {id:Nat} {b:Code} {Q:Ex→SF→Prop} {s:SF} (h:WpC P gl tb sz b (BlkK id Q) s):WpC P gl tb sz (.block id b) Q s:=fun c h1 h2 a w hR=>by
 refine wp_block (Code.wp_mono ?_ (h c h1 h2 a w hR));rintro e' a' w' ⟨e,s1,rfl,hQ,hR1⟩;cases e with
 | normal=>exact ⟨.normal,s1,rfl,hQ,hR1⟩
 | ret=>exact ⟨.ret,s1,rfl,hQ,hR1⟩
 | exit id' =>
  show if id'=id then _ else _
  by_cases hid:id'=id
  ·simp only [BlkK,if_pos hid] at hQ;rw [if_pos hid];exact ⟨.normal,s1,rfl,hQ,hR1⟩
  ·simp only [BlkK,if_neg hid] at hQ;rw [if_neg hid];exact ⟨.exit id',s1,rfl,hQ,hR1⟩
def ziv (I:Nat→SF→Prop) (k:Nat) (Q:Ex→SF→Prop):Ex→SF→Prop:=fun e s=>
 match e with
 | .normal=>∃ j,j<k∧I j s
 | e=>Q e s
theorem z3y {b:Code} {Q:Ex→SF→Prop} {s:SF} (I:Nat→SF→Prop) (n:Nat) (h0:I n s) (step:∀ k s,I k s→WpC P gl tb sz b (ziv I k Q) s):WpC P gl tb sz (.loop b) Q s:=fun c h1 h2 a w hR=>by
 have more:∀ (n m:Nat) (a:Act) (w:World),n≤m→Code.rounds P b (fun e' a' w'=>∃ e s',e'=exOf e∧Q e s'∧Rel c sz s' a' w') n a w→Code.rounds P b (fun e' a' w'=>∃ e s',e'=exOf e∧Q e s'∧Rel c sz s' a' w') m a w:=by
  intro n;induction n with
  | zero=>intro m a w _ h;exact h.elim
  | succ n ih=>
   intro m a w hle h;match m,hle with
   | m+1,hle=>
    rw [rounds_succ] at h ⊢;refine Code.wp_mono ?_ h;intro e' a' w' hh;cases e' with
    | normal=>exact ih m a' w' (by omega) hh
    | _=>exact hh
 have key:∀ (n:Nat) (s:SF) (a:Act) (w:World),I n s→Rel c sz s a w→Code.rounds P b (fun e' a' w'=>∃ e s',e'=exOf e∧Q e s'∧Rel c sz s' a' w') (n+1) a w:=by
  intro n;induction n using Nat.strongRecOn with
  | ind n ih=>
   intro s a w hI hR;rw [rounds_succ];refine Code.wp_mono ?_ (step n s hI c h1 h2 a w hR);rintro e' a' w' ⟨e,s1,rfl,hQ,hR1⟩;cases e with
   | normal=>
    obtain ⟨j,hj,hI1⟩:=hQ;exact more (j+1) n a' w' (by omega) (ih j hj s1 a' w' hI1 hR1)
   | exit id=>exact ⟨.exit id,s1,rfl,hQ,hR1⟩
   | ret=>exact ⟨.ret,s1,rfl,hQ,hR1⟩
 exact wp_loop_rounds (n+1) (key n s a w h0 hR)
theorem z0M.toR {g:FuncId} {args:List E} {os:List O} {t:T} {ws os':List O} (h:z0M P gl tb g args os t ws os'):z1Y P gl tb g args os (fun t' ws' os''=>t'=t∧ws'=ws∧os''=os'):=fun W0 im w vals ch lo hI hargs=>
 (h W0 im w vals ch lo hI hargs).mono fun _ _ hp=>⟨t,ws,os',⟨rfl,rfl,rfl⟩,hp⟩
theorem zfK {h:Objs} {base:Nat} {f:FuncId} {fn:Func} {args:List (Option E)} {K:Eff→Prop} {ys:List E} {R:T→Prop} (hf:P.funcs[f]? = some fn) (hb:fn.body.isNone=false)
  (hs:z1s args []=[]) (hp:z0O (args.map (Option.map (setE h))) []=[]) (ha:z23 P [] fn.params.toList (args.map (Option.map (setE h)))=some ys) (hc:z1Y P gl tb f ys [] (fun t ws os'=>R t∧ws=[]∧os'=[])) (hK:∀ t,R t→t.z2o 0=true∧t.ren base=t∧K ⟨t,[],[]⟩):
  ziw P gl tb h base (some (.e (.one (.d (.leaf (.func (.func f) #[] #[])))))) args K:=by
 refine ⟨f,fn,ys,[],rfl,hf,hb,by rw [hs];rfl,by rw [hp];exact ha,by rw [hp];rfl,_,hc,?_⟩;rintro t ws os' ⟨hR,rfl,rfl⟩;obtain ⟨h1,h2,h3⟩:=hK t hR;refine ⟨⟨by simp,rfl,h1,rfl,rfl⟩,?_⟩;rw [hs,hp,h2];exact h3
theorem z0m {h:Objs} {base:Nat} {f:FuncId} {fn:Func} {args:List (Option E)} {K:Eff→Prop} {ys:List E} {t:T} (hf:P.funcs[f]? = some fn) (hb:fn.body.isNone=false)
  (hs:z1s args []=[]) (hp:z0O (args.map (Option.map (setE h))) []=[]) (ha:z23 P [] fn.params.toList (args.map (Option.map (setE h)))=some ys) (hc:z0M P gl tb f ys [] t [] []) (ht:t.z2o 0=true) (hr:t.ren base=t) (hK:K ⟨t,[],[]⟩):
  ziw P gl tb h base (some (.e (.one (.d (.leaf (.func (.func f) #[] #[])))))) args K:=
 zfK (R:=fun t'=>t'=t) hf hb hs hp ha (fun W0 im w vals ch lo hI hargs=>(hc.toR W0 im w vals ch lo hI hargs).mono fun _ _ ⟨t',ws,os',hh,hp⟩=>⟨t',ws,os',hh,hp⟩) fun t' e=>by subst e;exact ⟨ht,hr,hK⟩
def z6v (args:List E):Nat→Option T:=fun k=>(args[k]?).map .e
def EndK (P:Program) (own:Bool) (rs:List ResultVar) (ts:List TypeId) (os:List O) (R:T→List O→List O→Prop):Ex→SF→Prop:=fun e s=>
 match e with
 | .exit _=>False
 | _=>match z8f P s.env s.heap rs with
  | some xs=>match z2A P (minus (z1s (xs.map some) []) s.heap) 0 os with
   | some os'=>R (tupT (z5u P own (if own then minus (z1s (xs.map some) []) s.heap else fun _=>none) ts (xs.map (setE s.heap)) ⟨[],[]⟩).1) (z5u P own (if own then minus (z1s (xs.map some) []) s.heap else fun _=>none) ts (xs.map (setE s.heap)) ⟨[],[]⟩).2.os os'
   | none=>False
  | none=>False
theorem z4J (own:Bool) {g:FuncId} {fn:Func} {cd:Code} {args:List E} {os:List O} {R:T→List O→List O→Prop} (hfn:P.funcs[g]? = some fn) (hb:fn.body=some cd) (hlen:args.length≤fn.ntmps)
  (h:WpC P gl tb fn.ntmps cd (EndK P own fn.results.toList fn.resultTypes.toList os R) ⟨z6v args,z1P os⟩):z1Y P gl tb g args os R:=by
 intro W0 im w vals ch lo hI hargs;have hvl:vals.length=args.length:=hargs.1;have hRel:Rel ⟨W0,w,im,gl,tb,ch,lo⟩ fn.ntmps ⟨z6v args,z1P os⟩ {tmps:=vals.toArray++Array.replicate (fn.ntmps-vals.toArray.size) undef,defers:=[]} w:=by
  refine ⟨rfl,by simp;omega,⟨im,locP lo⟩,fun k t hk=>?_,hI⟩;simp only [z6v] at hk;cases h2:args[k]? with
  | none=>rw [h2] at hk;cases hk
  | some x=>
   rw [h2] at hk;simp at hk;subst hk;have hk2:k<vals.length:=by rw [hvl];exact (List.getElem?_eq_some_iff.1 h2).1
   refine ⟨vals[k],?_,hargs.2 k _ x (List.getElem?_eq_getElem hk2) h2⟩;rw [Array.getElem?_append_left (by simpa using hk2)];simp [hk2]
 refine calls_of_wp hfn hb ?_;refine Code.wp_mono ?_ (h ⟨W0,w,im,gl,tb,ch,lo⟩ rfl rfl _ _ hRel);rintro e' a' w' ⟨e,s,rfl,hQ,hd,hsz,G,he,hI'⟩;have hfin:(match z8f P s.env s.heap fn.results.toList with
   | some xs=>match z2A P (minus (z1s (xs.map some) []) s.heap) 0 os with
    | some os'=>R (tupT (z5u P own (if own then minus (z1s (xs.map some) []) s.heap else fun _=>none) fn.resultTypes.toList (xs.map (setE s.heap)) ⟨[],[]⟩).1) (z5u P own (if own then minus (z1s (xs.map some) []) s.heap else fun _=>none) fn.resultTypes.toList (xs.map (setE s.heap)) ⟨[],[]⟩).2.os os'
    | none=>False
   | none=>False)→a'.defers=[]∧∃ v,(results fn a'.tmps).run P w' = .ok v w'∧∃ t ws os',R t ws os'∧zao ⟨W0,w,im,gl,tb,ch,lo⟩ t ws os' (.returned v) w':=by
  intro h2;cases hres:z8f P s.env s.heap fn.results.toList with
  | none=>rw [hres] at h2;cases h2
  | some xs=>
   rw [hres] at h2;simp only at h2;cases hpe:z2A P (minus (z1s (xs.map some) []) s.heap) 0 os with
   | none=>rw [hpe] at h2;cases h2
   | some os' =>
    rw [hpe] at h2;simp only at h2;obtain ⟨vs,hrun,hre⟩:=zaW hI' he hres;refine ⟨hd,_,zcx hrun,_,_,_,h2,?_⟩;obtain ⟨im',hext,hI1,hset⟩:=hI'.settle (z1s (xs.map some) []);have hre1:=hre.setE hI' hext hset (fun x p n s hx hs=>z3j _ _ _ (.inr ⟨x,n,s,List.mem_map.2 ⟨x,hx,rfl⟩,hs⟩));have hok0:z6F (if own then minus (z1s (xs.map some) []) s.heap else fun _=>none) ⟨[],[]⟩:=⟨rfl,List.nodup_nil,fun i q o hi=>by simp at hi⟩;obtain ⟨h1,_,h3⟩:=z8N (P:=P) (G:=⟨im',G.loc⟩) (xs.map (setE s.heap)) fn.resultTypes.toList ⟨[],[]⟩ hok0;refine ⟨_,outG ⟨im',G.loc⟩ (z5u P own (if own then minus (z1s (xs.map some) []) s.heap else fun _=>none) fn.resultTypes.toList (xs.map (setE s.heap)) ⟨[],[]⟩).2,rfl,zkW (h3 vs _ (Out.le_refl _) hre1),?_⟩;refine zlt hI1 h1 (fun q o hq=>?_) hpe;cases own with
    | true=>exact hq
    | false=>simp at hq
 cases e with
 | normal=>exact hfin hQ
 | exit id=>exact hQ.elim
 | ret=>exact hfin hQ
theorem z0k {g:FuncId} {fn:Func} {cd:Code} {args:List E} {t:T} (hfn:P.funcs[g]? = some fn) (hb:fn.body=some cd) (hlen:args.length≤fn.ntmps)
  (h:WpC P gl tb fn.ntmps cd (EndK P false fn.results.toList fn.resultTypes.toList [] (fun t' ws os'=>t'=t∧ws=[]∧os'=[])) ⟨z6v args,fun _=>none⟩):z0M P gl tb g args [] t [] []:=by
 have e:(fun _=>none:Objs)=z1P []:=by funext p;unfold z1P;simp
 rw [e] at h;exact fun W0 im w vals ch lo hI hargs=>(z4J false hfn hb hlen h W0 im w vals ch lo hI hargs).mono (by
  rintro e w' ⟨t',ws,os',⟨rfl,rfl,rfl⟩,hp⟩;exact hp)
end
end Am
end Go.Proofs.YtgmppconibklcaaGreatDoor

