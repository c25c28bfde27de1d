/- Part of the proof of TspBack. No condition: lemmas alone. -/
import Derived.Test.YtgmppconibklcaaGreatDoorM1
import Derived.Orders
import Derived.Test.YtgmppconibklcaaGreatDoorM4
set_option linter.unusedVariables false
set_option linter.unusedSimpArgs false
namespace Go.Proofs.YtgmppconibklcaaGreatDoor
open Go Go.RowKit
namespace Am
abbrev Env:=List (Nat×T)
abbrev Heap:=List (Nat×O)
structure S where
 env:Env
 heap:Heap
def look {α:Type}:List (Nat×α)→Nat→Option α
 | [],_=>none
 | (i,t)::r,k=>if i=k then some t else look r k
def z3T {α:Type} (p:Nat):List (Nat×α)→List (Nat×α)
 | []=>[]
 | (i,o)::r=>if i=p then z3T p r else (i,o)::z3T p r
def setL (l:Heap) (u:Nat×Option O):Heap:=
 match u.2 with
 | some o=>(u.1,o)::z3T u.1 l
 | none=>z3T u.1 l
def z1v (ks:List Nat):Env→Env
 | []=>[]
 | (i,t)::r=>(i,t.kill ks)::z1v ks r
def z0Y (ks:List Nat):Heap→Heap
 | []=>[]
 | (i,o)::r=>(i,o.kill ks)::z0Y ks r
def putE (dst:Option Nat) (t:T) (env:Env):Env:=
 match dst with
 | some d=>(d,t)::env
 | none=>env
def apply (e:Eff) (dst:Option Nat) (s:S):S:=
 match e.kills with
 | []=>⟨putE dst e.t s.env,e.ups.foldl setL s.heap⟩
 | ks=>⟨putE dst e.t (z1v ks s.env),e.ups.foldl setL (z0Y ks s.heap)⟩
def valOf (gl:Nat→Option (List D)) (env:Nat→Option T):Operand→Option T
 | .tmp t=>env t
 | .const v=>(z9i v).map .e
 | .func f=>some (.v (.func (.func f) #[] #[]))
 | .global g=>(gl g).map fun l=> .e (.one (.ep l))
def gdOf (ops:Array Oper) (o:Oper) (env:Nat→Option T):Option Bool:=
 match o.guard with
 | none=>some true
 | some (j,want)=>match (ops[j]?).bind (·.dst) with
  | none=>some false
  | some d=>match env d with
   | some (.e (.one (.d (.leaf (.bool b)))))=>some (b==want)
   | some .undef=>some false
   | _=>none
def nm (dst:Option Nat):Nat:=match dst with
 | some d=>d*16
 | none=>0
def fits (sz:Nat) (dst:Option Nat):Bool:=match dst with
 | some d=>decide (d<sz)
 | none=>true
section
variable (P:Program) (gl:Nat→Option (List D)) (X:z1F) (sz:Nat)
def zcq (ops:Array Oper) (o:Oper) (s:S):Option S:=
 match gdOf ops o (look s.env) with
 | some true=>if fits sz o.dst then (ev P X (nm o.dst) o.op (valOf gl (look s.env)) (look s.heap)).map fun e=>apply e o.dst s else none
 | some false=>if fits sz o.dst then some ⟨putE o.dst .undef s.env,s.heap⟩ else none
 | none=>none
def zaS (ops:Array Oper):List Oper→S→Option S
 | [],s=>some s
 | o::r,s=>match zcq P gl X sz ops o s with
  | some s'=>zaS ops r s'
  | none=>none
structure Log where
 vals:List T
 objs:List O
 rd:List Nat
 eff:Eff
def rdOf (op:Op) (ρ:Operand→Option T):List Nat:=
 match op with
 | .load _ a=>match ρ a with
  | some (.e (.one (.ref p _)))=>[p]
  | _=>[]
 | .store _ a _=>match ρ a with
  | some (.e (.one (.ref p _)))=>[p]
  | _=>[]
 | .call cl=>match cl.callee,cl.args.toList with
  | .builtin .append,[x,_]=>match ρ x with
   | some (.e (.one (.gr q _ _)))=>[q]
   | _=>[]
  | .value _,args=>z1s (args.map fun x=>e? (ρ x)) []++z0O (args.map fun x=>e? (ρ x)) []
  | _,_=>[]
 | _=>[]
def z3s (o:Oper) (s:S) (e:Eff):Log:=
 ⟨o.op.operands.toList.filterMap (valOf gl (look s.env)),(rdOf o.op (valOf gl (look s.env))).filterMap (look s.heap),rdOf o.op (valOf gl (look s.env)),e⟩
def z3D (ops:Array Oper) (o:Oper) (s:S):Option (S×Log):=
 match gdOf ops o (look s.env) with
 | some true=>if fits sz o.dst then match ev P X (nm o.dst) o.op (valOf gl (look s.env)) (look s.heap) with
   | some e=>some (apply e o.dst s,z3s gl o s e)
   | none=>none
  else none
 | some false=>if fits sz o.dst then some (⟨putE o.dst .undef s.env,s.heap⟩,⟨[],[],[],⟨.undef,[],[]⟩⟩) else none
 | none=>none
def z1n (ops:Array Oper):List Oper→S→Option (S×List Log)
 | [],s=>some (s,[])
 | o::r,s=>match z3D P gl X sz ops o s with
  | some (s',g)=>match z1n ops r s' with
   | some (s'',gs)=>some (s'',g::gs)
   | none=>none
  | none=>none
end
def C.men (ks:List Nat):C→Bool
 | .gr q _ _=>ks.contains q
 | .ref p _=>ks.contains p
 | .sl p _ _=>ks.contains p
 | .dead=>true
 | _=>false
def E.men (ks:List Nat) (x:E):Bool:=x.cells.any (C.men ks)
def T.men (ks:List Nat):T→Bool
 | .e x=>x.men ks
 | .tup xs=>xs.any (E.men ks)
 | .undef=>false
def O.men (ks:List Nat):O→Bool
 | .var _ cs=>cs.any (C.men ks)
 | .own _ _ _=>false
def z4I (ks:List Nat) (u:Nat×Option O):Bool:=match u.2 with
 | some o=>o.men ks
 | none=>false
def Log.men (ks:List Nat) (g:Log):Bool:=match ks with
 | []=>false
 | _=>g.vals.any (T.men ks)||g.objs.any (O.men ks)||g.eff.t.men ks||g.eff.ups.any (z4I ks)
def meet (a b:List Nat):Bool:=a.any fun x=>b.contains x
def z1N (a b:Log):Bool:=
 !meet (a.eff.ups.map (·.1)) b.rd&&!meet (a.eff.ups.map (·.1)) (b.eff.ups.map (·.1))&&!meet (b.eff.ups.map (·.1)) a.rd&&!b.men a.eff.kills&&!a.men b.eff.kills
def z8n:List Oper→List Nat→List Nat
 | [],acc=>acc
 | o::r,acc=>z8n r (acc++[o.after.toList.foldl (fun s e=>if Region.binds .any e then s|||2^e.on|||acc.getD e.on 0 else s) 0])
def ancs (ops:Array Oper):List Nat:=z8n ops.toList []
def ahead (t:List Nat) (i j:Nat):Bool:=(t.getD j 0).testBit i
def z1A (t:List Nat) (i:Nat) (a:Log):Nat→List Log→Bool
 | _,[]=>true
 | j,b::r=>(ahead t i j||z1N a b)&&z1A t i a (j+1) r
def z1a (t:List Nat):Nat→List Log→Bool
 | _,[]=>true
 | i,a::r=>z1A t i a (i+1) r&&z1a t (i+1) r
def z2l (ops:Array Oper) (gs:List Log):Bool:=z1a (ancs ops) 0 gs
def z6V (ops:Array Oper) (t:List Nat) (i:Nat) (a:Oper):Nat→List Oper→Bool
 | _,[]=>true
 | j,b::r=>(ahead t i j||Oper.apart ops a b)&&z6V ops t i a (j+1) r
def z5H (ops:Array Oper) (t:List Nat):Nat→List Oper→Bool
 | _,[]=>true
 | i,a::r=>z6V ops t i a (i+1) r&&z5H ops t (i+1) r
def z9Y:Nat→List Oper→Bool
 | _,[]=>true
 | i,o::r=>(o.after.all fun e=>!Region.binds .any e||decide (e.on<i))&&z9Y (i+1) r
def zbI (ops:Array Oper):Bool:=z9Y 0 ops.toList&&z5H ops (ancs ops) 0 ops.toList
inductive Ex where
 | normal
 | exit (id:Nat)
 | ret
def restrict (ks:Option (List Nat)) (s:S):S:=
 match ks with
 | none=>s
 | some ks=>⟨ks.filterMap fun k=>(look s.env k).map fun t=>(k,t),s.heap⟩
def iter (f:S→Option (Ex×S)):Nat→S→Option (Ex×S)
 | 0,_=>none
 | n+1,s=>match f s with
  | some (.normal,s')=>iter f n s'
  | r=>r
section
variable (P:Program) (gl:Nat→Option (List D)) (X:z1F) (sz:Nat) (lv:Nat→Option (List Nat)) (F:Nat)
def z4e (ops:Array Oper) (draw:Bool) (s:S):Option S:=
 if draw then match z1n P gl X sz ops ops.toList s with
  | some (s',gs)=>if z2l ops gs&&zbI ops then some s' else none
  | none=>none
 else zaS P gl X sz ops ops.toList s
def z4V:Code→S→Option (Ex×S)
 | .skip,s=>some (.normal,s)
 | .region id ops draw,s=>match z4e P gl X sz ops draw (restrict (lv id) s) with
  | some s'=>some (.normal,s')
  | none=>none
 | .seq a b,s=>match z4V a s with
  | some (.normal,s')=>z4V b s'
  | r=>r
 | .cond c a b,s=>match bool? (valOf gl (look s.env) c) with
  | some true=>z4V a s
  | some false=>z4V b s
  | none=>none
 | .block id b,s=>match z4V b s with
  | some (.exit id',s')=>if id'=id then some (.normal,s') else some (.exit id',s')
  | r=>r
 | .loop b,s=>iter (z4V b) F s
 | .exit id,s=>some (.exit id,s)
 | .ret,s=>some (.ret,s)
 | .label _,s=>some (.normal,s)
 | _,_=>none
def resE (env:Nat→Option T) (h:Nat→Option O):ResultVar→Option E
 | .tmp t=>match env t with
  | some (.e x)=>some x
  | _=>none
 | .cell a ty=>match env a with
  | some (.e (.one c))=>z2j P h ty c
  | _=>none
def z8f (env:Nat→Option T) (h:Nat→Option O):List ResultVar→Option (List E)
 | []=>some []
 | r::rs=>match resE P env h r with
  | some x=>(z8f env h rs).map (x::·)
  | none=>none
end
structure Out where
 used:List Nat
 os:List O
def outC (kn:Bool) (h:Nat→Option O) (z:Option Nat) (c:C) (u:Out):C×Out:=
 match c with
 | .gr q s l=>if u.used.contains q then (.d (.row s l),u) else match h q with
  | some (.own e s' n)=>(.gr (u.os.length*16+14) s l,⟨u.used++[q],u.os++[.own e s' n]⟩)
  | _=>(.d (.row s l),u)
 | .ref _ _=>(.dead,u)
 | .sl _ _ _=>(.dead,u)
 | .nilS=>if kn then (.nilS,u) else (C.fz z .nilS,u)
 | c=>(c.fz z,u)
def z9H (kn:Bool) (h:Nat→Option O):List (Option Nat)→List C→Out→List C×Out
 | _,[],u=>([],u)
 | zs,c::cs,u=>
  let r:=outC kn h (zs.headD none) c u
  let t:=z9H kn h zs.tail cs r.2
  (r.1::t.1,t.2)
def outE (kn:Bool) (h:Nat→Option O) (zs:List (Option Nat)) (x:E) (u:Out):E×Out:=
 match x with
 | .one c=>let r:=outC kn h (zs.headD none) c u;(.one r.1,r.2)
 | .agg cs=>let r:=z9H kn h zs cs u;(.agg r.1,r.2)
def z5u (P:Program) (kn:Bool) (h:Nat→Option O):List TypeId→List E→Out→List E×Out
 | _,[],u=>([],u)
 | ts,x::xs,u=>
  let r:=outE kn h (slz P 8 (ts.headD 0)) x u
  let t:=z5u P kn h ts.tail xs r.2
  (r.1::t.1,t.2)
def tupT:List E→T
 | [x]=> .e x
 | xs=> .tup xs
def enter:Nat→List E→Env
 | _,[]=>[]
 | i,x::xs=>(i,.e x)::enter (i+1) xs
def passL:Nat→List O→Heap
 | _,[]=>[]
 | i,o::os=>(i*16+15,o)::passL (i+1) os
def z2A (P:Program) (h:Nat→Option O):Nat→List O→Option (List O)
 | _,[]=>some []
 | i,_::os=>match (h (i*16+15)).bind (zcz P) with
  | some o=>(z2A P h (i+1) os).map (o::·)
  | none=>none
def minus (zs:List Nat) (h:Nat→Option O):Nat→Option O:=fun p=>if p∈zs then none else h p
def runFn (P:Program) (gl:Nat→Option (List D)) (X:z1F) (F:Nat) (lv:Nat→Option (List Nat)) (own:Bool) (fn:Func) (args:List E) (os:List O):Option (T×List O×List O):=
 match fn.body with
 | none=>none
 | some c=>
  if args.length≤fn.ntmps then
   match z4V P gl X fn.ntmps lv F c ⟨enter 0 args,passL 0 os⟩ with
   | some (.exit _,_)=>none
   | some (_,s)=>match z8f P (look s.env) (look s.heap) fn.results.toList with
    | some xs=>match z2A P (minus (z1s (xs.map some) []) (look s.heap)) 0 os with
     | some os' =>
      let r:=z5u P own (if own then minus (z1s (xs.map some) []) (look s.heap) else fun _=>none) fn.resultTypes.toList (xs.map (setE (look s.heap))) ⟨[],[]⟩
      some (tupT r.1,r.2.os,os')
     | none=>none
    | none=>none
   | none=>none
  else none
structure Cfg where
 P:Program
 gl:Nat→Option (List D)
 ov:FuncId→Option (List E→List O→Option (T×List O×List O))
 lv:FuncId→Nat→Option (List Nat)
 own:FuncId→Bool
 F:Nat
def runF (K:Cfg):Nat→z1F
 | 0=>fun _ _ _=>none
 | n+1=>fun f args os=>match K.ov f with
  | some g=>g args os
  | none=>match K.P.funcs[f]? with
   | some fn=>runFn K.P K.gl (runF K n) K.F (K.lv f) (K.own f) fn args os
   | none=>none
end Am
end Go.Proofs.YtgmppconibklcaaGreatDoor

namespace Go.Proofs.YtgmppconibklcaaGreatDoor
open Go Go.RowKit
namespace Am
theorem z6t (ks:List Nat):∀ (l:Env) (k:Nat),look (z1v ks l) k=(look l k).map (T.kill ks)
 | [],k=>rfl
 | (i,t)::r,k=>by
  simp only [z1v,look];split
  ·rfl
  ·exact z6t ks r k
theorem z5v (ks:List Nat):∀ (l:Heap) (k:Nat),look (z0Y ks l) k=(look l k).map (O.kill ks)
 | [],k=>rfl
 | (i,t)::r,k=>by
  simp only [z0Y,look];split
  ·rfl
  ·exact z5v ks r k
theorem z4z {α:Type} (p:Nat):∀ (l:List (Nat×α)) (k:Nat),look (z3T p l) k=if k=p then none else look l k
 | [],k=>by simp [z3T,look]
 | (i,t)::r,k=>by
  simp only [z3T,look];split
  ·rename_i h;subst h;rw [z4z i r k];by_cases hk:k=i
   ·simp [hk]
   ·rw [if_neg hk,if_neg hk,if_neg (fun e=>hk e.symm)]
  ·rename_i h;simp only [look];rw [z4z p r k];by_cases hk:k=p
   ·subst hk;simp [h]
   ·simp [hk]
theorem zhe (l:Heap) (u:Nat×Option O):look (setL l u)=hSet (look l) u:=by
 funext k
 obtain ⟨p,o⟩:=u;cases o with
 | none=>simp only [setL,hSet,z4z]
 | some o=>
  simp only [setL,hSet,look,z4z];by_cases hk:k=p
  ·subst hk;simp
  ·rw [if_neg (fun e=>hk e.symm),if_neg hk,if_neg hk]
theorem z7B:∀ (us:List (Nat×Option O)) (l:Heap),look (us.foldl setL l)=us.foldl hSet (look l)
 | [],l=>rfl
 | u::us,l=>by rw [List.foldl_cons,List.foldl_cons,z7B us,zhe]
theorem z7A {h:Objs}:(fun p=>(h p).map (O.kill []))=h:=by
 funext p
 cases h p with
 | none=>rfl
 | some o=>simp [O.z0G]
theorem z9n (e:Eff) (dst:Option Nat) (s:S):look (apply e dst s).heap=hUp e (look s.heap):=by
 obtain ⟨t,ups,ks⟩:=e;cases ks with
 | nil=>
  show look (ups.foldl setL s.heap)=ups.foldl hSet _;rw [z7B];simp only [z7A]
 | cons k ks=>
  show look (ups.foldl setL (z0Y (k::ks) s.heap))=ups.foldl hSet _;rw [z7B]
  congr 1
  funext p
  rw [z5v]
theorem z6R (dst:Option Nat) (t:T) (env:Env) (k:Nat):look (putE dst t env) k=if dst=some k then some t else look env k:=by
 cases dst with
 | none=>simp [putE]
 | some d=>
  simp only [putE,look];by_cases h:d=k
  ·simp [h]
  ·simp [h]
theorem zc3 (e:Eff) (dst:Option Nat) (s:S) (k:Nat):look (apply e dst s).env k=if dst=some k then some e.t else (look s.env k).map (T.kill e.kills):=by
 obtain ⟨t,ups,ks⟩:=e;cases ks with
 | nil=>
  show look (putE dst t s.env) k=_;rw [z6R];simp only;split
  ·rfl
  ·cases look s.env k with
   | none=>rfl
   | some x=>simp [T.z0G]
 | cons q ks=>
  show look (putE dst t (z1v (q::ks) s.env)) k=_;rw [z6R,z6t]
theorem nm_16 (dst:Option Nat):nm dst%16=0:=by cases dst<;>simp [nm]
def EnvR (G:Gh) (env:Nat→Option T) (tmps:Array Value):Prop:=∀ k t,env k=some t→∃ v,tmps[k]? = some v∧RT G v t
def RelS (c:Ctx) (sz:Nat) (s:S) (a:Act) (w:World):Prop:=a.defers=[]∧a.tmps.size=sz∧∃ G,EnvR G (look s.env) a.tmps∧Inv c G (look s.heap) w
section
variable {P:Program} {c:Ctx} {X:z1F} {sz:Nat} {a:Act} {w:World} {s s':S} {ops:Array Oper}
theorem zgv {G:Gh} {env:Nat→Option T} {h:Objs} (hI:Inv c G h w) (he:EnvR G env a.tmps):Rho G (valOf c.gl env) a.eval:=by
 intro x t hx;cases x with
 | tmp k=>
  obtain ⟨v,hv,hr⟩:=he k t hx;have:a.eval (.tmp k)=v:=by
   show a.tmps.getD k undef=v;simp [hv]
  rw [this];exact hr
 | const v=>
  simp only [valOf] at hx;cases hc:z9i v with
  | none=>rw [hc] at hx;cases hx
  | some e=>
   rw [hc] at hx;simp at hx;subst hx;exact zbU hc
 | func f=>
  simp only [valOf,Option.some.injEq] at hx;subst hx;exact z8q rfl
 | global g=>
  simp only [valOf] at hx;cases hg:c.gl g with
  | none=>rw [hg] at hx;cases hx
  | some l=>
   rw [hg] at hx;simp at hx;subst hx;exact hI.glob g l hg
theorem zcZ {G:Gh} {o:Oper} {env:Nat→Option T} {b:Bool} (he:EnvR G env a.tmps) (h:gdOf ops o env=some b):Region.wanted o (yielded ops a.tmps)=b:=by
 unfold gdOf at h;unfold Region.wanted;cases hg:o.guard with
 | none=>rw [hg] at h;injection h with h
 | some jw=>
  obtain ⟨j,want⟩:=jw;rw [hg] at h;simp only at h ⊢;unfold yielded;cases hd:(ops[j]?).bind (·.dst) with
  | none=>
   rw [hd] at h;simp at h;subst h;simp
  | some d=>
   rw [hd] at h;simp only at h;split at h
   ·rename_i bb hv;injection h with h;subst h;obtain ⟨v,h1,h2⟩:=he d _ hv;have:=RT_v h2;subst this;simp [h1]
   ·rename_i hv;injection h with h;subst h;obtain ⟨v,h1,h2⟩:=he d _ hv;have h2:v=undef:=h2;subst h2;simp [h1,undef]
   ·cases h
theorem z6P (a:Act) (dst:Option Nat) (v:Value):(a.put dst v).tmps.size=a.tmps.size:=by cases dst<;>simp [Act.put]
theorem z3J (a:Act) (dst:Option Nat) (v:Value):(a.put dst v).defers=a.defers:=by cases dst<;>rfl
theorem z9E (a:Act) (dst:Option Nat) (v:Value) (hf:fits a.tmps.size dst=true) (k:Nat):(a.put dst v).tmps[k]? = if dst=some k then some v else a.tmps[k]? := by
 cases dst with
 | none=>simp [Act.put]
 | some d=>
  simp only [fits,decide_eq_true_eq] at hf;simp only [Act.put,Array.getElem?_setIfInBounds];by_cases h:d=k
  ·subst h;simp [hf]
  ·simp [h]
theorem z8A {o:Oper} {K:Act→World→Prop} {Q:Exit→Act→World→Prop} (hN:z1j P) (hX:z1J P c.gl c.tb X) (hs:zcq P c.gl X sz ops o s=some s') (hR:RelS c sz s a w) (hK:∀ a w,RelS c sz s' a w→K a w):
  if Region.wanted o (yielded ops a.tmps) then o.wp P a w K Q else K (a.put o.dst undef) w:=by
 obtain ⟨hd,hsz,G,he,hI⟩:=hR;unfold zcq at hs;cases hg:gdOf ops o (look s.env) with
 | none=>rw [hg] at hs;cases hs
 | some b=>
  rw [hg] at hs;rw [zcZ he hg];cases b with
  | true=>
   simp only [if_true] at hs ⊢;split at hs
   ·rename_i hf;cases hev:ev P X (nm o.dst) o.op (valOf c.gl (look s.env)) (look s.heap) with
    | none=>rw [hev] at hs;cases hs
    | some e=>
     rw [hev] at hs;simp at hs;subst hs;refine ev_wp (nm_16 _) hN hX hI (zgv hI he) hev (fun v w' hA=>hK _ _ ?_);obtain ⟨G',h1,h2,h3,h4⟩:=hA;refine ⟨by rw [z3J];exact hd,by rw [z6P];exact hsz,G',fun k t hk=>?_,by rw [z9n];exact h4⟩;rw [zc3] at hk;rw [z9E a o.dst v (by rw [hsz];exact hf)];by_cases hdk:o.dst=some k
     ·rw [if_pos hdk] at hk ⊢;injection hk with hk;subst hk;exact ⟨v,rfl,h3⟩
     ·rw [if_neg hdk] at hk ⊢;cases hl:look s.env k with
      | none=>rw [hl] at hk;cases hk
      | some t0=>
       rw [hl] at hk;simp at hk;subst hk;obtain ⟨u,h5,h6⟩:=he k t0 hl;exact ⟨u,h5,h6.kill h1 h2⟩
   ·cases hs
  | false=>
   simp only [Bool.false_eq_true,if_false] at hs ⊢;split at hs
   ·rename_i hf;injection hs with hs;subst hs;refine hK _ _ ⟨by rw [z3J];exact hd,by rw [z6P];exact hsz,G,fun k t hk=>?_,hI⟩;rw [z6R] at hk;rw [z9E a o.dst undef (by rw [hsz];exact hf)];by_cases hdk:o.dst=some k
    ·rw [if_pos hdk] at hk ⊢;injection hk with hk;subst hk;exact ⟨undef,rfl,rfl⟩
    ·rw [if_neg hdk] at hk ⊢;exact he k t hk
   ·cases hs
theorem zbc {Q:Exit→Act→World→Prop} (hN:z1j P) (hX:z1J P c.gl c.tb X):∀ (l:List Oper) (s s':S) (a:Act) (w:World),zaS P c.gl X sz ops l s=some s'→RelS c sz s a w→(∀ a w,RelS c sz s' a w→Q .normal a w)→wpList P ops Q l a w
 | [],s,s',a,w,h,hR,hQ=>by
  simp [zaS] at h;subst h;exact hQ a w hR
 | o::l,s,s',a,w,h,hR,hQ=>by
  rw [zaS] at h;cases hs:zcq P c.gl X sz ops o s with
  | none=>rw [hs] at h;cases h
  | some s1=>
   rw [hs] at h;exact wpList_step fun K hK=>z8A hN hX hs hR fun a w hR'=>hK a w (zbc hN hX l s1 s' a w h hR' hQ)
end
end Am
end Go.Proofs.YtgmppconibklcaaGreatDoor

namespace Go.Proofs.YtgmppconibklcaaGreatDoor
open Go Go.RowKit
namespace Am
theorem C.z19 {ks:List Nat} {c:C} (h:(c.kill ks).men ks=false):c.kill ks=c:=by
 cases c with
 | gr q s l=>
  simp only [C.kill] at h ⊢;split at h
  ·simp [C.men] at h
  ·rename_i hh;rw [if_neg hh]
 | ref p o=>
  simp only [C.kill] at h ⊢;split at h
  ·simp [C.men] at h
  ·rename_i hh;rw [if_neg hh]
 | sl p n s=>
  simp only [C.kill] at h ⊢;split at h
  ·simp [C.men] at h
  ·rename_i hh;rw [if_neg hh]
 | _=>rfl
theorem C.z1d {ks:List Nat} {c:C} (h:c.men ks=false):c.kill ks=c:=by
 cases c with
 | gr q s l=>simp only [C.men] at h;simp only [C.kill,h,Bool.false_eq_true,if_false]
 | ref p o=>simp only [C.men] at h;simp only [C.kill,h,Bool.false_eq_true,if_false]
 | sl p n s=>simp only [C.men] at h;simp only [C.kill,h,Bool.false_eq_true,if_false]
 | _=>rfl
theorem Cs.z19 {ks:List Nat}:∀ {cs:List C},(cs.map (C.kill ks)).any (C.men ks)=false→cs.map (C.kill ks)=cs
 | [],_=>rfl
 | c::cs,h=>by
  simp only [List.map_cons,List.any_cons,Bool.or_eq_false_iff] at h;rw [List.map_cons,C.z19 h.1,Cs.z19 h.2]
theorem Cs.z1d {ks:List Nat}:∀ {cs:List C},cs.any (C.men ks)=false→cs.map (C.kill ks)=cs
 | [],_=>rfl
 | c::cs,h=>by
  simp only [List.any_cons,Bool.or_eq_false_iff] at h;rw [List.map_cons,C.z1d h.1,Cs.z1d h.2]
theorem E.z19 {ks:List Nat} {x:E} (h:(x.kill ks).men ks=false):x.kill ks=x:=by
 cases x with
 | one c=>simp [E.kill,E.men,E.cells] at h ⊢;exact C.z19 h
 | agg cs=>simp only [E.kill,E.men,E.cells] at h ⊢;rw [Cs.z19 h]
theorem E.z1d {ks:List Nat} {x:E} (h:x.men ks=false):x.kill ks=x:=by
 cases x with
 | one c=>simp [E.kill,E.men,E.cells] at h ⊢;exact C.z1d h
 | agg cs=>simp only [E.kill,E.men,E.cells] at h ⊢;rw [Cs.z1d h]
theorem Es.z19 {ks:List Nat}:∀ {cs:List E},(cs.map (E.kill ks)).any (E.men ks)=false→cs.map (E.kill ks)=cs
 | [],_=>rfl
 | c::cs,h=>by
  simp only [List.map_cons,List.any_cons,Bool.or_eq_false_iff] at h;rw [List.map_cons,E.z19 h.1,Es.z19 h.2]
theorem Es.z1d {ks:List Nat}:∀ {cs:List E},cs.any (E.men ks)=false→cs.map (E.kill ks)=cs
 | [],_=>rfl
 | c::cs,h=>by
  simp only [List.any_cons,Bool.or_eq_false_iff] at h;rw [List.map_cons,E.z1d h.1,Es.z1d h.2]
theorem T.z19 {ks:List Nat} {t:T} (h:(t.kill ks).men ks=false):t.kill ks=t:=by
 cases t with
 | e x=>simp only [T.kill,T.men] at h ⊢;rw [E.z19 h]
 | tup xs=>simp only [T.kill,T.men] at h ⊢;rw [Es.z19 h]
 | undef=>rfl
theorem T.z1d {ks:List Nat} {t:T} (h:t.men ks=false):t.kill ks=t:=by
 cases t with
 | e x=>simp only [T.kill,T.men] at h ⊢;rw [E.z1d h]
 | tup xs=>simp only [T.kill,T.men] at h ⊢;rw [Es.z1d h]
 | undef=>rfl
theorem O.z19 {ks:List Nat} {o:O} (h:(o.kill ks).men ks=false):o.kill ks=o:=by
 cases o with
 | var ty cs=>simp only [O.kill,O.men] at h ⊢;rw [Cs.z19 h]
 | own e s n=>rfl
theorem O.z1d {ks:List Nat} {o:O} (h:o.men ks=false):o.kill ks=o:=by
 cases o with
 | var ty cs=>simp only [O.kill,O.men] at h ⊢;rw [Cs.z1d h]
 | own e s n=>rfl
theorem C.z1E (a b:List Nat) (c:C):(c.kill a).kill b=(c.kill b).kill a:=by
 cases c with
 | gr q s l=>
  by_cases h1:q∈a<;>by_cases h2:q∈b<;>simp [C.kill,h1,h2]
 | ref p o=>
  by_cases h1:p∈a<;>by_cases h2:p∈b<;>simp [C.kill,h1,h2]
 | sl p n s=>
  by_cases h1:p∈a<;>by_cases h2:p∈b<;>simp [C.kill,h1,h2]
 | _=>rfl
theorem E.z1E (a b:List Nat) (x:E):(x.kill a).kill b=(x.kill b).kill a:=by
 cases x with
 | one c=>simp [E.kill,C.z1E a b]
 | agg cs=>simp [E.kill,Function.comp_def,C.z1E a b]
theorem T.z1E (a b:List Nat) (t:T):(t.kill a).kill b=(t.kill b).kill a:=by
 cases t with
 | e x=>simp [T.kill,E.z1E a b]
 | tup xs=>simp [T.kill,Function.comp_def,E.z1E a b]
 | undef=>rfl
theorem O.z1E (a b:List Nat) (o:O):(o.kill a).kill b=(o.kill b).kill a:=by
 cases o with
 | var ty cs=>simp [O.kill,Function.comp_def,C.z1E a b]
 | own e s n=>rfl
section
variable {P:Program} {X:z1F} {gl:Nat→Option (List D)} {sz:Nat} {ops:Array Oper}
theorem z8l {base:Nat} {t:TypeId} {x y:Option T} {h h':Objs} (hh:∀ q s l,x=some (.e (.one (.gr q s l)))→h q=h' q):z0e P h base t x y=z0e P h' base t x y:=by
 unfold z0e;split
 ·split
  ·rfl
  ·split
   ·split
    ·rfl
    ·rename_i q s l;rw [hh q s l rfl]
    ·rfl
   ·rfl
 ·rfl
theorem zfn {op:Op} {ρ ρ':Operand→Option T} (hρ:∀ x∈op.operands,ρ x=ρ' x):rdOf op ρ=rdOf op ρ':=by
 cases op<;>simp only [Op.operands] at hρ<;>simp only [rdOf]
 case load t a=>rw [hρ a (by simp)]
 case store t a x=>rw [hρ a (by simp)]
 case call cl=>
  obtain ⟨callee,⟨args⟩,ts⟩:=cl;cases callee with
  | builtin b=>
   cases b<;>simp only;match args,hρ with
   | [],_=>rfl
   | [x],_=>rfl
   | [x,y],hρ=>simp only;rw [hρ x (by simp [Call.operands])]
   | x::y::z::r,_=>rfl
  | value f=>
   simp only;rw [List.map_congr_left (l:=args) (fun x hx=>by rw [hρ x (by simp [Call.operands,hx])])]
  | invoke r m=>rfl
theorem z3m (h:Nat→Option O):∀ (cs:List C) (ps:List Nat),refsOf (cs.map (setC h)) ps=refsOf cs ps
 | [],ps=>rfl
 | c::cs,ps=>by
  cases c with
  | ref p o=>simp only [List.map_cons,setC,refsOf];exact z3m h cs _
  | sl p n s=>
   have:∀ ps,refsOf (setC h (.sl p n s)::cs.map (setC h)) ps=refsOf (cs.map (setC h)) ps:=by
    intro ps;simp only [setC];split
    ·split
     ·split<;>rfl
     ·rfl
    ·rfl
   rw [List.map_cons,this,refsOf];exact z3m h cs _;all_goals simp
  | _=>simp only [List.map_cons,setC,refsOf];exact z3m h cs _
theorem z5T (h:Nat→Option O):∀ (xs:List (Option E)) (ps:List Nat),z0O (xs.map (Option.map (setE h))) ps=z0O xs ps
 | [],ps=>rfl
 | none::xs,ps=>by simp only [List.map_cons,Option.map_none,z0O];exact z5T h xs ps
 | some x::xs,ps=>by
  simp only [List.map_cons,Option.map_some,z0O];have:refsOf (setE h x).cells ps=refsOf x.cells ps:=by
   cases x with
   | one c=>exact z3m h [c] ps
   | agg cs=>exact z3m h cs ps
  rw [this];exact z5T h xs _
theorem z8B {h h':Nat→Option O} {c:C} (hh:∀ p n s,c = .sl p n s→h p=h' p):setC h c=setC h' c:=by
 cases c with
 | sl p n s=>simp only [setC,hh p n s rfl]
 | _=>rfl
theorem zf6 {h h':Nat→Option O} {x:E} (hh:∀ p n s,C.sl p n s∈x.cells→h p=h' p):setE h x=setE h' x:=by
 cases x with
 | one c=>simp only [setE];rw [z8B fun p n s e=>hh p n s (by simp [E.cells,e])]
 | agg cs=>simp only [setE];rw [List.map_congr_left fun c hc=>z8B fun p n s e=>hh p n s (by subst e;exact hc)]
theorem zbF {base:Nat} {f:Option T} {args:List (Option E)} {h h':Objs} (hh:∀ p,p∈z1s args []++z0O args []→h p=h' p):z5A P X h base f args=z5A P X h' base f args:=by
 have e1:args.map (Option.map (setE h))=args.map (Option.map (setE h')):=List.map_congr_left fun x hx=>by
  cases x with
  | none=>rfl
  | some x=>
   simp only [Option.map_some];rw [zf6 fun p n s hs=>hh p (List.mem_append_left _ (z3j _ _ _ (.inr ⟨x,n,s,hx,hs⟩)))]
 have e2:z1o P h (z0O (args.map (Option.map (setE h'))) [])=z1o P h' (z0O (args.map (Option.map (setE h'))) []):=z2R fun p hp=>hh p (List.mem_append_right _ (by rw [z5T] at hp;exact hp))
 unfold z5A;simp only [e1,e2]
theorem zjJ {base:Nat} {op:Op} {ρ ρ':Operand→Option T} {h h':Objs} (hρ:∀ x∈op.operands,ρ x=ρ' x) (hh:∀ p∈rdOf op ρ,h p=h' p):ev P X base op ρ h=ev P X base op ρ' h':=by
 have parts:∀ ps:Array (Nat×Operand),(∀ x∈(ps.toList.map (·.2)).toArray,ρ x=ρ' x)→(ps.toList.map fun p=>(p.1,e? (ρ p.2)))=ps.toList.map fun p=>(p.1,e? (ρ' p.2)):=fun ps hp=>
  List.map_congr_left fun p hm=>by rw [hp p.2 (by simp;exact ⟨p.1,by simpa using hm⟩)]
 cases op<;>simp only [Op.operands] at hρ<;>simp only [ev]
 case move x=>rw [hρ x (by simp)]
 case assign x=>rw [hρ x (by simp)]
 case pick c a b=>rw [hρ c (by simp),hρ a (by simp),hρ b (by simp)]
 case box t x=>rw [hρ x (by simp)]
 case build t ps=>rw [parts ps hρ]
 case buildSlice t n ps=>rw [parts ps hρ]
 case makeSlice t n k=>rw [hρ n (by simp),hρ k (by simp)]
 case load t a=>
  have ha:=hρ a (by simp);simp only [rdOf] at hh;rw [←ha];split
  ·rename_i cc hcc;rw [hcc] at hh;unfold z2j;cases cc with
   | ref p off=>simp only;rw [hh p (by simp)]
   | _=>rfl
  ·rfl
 case store t a x=>
  have ha:=hρ a (by simp);have hx:=hρ x (by simp);simp only [rdOf] at hh;rw [←ha,←hx];split
  ·rename_i cc ex hcc hex;rw [hcc] at hh;unfold z7O;cases cc with
   | ref p off=>simp only;rw [hh p (by simp)]
   | _=>rfl
  ·rfl
 case nilCheck x=>rw [hρ x (by simp)]
 case binOp op t x y yt=>rw [hρ x (by simp),hρ y (by simp)]
 case unOp op t x=>rw [hρ x (by simp)]
 case convert s d x=>rw [hρ x (by simp)]
 case fieldAddr t x f=>rw [hρ x (by simp)]
 case field t x f=>rw [hρ x (by simp)]
 case indexAddr t x i=>rw [hρ x (by simp),hρ i (by simp)]
 case index t x i=>rw [hρ x (by simp),hρ i (by simp)]
 case slice t x lo hi mx=>
  split
  ·rfl
  ·rw [hρ x (by simp)];cases lo with
   | none=>
    cases hi with
    | none=>rfl
    | some hi=>simp only [Option.map_some,Option.map_none];rw [hρ hi (by simp)]
   | some lo=>
    cases hi with
    | none=>simp only [Option.map_some,Option.map_none];rw [hρ lo (by simp)]
    | some hi=>simp only [Option.map_some];rw [hρ hi (by simp),hρ lo (by simp)]
 case extract x i=>rw [hρ x (by simp)]
 case call cl=>
  obtain ⟨callee,⟨args⟩,ts⟩:=cl;cases callee with
  | value f=>
   simp only [Call.operands] at hρ ⊢;rw [←hρ f (by simp),←List.map_congr_left (l:=args) (f:=fun x=>e? (ρ x)) (g:=fun x=>e? (ρ' x)) (fun x hx=>by rw [hρ x (by simp [hx])])];exact zbF fun p hp=>hh p hp
  | invoke r m=>rfl
  | builtin b=>
   simp only [Call.operands] at hρ ⊢;obtain ⟨ts⟩:=ts;simp only [List.toList_toArray] at hρ ⊢;have hρ2:∀ x∈args,ρ x=ρ' x:=fun x hx=>hρ x (by simp [hx])
   clear hρ;simp only [rdOf] at hh;revert hh hρ2;generalize args=la;intro hh hρ;unfold z5B;split
   ·rename_i x t;rw [hρ x (by simp)]
   ·rename_i x y t t';rw [←hρ x (by simp),←hρ y (by simp)];split
    ·refine z8l (fun q s l hq=>hh q ?_);simp only;rw [hq];simp
    ·rfl
   ·rename_i x y;rw [hρ x (by simp),hρ y (by simp)]
   ·rename_i x y;rw [hρ x (by simp),hρ y (by simp)]
   ·rfl
end
end Am
end Go.Proofs.YtgmppconibklcaaGreatDoor

namespace Go.Proofs.YtgmppconibklcaaGreatDoor
open Go Go.RowKit
namespace Am
def Like (s s':S):Prop:=look s.env=look s'.env∧look s.heap=look s'.heap
theorem Like.refl (s:S):Like s s:=⟨rfl,rfl⟩
theorem Like.symm {s s':S} (h:Like s s'):Like s' s:=⟨h.1.symm,h.2.symm⟩
theorem Like.trans {a b c:S} (h:Like a b) (k:Like b c):Like a c:=⟨h.1.trans k.1,h.2.trans k.2⟩
def upAt (p:Nat):List (Nat×Option O)→Option (Option O)
 | []=>none
 | u::us=>match upAt p us with
  | some o=>some o
  | none=>if p=u.1 then some u.2 else none
theorem zhx (us:List (Nat×Option O)) (h:Objs) (p:Nat):us.foldl hSet h p=(upAt p us).getD (h p):=by
 induction us generalizing h with
 | nil=>rfl
 | cons u us ih=>
  rw [List.foldl_cons,ih,upAt];cases upAt p us with
  | some o=>rfl
  | none=>
   simp only [hSet,Option.getD_none];split<;>rfl
theorem z71 {p:Nat} {us:List (Nat×Option O)} (h:p∉us.map (·.1)):upAt p us=none:=by
 induction us with
 | nil=>rfl
 | cons u us ih=>
  simp only [List.map_cons,List.mem_cons,not_or] at h;rw [upAt,ih h.2,if_neg h.1]
theorem zdq {p:Nat} {us:List (Nat×Option O)} {o:Option O} (h:upAt p us=some o):(p,o)∈us:=by
 induction us with
 | nil=>cases h
 | cons u us ih=>
  rw [upAt] at h;cases hu:upAt p us with
  | some o'=>rw [hu] at h;injection h with h;subst h;exact List.mem_cons_of_mem _ (ih hu)
  | none=>
   rw [hu] at h;simp only at h;split at h
   ·rename_i hp;injection h with h;subst h;subst hp;exact List.mem_cons_self
   ·cases h
theorem hUp_at (e:Eff) (h:Objs) (p:Nat):hUp e h p=(upAt p e.ups).getD ((h p).map (O.kill e.kills)):=zhx _ _ _
theorem Log.z4i {ks:List Nat} {g:Log} (h:g.men ks=false):ks=[]∨(g.vals.any (T.men ks)=false∧g.objs.any (O.men ks)=false∧g.eff.t.men ks=false∧g.eff.ups.any (z4I ks)=false):=by
 cases ks with
 | nil=>exact .inl rfl
 | cons k ks=>
  simp only [Log.men,Bool.or_eq_false_iff] at h;exact .inr ⟨h.1.1.1,h.1.1.2,h.1.2,h.2⟩
theorem z7z {a b:List Nat} (h:meet a b=false) {x:Nat} (hx:x∈a):x∉b:=by
 unfold meet at h;rw [List.any_eq_false] at h;simpa using h x hx
section
variable {P:Program} {gl:Nat→Option (List D)} {X:z1F} {sz:Nat} {ops:Array Oper}
inductive Did (P:Program) (gl:Nat→Option (List D)) (X:z1F) (sz:Nat) (ops:Array Oper) (o:Oper) (s:S):S→Log→Prop
 | yes (e:Eff) (hg:gdOf ops o (look s.env)=some true) (hf:fits sz o.dst=true) (he:ev P X (nm o.dst) o.op (valOf gl (look s.env)) (look s.heap)=some e):Did P gl X sz ops o s (apply e o.dst s) (z3s gl o s e)
 | no (hg:gdOf ops o (look s.env)=some false) (hf:fits sz o.dst=true):Did P gl X sz ops o s ⟨putE o.dst .undef s.env,s.heap⟩ ⟨[],[],[],⟨.undef,[],[]⟩⟩
theorem zlV {o:Oper} {s s1:S} {g:Log}:z3D P gl X sz ops o s=some (s1,g)↔Did P gl X sz ops o s s1 g:=by
 constructor
 ·intro h;unfold z3D at h;cases hg:gdOf ops o (look s.env) with
  | none=>rw [hg] at h;cases h
  | some b=>
   rw [hg] at h;cases b with
   | true=>
    simp only at h;split at h
    ·rename_i hf;cases he:ev P X (nm o.dst) o.op (valOf gl (look s.env)) (look s.heap) with
     | none=>rw [he] at h;cases h
     | some e=>
      rw [he] at h;simp only [Option.some.injEq,Prod.mk.injEq] at h;obtain ⟨rfl,rfl⟩:=h;exact .yes e hg hf he
    ·cases h
   | false=>
    simp only at h;split at h
    ·rename_i hf;simp only [Option.some.injEq,Prod.mk.injEq] at h;obtain ⟨rfl,rfl⟩:=h;exact .no hg hf
    ·cases h
 ·intro h;cases h with
  | yes e hg hf he=>unfold z3D;rw [hg];simp only [hf,if_true,he]
  | no hg hf=>unfold z3D;rw [hg];simp only [hf,if_true]
theorem zjP {o:Oper} {s s1:S} {g:Log} (h:Did P gl X sz ops o s s1 g):zcq P gl X sz ops o s=some s1:=by
 cases h with
 | yes e hg hf he=>unfold zcq;rw [hg];simp only [hf,if_true,he,Option.map_some]
 | no hg hf=>unfold zcq;rw [hg];simp only [hf,if_true]
theorem z3e {o:Oper} {s s1:S} {g:Log} (h:Did P gl X sz ops o s s1 g) (k:Nat):look s1.env k=if o.dst=some k then some g.eff.t else (look s.env k).map (T.kill g.eff.kills):=by
 cases h with
 | yes e hg hf he=>exact zc3 e o.dst s k
 | no hg hf=>
  rw [z6R];split
  ·rfl
  ·cases look s.env k with
   | none=>rfl
   | some t=>simp [T.z0G]
theorem z2X {o:Oper} {s s1:S} {g:Log} (h:Did P gl X sz ops o s s1 g) (p:Nat):look s1.heap p=(upAt p g.eff.ups).getD ((look s.heap p).map (O.kill g.eff.kills)):=by
 cases h with
 | yes e hg hf he=>rw [z9n];exact hUp_at e _ p
 | no hg hf=>
  show look s.heap p=(look s.heap p).map (O.kill []);cases look s.heap p with
  | none=>rfl
  | some t=>simp [O.z0G]
theorem z1z {α β:Type} {f g:α→Option β}:∀ {l:List α},(∀ x∈l,f x=g x)→l.filterMap f=l.filterMap g
 | [],_=>rfl
 | a::l,h=>by rw [List.filterMap_cons,List.filterMap_cons,h a (by simp),z1z (fun x hx=>h x (by simp [hx]))]
theorem za0 {o:Oper} {s s1 s':S} {g:Log} (h:Did P gl X sz ops o s s1 g) (hgd:gdOf ops o (look s'.env)=gdOf ops o (look s.env)) (hval:g.rd=g.rd→(gdOf ops o (look s.env)=some true→∀ x∈o.op.operands,valOf gl (look s'.env) x=valOf gl (look s.env) x)) (hp:∀ p∈g.rd,look s'.heap p=look s.heap p):∃ s1',Did P gl X sz ops o s' s1' g:=by
 cases h with
 | yes e hg hf he=>
  have hval:=hval rfl hg;have hp:∀ p∈rdOf o.op (valOf gl (look s.env)),look s'.heap p=look s.heap p:=hp;have hrd:rdOf o.op (valOf gl (look s'.env))=rdOf o.op (valOf gl (look s.env)):=zfn hval;have he':ev P X (nm o.dst) o.op (valOf gl (look s'.env)) (look s'.heap)=some e:=by
   rw [zjJ hval (fun p hpp=>hp p (by rw [hrd] at hpp;exact hpp))];exact he
  have hlog:z3s gl o s' e=z3s gl o s e:=by
   unfold z3s;rw [hrd,z1z (f:=valOf gl (look s'.env)) (g:=valOf gl (look s.env)) (fun x hx=>hval x (by simpa using hx)),z1z (f:=look s'.heap) (g:=look s.heap) hp]
  exact ⟨_,hlog▸Did.yes e (hgd.trans hg) hf he'⟩
 | no hg hf=>exact ⟨_,.no (hgd.trans hg) hf⟩
theorem zjQ {o:Oper} {s s1 s' s1':S} {g:Log} (h:Did P gl X sz ops o s s1 g) (h':Did P gl X sz ops o s' s1' g) (hl:Like s s'):Like s1 s1':=by
 refine ⟨funext fun k=>?_,funext fun p=>?_⟩
 ·rw [z3e h,z3e h',hl.1]
 ·rw [z2X h,z2X h',hl.2]
theorem zjO {oj oi:Oper} {s sa sb:S} {gj gi:Log} (hj:Did P gl X sz ops oj s sa gj) (hi:Did P gl X sz ops oi sa sb gi) (hap:oj.apart ops oi=true) (hno:z1N gj gi=true):
  ∃ sa' sb',Did P gl X sz ops oi s sa' gi∧Did P gl X sz ops oj sa' sb' gj∧Like sb sb':=by
 obtain ⟨a1,a2,a3⟩:=Oper.apart_spec hap;unfold z1N at hno;simp only [Bool.and_eq_true,Bool.not_eq_true'] at hno;obtain ⟨⟨⟨⟨n1,n2⟩,n3⟩,n4⟩,n5⟩:=hno
 -- what i looks at, ahead of j
 have hgd:gdOf ops oi (look s.env)=gdOf ops oi (look sa.env):=by
  unfold gdOf;cases hg:oi.guard with
  | none=>rfl
  | some jw=>
   obtain ⟨k,want⟩:=jw;simp only;cases hd:(ops[k]?).bind (·.dst) with
   | none=>rfl
   | some d=>
    have hne:oj.dst≠some d:=fun e=>a1 d e (by unfold Oper.looksAt;simp [hg,hd])
    have hl:=z3e hj d;rw [if_neg hne] at hl;simp only
    -- the guard's value is known behind j
    have hknown:∃ b,gdOf ops oi (look sa.env)=some b:=by cases hi with|yes e hg' _ _=>exact ⟨_,hg'⟩|no hg' _=>exact ⟨_,hg'⟩
    obtain ⟨b,hb⟩:=hknown;unfold gdOf at hb;rw [hg] at hb;simp only [hd] at hb;cases hs:look s.env d with
    | none=>rw [hs] at hl;rw [hl];rfl
    | some t=>
     rw [hs] at hl;simp only [Option.map_some] at hl;rw [hl] at hb ⊢;have ht:T.kill gj.eff.kills t=t:=by
      cases t with
      | undef=>rfl
      | tup xs=>simp [T.kill] at hb
      | e x=>
       cases x with
       | agg cs=>simp [T.kill,E.kill] at hb
       | one cc=>
        cases cc with
        | gr q s l=>
         by_cases hq:q∈gj.eff.kills
         ·simp [T.kill,E.kill,C.kill,hq] at hb
         ·simp [T.kill,E.kill,C.kill,hq]
        | ref p o=>
         by_cases hq:p∈gj.eff.kills
         ·simp [T.kill,E.kill,C.kill,hq] at hb
         ·simp [T.kill,E.kill,C.kill,hq]
        | sl p n s=>
         by_cases hq:p∈gj.eff.kills
         ·simp [T.kill,E.kill,C.kill,hq] at hb
         ·simp [T.kill,E.kill,C.kill,hq]
        | _=>rfl
     rw [ht]
 -- what it looks at
 have vals_of:gdOf ops oi (look sa.env)=some true→∀ x∈oi.op.operands,∀ t,valOf gl (look sa.env) x=some t→t∈gi.vals:=by
  intro htrue x hx t hxt;cases hi with
  | yes e _ _ _=>exact List.mem_filterMap.2 ⟨x,by simpa using hx,hxt⟩
  | no hg' _=>rw [hg'] at htrue;cases htrue
 have hvi:gdOf ops oi (look sa.env)=some true→∀ x∈oi.op.operands,valOf gl (look s.env) x=valOf gl (look sa.env) x:=by
  intro htrue x hx;cases x with
  | tmp k=>
   have hne:oj.dst≠some k:=fun e=>a1 k e (by unfold Oper.looksAt;exact List.mem_append_left _ (List.mem_filterMap.2 ⟨.tmp k,by simpa using hx,rfl⟩))
   have hl:=z3e hj k;rw [if_neg hne] at hl;show look s.env k=look sa.env k;cases hs:look s.env k with
   | none=>rw [hl,hs];rfl
   | some t0=>
    rw [hs] at hl;simp only [Option.map_some] at hl;rw [hl];rcases Log.z4i n4 with h0|⟨h1,_⟩
    ·rw [h0,T.z0G]
    ·rw [List.any_eq_false] at h1;have:=h1 _ (vals_of htrue (.tmp k) hx _ hl);rw [T.z19 (by simpa using this)]
  | _=>rfl
 have objs_of:∀ p∈gi.rd,∀ o,look sa.heap p=some o→o∈gi.objs:=by
  intro p hp o ho;cases hi with
  | yes e _ _ _=>exact List.mem_filterMap.2 ⟨p,hp,ho⟩
  | no hg' _=>cases hp
 have hpi:∀ p∈gi.rd,look s.heap p=look sa.heap p:=by
  intro p hp;have hne:p∉gj.eff.ups.map (·.1):=fun h=>z7z n1 h hp
  have hl:=z2X hj p;rw [z71 hne,Option.getD_none] at hl;cases hs:look s.heap p with
  | none=>rw [hl,hs];rfl
  | some o0=>
   rw [hs] at hl;simp only [Option.map_some] at hl;rw [hl];rcases Log.z4i n4 with h0|⟨_,h1,_⟩
   ·rw [h0,O.z0G]
   ·rw [List.any_eq_false] at h1;have:=h1 _ (objs_of p hp _ hl);rw [O.z19 (by simpa using this)]
 obtain ⟨sa',hi'⟩:=za0 hi hgd (fun _=>hvi) hpi
 -- then j, behind i
 have valj_of:gdOf ops oj (look s.env)=some true→∀ x∈oj.op.operands,∀ t,valOf gl (look s.env) x=some t→t∈gj.vals:=by
  intro htrue x hx t hxt;cases hj with
  | yes e _ _ _=>exact List.mem_filterMap.2 ⟨x,by simpa using hx,hxt⟩
  | no hg' _=>rw [hg'] at htrue;cases htrue
 have hgdj:gdOf ops oj (look sa'.env)=gdOf ops oj (look s.env):=by
  unfold gdOf;cases hg:oj.guard with
  | none=>rfl
  | some jw=>
   obtain ⟨k,want⟩:=jw;simp only;cases hd:(ops[k]?).bind (·.dst) with
   | none=>rfl
   | some d=>
    have hne:oi.dst≠some d:=fun e=>a3 d e (by unfold Oper.looksAt;simp [hg,hd])
    have hl:=z3e hi' d;rw [if_neg hne] at hl;simp only;have hknown:∃ b,gdOf ops oj (look s.env)=some b:=by cases hj with|yes e hg' _ _=>exact ⟨_,hg'⟩|no hg' _=>exact ⟨_,hg'⟩
    obtain ⟨b,hb⟩:=hknown;unfold gdOf at hb;rw [hg] at hb;simp only [hd] at hb;rw [hl];cases hs:look s.env d with
    | none=>rfl
    | some t=>
     rw [hs] at hb;simp only [Option.map_some];have ht:T.kill gi.eff.kills t=t:=by
      cases t with
      | undef=>rfl
      | tup xs=>simp at hb
      | e x=>
       cases x with
       | agg cs=>simp at hb
       | one cc=>
        cases cc with
        | gr q s l=>simp at hb
        | ref p o=>simp at hb
        | sl p n s=>simp at hb
        | _=>rfl
     rw [ht]
 have hvj:gdOf ops oj (look s.env)=some true→∀ x∈oj.op.operands,valOf gl (look sa'.env) x=valOf gl (look s.env) x:=by
  intro htrue x hx;cases x with
  | tmp k=>
   have hne:oi.dst≠some k:=fun e=>a3 k e (by unfold Oper.looksAt;exact List.mem_append_left _ (List.mem_filterMap.2 ⟨.tmp k,by simpa using hx,rfl⟩))
   have hl:=z3e hi' k;rw [if_neg hne] at hl;show look sa'.env k=look s.env k;rw [hl];cases hs:look s.env k with
   | none=>rfl
   | some t0=>
    simp only [Option.map_some];rcases Log.z4i n5 with h0|⟨h1,_⟩
    ·rw [h0,T.z0G]
    ·rw [List.any_eq_false] at h1;have:=h1 _ (valj_of htrue (.tmp k) hx _ hs);rw [T.z1d (by simpa using this)]
  | _=>rfl
 have hpj:∀ p∈gj.rd,look sa'.heap p=look s.heap p:=by
  intro p hp;have hne:p∉gi.eff.ups.map (·.1):=fun h=>z7z n3 h hp
  have hl:=z2X hi' p;rw [z71 hne,Option.getD_none] at hl;rw [hl];cases hs:look s.heap p with
  | none=>rfl
  | some o0=>
   simp only [Option.map_some];rcases Log.z4i n5 with h0|⟨_,h1,_⟩
   ·rw [h0,O.z0G]
   ·rw [List.any_eq_false] at h1;have hmem:o0∈gj.objs:=by
     cases hj with
     | yes e _ _ _=>exact List.mem_filterMap.2 ⟨p,hp,hs⟩
     | no hg' _=>cases hp
    have:=h1 _ hmem;rw [O.z1d (by simpa using this)]
 obtain ⟨sb',hj'⟩:=za0 hj hgdj (fun _=>hvj) hpj;refine ⟨sa',sb',hi',hj',funext fun k=>?_,funext fun p=>?_⟩
 ·rw [z3e hi,z3e hj',z3e hj,z3e hi'];by_cases e1:oi.dst=some k<;>by_cases e2:oj.dst=some k
  ·exact absurd e1 (a2 k e2)
  ·rw [if_pos e1,if_neg e2,if_pos e1,Option.map_some];rcases Log.z4i n4 with h0|⟨_,_,h1,_⟩
   ·rw [h0,T.z0G]
   ·rw [T.z1d h1]
  ·rw [if_neg e1,if_pos e2,if_pos e2,Option.map_some];rcases Log.z4i n5 with h0|⟨_,_,h1,_⟩
   ·rw [h0,T.z0G]
   ·rw [T.z1d h1]
  ·rw [if_neg e1,if_neg e2,if_neg e2,if_neg e1];cases look s.env k with
   | none=>rfl
   | some t=>simp only [Option.map_some];rw [T.z1E]
 ·rw [z2X hi,z2X hj',z2X hj,z2X hi'];have keep:∀ (ks:List Nat) (us:List (Nat×Option O)) (o:Option O),us.any (z4I ks)=false→upAt p us=some o→o.map (O.kill ks)=o:=by
   intro ks us o h1 h2;rw [List.any_eq_false] at h1;have:=h1 _ (zdq h2);cases o with
   | none=>rfl
   | some o=>simp only [Option.map_some];rw [O.z1d (by simpa [z4I] using this)]
  have mapnil:∀ o:Option O,o.map (O.kill [])=o:=fun o=>by cases o<;>simp [O.z0G]
  cases u1:upAt p gi.eff.ups with
  | some o1=>
   have hni:p∉gj.eff.ups.map (·.1):=fun h=>z7z n2 h (List.mem_map.2 ⟨_,zdq u1,rfl⟩)
   rw [z71 hni];simp only [Option.getD_some,Option.getD_none];rcases Log.z4i n4 with h0|⟨_,_,_,h1⟩
   ·rw [h0,mapnil]
   ·rw [keep _ _ _ h1 u1]
  | none=>
   simp only [Option.getD_none];cases u2:upAt p gj.eff.ups with
   | some o2=>
    simp only [Option.getD_some];rcases Log.z4i n5 with h0|⟨_,_,_,h1⟩
    ·rw [h0,mapnil]
    ·rw [keep _ _ _ h1 u2]
   | none=>
    simp only [Option.getD_none];cases look s.heap p with
    | none=>rfl
    | some o=>simp only [Option.map_some];rw [O.z1E]
end
end Am
end Go.Proofs.YtgmppconibklcaaGreatDoor

