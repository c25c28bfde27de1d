/- Part of the proof of TspBack. No condition: lemmas alone. -/
import Derived.Test.YtgmppconibklcaaGreatDoorM27
import Derived.Test.YtgmppconibklcaaGreatDoorM29
import Derived.Test.YtgmppconibklcaaGreatDoorM25
import Derived.Test.YtgmppconibklcaaGreatDoorM26
import Derived.Test.YtgmppconibklcaaGreatDoorM9
import Derived.Test.YtgmppconibklcaaGreatDoorM23
import Derived.Test.YtgmppconibklcaaGreatDoorM19
import Derived.Test.YtgmppconibklcaaGreatDoorM13
import Derived.Test.YtgmppconibklcaaGreatDoorM14
import Derived.Test.YtgmppconibklcaaGreatDoorM17
import Derived.Test.YtgmppconibklcaaGreatDoorM11
import Derived.Test.YtgmppconibklcaaGreatDoorM18
set_option linter.unusedVariables false
set_option linter.unusedSimpArgs false
namespace Go.Proofs.YtgmppconibklcaaGreatDoor
open Go Go.RowKit
theorem z56:∀ M,zc7 M
 | 0=>fun b A n c rb at_ end_ d w hM=>absurd hM (by omega)
 | M+1=>fun b A n c rb at_ end_ d w=>by
  cases hq:((b.getD at_ 0).toNat / 32%2==1) with
  | false=>exact zh3 M (z56 M) b A n c rb at_ end_ d w hq
  | true=>exact zh4 M (z56 M) b A n c rb at_ end_ d w hq
end Go.Proofs.YtgmppconibklcaaGreatDoor

set_option maxRecDepth 100000
namespace Go.Proofs.YtgmppconibklcaaGreatDoor
open Go Go.RowKit
namespace Am
variable {gl:Nat→Option (List D)}
def RdR (b:List UInt8):T→Prop:=fun t=>∃ x y:Int,t = .tup [nX ((Dr.read b).getD Nd.nil),.agg [.d (.leaf (.int .i64 x)),.d (.leaf (.int .i64 y))]]∧(y==0)=(Dr.read b).isSome
theorem z9f (b:List UInt8) (hb:b.length≤40000):z1Y Tryz.prog gl Tabs 55 [rX (z05 b)] [] (fun t ws os=>RdR b t∧ws=[]∧os=[]):=
 zjX (tw:=Tabs) rfl (fun t ht=>by obtain ⟨x,y,rfl,_⟩:=ht;rfl) z0I fun w vals hT hargs=>by
  obtain ⟨v,rfl,h⟩:=hargs.one_;have hi:Is w (fun _=>False) v (z05 b):=z3f (show RD (imOf w _) v (z05 b) from h);obtain ⟨A,c,rfl,hc,_⟩:=hi.bytes;refine (zfO z56 b A b.length c _ w hi hb hT).mono ?_;rintro e w' ⟨v',x,y,rfl,hy,hn,hb⟩;exact ⟨_,_,⟨x,y,rfl,hy⟩,rfl,z35 (.z0D (z5W hn) (.z0D ⟨_,rfl,.z0D (.leaf _ rfl) (.z0D (.leaf _ rfl) .nil_)⟩ .nil_)),hb⟩
end Am
end Go.Proofs.YtgmppconibklcaaGreatDoor

namespace Go.Proofs.YtgmppconibklcaaGreatDoor
open Go Go.RowKit
namespace Am
theorem bne_f {α:Type} [BEq α] [LawfulBEq α] {a b:α}:((a != b)=false)=(a=b):=by simp [bne]
structure Hd {α:Type} (a b:α):Prop where
 eq:a=b
section
variable {P:Program} {gl:Nat→Option (List D)} {tb:World→Prop} {sz:Nat} {ops:Array Oper}
def zix (P:Program) (gl:Nat→Option (List D)) (tb:World→Prop) (g:FuncId) (ys:List E) (os:List O) (K:T→List O→List O→Prop):Prop:=∃ R:T→List O→List O→Prop,z1Y P gl tb g ys os R∧∀ t ws os',R t ws os'→K t ws os'
def zit (t:T) (ws os os':List O):Prop:=ws.length<14∧ws.all O.zbs=true∧t.z2o ws.length=true∧os'.all O.plain=true∧z2N os os'=true
theorem zja {t:T} {ws os os':List O}:zit t ws os os'=(ws.length<14∧ws.all O.zbs=true∧t.z2o ws.length=true∧os'.all O.plain=true∧z2N os os'=true):=propext Iff.rfl
def zhN (base:Nat) (zs ps:List Nat) (t:T) (ws os':List O):Eff:=⟨t.ren base,zs.map (fun z=>(z,none))++(z4q ps os'++named base 0 ws),zs++(named base 0 ws).map (·.1)⟩
def AnsK (base:Nat) (zs ps:List Nat) (os:List O) (K:Eff→Prop):T→List O→List O→Prop:=fun t ws os'=>zit t ws os os'∧K (zhN base zs ps t ws os')
theorem zm9 {base:Nat} {zs ps:List Nat} {os:List O} {K:Eff→Prop} {t:T} {ws os':List O}:AnsK base zs ps os K t ws os'=(zit t ws os os'∧K (zhN base zs ps t ws os')):=propext Iff.rfl
abbrev Fin:=List Nat→List Nat→List E→List O→Prop
def OsG (F:Fin) (zs ps:List Nat) (ys:List E):List O→Prop:=fun os=>F zs ps ys os
theorem osG_at {F:Fin} {zs ps:List Nat} {ys:List E} {os:List O}:OsG F zs ps ys os=F zs ps ys os:=propext Iff.rfl
def YsG (P:Program) (h:Nat→Option O) (F:Fin) (zs ps:List Nat):List E→Prop:=fun ys=>OptK (z1o P h ps) (OsG F zs ps ys)
theorem zg5 {h:Nat→Option O} {F:Fin} {zs ps:List Nat} {ys:List E}:YsG P h F zs ps ys=OptK (z1o P h ps) (OsG F zs ps ys):=propext Iff.rfl
def PsG (P:Program) (h:Nat→Option O) (F:Fin) (zs:List Nat) (ts:List TypeId) (xs:List (Option E)) (ps:List Nat):Prop:=zs.any (fun z=>ps.contains z)=false∧OptK (z23 P ps ts xs) (YsG P h F zs ps)
theorem psG_at {h:Nat→Option O} {F:Fin} {zs ps:List Nat} {ts:List TypeId} {xs:List (Option E)}:PsG P h F zs ts xs ps=(zs.any (fun z=>ps.contains z)=false∧OptK (z23 P ps ts xs) (YsG P h F zs ps)):=propext Iff.rfl
def XsG (P:Program) (h:Nat→Option O) (F:Fin) (zs:List Nat) (ts:List TypeId) (xs:List (Option E)):Prop:=PsG P h F zs ts xs (z0O xs [])
theorem xsG_at {h:Nat→Option O} {F:Fin} {zs:List Nat} {ts:List TypeId} {xs:List (Option E)}:XsG P h F zs ts xs=PsG P h F zs ts xs (z0O xs []):=propext Iff.rfl
def FunG (P:Program) (h:Nat→Option O) (F:Fin) (args:List (Option E)):Func→Prop:=fun fn=>fn.body.isNone=false∧XsG P h F (z1s args []) fn.params.toList (args.map (Option.map (setE h)))
theorem zlQ {h:Nat→Option O} {F:Fin} {args:List (Option E)} {fn:Func}:FunG P h F args fn=(fn.body.isNone=false∧XsG P h F (z1s args []) fn.params.toList (args.map (Option.map (setE h)))):=propext Iff.rfl
theorem zbw {h:Nat→Option O} {F:Fin} {args:List (Option E)} {g:FuncId} (hh:OptK P.funcs[g]? (FunG P h F args)):∃ fn ys os,P.funcs[g]? = some fn∧fn.body.isNone=false∧(z1s args []).any (fun z=>(z0O (args.map (Option.map (setE h))) []).contains z)=false ∧
  z23 P (z0O (args.map (Option.map (setE h))) []) fn.params.toList (args.map (Option.map (setE h)))=some ys∧z1o P h (z0O (args.map (Option.map (setE h))) [])=some os∧F (z1s args []) (z0O (args.map (Option.map (setE h))) []) ys os:=by
 cases hfn:P.funcs[g]? with
 | none=>rw [hfn] at hh;cases hh
 | some fn=>
  rw [hfn,z2f] at hh;obtain ⟨hb,hd,hh⟩:=hh;cases hy:z23 P (z0O (args.map (Option.map (setE h))) []) fn.params.toList (args.map (Option.map (setE h))) with
  | none=>rw [hy] at hh;cases hh
  | some ys=>
   rw [hy,z2f,zg5] at hh;cases ho:z1o P h (z0O (args.map (Option.map (setE h))) []) with
   | none=>rw [ho] at hh;cases hh
   | some os=>
    rw [ho,z2f] at hh;exact ⟨fn,ys,os,rfl,hb,hd,hy,rfl,hh⟩
def EF (P:Program) (gl:Nat→Option (List D)) (tb:World→Prop) (base:Nat) (g:FuncId) (K:Eff→Prop):Fin:=fun zs ps ys os=>zix P gl tb g ys os (AnsK base zs ps os K)
theorem eF_at {base:Nat} {g:FuncId} {K:Eff→Prop} {zs ps:List Nat} {ys:List E} {os:List O}:EF P gl tb base g K zs ps ys os=zix P gl tb g ys os (AnsK base zs ps os K):=propext Iff.rfl
theorem zjL {h:Nat→Option O} {base:Nat} {g:FuncId} {args:List (Option E)} {K:Eff→Prop}:ziw P gl tb h base (some (.e (.one (.d (.leaf (.func (.func g) #[] #[])))))) args K=OptK P.funcs[g]? (FunG P h (EF P gl tb base g K) args):=by
 apply propext;constructor
 ·rintro ⟨g',fn,ys,os,hf,hfn,hb,hd,hy,ho,R,hc,hR⟩;injection hf with hf;injection hf with hf;injection hf with hf;injection hf with hf;injection hf with hf;injection hf with hf
  injection hf with hf;subst hf;rw [hfn,z2f];refine ⟨hb,hd,?_⟩;rw [hy,z2f,zg5,ho,z2f];exact ⟨R,hc,hR⟩
 ·intro hh;obtain ⟨fn,ys,os,hfn,hb,hd,hy,ho,R,hc,hR⟩:=zbw hh;exact ⟨g,fn,ys,os,rfl,hfn,hb,hd,hy,ho,R,hc,hR⟩
theorem zjY {g:FuncId} {ys:List E} {os:List O} {t:T} {ws os':List O} {K:T→List O→List O→Prop} (h:z0M P gl tb g ys os t ws os') (hK:K t ws os'):zix P gl tb g ys os K:=⟨_,h.toR,by rintro t ws os' ⟨rfl,rfl,rfl⟩;exact hK⟩
theorem z4o {g:FuncId} {ys:List E} {os:List O} {R K:T→List O→List O→Prop} (h:z1Y P gl tb g ys os R) (hK:∀ t ws os',R t ws os'→K t ws os'):zix P gl tb g ys os K:=⟨_,h,hK⟩
theorem zhw {b:Bool} {KT KF:Unit→Prop} (ht:b=true→KT ()) (hf:b=false→KF ()):GdK (some b) KT KF:=by
 cases b with
 | true=>exact ht rfl
 | false=>exact hf rfl
theorem zd9 {x y:Code} {Q:Ex→SF→Prop} {s:SF} {b:Bool} (ht:b=true→WpC P gl tb sz x Q s) (hf:b=false→WpC P gl tb sz y Q s):zdm P gl tb sz x y Q s b:=by
 cases b with
 | true=>exact ht rfl
 | false=>exact hf rfl
theorem zcd (hN:z1j P) {Q:Ex→SF→Prop} {s:SF} {id:Nat} (h:∀ Q',Hd Q' Q→z5I P gl tb sz ops ops.toList (Q' .normal) s):WpC P gl tb sz (.region id ops false) Q s:=z8r hN (h Q ⟨rfl⟩)
theorem zkQ {cc:Operand} {x y:Code} {Q:Ex→SF→Prop} {s:SF} (h:∀ Q',Hd Q' Q→OptK (bool? (valOf gl s.env cc)) (zdm P gl tb sz x y Q' s)):WpC P gl tb sz (.cond cc x y) Q s:=z1B fun Q' e=>h Q' ⟨e⟩
theorem atQ {Q Q':Ex→SF→Prop} {e:Ex} {s:SF} (h:Hd Q' Q) (k:Q e s):Q' e s:=by rw [h.eq];exact k
theorem z0N (R:SF→Prop) {x y:Code} {Q:Ex→SF→Prop} {s:SF} (h:∀ Q',Hd Q' (CutK R Q)→WpC P gl tb sz x Q' s) (k:∀ s',R s'→WpC P gl tb sz y Q s'):WpC P gl tb sz (.seq x y) Q s:=z2v R (h _ ⟨rfl⟩) k
abbrev Ans:=FuncId×List E×List O×T×List O×List O
def z4s (tab:List Ans) (a:Ans):Prop:=∀ b∈tab,b.1=a.1→b.2.1=a.2.1→b.2.2.1=a.2.2.1→b.2.2.2=a.2.2.2
theorem z0f {a:Ans}:z4s [] a:=fun b hb=>by cases hb
theorem z7V {a b:Ans} {tab:List Ans} (h:b.1=a.1→b.2.1=a.2.1→b.2.2.1=a.2.2.1→b.2.2.2=a.2.2.2) (k:z4s tab a):z4s (b::tab) a:=fun c hc=>by
 rcases List.mem_cons.1 hc with rfl|hc
 ·exact h
 ·exact k c hc
def zkc (P:Program) (gl:Nat→Option (List D)) (tb:World→Prop) (tab:List Ans) (g:FuncId) (ys:List E) (os:List O) (K:T→List O→List O→Prop):Prop:=∃ t ws os',z0M P gl tb g ys os t ws os'∧z4s tab (g,ys,os,t,ws,os')∧K t ws os'
def AnsL (base:Nat) (zs ps:List Nat) (g:FuncId) (ys:List E) (os:List O) (tab:List Ans) (K:Eff→List Ans→Prop):T→List O→List O→Prop:=fun t ws os'=>zit t ws os os'∧K (zhN base zs ps t ws os') ((g,ys,os,t,ws,os')::tab)
theorem zm8 {base:Nat} {zs ps:List Nat} {g:FuncId} {ys:List E} {os:List O} {tab:List Ans} {K:Eff→List Ans→Prop} {t:T} {ws os':List O}:AnsL base zs ps g ys os tab K t ws os'=(zit t ws os os'∧K (zhN base zs ps t ws os') ((g,ys,os,t,ws,os')::tab)):=propext Iff.rfl
def LF (P:Program) (gl:Nat→Option (List D)) (tb:World→Prop) (base:Nat) (g:FuncId) (tab:List Ans) (K:Eff→List Ans→Prop):Fin:=fun zs ps ys os=>zkc P gl tb tab g ys os (AnsL base zs ps g ys os tab K)
theorem lF_at {base:Nat} {g:FuncId} {tab:List Ans} {K:Eff→List Ans→Prop} {zs ps:List Nat} {ys:List E} {os:List O}:LF P gl tb base g tab K zs ps ys os=zkc P gl tb tab g ys os (AnsL base zs ps g ys os tab K):=propext Iff.rfl
theorem zjZ {tab:List Ans} {g:FuncId} {ys:List E} {os:List O} {t:T} {ws os':List O} {K:T→List O→List O→Prop} (h:z0M P gl tb g ys os t ws os') (hc:z4s tab (g,ys,os,t,ws,os')) (hK:K t ws os'):zkc P gl tb tab g ys os K:=⟨t,ws,os',h,hc,hK⟩
def zlH (P:Program) (gl:Nat→Option (List D)) (tb:World→Prop) (tab:List Ans) (h:Nat→Option O) (base:Nat) (f:Option T) (args:List (Option E)) (K:Eff→List Ans→Prop):Prop:=
 match f with
 | some (.e (.one (.d (.leaf (.func (.func g) fs ks)))))=>(fs.size=0∧ks.size=0)∧OptK P.funcs[g]? (FunG P h (LF P gl tb base g tab K) args)
 | _=>False
theorem zjr {tab:List Ans} {h:Nat→Option O} {base:Nat} {g:FuncId} {args:List (Option E)} {K:Eff→List Ans→Prop}:zlH P gl tb tab h base (some (.e (.one (.d (.leaf (.func (.func g) #[] #[])))))) args K=OptK P.funcs[g]? (FunG P h (LF P gl tb base g tab K) args):=propext ⟨fun h=>h.2,fun h=>⟨⟨rfl,rfl⟩,h⟩⟩
def NoTab (tab:List Ans) (K:Eff→List Ans→Prop):Eff→Prop:=fun e=>K e tab
theorem ze4 {tab:List Ans} {K:Eff→List Ans→Prop} {e:Eff}:NoTab tab K e=K e tab:=propext Iff.rfl
def zhJ (P:Program) (gl:Nat→Option (List D)) (tb:World→Prop) (tab:List Ans) (op:Op) (base:Nat) (s:S) (K:Eff→List Ans→Prop):Prop:=
 match op with
 | .call {callee:= .value f,args:=args,argTypes:=ts}=>zlH P gl tb tab (look s.heap) base (valOf gl (look s.env) f) (args.toList.map fun x=>e? (valOf gl (look s.env) x)) K
 | op=>OptK (ev P X0 base op (valOf gl (look s.env)) (look s.heap)) (NoTab tab K)
def z57 (g:Log) (K:S×List Log→Prop):S×List Log→Prop:=fun r=>K (r.1,g::r.2)
theorem zfx {g:Log} {K:S×List Log→Prop} {s:S} {gs:List Log}:z57 g K (s,gs)=K (s,g::gs):=propext Iff.rfl
def zjf:Log:=⟨[],[],[],⟨.undef,[],[]⟩⟩
def LogC (P:Program) (gl:Nat→Option (List D)) (tb:World→Prop) (sz:Nat) (ops:Array Oper):List Oper→List Ans→S→(S×List Log→Prop)→Prop
 | [],tab,s,K=>K (s,[])
 | o::l,tab,s,K=>GdK (gdOf ops o (look s.env)) (fun _=>if fits sz o.dst then zhJ P gl tb tab o.op (nm o.dst) s (fun e tab'=>LogC P gl tb sz ops l tab' (apply e o.dst s) (z57 (z3s gl o s e) K)) else False)
  (fun _=>if fits sz o.dst then LogC P gl tb sz ops l tab ⟨putE o.dst .undef s.env,s.heap⟩ (z57 zjf K) else False)
def zk9 (P:Program) (gl:Nat→Option (List D)) (tb:World→Prop) (sz:Nat) (ops:Array Oper) (o:Oper) (l:List Oper) (s:S) (K:S×List Log→Prop):Eff→List Ans→Prop:=fun e tab'=>LogC P gl tb sz ops l tab' (apply e o.dst s) (z57 (z3s gl o s e) K)
theorem zeb {o:Oper} {l:List Oper} {s:S} {K:S×List Log→Prop} {e:Eff} {tab:List Ans}:zk9 P gl tb sz ops o l s K e tab=LogC P gl tb sz ops l tab (apply e o.dst s) (z57 (z3s gl o s e) K):=propext Iff.rfl
def zkJ (P:Program) (gl:Nat→Option (List D)) (tb:World→Prop) (sz:Nat) (ops:Array Oper) (o:Oper) (l:List Oper) (tab:List Ans) (s:S) (K:S×List Log→Prop):Unit→Prop:=fun _=>if fits sz o.dst then zhJ P gl tb tab o.op (nm o.dst) s (zk9 P gl tb sz ops o l s K) else False
theorem zbn {o:Oper} {l:List Oper} {tab:List Ans} {s:S} {K:S×List Log→Prop} {u:Unit}:zkJ P gl tb sz ops o l tab s K u=if fits sz o.dst then zhJ P gl tb tab o.op (nm o.dst) s (zk9 P gl tb sz ops o l s K) else False:=propext Iff.rfl
def zkK (P:Program) (gl:Nat→Option (List D)) (tb:World→Prop) (sz:Nat) (ops:Array Oper) (o:Oper) (l:List Oper) (tab:List Ans) (s:S) (K:S×List Log→Prop):Unit→Prop:=fun _=>if fits sz o.dst then LogC P gl tb sz ops l tab ⟨putE o.dst .undef s.env,s.heap⟩ (z57 zjf K) else False
theorem zbo {o:Oper} {l:List Oper} {tab:List Ans} {s:S} {K:S×List Log→Prop} {u:Unit}:zkK P gl tb sz ops o l tab s K u=if fits sz o.dst then LogC P gl tb sz ops l tab ⟨putE o.dst .undef s.env,s.heap⟩ (z57 zjf K) else False:=propext Iff.rfl
theorem zjn {tab:List Ans} {s:S} {K:S×List Log→Prop}:LogC P gl tb sz ops [] tab s K=K (s,[]):=propext Iff.rfl
theorem zbl {o:Oper} {l:List Oper} {tab:List Ans} {s:S} {K:S×List Log→Prop}:LogC P gl tb sz ops (o::l) tab s K=GdK (gdOf ops o (look s.env)) (zkJ P gl tb sz ops o l tab s K) (zkK P gl tb sz ops o l tab s K):=propext Iff.rfl
theorem zlU {X:z1F} {base:Nat} {op:Op} {ρ:Operand→Option T} {h:Nat→Option O} {e:Eff} (hop:∀ f args ts,op ≠ .call {callee:= .value f,args:=args,argTypes:=ts}) (he:ev P X0 base op ρ h=some e):ev P X base op ρ h=some e:=by
 cases op with
 | call cl=>
  obtain ⟨callee,args,ts⟩:=cl;cases callee with
  | value f=>exact absurd rfl (hop f args ts)
  | _=>exact he
 | _=>exact he
open Classical in
theorem zdv:∀ {tab:List Ans} (a:Ans),a∈tab→(∀ b∈tab,b.1=a.1→b.2.1=a.2.1→b.2.2.1=a.2.2.1→b.2.2.2=a.2.2.2)→tabX tab a.1 a.2.1 a.2.2.1=some a.2.2.2
 | [],a,h,_=>by cases h
 | c::tab,a,h,hc=>by
  simp only [tabX];by_cases hk:c.1=a.1∧c.2.1=a.2.1∧c.2.2.1=a.2.2.1
  ·rw [if_pos hk,hc c (by simp) hk.1 hk.2.1 hk.2.2]
  ·rw [if_neg hk];rcases List.mem_cons.1 h with rfl|h
   ·exact absurd ⟨rfl,rfl,rfl⟩ hk
   ·exact zdv a h fun b hb=>hc b (List.mem_cons_of_mem _ hb)
theorem zgk:∀ {tab:List Ans},(∀ a∈tab,z0M P gl tb a.1 a.2.1 a.2.2.1 a.2.2.2.1 a.2.2.2.2.1 a.2.2.2.2.2)→z1J P gl tb (tabX tab)
 | [],_=>fun g' a' o' t' ws' os'' hx=>by cases hx
 | c::tab,h=>fun g' a' o' t' ws' os'' hx=>by
  simp only [tabX] at hx;split at hx
  ·rename_i hh;obtain ⟨c1,c2,c3,c4,c5,c6⟩:=c;obtain ⟨rfl,rfl,rfl⟩:=hh;simp only [Option.some.injEq,Prod.mk.injEq] at hx;obtain ⟨rfl,rfl,rfl⟩:=hx;exact h _ (by simp)
  ·exact zgk (tab:=tab) (fun a ha=>h a (List.mem_cons_of_mem _ ha)) g' a' o' t' ws' os'' hx
structure zc6 (P:Program) (gl:Nat→Option (List D)) (tb:World→Prop) (tab:List Ans):Prop where
 ok:∀ a∈tab,z0M P gl tb a.1 a.2.1 a.2.2.1 a.2.2.2.1 a.2.2.2.2.1 a.2.2.2.2.2
 cons:∀ a∈tab,∀ b∈tab,b.1=a.1→b.2.1=a.2.1→b.2.2.1=a.2.2.1→b.2.2.2=a.2.2.2
theorem zc6.add {tab:List Ans} {a:Ans} (h:zc6 P gl tb tab) (hc:z0M P gl tb a.1 a.2.1 a.2.2.1 a.2.2.2.1 a.2.2.2.2.1 a.2.2.2.2.2) (hk:z4s tab a):zc6 P gl tb (a::tab):=
 ⟨fun b hb=>by
  rcases List.mem_cons.1 hb with e|k
  ·rw [e];exact hc
  ·exact h.ok b k,fun b hb c hc' e1 e2 e3=>by
  rcases List.mem_cons.1 hb with e|k
  ·subst e;rcases List.mem_cons.1 hc' with e'|k'
   ·rw [e']
   ·exact hk c k' e1 e2 e3
  ·rcases List.mem_cons.1 hc' with e'|k'
   ·subst e';exact (hk b k e1.symm e2.symm e3.symm).symm
   ·exact h.cons b k c k' e1 e2 e3⟩
theorem z5Z:∀ (l:List Oper) (tab:List Ans) (s:S) (K:S×List Log→Prop),zc6 P gl tb tab→LogC P gl tb sz ops l tab s K→∃ tab',(∀ a∈tab,a∈tab')∧zc6 P gl tb tab'∧∃ s' gs,z1n P gl (tabX tab') sz ops l s=some (s',gs)∧K (s',gs)
 | [],tab,s,K,ht,h=>⟨tab,fun a h=>h,ht,s,[],rfl,h⟩
 | o::l,tab,s,K,ht,h=>by
  rw [zbl] at h;cases hg:gdOf ops o (look s.env) with
  | none=>rw [hg] at h;cases h
  | some b=>
   rw [hg] at h;cases b with
   | false=>
    rw [z7H,zbo] at h;split at h
    ·rename_i hf;obtain ⟨tab',h1,h2,s',gs,h3,h4⟩:=z5Z l tab _ _ ht h;refine ⟨tab',h1,h2,s',_,?_,h4⟩;simp only [z1n,z3D,hg,hf,if_true,h3];rfl
    ·cases h
   | true=>
    rw [z9V,zbn] at h;split at h
    ·rename_i hf;have plain:∀ (tab1:List Ans) (e:Eff),zc6 P gl tb tab1→(∀ a∈tab,a∈tab1)→zk9 P gl tb sz ops o l s K e tab1→(∀ tab',(∀ a∈tab1,a∈tab')→zc6 P gl tb tab'→ev P (tabX tab') (nm o.dst) o.op (valOf gl (look s.env)) (look s.heap)=some e) →
       ∃ tab',(∀ a∈tab,a∈tab')∧zc6 P gl tb tab'∧∃ s' gs,z1n P gl (tabX tab') sz ops (o::l) s=some (s',gs)∧K (s',gs):=by
      intro tab1 e ht1 hsub hk hev;rw [zeb] at hk;obtain ⟨tab',h1,h2,s',gs,h3,h4⟩:=z5Z l tab1 _ _ ht1 hk;refine ⟨tab',fun a ha=>h1 a (hsub a ha),h2,s',_,?_,h4⟩;simp only [z1n,z3D,hg,hf,if_true,hev tab' h1 h2,h3]
     unfold zhJ at h;split at h
     ·rename_i f args ts hop;unfold zlH at h;split at h
      ·rename_i g fs ks hfv;obtain ⟨⟨hfs,hks⟩,h⟩:=h;obtain ⟨fn,ys,os,hfn,hb,hd,hy,ho,t,ws,os',hc,hcons,hok,hk⟩:=zbw h;refine plain _ _ (ht.add (a:=(g,ys,os,t,ws,os')) hc hcons) (fun a ha=>List.mem_cons_of_mem _ ha) hk fun tab' hs hT=>?_
       have hX:tabX tab' g ys os=some (t,ws,os'):=zdv (g,ys,os,t,ws,os') (hs _ (by simp)) (fun b hb=>hT.cons _ (hs _ (by simp)) b hb);rw [hop];simp only [ev,hfv,z5A,hfn,hb];have hd':¬((z1s (args.toList.map fun x=>e? (valOf gl (look s.env) x)) []).any (fun z=>(z0O ((args.toList.map fun x=>e? (valOf gl (look s.env) x)).map (Option.map (setE (look s.heap)))) []).contains z)=true):=by rw [hd];simp
       rw [if_neg (by simp [hfs,hks]),if_neg hd',hy,ho];simp only [hX];obtain ⟨k1,k2,k3,k4,k5⟩:=hok;rw [if_pos ⟨k1,k2,k3,k4,k5⟩];rfl
      ·cases h
     ·rename_i hop;cases he:ev P X0 (nm o.dst) o.op (valOf gl (look s.env)) (look s.heap) with
      | none=>rw [he] at h;cases h
      | some e=>
       rw [he,z2f,ze4] at h;exact plain tab e ht (fun a h=>h) h fun tab' _ _=>zlU (fun f args ts e=>hop f args ts e) he
    ·cases h
theorem zeU (hm:P.follows .mixedOrders=true) (hN:z1j P) {Q:Ex→SF→Prop} {s:SF} {id:Nat} (ks hs:List Nat) (hd:zbI ops=true) (h:∀ Q',Hd Q' Q→LogC P gl tb sz ops ops.toList [] (snap ks hs s) (zkb ops Q')):WpC P gl tb sz (.region id ops true) Q s:=by
 obtain ⟨tab',_,hT,s',gs,hr,hK⟩:=z5Z ops.toList [] _ _ ⟨fun a h=>(by cases h),fun a h=>(by cases h)⟩ (h Q ⟨rfl⟩);refine z1f hm hN ks hs (zgk hT.ok) hd fun Q' e=>?_
 subst e;rw [hr];exact hK
theorem zej (own:Bool) {g:FuncId} {fn:Func} {cd:Code} {args:List E} {os os':List O} {t:T} {ws:List O} (hfn:P.funcs[g]? = some fn) (hb:fn.body=some cd) (hlen:args.length≤fn.ntmps)
  (h:WpC P gl tb fn.ntmps cd (EndK P own fn.results.toList fn.resultTypes.toList os (fun t' ws' os''=>t'=t∧ws'=ws∧os''=os')) ⟨z6v args,z1P os⟩):z0M P gl tb g args os t ws os':=by
 exact fun W0 im w vals ch lo hI hargs=>(z4J own hfn hb hlen h W0 im w vals ch lo hI hargs).mono (by
  rintro e w' ⟨t',ws',os'',⟨rfl,rfl,rfl⟩,hp⟩;exact hp)
end
attribute [simp] snap z3s look apply putE z1v z0Y setL z3T rdOf Op.operands Call.operands z1I z2l z1a z1A z1N meet Log.men T.men E.men C.men O.men z4I zjf zja zhN zm9 osG_at zg5 psG_at xsG_at zlQ eF_at zjL zm8 lF_at zjr ze4 zhJ zfx zeb zbn zbo zjn zbl z1o zcz z2N O.plain O.zbs z4q named
end Am
end Go.Proofs.YtgmppconibklcaaGreatDoor

set_option linter.defProp false
namespace Go.Proofs.YtgmppconibklcaaGreatDoor
open Go Go.RowKit
namespace Am
section
variable {gl:Nat→Option (List D)} {tb:World→Prop} {sz:Nat} {ops:Array Oper}
theorem sq_ {x y:Code} {Q:Ex→SF→Prop} {s:SF} (h:WpC Tryz.prog gl tb sz x (SeqK Tryz.prog gl tb sz y Q) s):WpC Tryz.prog gl tb sz (.seq x y) Q s:=z0b h
theorem rg_ {Q:Ex→SF→Prop} {s:SF} {id:Nat} (h:∀ Q',Hd Q' Q→z5I Tryz.prog gl tb sz ops ops.toList (Q' .normal) s):WpC Tryz.prog gl tb sz (.region id ops false) Q s:=zcd z0d h
theorem if_ {cc:Operand} {x y:Code} {Q:Ex→SF→Prop} {s:SF} (h:∀ Q',Hd Q' Q→OptK (bool? (valOf gl s.env cc)) (zdm Tryz.prog gl tb sz x y Q' s)):WpC Tryz.prog gl tb sz (.cond cc x y) Q s:=zkQ h
theorem bk_ {id:Nat} {b:Code} {Q:Ex→SF→Prop} {s:SF} (h:WpC Tryz.prog gl tb sz b (BlkK id Q) s):WpC Tryz.prog gl tb sz (.block id b) Q s:=z6Z h
theorem dr_ {Q:Ex→SF→Prop} {s:SF} {id:Nat} (ks hs:List Nat) (hd:zbI ops=true) (h:∀ Q',Hd Q' Q→LogC Tryz.prog gl tb sz ops ops.toList [] (snap ks hs s) (zkb ops Q')):WpC Tryz.prog gl tb sz (.region id ops true) Q s:=zeU z0V z0d ks hs hd h
theorem cd_ {tab:List Ans} {g:FuncId} {ys:List E} {os:List O} {t:T} {ws os':List O} {K:T→List O→List O→Prop} (h:z0M Tryz.prog gl tb g ys os t ws os') (hK:K t ws os') (hc:z4s tab (g,ys,os,t,ws,os')):zkc Tryz.prog gl tb tab g ys os K:=zjZ h hc hK
theorem ct_ {g:FuncId} {ys:List E} {os:List O} {t:T} {ws os':List O} {K:T→List O→List O→Prop} (h:z0M Tryz.prog gl tb g ys os t ws os') (hK:K t ws os'):zix Tryz.prog gl tb g ys os K:=zjY h hK
theorem cn_ {a b:Ans} {tab:List Ans} (h:¬b.1=a.1) (k:z4s tab a):z4s (b::tab) a:=z7V (fun e=>absurd e h) k
theorem cc_ {a b:Ans} {tab:List Ans} (h:b.1=a.1→b.2.1=a.2.1→b.2.2.1=a.2.2.1→b.2.2.2=a.2.2.2) (k:z4s tab a):z4s (b::tab) a:=z7V h k
theorem bs_ {b:Bool} {KT KF:Unit→Prop} (ht:b=true→KT ()) (hf:b=false→KF ()):GdK (some b) KT KF:=zhw ht hf
theorem cs_ {x y:Code} {Q:Ex→SF→Prop} {s:SF} {b:Bool} (ht:b=true→WpC Tryz.prog gl tb sz x Q s) (hf:b=false→WpC Tryz.prog gl tb sz y Q s):zdm Tryz.prog gl tb sz x y Q s b:=zd9 ht hf
end
theorem y1 {p:Prop} [Decidable p]:(decide p=true)=p:=decide_eq_true_eq
theorem y2 {p:Prop} [Decidable p]:(decide p=false)↔¬p:=decide_eq_false_iff_not
theorem y3 {α:Type} [BEq α] [LawfulBEq α] {a b:α}:(a==b)=true↔a=b:=beq_iff_eq
theorem y4 {α:Type} [BEq α] [LawfulBEq α] {a b:α}:(a==b)=false↔a≠b:=beq_eq_false_iff_ne
theorem y5 {α:Type} [BEq α] [LawfulBEq α] {a b:α}:(a != b)=true↔a≠b:=bne_iff_ne
theorem y6 {b:Bool}:((!b)=true)↔b=false:=by simp
theorem y7 {b:Bool}:((!b)=false)↔b=true:=by simp
theorem y8 {a b:Bool}:((a&&b)=true)=(a=true∧b=true):=Bool.and_eq_true a b
theorem y9 {p:Prop}:(¬¬p)↔p:=Classical.not_not
def sk_:=And.intro @z02<|And.intro @z03<|And.intro @z00<|And.intro @z01<|And.intro @ziT<|And.intro @zk0<|And.intro @zhd<|And.intro @zez<|And.intro @zaN<|And.intro @zc1<|And.intro @z92 @zbT
def hk_:=And.intro @bne_f<|And.intro @y1<|And.intro @y2<|And.intro @y3<|And.intro @y4<|And.intro @y5<|And.intro @y6<|And.intro @y7<|And.intro @y8 @y9
end Am
end Go.Proofs.YtgmppconibklcaaGreatDoor

namespace Go.Proofs.YtgmppconibklcaaGreatDoor
open Go Go.RowKit
namespace Am
def nuL (k:IntKind) (l:List Nat):List D:=l.map fun (x:Nat)=> .leaf (.int k (x:Int))
def nuR (k:IntKind) (l:List Nat):D:= .row 1 (nuL k l)
@[simp] theorem z7j (k:IntKind) (l:List Nat):D.row 1 (nuL k l)=nuR k l:=rfl
@[simp] theorem z60 (l:List Nat):limD l=nuR .u32 l:=by simp [nuR,nuL,limD,List.map_map,-z7j]
@[simp] theorem nuL_len (k:IntKind) (l:List Nat):(nuL k l).length=l.length:=by simp [nuL]
@[simp] theorem nuL_app (k:IntKind) (l m:List Nat):nuL k l++nuL k m=nuL k (l++m):=by simp [nuL]
@[simp] theorem gr_one (q:Nat) (k:IntKind) (x:Nat):C.gr q 1 [D.leaf (.int k (x:Int))]=C.gr q 1 (nuL k [x]):=rfl
theorem ze1 (k:IntKind) (l:List Nat):nuL k l=l.flatMap fun (x:Nat)=>[.leaf (.int k (x:Int))]:=by
 unfold nuL;induction l with
 | nil=>rfl
 | cons x l ih=>rw [List.map_cons,List.flatMap_cons,ih];rfl
section
variable {t e:TypeId}
theorem zbD (hu:Tryz.prog.underlying t=some (.slice e)) (k:IntKind) (l:List Nat):z45 Tryz.prog t (some (.e (.one (.d (nuR k l)))))=some l.length:=by simp [z45,hu,row?,nuR,-z7j]
theorem z4l (hu:Tryz.prog.underlying t=some (.slice e)) (hz:z0h Tryz.prog e=1) (k:IntKind) (l:List Nat) (i:Int):z0u Tryz.prog t (some (.e (.one (.d (nuR k l))))) i=if 0≤i∧i.toNat<l.length then some (.ep (nuL k (l.drop i.toNat))) else none:=by
 simp [z0u,hu,row?,nuR,zdg,hz,nuL,List.map_drop,-z7j]
theorem zd1 (hu:Tryz.prog.underlying t=some (.slice e)) (hz:z0h Tryz.prog e=1) (k:IntKind) (l:List Nat) (lo hi:Option (Option T)):z3S Tryz.prog t (some (.e (.one (.d (nuR k l))))) lo hi=match bound lo 0,bound hi l.length with
  | some i,some j=>if i≤j∧j≤l.length then some (.d (nuR k ((l.drop i).take (j-i)))) else none
  | _,_=>none:=by
 have:=z7P (P:=Tryz.prog) (t:=t) (e:=e) (f:=fun x:Nat=>[D.leaf (.int k (x:Int))]) (s:=1) (fun _=>rfl) (by decide) hu hz l lo hi;rw [←ze1,z7j] at this;rw [this];cases bound lo 0 with
 | none=>rfl
 | some i=>
  cases bound hi l.length with
  | none=>rfl
  | some j=>simp only [←ze1,z7j]
end
@[simp high] theorem loadE_nu32 (h:Nat→Option O) (x:Nat) (l:List Nat):z2j Tryz.prog h 208 (.ep (nuL .u32 (x::l)))=some (.one (.d (.leaf (.int .u32 (x:Int))))):=by simp [z2j,nuL]
@[simp high] theorem loadE_nu64 (h:Nat→Option O) (x:Nat) (l:List Nat):z2j Tryz.prog h 180 (.ep (nuL .u64 (x::l)))=some (.one (.d (.leaf (.int .u64 (x:Int))))):=by simp [z2j,nuL]
@[simp high] theorem evLen_nu32 (k:IntKind) (l:List Nat):z45 Tryz.prog 24 (some (.e (.one (.d (nuR k l)))))=some l.length:=zbD (e:=208) (by simp) k l
@[simp high] theorem evLen_nu64 (k:IntKind) (l:List Nat):z45 Tryz.prog 151 (some (.e (.one (.d (nuR k l)))))=some l.length:=zbD (e:=180) (by simp) k l
@[simp high] theorem zg2 (k:IntKind) (l:List Nat) (i:Int):z0u Tryz.prog 24 (some (.e (.one (.d (nuR k l))))) i=if 0≤i∧i.toNat<l.length then some (.ep (nuL k (l.drop i.toNat))) else none:=z4l (e:=208) (by simp) (by simp) k l i
@[simp high] theorem zg1 (k:IntKind) (l:List Nat) (i:Int):z0u Tryz.prog 151 (some (.e (.one (.d (nuR k l))))) i=if 0≤i∧i.toNat<l.length then some (.ep (nuL k (l.drop i.toNat))) else none:=z4l (e:=180) (by simp) (by simp) k l i
@[simp high] theorem zkB (k:IntKind) (l:List Nat) (lo hi:Option (Option T)):z3S Tryz.prog 151 (some (.e (.one (.d (nuR k l))))) lo hi=match bound lo 0,bound hi l.length with
  | some i,some j=>if i≤j∧j≤l.length then some (.d (nuR k ((l.drop i).take (j-i)))) else none
  | _,_=>none:=zd1 (e:=180) (by simp) (by simp) k l lo hi
@[simp] theorem ge_1 (n:Nat):((0:Int)≤(n:Int)+1):=by omega
@[simp] theorem wrap_0:IntKind.wrap .i64 0=0:=by decide
@[simp] theorem wrap_1:IntKind.wrap .i64 1=1:=by decide
@[simp] theorem wrap_2:IntKind.wrap .i64 2=2:=by decide
@[simp] theorem range_2:List.range 2=[0,1]:=rfl
@[simp] theorem range_3:List.range 3=[0,1,2]:=rfl
@[simp] theorem range_4:List.range 4=[0,1,2,3]:=rfl
@[simp] theorem range_5:List.range 5=[0,1,2,3,4]:=rfl
@[simp] theorem range_6:List.range 6=[0,1,2,3,4,5]:=rfl
@[simp] theorem range_7:List.range 7=[0,1,2,3,4,5,6]:=rfl
@[simp] theorem range_8:List.range 8=[0,1,2,3,4,5,6,7]:=rfl
@[simp] theorem range_9:List.range 9=[0,1,2,3,4,5,6,7,8]:=rfl
@[simp] theorem range_10:List.range 10=[0,1,2,3,4,5,6,7,8,9]:=rfl
@[simp] theorem range_11:List.range 11=[0,1,2,3,4,5,6,7,8,9,10]:=rfl
@[simp] theorem range_12:List.range 12=[0,1,2,3,4,5,6,7,8,9,10,11]:=rfl
@[simp] theorem cls_mk (c t:Int) (k:Bool) (b:List UInt8) (l:List Nd):(Nd.mk c t k b l).cls=c:=rfl
@[simp] theorem tag_mk (c t:Int) (k:Bool) (b:List UInt8) (l:List Nd):(Nd.mk c t k b l).tag=t:=rfl
@[simp] theorem cons_mk (c t:Int) (k:Bool) (b:List UInt8) (l:List Nd):(Nd.mk c t k b l).cons=k:=rfl
@[simp] theorem zeE (c t:Int) (k:Bool) (b:List UInt8) (l:List Nd):(Nd.mk c t k b l).bytes=b:=rfl
@[simp] theorem zlK (c t:Int) (k:Bool) (b:List UInt8) (l:List Nd):(Nd.mk c t k b l).kids=l:=rfl
theorem z6H {k:Nat} (h:k≤1000000000):IntKind.wrap .i64 (k:Int)=k:=by rw [IntKind.wrap_i64];omega
theorem zdp {x:Int} (h1: -1000000000000000≤x) (h2:x≤1000000000000000):IntKind.wrap .i64 x=x:=by rw [IntKind.wrap_i64];omega
theorem z29 {α:Type} {l:List α} {k:Nat} (h:k<l.length):∃ x r,l.drop k=x::r∧l[k]? = some x∧l.take (k+1)=l.take k++[x]:=
 ⟨l[k],l.drop (k+1),List.drop_eq_getElem_cons h,List.getElem?_eq_getElem h,by rw [List.take_add_one,List.getElem?_eq_getElem h];rfl⟩
def cmpF (a b:List Nat):Nat→Int
 | 0=>0
 | n+1=>if a.getD n 0<b.getD n 0 then -1 else if b.getD n 0<a.getD n 0 then 1 else cmpF a b n
def cmpI (a b:List Nat):Int:=if a.length=b.length then cmpF a b a.length else if a.length<b.length then -1 else 1
theorem z7X {a b:List Nat}:∀ n,cmpF a b n=0↔∀ j,j<n→a.getD j 0=b.getD j 0
 | 0=>by simp [cmpF]
 | n+1=>by
  unfold cmpF;constructor
  ·intro h;split at h
   ·cases h
   ·split at h
    ·cases h
    ·intro j hj;by_cases hjn:j=n
     ·subst hjn;omega
     ·exact (z7X n).1 h j (by omega)
  ·intro h;have hn:=h n (by omega);rw [if_neg (by omega),if_neg (by omega)];exact (z7X n).2 fun j hj=>h j (by omega)
theorem zi4 {a b:List Nat}:cmpI a b=0↔a=b:=by
 unfold cmpI;by_cases hl:a.length=b.length
 ·rw [if_pos hl,z7X];constructor
  ·intro h;refine List.ext_getElem hl fun j h1 h2=>?_
   have:=h j h1
   rwa [List.getD_eq_getElem?_getD,List.getD_eq_getElem?_getD,List.getElem?_eq_getElem h1,List.getElem?_eq_getElem h2] at this
  ·rintro rfl j _;rfl
 ·rw [if_neg hl];constructor
  ·intro h;split at h<;>cases h
  ·rintro rfl;exact absurd rfl hl
def cmpN (a b:List Nat):Int:=cmpI (Nt.trim a) (Nt.trim b)
theorem z7W {a b:List Nat} (ha:Nt.Lb a) (hb:Nt.Lb b):cmpN a b=0↔Nt.vl a=Nt.vl b:=by
 unfold cmpN;rw [zi4];constructor
 ·intro h;rw [←Nt.z5K a,h,Nt.z5K]
 ·exact Nt.zax ha hb
end Am
end Go.Proofs.YtgmppconibklcaaGreatDoor

namespace Go.Proofs.YtgmppconibklcaaGreatDoor
open Go Go.RowKit
set_option maxHeartbeats 4000000 in
set_option maxRecDepth 100000 in
theorem zfR (A:Option Addr) (n c:Nat) (l:List Nat) (Av:Nat→Prop) (w:World) (h:Is w Av (.slice A n c) (limD l)) (hL:Nt.Lb l) (hz:n≤100000000):
  Calls Tryz.prog 33 #[.slice A n c] w fun e w'=>∃ v,e = .returned v∧NdAt w' (Old w) v (Dr.natN (Nt.vl l))∧Below w.heap.size w w':=by
 have H:=Lib.hid h;have HL:=Lib.hid hL;obtain ⟨K,hK⟩:∃ K,K=Nt.bl (Nt.vl l):=⟨_,rfl⟩;have HKK:=Lib.hid hK;obtain ⟨V,hV⟩:∃ V,V=w.alloc (.cells #[.int .i64 0,.int .i64 0,.bool false,.slice none 0 0,.slice none 0 0] 61):=⟨_,rfl⟩;have HB:Hid (Below w.heap.size w V):=by show Below _ _ _;rw [hV];exact (Below.refl _ w).alloc (Nat.le_refl _) _
 have HK:Hid (Blk V w.heap.size 61 #[.int .i64 0,.int .i64 0,.bool false,.slice none 0 0,.slice none 0 0]):=by show Blk _ _ _ _;rw [hV];exact Blk.new w _ _
 have hsz:=HB.out.size;have HV:=Lib.hid hV;have HIV:Hid (Is V Av (.slice A n c) (limD l)):=h.stays HB.out;clear h hL hK hV;go_enter Tryz.func33,Tryz.ntmps33
 go_upto_region 1 with fail
 rw [←HV.out]
 go_wp2_with fail
 refine (z2F A n c l Av V HIV.out HL.out hz).mono ?_;rintro e w' ⟨rfl,rfl⟩;rw [←HKK.out];obtain ⟨q0,q1,q2,q3,q4,f0,f1,f2,f3,f4⟩:=HK.out.five;by_cases hk:131072<K
 ·have hd:decide ((131072:Int)<(K:Int))=true:=decide_eq_true (by omega);have HD:=Lib.hid hk;clear hk
  go_wp2_with fail
  refine bodyPost_ret (z1G Tryz.results33 _ _ (HK.out.set5 _ _ _ _ _) rfl) rfl ⟨_,rfl,?_,?_⟩
  ·have e:Dr.natN (Nt.vl l)=Nd.nil:=by unfold Dr.natN;rw [←HKK.out];exact if_pos HD.out
   rw [e];exact ⟨_,_,rfl,Is.z1H _ _,Is.z2T _ _⟩
  ·exact z0s HB.out (Nat.le_refl _) _ _ _ _ _
 ·have hd:decide ((131072:Int)<(K:Int))=false:=decide_eq_false (by omega);have hK9:K≤131072:=by omega
  have HD:=Lib.hid hk;clear hk
  go_wp2_with fail
  refine (z2F A n c l Av _ HIV.out HL.out hz).mono ?_;rintro e w' ⟨rfl,rfl⟩;rw [←HKK.out];obtain ⟨j,hj⟩:∃ j,j=K / 8:=⟨_,rfl⟩;have hj2:(K:Int) / 8=(j:Int):=by omega
  have hj9:(j:Int)≤16384:=by omega
  have HJ:=Lib.hid hj;clear hj
  go_wp2_with fail
  have hw:=zbf A n c (j+1) l Av V HIV.out HL.out hz (by omega) (by rw [←HKK.out];have:=HJ.out;omega);have ej:((j+1:Nat):Int)=(j:Int)+1:=by omega
  rw [ej] at hw;refine hw.mono ?_;clear hw ej;rintro e V2 ⟨v,rfl,ho2,hb2⟩;obtain ⟨A2,c2,rfl,_⟩:=z0K ho2;have HO2:Hid (Is V2 (Old V) (.slice A2 (j+1) c2) (z05 (Nt.beN (j+1) (Nt.vl l)))):=z1T ho2 (fun g hg=>hg);have HB2:=Lib.hid hb2;clear ho2 hb2 q0 q1 q2 q3 q4 f0 f1 f2 f3 f4
  go_wp2_with fail
  refine (z1e 2 A2 (j+1) c2 _ _ _ HO2.out (by omega)).mono ?_;rintro e w9 ⟨v,rfl,h9,hb9⟩;have H9:=Lib.hid h9;obtain ⟨A1,c1,A3,c3,rfl⟩:=h9.form;have HB9:=Lib.hid (HB2.out.trans (hb9.mono HB2.out.size));have HK9:=Lib.hid (HK.out.below HB9.out HK.out.lt);obtain ⟨q0,q1,q2,q3,q4,f0,f1,f2,f3,f4⟩:=HK9.out.five;have hws:w.heap.size<V2.heap.size:=by have h3:=HB2.out.size;have h4:=HK.out.lt;omega
  clear h9 hb9
  go_wp2_with fail
  refine bodyPost_ret (z1G Tryz.results33 _ _ (HK9.out.set5 _ _ _ _ _) rfl) rfl ⟨_,rfl,?_,?_⟩
  ·have e:Dr.natN (Nt.vl l)=Dr.prim 2 (Nt.beN (j+1) (Nt.vl l)):=by unfold Dr.natN;rw [←HKK.out,if_neg HD.out,←HJ.out]
   rw [e];exact (H9.out.set5 (by show w.heap.size<_;exact hws) _ _ _ _ _).less (fun b hb _=>Nat.lt_of_lt_of_le hb (Nat.le_of_lt hws))
  ·exact z0s (HB.out.trans (HB9.out.mono hsz)) (Nat.le_refl _) _ _ _ _ _
end Go.Proofs.YtgmppconibklcaaGreatDoor

namespace Go.Proofs.YtgmppconibklcaaGreatDoor
open Go Go.RowKit

theorem zkZ (a b:List UInt8):((⟨a.toArray⟩:ByteArray)++(⟨b.toArray⟩:ByteArray))=⟨(a++b).toArray⟩:=by
 rw [zkY];simp
theorem str_Z (a:List UInt8):((⟨a.toArray⟩:ByteArray)++(⟨#[90]⟩:ByteArray))=⟨(a++[90]).toArray⟩:=zkZ a [90]
theorem zjm (t micros:Int) (w:World) (h:micros<0∨999999<micros):
  Calls Tryz.prog 66 #[.int .i64 t,.int .i64 micros] w fun e w'=>e = .returned (.tuple #[.string ⟨#[]⟩,.int .i64 1])∧w=w':=by
 rcases h with h|h
 ·go_enter Tryz.func66,Tryz.ntmps66
  go_wp2_with fail
  go_ret2
  exact ⟨rfl,rfl⟩
 ·have h':¬micros<0:=by omega
  go_enter Tryz.func66,Tryz.ntmps66
  go_wp2_with fail
  go_ret2
  exact ⟨rfl,rfl⟩
theorem zlC (t micros:Int) (w:World) (hm0:0≤micros) (hm1:micros≤999999) (h:t < -62167219200∨253402300799<t):
  Calls Tryz.prog 66 #[.int .i64 t,.int .i64 micros] w fun e w'=>e = .returned (.tuple #[.string ⟨#[]⟩,.int .i64 21])∧w=w':=by
 rcases h with h|h
 ·go_enter Tryz.func66,Tryz.ntmps66
  go_wp2_with fail
  go_ret2
  exact ⟨rfl,rfl⟩
 ·have h':¬t < -62167219200:=by omega
  go_enter Tryz.func66,Tryz.ntmps66
  go_wp2_with fail
  go_ret2
  exact ⟨rfl,rfl⟩
def lenS:Value→Nat | .slice _ n _=>n|_=>0
set_option maxHeartbeats 1000000 in
set_option maxRecDepth 100000 in
theorem zjl (t:Int) (y m d s u:Nat) (w:World) (h0: -62167219200≤t) (h1:t≤253402300799) (hu:u≤999999) (h:Hid (Cal.Is ((t+62167219200) / 86400) y m d)) (hs:Hid ((s:Int)=(t+62167219200)%86400)):
  Calls Tryz.prog 66 #[.int .i64 t,.int .i64 (u:Int)] w fun e w'=>e = .returned (.tuple #[.string ⟨(Tm.long y m d s u).toArray⟩,.int .i64 0])∧Below w.heap.size w w':=by
 have hlen:=Tm.z9r y m d s 4;by_cases hu0:0<u
 ·obtain ⟨i0,hi0,hz0,hz1,hz2⟩:=info_parts z9S;have Hl:Hid (Tm.long y m d s u=Tm.z1c (Tm.txt y m d s 4++[46]++Dig.dgs u 6)++[90]):=by
   show _=_;unfold Tm.long;rw [if_neg (by omega)];simp
  have hdl:=Dig.z0j u 6;go_enter Tryz.func66,Tryz.ntmps66
  go_wp2_with fail
  refine (z6X t y m d s 4 _ h0 h1 h.out hs.out (.inr rfl)).mono ?_;rintro e w1 ⟨v1,rfl,A1⟩;have B1:=Lib.hid A1;have hz1':=A1.grown.size;clear A1;have hz1'':w.heap.size≤w1.heap.size:=hz1'
  go_wp2_with (refine z13 rfl (.tmp 23) (.tmp 24) 22 rfl w.heap.size i0 Tryz.underlying22 hi0 hz0 hz1 hz2 v1 _ rfl B1.out.own 46 46 rfl 1 rfl (by omega) hz1'' ?_;intro v2 w2 A2)
  have B2:=Lib.hid (B1.out.trans A2);have hz2':=B2.out.grown.size;clear A2;refine (z0r _ _ _ _ w.heap.size _ B2.out.own hz2' (by simp;omega) (by omega) (by omega) (by omega) (by omega)).mono ?_;rintro e w3 ⟨v3,rfl,A3⟩;have B3:=Lib.hid (B2.out.trans A3);rw [show Int.toNat 6=6 from rfl,Int.toNat_natCast] at B3;clear A3 B2 hz2';obtain ⟨L,hL⟩:∃ L,L=Tm.txt y m d s 4++[46]++Dig.dgs u 6:=⟨_,rfl⟩;have hLl:L.length≤200:=by rw [hL];simp;omega
  have hP:(Tm.txt y m d s 4).length<L.length:=by rw [hL];simp
  have hdot:L[(Tm.txt y m d s 4).length]'hP=46:=by subst hL;simp
  rw [←hL] at B3 Hl;obtain ⟨A,c,hv,hr⟩:=z0K B3.out.own;have HR:=Lib.hid hr;have hLc:L.length≤c:=by
   rcases B3.out.own.2 with ⟨h1,h2⟩|⟨g,cap,cur,h1,_,_,h2,_⟩
   ·omega
   ·rw [hv] at h1;injection h1 with _ _ h3;omega
  obtain ⟨ad,hA,_,hcl⟩:=hr.2 (by omega);subst hA;have HC:=Lib.hid hcl;clear hcl hr;subst hv;obtain ⟨P,hPe⟩:∃ P,P=(Tm.txt y m d s 4).length:=⟨_,rfl⟩;have HPe:=Lib.hid hPe;have Hdot:Hid (∀ h:P<L.length,L[P]=46):=by subst hPe;exact fun _=>hdot
  have HLe:=Lib.hid hL;rw [←hPe] at hP;clear hdot hL hPe
  go_wp2_with fail
  go_loop [6] (fun t6=>∃ k:Nat,P<k∧k≤L.length∧t6 = .slice (some ad) k c∧Hid (Tm.z1c (L.take k)=Tm.z1c L)) (fun t6=>lenS t6)
  case atStart=>exact ⟨L.length,hP,Nat.le_refl _,rfl,by rw [Hid,List.take_length]⟩
  case round=>
   obtain ⟨k,hk0,hk1,rfl,HK⟩:=hrel;obtain ⟨j,rfl⟩:∃ j,k=j+1:=⟨k-1,by omega⟩;have hlt:j<L.length:=by omega
   have hc1:w3.cell? (ad.add j)=some (.int .u8 (L[j].toNat:Int)):=HC.out j _ (by simp [Lib.byteCells,List.getElem?_eq_getElem hlt]);by_cases h48:L[j]=48
   ·have hPj:P<j:=by
     rcases Nat.lt_or_ge P j with h1|h1
     ·exact h1
     ·obtain rfl:j=P:=by omega
      rw [Hdot.out hlt] at h48;exact absurd h48 (by decide)
    have hc2:w3.cell? (ad.add j)=some (.int .u8 48):=by rw [hc1,h48];rfl
    have H48:=Lib.hid h48;clear hc1 h48
    go_wp2_with fail
    exact ⟨⟨j,hPj,by omega,rfl,by rw [Hid,←Tm.zff L j hlt H48.out];exact HK.out⟩,by simp [lenS]⟩
   ·have hc2:((L[j].toNat:Int)==48)=false:=by
     simp only [beq_eq_false_iff_ne];intro e;exact h48 (UInt8.toNat_inj.1 (by simpa using (show L[j].toNat=48 by omega)))
    have h48':=Lib.hid h48;obtain ⟨x,hx⟩:∃ x:Int,x=(L[j].toNat:Int):=⟨_,rfl⟩;rw [←hx] at hc1 hc2;clear hx h48;have Hr':Hid (∃ B A c',Value.slice (some ad) (j+1) c = .slice A (L.take (j+1)).length c'∧Reads w3 B 1 A (L.take (j+1)).length (Lib.byteCells (L.take (j+1)))):=by
     have hl:(L.take (j+1)).length=j+1:=by simp;omega
     rw [hl];refine ⟨w3.heap.size,some ad,c,rfl,by rw [Lib.byteCells_length,hl];omega,fun _=>⟨ad,rfl,by assumption,fun i v hi=>HC.out i v ?_⟩⟩;have hmap:Lib.byteCells (L.take (j+1))=(Lib.byteCells L).take (j+1):=by simp [Lib.byteCells,List.map_take]
     rw [hmap,List.getElem?_take] at hi;split at hi
     ·exact hi
     ·cases hi
    have hlt2:(L.take (j+1)).length≤200:=by rw [List.length_take];omega
    go_wp2_with (refine z4c rfl (.tmp 41) 22 9 5 rfl Tryz.underlying22 Tryz.underlying5 Tryz.underlying9 (.slice (some ad) (j+1) c) rfl _ Hr'.out ?_)
    go_ret2
    refine ⟨?_,B3.out.below (z4G _ _) (Nat.le_refl _)⟩;rw [Hl.out,←str_Z,←HK.out,Tm.zfd L j hlt h48'.out];rfl
 ·obtain rfl:u=0:=by omega
  have Hl:Hid (Tm.long y m d s 0=Tm.txt y m d s 4++[90]):=rfl;go_enter Tryz.func66,Tryz.ntmps66
  go_wp2_with fail
  refine (z6X t y m d s 4 _ h0 h1 h.out hs.out (.inr rfl)).mono ?_;rintro e w1 ⟨v1,rfl,A1⟩;have B1:=Lib.hid A1;clear A1
  go_wp2_with (refine z4c rfl (.tmp 41) 22 9 5 rfl Tryz.underlying22 Tryz.underlying5 Tryz.underlying9 v1 rfl _ (zgU B1.out.own) ?_)
  go_ret2
  exact ⟨by rw [Hl.out,←str_Z];rfl,B1.out.below (z4G _ _) (Nat.le_refl _)⟩
end Go.Proofs.YtgmppconibklcaaGreatDoor

namespace Go.Proofs.YtgmppconibklcaaGreatDoor
open Go Go.RowKit
theorem zlw (t:Int) (h0: -62167219200≤t) (h1:t≤253402300799):∃ y m d s:Nat,Cal.Is ((t+62167219200) / 86400) y m d∧(s:Int)=(t+62167219200)%86400:=by
 obtain ⟨y,m,d,hi⟩:=Cal.ex ((t+62167219200) / 86400) (by omega) (by omega);have hy0:=hi.y0;have hm0:=hi.m0;have hd0:=hi.d0;obtain ⟨y',rfl⟩:∃ k:Nat,y=k:=⟨y.toNat,by omega⟩;obtain ⟨m',rfl⟩:∃ k:Nat,m=k:=⟨m.toNat,by omega⟩;obtain ⟨d',rfl⟩:∃ k:Nat,d=k:=⟨d.toNat,by omega⟩;exact ⟨y',m',d',((t+62167219200)%86400).toNat,hi,by omega⟩
theorem zcy {w w':World} (h:∃ n,w'=w.drewN n):Below w.heap.size w w':=by
 obtain ⟨n,rfl⟩:=h;exact below_drewN (Below.refl _ _) _
end Go.Proofs.YtgmppconibklcaaGreatDoor

namespace Go.Proofs.YtgmppconibklcaaGreatDoor
namespace Dr
theorem z9U (c t:Int) (k:Bool) (n:Nat):2≤(head c t k n).length:=by
 unfold head lenB;rw [List.length_cons];split
 ·simp
 ·simp
mutual
theorem zkd:∀ (n:Nd) {o:List UInt8},put n=some o→wt n≤6*o.length
 | .mk c t k b l,o,h=>by
  rw [wt];rw [put] at h;split at h
  ·split at h
   ·rename_i bs hbs;have h1:=zg8 l hbs;split at h
    ·cases h
    ·injection h with h;subst h;have h3:=z9U c t k (b++bs.flatten).length;generalize head c t k (b++bs.flatten).length=hd at h3;rw [List.length_append,List.length_append];omega
   ·cases h
  ·cases h
theorem zg8:∀ (l:List Nd) {o:List (List UInt8)},puts l=some o→wts l≤6*o.flatten.length
 | [],o,h=>by rw [wts];omega
 | n::l,o,h=>by
  rw [wts];rw [puts] at h;split at h
  ·rename_i b hb;split at h
   ·rename_i bs hbs;injection h with h;subst h;have h1:=zkd n hb;have h2:=zg8 l hbs;rw [List.flatten_cons,List.length_append];omega
   ·cases h
  ·cases h
end
end Dr
end Go.Proofs.YtgmppconibklcaaGreatDoor

namespace Go.Proofs.YtgmppconibklcaaGreatDoor
namespace Dr
mutual
theorem zkt:∀ (n:Nd) {o:List UInt8},put n=some o→mx n≤o.length
 | .mk c t k b l,o,h=>by
  rw [mx];rw [put] at h;split at h
  ·split at h
   ·rename_i bs hbs;have h1:=zh9 l hbs;split at h
    ·cases h
    ·injection h with h;subst h;generalize head c t k (b++bs.flatten).length=hd;rw [List.length_append,List.length_append];omega
   ·cases h
  ·cases h
theorem zh9:∀ (l:List Nd) {o:List (List UInt8)},puts l=some o→mxs l≤o.flatten.length
 | [],o,h=>by rw [mxs];omega
 | n::l,o,h=>by
  rw [mxs];rw [puts] at h;split at h
  ·rename_i b hb;split at h
   ·rename_i bs hbs;injection h with h;subst h;have h1:=zkt n hb;have h2:=zh9 l hbs;rw [List.flatten_cons,List.length_append];omega
   ·cases h
  ·cases h
end
end Dr
end Go.Proofs.YtgmppconibklcaaGreatDoor

