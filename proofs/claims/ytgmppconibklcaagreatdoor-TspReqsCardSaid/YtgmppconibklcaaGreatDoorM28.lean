/- Part of the proof. No condition. -/
import Derived.Test.YtgmppconibklcaaGreatDoorM25
import Derived.Test.YtgmppconibklcaaGreatDoorM27
import Derived.Test.YtgmppconibklcaaGreatDoorM23
import Derived.Test.YtgmppconibklcaaGreatDoorM24
import Derived.Test.YtgmppconibklcaaGreatDoorM8
import Derived.Test.YtgmppconibklcaaGreatDoorM21
import Derived.Test.YtgmppconibklcaaGreatDoorM18
import Derived.Test.YtgmppconibklcaaGreatDoorM12
import Derived.Test.YtgmppconibklcaaGreatDoorM13
import Derived.Test.YtgmppconibklcaaGreatDoorM16
import Derived.Test.YtgmppconibklcaaGreatDoorM10
import Derived.Test.YtgmppconibklcaaGreatDoorM17
import Derived.Test.YtgmppconibklcaaGreatDoorM20
set_option maxHeartbeats 40000000
set_option maxRecDepth 100000
set_option linter.unusedVariables false
set_option linter.unusedSimpArgs false
namespace Go.Proofs.YtgmppconibklcaaGreatDoor
open Go Go.RowKit
theorem z50:∀ M,zcH M
 | 0=>fun b A n c rb at_ end_ d w hM=>absurd hM (by omega)
 | M+1=>fun b A n c rb at_ end_ d w=>by
  cases hq:((b.getD at_ 0).toNat / 32%2==1) with
  | false=>exact ziE M (z50 M) b A n c rb at_ end_ d w hq
  | true=>exact ziF M (z50 M) b A n c rb at_ end_ d w hq
end Go.Proofs.YtgmppconibklcaaGreatDoor

namespace Go.Proofs.YtgmppconibklcaaGreatDoor
open Go Go.RowKit
namespace Am
variable {gl:Nat→Option (List D)}
def RdR (b:List UInt8):T→Prop:=fun t=>∃ x y:Int,t = .tup [nX ((Dr.read b).getD Nd.nil),.agg [.d (.leaf (.int .i64 x)),.d (.leaf (.int .i64 y))]]∧(y==0)=(Dr.read b).isSome
theorem z9A (b:List UInt8) (hb:b.length≤40000):z3q Tryz.prog gl Tabs 55 [rX (z04 b)] [] (fun t ws os=>RdR b t∧ws=[]∧os=[]):=
 zlz (tw:=Tabs) rfl (fun t ht=>by obtain ⟨x,y,rfl,_⟩:=ht;rfl) z0q fun w vals hT hargs=>by
  obtain ⟨v,rfl,h⟩:=hargs.one_;have hi:Is w (fun _=>False) v (z04 b):=z3p (show RD (imOf w _) v (z04 b) from h);obtain ⟨A,c,rfl,hc,_⟩:=hi.bytes;refine (zgP z50 b A b.length c _ w hi hb hT).mono ?_;rintro e w' ⟨v',x,y,rfl,hy,hn,hb⟩;exact ⟨_,_,⟨x,y,rfl,hy⟩,rfl,z2q (.z0D (z68 hn) (.z0D ⟨_,rfl,.z0D (.leaf _ rfl) (.z0D (.leaf _ rfl) .nil_)⟩ .nil_)),hb⟩
end Am
end Go.Proofs.YtgmppconibklcaaGreatDoor

namespace Go.Proofs.YtgmppconibklcaaGreatDoor
open Go Go.RowKit
namespace Am
theorem bne_f {α:Type} [BEq α] [LawfulBEq α] {a b:α}:((a != b)=false)=(a=b):=by simp [bne]
structure Hd {α:Type} (a b:α):Prop where
 eq:a=b
section
variable {P:Program} {gl:Nat→Option (List D)} {tb:World→Prop} {sz:Nat} {ops:Array Oper}
def zh9 (P:Program) (gl:Nat→Option (List D)) (tb:World→Prop) (g:FuncId) (ys:List E) (os:List O) (K:T→List O→List O→Prop):Prop:=∃ R:T→List O→List O→Prop,z3q P gl tb g ys os R∧∀ t ws os',R t ws os'→K t ws os'
def zjV (t:T) (ws os os':List O):Prop:=ws.length<14∧ws.all O.zc3=true∧t.z2y ws.length=true∧os'.all O.plain=true∧z38 os os'=true
theorem zkV {t:T} {ws os os':List O}:zjV t ws os os'=(ws.length<14∧ws.all O.zc3=true∧t.z2y ws.length=true∧os'.all O.plain=true∧z38 os os'=true):=propext Iff.rfl
def zjl (base:Nat) (zs ps:List Nat) (t:T) (ws os':List O):Eff:=⟨t.ren base,zs.map (fun z=>(z,none))++(z4u ps os'++named base 0 ws),zs++(named base 0 ws).map (·.1)⟩
def AnsK (base:Nat) (zs ps:List Nat) (os:List O) (K:Eff→Prop):T→List O→List O→Prop:=fun t ws os'=>zjV t ws os os'∧K (zjl base zs ps t ws os')
theorem zo6 {base:Nat} {zs ps:List Nat} {os:List O} {K:Eff→Prop} {t:T} {ws os':List O}:AnsK base zs ps os K t ws os'=(zjV t ws os os'∧K (zjl base zs ps t ws os')):=propext Iff.rfl
abbrev Fin:=List Nat→List Nat→List E→List O→Prop
def OsG (F:Fin) (zs ps:List Nat) (ys:List E):List O→Prop:=fun os=>F zs ps ys os
theorem osG_at {F:Fin} {zs ps:List Nat} {ys:List E} {os:List O}:OsG F zs ps ys os=F zs ps ys os:=propext Iff.rfl
def YsG (P:Program) (h:Nat→Option O) (F:Fin) (zs ps:List Nat):List E→Prop:=fun ys=>OptK (z1k P h ps) (OsG F zs ps ys)
theorem zhd {h:Nat→Option O} {F:Fin} {zs ps:List Nat} {ys:List E}:YsG P h F zs ps ys=OptK (z1k P h ps) (OsG F zs ps ys):=propext Iff.rfl
def PsG (P:Program) (h:Nat→Option O) (F:Fin) (zs:List Nat) (ts:List TypeId) (xs:List (Option E)) (ps:List Nat):Prop:=zs.any (fun z=>ps.contains z)=false∧OptK (z23 P ps ts xs) (YsG P h F zs ps)
theorem psG_at {h:Nat→Option O} {F:Fin} {zs ps:List Nat} {ts:List TypeId} {xs:List (Option E)}:PsG P h F zs ts xs ps=(zs.any (fun z=>ps.contains z)=false∧OptK (z23 P ps ts xs) (YsG P h F zs ps)):=propext Iff.rfl
def XsG (P:Program) (h:Nat→Option O) (F:Fin) (zs:List Nat) (ts:List TypeId) (xs:List (Option E)):Prop:=PsG P h F zs ts xs (z0R xs [])
theorem xsG_at {h:Nat→Option O} {F:Fin} {zs:List Nat} {ts:List TypeId} {xs:List (Option E)}:XsG P h F zs ts xs=PsG P h F zs ts xs (z0R xs []):=propext Iff.rfl
def FunG (P:Program) (h:Nat→Option O) (F:Fin) (args:List (Option E)):Func→Prop:=fun fn=>fn.body.isNone=false∧XsG P h F (z16 args []) fn.params.toList (args.map (Option.map (setE h)))
theorem znE {h:Nat→Option O} {F:Fin} {args:List (Option E)} {fn:Func}:FunG P h F args fn=(fn.body.isNone=false∧XsG P h F (z16 args []) fn.params.toList (args.map (Option.map (setE h)))):=propext Iff.rfl
theorem zc7 {h:Nat→Option O} {F:Fin} {args:List (Option E)} {g:FuncId} (hh:OptK P.funcs[g]? (FunG P h F args)):∃ fn ys os,P.funcs[g]? = some fn∧fn.body.isNone=false∧(z16 args []).any (fun z=>(z0R (args.map (Option.map (setE h))) []).contains z)=false ∧
  z23 P (z0R (args.map (Option.map (setE h))) []) fn.params.toList (args.map (Option.map (setE h)))=some ys∧z1k P h (z0R (args.map (Option.map (setE h))) [])=some os∧F (z16 args []) (z0R (args.map (Option.map (setE h))) []) ys os:=by
 cases hfn:P.funcs[g]? with
 | none=>rw [hfn] at hh;cases hh
 | some fn=>
  rw [hfn,z2j] at hh;obtain ⟨hb,hd,hh⟩:=hh;cases hy:z23 P (z0R (args.map (Option.map (setE h))) []) fn.params.toList (args.map (Option.map (setE h))) with
  | none=>rw [hy] at hh;cases hh
  | some ys=>
   rw [hy,z2j,zhd] at hh;cases ho:z1k P h (z0R (args.map (Option.map (setE h))) []) with
   | none=>rw [ho] at hh;cases hh
   | some os=>
    rw [ho,z2j] at hh;exact ⟨fn,ys,os,rfl,hb,hd,hy,rfl,hh⟩
def EF (P:Program) (gl:Nat→Option (List D)) (tb:World→Prop) (base:Nat) (g:FuncId) (K:Eff→Prop):Fin:=fun zs ps ys os=>zh9 P gl tb g ys os (AnsK base zs ps os K)
theorem eF_at {base:Nat} {g:FuncId} {K:Eff→Prop} {zs ps:List Nat} {ys:List E} {os:List O}:EF P gl tb base g K zs ps ys os=zh9 P gl tb g ys os (AnsK base zs ps os K):=propext Iff.rfl
theorem zlo {h:Nat→Option O} {base:Nat} {g:FuncId} {args:List (Option E)} {K:Eff→Prop}:zjY P gl tb h base (some (.e (.one (.d (.leaf (.func (.func g) #[] #[])))))) args K=OptK P.funcs[g]? (FunG P h (EF P gl tb base g K) args):=by
 apply propext;constructor
 ·rintro ⟨g',fn,ys,os,hf,hfn,hb,hd,hy,ho,R,hc,hR⟩;injection hf with hf;injection hf with hf;injection hf with hf;injection hf with hf;injection hf with hf;injection hf with hf
  injection hf with hf;subst hf;rw [hfn,z2j];refine ⟨hb,hd,?_⟩;rw [hy,z2j,zhd,ho,z2j];exact ⟨R,hc,hR⟩
 ·intro hh;obtain ⟨fn,ys,os,hfn,hb,hd,hy,ho,R,hc,hR⟩:=zc7 hh;exact ⟨g,fn,ys,os,rfl,hfn,hb,hd,hy,ho,R,hc,hR⟩
theorem zfC {g:FuncId} {ys:List E} {os:List O} {t:T} {ws os':List O} {K:T→List O→List O→Prop} (h:z0S P gl tb g ys os t ws os') (hK:K t ws os'):zh9 P gl tb g ys os K:=⟨_,h.toR,by rintro t ws os' ⟨rfl,rfl,rfl⟩;exact hK⟩
theorem z4s {g:FuncId} {ys:List E} {os:List O} {R K:T→List O→List O→Prop} (h:z3q P gl tb g ys os R) (hK:∀ t ws os',R t ws os'→K t ws os'):zh9 P gl tb g ys os K:=⟨_,h,hK⟩
theorem zj3 {b:Bool} {KT KF:Unit→Prop} (ht:b=true→KT ()) (hf:b=false→KF ()):GdK (some b) KT KF:=by
 cases b with
 | true=>exact ht rfl
 | false=>exact hf rfl
theorem zdO {x y:Code} {Q:Ex→SF→Prop} {s:SF} {b:Bool} (ht:b=true→WpC P gl tb sz x Q s) (hf:b=false→WpC P gl tb sz y Q s):ze0 P gl tb sz x y Q s b:=by
 cases b with
 | true=>exact ht rfl
 | false=>exact hf rfl
theorem zcM (hN:z14 P) {Q:Ex→SF→Prop} {s:SF} {id:Nat} (h:∀ Q',Hd Q' Q→z5N P gl tb sz ops ops.toList (Q' .normal) s):WpC P gl tb sz (.region id ops false) Q s:=z8H hN (h Q ⟨rfl⟩)
theorem zmt {cc:Operand} {x y:Code} {Q:Ex→SF→Prop} {s:SF} (h:∀ Q',Hd Q' Q→OptK (bool? (valOf gl s.env cc)) (ze0 P gl tb sz x y Q' s)):WpC P gl tb sz (.cond cc x y) Q s:=z1I fun Q' e=>h Q' ⟨e⟩
theorem atQ {Q Q':Ex→SF→Prop} {e:Ex} {s:SF} (h:Hd Q' Q) (k:Q e s):Q' e s:=by rw [h.eq];exact k
theorem z0J (R:SF→Prop) {x y:Code} {Q:Ex→SF→Prop} {s:SF} (h:∀ Q',Hd Q' (CutK R Q)→WpC P gl tb sz x Q' s) (k:∀ s',R s'→WpC P gl tb sz y Q s'):WpC P gl tb sz (.seq x y) Q s:=z2J R (h _ ⟨rfl⟩) k
abbrev Ans:=FuncId×List E×List O×T×List O×List O
def z44 (tab:List Ans) (a:Ans):Prop:=∀ b∈tab,b.1=a.1→b.2.1=a.2.1→b.2.2.1=a.2.2.1→b.2.2.2=a.2.2.2
theorem z0h {a:Ans}:z44 [] a:=fun b hb=>by cases hb
theorem z8d {a b:Ans} {tab:List Ans} (h:b.1=a.1→b.2.1=a.2.1→b.2.2.1=a.2.2.1→b.2.2.2=a.2.2.2) (k:z44 tab a):z44 (b::tab) a:=fun c hc=>by
 rcases List.mem_cons.1 hc with rfl|hc
 ·exact h
 ·exact k c hc
def zk0 (P:Program) (gl:Nat→Option (List D)) (tb:World→Prop) (tab:List Ans) (g:FuncId) (ys:List E) (os:List O) (K:T→List O→List O→Prop):Prop:=∃ t ws os',z0S P gl tb g ys os t ws os'∧z44 tab (g,ys,os,t,ws,os')∧K t ws os'
def AnsL (base:Nat) (zs ps:List Nat) (g:FuncId) (ys:List E) (os:List O) (tab:List Ans) (K:Eff→List Ans→Prop):T→List O→List O→Prop:=fun t ws os'=>zjV t ws os os'∧K (zjl base zs ps t ws os') ((g,ys,os,t,ws,os')::tab)
theorem zo5 {base:Nat} {zs ps:List Nat} {g:FuncId} {ys:List E} {os:List O} {tab:List Ans} {K:Eff→List Ans→Prop} {t:T} {ws os':List O}:AnsL base zs ps g ys os tab K t ws os'=(zjV t ws os os'∧K (zjl base zs ps t ws os') ((g,ys,os,t,ws,os')::tab)):=propext Iff.rfl
def LF (P:Program) (gl:Nat→Option (List D)) (tb:World→Prop) (base:Nat) (g:FuncId) (tab:List Ans) (K:Eff→List Ans→Prop):Fin:=fun zs ps ys os=>zk0 P gl tb tab g ys os (AnsL base zs ps g ys os tab K)
theorem lF_at {base:Nat} {g:FuncId} {tab:List Ans} {K:Eff→List Ans→Prop} {zs ps:List Nat} {ys:List E} {os:List O}:LF P gl tb base g tab K zs ps ys os=zk0 P gl tb tab g ys os (AnsL base zs ps g ys os tab K):=propext Iff.rfl
theorem zfD {tab:List Ans} {g:FuncId} {ys:List E} {os:List O} {t:T} {ws os':List O} {K:T→List O→List O→Prop} (h:z0S P gl tb g ys os t ws os') (hc:z44 tab (g,ys,os,t,ws,os')) (hK:K t ws os'):zk0 P gl tb tab g ys os K:=⟨t,ws,os',h,hc,hK⟩
def znx (P:Program) (gl:Nat→Option (List D)) (tb:World→Prop) (tab:List Ans) (h:Nat→Option O) (base:Nat) (f:Option T) (args:List (Option E)) (K:Eff→List Ans→Prop):Prop:=
 match f with
 | some (.e (.one (.d (.leaf (.func (.func g) fs ks)))))=>(fs.size=0∧ks.size=0)∧OptK P.funcs[g]? (FunG P h (LF P gl tb base g tab K) args)
 | _=>False
theorem zlb {tab:List Ans} {h:Nat→Option O} {base:Nat} {g:FuncId} {args:List (Option E)} {K:Eff→List Ans→Prop}:znx P gl tb tab h base (some (.e (.one (.d (.leaf (.func (.func g) #[] #[])))))) args K=OptK P.funcs[g]? (FunG P h (LF P gl tb base g tab K) args):=propext ⟨fun h=>h.2,fun h=>⟨⟨rfl,rfl⟩,h⟩⟩
def NoTab (tab:List Ans) (K:Eff→List Ans→Prop):Eff→Prop:=fun e=>K e tab
theorem zf1 {tab:List Ans} {K:Eff→List Ans→Prop} {e:Eff}:NoTab tab K e=K e tab:=propext Iff.rfl
def zjh (P:Program) (gl:Nat→Option (List D)) (tb:World→Prop) (tab:List Ans) (op:Op) (base:Nat) (s:S) (K:Eff→List Ans→Prop):Prop:=
 match op with
 | .call {callee:= .value f,args:=args,argTypes:=ts}=>znx P gl tb tab (look s.heap) base (valOf gl (look s.env) f) (args.toList.map fun x=>e? (valOf gl (look s.env) x)) K
 | op=>OptK (ev P X0 base op (valOf gl (look s.env)) (look s.heap)) (NoTab tab K)
def z54 (g:Log) (K:S×List Log→Prop):S×List Log→Prop:=fun r=>K (r.1,g::r.2)
theorem zgA {g:Log} {K:S×List Log→Prop} {s:S} {gs:List Log}:z54 g K (s,gs)=K (s,g::gs):=propext Iff.rfl
def zl1:Log:=⟨[],[],[],⟨.undef,[],[]⟩⟩
def LogC (P:Program) (gl:Nat→Option (List D)) (tb:World→Prop) (sz:Nat) (ops:Array Oper):List Oper→List Ans→S→(S×List Log→Prop)→Prop
 | [],tab,s,K=>K (s,[])
 | o::l,tab,s,K=>GdK (gdOf ops o (look s.env)) (fun _=>if fits sz o.dst then zjh P gl tb tab o.op (nm o.dst) s (fun e tab'=>LogC P gl tb sz ops l tab' (apply e o.dst s) (z54 (z4l gl o s e) K)) else False)
  (fun _=>if fits sz o.dst then LogC P gl tb sz ops l tab ⟨putE o.dst .undef s.env,s.heap⟩ (z54 zl1 K) else False)
def zlH (P:Program) (gl:Nat→Option (List D)) (tb:World→Prop) (sz:Nat) (ops:Array Oper) (o:Oper) (l:List Oper) (s:S) (K:S×List Log→Prop):Eff→List Ans→Prop:=fun e tab'=>LogC P gl tb sz ops l tab' (apply e o.dst s) (z54 (z4l gl o s e) K)
theorem zf5 {o:Oper} {l:List Oper} {s:S} {K:S×List Log→Prop} {e:Eff} {tab:List Ans}:zlH P gl tb sz ops o l s K e tab=LogC P gl tb sz ops l tab (apply e o.dst s) (z54 (z4l gl o s e) K):=propext Iff.rfl
def zmn (P:Program) (gl:Nat→Option (List D)) (tb:World→Prop) (sz:Nat) (ops:Array Oper) (o:Oper) (l:List Oper) (tab:List Ans) (s:S) (K:S×List Log→Prop):Unit→Prop:=fun _=>if fits sz o.dst then zjh P gl tb tab o.op (nm o.dst) s (zlH P gl tb sz ops o l s K) else False
theorem zbZ {o:Oper} {l:List Oper} {tab:List Ans} {s:S} {K:S×List Log→Prop} {u:Unit}:zmn P gl tb sz ops o l tab s K u=if fits sz o.dst then zjh P gl tb tab o.op (nm o.dst) s (zlH P gl tb sz ops o l s K) else False:=propext Iff.rfl
def zmo (P:Program) (gl:Nat→Option (List D)) (tb:World→Prop) (sz:Nat) (ops:Array Oper) (o:Oper) (l:List Oper) (tab:List Ans) (s:S) (K:S×List Log→Prop):Unit→Prop:=fun _=>if fits sz o.dst then LogC P gl tb sz ops l tab ⟨putE o.dst .undef s.env,s.heap⟩ (z54 zl1 K) else False
theorem zc0 {o:Oper} {l:List Oper} {tab:List Ans} {s:S} {K:S×List Log→Prop} {u:Unit}:zmo P gl tb sz ops o l tab s K u=if fits sz o.dst then LogC P gl tb sz ops l tab ⟨putE o.dst .undef s.env,s.heap⟩ (z54 zl1 K) else False:=propext Iff.rfl
theorem zl7 {tab:List Ans} {s:S} {K:S×List Log→Prop}:LogC P gl tb sz ops [] tab s K=K (s,[]):=propext Iff.rfl
theorem zbW {o:Oper} {l:List Oper} {tab:List Ans} {s:S} {K:S×List Log→Prop}:LogC P gl tb sz ops (o::l) tab s K=GdK (gdOf ops o (look s.env)) (zmn P gl tb sz ops o l tab s K) (zmo P gl tb sz ops o l tab s K):=propext Iff.rfl
theorem znL {X:z1C} {base:Nat} {op:Op} {ρ:Operand→Option T} {h:Nat→Option O} {e:Eff} (hop:∀ f args ts,op ≠ .call {callee:= .value f,args:=args,argTypes:=ts}) (he:ev P X0 base op ρ h=some e):ev P X base op ρ h=some e:=by
 cases op with
 | call cl=>
  obtain ⟨callee,args,ts⟩:=cl;cases callee with
  | value f=>exact absurd rfl (hop f args ts)
  | _=>exact he
 | _=>exact he
open Classical in
theorem ze9:∀ {tab:List Ans} (a:Ans),a∈tab→(∀ b∈tab,b.1=a.1→b.2.1=a.2.1→b.2.2.1=a.2.2.1→b.2.2.2=a.2.2.2)→tabX tab a.1 a.2.1 a.2.2.1=some a.2.2.2
 | [],a,h,_=>by cases h
 | c::tab,a,h,hc=>by
  simp only [tabX];by_cases hk:c.1=a.1∧c.2.1=a.2.1∧c.2.2.1=a.2.2.1
  ·rw [if_pos hk,hc c (by simp) hk.1 hk.2.1 hk.2.2]
  ·rw [if_neg hk];rcases List.mem_cons.1 h with rfl|h
   ·exact absurd ⟨rfl,rfl,rfl⟩ hk
   ·exact ze9 a h fun b hb=>hc b (List.mem_cons_of_mem _ hb)
theorem zhr:∀ {tab:List Ans},(∀ a∈tab,z0S P gl tb a.1 a.2.1 a.2.2.1 a.2.2.2.1 a.2.2.2.2.1 a.2.2.2.2.2)→z1e P gl tb (tabX tab)
 | [],_=>fun g' a' o' t' ws' os'' hx=>by cases hx
 | c::tab,h=>fun g' a' o' t' ws' os'' hx=>by
  simp only [tabX] at hx;split at hx
  ·rename_i hh;obtain ⟨c1,c2,c3,c4,c5,c6⟩:=c;obtain ⟨rfl,rfl,rfl⟩:=hh;simp only [Option.some.injEq,Prod.mk.injEq] at hx;obtain ⟨rfl,rfl,rfl⟩:=hx;exact h _ (by simp)
  ·exact zhr (tab:=tab) (fun a ha=>h a (List.mem_cons_of_mem _ ha)) g' a' o' t' ws' os'' hx
structure zcG (P:Program) (gl:Nat→Option (List D)) (tb:World→Prop) (tab:List Ans):Prop where
 ok:∀ a∈tab,z0S P gl tb a.1 a.2.1 a.2.2.1 a.2.2.2.1 a.2.2.2.2.1 a.2.2.2.2.2
 cons:∀ a∈tab,∀ b∈tab,b.1=a.1→b.2.1=a.2.1→b.2.2.1=a.2.2.1→b.2.2.2=a.2.2.2
theorem zcG.add {tab:List Ans} {a:Ans} (h:zcG P gl tb tab) (hc:z0S P gl tb a.1 a.2.1 a.2.2.1 a.2.2.2.1 a.2.2.2.2.1 a.2.2.2.2.2) (hk:z44 tab a):zcG P gl tb (a::tab):=
 ⟨fun b hb=>by
  rcases List.mem_cons.1 hb with e|k
  ·rw [e];exact hc
  ·exact h.ok b k,fun b hb c hc' e1 e2 e3=>by
  rcases List.mem_cons.1 hb with e|k
  ·subst e;rcases List.mem_cons.1 hc' with e'|k'
   ·rw [e']
   ·exact hk c k' e1 e2 e3
  ·rcases List.mem_cons.1 hc' with e'|k'
   ·subst e';exact (hk b k e1.symm e2.symm e3.symm).symm
   ·exact h.cons b k c k' e1 e2 e3⟩
theorem z6b:∀ (l:List Oper) (tab:List Ans) (s:S) (K:S×List Log→Prop),zcG P gl tb tab→LogC P gl tb sz ops l tab s K→∃ tab',(∀ a∈tab,a∈tab')∧zcG P gl tb tab'∧∃ s' gs,z1w P gl (tabX tab') sz ops l s=some (s',gs)∧K (s',gs)
 | [],tab,s,K,ht,h=>⟨tab,fun a h=>h,ht,s,[],rfl,h⟩
 | o::l,tab,s,K,ht,h=>by
  rw [zbW] at h;cases hg:gdOf ops o (look s.env) with
  | none=>rw [hg] at h;cases h
  | some b=>
   rw [hg] at h;cases b with
   | false=>
    rw [z7Y,zc0] at h;split at h
    ·rename_i hf;obtain ⟨tab',h1,h2,s',gs,h3,h4⟩:=z6b l tab _ _ ht h;refine ⟨tab',h1,h2,s',_,?_,h4⟩;simp only [z1w,z4F,hg,hf,if_true,h3];rfl
    ·cases h
   | true=>
    rw [zat,zbZ] at h;split at h
    ·rename_i hf;have plain:∀ (tab1:List Ans) (e:Eff),zcG P gl tb tab1→(∀ a∈tab,a∈tab1)→zlH P gl tb sz ops o l s K e tab1→(∀ tab',(∀ a∈tab1,a∈tab')→zcG P gl tb tab'→ev P (tabX tab') (nm o.dst) o.op (valOf gl (look s.env)) (look s.heap)=some e) →
       ∃ tab',(∀ a∈tab,a∈tab')∧zcG P gl tb tab'∧∃ s' gs,z1w P gl (tabX tab') sz ops (o::l) s=some (s',gs)∧K (s',gs):=by
      intro tab1 e ht1 hsub hk hev;rw [zf5] at hk;obtain ⟨tab',h1,h2,s',gs,h3,h4⟩:=z6b l tab1 _ _ ht1 hk;refine ⟨tab',fun a ha=>h1 a (hsub a ha),h2,s',_,?_,h4⟩;simp only [z1w,z4F,hg,hf,if_true,hev tab' h1 h2,h3]
     unfold zjh at h;split at h
     ·rename_i f args ts hop;unfold znx at h;split at h
      ·rename_i g fs ks hfv;obtain ⟨⟨hfs,hks⟩,h⟩:=h;obtain ⟨fn,ys,os,hfn,hb,hd,hy,ho,t,ws,os',hc,hcons,hok,hk⟩:=zc7 h;refine plain _ _ (ht.add (a:=(g,ys,os,t,ws,os')) hc hcons) (fun a ha=>List.mem_cons_of_mem _ ha) hk fun tab' hs hT=>?_
       have hX:tabX tab' g ys os=some (t,ws,os'):=ze9 (g,ys,os,t,ws,os') (hs _ (by simp)) (fun b hb=>hT.cons _ (hs _ (by simp)) b hb);rw [hop];simp only [ev,hfv,z5E,hfn,hb];have hd':¬((z16 (args.toList.map fun x=>e? (valOf gl (look s.env) x)) []).any (fun z=>(z0R ((args.toList.map fun x=>e? (valOf gl (look s.env) x)).map (Option.map (setE (look s.heap)))) []).contains z)=true):=by rw [hd];simp
       rw [if_neg (by simp [hfs,hks]),if_neg hd',hy,ho];simp only [hX];obtain ⟨k1,k2,k3,k4,k5⟩:=hok;rw [if_pos ⟨k1,k2,k3,k4,k5⟩];rfl
      ·cases h
     ·rename_i hop;cases he:ev P X0 (nm o.dst) o.op (valOf gl (look s.env)) (look s.heap) with
      | none=>rw [he] at h;cases h
      | some e=>
       rw [he,z2j,zf1] at h;exact plain tab e ht (fun a h=>h) h fun tab' _ _=>znL (fun f args ts e=>hop f args ts e) he
    ·cases h
theorem zfQ (hm:P.follows .mixedOrders=true) (hN:z14 P) {Q:Ex→SF→Prop} {s:SF} {id:Nat} (ks hs:List Nat) (hd:z9z ops=true) (h:∀ Q',Hd Q' Q→LogC P gl tb sz ops ops.toList [] (snap ks hs s) (zjZ ops Q')):WpC P gl tb sz (.region id ops true) Q s:=by
 obtain ⟨tab',_,hT,s',gs,hr,hK⟩:=z6b ops.toList [] _ _ ⟨fun a h=>(by cases h),fun a h=>(by cases h)⟩ (h Q ⟨rfl⟩);refine z1O hm hN ks hs (zhr hT.ok) hd fun Q' e=>?_
 subst e;rw [hr];exact hK
theorem zj5 (own:Bool) {g:FuncId} {fn:Func} {cd:Code} {args:List E} {os os':List O} {t:T} {ws:List O} (hfn:P.funcs[g]? = some fn) (hb:fn.body=some cd) (hlen:args.length≤fn.ntmps)
  (h:WpC P gl tb fn.ntmps cd (EndK P own fn.results.toList fn.resultTypes.toList os (fun t' ws' os''=>t'=t∧ws'=ws∧os''=os')) ⟨z6D args,z3z os⟩):z0S P gl tb g args os t ws os':=by
 exact fun W0 im w vals ch lo hI hargs=>(z6c own hfn hb hlen h W0 im w vals ch lo hI hargs).mono (by
  rintro e w' ⟨t',ws',os'',⟨rfl,rfl,rfl⟩,hp⟩;exact hp)
end
attribute [simp] snap z4l look apply putE z1Y z1l setL z4H rdOf Op.operands Call.operands z2C z3I z1t z2d z2l meet Log.men T.men E.men C.men O.men z5S zl1 zkV zjl zo6 osG_at zhd psG_at xsG_at znE eF_at zlo zo5 lF_at zlb zf1 zjh zgA zf5 zbZ zc0 zl7 zbW z1k zdi z38 O.plain O.zc3 z4u named
end Am
end Go.Proofs.YtgmppconibklcaaGreatDoor

set_option linter.defProp false
namespace Go.Proofs.YtgmppconibklcaaGreatDoor
open Go Go.RowKit
namespace Am
section
variable {gl:Nat→Option (List D)} {tb:World→Prop} {sz:Nat} {ops:Array Oper}
theorem sq_ {x y:Code} {Q:Ex→SF→Prop} {s:SF} (h:WpC Tryz.prog gl tb sz x (SeqK Tryz.prog gl tb sz y Q) s):WpC Tryz.prog gl tb sz (.seq x y) Q s:=z0a h
theorem rg_ {Q:Ex→SF→Prop} {s:SF} {id:Nat} (h:∀ Q',Hd Q' Q→z5N Tryz.prog gl tb sz ops ops.toList (Q' .normal) s):WpC Tryz.prog gl tb sz (.region id ops false) Q s:=zcM z0b h
theorem if_ {cc:Operand} {x y:Code} {Q:Ex→SF→Prop} {s:SF} (h:∀ Q',Hd Q' Q→OptK (bool? (valOf gl s.env cc)) (ze0 Tryz.prog gl tb sz x y Q' s)):WpC Tryz.prog gl tb sz (.cond cc x y) Q s:=zmt h
theorem bk_ {id:Nat} {b:Code} {Q:Ex→SF→Prop} {s:SF} (h:WpC Tryz.prog gl tb sz b (BlkK id Q) s):WpC Tryz.prog gl tb sz (.block id b) Q s:=z7h h
theorem dr_ {Q:Ex→SF→Prop} {s:SF} {id:Nat} (ks hs:List Nat) (hd:z9z ops=true) (h:∀ Q',Hd Q' Q→LogC Tryz.prog gl tb sz ops ops.toList [] (snap ks hs s) (zjZ ops Q')):WpC Tryz.prog gl tb sz (.region id ops true) Q s:=zfQ z1h z0b ks hs hd h
theorem cd_ {tab:List Ans} {g:FuncId} {ys:List E} {os:List O} {t:T} {ws os':List O} {K:T→List O→List O→Prop} (h:z0S Tryz.prog gl tb g ys os t ws os') (hK:K t ws os') (hc:z44 tab (g,ys,os,t,ws,os')):zk0 Tryz.prog gl tb tab g ys os K:=zfD h hc hK
theorem ct_ {g:FuncId} {ys:List E} {os:List O} {t:T} {ws os':List O} {K:T→List O→List O→Prop} (h:z0S Tryz.prog gl tb g ys os t ws os') (hK:K t ws os'):zh9 Tryz.prog gl tb g ys os K:=zfC h hK
theorem ca_ {g:FuncId} {ys:List E} {os:List O} {t:T} {ws os':List O} {K:T→List O→List O→Prop} (hK:K t ws os') (h:z0S Tryz.prog gl tb g ys os t ws os':=by first|with_reducible assumption|assumption):zh9 Tryz.prog gl tb g ys os K:=zfC h hK
theorem ce_ {tab:List Ans} {g:FuncId} {ys:List E} {os:List O} {t:T} {ws os':List O} {K:T→List O→List O→Prop} (hK:K t ws os') (hc:z44 tab (g,ys,os,t,ws,os')) (h:z0S Tryz.prog gl tb g ys os t ws os':=by first|with_reducible assumption|assumption):zk0 Tryz.prog gl tb tab g ys os K:=zfD h hc hK
theorem aq_ {Q Q':Ex→SF→Prop} {e:Ex} {s:SF} (k:Q e s) (h:Hd Q' Q:=by assumption):Q' e s:=atQ h k
theorem cn_ {a b:Ans} {tab:List Ans} (h:¬b.1=a.1) (k:z44 tab a):z44 (b::tab) a:=z8d (fun e=>absurd e h) k
theorem cc_ {a b:Ans} {tab:List Ans} (h:b.1=a.1→b.2.1=a.2.1→b.2.2.1=a.2.2.1→b.2.2.2=a.2.2.2) (k:z44 tab a):z44 (b::tab) a:=z8d h k
theorem bs_ {b:Bool} {KT KF:Unit→Prop} (ht:b=true→KT ()) (hf:b=false→KF ()):GdK (some b) KT KF:=zj3 ht hf
theorem cs_ {x y:Code} {Q:Ex→SF→Prop} {s:SF} {b:Bool} (ht:b=true→WpC Tryz.prog gl tb sz x Q s) (hf:b=false→WpC Tryz.prog gl tb sz y Q s):ze0 Tryz.prog gl tb sz x y Q s b:=zdO ht hf
end
theorem y1 {p:Prop} [Decidable p]:(decide p=true)=p:=decide_eq_true_eq
theorem y2 {p:Prop} [Decidable p]:(decide p=false)↔¬p:=decide_eq_false_iff_not
theorem y3 {α:Type} [BEq α] [LawfulBEq α] {a b:α}:(a==b)=true↔a=b:=beq_iff_eq
theorem y4 {α:Type} [BEq α] [LawfulBEq α] {a b:α}:(a==b)=false↔a≠b:=beq_eq_false_iff_ne
theorem y5 {α:Type} [BEq α] [LawfulBEq α] {a b:α}:(a != b)=true↔a≠b:=bne_iff_ne
theorem y6 {b:Bool}:((!b)=true)↔b=false:=by simp
theorem y7 {b:Bool}:((!b)=false)↔b=true:=by simp
theorem y8 {a b:Bool}:((a&&b)=true)=(a=true∧b=true):=Bool.and_eq_true a b
theorem y9 {p:Prop}:(¬¬p)↔p:=Classical.not_not
def sk_:=And.intro @z02<|And.intro @z03<|And.intro @z00<|And.intro @z01<|And.intro @zkq<|And.intro @zlB<|And.intro @ziM<|And.intro @zfw<|And.intro @zbl<|And.intro @zcC<|And.intro @z9l @zct
def hk_:=And.intro @bne_f<|And.intro @y1<|And.intro @y2<|And.intro @y3<|And.intro @y4<|And.intro @y5<|And.intro @y6<|And.intro @y7<|And.intro @y8 @y9
end Am
end Go.Proofs.YtgmppconibklcaaGreatDoor

namespace Go.Proofs.YtgmppconibklcaaGreatDoor
open Go Go.RowKit
namespace Am
def nuL (k:IntKind) (l:List Nat):List D:=l.map fun (x:Nat)=> .leaf (.int k (x:Int))
def nuR (k:IntKind) (l:List Nat):D:= .row 1 (nuL k l)
@[simp] theorem z7t (k:IntKind) (l:List Nat):D.row 1 (nuL k l)=nuR k l:=rfl
@[simp] theorem zdv (l:List Nat):limD l=nuR .u32 l:=by simp [nuR,nuL,limD,List.map_map,-z7t]
@[simp] theorem nuL_len (k:IntKind) (l:List Nat):(nuL k l).length=l.length:=by simp [nuL]
@[simp] theorem nuL_app (k:IntKind) (l m:List Nat):nuL k l++nuL k m=nuL k (l++m):=by simp [nuL]
@[simp] theorem gr_one (q:Nat) (k:IntKind) (x:Nat):C.gr q 1 [D.leaf (.int k (x:Int))]=C.gr q 1 (nuL k [x]):=rfl
theorem zeZ (k:IntKind) (l:List Nat):nuL k l=l.flatMap fun (x:Nat)=>[.leaf (.int k (x:Int))]:=by
 unfold nuL;induction l with
 | nil=>rfl
 | cons x l ih=>rw [List.map_cons,List.flatMap_cons,ih];rfl
section
variable {t e:TypeId}
theorem zcd (hu:Tryz.prog.underlying t=some (.slice e)) (k:IntKind) (l:List Nat):z2B Tryz.prog t (some (.e (.one (.d (nuR k l)))))=some l.length:=by simp [z2B,hu,row?,nuR,-z7t]
theorem z4n (hu:Tryz.prog.underlying t=some (.slice e)) (hz:z0g Tryz.prog e=1) (k:IntKind) (l:List Nat) (i:Int):z0j Tryz.prog t (some (.e (.one (.d (nuR k l))))) i=if 0≤i∧i.toNat<l.length then some (.ep (nuL k (l.drop i.toNat))) else none:=by
 simp [z0j,hu,row?,nuR,zdV,hz,nuL,List.map_drop,-z7t]
theorem zdG (hu:Tryz.prog.underlying t=some (.slice e)) (hz:z0g Tryz.prog e=1) (k:IntKind) (l:List Nat) (lo hi:Option (Option T)):z3n Tryz.prog t (some (.e (.one (.d (nuR k l))))) lo hi=match bound lo 0,bound hi l.length with
  | some i,some j=>if i≤j∧j≤l.length then some (.d (nuR k ((l.drop i).take (j-i)))) else none
  | _,_=>none:=by
 have:=z4Z (P:=Tryz.prog) (t:=t) (e:=e) (f:=fun x:Nat=>[D.leaf (.int k (x:Int))]) (s:=1) (fun _=>rfl) (by decide) hu hz l lo hi;rw [←zeZ,z7t] at this;rw [this];cases bound lo 0 with
 | none=>rfl
 | some i=>
  cases bound hi l.length with
  | none=>rfl
  | some j=>simp only [←zeZ,z7t]
end
@[simp high] theorem loadE_nu32 (h:Nat→Option O) (x:Nat) (l:List Nat):z2n Tryz.prog h 208 (.ep (nuL .u32 (x::l)))=some (.one (.d (.leaf (.int .u32 (x:Int))))):=by simp [z2n,nuL]
@[simp high] theorem loadE_nu64 (h:Nat→Option O) (x:Nat) (l:List Nat):z2n Tryz.prog h 180 (.ep (nuL .u64 (x::l)))=some (.one (.d (.leaf (.int .u64 (x:Int))))):=by simp [z2n,nuL]
@[simp high] theorem evLen_nu32 (k:IntKind) (l:List Nat):z2B Tryz.prog 24 (some (.e (.one (.d (nuR k l)))))=some l.length:=zcd (e:=208) (by simp) k l
@[simp high] theorem evLen_nu64 (k:IntKind) (l:List Nat):z2B Tryz.prog 151 (some (.e (.one (.d (nuR k l)))))=some l.length:=zcd (e:=180) (by simp) k l
@[simp high] theorem zhb (k:IntKind) (l:List Nat) (i:Int):z0j Tryz.prog 24 (some (.e (.one (.d (nuR k l))))) i=if 0≤i∧i.toNat<l.length then some (.ep (nuL k (l.drop i.toNat))) else none:=z4n (e:=208) (by simp) (by simp) k l i
@[simp high] theorem zha (k:IntKind) (l:List Nat) (i:Int):z0j Tryz.prog 151 (some (.e (.one (.d (nuR k l))))) i=if 0≤i∧i.toNat<l.length then some (.ep (nuL k (l.drop i.toNat))) else none:=z4n (e:=180) (by simp) (by simp) k l i
@[simp high] theorem zmf (k:IntKind) (l:List Nat) (lo hi:Option (Option T)):z3n Tryz.prog 151 (some (.e (.one (.d (nuR k l))))) lo hi=match bound lo 0,bound hi l.length with
  | some i,some j=>if i≤j∧j≤l.length then some (.d (nuR k ((l.drop i).take (j-i)))) else none
  | _,_=>none:=zdG (e:=180) (by simp) (by simp) k l lo hi
@[simp] theorem ge_1 (n:Nat):((0:Int)≤(n:Int)+1):=by omega
@[simp] theorem wrap_0:IntKind.wrap .i64 0=0:=by decide
@[simp] theorem wrap_1:IntKind.wrap .i64 1=1:=by decide
@[simp] theorem wrap_2:IntKind.wrap .i64 2=2:=by decide
@[simp] theorem range_2:List.range 2=[0,1]:=rfl
@[simp] theorem range_3:List.range 3=[0,1,2]:=rfl
@[simp] theorem range_4:List.range 4=[0,1,2,3]:=rfl
@[simp] theorem range_5:List.range 5=[0,1,2,3,4]:=rfl
@[simp] theorem range_6:List.range 6=[0,1,2,3,4,5]:=rfl
@[simp] theorem range_7:List.range 7=[0,1,2,3,4,5,6]:=rfl
@[simp] theorem range_8:List.range 8=[0,1,2,3,4,5,6,7]:=rfl
@[simp] theorem range_9:List.range 9=[0,1,2,3,4,5,6,7,8]:=rfl
@[simp] theorem range_10:List.range 10=[0,1,2,3,4,5,6,7,8,9]:=rfl
@[simp] theorem range_11:List.range 11=[0,1,2,3,4,5,6,7,8,9,10]:=rfl
@[simp] theorem range_12:List.range 12=[0,1,2,3,4,5,6,7,8,9,10,11]:=rfl
@[simp] theorem cls_mk (c t:Int) (k:Bool) (b:List UInt8) (l:List Nd):(Nd.mk c t k b l).cls=c:=rfl
@[simp] theorem tag_mk (c t:Int) (k:Bool) (b:List UInt8) (l:List Nd):(Nd.mk c t k b l).tag=t:=rfl
@[simp] theorem cons_mk (c t:Int) (k:Bool) (b:List UInt8) (l:List Nd):(Nd.mk c t k b l).cons=k:=rfl
@[simp] theorem bytes_mk (c t:Int) (k:Bool) (b:List UInt8) (l:List Nd):(Nd.mk c t k b l).bytes=b:=rfl
@[simp] theorem kids_mk (c t:Int) (k:Bool) (b:List UInt8) (l:List Nd):(Nd.mk c t k b l).kids=l:=rfl
theorem z17 {k:Nat} (h:k≤1000000000):IntKind.wrap .i64 (k:Int)=k:=by rw [IntKind.wrap_i64];omega
theorem z0f {x:Int} (h1: -1000000000000000≤x) (h2:x≤1000000000000000):IntKind.wrap .i64 x=x:=by rw [IntKind.wrap_i64];omega
theorem z0t {α:Type} {l:List α} {k:Nat} (h:k<l.length):∃ x r,l.drop k=x::r∧l[k]? = some x∧l.take (k+1)=l.take k++[x]:=
 ⟨l[k],l.drop (k+1),List.drop_eq_getElem_cons h,List.getElem?_eq_getElem h,by rw [List.take_add_one,List.getElem?_eq_getElem h];rfl⟩
def cmpF (a b:List Nat):Nat→Int
 | 0=>0
 | n+1=>if a.getD n 0<b.getD n 0 then -1 else if b.getD n 0<a.getD n 0 then 1 else cmpF a b n
def cmpI (a b:List Nat):Int:=if a.length=b.length then cmpF a b a.length else if a.length<b.length then -1 else 1
theorem z8e {a b:List Nat}:∀ n,cmpF a b n=0↔∀ j,j<n→a.getD j 0=b.getD j 0
 | 0=>by simp [cmpF]
 | n+1=>by
  unfold cmpF;constructor
  ·intro h;split at h
   ·cases h
   ·split at h
    ·cases h
    ·intro j hj;by_cases hjn:j=n
     ·subst hjn;omega
     ·exact (z8e n).1 h j (by omega)
  ·intro h;have hn:=h n (by omega);rw [if_neg (by omega),if_neg (by omega)];exact (z8e n).2 fun j hj=>h j (by omega)
theorem zjy {a b:List Nat}:cmpI a b=0↔a=b:=by
 unfold cmpI;by_cases hl:a.length=b.length
 ·rw [if_pos hl,z8e];constructor
  ·intro h;refine List.ext_getElem hl fun j h1 h2=>?_
   have:=h j h1
   rwa [List.getD_eq_getElem?_getD,List.getD_eq_getElem?_getD,List.getElem?_eq_getElem h1,List.getElem?_eq_getElem h2] at this
  ·rintro rfl j _;rfl
 ·rw [if_neg hl];constructor
  ·intro h;split at h<;>cases h
  ·rintro rfl;exact absurd rfl hl
def cmpN (a b:List Nat):Int:=cmpI (Nt.trim a) (Nt.trim b)
theorem zjx {a b:List Nat} (ha:Nt.Lb a) (hb:Nt.Lb b):cmpN a b=0↔Nt.vl a=Nt.vl b:=by
 unfold cmpN;rw [zjy];constructor
 ·intro h;rw [←Nt.z48 a,h,Nt.z48]
 ·exact Nt.zb6 ha hb
end Am
end Go.Proofs.YtgmppconibklcaaGreatDoor

namespace Go.Proofs.YtgmppconibklcaaGreatDoor
open Go Go.RowKit
theorem zgS (A:Option Addr) (n c:Nat) (l:List Nat) (Av:Nat→Prop) (w:World) (h:Is w Av (.slice A n c) (limD l)) (hL:Nt.Lb l) (hz:n≤100000000):
  Calls Tryz.prog 33 #[.slice A n c] w fun e w'=>∃ v,e = .returned v∧NdAt w' (Old w) v (Dr.natN (Nt.vl l))∧Below w.heap.size w w':=by
 have H:=Lib.hid h;have HL:=Lib.hid hL;obtain ⟨K,hK⟩:∃ K,K=Nt.bl (Nt.vl l):=⟨_,rfl⟩;have HKK:=Lib.hid hK;obtain ⟨V,hV⟩:∃ V,V=w.alloc (.cells #[.int .i64 0,.int .i64 0,.bool false,.slice none 0 0,.slice none 0 0] 61):=⟨_,rfl⟩;have HB:Hid (Below w.heap.size w V):=by show Below _ _ _;rw [hV];exact (Below.refl _ w).alloc (Nat.le_refl _) _
 have HK:Hid (Blk V w.heap.size 61 #[.int .i64 0,.int .i64 0,.bool false,.slice none 0 0,.slice none 0 0]):=by show Blk _ _ _ _;rw [hV];exact Blk.new w _ _
 have hsz:=HB.out.size;have HV:=Lib.hid hV;have HIV:Hid (Is V Av (.slice A n c) (limD l)):=h.stays HB.out;clear h hL hK hV;go_enter Tryz.func33,Tryz.ntmps33
 go_upto_region 1 with fail
 rw [←HV.out]
 go_wp2_with fail
 refine (z3R A n c l Av V HIV.out HL.out hz).mono ?_;rintro e w' ⟨rfl,rfl⟩;rw [←HKK.out];obtain ⟨q0,q1,q2,q3,q4,f0,f1,f2,f3,f4⟩:=HK.out.five;by_cases hk:131072<K
 ·have hd:decide ((131072:Int)<(K:Int))=true:=decide_eq_true (by omega);have HD:=Lib.hid hk;clear hk
  go_wp2_with fail
  refine bodyPost_ret (z2h Tryz.results33 _ _ (HK.out.set5 _ _ _ _ _) rfl) rfl ⟨_,rfl,?_,?_⟩
  ·have e:Dr.natN (Nt.vl l)=Nd.nil:=by unfold Dr.natN;rw [←HKK.out];exact if_pos HD.out
   rw [e];exact ⟨_,_,rfl,Is.z1U _ _,Is.z3e _ _⟩
  ·exact z0y HB.out (Nat.le_refl _) _ _ _ _ _
 ·have hd:decide ((131072:Int)<(K:Int))=false:=decide_eq_false (by omega);have hK9:K≤131072:=by omega
  have HD:=Lib.hid hk;clear hk
  go_wp2_with fail
  refine (z3R A n c l Av _ HIV.out HL.out hz).mono ?_;rintro e w' ⟨rfl,rfl⟩;rw [←HKK.out];obtain ⟨j,hj⟩:∃ j,j=K / 8:=⟨_,rfl⟩;have hj2:(K:Int) / 8=(j:Int):=by omega
  have hj9:(j:Int)≤16384:=by omega
  have HJ:=Lib.hid hj;clear hj
  go_wp2_with fail
  have hw:=zbQ A n c (j+1) l Av V HIV.out HL.out hz (by omega) (by rw [←HKK.out];have:=HJ.out;omega);have ej:((j+1:Nat):Int)=(j:Int)+1:=by omega
  rw [ej] at hw;refine hw.mono ?_;clear hw ej;rintro e V2 ⟨v,rfl,ho2,hb2⟩;obtain ⟨A2,c2,rfl,_⟩:=z0P ho2;have HO2:Hid (Is V2 (Old V) (.slice A2 (j+1) c2) (z04 (Nt.beN (j+1) (Nt.vl l)))):=z1x ho2 (fun g hg=>hg);have HB2:=Lib.hid hb2;clear ho2 hb2 q0 q1 q2 q3 q4 f0 f1 f2 f3 f4
  go_wp2_with fail
  refine (z1d 2 A2 (j+1) c2 _ _ _ HO2.out (by omega)).mono ?_;rintro e w9 ⟨v,rfl,h9,hb9⟩;have H9:=Lib.hid h9;obtain ⟨A1,c1,A3,c3,rfl⟩:=h9.form;have HB9:=Lib.hid (HB2.out.trans (hb9.mono HB2.out.size));have HK9:=Lib.hid (HK.out.below HB9.out HK.out.lt);obtain ⟨q0,q1,q2,q3,q4,f0,f1,f2,f3,f4⟩:=HK9.out.five;have hws:w.heap.size<V2.heap.size:=by have h3:=HB2.out.size;have h4:=HK.out.lt;omega
  clear h9 hb9
  go_wp2_with fail
  refine bodyPost_ret (z2h Tryz.results33 _ _ (HK9.out.set5 _ _ _ _ _) rfl) rfl ⟨_,rfl,?_,?_⟩
  ·have e:Dr.natN (Nt.vl l)=Dr.prim 2 (Nt.beN (j+1) (Nt.vl l)):=by unfold Dr.natN;rw [←HKK.out,if_neg HD.out,←HJ.out]
   rw [e];exact (H9.out.set5 (by show w.heap.size<_;exact hws) _ _ _ _ _).less (fun b hb _=>Nat.lt_of_lt_of_le hb (Nat.le_of_lt hws))
  ·exact z0y (HB.out.trans (HB9.out.mono hsz)) (Nat.le_refl _) _ _ _ _ _
end Go.Proofs.YtgmppconibklcaaGreatDoor

namespace Go.Proofs.YtgmppconibklcaaGreatDoor
open Go Go.RowKit

theorem z5V (a b:List UInt8):((⟨a.toArray⟩:ByteArray)++(⟨b.toArray⟩:ByteArray))=⟨(a++b).toArray⟩:=by
 rw [zhv];simp
def lenS:Value→Nat | .slice _ n _=>n|_=>0
end Go.Proofs.YtgmppconibklcaaGreatDoor

namespace Go.Proofs.YtgmppconibklcaaGreatDoor
open Go Go.RowKit
theorem z7C {w w':World} (h:∃ n,w'=w.drewN n):Below w.heap.size w w':=by
 obtain ⟨n,rfl⟩:=h;exact below_drewN (Below.refl _ _) _
end Go.Proofs.YtgmppconibklcaaGreatDoor

namespace Go.Proofs.YtgmppconibklcaaGreatDoor
namespace Dr
theorem zas (c t:Int) (k:Bool) (n:Nat):2≤(head c t k n).length:=by
 unfold head lenB;rw [List.length_cons];split
 ·simp
 ·simp
mutual
theorem zlJ:∀ (n:Nd) {o:List UInt8},put n=some o→wt n≤6*o.length
 | .mk c t k b l,o,h=>by
  rw [wt];rw [put] at h;split at h
  ·split at h
   ·rename_i bs hbs;have h1:=z9M l hbs;split at h
    ·cases h
    ·injection h with h;subst h;have h3:=zas c t k (b++bs.flatten).length;generalize head c t k (b++bs.flatten).length=hd at h3;rw [List.length_append,List.length_append];omega
   ·cases h
  ·cases h
theorem z9M:∀ (l:List Nd) {o:List (List UInt8)},puts l=some o→wts l≤6*o.flatten.length
 | [],o,h=>by rw [wts];omega
 | n::l,o,h=>by
  rw [wts];rw [puts] at h;split at h
  ·rename_i b hb;split at h
   ·rename_i bs hbs;injection h with h;subst h;have h1:=zlJ n hb;have h2:=z9M l hbs;rw [List.flatten_cons,List.length_append];omega
   ·cases h
  ·cases h
end
end Dr
end Go.Proofs.YtgmppconibklcaaGreatDoor

namespace Go.Proofs.YtgmppconibklcaaGreatDoor
namespace Dr
mutual
theorem ziK:∀ (n:Nd) {o:List UInt8},put n=some o→mx n≤o.length
 | .mk c t k b l,o,h=>by
  rw [mx];rw [put] at h;split at h
  ·split at h
   ·rename_i bs hbs;have h1:=zdr l hbs;split at h
    ·cases h
    ·injection h with h;subst h;generalize head c t k (b++bs.flatten).length=hd;rw [List.length_append,List.length_append];omega
   ·cases h
  ·cases h
theorem zdr:∀ (l:List Nd) {o:List (List UInt8)},puts l=some o→mxs l≤o.flatten.length
 | [],o,h=>by rw [mxs];omega
 | n::l,o,h=>by
  rw [mxs];rw [puts] at h;split at h
  ·rename_i b hb;split at h
   ·rename_i bs hbs;injection h with h;subst h;have h1:=ziK n hb;have h2:=zdr l hbs;rw [List.flatten_cons,List.length_append];omega
   ·cases h
  ·cases h
end
end Dr
end Go.Proofs.YtgmppconibklcaaGreatDoor

namespace Go.Proofs.YtgmppconibklcaaGreatDoor
open Go Go.RowKit
namespace Am
variable {gl:Nat→Option (List D)}
@[simp] theorem nd_eta (n:Nd):Nd.mk n.cls n.tag n.cons n.bytes n.kids=n:=by cases n;rfl
theorem zm8 (c t:Int) (k:Bool) (b:List UInt8) (l:List Nd) (L:List Nd):D.leaf (.int .i64 c) :: .leaf (.int .i64 t) :: .leaf (.bool k)::z04 b::ndR l::ndL L=ndL (Nd.mk c t k b l::L):=by
 rw [zam];rfl
theorem znp:ndL []=[]:=rfl
@[simp] theorem ndL_one (c t:Int) (k:Bool) (b:List UInt8) (l:List Nd):[D.leaf (.int .i64 c),.leaf (.int .i64 t),.leaf (.bool k),z04 b,ndR l]=ndL [Nd.mk c t k b l]:=by
 rw [←zm8,znp]
@[simp] theorem row_byteD (l:List UInt8):D.row 1 (l.map zcB)=z04 l:=rfl
theorem dInt (n:Int) (h0: -9223372036854775808≤n) (h1:n≤9223372036854775807):OK gl 31 [iX n] (.e (nX (Dr.intN n))):=
 z0v rfl rfl z0q fun w vals hT hargs=>by
  obtain ⟨v,rfl,h⟩:=hargs.one_;have e:=RD.z0M h;subst e;refine (zgT n w h0 h1).mono ?_;rintro e w' ⟨v',rfl,hn,hb⟩;exact ⟨_,rfl,z68 hn,hb⟩
theorem dPrim (t:Int) (b:List UInt8) (hz:b.length≤100000000):OK gl 34 [iX t,rX (z04 b)] (.e (nX (Dr.prim t b))):=
 z0v rfl rfl z0q fun w vals hT hargs=>by
  obtain ⟨u,v,rfl,hu,h⟩:=hargs.two;have e:=RD.z0M hu;subst e;have hi:Is w (fun _=>False) v (z04 b):=z3p (show RD (imOf w _) v (z04 b) from h);obtain ⟨A,c,rfl,hc,_⟩:=hi.bytes;refine (z1d t A b.length c b _ w hi hz).mono ?_;rintro e w' ⟨v',rfl,hn,hb⟩;exact ⟨_,rfl,z68 hn,hb⟩
theorem dNat (l:List Nat) (hL:Nt.Lb l) (hz:l.length≤100000000):OK gl 33 [rX (nuR .u32 l)] (.e (nX (Dr.natN (Nt.vl l)))):=by
 rw [←zdv];exact z0v rfl rfl z0q fun w vals hT hargs=>by
  obtain ⟨v,rfl,h⟩:=hargs.one_;have hi:Is w (fun _=>False) v (limD l):=z3p (show RD (imOf w _) v (limD l) from h);obtain ⟨A,n,c,xs,rfl,hn,_⟩:=hi.open_row;refine (zgS A n c l _ w hi hL (by simp at hn;omega)).mono ?_;rintro e w' ⟨v',rfl,hn,hb⟩;exact ⟨_,rfl,z68 hn,hb⟩
theorem dWrite (n:Nd) (hf:Fine n):OK gl 36 [nX n] (.tup [rX (z04 (Dr.write n).1),iX (Dr.write n).2]):=
 z0v rfl rfl z0q fun w vals hT hargs=>by
  obtain ⟨v,rfl,h⟩:=hargs.one_;refine (zcl n v _ w (zaV h) hf hT).mono ?_;rintro e w' ⟨v',rfl,hi,hb⟩;exact ⟨_,rfl,z2q (.z0D (z2D hi (.bytes _)) (.z0D (.leaf _ rfl) .nil_)),hb⟩
theorem zaL (m:Nd) (hf:Fine m) (c t:Int) (k:Bool) (b:List UInt8) (l:List Nd) (h:Nd.mk c t k b l=m):OK gl 36 [.agg [.d (.leaf (.int .i64 c)),.d (.leaf (.int .i64 t)),.d (.leaf (.bool k)),.d (z04 b),.d (ndR l)]] (.tup [rX (z04 (Dr.write m).1),iX (Dr.write m).2]):=by
 subst h;exact dWrite _ hf
theorem tOid (s:List UInt8) (hs:s.length≤90000):OK gl 32 [sX ⟨s.toArray⟩] (.tup [nX (Rq.oidN s),bX (Rq.z1p s)]):=
 z0v rfl rfl z0q fun w vals hT hargs=>by
  obtain ⟨v,rfl,h⟩:=hargs.one_;have e:=RD.z0M h;subst e;refine (z8L ⟨s.toArray⟩ w (by simpa [ByteArray.size] using hs)).mono ?_;rintro e w' ⟨v',rfl,hn,hb⟩;exact ⟨_,rfl,z2q (.z0D (z68 (n:=Rq.oidN s) hn) (.z0D (.leaf _ rfl) .nil_)),hb⟩
theorem zkk (s b:List UInt8) (hs:s.length≤90000) (hz:b.length≤100000):OK gl 27 [sX ⟨s.toArray⟩,rX (z04 b)] (.tup [nX (Rq.impN s b),bX (Rq.z2z s b)]):=
 z0v rfl rfl z0q fun w vals hT hargs=>by
  obtain ⟨u,v,rfl,hu,h⟩:=hargs.two;have e:=RD.z0M hu;subst e;have hi:Is w (fun _=>False) v (z04 b):=z3p (show RD (imOf w _) v (z04 b) from h);obtain ⟨A,c,rfl,hc,_⟩:=hi.bytes;refine (z8r ⟨s.toArray⟩ A b.length c b _ w hi (by simpa [ByteArray.size] using hs) hz).mono ?_;rintro e w' ⟨v',rfl,hn,hb⟩;exact ⟨_,rfl,z2q (.z0D (z68 (n:=Rq.impN s b) hn) (.z0D (.leaf _ rfl) .nil_)),hb⟩
theorem tNonce (has:Bool) (l:List Nat) (hL:Nt.Lb l) (hz:l.length≤100000000):OK gl 29 [bX has,rX (nuR .u32 l)] (.b (Rq.z0s has (Nt.vl l))):=by
 rw [←zdv];exact zf0 has l hL hz
noncomputable def longE (t u:Int):Int:=if (Rq.znu t u).isSome then 0 else if u<0∨999999<u then 1 else 21
def ownT (l:List Nd):T:=match l with
 | []=> .e (.one .nilS)
 | l=> .e (.one (.gr 14 5 (ndL l)))
def ownW (l:List Nd):List O:=match l with
 | []=>[]
 | l=>[.own 61 5 l.length]
structure OwnI (l:List Nd) (k:Nat) (s:SF):Prop where
 e6:s.env 6=some (.e (rX (ndR l)))
 e7:s.env 7=some (.e (iX l.length))
 ex:∃ j,j+k=l.length∧s.env 8=some (.e (iX j))∧((j=0∧s.env 3=some (.e (.one .nilS)))∨(0<j∧s.env 3=some (.e (.one (.gr 368 5 (ndL (l.take j)))))∧s.heap 368=some (.own 61 5 j)))
end Am
end Go.Proofs.YtgmppconibklcaaGreatDoor

namespace Go.Proofs.YtgmppconibklcaaGreatDoor
open Go Go.RowKit
namespace Am
structure Drw (id:Nat) (ks hs:List Nat):Prop where
theorem drw_ {gl:Nat→Option (List D)} {tb:World→Prop} {sz:Nat} {ops:Array Oper} {Q:Ex→SF→Prop} {s:SF} {id:Nat} {ks hs:List Nat} (d:Drw id ks hs) (hd:z9z ops=true) (h:∀ Q',Hd Q' Q→LogC Tryz.prog gl tb sz ops ops.toList [] (snap ks hs s) (zjZ ops Q')):WpC Tryz.prog gl tb sz (.region id ops true) Q s:=dr_ ks hs hd h
def WpR (gl:Nat→Option (List D)) (tb:World→Prop) (sz:Nat) (n:Nat) (b:Code) (Q:Ex→SF→Prop) (s:SF):Prop:=∀ (c:Ctx),c.gl=gl→c.tb=tb→∀ a w,Rel c sz s a w→Code.rounds Tryz.prog b (fun e' a' w'=>∃ e s',e'=exOf e∧Q e s'∧Rel c sz s' a' w') n a w
def RndK (gl:Nat→Option (List D)) (tb:World→Prop) (sz:Nat) (n:Nat) (b:Code) (Q:Ex→SF→Prop):Ex→SF→Prop:=fun e s=>
 match e with
 | .normal=>WpR gl tb sz n b Q s
 | e=>Q e s
section
variable {gl:Nat→Option (List D)} {tb:World→Prop} {sz n:Nat} {b:Code} {Q:Ex→SF→Prop} {s:SF}
theorem z7u:RndK gl tb sz n b Q .normal s=WpR gl tb sz n b Q s:=propext Iff.rfl
theorem zbr {id:Nat}:RndK gl tb sz n b Q (.exit id) s=Q (.exit id) s:=propext Iff.rfl
theorem zej:RndK gl tb sz n b Q .ret s=Q .ret s:=propext Iff.rfl
theorem rn_ (h:WpC Tryz.prog gl tb sz b (RndK gl tb sz n b Q) s):WpR gl tb sz (n+1) b Q s:=fun c h1 h2 a w hR=>by
 rw [rounds_succ];refine Code.wp_mono ?_ (h c h1 h2 a w hR);rintro e' a' w' ⟨e,s1,rfl,hQ,hR1⟩;cases e with
 | normal=>exact hQ c h1 h2 a' w' hR1
 | exit id=>exact ⟨.exit id,s1,rfl,hQ,hR1⟩
 | ret=>exact ⟨.ret,s1,rfl,hQ,hR1⟩
structure Unr (n:Nat):Prop where
theorem un_ (u:Unr n) (h:WpR gl tb sz n b Q s):WpC Tryz.prog gl tb sz (.loop b) Q s:=fun c h1 h2 a w hR=>wp_loop_rounds n (h c h1 h2 a w hR)
end
theorem am_ {p:Prop} (h:p:=by
  repeat' (first
   | (first|refine sq_ ?_|refine bk_ ?_|refine un_ (by assumption) ?_|refine rn_ ?_)
   | ((first|refine rg_ fun Q hQ=>?_|refine if_ fun Q hQ=>?_|refine drw_ (by assumption) (by kernel_rfl) fun Q hQ=>?_|refine ct_ (by first|with_reducible assumption|assumption) ?_|refine cd_ (by first|with_reducible assumption|assumption) ?_ ?_|(refine z4s (by assumption) ?_;first|rintro t ws os' ⟨⟨x,rfl⟩,rfl,rfl⟩|rintro t ws os' ⟨⟨x,y,hy,rfl⟩,rfl,rfl⟩|rintro t ws os' ⟨rfl,rfl,rfl⟩));simp -implicitDefEqProofs [*])
   | ((first|refine bs_ ?_ ?_|refine cs_ ?_ ?_)<;>(intro hc;have hb:=hc;(try simp only [hk_,ne_eq] at hc);(try have ⟨hc1,hc2⟩:_∧_:=hc);(try subst_vars))<;>first|contradiction|(exfalso;omega)|(simp -implicitDefEqProofs [*])|skip)
   | ((first|(refine atQ hQ ?_;clear hQ)|refine atQ (by assumption) ?_|refine z05 ?_|refine z06 ?_|refine z07 ?_);try simp only [sk_,z7u,zbr,zej,↓reduceIte,Nat.reduceEqDiff])
   | (with_reducible refine And.intro ?_ ?_;focus (decide +kernel))
   | (first|exact z0h|refine cn_ (by decide) ?_|refine cc_ (by intro e1 e2 e3;simp_all) ?_|refine And.intro (by decide +kernel) ?_)
   | (show EndK _ _ _ _ _ _ _ _;simp -implicitDefEqProofs [*])
   | ((with_reducible show OptK _ _);(simp (disch:=omega) only [if_pos,if_neg]);(try (simp -implicitDefEqProofs [*])))
   | omega|rfl|(rw [Bool.eq_iff_iff];simp;omega))):p:=h
theorem ama_ {p:Prop} (h:p:=by
  repeat' (first
   | (first|refine sq_ ?_|refine bk_ ?_|refine un_ (by assumption) ?_|refine rn_ ?_)
   | ((first|refine rg_ fun Q hQ=>?_|refine if_ fun Q hQ=>?_|refine drw_ (by assumption) (by kernel_rfl) fun Q hQ=>?_|refine ct_ (by first|with_reducible assumption|assumption) ?_|refine cd_ (by first|with_reducible assumption|assumption) ?_ ?_|(refine z4s (by assumption) ?_;first|rintro t ws os' ⟨⟨x,rfl⟩,rfl,rfl⟩|rintro t ws os' ⟨⟨x,y,hy,rfl⟩,rfl,rfl⟩|rintro t ws os' ⟨rfl,rfl,rfl⟩));simp -implicitDefEqProofs [*,z08])
   | ((first|refine bs_ ?_ ?_|refine cs_ ?_ ?_)<;>(intro hc;have hb:=hc;(try simp only [hk_,ne_eq] at hc);(try have ⟨hc1,hc2⟩:_∧_:=hc);(try subst_vars))<;>first|contradiction|(exfalso;omega)|(simp -implicitDefEqProofs [*,z08])|skip)
   | ((first|(refine atQ hQ ?_;clear hQ)|refine atQ (by assumption) ?_|refine z05 ?_|refine z06 ?_|refine z07 ?_);try simp only [sk_,z7u,zbr,zej,↓reduceIte,Nat.reduceEqDiff])
   | (with_reducible refine And.intro ?_ ?_;focus (decide +kernel))
   | (first|exact z0h|refine cn_ (by decide) ?_|refine cc_ (by intro e1 e2 e3;simp_all) ?_|refine And.intro (by decide +kernel) ?_)
   | (show EndK _ _ _ _ _ _ _ _;simp -implicitDefEqProofs [*,z08])
   | ((with_reducible show OptK _ _);(simp (disch:=omega) only [if_pos,if_neg]);(try (simp -implicitDefEqProofs [*,z08])))
   | omega|rfl|(rw [Bool.eq_iff_iff];simp;omega))):p:=h
end Am
end Go.Proofs.YtgmppconibklcaaGreatDoor

