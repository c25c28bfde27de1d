/- Part of the proof. No condition. -/
import Derived.Test.YtgmppconibklcaaGreatDoorM18
import Derived.RangeFuncNested
import Derived.RangeFuncBound
import Derived.RangeFuncCalls
import Derived.RangeFuncLeaves
import Derived.RangeFuncBox
import Derived.RangeFuncFrom
import Derived.Shelf.Abstract
import Derived.Shelf.RegionOpen
import Derived.WalkKit
import Derived.OwnWalkIn
import Derived.TacticsInMore
import Derived.LoopNIn
import Derived.LoopIn
import Derived.Maps.AppendAt
import Derived.WalkLawsBesides
import Derived.Test.YtgmppconibklcaaGreatDoorProg
import Derived.Test.YtgmppconibklcaaGreatDoorM0
import Derived.Test.YtgmppconibklcaaGreatDoorShelf
import Derived.Test.YtgmppconibklcaaGreatDoorM8
import Derived.Test.YtgmppconibklcaaGreatDoorM15
import Derived.Test.YtgmppconibklcaaGreatDoorM13
set_option maxHeartbeats 40000000
set_option maxRecDepth 100000
set_option linter.unusedVariables false
set_option linter.unusedSimpArgs false
namespace Go.Proofs.YtgmppconibklcaaGreatDoor
namespace Rq
open Dr
def z1u:Nd:=prim 1 [255]
def impN (alg impr:Bs):Nd:=seq [seq [oidN alg],prim 4 impr]
def z0s (has:Bool) (n:Nat):Bool:=decide (Nt.bl n≤160)&&(has||Nt.bl n==0)
def z0N (l:List Ex):Bool:=decide (l.length≤32)&&l.all exOk&&decide ((l.map (·.oid)).Nodup)
def ctxN (l:List Ex):Nd:= .mk 2 0 true [] (l.map exN)
def opt (b:Bool) (n:Nd):List Nd:=if b then [n] else []
def z1B (q:Req):List Nd:=opt (!q.policy.isEmpty) (oidN q.policy)++(opt q.has (natN q.nonce)++(opt q.cert z1u++opt (!q.exts.isEmpty) (ctxN q.exts)))
def node (q:Req):Nd:=seq (intN 1::impN q.alg q.impr::z1B q)
def z2z (alg impr:Bs):Bool:=z1p alg&&decide (1≤impr.length)&&decide (impr.length≤64)
def z0i (q:Req):Bool:=z2z q.alg q.impr&&(q.policy.isEmpty||z1p q.policy)&&z0s q.has q.nonce&&z0N q.exts
def z6M (n:Nd):Option (Bs×Bs):=
 if z0U n 2 2&&z0U (kid n 0) 1 1&&isU (kid n 1) 4 then
  match z2R (kid (kid n 0) 0) with
  | some o=>if 1≤(kid n 1).bytes.length∧(kid n 1).bytes.length≤64 then some (o,(kid n 1).bytes) else none
  | none=>none
 else none
def z0G:List Nd→Bs×List Nd
 | []=>([],[])
 | k::t=>match z2R k with
  | some s=>(s,t)
  | none=>([],k::t)
def z0p:List Nd→Bool×Nat×List Nd
 | []=>(false,0,[])
 | k::t=>if k.cls=0∧k.tag=2 then match z1z k with
   | some a=>(true,a,t)
   | none=>(false,0,k::t)
  else (false,0,k::t)
def z1j:List Nd→Bool×List Nd
 | []=>(false,[])
 | k::t=>if k.cls=0∧k.tag=1∧k.bytes=[255] then (true,t) else (false,k::t)
def z18:List Nd→Option (List Ex×List Nd)
 | []=>some ([],[])
 | k::t=>if k.cls=2∧k.tag=0∧0<k.kids.length then match k.kids.mapM exOf with
   | some es=>some (es,t)
   | none=>none
  else some ([],k::t)
def z34 (n:Nd):Option Req:=
 if z0U n 2 6&&(intOf (kid n 0)==some 1&&(kid n 0).tag==2) then
  match z6M (kid n 1) with
  | none=>none
  | some (alg,impr)=>
   match z18 (z1j (z0p (z0G (n.kids.drop 2)).2).2.2).2 with
   | none=>none
   | some (es,l)=>
    if l.isEmpty&&z0N es&&z0s (z0p (z0G (n.kids.drop 2)).2).1 (z0p (z0G (n.kids.drop 2)).2).2.1 then
     some ⟨alg,impr,(z0G (n.kids.drop 2)).1,(z0p (z0G (n.kids.drop 2)).2).1,(z0p (z0G (n.kids.drop 2)).2).2.1,(z1j (z0p (z0G (n.kids.drop 2)).2).2.2).1,es⟩
    else none
 else none
theorem znT {b s:Bs} (h:Od.decO b=some s):s≠[]:=by
 obtain ⟨g,gs,_,rfl⟩:=Od.z8c h;unfold Od.z0m;simp
theorem zkW {k:Nd} {s:Bs} (h:z2R k=some s):s≠[]:=by
 unfold z2R at h;split at h
 ·exact znT h
 ·cases h
theorem z8M (l:List Nd):l=opt (!(z0G l).1.isEmpty) (oidN (z0G l).1)++(z0G l).2∧((z0G l).1.isEmpty=true∨z1p (z0G l).1=true)∧(∀ k∈(z0G l).2,k∈l):=by
 match l with
 | []=>exact ⟨rfl,.inl rfl,fun k h=>h⟩
 | k::t=>
  simp only [z0G];split
  ·rename_i s hs;have hne:=zkW hs;obtain ⟨h1,h2⟩:=z66 hs;have he:(!s.isEmpty)=true:=by cases s with|nil=>exact absurd rfl hne|cons _ _=>rfl
   refine ⟨?_,.inr h2,fun k h=>List.mem_cons_of_mem _ h⟩;simp only [he,opt,if_true,←h1];rfl
  ·exact ⟨rfl,.inl rfl,fun k h=>h⟩
theorem zfX {l:List Nd} (hr:∀ k∈l,right k=true) (hb:Nt.bl (z0p l).2.1≤131072):l=opt (z0p l).1 (natN (z0p l).2.1)++(z0p l).2.2∧(∀ k∈(z0p l).2.2,k∈l):=by
 match l with
 | []=>exact ⟨rfl,fun k h=>h⟩
 | k::t=>
  simp only [z0p] at hb ⊢;split
  ·rename_i hk;rw [if_pos hk] at hb;split
   ·rename_i a ha;rw [ha] at hb;have:=zgv ha hk.2 hb;refine ⟨?_,fun k h=>List.mem_cons_of_mem _ h⟩;simp only [opt,if_true,←this];rfl
   ·exact ⟨rfl,fun k h=>h⟩
  ·exact ⟨rfl,fun k h=>h⟩
theorem zcQ {l:List Nd} (hr:∀ k∈l,right k=true):l=opt (z1j l).1 z1u++(z1j l).2∧(∀ k∈(z1j l).2,k∈l):=by
 match l with
 | []=>exact ⟨rfl,fun k h=>h⟩
 | k::t=>
  simp only [z1j];split
  ·rename_i hk;have:=(z3v (hr k List.mem_cons_self) hk.1 (by rw [hk.2.1];decide)).1;rw [hk.2.1,hk.2.2] at this;refine ⟨?_,fun k h=>List.mem_cons_of_mem _ h⟩;simp only [opt,if_true];rw [this];rfl
  ·exact ⟨rfl,fun k h=>h⟩
theorem ziL {l:List Nd} {es:List Ex} (h:l.mapM exOf=some es):es.map exN=l∧es.all exOk=true∧es.length=l.length:=by
 induction l generalizing es with
 | nil=>
  simp only [List.mapM_nil,Option.pure_def,Option.some.injEq] at h;subst h;exact ⟨rfl,rfl,rfl⟩
 | cons k l ih=>
  rw [List.mapM_cons] at h;simp only [Option.bind_eq_bind,Option.bind_eq_some_iff,Option.pure_def,Option.some.injEq] at h;obtain ⟨e,he,es',hes,rfl⟩:=h;obtain ⟨h1,h2,h3⟩:=ih hes;obtain ⟨h4,h5⟩:=z84 he;refine ⟨by rw [List.map_cons,h1,h5],by simp [h4,h2],by simp [h3]⟩
theorem zf3:∀ {es:List Ex},es.all exOk=true→(es.map exN).mapM exOf=some es
 | [],_=>rfl
 | e::es,h=>by
  simp only [List.all_cons,Bool.and_eq_true] at h;rw [List.map_cons,List.mapM_cons,zav h.1,zf3 h.2];rfl
theorem ctx_of {k:Nd} (hr:right k=true) (h:k.cls=2∧k.tag=0∧0<k.kids.length):k = .mk 2 0 true [] k.kids:=by
 obtain ⟨c,t,b,bs,l⟩:=k;obtain ⟨rfl,rfl,h3⟩:c=2∧t=0∧0<l.length:=h;unfold right at hr;rw [put] at hr;split at hr
 ·rename_i hok;simp only [Bool.and_eq_true] at hok;have hb:b=true:=by
   cases b with
   | true=>rfl
   | false=>
    exfalso;have:=hok.1.2;simp at this;subst this;simp at h3
  subst hb;have:bs=[]:=by simpa using hok.1.1.2
  subst this;rfl
 ·cases hr
theorem zcT {l:List Nd} {es:List Ex} {t:List Nd} (hr:∀ k∈l,right k=true) (h:z18 l=some (es,t)):l=opt (!es.isEmpty) (ctxN es)++t:=by
 match l,h with
 | [],h=>
  simp only [z18,Option.some.injEq,Prod.mk.injEq] at h;obtain ⟨rfl,rfl⟩:=h;rfl
 | k::l,h=>
  simp only [z18] at h;split at h
  ·rename_i hk;split at h
   ·rename_i es' hes;simp only [Option.some.injEq,Prod.mk.injEq] at h;obtain ⟨rfl,rfl⟩:=h;obtain ⟨h1,h2,h3⟩:=ziL hes;have he:(!es'.isEmpty)=true:=by
     cases es' with
     | nil=>exfalso;have:=hk.2.2;simp at h3;omega
     | cons _ _=>rfl
    simp only [he,opt,if_true,ctxN];rw [h1,←ctx_of (hr k List.mem_cons_self) hk];rfl
   ·cases h
  ·simp only [Option.some.injEq,Prod.mk.injEq] at h;obtain ⟨rfl,rfl⟩:=h;rfl
theorem zgF {n:Nd} (hr:right n=true) {alg impr:Bs} (h:z6M n=some (alg,impr)):n=impN alg impr∧z2z alg impr=true:=by
 unfold z6M at h;split at h
 ·rename_i hs;simp only [Bool.and_eq_true] at hs;split at h
  ·rename_i o ho;split at h
   ·rename_i hl;simp only [Option.some.injEq,Prod.mk.injEq] at h;obtain ⟨rfl,rfl⟩:=h;obtain ⟨hn,h1,h2⟩:=zhA hr hs.1.1;have hk:=z2F hr;generalize n.kids=l at hn h1 h2 hk;subst hn;match l,h1,h2 with
    | [x,y],_,_=>
     have hx:kid (seq [x,y]) 0=x:=rfl;have hy:kid (seq [x,y]) 1=y:=rfl;rw [hx,hy] at hs;rw [hx] at ho;rw [hy] at hl ⊢;obtain ⟨hn2,h3,h4⟩:=zhA (hk x List.mem_cons_self) hs.1.2;generalize hgx:x.kids=l2 at hn2 h3 h4;subst hn2;match l2,h3,h4 with
     | [z],_,_=>
      have hz:kid (seq [z]) 0=z:=rfl;rw [hz] at ho;obtain ⟨h5,h6⟩:=z66 ho;have h7:=(z5A hs.2 (by decide)).1;refine ⟨?_,by unfold z2z;simp [h6,hl]⟩;unfold impN;rw [←h5,←h7]
   ·cases h
  ·cases h
 ·cases h
theorem zgG {alg impr:Bs} (h:z2z alg impr=true):z6M (impN alg impr)=some (alg,impr):=by
 unfold z2z at h;simp only [Bool.and_eq_true,decide_eq_true_eq] at h;have ho:=z67 h.1.1;have h4:=z9q impr;unfold z6M impN;simp only [seq,kid,z0U,Nd.cls,Nd.tag,Nd.cons,Nd.kids,List.length_cons,List.length_nil,List.getD_cons_zero,List.getD_cons_succ,ho,h4];simp [prim,Nd.bytes,h.1.2,h.2]
theorem zhJ {alg impr:Bs} (h:z2z alg impr=true):right (impN alg impr)=true:=by
 unfold z2z at h;simp only [Bool.and_eq_true] at h;refine z5l fun k hk=>?_
 rcases List.mem_cons.1 hk with rfl|hk
 ·refine z5l fun k hk=>?_
  rcases List.mem_cons.1 hk with rfl|hk
  ·exact z5m h.1.1
  ·cases hk
 ·rcases List.mem_cons.1 hk with rfl|hk
  ·exact z39 _
  ·cases hk
theorem z8X {n:Nd} {q:Req} (hr:right n=true) (h:z34 n=some q):z0i q=true∧node q=n:=by
 unfold z34 at h;split at h
 ·rename_i hs;simp only [Bool.and_eq_true,beq_iff_eq] at hs;obtain ⟨hs,h1,h1t⟩:=hs;obtain ⟨hn,hl1,hl2⟩:=zhA hr hs;have hk:=z2F hr;split at h
  ·cases h
  ·rename_i alg impr himp;split at h
   ·cases h
   ·rename_i es l hes;split at h
    ·rename_i hf;simp only [Bool.and_eq_true,List.isEmpty_iff] at hf;obtain ⟨⟨rfl,hex⟩,hno⟩:=hf;have hbl:Nt.bl (z0p (z0G (n.kids.drop 2)).2).2.1≤131072:=by
      unfold z0s at hno;simp only [Bool.and_eq_true,decide_eq_true_eq] at hno;omega
     simp only [Option.some.injEq] at h;subst h;have hkd:∀ k∈n.kids.drop 2,right k=true:=fun k h=>hk k (List.mem_of_mem_drop h)
     obtain ⟨e1,o1,m1⟩:=z8M (n.kids.drop 2);have r1:∀ k∈(z0G (n.kids.drop 2)).2,right k=true:=fun k h=>hkd k (m1 k h)
     obtain ⟨e2,m2⟩:=zfX r1 hbl;have r2:∀ k∈(z0p (z0G (n.kids.drop 2)).2).2.2,right k=true:=fun k h=>r1 k (m2 k h)
     obtain ⟨e3,m3⟩:=zcQ r2;have r3:∀ k∈(z1j (z0p (z0G (n.kids.drop 2)).2).2.2).2,right k=true:=fun k h=>r2 k (m3 k h)
     have e4:=zcT r3 hes;rw [List.append_nil] at e4;have hk0:kid n 0∈n.kids:=by
      unfold kid;rw [List.getD_eq_getElem?_getD,List.getElem?_eq_getElem (by omega)];exact List.getElem_mem _
     have hk1:kid n 1∈n.kids:=by
      unfold kid;rw [List.getD_eq_getElem?_getD,List.getElem?_eq_getElem (by omega)];exact List.getElem_mem _
     obtain ⟨i1,i2⟩:=zgF (hk _ hk1) himp;have i0:=zgD h1 h1t;refine ⟨?_,?_⟩
     ·unfold z0i;simp only [i2,hno,hex,Bool.true_and,Bool.and_true,Bool.or_eq_true];exact o1
     ·unfold node z1B;simp only;rw [←e4,←e3,←e2,←e1,←i0,←i1]
      conv=>rhs;rw [hn]
      congr 1
      unfold kid;generalize n.kids=l at hl1;match l,hl1 with
      | a::b::l,_=>rfl
    ·cases h
 ·cases h
theorem zcR {s:Bs} (h:s.isEmpty=true∨z1p s=true) {l:List Nd} (hl:∀ k∈l.head?,k.tag≠6):z0G (opt (!s.isEmpty) (oidN s)++l)=(s,l):=by
 cases s with
 | nil=>
  simp only [List.isEmpty_nil,Bool.not_true,opt,Bool.false_eq_true,if_false,List.nil_append];match l,hl with
  | [],_=>rfl
  | k::t,hl=>
   have:z2R k=none:=by
    unfold z2R isU;rw [if_neg];have:=hl k rfl;simp [this]
   simp only [z0G];rw [this]
 | cons a s=>
  have h2:z1p (a::s)=true:=by rcases h with h|h<;>simp_all
  simp only [List.isEmpty_cons,Bool.not_false,opt,if_true,List.singleton_append];simp only [z0G];rw [z67 h2]
theorem zcS {b:Bool} {a:Nat} (h:z0s b a=true) {l:List Nd} (hl:∀ k∈l.head?,k.tag≠2):z0p (opt b (natN a)++l)=(b,a,l):=by
 unfold z0s at h;simp only [Bool.and_eq_true,decide_eq_true_eq,Bool.or_eq_true,beq_iff_eq] at h;cases b with
 | false=>
  have ha:a=0:=by
   have h0:Nt.bl a=0:=by simpa using h.2
   have:=Nt.zh4 a;rw [h0] at this;omega
  subst ha;simp only [opt,Bool.false_eq_true,if_false,List.nil_append];match l,hl with
  | [],_=>rfl
  | k::t,hl=>
   simp only [z0p];rw [if_neg (by intro hx;exact hl k rfl hx.2)]
 | true=>
  simp only [opt,if_true,List.singleton_append];simp only [z0p];have e:natN a=prim 2 (Nt.beN (Nt.bl a / 8+1) a):=by unfold natN;rw [if_neg (by omega)]
  rw [if_pos (by rw [e];exact ⟨rfl,rfl⟩),z9i (by omega)]
theorem zb9 {b:Bool} {l:List Nd} (hl:∀ k∈l.head?,k.tag≠1):z1j (opt b z1u++l)=(b,l):=by
 cases b with
 | false=>
  simp only [opt,Bool.false_eq_true,if_false,List.nil_append];match l,hl with
  | [],_=>rfl
  | k::t,hl=>
   simp only [z1j];rw [if_neg (by intro hx;exact hl k rfl hx.2.1)]
 | true=>rfl
theorem zba {es:List Ex} (h:es.all exOk=true):z18 (opt (!es.isEmpty) (ctxN es))=some (es,[]):=by
 cases es with
 | nil=>rfl
 | cons e es=>
  simp only [List.isEmpty_cons,Bool.not_false,opt,if_true,z18,ctxN];rw [if_pos ⟨rfl,rfl,by simp [Nd.kids]⟩];simp only [Nd.kids];rw [zf3 h]
theorem z1M (b:Bool) (n:Nd):(opt b n).length≤1:=by cases b<;>simp [opt]
theorem zeU {b:Bool} {n:Nd} {l:List Nd} {P:Nd→Prop} (hn:P n) (hl:∀ k∈l.head?,P k):∀ k∈(opt b n++l).head?,P k:=by
 cases b with
 | true=>intro k hk;simp [opt] at hk;subst hk;exact hn
 | false=>simpa [opt] using hl
theorem zl2 {a:Nat} (h:Nt.bl a≤131072):(natN a).tag=2:=by unfold natN;rw [if_neg (by omega)];rfl
theorem z8Y {q:Req} (h:z0i q=true):z34 (node q)=some q:=by
 unfold z0i at h;simp only [Bool.and_eq_true,Bool.or_eq_true] at h;obtain ⟨⟨⟨himp,hpol⟩,hno⟩,hex⟩:=h;have hall:q.exts.all exOk=true:=by
  unfold z0N at hex;simp only [Bool.and_eq_true] at hex;exact hex.1.2
 have hbl:Nt.bl q.nonce≤131072:=by
  unfold z0s at hno;simp only [Bool.and_eq_true,decide_eq_true_eq] at hno;omega
 have t3:∀ k∈(opt (!q.exts.isEmpty) (ctxN q.exts)).head?,k.tag≠1∧k.tag≠2∧k.tag≠6:=by
  intro k hk;cases hq:q.exts with
  | nil=>rw [hq] at hk;simp [opt] at hk
  | cons e es=>rw [hq] at hk;simp [opt] at hk;subst hk;simp [ctxN,Nd.tag]
 have t2:∀ k∈(opt q.cert z1u++opt (!q.exts.isEmpty) (ctxN q.exts)).head?,k.tag≠2∧k.tag≠6:=
  zeU (P:=fun k=>k.tag≠2∧k.tag≠6) (by simp [z1u,prim,Nd.tag]) (fun k hk=>(t3 k hk).2)
 have t1:∀ k∈(opt q.has (natN q.nonce)++(opt q.cert z1u++opt (!q.exts.isEmpty) (ctxN q.exts))).head?,k.tag≠6:=
  zeU (P:=fun k=>k.tag≠6) (by rw [zl2 hbl];decide) (fun k hk=>(t2 k hk).2)
 have d:(node q).kids.drop 2=z1B q:=rfl;have hlen:(node q).kids.length=2+(z1B q).length:=by show (_::_::z1B q).length=_;simp;omega
 have hl4:(z1B q).length≤4:=by
  unfold z1B;simp only [List.length_append];have a:=z1M (!q.policy.isEmpty) (oidN q.policy);have b:=z1M q.has (natN q.nonce);have c:=z1M q.cert z1u;have d:=z1M (!q.exts.isEmpty) (ctxN q.exts);omega
 have hs:z0U (node q) 2 6=true:=by
  have e:z0U (node q) 2 6=(decide (2≤(node q).kids.length)&&decide ((node q).kids.length≤6)):=rfl;rw [e,hlen];simp only [Bool.and_eq_true,decide_eq_true_eq];omega
 unfold z34;rw [hs,d];have k0:kid (node q) 0=intN 1:=rfl;have k1:kid (node q) 1=impN q.alg q.impr:=rfl;rw [k0,k1,z9r (by decide) (by decide),zgG himp];have a1:z0G (z1B q)=(q.policy,opt q.has (natN q.nonce)++(opt q.cert z1u++opt (!q.exts.isEmpty) (ctxN q.exts))):=zcR hpol t1;have a2:=zcS hno (l:=opt q.cert z1u++opt (!q.exts.isEmpty) (ctxN q.exts)) (fun k hk=>(t2 k hk).1);have a3:=zb9 (b:=q.cert) (l:=opt (!q.exts.isEmpty) (ctxN q.exts)) (fun k hk=>(t3 k hk).1);simp only [a1,a2,a3,zba hall,List.isEmpty_nil,hex,hno,Bool.and_self,if_true];have:(intN 1).tag=2:=rfl;rw [this];simp
theorem zgc {q:Req} (h:z0i q=true):right (node q)=true:=by
 unfold z0i at h;simp only [Bool.and_eq_true,Bool.or_eq_true] at h;obtain ⟨⟨⟨himp,hpol⟩,hno⟩,hex⟩:=h;have hall:q.exts.all exOk=true:=by
  unfold z0N at hex;simp only [Bool.and_eq_true] at hex;exact hex.1.2
 have hbl:Nt.bl q.nonce≤131072:=by
  unfold z0s at hno;simp only [Bool.and_eq_true,decide_eq_true_eq] at hno;omega
 have hopt:∀ {b:Bool} {n:Nd},(b=true→right n=true)→∀ k∈opt b n,right k=true:=by
  intro b n hb k hk;cases b with
  | true=>simp [opt] at hk;subst hk;exact hb rfl
  | false=>simp [opt] at hk
 refine z5l fun k hk=>?_
 rcases List.mem_cons.1 hk with rfl|hk
 ·exact z4e (by decide) (by decide)
 rcases List.mem_cons.1 hk with rfl|hk
 ·exact zhJ himp
 unfold z1B at hk;rcases List.mem_append.1 hk with hk|hk
 ·refine hopt (fun hb=>?_) k hk;rcases hpol with hp|hp
  ·rw [hp] at hb;cases hb
  ·exact z5m hp
 rcases List.mem_append.1 hk with hk|hk
 ·exact hopt (fun _=>zhI hbl) k hk
 rcases List.mem_append.1 hk with hk|hk
 ·exact hopt (fun _=>z4Q) k hk
 ·refine hopt (fun _=>?_) k hk;refine zhK fun k hk=>?_
  obtain ⟨e,he,rfl⟩:=List.mem_map.1 hk;exact zkx (List.all_eq_true.1 hall e he)
end Rq
end Go.Proofs.YtgmppconibklcaaGreatDoor

namespace Go.Proofs.YtgmppconibklcaaGreatDoor
namespace Dr
mutual
def same:Nd→Nd→Bool
 | .mk c t k b l,.mk c' t' k' b' l'=>c==c'&&t==t'&&k==k'&&b==b'&&z4c l l'
def z4c:List Nd→List Nd→Bool
 | [],[]=>true
 | n::l,m::k=>same n m&&z4c l k
 | _,_=>false
end
mutual
theorem z7p:∀ {a b:Nd},same a b=true↔a=b
 | .mk c t k b l,.mk c' t' k' b' l'=>by
  rw [same];simp only [Bool.and_eq_true,beq_iff_eq,zeh,Nd.mk.injEq,and_assoc]
theorem zeh:∀ {a b:List Nd},z4c a b=true↔a=b
 | [],[]=>by simp [z4c]
 | [],m::k=>by simp [z4c]
 | n::l,[]=>by simp [z4c]
 | n::l,m::k=>by
  rw [z4c];simp only [Bool.and_eq_true,z7p,zeh,List.cons.injEq]
end
theorem zfq {l:List Nd} {m:Nat} (h:∀ k∈l,deep k≤m):z0V l≤m:=by
 induction l with
 | nil=>rw [z0V];omega
 | cons n l ih=>
  rw [z0V];have:=h n List.mem_cons_self;have:=ih (fun k hk=>h k (List.mem_cons_of_mem _ hk));omega
theorem z74 {l:List Nd} {m:Nat} (h:∀ k∈l,deep k≤m):deep (seq l)≤m+1:=by
 unfold seq;rw [deep];have:=zfq h;omega
theorem z2p (t:Int) (b:List UInt8):deep (prim t b)=1:=by unfold prim;rw [deep,z0V]
theorem z5P (a b:List Nd):wts (a++b)=wts a+wts b:=by
 induction a with
 | nil=>simp [wts]
 | cons n l ih=>rw [List.cons_append,wts,wts,ih];omega
theorem zaZ (l:List Nd):wt (seq l)=wts l+10:=by unfold seq;rw [wt];simp;omega
theorem z3j (t:Int) (b:List UInt8):wt (prim t b)=b.length+10:=by unfold prim;rw [wt,wts]
end Dr
namespace Rq
open Dr
def z0O (n:Nd):Bs:=(Od.decO n.bytes).getD []
def z4R (n:Nd):Ex:=⟨z0O (kid n 0),n.kids.length==3,(kid n (n.kids.length-1)).bytes⟩
def zd7 (n:Nd):Option Ex:=if exOk (z4R n)&&same (exN (z4R n)) n then some (z4R n) else none
theorem z4i {s:Bs} (h:z1p s=true):z0O (oidN s)=s:=by
 unfold z1p at h;obtain ⟨b,hb⟩:=Option.isSome_iff_exists.1 h;unfold z0O oidN prim Nd.bytes;rw [hb];show (Od.decO b).getD []=s;rw [Od.zaI hb];rfl
theorem zhY {e:Ex} (h:exOk e=true):z4R (exN e)=e:=by
 unfold exOk at h;simp only [Bool.and_eq_true] at h;obtain ⟨o,c,v⟩:=e;have ho:=z4i h.1;cases c<;>(simp only [z4R,exN,seq,kid,Nd.kids];simp [ho,prim,Nd.bytes])
theorem z94 (n:Nd):zd7 n=exOf n:=by
 unfold zd7;cases h:exOf n with
 | some e=>
  obtain ⟨h1,h2⟩:=z84 h;subst h2;rw [zhY h1,if_pos (by rw [h1,z7p.2 rfl];rfl)]
 | none=>
  split
  ·rename_i hx;simp only [Bool.and_eq_true] at hx;have:=z7p.1 hx.2;rw [←this,zav hx.1] at h;cases h
  ·rfl
def z0E:Ex:=⟨[],false,[]⟩
def z1a (q:Req) (k:Nd):Req:=
 if k.cls=2 then {q with exts:=q.exts++(k.kids.take 40).map fun x=>(exOf x).getD z0E}
 else if k.tag=6 then {q with policy:=z0O k}
 else if k.tag=2 then {q with has:=true,nonce:=(z1z k).getD 0}
 else if k.tag=1 then {q with cert:=true}
 else q
def z0C (n:Nd):Req:=((n.kids.drop 2).take 6).foldl z1a ⟨z0O (kid (kid (kid n 1) 0) 0),(kid (kid n 1) 1).bytes,[],false,0,false,[]⟩
def zhX (n:Nd):Option Req:=if z0i (z0C n)&&same (node (z0C n)) n then some (z0C n) else none
theorem zd6 {q:Req} (h:z0i q=true):z0C (node q)=q:=by
 unfold z0i at h;simp only [Bool.and_eq_true,Bool.or_eq_true] at h;obtain ⟨⟨⟨himp,hpol⟩,hno⟩,hex⟩:=h;unfold z0N at hex;simp only [Bool.and_eq_true,decide_eq_true_eq] at hex;obtain ⟨⟨hel,hall⟩,_⟩:=hex;unfold z0s at hno;simp only [Bool.and_eq_true,decide_eq_true_eq,Bool.or_eq_true,beq_iff_eq] at hno;unfold z2z at himp;simp only [Bool.and_eq_true] at himp;obtain ⟨alg,impr,policy,has,nonce,cert,exts⟩:=q;simp only at *;have hl4:(z1B ⟨alg,impr,policy,has,nonce,cert,exts⟩).length≤6:=by
  unfold z1B;simp only [List.length_append];have a:=z1M (!policy.isEmpty) (oidN policy);have b:=z1M has (natN nonce);have c:=z1M cert z1u;have d:=z1M (!exts.isEmpty) (ctxN exts);omega
 have e0:(kid (kid (kid (node ⟨alg,impr,policy,has,nonce,cert,exts⟩) 1) 0) 0)=oidN alg:=rfl;have e1:(kid (kid (node ⟨alg,impr,policy,has,nonce,cert,exts⟩) 1) 1).bytes=impr:=rfl;have e2:(node ⟨alg,impr,policy,has,nonce,cert,exts⟩).kids.drop 2=z1B ⟨alg,impr,policy,has,nonce,cert,exts⟩:=rfl;unfold z0C;rw [e0,e1,e2,List.take_of_length_le hl4,z4i himp.1.1];unfold z1B;simp only [List.foldl_append];have s1:(opt (!policy.isEmpty) (oidN policy)).foldl z1a ⟨alg,impr,[],false,0,false,[]⟩=⟨alg,impr,policy,false,0,false,[]⟩:=by
  cases policy with
  | nil=>rfl
  | cons a p=>
   have hp:z1p (a::p)=true:=by rcases hpol with h|h<;>simp_all
   simp only [List.isEmpty_cons,Bool.not_false,opt,if_true,List.foldl_cons,List.foldl_nil,z1a];rw [if_neg (by show ¬(0:Int)=2;decide),if_pos (by rfl),z4i hp]
 have s2:(opt has (natN nonce)).foldl z1a ⟨alg,impr,policy,false,0,false,[]⟩=⟨alg,impr,policy,has,nonce,false,[]⟩:=by
  cases has with
  | false=>
   have h0:Nt.bl nonce=0:=by simpa using hno.2
   have:=Nt.zh4 nonce;rw [h0] at this;have:nonce=0:=by omega
   subst this;rfl
  | true=>
   have e:natN nonce=prim 2 (Nt.beN (Nt.bl nonce / 8+1) nonce):=by unfold natN;rw [if_neg (by omega)]
   simp only [opt,if_true,List.foldl_cons,List.foldl_nil,z1a];rw [if_neg (by rw [e];show ¬(0:Int)=2;decide),if_neg (by rw [e];show ¬(2:Int)=6;decide),if_pos (by rw [e];rfl),z9i (by omega)];rfl
 have s3:(opt cert z1u).foldl z1a ⟨alg,impr,policy,has,nonce,false,[]⟩=⟨alg,impr,policy,has,nonce,cert,[]⟩:=by
  cases cert<;>rfl
 have s4:(opt (!exts.isEmpty) (ctxN exts)).foldl z1a ⟨alg,impr,policy,has,nonce,cert,[]⟩=⟨alg,impr,policy,has,nonce,cert,exts⟩:=by
  have hm:∀ es:List Ex,es.all exOk=true→(es.map exN).map (fun x=>(exOf x).getD z0E)=es:=by
   intro es;induction es with
   | nil=>intro _;rfl
   | cons e es ih=>
    intro h;simp only [List.all_cons,Bool.and_eq_true] at h;rw [List.map_cons,List.map_cons,zav h.1,ih h.2];rfl
  cases exts with
  | nil=>rfl
  | cons e es=>
   simp only [List.isEmpty_cons,Bool.not_false,opt,if_true,List.foldl_cons,List.foldl_nil,z1a];rw [if_pos (by rfl)];have hk:(ctxN (e::es)).kids=(e::es).map exN:=rfl;rw [hk,List.take_of_length_le (by rw [List.length_map];omega),hm _ hall];rfl
 rw [s1,s2,s3,s4]
theorem zhW {n:Nd} (hr:right n=true):zhX n=z34 n:=by
 unfold zhX;cases h:z34 n with
 | some q=>
  obtain ⟨h1,h2⟩:=z8X hr h;subst h2;rw [zd6 h1,if_pos (by rw [h1,z7p.2 rfl];rfl)]
 | none=>
  split
  ·rename_i hx;simp only [Bool.and_eq_true] at hx;have e:=z7p.1 hx.2;have:=z8Y hx.1;rw [e,h] at this;cases this
  ·rfl
theorem ze1 (b:Bool) (n:Nd):wts (opt b n)≤wt n:=by cases b<;>simp [opt,wts]
def z42 (l:List Ex):Nat:=(l.map fun e=>1+e.oid.length+e.val.length).sum
def z2r (q:Req):Nat:=q.alg.length+q.impr.length+q.policy.length+z42 q.exts
theorem zms {a:Nat} (h:Nt.bl a≤160):wt (natN a)≤31:=by
 unfold natN;rw [if_neg (by omega),z3j,Nt.z0o];omega
theorem z77 {b:Bool} {n:Nd} {m:Nat} (h:deep n≤m):∀ k∈opt b n,deep k≤m:=by
 cases b<;>simp [opt,h]
theorem zjr (q:Req) (h:Nt.bl q.nonce≤160):deep (node q)≤4:=by
 have ho:∀ s,deep (oidN s)=1:=fun s=>z2p _ _
 have hx:∀ e:Ex,deep (exN e)≤2:=by
  intro e;unfold exN;refine z74 fun k hk=>?_
  rcases List.mem_cons.1 hk with rfl|hk
  ·rw [ho];omega
  ·split at hk
   ·rcases List.mem_cons.1 hk with rfl|hk
    ·rw [z2p];omega
    ·rcases List.mem_cons.1 hk with rfl|hk
     ·rw [z2p];omega
     ·cases hk
   ·rcases List.mem_cons.1 hk with rfl|hk
    ·rw [z2p];omega
    ·cases hk
 have hc:deep (ctxN q.exts)≤3:=by
  unfold ctxN;rw [deep];have:=zfq (l:=q.exts.map exN) (m:=2) (fun k hk=>by obtain ⟨e,_,rfl⟩:=List.mem_map.1 hk;exact hx e);omega
 unfold node;refine z74 fun k hk=>?_
 rcases List.mem_cons.1 hk with rfl|hk
 ·unfold intN;rw [z2p];omega
 rcases List.mem_cons.1 hk with rfl|hk
 ·unfold impN;refine z74 fun k hk=>?_
  rcases List.mem_cons.1 hk with rfl|hk
  ·refine z74 fun k hk=>?_
   rcases List.mem_cons.1 hk with rfl|hk
   ·rw [ho];omega
   ·cases hk
  ·rcases List.mem_cons.1 hk with rfl|hk
   ·rw [z2p];omega
   ·cases hk
 unfold z1B at hk;rcases List.mem_append.1 hk with hk|hk
 ·exact z77 (by rw [ho];omega) k hk
 rcases List.mem_append.1 hk with hk|hk
 ·exact z77 (by unfold natN;rw [if_neg (by omega),z2p];omega) k hk
 rcases List.mem_append.1 hk with hk|hk
 ·exact z77 (by unfold z1u;rw [z2p];omega) k hk
 ·exact z77 hc k hk
end Rq
end Go.Proofs.YtgmppconibklcaaGreatDoor

namespace Go.Proofs.YtgmppconibklcaaGreatDoor
open Go Go.RowKit
theorem zb5 (has:Bool) (A:Option Addr) (n c:Nat) (l:List Nat) (Av:Nat→Prop) (w:World) (h:Is w Av (.slice A n c) (limD l)) (hL:Nt.Lb l) (hz:n≤100000000):
  Calls Tryz.prog 29 #[.bool has,.slice A n c] w fun e w'=>e = .returned (.bool (Rq.z0s has (Nt.vl l)))∧w'=w:=by
 have H:=Lib.hid h;have HL:=Lib.hid hL;obtain ⟨K,hK⟩:∃ K,K=Nt.bl (Nt.vl l):=⟨_,rfl⟩;have HK:=Lib.hid hK;have HE:Hid (Rq.z0s has (Nt.vl l)=(decide (K≤160)&&(has||K==0))):=by show _=_;rw [hK];rfl
 clear h hL hK;go_enter Tryz.func29,Tryz.ntmps29
 go_wp2_with fail
 refine (z3R A n c l Av w H.out HL.out hz).mono ?_;rintro e w' ⟨rfl,rfl⟩;rw [←HK.out];by_cases h1:K≤160
 ·have hd:decide ((K:Int)≤160)=true:=decide_eq_true (by omega);have H1:=Lib.hid h1;clear h1;cases has with
  | true=>
   go_wp2_with fail
   go_ret
   exact ⟨by rw [HE.out,decide_eq_true H1.out];rfl,rfl⟩
  | false=>
   by_cases h0:K=0
   ·subst h0
    go_wp2_with fail
    go_ret
    exact ⟨by rw [HE.out];rfl,rfl⟩
   ·have hd0:((K:Int)==0)=false:=by simp;omega
    have hd1:(K==0)=false:=by simp;omega
    have HD1:=Lib.hid hd1;clear h0 hd1
    go_wp2_with fail
    go_ret
    exact ⟨by rw [HE.out,decide_eq_true H1.out,HD1.out];rfl,rfl⟩
 ·have hd:decide ((K:Int)≤160)=false:=decide_eq_false (by omega);have H1:=Lib.hid h1;clear h1
  go_wp2_with fail
  go_ret
  exact ⟨by rw [HE.out,decide_eq_false H1.out];rfl,rfl⟩
end Go.Proofs.YtgmppconibklcaaGreatDoor

namespace Go.Proofs.YtgmppconibklcaaGreatDoor
open Go Go.RowKit Go.Shelf
attribute [local go_sem] Oper.semAt_some

def zfM {α:Type} (F:Fence) (n:Nat) (P:Program) (g:Nat) (lb:Array Value) (encs:α→Array Value) (Kp:World→World→Prop) (XS:List α) (w:World) (b:Nat):Prop:=
 ∀ (l:Nat) (J Jx:List α→World→Prop) (W:World),Below w.heap.size w W →
  (∀ pre W1 v,J pre W1→J pre (W1.setCell ⟨b,0,none⟩ v)) →
  (∀ pre x W1,J pre W1→(pre++[x]) <+: XS→YieldAt F (n-1) P l (encs x) W1 fun e W' =>
   (e = .returned (.bool true)∧J (pre++[x]) W'∧Kp W1 W')∨(e = .returned (.bool false)∧Jx (pre++[x]) W')) →
  J [] W →
  CallsIn F n P g (#[.func (.yield l) #[] #[]]++lb) W fun e W'=>(∃ v,e = .returned v)∧(J XS W'∨(∃ pre,pre <+: XS∧Jx pre W'))

variable {F:Fence} {n:Nat} {P:Program}

theorem z4E {α:Type} {g:Operand} {ps:Array Tmp} {assign body:Code} {Q:Exit→Act→World→Prop} {a:Act} {w:World}
  (hro:F.round=none) (h1:1≤n) {gf:Nat} {lb:Array Value} (hg:a.eval g = .func (.func gf) #[] lb) (hFg:F.fn gf) (eg:∀ args w,(callFunc gf args).run P w = .ok (.enter gf args) w)
  {encs:α→Array Value} {Kp:World→World→Prop} {XS:List α} {b:Nat} (hseq:zfM F (n-1) P gf lb encs Kp XS w b) (hbw:b<w.heap.size)
  (hKt:∀ {A B C:World},Kp A B→Kp B C→Kp A C) (hKb:∀ (W:World) (l:Nat) (o o':Obj),w.heap.size≤l→W.heap[l]? = some o→Kp W (W.putObj l o')) (hps:∀ x,(encs x).size=ps.size)
  (I:List α→World→Prop) (Ix:Code→List α→World→Prop) (hI:OwnFrom w.heap.size I) (hIx:∀ c,OwnFrom w.heap.size (Ix c)) (hIs:∀ pre W v,I pre W→I pre (W.setCell ⟨b,0,none⟩ v)) (h0:I [] w) (a₁:α→Act)
  (hassign:∀ (l:Nat) (x:α) (W:World) (K:Act→World→Prop),K (a₁ x) W →
   assign.wpIn (F.inRound l) (n-1-1) P (Exit.then K (fun _ _ _=>False)) {tmps:=(ps.zip (encs x)).foldl (fun t (p,v)=>t.setIfInBounds p v) a.tmps,defers:=[]} W)
  (hbody:∀ (l:Nat) (pre:List α) (x:α) (W:World),I pre W→(pre++[x]) <+: XS→body.wpIn (F.inRound l) (n-1-1) P (ownPostK Kp I Ix (pre++[x]) W) (a₁ x) W)
  (hdone:∀ (W:World),I XS W→W.heap[w.heap.size]? = some (.deferred (some []))→Q .normal {a with defers:={target:= .collected w.heap.size,args:=#[]}::a.defers} W)
  (hstop:∀ (c:Code) (pre:List α) (W:World),pre <+: XS→Ix c pre W→W.heap[w.heap.size]? = some (.deferred (some []))→c.wpIn F n P Q {a with defers:={target:= .collected w.heap.size,args:=#[]}::a.defers} W):
  (Code.rangeFunc g ps assign body).wpIn F n P Q a w:=by
 refine wpIn_rangeFunc ?_;intro fn hfn;rw [hro];obtain ⟨rec,hrec⟩:∃ rec:LoopState→Option Code→Loop,rec=fun st pe=>{state:=st,pending:=pe,fn,tmps:=a.tmps,params:=ps,assign,body,defers:=w.heap.size}:=⟨_,rfl⟩
 obtain ⟨W1,hW1⟩:∃ W1,(w.alloc (.deferred (some []))).alloc (.loop (rec .ready none))=W1:=⟨_,rfl⟩;have hL1:W1.heap[w.heap.size+1]? = some (.loop (rec .ready none)):=by
  rw [←hW1];have:=World.alloc_heap_new (w.alloc (.deferred (some []))) (.loop (rec .ready none));rwa [World.size_alloc] at this
 have hK1:W1.heap[w.heap.size]? = some (.deferred (some [])):=by
  rw [←hW1];exact (Below.heap_alloc _ _ _ (by simp)).trans (World.alloc_heap_new w _)
 have hI1:I [] W1:=by rw [←hW1];exact hI.alloc _ (hI.alloc _ h0)
 have hb1:Below w.heap.size w W1:=by
  rw [←hW1];exact ((Below.refl _ w).alloc (Nat.le_refl _) _).alloc (by simp) _
 refine ⟨w.heap.size+1,[{target:= .collected w.heap.size,args:=#[]}],W1,{target:= .fn (.func gf) lb,args:=#[.func (.yield (w.heap.size+1)) #[] #[]]},W1,gf,
  #[.func (.yield (w.heap.size+1)) #[] #[]]++lb,W1,?_,?_,?_,?_,fun _=>h1,?_⟩
 ·rw [←hW1,hrec];exact run_enterLoop_outer _ _ _ _ _
 ·simp only [resolve,hg];simp [go_sem]
 ·intro f' hf';simp [Target.leads] at hf';subst hf';exact hFg
 ·simp [invoke,go_sem,eg]
 ·refine (hseq (w.heap.size+1)
   (fun pre W=>I pre W∧W.heap[w.heap.size+1]? = some (.loop (rec .ready none))∧W.heap[w.heap.size]? = some (.deferred (some [])))
   (fun pre W=>∃ c,Ix c pre W∧W.heap[w.heap.size+1]? = some (.loop (rec .done (some c)))∧W.heap[w.heap.size]? = some (.deferred (some [])))
   W1 hb1
   (fun pre W v hj=>⟨hIs pre W v hj.1,(Below.heap_setCell W _ v _ (by simp;omega)).trans hj.2.1,(Below.heap_setCell W _ v _ (by simp;omega)).trans hj.2.2⟩)
   ?_ ⟨hI1,hL1,hK1⟩).mono ?_
  ·rintro pre x W ⟨hi,hl,hk⟩ hlen;have hlt:w.heap.size+1<W.heap.size:=(Array.getElem?_eq_some_iff.1 hl).1;have hy:=run_yield (P:=P) (args:=encs x) hl (by rw [hrec];exact hps x);rw [hrec] at hy;refine ⟨fn,_,assign,body,hy,roundIn_of_wpIn hfn (hassign _ x W _ ⟨_,run_beginRound hl (by rw [hrec]),?_⟩)⟩;have hl2:(W.putObj (w.heap.size+1) (.loop {rec .ready none with state:= .busy})).heap[w.heap.size+1]? = some (.loop {rec .ready none with state:= .busy}):=World.putObj_heap_same hlt;have hk2:(W.putObj (w.heap.size+1) (.loop {rec .ready none with state:= .busy})).heap[w.heap.size]? = some (.deferred (some [])):=(World.putObj_heap_other (by omega)).trans hk;have hw2:Kp W (W.putObj (w.heap.size+1) (.loop {rec .ready none with state:= .busy})):=hKb _ _ _ _ (by omega) hl;refine wpIn_mono (hbody _ pre x _ (hI.putObj _ hi (by omega) hl rfl) hlen) ?_;have fin:∀ (jump:Option Code) (W3:World),KeepsOthers (W.putObj (w.heap.size+1) (.loop {rec .ready none with state:= .busy})) W3 →
     (Instr.endRound (w.heap.size+1) jump).run P W3 = .ok (.bool jump.isNone) (W3.putObj (w.heap.size+1) (.loop (rec (if jump.isNone then .ready else .done) jump))) ∧
     W3.heap[w.heap.size+1]? = some (.loop {rec .ready none with state:= .busy}) ∧
     (W3.putObj (w.heap.size+1) (.loop (rec (if jump.isNone then .ready else .done) jump))).heap[w.heap.size+1]? = some (.loop (rec (if jump.isNone then .ready else .done) jump)) ∧
     (W3.putObj (w.heap.size+1) (.loop (rec (if jump.isNone then .ready else .done) jump))).heap[w.heap.size]? = some (.deferred (some [])):=fun jump W3 hk3=>by
    have hl3:=hk3.same _ _ hl2 rfl;have:=run_endRound (P:=P) jump hl3;rw [hrec] at this ⊢;exact ⟨this,by rw [hrec] at hl3;exact hl3,World.putObj_heap_same (Array.getElem?_eq_some_iff.1 hl3).1,(World.putObj_heap_other (by omega)).trans (hk3.same _ _ hk2 rfl)⟩
   rintro e a3 W3 hp;cases e with
   | normal=>
    obtain ⟨hk3,hkp3,hi3⟩:=hp;obtain ⟨hr,hl3,hl4,hk4⟩:=fin none W3 hk3;exact ⟨_,_,hr,.inl ⟨rfl,⟨hI.putObj _ hi3 (by omega) hl3 rfl,hl4,hk4⟩,hKt (hKt hw2 hkp3) (hKb _ _ _ _ (by omega) hl3)⟩⟩
   | ret=>
    obtain ⟨hk3,hi3⟩:=hp;obtain ⟨hr,hl3,hl4,hk4⟩:=fin (some .ret) W3 hk3;exact ⟨_,_,hr,.inr ⟨rfl,.ret,(hIx _).putObj _ hi3 (by omega) hl3 rfl,hl4,hk4⟩⟩
   | exit id=>
    obtain ⟨hk3,hi3⟩:=hp;obtain ⟨hr,hl3,hl4,hk4⟩:=fin (some (.exit id)) W3 hk3;exact ⟨_,_,hr,.inr ⟨rfl,.exit id,(hIx _).putObj _ hi3 (by omega) hl3 rfl,hl4,hk4⟩⟩
   | goto t=>
    obtain ⟨hk3,hi3⟩:=hp;obtain ⟨hr,hl3,hl4,hk4⟩:=fin (some (.goto t)) W3 hk3;exact ⟨_,_,hr,.inr ⟨rfl,.goto t,(hIx _).putObj _ hi3 (by omega) hl3 rfl,hl4,hk4⟩⟩
   | panic ch=>exact hp.elim
   | outgrown=>exact hp.elim
  ·rintro e W2 ⟨⟨v,rfl⟩,(⟨hi,hl,hk⟩|⟨pre,hSp,c,hi,hl,hk⟩)⟩
   ·exact ⟨none,_,by have:=run_endLoop (P:=P) hl (by rw [hrec];simp);rw [hrec] at this;exact this,hdone _ (hI.putObj _ hi (by omega) hl rfl) ((World.putObj_heap_other (by omega)).trans hk)⟩
   ·exact ⟨some c,_,by have:=run_endLoop (P:=P) hl (by rw [hrec];simp);rw [hrec] at this;exact this,hstop c pre _ hSp ((hIx c).putObj _ hi (by omega) hl rfl) ((World.putObj_heap_other (by omega)).trans hk)⟩
end Go.Proofs.YtgmppconibklcaaGreatDoor

namespace Go.Proofs.YtgmppconibklcaaGreatDoor
open Go Go.RowKit Go.Shelf
attribute [local go_sem] Oper.semAt_some

def z3J (b:Nat) (A B:World):Prop:=∀ k t v,(k=b∨k=b+1∨k=b+2)→Boxed A k t v→Boxed B k t v
theorem zc1 {b:Nat} {A B C:World} (h:z3J b A B) (k:z3J b B C):z3J b A C:=fun j t v hj hv=>k j t v hj (h j t v hj hv)
theorem zc2 {b l:Nat} (W:World) (o o':Obj) (hl:b+2<l) (_:W.heap[l]? = some o):z3J b W (W.putObj l o'):=fun j t v hj hv=>
 hv.kept (grownBy_putObj' W l o') (by intro e;injection e;omega)
def mkS (l:List UInt8):ByteArray:=⟨l.toArray⟩
theorem zl5 (s:ByteArray):mkS s.data.toList=s:=by cases s;simp [mkS]
def z1L (c:UInt8) (s:ByteArray):List ByteArray:=(Od.parts c s.data.toList).map mkS
theorem index_none {l:List UInt8} {c:UInt8} (h:Lib.indexByte l c<0):Od.parts c l=[l]:=by
 have h1:=Lib.indexByte_ge l c;have e:Lib.indexByte l c = -1:=by omega
 refine Od.z63 (fun b hb hbc=>?_);obtain ⟨k,hk,he⟩:=List.mem_iff_getElem.1 hb;exact Lib.indexByte_none e k (by rw [List.getElem?_eq_getElem hk,he,hbc])
theorem zgE {l:List UInt8} {c:UInt8} {o:Nat} (h:Lib.indexByte l c=o):o<l.length∧Od.parts c l=l.take o::Od.parts c (l.drop (o+1)):=by
 obtain ⟨h1,h2⟩:=Lib.indexByte_some h;have hlt:o<l.length:=(List.getElem?_eq_some_iff.1 h1).1;have he:l[o]=c:=(List.getElem?_eq_some_iff.1 h1).2;refine ⟨hlt,?_⟩;have hs:l=l.take o++c::l.drop (o+1):=by
  rw [←he,←List.drop_eq_getElem_cons hlt,List.take_append_drop]
 conv=>lhs;rw [hs]
 refine Od.z7E (fun x hx hxc=>?_);obtain ⟨k,hk,hke⟩:=List.mem_iff_getElem.1 hx;have hko:k<o:=by rw [List.length_take] at hk;omega
 refine h2 k hko ?_;rw [List.getElem_take] at hke;rw [List.getElem?_eq_getElem (by omega),hke,hxc]
theorem zdk {s:ByteArray} {c:UInt8} (h:Lib.indexByte s.data.toList c<0):z1L c s=[s]:=by
 unfold z1L;rw [index_none h];simp [zl5]
theorem zdj {s:ByteArray} {c:UInt8} {o:Nat} (h:Lib.indexByte s.data.toList c=o):o<s.size∧z1L c s=s.extract 0 o::z1L c (s.extract (o+1) s.size):=by
 obtain ⟨h1,h2⟩:=zgE h;refine ⟨h1,?_⟩;unfold z1L;rw [h2,List.map_cons]
 congr 1
 ·show (⟨_⟩:ByteArray)=_;rw [Lib.extract_eq];simp
 ·rw [show (s.extract (o+1) s.size).data.toList=s.data.toList.drop (o+1) by
   rw [Lib.extract_data,List.take_of_length_le (by rw [List.length_drop];exact Nat.le_refl _)]]
def zhL (W:World) (b:Nat):Nat:=match W.cell? ⟨b,0,none⟩ with|some (.string s)=>s.size|_=>0
theorem zbu {W:World} {b t:Nat} {s:ByteArray} (h:Boxed W b t (.string s)):zhL W b=s.size:=by unfold zhL;rw [h.cell]

theorem zcX (n:Nat) (hn:1≤n) (b:Nat) (c:UInt8) (s:ByteArray) (hs:s.size≤1000000) (w:World) (hb:b+2<w.heap.size)
  (h1:Boxed w b 9 (.string s)) (h2:Boxed w (b+1) 9 (.string ⟨#[c]⟩)) (h3:Boxed w (b+2) 3 (.int .i64 0)):
  zfM Fence.wide n Tryz.prog 284 #[.pointer (some ⟨b+1,0,none⟩),.pointer (some ⟨b,0,none⟩),.pointer (some ⟨b+2,0,none⟩)] (fun x:ByteArray=>#[.string x]) (z3J b) (z1L c s) w b:=by
 intro l J Jx W hW hJ hY h0;have g1:Boxed W b 9 (.string s):=(hW.block b (by omega)).trans h1;have g2:Boxed W (b+1) 9 (.string ⟨#[c]⟩):=(hW.block (b+1) (by omega)).trans h2;have g3:Boxed W (b+2) 3 (.int .i64 0):=(hW.block (b+2) hb).trans h3;refine callsIn_of_wp Tryz.func284 rfl trivial ?_ rfl;simp only [Tryz.ntmps284,List.size_toArray,List.length_cons,List.length_nil,Nat.reduceAdd,Nat.reduceSub,Array.replicate_succ,Array.replicate_zero,List.push_toArray,List.append_toArray,List.nil_append,List.cons_append];have c2:=g2.cell;have HY:=Lib.hid hY;have HJ:=Lib.hid hJ;clear hY hJ h1 h2 h3
 gi_wp2
 gi_loopw [] (fun wr=>∃ (pre:List ByteArray) (r:ByteArray),Boxed wr b 9 (.string r)∧Boxed wr (b+1) 9 (.string ⟨#[c]⟩)∧Boxed wr (b+2) 3 (.int .i64 0)∧Hid (J pre wr∧pre++z1L c r=z1L c s)∧r.size≤1000000) (fun wr=>zhL wr b)
 case atStart=>exact ⟨[],s,g1,g2,g3,⟨h0,rfl⟩,hs⟩
 case round=>
  clear g1 g2 g3 h0 c2;obtain ⟨pre,r,g1,g2,g3,HR,hr⟩:=hrel;have c1:=g1.cell;have c2:=g2.cell;have c3:=g3.cell;have f1:=g1.frozen;have hra:=Lib.hid (zbu g1);have hge:=Lib.indexByte_ge r.data.toList c;obtain ⟨o,ho⟩:∃ o,o=Lib.indexByte r.data.toList c:=⟨_,rfl⟩;have Ho:=Lib.hid ho;rw [←ho] at hge;clear ho;by_cases hneg:o<0
  ·have hp:z1L c r=[r]:=zdk (by rw [←Ho.out];exact hneg);have hpre:pre++[r]=z1L c s:=by rw [←hp];exact HR.out.2
   obtain ⟨fn,tmps,assign,body,hy,hR⟩:=HY.out pre r wr HR.out.1 (by rw [hpre];exact List.prefix_refl _);have HR2:=Lib.hid hR;have Hpre:=Lib.hid hpre;clear hR hpre hp
   gi_wp2_with (refine ⟨trivial,?_⟩;gi_at_call 286;refine (callsIn_wide.2 (Tryz.strings_Index_one _ c _)).mono ?_;rintro e w' ⟨rfl,rfl⟩;rw [←Ho.out])
   refine HR2.out.mono ?_;rintro e W3 (⟨rfl,hJ3,_⟩|⟨rfl,hx3⟩)
   ·gi_wp2
    go_end0
    exact ⟨⟨_,rfl⟩,.inl (by rw [←Hpre.out];exact hJ3)⟩
   ·gi_wp2
    go_end0
    exact ⟨⟨_,rfl⟩,.inr ⟨_,by rw [←Hpre.out];exact List.prefix_refl _,hx3⟩⟩
  ·obtain ⟨j,rfl⟩:=Int.eq_ofNat_of_zero_le (show 0≤o by omega);obtain ⟨hjl,hp⟩:=zdj Ho.out.symm;have hpre:pre++[r.extract 0 j]++z1L c (r.extract (j+1) r.size)=z1L c s:=by rw [←HR.out.2,hp];simp
   obtain ⟨fn,tmps,assign,body,hy,hR⟩:=HY.out pre (r.extract 0 j) wr HR.out.1 ⟨_,hpre⟩;have HR2:=Lib.hid hR;have Hpre:=Lib.hid hpre;clear hR hpre hp
   gi_wp2_with (refine ⟨trivial,?_⟩;gi_at_call 286;refine (callsIn_wide.2 (Tryz.strings_Index_one _ c _)).mono ?_;rintro e w' ⟨rfl,rfl⟩;rw [←Ho.out])
   refine HR2.out.mono ?_;rintro e W3 (⟨rfl,hJ3,hk3⟩|⟨rfl,hx3⟩)
   ·have k1:=hk3 b _ _ (.inl rfl) g1;have k2:=hk3 (b+1) _ _ (.inr (.inl rfl)) g2;have k3:=hk3 (b+2) _ _ (.inr (.inr rfl)) g3;have d1:=k1.cell;have d2:=k2.cell;have d3:=k3.cell;have e1:=k1.frozen;clear c1 c2 c3 f1 g1 g2 g3
    gi_wp2
    have hz:(r.extract (j+1) r.size).size=r.size-(j+1):=by simp
    go_roundw
    case rel=>exact ⟨pre++[r.extract 0 j],r.extract (j+1) r.size,k1.set _,k2.kept (grownBy_setCell' _ _ _) (by simp),k3.kept (grownBy_setCell' _ _ _) (by simp),⟨HJ.out _ _ _ hJ3,Hpre.out⟩,by omega⟩
    case measure=>rw [hra.out,zbu (k1.set _),hz];omega
   ·gi_wp2
    refine bodyPost_ret (results_none rfl _ _ _) rfl ?_;exact ⟨⟨_,rfl⟩,.inr ⟨_,⟨_,Hpre.out⟩,hx3⟩⟩
end Go.Proofs.YtgmppconibklcaaGreatDoor

namespace Go.Proofs.YtgmppconibklcaaGreatDoor
open Go Go.RowKit Go.Shelf
attribute [local go_sem] Oper.semAt_some

def u64s (l:List Nat):List Value:=l.map fun (n:Nat)=>Value.int .u64 (n:Int)
theorem zdm {ps:List (List UInt8)} {p:List UInt8} {ns:List Nat} {n:Nat} (h:Od.z0w ps=some ns) (hn:Od.numL p=some n):Od.z0w (ps++[p])=some (ns++[n]):=by
 induction ps generalizing ns with
 | nil=>simp [Od.z0w] at h;subst h;simp [Od.z0w,hn]
 | cons q ps ih=>
  rw [List.cons_append];unfold Od.z0w at h ⊢;cases hq:Od.numL q with
  | none=>rw [hq] at h;simp at h
  | some m=>
   rw [hq] at h;cases hp:Od.z0w ps with
   | none=>rw [hp] at h;simp at h
   | some ms=>
    rw [hp] at h;simp only [Option.some.injEq] at h;subst h;rw [ih hp];rfl
theorem z9f {ps:List (List UInt8)} {p:List UInt8} (hp:p∈ps) (h:Od.numL p=none):Od.z0w ps=none:=by
 induction ps with
 | nil=>cases hp
 | cons q ps ih=>
  unfold Od.z0w;rcases List.mem_cons.1 hp with rfl|hp
  ·rw [h]
  ·rw [ih hp];cases Od.numL q<;>rfl
theorem z3D {ps:List (List UInt8)} {ns:List Nat} (h:Od.z0w ps=some ns):ns.length=ps.length∧∀ n∈ns,n<Od.top:=by
 induction ps generalizing ns with
 | nil=>simp [Od.z0w] at h;subst h;simp
 | cons q ps ih=>
  unfold Od.z0w at h;cases hq:Od.numL q with
  | none=>rw [hq] at h;simp at h
  | some m=>
   rw [hq] at h;cases hp:Od.z0w ps with
   | none=>rw [hp] at h;simp at h
   | some ms=>
    rw [hp] at h;simp only [Option.some.injEq] at h;subst h;obtain ⟨h1,h2⟩:=ih hp;refine ⟨by simp [h1],?_⟩;intro x hx;rcases List.mem_cons.1 hx with rfl|hx
    ·unfold Od.numL at hq;split at hq
     ·cases hq
     ·split at hq
      ·split at hq
       ·injection hq with hq;omega
       ·cases hq
      ·cases hq
    ·exact h2 x hx
theorem z1N {A B:World} {row:Option Nat} {k t:Nat} {v:Value} (h:Boxed A k t v) (hg:A.grownBy B row) (hr:∀ r,row=some r→∃ o:Obj,A.heap[r]? = some o∧o.isCells=false):Boxed B k t v:=
 h.kept hg (fun e=>by
  obtain ⟨o,ho,hc⟩:=hr k e.symm;rw [show A.heap[k]? = _ from h] at ho;cases ho;cases hc)
theorem zit {A B:World} {row:Option Nat} {base e size n:Nat} {v:Value} {xs:List Value} (h:A.ownsRow base e size v n xs) (hg:A.grownBy B row) (hr:∀ r,row=some r→∃ o:Obj,A.heap[r]? = some o∧o.isCells=false):B.ownsRow base e size v n xs:=by
 refine h.kept hg ?_;rcases h.2 with ⟨rfl,_⟩|⟨g,cap,cur,rfl,_,hgb,_⟩
 ·exact .inl rfl
 ·refine .inr fun e'=>?_
  obtain ⟨o,ho,hc⟩:=hr g (by simpa [Value.ownBlock] using e'.symm);rw [hgb] at ho;cases ho;cases hc
structure OI (w:World) (pre:List ByteArray) (W:World):Prop where
 l:∃ v ns,Boxed W (w.heap.size+2) 151 v∧W.ownsRow w.heap.size 180 1 v ns.length (u64s ns)∧Od.z0w (pre.map (·.data.toList))=some ns
 r:Boxed W w.heap.size 22 (.slice none 0 0)
 e:Boxed W (w.heap.size+1) 30 (.int .i64 0)
 s:∃ v,Boxed W (w.heap.size+3) 9 v
 p:∃ v,Boxed W (w.heap.size+4) 9 v
 n:∃ v,Boxed W (w.heap.size+5) 3 v
 b:Below w.heap.size w W
structure OX (w:World) (c:Code) (pre:List ByteArray) (W:World):Prop where
 c:c = .ret
 r:Boxed W w.heap.size 22 (.slice none 0 0)
 e:Boxed W (w.heap.size+1) 30 (.int .i64 20)
 b:Below w.heap.size w W
 x:∃ x∈pre,Od.numL x.data.toList=none
theorem OI.own (w:World) (B:Nat) (hB:w.heap.size≤B):OwnFrom B (OI w):=by
 rintro pre A W row ⟨⟨v,ns,h1,h2,h3⟩,h4,h5,⟨v6,h6⟩,⟨v7,h7⟩,⟨v8,h8⟩,h9⟩ hg hr;have hr':=fun r e=>(hr r e).2
 exact ⟨⟨v,ns,z1N h1 hg hr',zit h2 hg hr',h3⟩,z1N h4 hg hr',z1N h5 hg hr',⟨v6,z1N h6 hg hr'⟩,⟨v7,z1N h7 hg hr'⟩,⟨v8,z1N h8 hg hr'⟩,
  h9.grown hg h9.size (fun k e=>Nat.le_trans hB (hr k e).1)⟩
theorem OX.own (w:World) (c:Code) (B:Nat) (hB:w.heap.size≤B):OwnFrom B (OX w c):=by
 rintro pre A W row ⟨h1,h2,h3,h4,h5⟩ hg hr;have hr':=fun r e=>(hr r e).2
 exact ⟨h1,z1N h2 hg hr',z1N h3 hg hr',h4.grown hg h4.size (fun k e=>Nat.le_trans hB (hr k e).1),h5⟩
theorem OI.state {w:World} {pre:List ByteArray} {W:World} (h:OI w pre W) (u:Value):OI w pre (W.setCell ⟨w.heap.size+3,0,none⟩ u):=by
 obtain ⟨⟨v,ns,h1,h2,h3⟩,h4,h5,⟨v6,h6⟩,⟨v7,h7⟩,⟨v8,h8⟩,h9⟩:=h;have hg:=grownBy_setCell' W (w.heap.size+3) u;exact ⟨⟨v,ns,h1.kept hg (by simp),h2.kept hg (.inr (h6.not_row (by decide) h2).symm),h3⟩,h4.kept hg (by simp),h5.kept hg (by simp),⟨u,h6.set u⟩,⟨v7,h7.kept hg (by simp)⟩,⟨v8,h8.kept hg (by simp)⟩,
  h9.setCell (p:=⟨w.heap.size+3,0,none⟩) (by simp) u⟩
theorem OI.call {w:World} {pre:List ByteArray} {W W1:World} (h:OI w pre W) (hb:Below W.heap.size W W1):OI w pre W1:=
 OI.own w w.heap.size (Nat.le_refl _) pre W W1 none h (z0e hb none) (fun r e=>by cases e)
theorem z4J {W W1:World} (hb:Below W.heap.size W W1):KeepsOthers W W1:=KeepsOthers.of_grownBy (z0e hb none) (fun j o ej hj=>by cases ej)
theorem zbg (s sep:ByteArray) (w:World):
  Calls Tryz.prog 140 #[.string s,.string sep] w fun e w'=>e = .returned (.func (.func 284) #[] #[.pointer (some ⟨w.heap.size+1,0,none⟩),.pointer (some ⟨w.heap.size,0,none⟩),.pointer (some ⟨w.heap.size+2,0,none⟩)]) ∧
   w'=((w.alloc (.cells #[.string s] 9)).alloc (.cells #[.string sep] 9)).alloc (.cells #[.int .i64 0] 3):=by
 go_enter Tryz.func140,Tryz.ntmps140
 go_wp2
 go_ret
 exact ⟨rfl,rfl⟩
end Go.Proofs.YtgmppconibklcaaGreatDoor

