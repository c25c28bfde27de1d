/- Part of the proof of TspBack. No condition: lemmas alone. -/
import Derived.Test.YtgmppconibklcaaGreatDoorM12
import Derived.Test.YtgmppconibklcaaGreatDoorM19
import Derived.RangeFuncNested
import Derived.RangeFuncBound
import Derived.RangeFuncCalls
import Derived.RangeFuncLeaves
import Derived.RangeFuncBox
import Derived.RangeFuncFrom
import Derived.Shelf.Abstract
import Derived.Shelf.RegionOpen
import Derived.WalkKit
import Derived.OwnWalkIn
import Derived.TacticsInMore
import Derived.LoopNIn
import Derived.LoopIn
import Derived.Maps.AppendAt
import Derived.WalkLawsBesides
import Derived.Test.YtgmppconibklcaaGreatDoorProg
import Derived.Test.YtgmppconibklcaaGreatDoorM0
import Derived.Test.YtgmppconibklcaaGreatDoorShelf
import Derived.Test.YtgmppconibklcaaGreatDoorM9
set_option linter.unusedVariables false
set_option linter.unusedSimpArgs false
namespace Go.Proofs.YtgmppconibklcaaGreatDoor
namespace Rq
open Dr
abbrev Bs:=List UInt8
structure Ex where
 oid:Bs
 crit:Bool
 val:Bs
structure Req where
 alg:Bs
 impr:Bs
 policy:Bs
 has:Bool
 nonce:Nat
 cert:Bool
 exts:List Ex
def z2B (s:Bs):Bool:=(Od.enc s).isSome
def oidN (s:Bs):Nd:=prim 6 ((Od.enc s).getD [])
def exOk (e:Ex):Bool:=z2B e.oid&&decide (e.val.length≤2000)
def exN (e:Ex):Nd:=seq (oidN e.oid::(if e.crit then [prim 1 [255],prim 4 e.val] else [prim 4 e.val]))
def isU (n:Nd) (t:Int):Bool:=n.cls==0&&n.tag==t&&right n
def z0t (n:Nd) (a b:Nat):Bool:=n.cls==0&&n.tag==16&&n.cons&&decide (a≤n.kids.length)&&decide (n.kids.length≤b)
def z2D (n:Nd):Option Bs:=if isU n 6 then Od.decO n.bytes else none
def kid (n:Nd) (i:Nat):Nd:=n.kids.getD i Nd.nil
def exOf (n:Nd):Option Ex:=
 if z0t n 2 3&&n.bytes.isEmpty then
  match z2D (kid n 0) with
  | none=>none
  | some o=>
   if isU (kid n (n.kids.length-1)) 4&&decide ((kid n (n.kids.length-1)).bytes.length≤2000)&&(n.kids.length==2||(isU (kid n 1) 1&&((kid n 1).bytes.getD 0 0).toNat==255)) then
    some ⟨o,n.kids.length==3,(kid n (n.kids.length-1)).bytes⟩
   else none
 else none
theorem zdO:∀ {l:List Nd} {bs:List (List UInt8)},puts l=some bs→∀ k∈l,right k=true
 | [],_,_=>by intro k hk;cases hk
 | n::l,bs,h=>by
  rw [puts] at h;split at h
  ·rename_i o ho;split at h
   ·rename_i os hos;intro k hk;rcases List.mem_cons.1 hk with rfl|hk
    ·unfold right;rw [ho];rfl
    ·exact zdO hos k hk
   ·cases h
  ·cases h
theorem z1x {n:Nd} (h:right n=true):∀ k∈n.kids,right k=true:=by
 obtain ⟨c,t,k,b,l⟩:=n;unfold right at h;rw [put] at h;split at h
 ·split at h
  ·rename_i bs hbs;show ∀ k∈l,_;exact zdO hbs
  ·cases h
 ·cases h
theorem zfq {l:List Nd} (h:∀ k∈l,right k=true):∃ bs,puts l=some bs:=by
 induction l with
 | nil=>exact ⟨[],by rw [puts]⟩
 | cons n l ih=>
  obtain ⟨bs,hb⟩:=ih (fun k hk=>h k (List.mem_cons_of_mem _ hk));have h1:=h n List.mem_cons_self;unfold right at h1;obtain ⟨o,ho⟩:=Option.isSome_iff_exists.1 h1;exact ⟨o::bs,by rw [puts,ho,hb]⟩
theorem z8H {c t:Int} {l:List Nd} (h:∀ k∈l,right k=true) (hm:may c t true=true) (ht:(c==0&&t==17)=false):right (.mk c t true [] l)=true:=by
 obtain ⟨bs,hb⟩:=zfq h;unfold right;rw [put,if_pos (by rw [hm];simp),hb];simp only [ht,Bool.false_and,Bool.false_eq_true,if_false];rfl
theorem z3l {l:List Nd} (h:∀ k∈l,right k=true):right (seq l)=true:=z8H h (by decide) (by decide)
theorem zgu {l:List Nd} (h:∀ k∈l,right k=true):right (.mk 2 0 true [] l)=true:=z8H h (by decide) (by decide)
theorem z4t {t:Int} {b:Bs} (ht:z3c t=true) (h0:0≤t) (h1:t≤30) (hv:value t b=true):right (prim t b)=true:=by
 unfold right prim;rw [put,if_pos (by
  have:may 0 t false=true:=by unfold may;simp [ht,h0,h1]
  rw [this,hv];simp),puts]
 simp [rising]
theorem z2O (b:Bs):right (prim 4 b)=true:=z4t (by decide) (by decide) (by decide) (by unfold value;simp)
theorem z4W:right (prim 1 [255])=true:=z4t (by decide) (by decide) (by decide) (by decide)
theorem z4f {s:Bs} (h:z2B s=true):right (oidN s)=true:=by
 unfold z2B at h;obtain ⟨b,hb⟩:=Option.isSome_iff_exists.1 h;unfold oidN;rw [hb];exact z4t (by decide) (by decide) (by decide) (by unfold value;simp [Od.zaa hb])
theorem z2y {n:Int} (h0: -9223372036854775808≤n) (h1:n≤9223372036854775807):right (intN n)=true:=Dr.z2y _ (zaI h0 h1).1
theorem z7l {n:Nat} (h:Nt.bl n≤131072):right (natN n)=true:=by
 unfold natN;rw [if_neg (by omega)];exact Dr.z2y _ (z9l n).1
theorem zaM {n:Nd} (h:right n=true) {a b:Nat} (hs:z0t n a b=true):n=seq n.kids∧a≤n.kids.length∧n.kids.length≤b:=by
 obtain ⟨c,t,k,bb,l⟩:=n;unfold z0t at hs;simp only [Bool.and_eq_true,beq_iff_eq,decide_eq_true_eq,Nd.cls,Nd.tag,Nd.cons,Nd.kids] at hs;obtain ⟨⟨⟨⟨rfl,rfl⟩,rfl⟩,h1⟩,h2⟩:=hs;unfold right at h;rw [put] at h;split at h
 ·rename_i hok;simp only [Bool.and_eq_true] at hok;have:bb=[]:=by simpa using hok.1.1.2
  subst this;exact ⟨rfl,of_decide_eq_true h1,of_decide_eq_true h2⟩
 ·cases h
theorem z5y {n:Nd} {t:Int} (h:isU n t=true) (ht:z3c t=true):n=prim t n.bytes∧value t n.bytes=true∧right n=true:=by
 unfold isU at h;simp only [Bool.and_eq_true,beq_iff_eq] at h;obtain ⟨⟨h1,h2⟩,h3⟩:=h;have:=z2q h3 h1 (by rw [h2];exact ht);rw [h2] at this;exact ⟨this.1,this.2,h3⟩
theorem z4v {n:Nd} {s:Bs} (h:z2D n=some s):n=oidN s∧z2B s=true:=by
 unfold z2D at h;split at h
 ·rename_i hu;have:=z5y hu (by decide);have he:=Od.zjK h;unfold oidN z2B;rw [he];exact ⟨this.1,rfl⟩
 ·cases h
theorem z4w {s:Bs} (h:z2B s=true):z2D (oidN s)=some s:=by
 have hr:=z4f h;unfold z2B at h;obtain ⟨b,hb⟩:=Option.isSome_iff_exists.1 h;unfold z2D isU;rw [if_pos (by rw [hr];rfl)];unfold oidN;rw [hb];exact Od.zaa hb
theorem z96 (b:Bs):isU (prim 4 b) 4=true:=by unfold isU;rw [z2O];rfl
theorem zhk:isU (prim 1 [255]) 1=true:=by unfold isU;rw [z4W];rfl
theorem zeV {b:Bs} (h:value 1 b=true) (h2:(b.getD 0 0).toNat=255):b=[255]:=by
 unfold value at h;simp at h;match b,h with
 | [c],_=>
  congr 1
  exact UInt8.toNat_inj.1 (by simpa using h2)
theorem zbB {n:Nd} {e:Ex} (h:exOf n=some e):exOk e=true∧exN e=n:=by
 unfold exOf at h;split at h
 ·rename_i hs;split at h
  ·cases h
  ·rename_i o ho;split at h
   ·rename_i hv;simp only [Option.some.injEq] at h;subst h;obtain ⟨hn,hok⟩:=z4v ho;simp only [Bool.and_eq_true,Bool.or_eq_true,beq_iff_eq,decide_eq_true_eq] at hv hs;obtain ⟨⟨h4,hlen⟩,hc⟩:=hv;have e4:=(z5y h4 (by decide)).1;refine ⟨by unfold exOk;simp [hok,hlen],?_⟩;obtain ⟨c,t,k,b,l⟩:=n;have hs1:=hs.1;unfold z0t at hs1;simp only [Bool.and_eq_true,beq_iff_eq,decide_eq_true_eq,Nd.cls,Nd.tag,Nd.cons,Nd.kids] at hs1;obtain ⟨⟨⟨⟨rfl,rfl⟩,rfl⟩,h1⟩,h2⟩:=hs1;have hb:b=[]:=by simpa [Nd.bytes] using hs.2
    subst hb;match l,h1,h2 with
    | [x,y],_,_=>
     simp only [kid,Nd.kids,List.length_cons,List.length_nil,List.getD_cons_zero,List.getD_cons_succ,Nat.zero_add,Nat.reduceAdd,Nat.add_sub_cancel] at *;unfold exN;simp only [Nat.reduceBEq,Bool.false_eq_true,if_false];rw [←hn,←e4];rfl
    | [x,y,z],_,_=>
     simp only [kid,Nd.kids,List.length_cons,List.length_nil,List.getD_cons_zero,List.getD_cons_succ,Nat.zero_add,Nat.reduceAdd,Nat.reduceSub] at *;rcases hc with hc|⟨hc1,hc2⟩
     ·omega
     ·obtain ⟨e1,v1,_⟩:=z5y hc1 (by decide);have:=zeV v1 hc2;rw [this] at e1;unfold exN;simp only [Nat.reduceBEq,if_true];rw [←hn,←e4,←e1];rfl
   ·cases h
 ·cases h
theorem zjI {e:Ex} (h:exOk e=true):exOf (exN e)=some e:=by
 unfold exOk at h;simp only [Bool.and_eq_true,decide_eq_true_eq] at h;have ho:=z4w h.1;obtain ⟨o,c,v⟩:=e;have h4:=z96 v;have h1:=zhk;cases c with
 | false=>
  unfold exOf exN;simp only [Bool.false_eq_true,if_false,seq,z0t,kid,Nd.cls,Nd.tag,Nd.cons,Nd.kids,Nd.bytes,List.length_cons,List.length_nil,List.getD_cons_zero,List.getD_cons_succ,Nat.zero_add,Nat.reduceAdd,Nat.reduceSub,ho,h4];simp [prim,Nd.bytes,h.2]
 | true=>
  unfold exOf exN;simp only [if_true,seq,z0t,kid,Nd.cls,Nd.tag,Nd.cons,Nd.kids,Nd.bytes,List.length_cons,List.length_nil,List.getD_cons_zero,List.getD_cons_succ,Nat.zero_add,Nat.reduceAdd,Nat.reduceSub,ho,h4,h1];simp [prim,Nd.bytes,h.2]
theorem ziZ {e:Ex} (h:exOk e=true):right (exN e)=true:=by
 unfold exOk at h;simp only [Bool.and_eq_true] at h;unfold exN;refine z3l fun k hk=>?_
 rcases List.mem_cons.1 hk with rfl|hk
 ·exact z4f h.1
 ·split at hk
  ·rcases List.mem_cons.1 hk with rfl|hk
   ·exact z4W
   ·rcases List.mem_cons.1 hk with rfl|hk
    ·exact z2O _
    ·cases hk
  ·rcases List.mem_cons.1 hk with rfl|hk
   ·exact z2O _
   ·cases hk
end Rq
end Go.Proofs.YtgmppconibklcaaGreatDoor

namespace Go.Proofs.YtgmppconibklcaaGreatDoor
namespace Rq
open Dr
def z2L:Nd:=prim 1 [255]
def impN (alg impr:Bs):Nd:=seq [seq [oidN alg],prim 4 impr]
def z0x (has:Bool) (n:Nat):Bool:=decide (Nt.bl n≤160)&&(has||Nt.bl n==0)
def z0Q (l:List Ex):Bool:=decide (l.length≤32)&&l.all exOk&&decide ((l.map (·.oid)).Nodup)
def ctxN (l:List Ex):Nd:= .mk 2 0 true [] (l.map exN)
def opt (b:Bool) (n:Nd):List Nd:=if b then [n] else []
def z1y (q:Req):List Nd:=opt (!q.policy.isEmpty) (oidN q.policy)++(opt q.has (natN q.nonce)++(opt q.cert z2L++opt (!q.exts.isEmpty) (ctxN q.exts)))
def node (q:Req):Nd:=seq (intN 1::impN q.alg q.impr::z1y q)
def z3O (alg impr:Bs):Bool:=z2B alg&&decide (1≤impr.length)&&decide (impr.length≤64)
def z0q (q:Req):Bool:=z3O q.alg q.impr&&(q.policy.isEmpty||z2B q.policy)&&z0x q.has q.nonce&&z0Q q.exts
def z62 (n:Nd):Option (Bs×Bs):=
 if z0t n 2 2&&z0t (kid n 0) 1 1&&isU (kid n 1) 4 then
  match z2D (kid (kid n 0) 0) with
  | some o=>if 1≤(kid n 1).bytes.length∧(kid n 1).bytes.length≤64 then some (o,(kid n 1).bytes) else none
  | none=>none
 else none
def z0B:List Nd→Bs×List Nd
 | []=>([],[])
 | k::t=>match z2D k with
  | some s=>(s,t)
  | none=>([],k::t)
def z0i:List Nd→Bool×Nat×List Nd
 | []=>(false,0,[])
 | k::t=>if k.cls=0∧k.tag=2 then match z1D k with
   | some a=>(true,a,t)
   | none=>(false,0,k::t)
  else (false,0,k::t)
def z1m:List Nd→Bool×List Nd
 | []=>(false,[])
 | k::t=>if k.cls=0∧k.tag=1∧k.bytes=[255] then (true,t) else (false,k::t)
def z18:List Nd→Option (List Ex×List Nd)
 | []=>some ([],[])
 | k::t=>if k.cls=2∧k.tag=0∧0<k.kids.length then match k.kids.mapM exOf with
   | some es=>some (es,t)
   | none=>none
  else some ([],k::t)
def z3H (n:Nd):Option Req:=
 if z0t n 2 6&&(intOf (kid n 0)==some 1&&(kid n 0).tag==2) then
  match z62 (kid n 1) with
  | none=>none
  | some (alg,impr)=>
   match z18 (z1m (z0i (z0B (n.kids.drop 2)).2).2.2).2 with
   | none=>none
   | some (es,l)=>
    if l.isEmpty&&z0Q es&&z0x (z0i (z0B (n.kids.drop 2)).2).1 (z0i (z0B (n.kids.drop 2)).2).2.1 then
     some ⟨alg,impr,(z0B (n.kids.drop 2)).1,(z0i (z0B (n.kids.drop 2)).2).1,(z0i (z0B (n.kids.drop 2)).2).2.1,(z1m (z0i (z0B (n.kids.drop 2)).2).2.2).1,es⟩
    else none
 else none
theorem zlY {b s:Bs} (h:Od.decO b=some s):s≠[]:=by
 obtain ⟨g,gs,_,rfl⟩:=Od.z7T h;unfold Od.z0W;simp
theorem zjb {k:Nd} {s:Bs} (h:z2D k=some s):s≠[]:=by
 unfold z2D at h;split at h
 ·exact zlY h
 ·cases h
theorem z8x (l:List Nd):l=opt (!(z0B l).1.isEmpty) (oidN (z0B l).1)++(z0B l).2∧((z0B l).1.isEmpty=true∨z2B (z0B l).1=true)∧(∀ k∈(z0B l).2,k∈l):=by
 match l with
 | []=>exact ⟨rfl,.inl rfl,fun k h=>h⟩
 | k::t=>
  simp only [z0B];split
  ·rename_i s hs;have hne:=zjb hs;obtain ⟨h1,h2⟩:=z4v hs;have he:(!s.isEmpty)=true:=by cases s with|nil=>exact absurd rfl hne|cons _ _=>rfl
   refine ⟨?_,.inr h2,fun k h=>List.mem_cons_of_mem _ h⟩;simp only [he,opt,if_true,←h1];rfl
  ·exact ⟨rfl,.inl rfl,fun k h=>h⟩
theorem z8y {l:List Nd} (hr:∀ k∈l,right k=true) (hb:Nt.bl (z0i l).2.1≤131072):l=opt (z0i l).1 (natN (z0i l).2.1)++(z0i l).2.2∧(∀ k∈(z0i l).2.2,k∈l):=by
 match l with
 | []=>exact ⟨rfl,fun k h=>h⟩
 | k::t=>
  simp only [z0i] at hb ⊢;split
  ·rename_i hk;rw [if_pos hk] at hb;split
   ·rename_i a ha;rw [ha] at hb;have:=z8W ha hk.2 hb;refine ⟨?_,fun k h=>List.mem_cons_of_mem _ h⟩;simp only [opt,if_true,←this];rfl
   ·exact ⟨rfl,fun k h=>h⟩
  ·exact ⟨rfl,fun k h=>h⟩
theorem zci {l:List Nd} (hr:∀ k∈l,right k=true):l=opt (z1m l).1 z2L++(z1m l).2∧(∀ k∈(z1m l).2,k∈l):=by
 match l with
 | []=>exact ⟨rfl,fun k h=>h⟩
 | k::t=>
  simp only [z1m];split
  ·rename_i hk;have:=(z2q (hr k List.mem_cons_self) hk.1 (by rw [hk.2.1];decide)).1;rw [hk.2.1,hk.2.2] at this;refine ⟨?_,fun k h=>List.mem_cons_of_mem _ h⟩;simp only [opt,if_true];rw [this];rfl
  ·exact ⟨rfl,fun k h=>h⟩
theorem zhc {l:List Nd} {es:List Ex} (h:l.mapM exOf=some es):es.map exN=l∧es.all exOk=true∧es.length=l.length:=by
 induction l generalizing es with
 | nil=>
  simp only [List.mapM_nil,Option.pure_def,Option.some.injEq] at h;subst h;exact ⟨rfl,rfl,rfl⟩
 | cons k l ih=>
  rw [List.mapM_cons] at h;simp only [Option.bind_eq_bind,Option.bind_eq_some_iff,Option.pure_def,Option.some.injEq] at h;obtain ⟨e,he,es',hes,rfl⟩:=h;obtain ⟨h1,h2,h3⟩:=ih hes;obtain ⟨h4,h5⟩:=zbB he;refine ⟨by rw [List.map_cons,h1,h5],by simp [h4,h2],by simp [h3]⟩
theorem ze6:∀ {es:List Ex},es.all exOk=true→(es.map exN).mapM exOf=some es
 | [],_=>rfl
 | e::es,h=>by
  simp only [List.all_cons,Bool.and_eq_true] at h;rw [List.map_cons,List.mapM_cons,zjI h.1,ze6 h.2];rfl
theorem ctx_of {k:Nd} (hr:right k=true) (h:k.cls=2∧k.tag=0∧0<k.kids.length):k = .mk 2 0 true [] k.kids:=by
 obtain ⟨c,t,b,bs,l⟩:=k;obtain ⟨rfl,rfl,h3⟩:c=2∧t=0∧0<l.length:=h;unfold right at hr;rw [put] at hr;split at hr
 ·rename_i hok;simp only [Bool.and_eq_true] at hok;have hb:b=true:=by
   cases b with
   | true=>rfl
   | false=>
    exfalso;have:=hok.1.2;simp at this;subst this;simp at h3
  subst hb;have:bs=[]:=by simpa using hok.1.1.2
  subst this;rfl
 ·cases hr
theorem zcm {l:List Nd} {es:List Ex} {t:List Nd} (hr:∀ k∈l,right k=true) (h:z18 l=some (es,t)):l=opt (!es.isEmpty) (ctxN es)++t:=by
 match l,h with
 | [],h=>
  simp only [z18,Option.some.injEq,Prod.mk.injEq] at h;obtain ⟨rfl,rfl⟩:=h;rfl
 | k::l,h=>
  simp only [z18] at h;split at h
  ·rename_i hk;split at h
   ·rename_i es' hes;simp only [Option.some.injEq,Prod.mk.injEq] at h;obtain ⟨rfl,rfl⟩:=h;obtain ⟨h1,h2,h3⟩:=zhc hes;have he:(!es'.isEmpty)=true:=by
     cases es' with
     | nil=>exfalso;have:=hk.2.2;simp at h3;omega
     | cons _ _=>rfl
    simp only [he,opt,if_true,ctxN];rw [h1,←ctx_of (hr k List.mem_cons_self) hk];rfl
   ·cases h
  ·simp only [Option.some.injEq,Prod.mk.injEq] at h;obtain ⟨rfl,rfl⟩:=h;rfl
theorem z98 {n:Nd} (hr:right n=true) {alg impr:Bs} (h:z62 n=some (alg,impr)):n=impN alg impr∧z3O alg impr=true:=by
 unfold z62 at h;split at h
 ·rename_i hs;simp only [Bool.and_eq_true] at hs;split at h
  ·rename_i o ho;split at h
   ·rename_i hl;simp only [Option.some.injEq,Prod.mk.injEq] at h;obtain ⟨rfl,rfl⟩:=h;obtain ⟨hn,h1,h2⟩:=zaM hr hs.1.1;have hk:=z1x hr;generalize n.kids=l at hn h1 h2 hk;subst hn;match l,h1,h2 with
    | [x,y],_,_=>
     have hx:kid (seq [x,y]) 0=x:=rfl;have hy:kid (seq [x,y]) 1=y:=rfl;rw [hx,hy] at hs;rw [hx] at ho;rw [hy] at hl ⊢;obtain ⟨hn2,h3,h4⟩:=zaM (hk x List.mem_cons_self) hs.1.2;generalize hgx:x.kids=l2 at hn2 h3 h4;subst hn2;match l2,h3,h4 with
     | [z],_,_=>
      have hz:kid (seq [z]) 0=z:=rfl;rw [hz] at ho;obtain ⟨h5,h6⟩:=z4v ho;have h7:=(z5y hs.2 (by decide)).1;refine ⟨?_,by unfold z3O;simp [h6,hl]⟩;unfold impN;rw [←h5,←h7]
   ·cases h
  ·cases h
 ·cases h
theorem z99 {alg impr:Bs} (h:z3O alg impr=true):z62 (impN alg impr)=some (alg,impr):=by
 unfold z3O at h;simp only [Bool.and_eq_true,decide_eq_true_eq] at h;have ho:=z4w h.1.1;have h4:=z96 impr;unfold z62 impN;simp only [seq,kid,z0t,Nd.cls,Nd.tag,Nd.cons,Nd.kids,List.length_cons,List.length_nil,List.getD_cons_zero,List.getD_cons_succ,ho,h4];simp [prim,Nd.bytes,h.1.2,h.2]
theorem zaT {alg impr:Bs} (h:z3O alg impr=true):right (impN alg impr)=true:=by
 unfold z3O at h;simp only [Bool.and_eq_true] at h;refine z3l fun k hk=>?_
 rcases List.mem_cons.1 hk with rfl|hk
 ·refine z3l fun k hk=>?_
  rcases List.mem_cons.1 hk with rfl|hk
  ·exact z4f h.1.1
  ·cases hk
 ·rcases List.mem_cons.1 hk with rfl|hk
  ·exact z2O _
  ·cases hk
theorem zfk {n:Nd} {q:Req} (hr:right n=true) (h:z3H n=some q):z0q q=true∧node q=n:=by
 unfold z3H at h;split at h
 ·rename_i hs;simp only [Bool.and_eq_true,beq_iff_eq] at hs;obtain ⟨hs,h1,h1t⟩:=hs;obtain ⟨hn,hl1,hl2⟩:=zaM hr hs;have hk:=z1x hr;split at h
  ·cases h
  ·rename_i alg impr himp;split at h
   ·cases h
   ·rename_i es l hes;split at h
    ·rename_i hf;simp only [Bool.and_eq_true,List.isEmpty_iff] at hf;obtain ⟨⟨rfl,hex⟩,hno⟩:=hf;have hbl:Nt.bl (z0i (z0B (n.kids.drop 2)).2).2.1≤131072:=by
      unfold z0x at hno;simp only [Bool.and_eq_true,decide_eq_true_eq] at hno;omega
     simp only [Option.some.injEq] at h;subst h;have hkd:∀ k∈n.kids.drop 2,right k=true:=fun k h=>hk k (List.mem_of_mem_drop h)
     obtain ⟨e1,o1,m1⟩:=z8x (n.kids.drop 2);have r1:∀ k∈(z0B (n.kids.drop 2)).2,right k=true:=fun k h=>hkd k (m1 k h)
     obtain ⟨e2,m2⟩:=z8y r1 hbl;have r2:∀ k∈(z0i (z0B (n.kids.drop 2)).2).2.2,right k=true:=fun k h=>r1 k (m2 k h)
     obtain ⟨e3,m3⟩:=zci r2;have r3:∀ k∈(z1m (z0i (z0B (n.kids.drop 2)).2).2.2).2,right k=true:=fun k h=>r2 k (m3 k h)
     have e4:=zcm r3 hes;rw [List.append_nil] at e4;have hk0:kid n 0∈n.kids:=by
      unfold kid;rw [List.getD_eq_getElem?_getD,List.getElem?_eq_getElem (by omega)];exact List.getElem_mem _
     have hk1:kid n 1∈n.kids:=by
      unfold kid;rw [List.getD_eq_getElem?_getD,List.getElem?_eq_getElem (by omega)];exact List.getElem_mem _
     obtain ⟨i1,i2⟩:=z98 (hk _ hk1) himp;have i0:=z4A h1 h1t;refine ⟨?_,?_⟩
     ·unfold z0q;simp only [i2,hno,hex,Bool.true_and,Bool.and_true,Bool.or_eq_true];exact o1
     ·unfold node z1y;simp only;rw [←e4,←e3,←e2,←e1,←i0,←i1]
      conv=>rhs;rw [hn]
      congr 1
      unfold kid;generalize n.kids=l at hl1;match l,hl1 with
      | a::b::l,_=>rfl
    ·cases h
 ·cases h
theorem zck {s:Bs} (h:s.isEmpty=true∨z2B s=true) {l:List Nd} (hl:∀ k∈l.head?,k.tag≠6):z0B (opt (!s.isEmpty) (oidN s)++l)=(s,l):=by
 cases s with
 | nil=>
  simp only [List.isEmpty_nil,Bool.not_true,opt,Bool.false_eq_true,if_false,List.nil_append];match l,hl with
  | [],_=>rfl
  | k::t,hl=>
   have:z2D k=none:=by
    unfold z2D isU;rw [if_neg];have:=hl k rfl;simp [this]
   simp only [z0B];rw [this]
 | cons a s=>
  have h2:z2B (a::s)=true:=by rcases h with h|h<;>simp_all
  simp only [List.isEmpty_cons,Bool.not_false,opt,if_true,List.singleton_append];simp only [z0B];rw [z4w h2]
theorem z79 {b:Bool} {a:Nat} (h:z0x b a=true) {l:List Nd} (hl:∀ k∈l.head?,k.tag≠2):z0i (opt b (natN a)++l)=(b,a,l):=by
 unfold z0x at h;simp only [Bool.and_eq_true,decide_eq_true_eq,Bool.or_eq_true,beq_iff_eq] at h;cases b with
 | false=>
  have ha:a=0:=by
   have h0:Nt.bl a=0:=by simpa using h.2
   have:=Nt.zi9 a;rw [h0] at this;omega
  subst ha;simp only [opt,Bool.false_eq_true,if_false,List.nil_append];match l,hl with
  | [],_=>rfl
  | k::t,hl=>
   simp only [z0i];rw [if_neg (by intro hx;exact hl k rfl hx.2)]
 | true=>
  simp only [opt,if_true,List.singleton_append];simp only [z0i];have e:natN a=prim 2 (Nt.beN (Nt.bl a / 8+1) a):=by unfold natN;rw [if_neg (by omega)]
  rw [if_pos (by rw [e];exact ⟨rfl,rfl⟩),z8X (by omega)]
theorem zaA {b:Bool} {l:List Nd} (hl:∀ k∈l.head?,k.tag≠1):z1m (opt b z2L++l)=(b,l):=by
 cases b with
 | false=>
  simp only [opt,Bool.false_eq_true,if_false,List.nil_append];match l,hl with
  | [],_=>rfl
  | k::t,hl=>
   simp only [z1m];rw [if_neg (by intro hx;exact hl k rfl hx.2.1)]
 | true=>rfl
theorem zaE {es:List Ex} (h:es.all exOk=true):z18 (opt (!es.isEmpty) (ctxN es))=some (es,[]):=by
 cases es with
 | nil=>rfl
 | cons e es=>
  simp only [List.isEmpty_cons,Bool.not_false,opt,if_true,z18,ctxN];rw [if_pos ⟨rfl,rfl,by simp [Nd.kids]⟩];simp only [Nd.kids];rw [ze6 h]
theorem z2s (b:Bool) (n:Nd):(opt b n).length≤1:=by cases b<;>simp [opt]
theorem zdX {b:Bool} {n:Nd} {l:List Nd} {P:Nd→Prop} (hn:P n) (hl:∀ k∈l.head?,P k):∀ k∈(opt b n++l).head?,P k:=by
 cases b with
 | true=>intro k hk;simp [opt] at hk;subst hk;exact hn
 | false=>simpa [opt] using hl
theorem z9M {a:Nat} (h:Nt.bl a≤131072):(natN a).tag=2:=by unfold natN;rw [if_neg (by omega)];rfl
theorem zfl {q:Req} (h:z0q q=true):z3H (node q)=some q:=by
 unfold z0q at h;simp only [Bool.and_eq_true,Bool.or_eq_true] at h;obtain ⟨⟨⟨himp,hpol⟩,hno⟩,hex⟩:=h;have hall:q.exts.all exOk=true:=by
  unfold z0Q at hex;simp only [Bool.and_eq_true] at hex;exact hex.1.2
 have hbl:Nt.bl q.nonce≤131072:=by
  unfold z0x at hno;simp only [Bool.and_eq_true,decide_eq_true_eq] at hno;omega
 have t3:∀ k∈(opt (!q.exts.isEmpty) (ctxN q.exts)).head?,k.tag≠1∧k.tag≠2∧k.tag≠6:=by
  intro k hk;cases hq:q.exts with
  | nil=>rw [hq] at hk;simp [opt] at hk
  | cons e es=>rw [hq] at hk;simp [opt] at hk;subst hk;simp [ctxN,Nd.tag]
 have t2:∀ k∈(opt q.cert z2L++opt (!q.exts.isEmpty) (ctxN q.exts)).head?,k.tag≠2∧k.tag≠6:=
  zdX (P:=fun k=>k.tag≠2∧k.tag≠6) (by simp [z2L,prim,Nd.tag]) (fun k hk=>(t3 k hk).2)
 have t1:∀ k∈(opt q.has (natN q.nonce)++(opt q.cert z2L++opt (!q.exts.isEmpty) (ctxN q.exts))).head?,k.tag≠6:=
  zdX (P:=fun k=>k.tag≠6) (by rw [z9M hbl];decide) (fun k hk=>(t2 k hk).2)
 have d:(node q).kids.drop 2=z1y q:=rfl;have hlen:(node q).kids.length=2+(z1y q).length:=by show (_::_::z1y q).length=_;simp;omega
 have hl4:(z1y q).length≤4:=by
  unfold z1y;simp only [List.length_append];have a:=z2s (!q.policy.isEmpty) (oidN q.policy);have b:=z2s q.has (natN q.nonce);have c:=z2s q.cert z2L;have d:=z2s (!q.exts.isEmpty) (ctxN q.exts);omega
 have hs:z0t (node q) 2 6=true:=by
  have e:z0t (node q) 2 6=(decide (2≤(node q).kids.length)&&decide ((node q).kids.length≤6)):=rfl;rw [e,hlen];simp only [Bool.and_eq_true,decide_eq_true_eq];omega
 unfold z3H;rw [hs,d];have k0:kid (node q) 0=intN 1:=rfl;have k1:kid (node q) 1=impN q.alg q.impr:=rfl;rw [k0,k1,z3v (by decide) (by decide),z99 himp];have a1:z0B (z1y q)=(q.policy,opt q.has (natN q.nonce)++(opt q.cert z2L++opt (!q.exts.isEmpty) (ctxN q.exts))):=zck hpol t1;have a2:=z79 hno (l:=opt q.cert z2L++opt (!q.exts.isEmpty) (ctxN q.exts)) (fun k hk=>(t2 k hk).1);have a3:=zaA (b:=q.cert) (l:=opt (!q.exts.isEmpty) (ctxN q.exts)) (fun k hk=>(t3 k hk).1);simp only [a1,a2,a3,zaE hall,List.isEmpty_nil,hex,hno,Bool.and_self,if_true];have:(intN 1).tag=2:=rfl;rw [this];simp
theorem zfh {q:Req} (h:z0q q=true):right (node q)=true:=by
 unfold z0q at h;simp only [Bool.and_eq_true,Bool.or_eq_true] at h;obtain ⟨⟨⟨himp,hpol⟩,hno⟩,hex⟩:=h;have hall:q.exts.all exOk=true:=by
  unfold z0Q at hex;simp only [Bool.and_eq_true] at hex;exact hex.1.2
 have hbl:Nt.bl q.nonce≤131072:=by
  unfold z0x at hno;simp only [Bool.and_eq_true,decide_eq_true_eq] at hno;omega
 have hopt:∀ {b:Bool} {n:Nd},(b=true→right n=true)→∀ k∈opt b n,right k=true:=by
  intro b n hb k hk;cases b with
  | true=>simp [opt] at hk;subst hk;exact hb rfl
  | false=>simp [opt] at hk
 refine z3l fun k hk=>?_
 rcases List.mem_cons.1 hk with rfl|hk
 ·exact z2y (by decide) (by decide)
 rcases List.mem_cons.1 hk with rfl|hk
 ·exact zaT himp
 unfold z1y at hk;rcases List.mem_append.1 hk with hk|hk
 ·refine hopt (fun hb=>?_) k hk;rcases hpol with hp|hp
  ·rw [hp] at hb;cases hb
  ·exact z4f hp
 rcases List.mem_append.1 hk with hk|hk
 ·exact hopt (fun _=>z7l hbl) k hk
 rcases List.mem_append.1 hk with hk|hk
 ·exact hopt (fun _=>z4W) k hk
 ·refine hopt (fun _=>?_) k hk;refine zgu fun k hk=>?_
  obtain ⟨e,he,rfl⟩:=List.mem_map.1 hk;exact ziZ (List.all_eq_true.1 hall e he)
end Rq
end Go.Proofs.YtgmppconibklcaaGreatDoor

namespace Go.Proofs.YtgmppconibklcaaGreatDoor
namespace Dr
mutual
def same:Nd→Nd→Bool
 | .mk c t k b l,.mk c' t' k' b' l'=>c==c'&&t==t'&&k==k'&&b==b'&&zcw l l'
def zcw:List Nd→List Nd→Bool
 | [],[]=>true
 | n::l,m::k=>same n m&&zcw l k
 | _,_=>false
end
mutual
theorem zl9:∀ {a b:Nd},same a b=true↔a=b
 | .mk c t k b l,.mk c' t' k' b' l'=>by
  rw [same];simp only [Bool.and_eq_true,beq_iff_eq,zdE,Nd.mk.injEq,and_assoc]
theorem zdE:∀ {a b:List Nd},zcw a b=true↔a=b
 | [],[]=>by simp [zcw]
 | [],m::k=>by simp [zcw]
 | n::l,[]=>by simp [zcw]
 | n::l,m::k=>by
  rw [zcw];simp only [Bool.and_eq_true,zl9,zdE,List.cons.injEq]
end
theorem zev {l:List Nd} {m:Nat} (h:∀ k∈l,deep k≤m):z0U l≤m:=by
 induction l with
 | nil=>rw [z0U];omega
 | cons n l ih=>
  rw [z0U];have:=h n List.mem_cons_self;have:=ih (fun k hk=>h k (List.mem_cons_of_mem _ hk));omega
theorem z2Y {l:List Nd} {m:Nat} (h:∀ k∈l,deep k≤m):deep (seq l)≤m+1:=by
 unfold seq;rw [deep];have:=zev h;omega
theorem z10 (t:Int) (b:List UInt8):deep (prim t b)=1:=by unfold prim;rw [deep,z0U]
theorem z3g (a b:List Nd):wts (a++b)=wts a+wts b:=by
 induction a with
 | nil=>simp [wts]
 | cons n l ih=>rw [List.cons_append,wts,wts,ih];omega
theorem z3h (l:List Nd):wt (seq l)=wts l+10:=by unfold seq;rw [wt];simp;omega
theorem z25 (t:Int) (b:List UInt8):wt (prim t b)=b.length+10:=by unfold prim;rw [wt,wts]
end Dr
namespace Rq
open Dr
def zcD (n:Nd):Bs:=(Od.decO n.bytes).getD []
def zle (n:Nd):Ex:=⟨zcD (kid n 0),n.kids.length==3,(kid n (n.kids.length-1)).bytes⟩
def refExOf (n:Nd):Option Ex:=if exOk (zle n)&&same (exN (zle n)) n then some (zle n) else none
def z0y:Ex:=⟨[],false,[]⟩
def zld (q:Req) (k:Nd):Req:=
 if k.cls=2 then {q with exts:=q.exts++(k.kids.take 40).map fun x=>(exOf x).getD z0y}
 else if k.tag=6 then {q with policy:=zcD k}
 else if k.tag=2 then {q with has:=true,nonce:=(z1D k).getD 0}
 else if k.tag=1 then {q with cert:=true}
 else q
def zgF (n:Nd):Req:=((n.kids.drop 2).take 6).foldl zld ⟨zcD (kid (kid (kid n 1) 0) 0),(kid (kid n 1) 1).bytes,[],false,0,false,[]⟩
def refReq (n:Nd):Option Req:=if z0q (zgF n)&&same (node (zgF n)) n then some (zgF n) else none
theorem z6e (b:Bool) (n:Nd):wts (opt b n)≤wt n:=by cases b<;>simp [opt,wts]
def z41 (l:List Ex):Nat:=(l.map fun e=>1+e.oid.length+e.val.length).sum
def z2z (q:Req):Nat:=q.alg.length+q.impr.length+q.policy.length+z41 q.exts
theorem zc9 {a:Nat} (h:Nt.bl a≤160):wt (natN a)≤31:=by
 unfold natN;rw [if_neg (by omega),z25,Nt.z0E];omega
theorem z2Z {b:Bool} {n:Nd} {m:Nat} (h:deep n≤m):∀ k∈opt b n,deep k≤m:=by
 cases b<;>simp [opt,h]
theorem zhV (q:Req) (h:Nt.bl q.nonce≤160):deep (node q)≤4:=by
 have ho:∀ s,deep (oidN s)=1:=fun s=>z10 _ _
 have hx:∀ e:Ex,deep (exN e)≤2:=by
  intro e;unfold exN;refine z2Y fun k hk=>?_
  rcases List.mem_cons.1 hk with rfl|hk
  ·rw [ho];omega
  ·split at hk
   ·rcases List.mem_cons.1 hk with rfl|hk
    ·rw [z10];omega
    ·rcases List.mem_cons.1 hk with rfl|hk
     ·rw [z10];omega
     ·cases hk
   ·rcases List.mem_cons.1 hk with rfl|hk
    ·rw [z10];omega
    ·cases hk
 have hc:deep (ctxN q.exts)≤3:=by
  unfold ctxN;rw [deep];have:=zev (l:=q.exts.map exN) (m:=2) (fun k hk=>by obtain ⟨e,_,rfl⟩:=List.mem_map.1 hk;exact hx e);omega
 unfold node;refine z2Y fun k hk=>?_
 rcases List.mem_cons.1 hk with rfl|hk
 ·unfold intN;rw [z10];omega
 rcases List.mem_cons.1 hk with rfl|hk
 ·unfold impN;refine z2Y fun k hk=>?_
  rcases List.mem_cons.1 hk with rfl|hk
  ·refine z2Y fun k hk=>?_
   rcases List.mem_cons.1 hk with rfl|hk
   ·rw [ho];omega
   ·cases hk
  ·rcases List.mem_cons.1 hk with rfl|hk
   ·rw [z10];omega
   ·cases hk
 unfold z1y at hk;rcases List.mem_append.1 hk with hk|hk
 ·exact z2Z (by rw [ho];omega) k hk
 rcases List.mem_append.1 hk with hk|hk
 ·exact z2Z (by unfold natN;rw [if_neg (by omega),z10];omega) k hk
 rcases List.mem_append.1 hk with hk|hk
 ·exact z2Z (by unfold z2L;rw [z10];omega) k hk
 ·exact z2Z hc k hk
end Rq
end Go.Proofs.YtgmppconibklcaaGreatDoor

namespace Go.Proofs.YtgmppconibklcaaGreatDoor
open Go Go.RowKit
set_option maxHeartbeats 1000000 in
set_option maxRecDepth 100000 in
theorem zav (has:Bool) (A:Option Addr) (n c:Nat) (l:List Nat) (Av:Nat→Prop) (w:World) (h:Is w Av (.slice A n c) (limD l)) (hL:Nt.Lb l) (hz:n≤100000000):
  Calls Tryz.prog 29 #[.bool has,.slice A n c] w fun e w'=>e = .returned (.bool (Rq.z0x has (Nt.vl l)))∧w'=w:=by
 have H:=Lib.hid h;have HL:=Lib.hid hL;obtain ⟨K,hK⟩:∃ K,K=Nt.bl (Nt.vl l):=⟨_,rfl⟩;have HK:=Lib.hid hK;have HE:Hid (Rq.z0x has (Nt.vl l)=(decide (K≤160)&&(has||K==0))):=by show _=_;rw [hK];rfl
 clear h hL hK;go_enter Tryz.func29,Tryz.ntmps29
 go_wp2_with fail
 refine (z2F A n c l Av w H.out HL.out hz).mono ?_;rintro e w' ⟨rfl,rfl⟩;rw [←HK.out];by_cases h1:K≤160
 ·have hd:decide ((K:Int)≤160)=true:=decide_eq_true (by omega);have H1:=Lib.hid h1;clear h1;cases has with
  | true=>
   go_wp2_with fail
   go_ret
   exact ⟨by rw [HE.out,decide_eq_true H1.out];rfl,rfl⟩
  | false=>
   by_cases h0:K=0
   ·subst h0
    go_wp2_with fail
    go_ret
    exact ⟨by rw [HE.out];rfl,rfl⟩
   ·have hd0:((K:Int)==0)=false:=by simp;omega
    have hd1:(K==0)=false:=by simp;omega
    have HD1:=Lib.hid hd1;clear h0 hd1
    go_wp2_with fail
    go_ret
    exact ⟨by rw [HE.out,decide_eq_true H1.out,HD1.out];rfl,rfl⟩
 ·have hd:decide ((K:Int)≤160)=false:=decide_eq_false (by omega);have H1:=Lib.hid h1;clear h1
  go_wp2_with fail
  go_ret
  exact ⟨by rw [HE.out,decide_eq_false H1.out];rfl,rfl⟩
end Go.Proofs.YtgmppconibklcaaGreatDoor

namespace Go.Proofs.YtgmppconibklcaaGreatDoor
open Go Go.RowKit Go.Shelf
attribute [local go_sem] Oper.semAt_some

def zeM {α:Type} (F:Fence) (n:Nat) (P:Program) (g:Nat) (lb:Array Value) (encs:α→Array Value) (Kp:World→World→Prop) (XS:List α) (w:World) (b:Nat):Prop:=
 ∀ (l:Nat) (J Jx:List α→World→Prop) (W:World),Below w.heap.size w W →
  (∀ pre W1 v,J pre W1→J pre (W1.setCell ⟨b,0,none⟩ v)) →
  (∀ pre x W1,J pre W1→(pre++[x]) <+: XS→YieldAt F (n-1) P l (encs x) W1 fun e W' =>
   (e = .returned (.bool true)∧J (pre++[x]) W'∧Kp W1 W')∨(e = .returned (.bool false)∧Jx (pre++[x]) W')) →
  J [] W →
  CallsIn F n P g (#[.func (.yield l) #[] #[]]++lb) W fun e W'=>(∃ v,e = .returned v)∧(J XS W'∨(∃ pre,pre <+: XS∧Jx pre W'))

variable {F:Fence} {n:Nat} {P:Program}

theorem z4H {α:Type} {g:Operand} {ps:Array Tmp} {assign body:Code} {Q:Exit→Act→World→Prop} {a:Act} {w:World}
  (hro:F.round=none) (h1:1≤n) {gf:Nat} {lb:Array Value} (hg:a.eval g = .func (.func gf) #[] lb) (hFg:F.fn gf) (eg:∀ args w,(callFunc gf args).run P w = .ok (.enter gf args) w)
  {encs:α→Array Value} {Kp:World→World→Prop} {XS:List α} {b:Nat} (hseq:zeM F (n-1) P gf lb encs Kp XS w b) (hbw:b<w.heap.size)
  (hKt:∀ {A B C:World},Kp A B→Kp B C→Kp A C) (hKb:∀ (W:World) (l:Nat) (o o':Obj),w.heap.size≤l→W.heap[l]? = some o→Kp W (W.putObj l o')) (hps:∀ x,(encs x).size=ps.size)
  (I:List α→World→Prop) (Ix:Code→List α→World→Prop) (hI:OwnFrom w.heap.size I) (hIx:∀ c,OwnFrom w.heap.size (Ix c)) (hIs:∀ pre W v,I pre W→I pre (W.setCell ⟨b,0,none⟩ v)) (h0:I [] w) (a₁:α→Act)
  (hassign:∀ (l:Nat) (x:α) (W:World) (K:Act→World→Prop),K (a₁ x) W →
   assign.wpIn (F.inRound l) (n-1-1) P (Exit.then K (fun _ _ _=>False)) {tmps:=(ps.zip (encs x)).foldl (fun t (p,v)=>t.setIfInBounds p v) a.tmps,defers:=[]} W)
  (hbody:∀ (l:Nat) (pre:List α) (x:α) (W:World),I pre W→(pre++[x]) <+: XS→body.wpIn (F.inRound l) (n-1-1) P (ownPostK Kp I Ix (pre++[x]) W) (a₁ x) W)
  (hdone:∀ (W:World),I XS W→W.heap[w.heap.size]? = some (.deferred (some []))→Q .normal {a with defers:={target:= .collected w.heap.size,args:=#[]}::a.defers} W)
  (hstop:∀ (c:Code) (pre:List α) (W:World),pre <+: XS→Ix c pre W→W.heap[w.heap.size]? = some (.deferred (some []))→c.wpIn F n P Q {a with defers:={target:= .collected w.heap.size,args:=#[]}::a.defers} W):
  (Code.rangeFunc g ps assign body).wpIn F n P Q a w:=by
 refine wpIn_rangeFunc ?_;intro fn hfn;rw [hro];obtain ⟨rec,hrec⟩:∃ rec:LoopState→Option Code→Loop,rec=fun st pe=>{state:=st,pending:=pe,fn,tmps:=a.tmps,params:=ps,assign,body,defers:=w.heap.size}:=⟨_,rfl⟩
 obtain ⟨W1,hW1⟩:∃ W1,(w.alloc (.deferred (some []))).alloc (.loop (rec .ready none))=W1:=⟨_,rfl⟩;have hL1:W1.heap[w.heap.size+1]? = some (.loop (rec .ready none)):=by
  rw [←hW1];have:=World.alloc_heap_new (w.alloc (.deferred (some []))) (.loop (rec .ready none));rwa [World.size_alloc] at this
 have hK1:W1.heap[w.heap.size]? = some (.deferred (some [])):=by
  rw [←hW1];exact (Below.heap_alloc _ _ _ (by simp)).trans (World.alloc_heap_new w _)
 have hI1:I [] W1:=by rw [←hW1];exact hI.alloc _ (hI.alloc _ h0)
 have hb1:Below w.heap.size w W1:=by
  rw [←hW1];exact ((Below.refl _ w).alloc (Nat.le_refl _) _).alloc (by simp) _
 refine ⟨w.heap.size+1,[{target:= .collected w.heap.size,args:=#[]}],W1,{target:= .fn (.func gf) lb,args:=#[.func (.yield (w.heap.size+1)) #[] #[]]},W1,gf,
  #[.func (.yield (w.heap.size+1)) #[] #[]]++lb,W1,?_,?_,?_,?_,fun _=>h1,?_⟩
 ·rw [←hW1,hrec];exact run_enterLoop_outer _ _ _ _ _
 ·simp only [resolve,hg];simp [go_sem]
 ·intro f' hf';simp [Target.leads] at hf';subst hf';exact hFg
 ·simp [invoke,go_sem,eg]
 ·refine (hseq (w.heap.size+1)
   (fun pre W=>I pre W∧W.heap[w.heap.size+1]? = some (.loop (rec .ready none))∧W.heap[w.heap.size]? = some (.deferred (some [])))
   (fun pre W=>∃ c,Ix c pre W∧W.heap[w.heap.size+1]? = some (.loop (rec .done (some c)))∧W.heap[w.heap.size]? = some (.deferred (some [])))
   W1 hb1
   (fun pre W v hj=>⟨hIs pre W v hj.1,(Below.heap_setCell W _ v _ (by simp;omega)).trans hj.2.1,(Below.heap_setCell W _ v _ (by simp;omega)).trans hj.2.2⟩)
   ?_ ⟨hI1,hL1,hK1⟩).mono ?_
  ·rintro pre x W ⟨hi,hl,hk⟩ hlen;have hlt:w.heap.size+1<W.heap.size:=(Array.getElem?_eq_some_iff.1 hl).1;have hy:=run_yield (P:=P) (args:=encs x) hl (by rw [hrec];exact hps x);rw [hrec] at hy;refine ⟨fn,_,assign,body,hy,roundIn_of_wpIn hfn (hassign _ x W _ ⟨_,run_beginRound hl (by rw [hrec]),?_⟩)⟩;have hl2:(W.putObj (w.heap.size+1) (.loop {rec .ready none with state:= .busy})).heap[w.heap.size+1]? = some (.loop {rec .ready none with state:= .busy}):=World.putObj_heap_same hlt;have hk2:(W.putObj (w.heap.size+1) (.loop {rec .ready none with state:= .busy})).heap[w.heap.size]? = some (.deferred (some [])):=(World.putObj_heap_other (by omega)).trans hk;have hw2:Kp W (W.putObj (w.heap.size+1) (.loop {rec .ready none with state:= .busy})):=hKb _ _ _ _ (by omega) hl;refine wpIn_mono (hbody _ pre x _ (hI.putObj _ hi (by omega) hl rfl) hlen) ?_;have fin:∀ (jump:Option Code) (W3:World),KeepsOthers (W.putObj (w.heap.size+1) (.loop {rec .ready none with state:= .busy})) W3 →
     (Instr.endRound (w.heap.size+1) jump).run P W3 = .ok (.bool jump.isNone) (W3.putObj (w.heap.size+1) (.loop (rec (if jump.isNone then .ready else .done) jump))) ∧
     W3.heap[w.heap.size+1]? = some (.loop {rec .ready none with state:= .busy}) ∧
     (W3.putObj (w.heap.size+1) (.loop (rec (if jump.isNone then .ready else .done) jump))).heap[w.heap.size+1]? = some (.loop (rec (if jump.isNone then .ready else .done) jump)) ∧
     (W3.putObj (w.heap.size+1) (.loop (rec (if jump.isNone then .ready else .done) jump))).heap[w.heap.size]? = some (.deferred (some [])):=fun jump W3 hk3=>by
    have hl3:=hk3.same _ _ hl2 rfl;have:=run_endRound (P:=P) jump hl3;rw [hrec] at this ⊢;exact ⟨this,by rw [hrec] at hl3;exact hl3,World.putObj_heap_same (Array.getElem?_eq_some_iff.1 hl3).1,(World.putObj_heap_other (by omega)).trans (hk3.same _ _ hk2 rfl)⟩
   rintro e a3 W3 hp;cases e with
   | normal=>
    obtain ⟨hk3,hkp3,hi3⟩:=hp;obtain ⟨hr,hl3,hl4,hk4⟩:=fin none W3 hk3;exact ⟨_,_,hr,.inl ⟨rfl,⟨hI.putObj _ hi3 (by omega) hl3 rfl,hl4,hk4⟩,hKt (hKt hw2 hkp3) (hKb _ _ _ _ (by omega) hl3)⟩⟩
   | ret=>
    obtain ⟨hk3,hi3⟩:=hp;obtain ⟨hr,hl3,hl4,hk4⟩:=fin (some .ret) W3 hk3;exact ⟨_,_,hr,.inr ⟨rfl,.ret,(hIx _).putObj _ hi3 (by omega) hl3 rfl,hl4,hk4⟩⟩
   | exit id=>
    obtain ⟨hk3,hi3⟩:=hp;obtain ⟨hr,hl3,hl4,hk4⟩:=fin (some (.exit id)) W3 hk3;exact ⟨_,_,hr,.inr ⟨rfl,.exit id,(hIx _).putObj _ hi3 (by omega) hl3 rfl,hl4,hk4⟩⟩
   | goto t=>
    obtain ⟨hk3,hi3⟩:=hp;obtain ⟨hr,hl3,hl4,hk4⟩:=fin (some (.goto t)) W3 hk3;exact ⟨_,_,hr,.inr ⟨rfl,.goto t,(hIx _).putObj _ hi3 (by omega) hl3 rfl,hl4,hk4⟩⟩
   | panic ch=>exact hp.elim
   | outgrown=>exact hp.elim
  ·rintro e W2 ⟨⟨v,rfl⟩,(⟨hi,hl,hk⟩|⟨pre,hSp,c,hi,hl,hk⟩)⟩
   ·exact ⟨none,_,by have:=run_endLoop (P:=P) hl (by rw [hrec];simp);rw [hrec] at this;exact this,hdone _ (hI.putObj _ hi (by omega) hl rfl) ((World.putObj_heap_other (by omega)).trans hk)⟩
   ·exact ⟨some c,_,by have:=run_endLoop (P:=P) hl (by rw [hrec];simp);rw [hrec] at this;exact this,hstop c pre _ hSp ((hIx c).putObj _ hi (by omega) hl rfl) ((World.putObj_heap_other (by omega)).trans hk)⟩
end Go.Proofs.YtgmppconibklcaaGreatDoor

namespace Go.Proofs.YtgmppconibklcaaGreatDoor
open Go Go.RowKit Go.Shelf
attribute [local go_sem] Oper.semAt_some

def z3x (b:Nat) (A B:World):Prop:=∀ k t v,(k=b∨k=b+1∨k=b+2)→Boxed A k t v→Boxed B k t v
theorem zbq {b:Nat} {A B C:World} (h:z3x b A B) (k:z3x b B C):z3x b A C:=fun j t v hj hv=>k j t v hj (h j t v hj hv)
theorem zbr {b l:Nat} (W:World) (o o':Obj) (hl:b+2<l) (_:W.heap[l]? = some o):z3x b W (W.putObj l o'):=fun j t v hj hv=>
 hv.kept (grownBy_putObj' W l o') (by intro e;injection e;omega)
def mkS (l:List UInt8):ByteArray:=⟨l.toArray⟩
theorem zji (s:ByteArray):mkS s.data.toList=s:=by cases s;simp [mkS]
def z1M (c:UInt8) (s:ByteArray):List ByteArray:=(Od.parts c s.data.toList).map mkS
theorem index_none {l:List UInt8} {c:UInt8} (h:Lib.indexByte l c<0):Od.parts c l=[l]:=by
 have h1:=Lib.indexByte_ge l c;have e:Lib.indexByte l c = -1:=by omega
 refine Od.z8L (fun b hb hbc=>?_);obtain ⟨k,hk,he⟩:=List.mem_iff_getElem.1 hb;exact Lib.indexByte_none e k (by rw [List.getElem?_eq_getElem hk,he,hbc])
theorem zfF {l:List UInt8} {c:UInt8} {o:Nat} (h:Lib.indexByte l c=o):o<l.length∧Od.parts c l=l.take o::Od.parts c (l.drop (o+1)):=by
 obtain ⟨h1,h2⟩:=Lib.indexByte_some h;have hlt:o<l.length:=(List.getElem?_eq_some_iff.1 h1).1;have he:l[o]=c:=(List.getElem?_eq_some_iff.1 h1).2;refine ⟨hlt,?_⟩;have hs:l=l.take o++c::l.drop (o+1):=by
  rw [←he,←List.drop_eq_getElem_cons hlt,List.take_append_drop]
 conv=>lhs;rw [hs]
 refine Od.zb6 (fun x hx hxc=>?_);obtain ⟨k,hk,hke⟩:=List.mem_iff_getElem.1 hx;have hko:k<o:=by rw [List.length_take] at hk;omega
 refine h2 k hko ?_;rw [List.getElem_take] at hke;rw [List.getElem?_eq_getElem (by omega),hke,hxc]
theorem zcB {s:ByteArray} {c:UInt8} (h:Lib.indexByte s.data.toList c<0):z1M c s=[s]:=by
 unfold z1M;rw [index_none h];simp [zji]
theorem zcA {s:ByteArray} {c:UInt8} {o:Nat} (h:Lib.indexByte s.data.toList c=o):o<s.size∧z1M c s=s.extract 0 o::z1M c (s.extract (o+1) s.size):=by
 obtain ⟨h1,h2⟩:=zfF h;refine ⟨h1,?_⟩;unfold z1M;rw [h2,List.map_cons]
 congr 1
 ·show (⟨_⟩:ByteArray)=_;rw [Lib.extract_eq];simp
 ·rw [show (s.extract (o+1) s.size).data.toList=s.data.toList.drop (o+1) by
   rw [Lib.extract_data,List.take_of_length_le (by rw [List.length_drop];exact Nat.le_refl _)]]
def zgw (W:World) (b:Nat):Nat:=match W.cell? ⟨b,0,none⟩ with|some (.string s)=>s.size|_=>0
theorem zaV {W:World} {b t:Nat} {s:ByteArray} (h:Boxed W b t (.string s)):zgw W b=s.size:=by unfold zgw;rw [h.cell]

set_option maxRecDepth 100000 in
set_option maxHeartbeats 2000000 in
theorem zcr (n:Nat) (hn:1≤n) (b:Nat) (c:UInt8) (s:ByteArray) (hs:s.size≤1000000) (w:World) (hb:b+2<w.heap.size)
  (h1:Boxed w b 9 (.string s)) (h2:Boxed w (b+1) 9 (.string ⟨#[c]⟩)) (h3:Boxed w (b+2) 3 (.int .i64 0)):
  zeM Fence.wide n Tryz.prog 284 #[.pointer (some ⟨b+1,0,none⟩),.pointer (some ⟨b,0,none⟩),.pointer (some ⟨b+2,0,none⟩)] (fun x:ByteArray=>#[.string x]) (z3x b) (z1M c s) w b:=by
 intro l J Jx W hW hJ hY h0;have g1:Boxed W b 9 (.string s):=(hW.block b (by omega)).trans h1;have g2:Boxed W (b+1) 9 (.string ⟨#[c]⟩):=(hW.block (b+1) (by omega)).trans h2;have g3:Boxed W (b+2) 3 (.int .i64 0):=(hW.block (b+2) hb).trans h3;refine callsIn_of_wp Tryz.func284 rfl trivial ?_ rfl;simp only [Tryz.ntmps284,List.size_toArray,List.length_cons,List.length_nil,Nat.reduceAdd,Nat.reduceSub,Array.replicate_succ,Array.replicate_zero,List.push_toArray,List.append_toArray,List.nil_append,List.cons_append];have c2:=g2.cell;have HY:=Lib.hid hY;have HJ:=Lib.hid hJ;clear hY hJ h1 h2 h3
 gi_wp2
 gi_loopw [] (fun wr=>∃ (pre:List ByteArray) (r:ByteArray),Boxed wr b 9 (.string r)∧Boxed wr (b+1) 9 (.string ⟨#[c]⟩)∧Boxed wr (b+2) 3 (.int .i64 0)∧Hid (J pre wr∧pre++z1M c r=z1M c s)∧r.size≤1000000) (fun wr=>zgw wr b)
 case atStart=>exact ⟨[],s,g1,g2,g3,⟨h0,rfl⟩,hs⟩
 case round=>
  clear g1 g2 g3 h0 c2;obtain ⟨pre,r,g1,g2,g3,HR,hr⟩:=hrel;have c1:=g1.cell;have c2:=g2.cell;have c3:=g3.cell;have f1:=g1.frozen;have hra:=Lib.hid (zaV g1);have hge:=Lib.indexByte_ge r.data.toList c;obtain ⟨o,ho⟩:∃ o,o=Lib.indexByte r.data.toList c:=⟨_,rfl⟩;have Ho:=Lib.hid ho;rw [←ho] at hge;clear ho;by_cases hneg:o<0
  ·have hp:z1M c r=[r]:=zcB (by rw [←Ho.out];exact hneg);have hpre:pre++[r]=z1M c s:=by rw [←hp];exact HR.out.2
   obtain ⟨fn,tmps,assign,body,hy,hR⟩:=HY.out pre r wr HR.out.1 (by rw [hpre];exact List.prefix_refl _);have HR2:=Lib.hid hR;have Hpre:=Lib.hid hpre;clear hR hpre hp
   gi_wp2_with (refine ⟨trivial,?_⟩;gi_at_call 286;refine (callsIn_wide.2 (Tryz.strings_Index_one _ c _)).mono ?_;rintro e w' ⟨rfl,rfl⟩;rw [←Ho.out])
   refine HR2.out.mono ?_;rintro e W3 (⟨rfl,hJ3,_⟩|⟨rfl,hx3⟩)
   ·gi_wp2
    go_end0
    exact ⟨⟨_,rfl⟩,.inl (by rw [←Hpre.out];exact hJ3)⟩
   ·gi_wp2
    go_end0
    exact ⟨⟨_,rfl⟩,.inr ⟨_,by rw [←Hpre.out];exact List.prefix_refl _,hx3⟩⟩
  ·obtain ⟨j,rfl⟩:=Int.eq_ofNat_of_zero_le (show 0≤o by omega);obtain ⟨hjl,hp⟩:=zcA Ho.out.symm;have hpre:pre++[r.extract 0 j]++z1M c (r.extract (j+1) r.size)=z1M c s:=by rw [←HR.out.2,hp];simp
   obtain ⟨fn,tmps,assign,body,hy,hR⟩:=HY.out pre (r.extract 0 j) wr HR.out.1 ⟨_,hpre⟩;have HR2:=Lib.hid hR;have Hpre:=Lib.hid hpre;clear hR hpre hp
   gi_wp2_with (refine ⟨trivial,?_⟩;gi_at_call 286;refine (callsIn_wide.2 (Tryz.strings_Index_one _ c _)).mono ?_;rintro e w' ⟨rfl,rfl⟩;rw [←Ho.out])
   refine HR2.out.mono ?_;rintro e W3 (⟨rfl,hJ3,hk3⟩|⟨rfl,hx3⟩)
   ·have k1:=hk3 b _ _ (.inl rfl) g1;have k2:=hk3 (b+1) _ _ (.inr (.inl rfl)) g2;have k3:=hk3 (b+2) _ _ (.inr (.inr rfl)) g3;have d1:=k1.cell;have d2:=k2.cell;have d3:=k3.cell;have e1:=k1.frozen;clear c1 c2 c3 f1 g1 g2 g3
    gi_wp2
    have hz:(r.extract (j+1) r.size).size=r.size-(j+1):=by simp
    go_roundw
    case rel=>exact ⟨pre++[r.extract 0 j],r.extract (j+1) r.size,k1.set _,k2.kept (grownBy_setCell' _ _ _) (by simp),k3.kept (grownBy_setCell' _ _ _) (by simp),⟨HJ.out _ _ _ hJ3,Hpre.out⟩,by omega⟩
    case measure=>rw [hra.out,zaV (k1.set _),hz];omega
   ·gi_wp2
    refine bodyPost_ret (results_none rfl _ _ _) rfl ?_;exact ⟨⟨_,rfl⟩,.inr ⟨_,⟨_,Hpre.out⟩,hx3⟩⟩
end Go.Proofs.YtgmppconibklcaaGreatDoor

