/- Part of the proof. No condition. -/
import Derived.Test.YtgmppconibklcaaGreatDoorM22
import Derived.Test.YtgmppconibklcaaGreatDoorM28
set_option maxHeartbeats 40000000
set_option maxRecDepth 100000
set_option linter.unusedVariables false
set_option linter.unusedSimpArgs false
namespace Go.Proofs.YtgmppconibklcaaGreatDoor
open Go Go.RowKit
namespace Am
theorem zaw (k:Rq.Ex) (l:List Rq.Ex):exL (k::l) = .leaf (.string ⟨k.oid.toArray⟩) :: .leaf (.bool k.crit)::z04 k.val::exL l:=by simp [exL,z2W]
@[simp high] theorem evLen_ex (l:List Rq.Ex):z2B Tryz.prog 25 (some (.e (.one (.d (exR l)))))=some l.length:=zcc (e:=87) z3U (by decide) (by simp) l
@[simp high] theorem zk2 (l:List Rq.Ex) (i:Int):z0j Tryz.prog 25 (some (.e (.one (.d (exR l))))) i=if 0≤i∧i.toNat<l.length then some (.ep (exL (l.drop i.toNat))) else none:=z4m z3U (by decide) (e:=87) (by simp) (by simp) l i
@[simp high] theorem loadE_ex (h:Nat→Option O) (k:Rq.Ex) (l:List Rq.Ex):z2n Tryz.prog h 87 (.ep (exL (k::l)))=some (exX k):=by simp [z2n,zaw]
@[simp high] theorem loadE_ex0 (h:Nat→Option O) (k:Rq.Ex) (l:List Rq.Ex):z2n Tryz.prog h 9 (.ep (exL (k::l)))=some (.one (.d (.leaf (.string ⟨k.oid.toArray⟩)))):=by simp [z2n,zaw]
@[simp high] theorem loadE_ex2 (h:Nat→Option O) (k:Rq.Ex) (l:List Rq.Ex):z2n Tryz.prog h 22 (.ep (List.drop 2 (exL (k::l))))=some (.one (.d (z04 k.val))):=by simp [z2n,zaw]
end Am
end Go.Proofs.YtgmppconibklcaaGreatDoor

namespace Go.Proofs.YtgmppconibklcaaGreatDoor
open Go Go.RowKit
namespace Am
def C.stl (h:Nat→Option O) (z:Nat):C→C
 | .sl p n s=>if p=z then setC h (.sl p n s) else .sl p n s
 | c=>c
def E.stl (h:Nat→Option O) (z:Nat):E→E
 | .one c=> .one (c.stl h z)
 | .agg cs=> .agg (cs.map (C.stl h z))
def T.stl (h:Nat→Option O) (z:Nat):T→T
 | .e x=> .e (x.stl h z)
 | .tup xs=> .tup (xs.map (E.stl h z))
 | .undef=> .undef
def O.stl (h:Nat→Option O) (z:Nat):O→O
 | .var ty cs=> .var ty (cs.map (C.stl h z))
 | o=>o
def z4P (z:Nat) (s:SF):SF:=⟨fun k=>(s.env k).map (T.stl s.heap z),fun p=>if p=z then none else (s.heap p).map (O.stl s.heap z)⟩
section
variable {P:Program} {gl:Nat→Option (List D)} {tb:World→Prop} {sz:Nat}
theorem zgd {c:Ctx} {z:Nat} {s:SF} {a:Act} {w:World} (hR:Rel c sz s a w):Rel c sz (z4P z s) a w:=by
 obtain ⟨hd,hsz,G,he,hI⟩:=hR;obtain ⟨im',hext,hI1,hset⟩:=hI.settle [z];have hC:∀ (v:Value) (cc:C),RC G v cc→RC ⟨im',G.loc⟩ v (cc.stl s.heap z):=fun v cc hr=>by
  cases cc with
  | sl p n sz' =>
   simp only [C.stl];split
   ·rename_i hp;exact zd1 hI hext hset (fun p' n' s' e=>by injection e with e1;rw [←e1,hp];simp) hr
   ·exact RC.mono hr hext rfl
  | _=>exact RC.mono hr hext rfl
 have hCs:∀ (us:List Value) (cs:List C),RCs G us cs→RCs ⟨im',G.loc⟩ us (cs.map (C.stl s.heap z)):=fun us cs h=>h.map fun u cc hr=>hC u cc hr
 have hE:∀ (v:Value) (x:E),RE G v x→RE ⟨im',G.loc⟩ v (x.stl s.heap z):=fun v x hr=>by
  cases x with
  | one cc=>exact hC v cc hr
  | agg cs=>obtain ⟨us,rfl,h⟩:=hr;exact ⟨us,rfl,hCs _ _ h⟩
 have hT:∀ (v:Value) (t:T),RT G v t→RT ⟨im',G.loc⟩ v (t.stl s.heap z):=fun v t hr=>by
  cases t with
  | e x=>exact hE v x hr
  | tup xs=>obtain ⟨vs,rfl,h⟩:=hr;exact ⟨vs,rfl,h.map fun u x hx=>hE u x hx⟩
  | undef=>exact hr
 refine ⟨hd,hsz,⟨im',G.loc⟩,fun k t hk=>?_,⟨hI1.tb,hI1.base,hI1.chb,hI1.below,hI1.imw,hI1.imx,hI1.imo,hI1.pas,hI1.glob,fun p o hp=>?_,fun p q o o' b hp hq=>?_⟩⟩
 ·simp only [z4P] at hk;cases hl:s.env k with
  | none=>rw [hl] at hk;cases hk
  | some t0=>
   rw [hl] at hk;simp at hk;subst hk;obtain ⟨v,h1,h2⟩:=he k t0 hl;exact ⟨v,h1,hT v t0 h2⟩
 ·simp only [z4P] at hp;split at hp
  ·cases hp
  ·rename_i hz;cases hl:s.heap p with
   | none=>rw [hl] at hp;cases hp
   | some o0=>
    rw [hl] at hp;simp at hp;subst hp;have hr:=hI1.obj p o0 (by simp [hz,hl]);cases o0 with
    | var ty cs=>
     obtain ⟨b,us,e1,e2,e3,e4,e5⟩:=hr;obtain ⟨b',us',f1,_,f3,f4,_⟩:=hI.obj p _ hl;have e1':G.loc p=some (.pointer (some ⟨b,0,none⟩)):=e1;rw [e1'] at f1;simp at f1;subst f1;have hus:us=us':=by
      have h1:=e3;have h2:=f3;unfold Blk at h1 h2;rw [h1] at h2;injection h2 with h2;injection h2
     subst hus;exact ⟨b,us,e1,e2,e3,hCs _ _ f4,e5⟩
    | own e s' n=>exact hr
 ·have key:∀ p o,(z4P z s).heap p=some o→∃ o0,(fun p=>if p∈[z] then none else s.heap p) p=some o0:=fun p o hp=>by
   simp only [z4P] at hp;split at hp
   ·cases hp
   ·rename_i hz;cases hl:s.heap p with
    | none=>rw [hl] at hp;cases hp
    | some o0=>exact ⟨o0,by simp [hz,hl]⟩
  obtain ⟨o1,h1⟩:=key p o hp;obtain ⟨o2,h2⟩:=key q o' hq;exact hI1.sep p q o1 o2 b h1 h2
theorem z5Q (z:Nat) {cd:Code} {Q:Ex→SF→Prop} {s:SF} (h:WpC P gl tb sz cd Q (z4P z s)):WpC P gl tb sz cd Q s:=fun c h1 h2 a w hR=>h c h1 h2 a w (zgd hR)
def UnrK (P:Program) (gl:Nat→Option (List D)) (tb:World→Prop) (sz:Nat) (b:Code) (Q:Ex→SF→Prop):Ex→SF→Prop:=fun e s=>
 match e with
 | .normal=>WpC P gl tb sz (.loop b) Q s
 | e=>Q e s
theorem z6O {b:Code} {Q:Ex→SF→Prop} {s:SF} (h:WpC P gl tb sz b (zjX (fun _ _=>False) 0 Q) s):WpC P gl tb sz (.loop b) Q s:=fun c h1 h2 a w hR=>by
 refine wp_loop_once (Code.wp_mono ?_ (h c h1 h2 a w hR));rintro e' a' w' ⟨e,s1,rfl,hQ,hR1⟩;cases e with
 | normal=>obtain ⟨_,_,hf⟩:=hQ;exact hf.elim
 | exit id=>exact ⟨.exit id,s1,rfl,hQ,hR1⟩
 | ret=>exact ⟨.ret,s1,rfl,hQ,hR1⟩
end
attribute [simp] z4P C.stl E.stl T.stl O.stl
end Am
end Go.Proofs.YtgmppconibklcaaGreatDoor

