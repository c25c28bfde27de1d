/- Part of the proof. No condition. -/
import Derived.Test.YtgmppconibklcaaGreatDoorM4
import Derived.LoopN
set_option maxHeartbeats 40000000
set_option maxRecDepth 100000
set_option linter.unusedVariables false
set_option linter.unusedSimpArgs false
namespace Go.Proofs.YtgmppconibklcaaGreatDoor
open Go Go.RowKit
namespace Am
def Like (s s':S):Prop:=look s.env=look s'.env∧look s.heap=look s'.heap
theorem Like.refl (s:S):Like s s:=⟨rfl,rfl⟩
theorem Like.symm {s s':S} (h:Like s s'):Like s' s:=⟨h.1.symm,h.2.symm⟩
theorem Like.trans {a b c:S} (h:Like a b) (k:Like b c):Like a c:=⟨h.1.trans k.1,h.2.trans k.2⟩
def upAt (p:Nat):List (Nat×Option O)→Option (Option O)
 | []=>none
 | u::us=>match upAt p us with
  | some o=>some o
  | none=>if p=u.1 then some u.2 else none
theorem zj4 (us:List (Nat×Option O)) (h:Objs) (p:Nat):us.foldl hSet h p=(upAt p us).getD (h p):=by
 induction us generalizing h with
 | nil=>rfl
 | cons u us ih=>
  rw [List.foldl_cons,ih,upAt];cases upAt p us with
  | some o=>rfl
  | none=>
   simp only [hSet,Option.getD_none];split<;>rfl
theorem z7i {p:Nat} {us:List (Nat×Option O)} (h:p∉us.map (·.1)):upAt p us=none:=by
 induction us with
 | nil=>rfl
 | cons u us ih=>
  simp only [List.map_cons,List.mem_cons,not_or] at h;rw [upAt,ih h.2,if_neg h.1]
theorem ze3 {p:Nat} {us:List (Nat×Option O)} {o:Option O} (h:upAt p us=some o):(p,o)∈us:=by
 induction us with
 | nil=>cases h
 | cons u us ih=>
  rw [upAt] at h;cases hu:upAt p us with
  | some o'=>rw [hu] at h;injection h with h;subst h;exact List.mem_cons_of_mem _ (ih hu)
  | none=>
   rw [hu] at h;simp only at h;split at h
   ·rename_i hp;injection h with h;subst h;subst hp;exact List.mem_cons_self
   ·cases h
theorem hUp_at (e:Eff) (h:Objs) (p:Nat):hUp e h p=(upAt p e.ups).getD ((h p).map (O.kill e.kills)):=zj4 _ _ _
theorem Log.z4k {ks:List Nat} {g:Log} (h:g.men ks=false):ks=[]∨(g.vals.any (T.men ks)=false∧g.objs.any (O.men ks)=false∧g.eff.t.men ks=false∧g.eff.ups.any (z5S ks)=false):=by
 cases ks with
 | nil=>exact .inl rfl
 | cons k ks=>
  simp only [Log.men,Bool.or_eq_false_iff] at h;exact .inr ⟨h.1.1.1,h.1.1.2,h.1.2,h.2⟩
theorem z7Q {a b:List Nat} (h:meet a b=false) {x:Nat} (hx:x∈a):x∉b:=by
 unfold meet at h;rw [List.any_eq_false] at h;simpa using h x hx
section
variable {P:Program} {gl:Nat→Option (List D)} {X:z1C} {sz:Nat} {ops:Array Oper}
inductive Did (P:Program) (gl:Nat→Option (List D)) (X:z1C) (sz:Nat) (ops:Array Oper) (o:Oper) (s:S):S→Log→Prop
 | yes (e:Eff) (hg:gdOf ops o (look s.env)=some true) (hf:fits sz o.dst=true) (he:ev P X (nm o.dst) o.op (valOf gl (look s.env)) (look s.heap)=some e):Did P gl X sz ops o s (apply e o.dst s) (z4l gl o s e)
 | no (hg:gdOf ops o (look s.env)=some false) (hf:fits sz o.dst=true):Did P gl X sz ops o s ⟨putE o.dst .undef s.env,s.heap⟩ ⟨[],[],[],⟨.undef,[],[]⟩⟩
theorem znP {o:Oper} {s s1:S} {g:Log}:z4F P gl X sz ops o s=some (s1,g)↔Did P gl X sz ops o s s1 g:=by
 constructor
 ·intro h;unfold z4F at h;cases hg:gdOf ops o (look s.env) with
  | none=>rw [hg] at h;cases h
  | some b=>
   rw [hg] at h;cases b with
   | true=>
    simp only at h;split at h
    ·rename_i hf;cases he:ev P X (nm o.dst) o.op (valOf gl (look s.env)) (look s.heap) with
     | none=>rw [he] at h;cases h
     | some e=>
      rw [he] at h;simp only [Option.some.injEq,Prod.mk.injEq] at h;obtain ⟨rfl,rfl⟩:=h;exact .yes e hg hf he
    ·cases h
   | false=>
    simp only at h;split at h
    ·rename_i hf;simp only [Option.some.injEq,Prod.mk.injEq] at h;obtain ⟨rfl,rfl⟩:=h;exact .no hg hf
    ·cases h
 ·intro h;cases h with
  | yes e hg hf he=>unfold z4F;rw [hg];simp only [hf,if_true,he]
  | no hg hf=>unfold z4F;rw [hg];simp only [hf,if_true]
theorem zls {o:Oper} {s s1:S} {g:Log} (h:Did P gl X sz ops o s s1 g):zcW P gl X sz ops o s=some s1:=by
 cases h with
 | yes e hg hf he=>unfold zcW;rw [hg];simp only [hf,if_true,he,Option.map_some]
 | no hg hf=>unfold zcW;rw [hg];simp only [hf,if_true]
theorem z3o {o:Oper} {s s1:S} {g:Log} (h:Did P gl X sz ops o s s1 g) (k:Nat):look s1.env k=if o.dst=some k then some g.eff.t else (look s.env k).map (T.kill g.eff.kills):=by
 cases h with
 | yes e hg hf he=>exact zcE e o.dst s k
 | no hg hf=>
  rw [z71];split
  ·rfl
  ·cases look s.env k with
   | none=>rfl
   | some t=>simp [T.z0I]
theorem z3g {o:Oper} {s s1:S} {g:Log} (h:Did P gl X sz ops o s s1 g) (p:Nat):look s1.heap p=(upAt p g.eff.ups).getD ((look s.heap p).map (O.kill g.eff.kills)):=by
 cases h with
 | yes e hg hf he=>rw [z9J];exact hUp_at e _ p
 | no hg hf=>
  show look s.heap p=(look s.heap p).map (O.kill []);cases look s.heap p with
  | none=>rfl
  | some t=>simp [O.z0I]
theorem z1v {α β:Type} {f g:α→Option β}:∀ {l:List α},(∀ x∈l,f x=g x)→l.filterMap f=l.filterMap g
 | [],_=>rfl
 | a::l,h=>by rw [List.filterMap_cons,List.filterMap_cons,h a (by simp),z1v (fun x hx=>h x (by simp [hx]))]
theorem zaA {o:Oper} {s s1 s':S} {g:Log} (h:Did P gl X sz ops o s s1 g) (hgd:gdOf ops o (look s'.env)=gdOf ops o (look s.env)) (hval:g.rd=g.rd→(gdOf ops o (look s.env)=some true→∀ x∈o.op.operands,valOf gl (look s'.env) x=valOf gl (look s.env) x)) (hp:∀ p∈g.rd,look s'.heap p=look s.heap p):∃ s1',Did P gl X sz ops o s' s1' g:=by
 cases h with
 | yes e hg hf he=>
  have hval:=hval rfl hg;have hp:∀ p∈rdOf o.op (valOf gl (look s.env)),look s'.heap p=look s.heap p:=hp;have hrd:rdOf o.op (valOf gl (look s'.env))=rdOf o.op (valOf gl (look s.env)):=zge hval;have he':ev P X (nm o.dst) o.op (valOf gl (look s'.env)) (look s'.heap)=some e:=by
   rw [zlm hval (fun p hpp=>hp p (by rw [hrd] at hpp;exact hpp))];exact he
  have hlog:z4l gl o s' e=z4l gl o s e:=by
   unfold z4l;rw [hrd,z1v (f:=valOf gl (look s'.env)) (g:=valOf gl (look s.env)) (fun x hx=>hval x (by simpa using hx)),z1v (f:=look s'.heap) (g:=look s.heap) hp]
  exact ⟨_,hlog▸Did.yes e (hgd.trans hg) hf he'⟩
 | no hg hf=>exact ⟨_,.no (hgd.trans hg) hf⟩
theorem zlt {o:Oper} {s s1 s' s1':S} {g:Log} (h:Did P gl X sz ops o s s1 g) (h':Did P gl X sz ops o s' s1' g) (hl:Like s s'):Like s1 s1':=by
 refine ⟨funext fun k=>?_,funext fun p=>?_⟩
 ·rw [z3o h,z3o h',hl.1]
 ·rw [z3g h,z3g h',hl.2]
theorem zlr {oj oi:Oper} {s sa sb:S} {gj gi:Log} (hj:Did P gl X sz ops oj s sa gj) (hi:Did P gl X sz ops oi sa sb gi) (hap:oj.apart ops oi=true) (hno:z2l gj gi=true):
  ∃ sa' sb',Did P gl X sz ops oi s sa' gi∧Did P gl X sz ops oj sa' sb' gj∧Like sb sb':=by
 obtain ⟨a1,a2,a3⟩:=Oper.apart_spec hap;unfold z2l at hno;simp only [Bool.and_eq_true,Bool.not_eq_true'] at hno;obtain ⟨⟨⟨⟨n1,n2⟩,n3⟩,n4⟩,n5⟩:=hno
 -- what i looks at, ahead of j
 have hgd:gdOf ops oi (look s.env)=gdOf ops oi (look sa.env):=by
  unfold gdOf;cases hg:oi.guard with
  | none=>rfl
  | some jw=>
   obtain ⟨k,want⟩:=jw;simp only;cases hd:(ops[k]?).bind (·.dst) with
   | none=>rfl
   | some d=>
    have hne:oj.dst≠some d:=fun e=>a1 d e (by unfold Oper.looksAt;simp [hg,hd])
    have hl:=z3o hj d;rw [if_neg hne] at hl;simp only
    -- the guard's value is known behind j
    have hknown:∃ b,gdOf ops oi (look sa.env)=some b:=by cases hi with|yes e hg' _ _=>exact ⟨_,hg'⟩|no hg' _=>exact ⟨_,hg'⟩
    obtain ⟨b,hb⟩:=hknown;unfold gdOf at hb;rw [hg] at hb;simp only [hd] at hb;cases hs:look s.env d with
    | none=>rw [hs] at hl;rw [hl];rfl
    | some t=>
     rw [hs] at hl;simp only [Option.map_some] at hl;rw [hl] at hb ⊢;have ht:T.kill gj.eff.kills t=t:=by
      cases t with
      | undef=>rfl
      | tup xs=>simp [T.kill] at hb
      | e x=>
       cases x with
       | agg cs=>simp [T.kill,E.kill] at hb
       | one cc=>
        cases cc with
        | gr q s l=>
         by_cases hq:q∈gj.eff.kills
         ·simp [T.kill,E.kill,C.kill,hq] at hb
         ·simp [T.kill,E.kill,C.kill,hq]
        | ref p o=>
         by_cases hq:p∈gj.eff.kills
         ·simp [T.kill,E.kill,C.kill,hq] at hb
         ·simp [T.kill,E.kill,C.kill,hq]
        | sl p n s=>
         by_cases hq:p∈gj.eff.kills
         ·simp [T.kill,E.kill,C.kill,hq] at hb
         ·simp [T.kill,E.kill,C.kill,hq]
        | _=>rfl
     rw [ht]
 -- what it looks at
 have vals_of:gdOf ops oi (look sa.env)=some true→∀ x∈oi.op.operands,∀ t,valOf gl (look sa.env) x=some t→t∈gi.vals:=by
  intro htrue x hx t hxt;cases hi with
  | yes e _ _ _=>exact List.mem_filterMap.2 ⟨x,by simpa using hx,hxt⟩
  | no hg' _=>rw [hg'] at htrue;cases htrue
 have hvi:gdOf ops oi (look sa.env)=some true→∀ x∈oi.op.operands,valOf gl (look s.env) x=valOf gl (look sa.env) x:=by
  intro htrue x hx;cases x with
  | tmp k=>
   have hne:oj.dst≠some k:=fun e=>a1 k e (by unfold Oper.looksAt;exact List.mem_append_left _ (List.mem_filterMap.2 ⟨.tmp k,by simpa using hx,rfl⟩))
   have hl:=z3o hj k;rw [if_neg hne] at hl;show look s.env k=look sa.env k;cases hs:look s.env k with
   | none=>rw [hl,hs];rfl
   | some t0=>
    rw [hs] at hl;simp only [Option.map_some] at hl;rw [hl];rcases Log.z4k n4 with h0|⟨h1,_⟩
    ·rw [h0,T.z0I]
    ·rw [List.any_eq_false] at h1;have:=h1 _ (vals_of htrue (.tmp k) hx _ hl);rw [T.z19 (by simpa using this)]
  | _=>rfl
 have objs_of:∀ p∈gi.rd,∀ o,look sa.heap p=some o→o∈gi.objs:=by
  intro p hp o ho;cases hi with
  | yes e _ _ _=>exact List.mem_filterMap.2 ⟨p,hp,ho⟩
  | no hg' _=>cases hp
 have hpi:∀ p∈gi.rd,look s.heap p=look sa.heap p:=by
  intro p hp;have hne:p∉gj.eff.ups.map (·.1):=fun h=>z7Q n1 h hp
  have hl:=z3g hj p;rw [z7i hne,Option.getD_none] at hl;cases hs:look s.heap p with
  | none=>rw [hl,hs];rfl
  | some o0=>
   rw [hs] at hl;simp only [Option.map_some] at hl;rw [hl];rcases Log.z4k n4 with h0|⟨_,h1,_⟩
   ·rw [h0,O.z0I]
   ·rw [List.any_eq_false] at h1;have:=h1 _ (objs_of p hp _ hl);rw [O.z19 (by simpa using this)]
 obtain ⟨sa',hi'⟩:=zaA hi hgd (fun _=>hvi) hpi
 -- then j, behind i
 have valj_of:gdOf ops oj (look s.env)=some true→∀ x∈oj.op.operands,∀ t,valOf gl (look s.env) x=some t→t∈gj.vals:=by
  intro htrue x hx t hxt;cases hj with
  | yes e _ _ _=>exact List.mem_filterMap.2 ⟨x,by simpa using hx,hxt⟩
  | no hg' _=>rw [hg'] at htrue;cases htrue
 have hgdj:gdOf ops oj (look sa'.env)=gdOf ops oj (look s.env):=by
  unfold gdOf;cases hg:oj.guard with
  | none=>rfl
  | some jw=>
   obtain ⟨k,want⟩:=jw;simp only;cases hd:(ops[k]?).bind (·.dst) with
   | none=>rfl
   | some d=>
    have hne:oi.dst≠some d:=fun e=>a3 d e (by unfold Oper.looksAt;simp [hg,hd])
    have hl:=z3o hi' d;rw [if_neg hne] at hl;simp only;have hknown:∃ b,gdOf ops oj (look s.env)=some b:=by cases hj with|yes e hg' _ _=>exact ⟨_,hg'⟩|no hg' _=>exact ⟨_,hg'⟩
    obtain ⟨b,hb⟩:=hknown;unfold gdOf at hb;rw [hg] at hb;simp only [hd] at hb;rw [hl];cases hs:look s.env d with
    | none=>rfl
    | some t=>
     rw [hs] at hb;simp only [Option.map_some];have ht:T.kill gi.eff.kills t=t:=by
      cases t with
      | undef=>rfl
      | tup xs=>simp at hb
      | e x=>
       cases x with
       | agg cs=>simp at hb
       | one cc=>
        cases cc with
        | gr q s l=>simp at hb
        | ref p o=>simp at hb
        | sl p n s=>simp at hb
        | _=>rfl
     rw [ht]
 have hvj:gdOf ops oj (look s.env)=some true→∀ x∈oj.op.operands,valOf gl (look sa'.env) x=valOf gl (look s.env) x:=by
  intro htrue x hx;cases x with
  | tmp k=>
   have hne:oi.dst≠some k:=fun e=>a3 k e (by unfold Oper.looksAt;exact List.mem_append_left _ (List.mem_filterMap.2 ⟨.tmp k,by simpa using hx,rfl⟩))
   have hl:=z3o hi' k;rw [if_neg hne] at hl;show look sa'.env k=look s.env k;rw [hl];cases hs:look s.env k with
   | none=>rfl
   | some t0=>
    simp only [Option.map_some];rcases Log.z4k n5 with h0|⟨h1,_⟩
    ·rw [h0,T.z0I]
    ·rw [List.any_eq_false] at h1;have:=h1 _ (valj_of htrue (.tmp k) hx _ hs);rw [T.z1c (by simpa using this)]
  | _=>rfl
 have hpj:∀ p∈gj.rd,look sa'.heap p=look s.heap p:=by
  intro p hp;have hne:p∉gi.eff.ups.map (·.1):=fun h=>z7Q n3 h hp
  have hl:=z3g hi' p;rw [z7i hne,Option.getD_none] at hl;rw [hl];cases hs:look s.heap p with
  | none=>rfl
  | some o0=>
   simp only [Option.map_some];rcases Log.z4k n5 with h0|⟨_,h1,_⟩
   ·rw [h0,O.z0I]
   ·rw [List.any_eq_false] at h1;have hmem:o0∈gj.objs:=by
     cases hj with
     | yes e _ _ _=>exact List.mem_filterMap.2 ⟨p,hp,hs⟩
     | no hg' _=>cases hp
    have:=h1 _ hmem;rw [O.z1c (by simpa using this)]
 obtain ⟨sb',hj'⟩:=zaA hj hgdj (fun _=>hvj) hpj;refine ⟨sa',sb',hi',hj',funext fun k=>?_,funext fun p=>?_⟩
 ·rw [z3o hi,z3o hj',z3o hj,z3o hi'];by_cases e1:oi.dst=some k<;>by_cases e2:oj.dst=some k
  ·exact absurd e1 (a2 k e2)
  ·rw [if_pos e1,if_neg e2,if_pos e1,Option.map_some];rcases Log.z4k n4 with h0|⟨_,_,h1,_⟩
   ·rw [h0,T.z0I]
   ·rw [T.z1c h1]
  ·rw [if_neg e1,if_pos e2,if_pos e2,Option.map_some];rcases Log.z4k n5 with h0|⟨_,_,h1,_⟩
   ·rw [h0,T.z0I]
   ·rw [T.z1c h1]
  ·rw [if_neg e1,if_neg e2,if_neg e2,if_neg e1];cases look s.env k with
   | none=>rfl
   | some t=>simp only [Option.map_some];rw [T.z1A]
 ·rw [z3g hi,z3g hj',z3g hj,z3g hi'];have keep:∀ (ks:List Nat) (us:List (Nat×Option O)) (o:Option O),us.any (z5S ks)=false→upAt p us=some o→o.map (O.kill ks)=o:=by
   intro ks us o h1 h2;rw [List.any_eq_false] at h1;have:=h1 _ (ze3 h2);cases o with
   | none=>rfl
   | some o=>simp only [Option.map_some];rw [O.z1c (by simpa [z5S] using this)]
  have mapnil:∀ o:Option O,o.map (O.kill [])=o:=fun o=>by cases o<;>simp [O.z0I]
  cases u1:upAt p gi.eff.ups with
  | some o1=>
   have hni:p∉gj.eff.ups.map (·.1):=fun h=>z7Q n2 h (List.mem_map.2 ⟨_,ze3 u1,rfl⟩)
   rw [z7i hni];simp only [Option.getD_some,Option.getD_none];rcases Log.z4k n4 with h0|⟨_,_,_,h1⟩
   ·rw [h0,mapnil]
   ·rw [keep _ _ _ h1 u1]
  | none=>
   simp only [Option.getD_none];cases u2:upAt p gj.eff.ups with
   | some o2=>
    simp only [Option.getD_some];rcases Log.z4k n5 with h0|⟨_,_,_,h1⟩
    ·rw [h0,mapnil]
    ·rw [keep _ _ _ h1 u2]
   | none=>
    simp only [Option.getD_none];cases look s.heap p with
    | none=>rfl
    | some o=>simp only [Option.map_some];rw [O.z1A]
end
end Am
end Go.Proofs.YtgmppconibklcaaGreatDoor

namespace Go.Proofs.YtgmppconibklcaaGreatDoor
open Go Go.RowKit
namespace Am
def zbS (acc:List Nat) (o:Oper):Nat:=o.after.toList.foldl (fun s e=>if Region.binds .any e then s|||2^e.on|||acc.getD e.on 0 else s) 0
theorem zbR {acc:List Nat}:∀ (es:List Edge) (s j:Nat),(es.foldl (fun s e=>if Region.binds .any e then s|||2^e.on|||acc.getD e.on 0 else s) s).testBit j=true→s.testBit j=true∨∃ e∈es,Region.binds .any e=true∧(e.on=j∨(acc.getD e.on 0).testBit j=true)
 | [],s,j,h=> .inl h
 | e::es,s,j,h=>by
  rw [List.foldl_cons] at h;rcases zbR es _ j h with h|⟨e',he,h1,h2⟩
  ·by_cases hb:Region.binds .any e=true
   ·rw [if_pos hb] at h;simp only [Nat.testBit_or,Bool.or_eq_true] at h;rcases h with (h|h)|h
    ·exact .inl h
    ·refine .inr ⟨e,by simp,hb,.inl ?_⟩;rw [Nat.testBit_two_pow] at h;simpa using h
    ·exact .inr ⟨e,by simp,hb,.inr h⟩
   ·rw [if_neg hb] at h;exact .inl h
  ·exact .inr ⟨e',List.mem_cons_of_mem _ he,h1,h2⟩
theorem z9K:∀ (l:List Oper) (acc:List Nat),(z8C l acc).take acc.length=acc∧∀ k o,l[k]? = some o→(z8C l acc)[acc.length+k]? = some (zbS ((z8C l acc).take (acc.length+k)) o)
 | [],acc=>⟨by simp [z8C],fun k o h=>by simp at h⟩
 | o::r,acc=>by
  have ih:=z9K r (acc++[zbS acc o]);have hg:z8C (o::r) acc=z8C r (acc++[zbS acc o]):=rfl;rw [hg];obtain ⟨h1,h2⟩:=ih;simp only [List.length_append,List.length_singleton] at h1 h2;have ht:(z8C r (acc++[zbS acc o])).take acc.length=acc:=by
   have:=congrArg (List.take acc.length) h1;rw [List.take_take,Nat.min_eq_left (by omega),List.take_left] at this;exact this
  refine ⟨ht,fun k o' hk=>?_⟩;cases k with
  | zero=>
   simp at hk;subst hk;rw [Nat.add_zero,ht];have:=congrArg (fun l=>l[acc.length]?) h1;simp only [List.getElem?_take,if_pos (Nat.lt_succ_self _)] at this;rw [this];simp
  | succ k=>
   have:=h2 k o' (by simpa using hk);rw [show acc.length+1+k=acc.length+(k+1) by omega] at this;exact this
theorem z9L {ops:Array Oper} {i j:Nat} {o:Oper} (ho:ops[i]? = some o) (hedge:∀ e∈o.after,Region.binds .any e=true→e.on<i) (h:ahead (ancs ops) j i=true):∃ e∈o.after,Region.binds .any e=true∧(e.on=j∨ahead (ancs ops) j e.on=true):=by
 unfold ahead at h;have hs:=(z9K ops.toList []).2 i o (by rw [Array.getElem?_toList];exact ho);simp only [List.length_nil,Nat.zero_add] at hs;have hd:(ancs ops).getD i 0=zbS ((ancs ops).take i) o:=by
  rw [List.getD_eq_getElem?_getD];show ((z8C ops.toList [])[i]?).getD 0=_;rw [hs];rfl
 rw [hd] at h;rcases zbR _ _ j h with h|⟨e,he,h1,h2⟩
 ·simp at h
 ·refine ⟨e,by simpa using he,h1,?_⟩;rcases h2 with h2|h2
  ·exact .inl h2
  ·right;unfold ahead;have hlt:=hedge e (by simpa using he) h1;rw [List.getD_eq_getElem?_getD,List.getElem?_take,if_pos hlt] at h2;rw [List.getD_eq_getElem?_getD];exact h2
section
variable {P:Program} {c:Ctx} {X:z1C} {sz:Nat} {ops:Array Oper}
inductive Runs (P:Program) (gl:Nat→Option (List D)) (X:z1C) (sz:Nat) (ops:Array Oper):S→List (Nat×Log)→S→Prop
 | nil {s s':S} (h:Like s s'):Runs P gl X sz ops s [] s'
 | cons {s s1 s':S} {i:Nat} {o:Oper} {g:Log} {r:List (Nat×Log)} (ho:ops[i]? = some o) (hd:Did P gl X sz ops o s s1 g) (hr:Runs P gl X sz ops s1 r s'):Runs P gl X sz ops s ((i,g)::r) s'
def Pair (ops:Array Oper) (a b:Nat×Log):Prop:=ahead (ancs ops) a.1 b.1=true∨(z2l a.2 b.2=true∧∀ oa ob,ops[a.1]? = some oa→ops[b.1]? = some ob→oa.apart ops ob=true)
theorem zbo {gl:Nat→Option (List D)} {s t s':S} {r:List (Nat×Log)} (hl:Like s t) (h:Runs P gl X sz ops s r s'):Runs P gl X sz ops t r s':=by
 cases h with
 | nil h=>exact .nil (hl.symm.trans h)
 | cons ho hd hr=>
  obtain ⟨t1,ht1⟩:=zaA (s':=t) hd (by rw [hl.1]) (fun _ _ x _=>by rw [hl.1]) (fun p _=>by rw [hl.2]);exact .cons ho ht1 (zbo (zlt hd ht1 hl) hr)
theorem z8T {gl:Nat→Option (List D)} {i:Nat} {g:Log} {L2:List (Nat×Log)}:∀ {L1:List (Nat×Log)} {s s':S},Runs P gl X sz ops s (L1++(i,g)::L2) s'→(∀ b∈L1,z2l b.2 g=true∧∀ ob oi,ops[b.1]? = some ob→ops[i]? = some oi→ob.apart ops oi=true)→Runs P gl X sz ops s ((i,g)::(L1++L2)) s'
 | [],s,s',h,_=>h
 | (j,gj)::L1,s,s',h,hb=>by
  cases h with
  | cons hoj hdj hr=>
   have ih:=z8T hr (fun b hbm=>hb b (List.mem_cons_of_mem _ hbm));cases ih with
   | cons hoi hdi hr2=>
    obtain ⟨h1,h2⟩:=hb (j,gj) (by simp);obtain ⟨sa',sb',hi',hj',hlike⟩:=zlr hdj hdi (h2 _ _ hoj hoi) h1;exact .cons hoi hi' (.cons hoj hj' (zbo hlike hr2))
theorem zkl {s s1:S} {a:Act} {w:World} {i:Nat} {o:Oper} {g:Log} {K:Act→World→Prop} {Q:Exit→Act→World→Prop} (hN:z14 P) (hX:z1e P c.gl c.tb X) (ho:ops[i]? = some o) (hd:Did P c.gl X sz ops o s s1 g) (hR:RelS c sz s a w) (hK:∀ a w,RelS c sz s1 a w→K a w):wpOp P ops Q i K a w:=by
 unfold wpOp;simp only [ho];have:=z8O (Q:=Q) hN hX (zls hd) hR hK;split
 ·rename_i hw;rw [if_pos hw] at this;exact .inl this
 ·rename_i hw;rw [if_neg hw] at this;exact this
theorem zem {s s':S} {a:Act} {w:World} (hl:Like s s') (hR:RelS c sz s a w):RelS c sz s' a w:=by
 obtain ⟨h1,h2,G,h3,h4⟩:=hR;exact ⟨h1,h2,G,by rw [←hl.1];exact h3,by rw [←hl.2];exact h4⟩
theorem zjO {Q:Exit→Act→World→Prop} {s':S} (hN:z14 P) (hX:z1e P c.gl c.tb X) (hedge:∀ i o,ops[i]? = some o→∀ e∈o.after,Region.binds .any e=true→e.on<i) (hQ:∀ a w,RelS c sz s' a w→Q .normal a w):
  ∀ (fuel:Nat) (listed:Array Bool) (RL:List (Nat×Log)) (s:S) (a:Act) (w:World),RL.length≤fuel→listed.size=ops.size→(∀ i,i<ops.size→(listed.getD i true=false↔i∈RL.map (·.1)))→(RL.map (·.1)).Pairwise (·<·) →
   (∀ i o,ops[i]? = some o→listed.getD i true=true→∀ e∈o.after,Region.binds .any e=true→listed.getD e.on false=true) →
   RL.Pairwise (Pair ops)→Runs P c.gl X sz ops s RL s'→RelS c sz s a w→wpAny P .any ops Q fuel listed a w:=by
 intro fuel;induction fuel with
 | zero=>
  intro listed RL s a w hf hls hl hord hdown hpair hr hR;have:RL=[]:=List.eq_nil_of_length_eq_zero (by omega);subst this;cases hr with
  | nil hlike=>
   refine wpAny_done ?_ (hQ a w (zem hlike hR)) 0;refine List.eq_nil_iff_forall_not_mem.2 fun i hi=>?_
   obtain ⟨h1,o,ho,_⟩:=mem_ready.1 hi;have:=(hl i (Array.getElem?_eq_some_iff.1 ho).1).1 h1;simp at this
 | succ fuel ih=>
  intro listed RL s a w hf hls hl hord hdown hpair hr hR;have ready_mem:∀ i∈Region.ready .any ops listed,i∈RL.map (·.1):=by
   intro i hi;obtain ⟨h1,o,ho,_⟩:=mem_ready.1 hi;exact (hl i (Array.getElem?_eq_some_iff.1 ho).1).1 h1
  refine ⟨fun h0=>?_,fun i hi=>?_⟩
  ·-- nothing is ready: nothing is left
   cases hr with
   | nil hlike=>exact hQ a w (zem hlike hR)
   | @cons _ s1 _ i o g r ho hd hr2=>
    exfalso;have hilt:=(Array.getElem?_eq_some_iff.1 ho).1;have hready:i∈Region.ready .any ops listed:=by
     refine mem_ready.2 ⟨(hl i hilt).2 (by simp),o,ho,fun e he hb=>?_⟩;have hlt:=hedge i o ho e he hb;have hnot:e.on∉((i,g)::r).map (·.1):=by
      intro hm;simp only [List.map_cons,List.mem_cons] at hm;rcases hm with hm|hm
      ·omega
      ·have h9:i<e.on:=(List.pairwise_cons.1 hord).1 _ hm;omega
     have hne:¬listed.getD e.on true=false:=fun hh=>hnot ((hl e.on (by omega)).1 hh)
     have hlt2:e.on<listed.size:=by omega
     simp [hlt2] at hne ⊢;exact hne
    rw [h0] at hready;cases hready
  ·have hmem:=ready_mem i hi;obtain ⟨hun,o,ho,hall⟩:=mem_ready.1 hi;obtain ⟨b,hb,hbi⟩:=List.mem_map.1 hmem;obtain ⟨L1,L2,rfl⟩:=List.append_of_mem hb;obtain ⟨bi,g⟩:=b;simp only at hbi;subst hbi;have hilt:=(Array.getElem?_eq_some_iff.1 ho).1
   -- whatever comes ahead has been done
   have down:∀ k,k<ops.size→listed.getD k true=true→∀ j,ahead (ancs ops) j k=true→listed.getD j false=true:=by
    intro k;induction k using Nat.strongRecOn with
    | _ k ihk=>
     intro hk hlk j haj;have hok:ops[k]? = some ops[k]:=Array.getElem?_eq_getElem hk;obtain ⟨e,he,hbe,h2⟩:=z9L hok (hedge k _ hok) haj;have hle:=hdown k _ hok hlk e he hbe;rcases h2 with h2|h2
     ·rw [←h2];exact hle
     ·have hlt:=hedge k _ hok e he hbe;refine ihk e.on hlt (by omega) ?_ j h2;have hlt2:e.on<listed.size:=by omega
      simp [hlt2] at hle ⊢;exact hle
   have hfree:∀ b∈L1,z2l b.2 g=true∧∀ ob oi,ops[b.1]? = some ob→ops[bi]? = some oi→ob.apart ops oi=true:=by
    intro b hbm;have hp:Pair ops b (bi,g):=(List.pairwise_append.1 hpair).2.2 b hbm (bi,g) (by simp);rcases hp with hp|hp
    ·exfalso;have hbl:b.1<ops.size:=by
      have h1:=(List.pairwise_append.1 (by simpa using hord:(L1.map (·.1)++bi::L2.map (·.1)).Pairwise (·<·))).2.2 b.1 (List.mem_map.2 ⟨b,hbm,rfl⟩) bi (by simp);omega
     have hunb:=(hl b.1 hbl).2 (by simp;exact .inl ⟨b.2,hbm⟩);obtain ⟨e,he,hbe,h2⟩:=z9L ho (hedge bi o ho) hp;have hle:=hall e he hbe;have hlt:=hedge bi o ho e he hbe;have:listed.getD b.1 false=true:=by
      rcases h2 with h2|h2
      ·rw [←h2];exact hle
      ·refine down e.on (by omega) ?_ b.1 h2;have hlt2:e.on<listed.size:=by omega
       simp [hlt2] at hle ⊢;exact hle
     have hlt3:b.1<listed.size:=by omega
     simp [hlt3] at hunb this;rw [hunb] at this;cases this
    ·exact hp
   have hfront:=z8T hr hfree;cases hfront with
   | cons ho' hd hr2=>
    refine zkl hN hX ho' hd hR fun a1 w1 hR1=>?_
    refine ih (listed.setIfInBounds bi true) (L1++L2) _ a1 w1 (by simp at hf ⊢;omega) (by simp [hls]) (fun k hk=>?_) ?_ (fun k ok hok hlk e he hbe=>?_) ?_ hr2 hR1
    ·have hord':(L1.map (·.1)++bi::L2.map (·.1)).Pairwise (·<·):=by simpa using hord
     by_cases hkb:bi=k
     ·subst hkb;have hlt2:bi<listed.size:=by omega
      simp only [Array.getD_eq_getD_getElem?,Array.getElem?_setIfInBounds,hlt2,if_true,Option.getD_some,Bool.true_eq_false,List.map_append,List.mem_append,false_iff,not_or];refine ⟨fun h1=>?_,fun h1=>?_⟩
      ·have:=(List.pairwise_append.1 hord').2.2 bi h1 bi (by simp);omega
      ·have:=(List.pairwise_cons.1 (List.pairwise_append.1 hord').2.1).1 bi h1;omega
     ·rw [getD_set_ne true hkb,hl k hk];simp only [List.map_append,List.map_cons,List.mem_append,List.mem_cons];constructor
      ·rintro (h1|h1|h1)
       ·exact .inl h1
       ·exact absurd h1.symm hkb
       ·exact .inr h1
      ·rintro (h1|h1)
       ·exact .inl h1
       ·exact .inr (.inr h1)
    ·have hsub:((L1++L2).map (·.1)).Sublist ((L1++(bi,g)::L2).map (·.1)):=(List.Sublist.append_left (List.sublist_cons_self _ _) _).map _;exact hord.sublist hsub
    ·by_cases hkb:bi=k
     ·subst hkb;rw [ho] at hok;injection hok with hok;subst hok;exact getD_set_true (hall e he hbe)
     ·rw [getD_set_ne true hkb] at hlk;exact getD_set_true (hdown k ok hok hlk e he hbe)
    ·exact hpair.sublist (List.Sublist.append_left (List.sublist_cons_self _ _) _)
end
end Am
end Go.Proofs.YtgmppconibklcaaGreatDoor

namespace Go.Proofs.YtgmppconibklcaaGreatDoor
open Go Go.RowKit
namespace Am
section
variable {P:Program} {c:Ctx} {X:z1C} {sz:Nat} {ops:Array Oper}
theorem zf4 {gl:Nat→Option (List D)}:∀ (l:List Oper) (k:Nat) (s s':S) (gs:List Log),(∀ j,l[j]? = ops[k+j]?)→z1w P gl X sz ops l s=some (s',gs)→Runs P gl X sz ops s ((List.range' k l.length).zip gs) s'∧gs.length=l.length
 | [],k,s,s',gs,_,h=>by
  simp [z1w] at h;obtain ⟨rfl,rfl⟩:=h;exact ⟨.nil (.refl _),rfl⟩
 | o::l,k,s,s',gs,hl,h=>by
  rw [z1w] at h;cases hs:z4F P gl X sz ops o s with
  | none=>rw [hs] at h;cases h
  | some sg=>
   obtain ⟨s1,g⟩:=sg;rw [hs] at h;simp only at h;cases hr:z1w P gl X sz ops l s1 with
   | none=>rw [hr] at h;cases h
   | some sgs=>
    obtain ⟨s2,gs2⟩:=sgs;rw [hr] at h;simp only [Option.some.injEq,Prod.mk.injEq] at h;obtain ⟨rfl,rfl⟩:=h;obtain ⟨h1,h2⟩:=zf4 l (k+1) s1 s2 gs2 (fun j=>by have:=hl (j+1);simp at this;rw [this];congr 1;omega) hr;refine ⟨?_,by simp [h2]⟩;rw [List.length_cons,List.range'_succ,List.zip_cons_cons];exact .cons (by have:=hl 0;simp at this;exact this.symm) (znP.1 hs) h1
theorem z6G {t:List Nat} {i:Nat} {a:Log}:∀ (gs:List Log) (j:Nat),z2d t i a j gs=true→∀ k g,gs[k]? = some g→ahead t i (j+k)=true∨z2l a g=true
 | [],j,_,k,g,hg=>by simp at hg
 | b::r,j,h,k,g,hg=>by
  simp only [z2d,Bool.and_eq_true,Bool.or_eq_true] at h;cases k with
  | zero=>simp at hg;subst hg;exact h.1
  | succ k=>
   have:=z6G r (j+1) h.2 k g (by simpa using hg)
   rwa [show j+1+k=j+(k+1) by omega] at this
theorem z5I {t:List Nat}:∀ (gs:List Log) (i:Nat),z1t t i gs=true→∀ k m a b,k<m→gs[k]? = some a→gs[m]? = some b→ahead t (i+k) (i+m)=true∨z2l a b=true
 | [],i,_,k,m,a,b,_,ha,_=>by simp at ha
 | g::r,i,h,k,m,a,b,hkm,ha,hb=>by
  simp only [z1t,Bool.and_eq_true] at h;cases m with
  | zero=>omega
  | succ m=>
   cases k with
   | zero=>
    simp at ha;subst ha;have:=z6G r (i+1) h.1 m b (by simpa using hb)
    rwa [show i+1+m=i+(m+1) by omega] at this
   | succ k=>
    have:=z5I r (i+1) h.2 k m a b (by omega) (by simpa using ha) (by simpa using hb)
    rwa [show i+1+k=i+(k+1) by omega,show i+1+m=i+(m+1) by omega] at this
theorem z5L {t:List Nat} {i:Nat} {a:Oper}:∀ (l:List Oper) (j:Nat),z7d ops t i a j l=true→∀ k o,l[k]? = some o→ahead t i (j+k)=true∨Oper.apart ops a o=true
 | [],j,_,k,g,hg=>by simp at hg
 | b::r,j,h,k,g,hg=>by
  simp only [z7d,Bool.and_eq_true,Bool.or_eq_true] at h;cases k with
  | zero=>simp at hg;subst hg;exact h.1
  | succ k=>
   have:=z5L r (j+1) h.2 k g (by simpa using hg)
   rwa [show j+1+k=j+(k+1) by omega] at this
theorem z4N {t:List Nat}:∀ (l:List Oper) (i:Nat),z5M ops t i l=true→∀ k m a b,k<m→l[k]? = some a→l[m]? = some b→ahead t (i+k) (i+m)=true∨Oper.apart ops a b=true
 | [],i,_,k,m,a,b,_,ha,_=>by simp at ha
 | g::r,i,h,k,m,a,b,hkm,ha,hb=>by
  simp only [z5M,Bool.and_eq_true] at h;cases m with
  | zero=>omega
  | succ m=>
   cases k with
   | zero=>
    simp at ha;subst ha;have:=z5L r (i+1) h.1 m b (by simpa using hb)
    rwa [show i+1+m=i+(m+1) by omega] at this
   | succ k=>
    have:=z4N r (i+1) h.2 k m a b (by omega) (by simpa using ha) (by simpa using hb)
    rwa [show i+1+k=i+(k+1) by omega,show i+1+m=i+(m+1) by omega] at this
theorem z9y:∀ (l:List Oper) (i:Nat),zay i l=true→∀ k o,l[k]? = some o→∀ e∈o.after,Region.binds .any e=true→e.on<i+k
 | [],i,_,k,o,ho=>by simp at ho
 | a::r,i,h,k,o,ho=>by
  simp only [zay,Bool.and_eq_true] at h;cases k with
  | zero=>
   simp at ho;subst ho;intro e he hb;have:=(Array.all_eq_true_iff_forall_mem.1 h.1) e he;simp [hb] at this;omega
  | succ k=>
   intro e he hb;have:=z9y r (i+1) h.2 k o (by simpa using ho) e he hb;omega
theorem zkA {s:S} {a:Act} {w:World} (hR:RelS c sz s a w):RelS c sz s a {w with drawn:=w.drawn+1}:=by
 obtain ⟨h1,h2,G,h3,h4⟩:=hR;exact ⟨h1,h2,G,h3,h4.stays (Below.refl _ w).drew⟩
theorem z6t {draw:Bool} {id:Nat} {s s':S} {a:Act} {w:World} {Q:Exit→Act→World→Prop} (hm:P.follows .mixedOrders=true) (hN:z14 P) (hX:z1e P c.gl c.tb X) (h:z3u P c.gl X sz ops draw s=some s') (hR:RelS c sz s a w) (hQ:∀ a w,RelS c sz s' a w→Q .normal a w):
  (Code.region id ops draw).wp P Q a w:=by
 unfold z3u at h;cases draw with
 | false=>
  simp only [Bool.false_eq_true,if_false] at h;exact wp_region_list (zbN hN hX _ _ _ _ _ h hR hQ)
 | true=>
  simp only [if_true] at h;cases hr:z1w P c.gl X sz ops ops.toList s with
  | none=>rw [hr] at h;cases h
  | some sg=>
   obtain ⟨s1,gs⟩:=sg;rw [hr] at h;simp only at h;split at h
   ·rename_i hok;simp only [Bool.and_eq_true] at hok;obtain ⟨hconf,hstat⟩:=hok;injection h with h;subst h;unfold z9z at hstat;simp only [Bool.and_eq_true] at hstat;obtain ⟨hedge,hap⟩:=hstat;obtain ⟨hruns,hlen⟩:=zf4 ops.toList 0 s s1 gs (by simp) hr;refine wp_region_any hm ?_;have hsz:ops.toList.length=ops.size:=by simp
    have hfst:((List.range' 0 ops.toList.length).zip gs).map (·.1)=List.range' 0 ops.toList.length:=List.map_fst_zip (by simp [hlen]);refine zjO hN hX (fun i o ho e he hb=>by have:=z9y ops.toList 0 hedge i o (by rw [Array.getElem?_toList];exact ho) e he hb;omega) hQ ops.size (Array.replicate ops.size false) ((List.range' 0 ops.toList.length).zip gs) s a _ ?_ (by simp) (fun i hi=>?_) ?_ (fun i o ho hl=>?_) ?_ hruns (zkA hR)
    ·simp [hlen]
    ·rw [hfst];simp [hi,List.mem_range']
    ·rw [hfst];exact List.pairwise_lt_range'
    ·have hi:=(Array.getElem?_eq_some_iff.1 ho).1;simp [hi] at hl
    ·rw [List.pairwise_iff_getElem];intro k m hk hm' hkm;have hk2:k<ops.toList.length:=by simp [hlen] at hk;simpa using hk
     have hm2:m<ops.toList.length:=by simp [hlen] at hm';simpa using hm'
     simp only [List.getElem_zip,List.getElem_range',Nat.one_mul,Nat.zero_add];have h1:=z5I gs 0 hconf k m _ _ hkm (List.getElem?_eq_getElem (by rw [hlen];exact hk2)) (List.getElem?_eq_getElem (by rw [hlen];exact hm2));have h2:=z4N ops.toList 0 hap k m _ _ hkm (List.getElem?_eq_getElem hk2) (List.getElem?_eq_getElem hm2);simp only [Nat.zero_add] at h1 h2;rcases h1 with h1|h1
     ·exact .inl h1
     ·rcases h2 with h2|h2
      ·exact .inl h2
      ·refine .inr ⟨h1,fun oa ob ha hb=>?_⟩;simp only at ha hb;rw [←Array.getElem?_toList,List.getElem?_eq_getElem hk2] at ha;rw [←Array.getElem?_toList,List.getElem?_eq_getElem hm2] at hb;injection ha with ha;injection hb with hb;rw [←ha,←hb];exact h2
   ·cases h
def exOf:Ex→Exit
 | .normal=> .normal
 | .exit id=> .exit id
 | .ret=> .ret
theorem z7T {env:Nat→Option T}:∀ (ks:List Nat) (k:Nat) (t:T),look (ks.filterMap fun k=>(env k).map fun t=>(k,t)) k=some t→env k=some t
 | [],k,t,h=>by simp [look] at h
 | i::ks,k,t,h=>by
  rw [List.filterMap_cons] at h;cases hi:env i with
  | none=>rw [hi] at h;exact z7T ks k t h
  | some u=>
   rw [hi] at h;simp only [Option.map_some,look] at h;split at h
   ·rename_i e;rw [←e,hi];exact h
   ·exact z7T ks k t h
theorem zbw {ks:Option (List Nat)} {s:S} {a:Act} {w:World} (hR:RelS c sz s a w):RelS c sz (restrict ks s) a w:=by
 obtain ⟨h1,h2,G,h3,h4⟩:=hR;cases ks with
 | none=>exact ⟨h1,h2,G,h3,h4⟩
 | some ks=>exact ⟨h1,h2,G,fun k t hk=>h3 k t (z7T ks k t hk),h4⟩
theorem zlW {p:Prop} (h:p:=by
  simp only [Option.some.injEq,Prod.mk.injEq] at h;obtain ⟨rfl,rfl⟩:=h;refine Code.wp_mono ?_ (ihx s _ s1 a w hx hR);rintro e' a' w' ⟨rfl,hR1⟩;exact ⟨rfl,hR1⟩):p:=h
theorem zgZ {lv:Nat→Option (List Nat)} {F:Nat} (hm:P.follows .mixedOrders=true) (hN:z14 P) (hX:z1e P c.gl c.tb X):∀ (cd:Code) (s:S) (e:Ex) (s':S) (a:Act) (w:World),z0L P c.gl X sz lv F cd s=some (e,s')→RelS c sz s a w →
  cd.wp P (fun e' a' w'=>e'=exOf e∧RelS c sz s' a' w') a w:=by
 intro cd;induction cd with
 | skip=>
  intro s e s' a w h hR;simp only [z0L,Option.some.injEq,Prod.mk.injEq] at h;obtain ⟨rfl,rfl⟩:=h;exact wp_skip ⟨rfl,hR⟩
 | region id ops draw=>
  intro s e s' a w h hR;simp only [z0L] at h;cases hr:z3u P c.gl X sz ops draw (restrict (lv id) s) with
  | none=>rw [hr] at h;cases h
  | some s1=>
   rw [hr] at h;simp only [Option.some.injEq,Prod.mk.injEq] at h;obtain ⟨rfl,rfl⟩:=h;exact z6t hm hN hX hr (zbw hR) fun a w h=>⟨rfl,h⟩
 | seq x y ihx ihy=>
  intro s e s' a w h hR;simp only [z0L] at h;refine wp_seq ?_;cases hx:z0L P c.gl X sz lv F x s with
  | none=>rw [hx] at h;cases h
  | some r=>
   obtain ⟨e1,s1⟩:=r;rw [hx] at h;cases e1 with
   | normal=>
    simp only at h;refine Code.wp_mono ?_ (ihx s _ s1 a w hx hR);rintro e' a' w' ⟨rfl,hR1⟩;exact ihy s1 e s' a' w' h hR1
   | exit id=>
    exact zlW
   | ret=>
    exact zlW
 | cond cc x y ihx ihy=>
  intro s e s' a w h hR;simp only [z0L] at h;have hval:∀ b,bool? (valOf c.gl (look s.env) cc)=some b→a.eval cc = .bool b:=by
   intro b hb;obtain ⟨_,_,G,h3,h4⟩:=hR;exact RT_v (zek h4 h3 cc _ (bool?_spec hb))
  cases hb:bool? (valOf c.gl (look s.env) cc) with
  | none=>rw [hb] at h;cases h
  | some b=>
   rw [hb] at h;cases b with
   | true=>exact wp_cond_true (hval _ hb) (ihx s e s' a w h hR)
   | false=>exact wp_cond_false (hval _ hb) (ihy s e s' a w h hR)
 | block id b ih=>
  intro s e s' a w h hR;simp only [z0L] at h;refine wp_block ?_;cases hx:z0L P c.gl X sz lv F b s with
  | none=>rw [hx] at h;cases h
  | some r=>
   obtain ⟨e1,s1⟩:=r;rw [hx] at h;refine Code.wp_mono ?_ (ih s _ s1 a w hx hR);rintro e' a' w' ⟨rfl,hR1⟩;cases e1 with
   | normal=>
    simp only [Option.some.injEq,Prod.mk.injEq] at h;obtain ⟨rfl,rfl⟩:=h;exact ⟨rfl,hR1⟩
   | exit id' =>
    simp only at h;show if id'=id then _ else _
    by_cases hid:id'=id
    ·rw [if_pos hid] at h ⊢;simp only [Option.some.injEq,Prod.mk.injEq] at h;obtain ⟨rfl,rfl⟩:=h;exact ⟨rfl,hR1⟩
    ·rw [if_neg hid] at h ⊢;simp only [Option.some.injEq,Prod.mk.injEq] at h;obtain ⟨rfl,rfl⟩:=h;exact ⟨rfl,hR1⟩
   | ret=>
    simp only [Option.some.injEq,Prod.mk.injEq] at h;obtain ⟨rfl,rfl⟩:=h;exact ⟨rfl,hR1⟩
 | loop b ih=>
  intro s e s' a w h hR;simp only [z0L] at h;refine wp_loop_rounds F ?_;have key:∀ (n:Nat) (s:S) (a:Act) (w:World),iter (z0L P c.gl X sz lv F b) n s=some (e,s')→RelS c sz s a w→Code.rounds P b (fun e' a' w'=>e'=exOf e∧RelS c sz s' a' w') n a w:=by
   intro n;induction n with
   | zero=>intro s a w h _;simp [iter] at h
   | succ n ihn=>
    intro s a w h hR;rw [rounds_succ];rw [iter] at h;cases hx:z0L P c.gl X sz lv F b s with
    | none=>rw [hx] at h;cases h
    | some r=>
     obtain ⟨e1,s1⟩:=r;rw [hx] at h;refine Code.wp_mono ?_ (ih s _ s1 a w hx hR);rintro e' a' w' ⟨rfl,hR1⟩;cases e1 with
     | normal=>exact ihn s1 a' w' h hR1
     | exit id=>
      simp only [Option.some.injEq,Prod.mk.injEq] at h;obtain ⟨rfl,rfl⟩:=h;exact ⟨rfl,hR1⟩
     | ret=>
      simp only [Option.some.injEq,Prod.mk.injEq] at h;obtain ⟨rfl,rfl⟩:=h;exact ⟨rfl,hR1⟩
  exact key F s a w h hR
 | exit id=>
  intro s e s' a w h hR;simp only [z0L,Option.some.injEq,Prod.mk.injEq] at h;obtain ⟨rfl,rfl⟩:=h;exact wp_exit ⟨rfl,hR⟩
 | ret=>
  intro s e s' a w h hR;simp only [z0L,Option.some.injEq,Prod.mk.injEq] at h;obtain ⟨rfl,rfl⟩:=h;exact wp_ret ⟨rfl,hR⟩
 | label l=>
  intro s e s' a w h hR;simp only [z0L,Option.some.injEq,Prod.mk.injEq] at h;obtain ⟨rfl,rfl⟩:=h;exact wp_label ⟨rfl,hR⟩
 | rangeFunc f ps x y _ _=>intro s e s' a w h hR;simp [z0L] at h
 | scope b _=>intro s e s' a w h hR;simp [z0L] at h
 | goto l=>intro s e s' a w h hR;simp [z0L] at h
 | refuse why=>intro s e s' a w h hR;simp [z0L] at h
end
end Am
end Go.Proofs.YtgmppconibklcaaGreatDoor

