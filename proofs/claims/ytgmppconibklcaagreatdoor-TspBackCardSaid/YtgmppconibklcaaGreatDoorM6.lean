/- Part of the proof of TspBack. No condition: lemmas alone. -/
import Derived.Test.YtgmppconibklcaaGreatDoorM5
import Derived.LoopN
set_option linter.unusedVariables false
set_option linter.unusedSimpArgs false
namespace Go.Proofs.YtgmppconibklcaaGreatDoor
open Go Go.RowKit
namespace Am
def zbh (acc:List Nat) (o:Oper):Nat:=o.after.toList.foldl (fun s e=>if Region.binds .any e then s|||2^e.on|||acc.getD e.on 0 else s) 0
theorem zbg {acc:List Nat}:∀ (es:List Edge) (s j:Nat),(es.foldl (fun s e=>if Region.binds .any e then s|||2^e.on|||acc.getD e.on 0 else s) s).testBit j=true→s.testBit j=true∨∃ e∈es,Region.binds .any e=true∧(e.on=j∨(acc.getD e.on 0).testBit j=true)
 | [],s,j,h=> .inl h
 | e::es,s,j,h=>by
  rw [List.foldl_cons] at h;rcases zbg es _ j h with h|⟨e',he,h1,h2⟩
  ·by_cases hb:Region.binds .any e=true
   ·rw [if_pos hb] at h;simp only [Nat.testBit_or,Bool.or_eq_true] at h;rcases h with (h|h)|h
    ·exact .inl h
    ·refine .inr ⟨e,by simp,hb,.inl ?_⟩;rw [Nat.testBit_two_pow] at h;simpa using h
    ·exact .inr ⟨e,by simp,hb,.inr h⟩
   ·rw [if_neg hb] at h;exact .inl h
  ·exact .inr ⟨e',List.mem_cons_of_mem _ he,h1,h2⟩
theorem z9o:∀ (l:List Oper) (acc:List Nat),(z8n l acc).take acc.length=acc∧∀ k o,l[k]? = some o→(z8n l acc)[acc.length+k]? = some (zbh ((z8n l acc).take (acc.length+k)) o)
 | [],acc=>⟨by simp [z8n],fun k o h=>by simp at h⟩
 | o::r,acc=>by
  have ih:=z9o r (acc++[zbh acc o]);have hg:z8n (o::r) acc=z8n r (acc++[zbh acc o]):=rfl;rw [hg];obtain ⟨h1,h2⟩:=ih;simp only [List.length_append,List.length_singleton] at h1 h2;have ht:(z8n r (acc++[zbh acc o])).take acc.length=acc:=by
   have:=congrArg (List.take acc.length) h1;rw [List.take_take,Nat.min_eq_left (by omega),List.take_left] at this;exact this
  refine ⟨ht,fun k o' hk=>?_⟩;cases k with
  | zero=>
   simp at hk;subst hk;rw [Nat.add_zero,ht];have:=congrArg (fun l=>l[acc.length]?) h1;simp only [List.getElem?_take,if_pos (Nat.lt_succ_self _)] at this;rw [this];simp
  | succ k=>
   have:=h2 k o' (by simpa using hk);rw [show acc.length+1+k=acc.length+(k+1) by omega] at this;exact this
theorem z9p {ops:Array Oper} {i j:Nat} {o:Oper} (ho:ops[i]? = some o) (hedge:∀ e∈o.after,Region.binds .any e=true→e.on<i) (h:ahead (ancs ops) j i=true):∃ e∈o.after,Region.binds .any e=true∧(e.on=j∨ahead (ancs ops) j e.on=true):=by
 unfold ahead at h;have hs:=(z9o ops.toList []).2 i o (by rw [Array.getElem?_toList];exact ho);simp only [List.length_nil,Nat.zero_add] at hs;have hd:(ancs ops).getD i 0=zbh ((ancs ops).take i) o:=by
  rw [List.getD_eq_getElem?_getD];show ((z8n ops.toList [])[i]?).getD 0=_;rw [hs];rfl
 rw [hd] at h;rcases zbg _ _ j h with h|⟨e,he,h1,h2⟩
 ·simp at h
 ·refine ⟨e,by simpa using he,h1,?_⟩;rcases h2 with h2|h2
  ·exact .inl h2
  ·right;unfold ahead;have hlt:=hedge e (by simpa using he) h1;rw [List.getD_eq_getElem?_getD,List.getElem?_take,if_pos hlt] at h2;rw [List.getD_eq_getElem?_getD];exact h2
section
variable {P:Program} {c:Ctx} {X:z1F} {sz:Nat} {ops:Array Oper}
inductive Runs (P:Program) (gl:Nat→Option (List D)) (X:z1F) (sz:Nat) (ops:Array Oper):S→List (Nat×Log)→S→Prop
 | nil {s s':S} (h:Like s s'):Runs P gl X sz ops s [] s'
 | cons {s s1 s':S} {i:Nat} {o:Oper} {g:Log} {r:List (Nat×Log)} (ho:ops[i]? = some o) (hd:Did P gl X sz ops o s s1 g) (hr:Runs P gl X sz ops s1 r s'):Runs P gl X sz ops s ((i,g)::r) s'
def Pair (ops:Array Oper) (a b:Nat×Log):Prop:=ahead (ancs ops) a.1 b.1=true∨(z1N a.2 b.2=true∧∀ oa ob,ops[a.1]? = some oa→ops[b.1]? = some ob→oa.apart ops ob=true)
theorem zaQ {gl:Nat→Option (List D)} {s t s':S} {r:List (Nat×Log)} (hl:Like s t) (h:Runs P gl X sz ops s r s'):Runs P gl X sz ops t r s':=by
 cases h with
 | nil h=>exact .nil (hl.symm.trans h)
 | cons ho hd hr=>
  obtain ⟨t1,ht1⟩:=za0 (s':=t) hd (by rw [hl.1]) (fun _ _ x _=>by rw [hl.1]) (fun p _=>by rw [hl.2]);exact .cons ho ht1 (zaQ (zjQ hd ht1 hl) hr)
theorem z8E {gl:Nat→Option (List D)} {i:Nat} {g:Log} {L2:List (Nat×Log)}:∀ {L1:List (Nat×Log)} {s s':S},Runs P gl X sz ops s (L1++(i,g)::L2) s'→(∀ b∈L1,z1N b.2 g=true∧∀ ob oi,ops[b.1]? = some ob→ops[i]? = some oi→ob.apart ops oi=true)→Runs P gl X sz ops s ((i,g)::(L1++L2)) s'
 | [],s,s',h,_=>h
 | (j,gj)::L1,s,s',h,hb=>by
  cases h with
  | cons hoj hdj hr=>
   have ih:=z8E hr (fun b hbm=>hb b (List.mem_cons_of_mem _ hbm));cases ih with
   | cons hoi hdi hr2=>
    obtain ⟨h1,h2⟩:=hb (j,gj) (by simp);obtain ⟨sa',sb',hi',hj',hlike⟩:=zjO hdj hdi (h2 _ _ hoj hoi) h1;exact .cons hoi hi' (.cons hoj hj' (zaQ hlike hr2))
theorem ziQ {s s1:S} {a:Act} {w:World} {i:Nat} {o:Oper} {g:Log} {K:Act→World→Prop} {Q:Exit→Act→World→Prop} (hN:z1j P) (hX:z1J P c.gl c.tb X) (ho:ops[i]? = some o) (hd:Did P c.gl X sz ops o s s1 g) (hR:RelS c sz s a w) (hK:∀ a w,RelS c sz s1 a w→K a w):wpOp P ops Q i K a w:=by
 unfold wpOp;simp only [ho];have:=z8A (Q:=Q) hN hX (zjP hd) hR hK;split
 ·rename_i hw;rw [if_pos hw] at this;exact .inl this
 ·rename_i hw;rw [if_neg hw] at this;exact this
theorem zdH {s s':S} {a:Act} {w:World} (hl:Like s s') (hR:RelS c sz s a w):RelS c sz s' a w:=by
 obtain ⟨h1,h2,G,h3,h4⟩:=hR;exact ⟨h1,h2,G,by rw [←hl.1];exact h3,by rw [←hl.2];exact h4⟩
theorem zik {Q:Exit→Act→World→Prop} {s':S} (hN:z1j P) (hX:z1J P c.gl c.tb X) (hedge:∀ i o,ops[i]? = some o→∀ e∈o.after,Region.binds .any e=true→e.on<i) (hQ:∀ a w,RelS c sz s' a w→Q .normal a w):
  ∀ (fuel:Nat) (listed:Array Bool) (RL:List (Nat×Log)) (s:S) (a:Act) (w:World),RL.length≤fuel→listed.size=ops.size→(∀ i,i<ops.size→(listed.getD i true=false↔i∈RL.map (·.1)))→(RL.map (·.1)).Pairwise (·<·) →
   (∀ i o,ops[i]? = some o→listed.getD i true=true→∀ e∈o.after,Region.binds .any e=true→listed.getD e.on false=true) →
   RL.Pairwise (Pair ops)→Runs P c.gl X sz ops s RL s'→RelS c sz s a w→wpAny P .any ops Q fuel listed a w:=by
 intro fuel;induction fuel with
 | zero=>
  intro listed RL s a w hf hls hl hord hdown hpair hr hR;have:RL=[]:=List.eq_nil_of_length_eq_zero (by omega);subst this;cases hr with
  | nil hlike=>
   refine wpAny_done ?_ (hQ a w (zdH hlike hR)) 0;refine List.eq_nil_iff_forall_not_mem.2 fun i hi=>?_
   obtain ⟨h1,o,ho,_⟩:=mem_ready.1 hi;have:=(hl i (Array.getElem?_eq_some_iff.1 ho).1).1 h1;simp at this
 | succ fuel ih=>
  intro listed RL s a w hf hls hl hord hdown hpair hr hR;have ready_mem:∀ i∈Region.ready .any ops listed,i∈RL.map (·.1):=by
   intro i hi;obtain ⟨h1,o,ho,_⟩:=mem_ready.1 hi;exact (hl i (Array.getElem?_eq_some_iff.1 ho).1).1 h1
  refine ⟨fun h0=>?_,fun i hi=>?_⟩
  ·-- nothing is ready: nothing is left
   cases hr with
   | nil hlike=>exact hQ a w (zdH hlike hR)
   | @cons _ s1 _ i o g r ho hd hr2=>
    exfalso;have hilt:=(Array.getElem?_eq_some_iff.1 ho).1;have hready:i∈Region.ready .any ops listed:=by
     refine mem_ready.2 ⟨(hl i hilt).2 (by simp),o,ho,fun e he hb=>?_⟩;have hlt:=hedge i o ho e he hb;have hnot:e.on∉((i,g)::r).map (·.1):=by
      intro hm;simp only [List.map_cons,List.mem_cons] at hm;rcases hm with hm|hm
      ·omega
      ·have h9:i<e.on:=(List.pairwise_cons.1 hord).1 _ hm;omega
     have hne:¬listed.getD e.on true=false:=fun hh=>hnot ((hl e.on (by omega)).1 hh)
     have hlt2:e.on<listed.size:=by omega
     simp [hlt2] at hne ⊢;exact hne
    rw [h0] at hready;cases hready
  ·have hmem:=ready_mem i hi;obtain ⟨hun,o,ho,hall⟩:=mem_ready.1 hi;obtain ⟨b,hb,hbi⟩:=List.mem_map.1 hmem;obtain ⟨L1,L2,rfl⟩:=List.append_of_mem hb;obtain ⟨bi,g⟩:=b;simp only at hbi;subst hbi;have hilt:=(Array.getElem?_eq_some_iff.1 ho).1
   -- whatever comes ahead has been done
   have down:∀ k,k<ops.size→listed.getD k true=true→∀ j,ahead (ancs ops) j k=true→listed.getD j false=true:=by
    intro k;induction k using Nat.strongRecOn with
    | _ k ihk=>
     intro hk hlk j haj;have hok:ops[k]? = some ops[k]:=Array.getElem?_eq_getElem hk;obtain ⟨e,he,hbe,h2⟩:=z9p hok (hedge k _ hok) haj;have hle:=hdown k _ hok hlk e he hbe;rcases h2 with h2|h2
     ·rw [←h2];exact hle
     ·have hlt:=hedge k _ hok e he hbe;refine ihk e.on hlt (by omega) ?_ j h2;have hlt2:e.on<listed.size:=by omega
      simp [hlt2] at hle ⊢;exact hle
   have hfree:∀ b∈L1,z1N b.2 g=true∧∀ ob oi,ops[b.1]? = some ob→ops[bi]? = some oi→ob.apart ops oi=true:=by
    intro b hbm;have hp:Pair ops b (bi,g):=(List.pairwise_append.1 hpair).2.2 b hbm (bi,g) (by simp);rcases hp with hp|hp
    ·exfalso;have hbl:b.1<ops.size:=by
      have h1:=(List.pairwise_append.1 (by simpa using hord:(L1.map (·.1)++bi::L2.map (·.1)).Pairwise (·<·))).2.2 b.1 (List.mem_map.2 ⟨b,hbm,rfl⟩) bi (by simp);omega
     have hunb:=(hl b.1 hbl).2 (by simp;exact .inl ⟨b.2,hbm⟩);obtain ⟨e,he,hbe,h2⟩:=z9p ho (hedge bi o ho) hp;have hle:=hall e he hbe;have hlt:=hedge bi o ho e he hbe;have:listed.getD b.1 false=true:=by
      rcases h2 with h2|h2
      ·rw [←h2];exact hle
      ·refine down e.on (by omega) ?_ b.1 h2;have hlt2:e.on<listed.size:=by omega
       simp [hlt2] at hle ⊢;exact hle
     have hlt3:b.1<listed.size:=by omega
     simp [hlt3] at hunb this;rw [hunb] at this;cases this
    ·exact hp
   have hfront:=z8E hr hfree;cases hfront with
   | cons ho' hd hr2=>
    refine ziQ hN hX ho' hd hR fun a1 w1 hR1=>?_
    refine ih (listed.setIfInBounds bi true) (L1++L2) _ a1 w1 (by simp at hf ⊢;omega) (by simp [hls]) (fun k hk=>?_) ?_ (fun k ok hok hlk e he hbe=>?_) ?_ hr2 hR1
    ·have hord':(L1.map (·.1)++bi::L2.map (·.1)).Pairwise (·<·):=by simpa using hord
     by_cases hkb:bi=k
     ·subst hkb;have hlt2:bi<listed.size:=by omega
      simp only [Array.getD_eq_getD_getElem?,Array.getElem?_setIfInBounds,hlt2,if_true,Option.getD_some,Bool.true_eq_false,List.map_append,List.mem_append,false_iff,not_or];refine ⟨fun h1=>?_,fun h1=>?_⟩
      ·have:=(List.pairwise_append.1 hord').2.2 bi h1 bi (by simp);omega
      ·have:=(List.pairwise_cons.1 (List.pairwise_append.1 hord').2.1).1 bi h1;omega
     ·rw [getD_set_ne true hkb,hl k hk];simp only [List.map_append,List.map_cons,List.mem_append,List.mem_cons];constructor
      ·rintro (h1|h1|h1)
       ·exact .inl h1
       ·exact absurd h1.symm hkb
       ·exact .inr h1
      ·rintro (h1|h1)
       ·exact .inl h1
       ·exact .inr (.inr h1)
    ·have hsub:((L1++L2).map (·.1)).Sublist ((L1++(bi,g)::L2).map (·.1)):=(List.Sublist.append_left (List.sublist_cons_self _ _) _).map _;exact hord.sublist hsub
    ·by_cases hkb:bi=k
     ·subst hkb;rw [ho] at hok;injection hok with hok;subst hok;exact getD_set_true (hall e he hbe)
     ·rw [getD_set_ne true hkb] at hlk;exact getD_set_true (hdown k ok hok hlk e he hbe)
    ·exact hpair.sublist (List.Sublist.append_left (List.sublist_cons_self _ _) _)
end
end Am
end Go.Proofs.YtgmppconibklcaaGreatDoor

namespace Go.Proofs.YtgmppconibklcaaGreatDoor
open Go Go.RowKit
namespace Am
section
variable {P:Program} {c:Ctx} {X:z1F} {sz:Nat} {ops:Array Oper}
theorem ze9 {gl:Nat→Option (List D)}:∀ (l:List Oper) (k:Nat) (s s':S) (gs:List Log),(∀ j,l[j]? = ops[k+j]?)→z1n P gl X sz ops l s=some (s',gs)→Runs P gl X sz ops s ((List.range' k l.length).zip gs) s'∧gs.length=l.length
 | [],k,s,s',gs,_,h=>by
  simp [z1n] at h;obtain ⟨rfl,rfl⟩:=h;exact ⟨.nil (.refl _),rfl⟩
 | o::l,k,s,s',gs,hl,h=>by
  rw [z1n] at h;cases hs:z3D P gl X sz ops o s with
  | none=>rw [hs] at h;cases h
  | some sg=>
   obtain ⟨s1,g⟩:=sg;rw [hs] at h;simp only at h;cases hr:z1n P gl X sz ops l s1 with
   | none=>rw [hr] at h;cases h
   | some sgs=>
    obtain ⟨s2,gs2⟩:=sgs;rw [hr] at h;simp only [Option.some.injEq,Prod.mk.injEq] at h;obtain ⟨rfl,rfl⟩:=h;obtain ⟨h1,h2⟩:=ze9 l (k+1) s1 s2 gs2 (fun j=>by have:=hl (j+1);simp at this;rw [this];congr 1;omega) hr;refine ⟨?_,by simp [h2]⟩;rw [List.length_cons,List.range'_succ,List.zip_cons_cons];exact .cons (by have:=hl 0;simp at this;exact this.symm) (zlV.1 hs) h1
theorem z6A {t:List Nat} {i:Nat} {a:Log}:∀ (gs:List Log) (j:Nat),z1A t i a j gs=true→∀ k g,gs[k]? = some g→ahead t i (j+k)=true∨z1N a g=true
 | [],j,_,k,g,hg=>by simp at hg
 | b::r,j,h,k,g,hg=>by
  simp only [z1A,Bool.and_eq_true,Bool.or_eq_true] at h;cases k with
  | zero=>simp at hg;subst hg;exact h.1
  | succ k=>
   have:=z6A r (j+1) h.2 k g (by simpa using hg)
   rwa [show j+1+k=j+(k+1) by omega] at this
theorem z5D {t:List Nat}:∀ (gs:List Log) (i:Nat),z1a t i gs=true→∀ k m a b,k<m→gs[k]? = some a→gs[m]? = some b→ahead t (i+k) (i+m)=true∨z1N a b=true
 | [],i,_,k,m,a,b,_,ha,_=>by simp at ha
 | g::r,i,h,k,m,a,b,hkm,ha,hb=>by
  simp only [z1a,Bool.and_eq_true] at h;cases m with
  | zero=>omega
  | succ m=>
   cases k with
   | zero=>
    simp at ha;subst ha;have:=z6A r (i+1) h.1 m b (by simpa using hb)
    rwa [show i+1+m=i+(m+1) by omega] at this
   | succ k=>
    have:=z5D r (i+1) h.2 k m a b (by omega) (by simpa using ha) (by simpa using hb)
    rwa [show i+1+k=i+(k+1) by omega,show i+1+m=i+(m+1) by omega] at this
theorem z5G {t:List Nat} {i:Nat} {a:Oper}:∀ (l:List Oper) (j:Nat),z6V ops t i a j l=true→∀ k o,l[k]? = some o→ahead t i (j+k)=true∨Oper.apart ops a o=true
 | [],j,_,k,g,hg=>by simp at hg
 | b::r,j,h,k,g,hg=>by
  simp only [z6V,Bool.and_eq_true,Bool.or_eq_true] at h;cases k with
  | zero=>simp at hg;subst hg;exact h.1
  | succ k=>
   have:=z5G r (j+1) h.2 k g (by simpa using hg)
   rwa [show j+1+k=j+(k+1) by omega] at this
theorem z4S {t:List Nat}:∀ (l:List Oper) (i:Nat),z5H ops t i l=true→∀ k m a b,k<m→l[k]? = some a→l[m]? = some b→ahead t (i+k) (i+m)=true∨Oper.apart ops a b=true
 | [],i,_,k,m,a,b,_,ha,_=>by simp at ha
 | g::r,i,h,k,m,a,b,hkm,ha,hb=>by
  simp only [z5H,Bool.and_eq_true] at h;cases m with
  | zero=>omega
  | succ m=>
   cases k with
   | zero=>
    simp at ha;subst ha;have:=z5G r (i+1) h.1 m b (by simpa using hb)
    rwa [show i+1+m=i+(m+1) by omega] at this
   | succ k=>
    have:=z4S r (i+1) h.2 k m a b (by omega) (by simpa using ha) (by simpa using hb)
    rwa [show i+1+k=i+(k+1) by omega,show i+1+m=i+(m+1) by omega] at this
theorem z9e:∀ (l:List Oper) (i:Nat),z9Y i l=true→∀ k o,l[k]? = some o→∀ e∈o.after,Region.binds .any e=true→e.on<i+k
 | [],i,_,k,o,ho=>by simp at ho
 | a::r,i,h,k,o,ho=>by
  simp only [z9Y,Bool.and_eq_true] at h;cases k with
  | zero=>
   simp at ho;subst ho;intro e he hb;have:=(Array.all_eq_true_iff_forall_mem.1 h.1) e he;simp [hb] at this;omega
  | succ k=>
   intro e he hb;have:=z9e r (i+1) h.2 k o (by simpa using ho) e he hb;omega
theorem zj2 {s:S} {a:Act} {w:World} (hR:RelS c sz s a w):RelS c sz s a {w with drawn:=w.drawn+1}:=by
 obtain ⟨h1,h2,G,h3,h4⟩:=hR;exact ⟨h1,h2,G,h3,h4.stays (Below.refl _ w).drew⟩
theorem zaX {draw:Bool} {id:Nat} {s s':S} {a:Act} {w:World} {Q:Exit→Act→World→Prop} (hm:P.follows .mixedOrders=true) (hN:z1j P) (hX:z1J P c.gl c.tb X) (h:z4e P c.gl X sz ops draw s=some s') (hR:RelS c sz s a w) (hQ:∀ a w,RelS c sz s' a w→Q .normal a w):
  (Code.region id ops draw).wp P Q a w:=by
 unfold z4e at h;cases draw with
 | false=>
  simp only [Bool.false_eq_true,if_false] at h;exact wp_region_list (zbc hN hX _ _ _ _ _ h hR hQ)
 | true=>
  simp only [if_true] at h;cases hr:z1n P c.gl X sz ops ops.toList s with
  | none=>rw [hr] at h;cases h
  | some sg=>
   obtain ⟨s1,gs⟩:=sg;rw [hr] at h;simp only at h;split at h
   ·rename_i hok;simp only [Bool.and_eq_true] at hok;obtain ⟨hconf,hstat⟩:=hok;injection h with h;subst h;unfold zbI at hstat;simp only [Bool.and_eq_true] at hstat;obtain ⟨hedge,hap⟩:=hstat;obtain ⟨hruns,hlen⟩:=ze9 ops.toList 0 s s1 gs (by simp) hr;refine wp_region_any hm ?_;have hsz:ops.toList.length=ops.size:=by simp
    have hfst:((List.range' 0 ops.toList.length).zip gs).map (·.1)=List.range' 0 ops.toList.length:=List.map_fst_zip (by simp [hlen]);refine zik hN hX (fun i o ho e he hb=>by have:=z9e ops.toList 0 hedge i o (by rw [Array.getElem?_toList];exact ho) e he hb;omega) hQ ops.size (Array.replicate ops.size false) ((List.range' 0 ops.toList.length).zip gs) s a _ ?_ (by simp) (fun i hi=>?_) ?_ (fun i o ho hl=>?_) ?_ hruns (zj2 hR)
    ·simp [hlen]
    ·rw [hfst];simp [hi,List.mem_range']
    ·rw [hfst];exact List.pairwise_lt_range'
    ·have hi:=(Array.getElem?_eq_some_iff.1 ho).1;simp [hi] at hl
    ·rw [List.pairwise_iff_getElem];intro k m hk hm' hkm;have hk2:k<ops.toList.length:=by simp [hlen] at hk;simpa using hk
     have hm2:m<ops.toList.length:=by simp [hlen] at hm';simpa using hm'
     simp only [List.getElem_zip,List.getElem_range',Nat.one_mul,Nat.zero_add];have h1:=z5D gs 0 hconf k m _ _ hkm (List.getElem?_eq_getElem (by rw [hlen];exact hk2)) (List.getElem?_eq_getElem (by rw [hlen];exact hm2));have h2:=z4S ops.toList 0 hap k m _ _ hkm (List.getElem?_eq_getElem hk2) (List.getElem?_eq_getElem hm2);simp only [Nat.zero_add] at h1 h2;rcases h1 with h1|h1
     ·exact .inl h1
     ·rcases h2 with h2|h2
      ·exact .inl h2
      ·refine .inr ⟨h1,fun oa ob ha hb=>?_⟩;simp only at ha hb;rw [←Array.getElem?_toList,List.getElem?_eq_getElem hk2] at ha;rw [←Array.getElem?_toList,List.getElem?_eq_getElem hm2] at hb;injection ha with ha;injection hb with hb;rw [←ha,←hb];exact h2
   ·cases h
def exOf:Ex→Exit
 | .normal=> .normal
 | .exit id=> .exit id
 | .ret=> .ret
end
end Am
end Go.Proofs.YtgmppconibklcaaGreatDoor

namespace Go.Proofs.YtgmppconibklcaaGreatDoor
open Go Go.RowKit
namespace Am
section
variable {P:Program} {c:Ctx} {X:z1F} {G:Gh} {h:Objs} {w:World}
structure z6F (h:Objs) (u:Out):Prop where
 len:u.used.length=u.os.length
 nodup:u.used.Nodup
 own:∀ (i q:Nat) (o:O),u.used[i]? = some q→u.os[i]? = some o→h q=some o∧o.zbs=true
def Out.le (u u':Out):Prop:=∃ a b,u'.used=u.used++a∧u'.os=u.os++b
theorem Out.le_refl (u:Out):u.le u:=⟨[],[],by simp,by simp⟩
theorem Out.le_trans {a b d:Out} (h:a.le b) (k:b.le d):a.le d:=by
 obtain ⟨x,y,h1,h2⟩:=h;obtain ⟨x',y',h3,h4⟩:=k;exact ⟨x++x',y++y',by rw [h3,h1,List.append_assoc],by rw [h4,h2,List.append_assoc]⟩
def outG (G:Gh) (u:Out):Gh:=⟨G.im,fun p=>if p%16=14 then (u.used[p / 16]?).bind G.loc else G.loc p⟩
theorem zls {u u':Out} (h:u.le u') {i q:Nat} (hq:u.used[i]? = some q):(outG G u').loc (i*16+14)=G.loc q:=by
 obtain ⟨a,b,h1,h2⟩:=h;simp only [outG];rw [if_pos (by omega),show (i*16+14) / 16=i by omega,h1,List.getElem?_append_left (List.getElem?_eq_some_iff.1 hq).1,hq];rfl
theorem RC.noloc {G G':Gh} {v:Value} {cc:C} (him:G'.im=G.im) (hg:∀ q s l,cc ≠ .gr q s l) (hr:∀ p o,cc ≠ .ref p o) (hs:∀ p n s,cc ≠ .sl p n s) (h:RC G v cc):RC G' v cc:=by
 cases cc with
 | gr q s l=>exact absurd rfl (hg q s l)
 | ref p o=>exact absurd rfl (hr p o)
 | sl p n s=>exact absurd rfl (hs p n s)
 | d x=>show RD G'.im v x;rw [him];exact h
 | nilS=>exact h
 | ep l=>obtain ⟨g,o,h1,h2⟩:=h;exact ⟨g,o,h1,by rw [him];exact h2⟩
 | dead=>exact h
theorem zbb {kn:Bool} {z:Option Nat} {cc:C} {u:Out} (hu:z6F h u):z6F h (outC kn h z cc u).2∧u.le (outC kn h z cc u).2∧∀ (v:Value) (u':Out),(outC kn h z cc u).2.le u'→RC G v cc→RC (outG G u') v (outC kn h z cc u).1:=by
 have plain:∀ cc':C,(∀ q s l,cc' ≠ .gr q s l)→(∀ p o,cc' ≠ .ref p o)→(∀ p n s,cc' ≠ .sl p n s)→outC kn h z cc' u=(cc'.fz z,u)→z6F h (outC kn h z cc' u).2∧u.le (outC kn h z cc' u).2∧∀ (v:Value) (u':Out),(outC kn h z cc' u).2.le u'→RC G v cc'→RC (outG G u') v (outC kn h z cc' u).1:=by
  intro cc' h1 h2 h3 he;rw [he];exact ⟨hu,Out.le_refl _,fun v u' _ hr=>(RC.noloc (G:=G) (G':=outG G u') rfl h1 h2 h3 hr).fz⟩
 cases cc with
 | d x=>exact plain _ (by simp) (by simp) (by simp) rfl
 | nilS=>
  cases kn with
  | true=>exact ⟨hu,Out.le_refl _,fun v u' _ hr=>RC.noloc (G:=G) (G':=outG G u') (cc:= .nilS) rfl (by simp) (by simp) (by simp) hr⟩
  | false=>exact plain _ (by simp) (by simp) (by simp) rfl
 | ep l=>exact plain _ (by simp) (by simp) (by simp) rfl
 | dead=>exact plain _ (by simp) (by simp) (by simp) rfl
 | ref p o=>exact ⟨hu,Out.le_refl _,fun v u' _ hr=>RC.one hr⟩
 | sl p n s=>exact ⟨hu,Out.le_refl _,fun v u' _ hr=>RC.one hr⟩
 | gr q s l=>
  simp only [outC];by_cases hq:u.used.contains q=true
  ·simp only [if_pos hq];exact ⟨hu,Out.le_refl _,fun v u' _ hr=>hr.1⟩
  ·simp only [if_neg hq];have hq':q∉u.used:=by simpa using hq
   have other:z6F h u∧u.le u∧∀ (v:Value) (u':Out),u.le u'→RC G v (.gr q s l)→RC (outG G u') v (.d (.row s l)):=⟨hu,Out.le_refl _,fun v u' _ hr=>hr.1⟩;cases hh:h q with
   | none=>exact other
   | some o=>
    cases o with
    | var ty cs=>exact other
    | own e s' n=>
     refine ⟨⟨by simp [hu.len],?_,fun i q' o hi ho=>?_⟩,⟨[q],[.own e s' n],rfl,rfl⟩,fun v u' hle hr=>⟨hr.1,?_⟩⟩
     ·exact List.nodup_append.2 ⟨hu.nodup,by simp,fun a ha b hb=>by simp at hb;subst hb;exact fun e=>hq' (e▸ha)⟩
     ·simp only at hi ho;rcases Nat.lt_or_ge i u.used.length with hlt|hge
      ·rw [List.getElem?_append_left hlt] at hi;rw [List.getElem?_append_left (by rw [←hu.len];exact hlt)] at ho;exact hu.own i q' o hi ho
      ·rw [List.getElem?_append_right hge] at hi;rw [List.getElem?_append_right (by rw [←hu.len];exact hge)] at ho;have h0:i-u.used.length=0:=by
        have:=(List.getElem?_eq_some_iff.1 hi).1;simp at this;omega
       rw [h0] at hi;rw [←hu.len,h0] at ho;simp at hi ho;subst hi;subst ho;exact ⟨hh,rfl⟩
     ·have:=zls (G:=G) hle (i:=u.os.length) (q:=q) (by simp only;rw [List.getElem?_append_right (by rw [hu.len];exact Nat.le_refl _),hu.len];simp);rw [this];exact hr.2
theorem z8O {kn:Bool}:∀ (cs:List C) (zs:List (Option Nat)) (u:Out),z6F h u→z6F h (z9H kn h zs cs u).2∧u.le (z9H kn h zs cs u).2∧∀ (us:List Value) (u':Out),(z9H kn h zs cs u).2.le u'→RCs G us cs→RCs (outG G u') us (z9H kn h zs cs u).1
 | [],zs,u,hu=>by
  simp only [z9H];exact ⟨hu,Out.le_refl _,fun us u' _ hr=>by
   have:us=[]:=List.eq_nil_of_length_eq_zero hr.1;subst this;exact ⟨rfl,fun j x y hx=>by simp at hx⟩⟩
 | cc::cs,zs,u,hu=>by
  simp only [z9H];obtain ⟨h1,h2,h3⟩:=zbb (G:=G) (z:=zs.headD none) (cc:=cc) hu;obtain ⟨h4,h5,h6⟩:=z8O cs zs.tail _ h1;refine ⟨h4,Out.le_trans h2 h5,fun us u' hle hr=>?_⟩;match us,hr with
  | [],hr=>exact absurd hr.1 (by simp)
  | v::us,hr=>
   have r1:RC G v cc:=hr.2 0 v cc rfl rfl;have r2:RCs G us cs:=⟨by simpa using hr.1,fun j u c hu hc=>hr.2 (j+1) u c (by simpa using hu) (by simpa using hc)⟩;have a1:=h3 v u' (Out.le_trans h5 hle) r1;have a2:=h6 us u' hle r2;refine ⟨by simp [a2.1],fun j x y hx hy=>?_⟩;match j with
   | 0=>simp only [List.getElem?_cons_zero,Option.some.injEq] at hx hy;subst hx;subst hy;exact a1
   | j+1=>exact a2.2 j x y (by simpa using hx) (by simpa using hy)
theorem zgV {kn:Bool} {zs:List (Option Nat)} {x:E} {u:Out} (hu:z6F h u):z6F h (outE kn h zs x u).2∧u.le (outE kn h zs x u).2∧∀ (v:Value) (u':Out),(outE kn h zs x u).2.le u'→RE G v x→RE (outG G u') v (outE kn h zs x u).1:=by
 cases x with
 | one cc=>exact zbb hu
 | agg cs=>
  obtain ⟨h1,h2,h3⟩:=z8O (G:=G) cs zs u hu;refine ⟨h1,h2,fun v u' hle hr=>?_⟩;obtain ⟨us,rfl,hr⟩:=hr;exact ⟨us,rfl,h3 _ u' hle hr⟩
theorem z8N {kn:Bool}:∀ (xs:List E) (ts:List TypeId) (u:Out),z6F h u→z6F h (z5u P kn h ts xs u).2∧u.le (z5u P kn h ts xs u).2∧∀ (us:List Value) (u':Out),(z5u P kn h ts xs u).2.le u'→REs G us xs→REs (outG G u') us (z5u P kn h ts xs u).1
 | [],ts,u,hu=>by
  simp only [z5u];exact ⟨hu,Out.le_refl _,fun us u' _ hr=>by
   have:us=[]:=List.eq_nil_of_length_eq_zero hr.1;subst this;exact ⟨rfl,fun j x y hx=>by simp at hx⟩⟩
 | x::xs,ts,u,hu=>by
  simp only [z5u];obtain ⟨h1,h2,h3⟩:=zgV (G:=G) (zs:=slz P 8 (ts.headD 0)) (x:=x) hu;obtain ⟨h4,h5,h6⟩:=z8N xs ts.tail _ h1;refine ⟨h4,Out.le_trans h2 h5,fun us u' hle hr=>?_⟩;match us,hr with
  | [],hr=>exact absurd hr.1 (by simp)
  | v::us,hr=>
   have r1:RE G v x:=hr.2 0 v x rfl rfl;have r2:REs G us xs:=⟨by simpa using hr.1,fun j u c hu hc=>hr.2 (j+1) u c (by simpa using hu) (by simpa using hc)⟩;have a1:=h3 v u' (Out.le_trans h5 hle) r1;have a2:=h6 us u' hle r2;refine ⟨by simp [a2.1],fun j p y hx hy=>?_⟩;match j with
   | 0=>simp only [List.getElem?_cons_zero,Option.some.injEq] at hx hy;subst hx;subst hy;exact a1
   | j+1=>exact a2.2 j p y (by simpa using hx) (by simpa using hy)
theorem z6n:∀ {os os':List O} {i:Nat},z2A P h i os=some os'→os'.length=os.length∧∀ (j:Nat) (o:O),os'[j]? = some o→∃ ty cs,h ((i+j)*16+15)=some (.var ty cs)∧o = .var ty (fzs (slz P 8 ty) cs)∧(fzs (slz P 8 ty) cs).all C.isD=true
 | [],os',i,hh=>by
  simp [z2A] at hh;subst hh;exact ⟨rfl,fun j o ho=>by simp at ho⟩
 | o0::os,os',i,hh=>by
  rw [z2A] at hh;cases hb:(h (i*16+15)).bind (zcz P) with
  | none=>rw [hb] at hh;cases hh
  | some o1=>
   rw [hb] at hh;simp only at hh;cases hr:z2A P h (i+1) os with
   | none=>rw [hr] at hh;cases hh
   | some os1=>
    rw [hr] at hh;simp at hh;subst hh;obtain ⟨h1,h2⟩:=z6n hr;refine ⟨by simp [h1],fun j o ho=>?_⟩;cases j with
    | zero=>
     simp at ho;subst ho;rw [Nat.add_zero];cases hp:h (i*16+15) with
     | none=>rw [hp] at hb;cases hb
     | some o2=>
      rw [hp] at hb;simp only [Option.bind_some] at hb;cases o2 with
      | own e s n=>cases hb
      | var ty cs=>
       simp only [zcz] at hb;split at hb
       ·rename_i hall;injection hb with hb;exact ⟨ty,cs,rfl,hb.symm,hall⟩
       ·cases hb
    | succ j=>
     obtain ⟨ty,cs,e1,e2,e3⟩:=h2 j o (by simpa using ho);exact ⟨ty,cs,by rw [show i+(j+1)=i+1+j by omega];exact e1,e2,e3⟩
theorem zlt {u:Out} {h0:Objs} {os os':List O} (hI:Inv c G h w) (hu:z6F h0 u) (hsub:∀ q o,h0 q=some o→h q=some o) (hos:z2A P h 0 os=some os'):Inv c (outG G u) (resH u.os os') w:=by
 obtain ⟨_,hpe⟩:=z6n hos;have at_:∀ p o,resH u.os os' p=some o→(∃ q,u.used[p / 16]? = some q∧p%16=14∧h q=some o∧o.zbs=true∧(outG G u).loc p=G.loc q)∨(∃ ty cs,p%16=15∧h p=some (.var ty cs)∧o = .var ty (fzs (slz P 8 ty) cs)∧(fzs (slz P 8 ty) cs).all C.isD=true∧(outG G u).loc p=G.loc p):=by
  intro p o hp;unfold resH at hp;split at hp
  ·rename_i h14;have hlt:p / 16<u.used.length:=by rw [hu.len];exact (List.getElem?_eq_some_iff.1 hp).1
   have hq:=List.getElem?_eq_getElem hlt;obtain ⟨h1,h2⟩:=hu.own _ _ o hq hp;refine .inl ⟨_,hq,h14,hsub _ _ h1,h2,?_⟩;simp only [outG];rw [if_pos h14,hq];rfl
  ·rename_i h14;obtain ⟨h15,ho⟩:=zdQ hp;obtain ⟨ty,cs,e1,e2,e3⟩:=hpe _ o ho;rw [Nat.zero_add,show p / 16*16+15=p by omega] at e1;refine .inr ⟨ty,cs,h15,e1,e2,e3,?_⟩;simp only [outG];rw [if_neg h14]
 refine ⟨hI.tb,hI.base,hI.chb,hI.below,hI.imw,hI.imx,hI.imo,fun i=>?_,fun g l hg=>?_,fun p o hp=>?_,fun p q o o' b hp hq hbp hbq=>?_⟩
 ·show (if (i*16+15)%16=14 then _ else G.loc (i*16+15))=c.lo i;rw [if_neg (by omega)];exact hI.pas i
 ·obtain ⟨g',o',h1,h2⟩:=hI.glob g l hg;exact ⟨g',o',h1,h2⟩
 ·rcases at_ p o hp with ⟨q,_,_,h1,h2,h3⟩|⟨ty,cs,_,h1,rfl,h3,h4⟩
  ·have hr:=hI.obj q o h1;cases o with
   | var ty cs=>cases h2
   | own e s n=>
    obtain ⟨v,us,e1,e2,e3⟩:=hr;exact ⟨v,us,h3.trans e1,e2,e3⟩
  ·obtain ⟨b,us,e1,e2,e3,e4,e5⟩:=hI.obj p _ h1;exact ⟨b,us,h4.trans e1,e2,e3,zcU (G:=⟨G.im,G.loc⟩) h3 (fun _ _ h=>h) (RCs.fzs (G:=⟨G.im,G.loc⟩) e4),e5⟩
 ·rcases at_ p o hp with ⟨q1,a1,a2,a3,a5,a4⟩|⟨ty1,cs1,a2,a3,_,_,a4⟩<;>rcases at_ q o' hq with ⟨q2,b1,b2,b3,b5,b4⟩|⟨ty2,cs2,b2,b3,_,_,b4⟩
  ·have hb1:G.blk q1=some b:=by unfold Gh.blk at hbp ⊢;rw [←a4];exact hbp
   have hb2:G.blk q2=some b:=by unfold Gh.blk at hbq ⊢;rw [←b4];exact hbq
   have hqq:=hI.sep q1 q2 o o' b a3 b3 hb1 hb2;subst hqq;have h1:=(List.getElem?_eq_some_iff.1 a1).1;have h2:=(List.getElem?_eq_some_iff.1 b1).1;have:p / 16=q / 16:=by
    have e1:=(List.getElem?_eq_some_iff.1 a1).2;have e2:=(List.getElem?_eq_some_iff.1 b1).2;have hp:=List.pairwise_iff_getElem.1 hu.nodup;rcases Nat.lt_trichotomy (p / 16) (q / 16) with hlt|heq|hgt
    ·exact absurd (e1.trans e2.symm) (hp _ _ h1 h2 hlt)
    ·exact heq
    ·exact absurd (e2.trans e1.symm) (hp _ _ h2 h1 hgt)
   omega
  ·have hb1:G.blk q1=some b:=by unfold Gh.blk at hbp ⊢;rw [←a4];exact hbp
   have hb2:G.blk q=some b:=by unfold Gh.blk at hbq ⊢;rw [←b4];exact hbq
   have hqq:=hI.sep q1 q _ _ b a3 b3 hb1 hb2;subst hqq;rw [a3] at b3;injection b3 with b3;subst b3;cases a5
  ·have hb1:G.blk p=some b:=by unfold Gh.blk at hbp ⊢;rw [←a4];exact hbp
   have hb2:G.blk q2=some b:=by unfold Gh.blk at hbq ⊢;rw [←b4];exact hbq
   have hqq:=hI.sep p q2 _ _ b a3 b3 hb1 hb2;subst hqq;rw [b3] at a3;injection a3 with a3;subst a3;cases b5
  ·have hb1:G.blk p=some b:=by unfold Gh.blk at hbp ⊢;rw [←a4];exact hbp
   have hb2:G.blk q=some b:=by unfold Gh.blk at hbq ⊢;rw [←b4];exact hbq
   exact hI.sep p q _ _ b a3 b3 hb1 hb2
def z6m (tmps:Array Value):ResultVar→Sem Value
 | .tmp t=>pure (tmps.getD t undef)
 | .cell a t=>do loadVar t (←asAddr (tmps.getD a undef))
theorem zj0 {env:Nat→Option T} {h0:Objs} {r:ResultVar} {x:E} {tmps:Array Value} (hI:Inv c G h0 w) (he:EnvR G env tmps) (h:resE P env h0 r=some x):∃ v,(z6m tmps r).run P w = .ok v w∧RE G v x:=by
 cases r with
 | tmp t=>
  simp only [resE] at h;split at h
  ·rename_i y hy;injection h with h;subst h;obtain ⟨v,h1,h2⟩:=he t _ hy;exact ⟨v,by simp [z6m,h1],h2⟩
  ·cases h
 | cell a ty=>
  simp only [resE] at h;split at h
  ·rename_i cc hy;obtain ⟨va,h1,h2⟩:=he a _ hy;unfold z2j at h;split at h
   ·rename_i p off;split at h
    ·rename_i t' cs hp;obtain ⟨b,us,hloc,_,hB,hcs,_⟩:=hI.obj p _ hp;obtain ⟨b',hloc',hv⟩:=h2;rw [hloc] at hloc';simp at hloc';subst hloc';obtain ⟨v,hrun,hre⟩:=z2b (P:=P) (w:=w) (G:=G) (b:=b) (o:=0) (off:=off) (cs:=cs) (fun j cx hc=>by
      obtain ⟨u,h3,h4⟩:=hcs.get hc;exact ⟨u,by rw [Nat.zero_add,hB.cell,←Array.getElem?_toList];exact h3,h4⟩) h
     rw [Nat.zero_add] at hrun;exact ⟨v,by simp [z6m,h1,hv,asAddr,hrun],hre⟩
    ·cases h
   ·rename_i l;obtain ⟨g,o,hv,hcell⟩:=h2;obtain ⟨v,hrun,hre⟩:=z2b (P:=P) (w:=w) (G:=G) (b:=g) (o:=o) (off:=0) (cs:=l.map .d) (fun j cx hc=>by
     rw [List.getElem?_map] at hc;cases hj:l[j]? with
     | none=>rw [hj] at hc;cases hc
     | some x=>
      rw [hj] at hc;simp at hc;subst hc;obtain ⟨u,h3,h4⟩:=hcell j x hj;exact ⟨u,hI.imw _ _ h3,h4⟩) h
    rw [Nat.add_zero] at hrun;exact ⟨v,by simp [z6m,h1,hv,asAddr,hrun],hre⟩
   ·cases h
  ·cases h
theorem zaW {env:Nat→Option T} {h0:Objs} {tmps:Array Value} (hI:Inv c G h0 w) (he:EnvR G env tmps):∀ {rs:List ResultVar} {xs:List E},z8f P env h0 rs=some xs→∃ vs:List Value,(rs.mapM (z6m tmps)).run P w = .ok vs w∧REs G vs xs
 | [],xs,h=>by
  simp [z8f] at h;subst h;exact ⟨[],by simp,rfl,fun j u x hu=>by simp at hu⟩
 | r::rs,xs,h=>by
  rw [z8f] at h;cases hr:resE P env h0 r with
  | none=>rw [hr] at h;cases h
  | some x=>
   rw [hr] at h;cases hrs:z8f P env h0 rs with
   | none=>rw [hrs] at h;cases h
   | some ys=>
    rw [hrs] at h;simp at h;subst h;obtain ⟨v,h1,h2⟩:=zj0 hI he hr;obtain ⟨vs,h3,h4⟩:=zaW hI he hrs;refine ⟨v::vs,by simp [List.mapM_cons,h1,h3],by simp [h4.1],fun j u y hu hy=>?_⟩;match j with
    | 0=>simp at hu hy;subst hu;subst hy;exact h2
    | j+1=>exact h4.2 j u y (by simpa using hu) (by simpa using hy)
theorem zcx {fn:Func} {tmps:Array Value} {vs:List Value} (h:(fn.results.toList.mapM (z6m tmps)).run P w = .ok vs w):(results fn tmps).run P w = .ok (if h:vs.toArray.size=1 then vs.toArray[0] else .tuple vs.toArray) w:=by
 have e1:results fn tmps=(fn.results.mapM (z6m tmps) >>= fun vs=>pure (if h:vs.size=1 then vs[0] else .tuple vs)):=by
  unfold results
  congr 1
 have hma:(fn.results.mapM (z6m tmps)).run P w = .ok vs.toArray w:=by
  rw [Array.mapM_eq_mapM_toList];simp only [Sem.run_map,h,Result.andThen_ok]
 rw [e1,Sem.run_bind,hma];rfl
theorem zkW {G:Gh} {vs:List Value} {xs:List E} (h:REs G vs xs):RT G (if h:vs.toArray.size=1 then vs.toArray[0] else .tuple vs.toArray) (tupT xs):=by
 have tup:∀ (vs:List Value) (xs:List E),REs G vs xs→vs.length≠1→RT G (if h:vs.toArray.size=1 then vs.toArray[0] else .tuple vs.toArray) (.tup xs):=by
  intro vs xs h hne;rw [dif_neg (by simpa using hne)];exact ⟨vs.toArray,rfl,by simpa using h⟩
 match vs,xs,h with
 | [],[],h=>exact tup [] [] h (by simp)
 | [v],[x],h=>exact h.2 0 v x rfl rfl
 | u::v::vs,x::y::xs,h=>exact tup _ _ h (by simp)
 | [],x::xs,h=>exact absurd h.1 (by simp)
 | v::vs,[],h=>exact absurd h.1 (by simp)
 | [v],x::y::xs,h=>exact absurd h.1 (by simp)
 | u::v::vs,[x],h=>exact absurd h.1 (by simp)
theorem REs.setE {vs:List Value} {xs:List E} {zs:List Nat} {im':Im} (hI:Inv c G h w) (hext:∀ a u,G.im a=some u→im' a=some u)
  (hz:∀ p ty cs b us,p∈zs→h p=some (.var ty cs)→G.loc p=some (.pointer (some ⟨b,0,none⟩))→Blk w b ty us→∀ j u,us[j]? = some u→im' ⟨b,j,none⟩=some u) (hmem:∀ x p n s,x∈xs→C.sl p n s∈x.cells→p∈zs) (hr:REs G vs xs):REs ⟨im',G.loc⟩ vs (xs.map (setE h)):=by
 refine ⟨by simp [hr.1],fun j u x hu hx=>?_⟩;rw [List.getElem?_map] at hx;cases hxj:xs[j]? with
 | none=>rw [hxj] at hx;cases hx
 | some x0=>
  rw [hxj] at hx;simp at hx;subst hx;exact zcu hI hext hz (fun p n s hs=>hmem x0 p n s (List.mem_of_getElem? hxj) hs) (hr.2 j u x0 hu hxj)
end
end Am
end Go.Proofs.YtgmppconibklcaaGreatDoor

