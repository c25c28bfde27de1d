/- Part of the proof. No condition. -/
import Derived.Test.YtgmppconibklcaaGreatDoorM3
import Derived.Test.YtgmppconibklcaaGreatDoorM0
import Derived.Orders
set_option maxHeartbeats 40000000
set_option maxRecDepth 100000
set_option linter.unusedVariables false
set_option linter.unusedSimpArgs false
namespace Go.Proofs.YtgmppconibklcaaGreatDoor
open Go Go.RowKit
namespace Am
section
variable {P:Program} {w w':World} {G:Gh} {c:Ctx} {h:Objs} {ρ:Operand→Option T} {a:Act} {X:z1C} {K:Act→World→Prop} {Q:Exit→Act→World→Prop}
theorem zfj {t:T} {eff:Eff} (h:T.eff t=some eff):eff=⟨t,[],[]⟩:=by unfold T.eff at h;injection h with h;exact h.symm
theorem zgb {s:Nat} {x:Option T} {l:List D} (h:rowOf s x=some l):∃ t,x=some t:=by
 cases x with
 | none=>simp [rowOf,row?] at h
 | some t=>exact ⟨t,rfl⟩
theorem z3d {h h':Objs}:∀ {ps:List Nat},(∀ p,p∈ps→h p=h' p)→z1k P h ps=z1k P h' ps
 | [],_=>rfl
 | p::ps,hh=>by
  rw [z1k,z1k,hh p (by simp),z3d fun q hq=>hh q (by simp [hq])]
theorem zcg {base:Nat} {t:TypeId} {x y:Operand} {eff:Eff} {ty:TypeId} (hb15:base%16≠15) (hI:Inv c G h w) (hρ:Rho G ρ a.eval) (he:z08 P h base t (ρ x) (ρ y)=some eff):
  ∃ v w',(Builtin.append_ #[t,t] ty #[a.eval x,a.eval y]).run P w = .ok v w'∧z15 c G h eff v w':=by
 unfold z08 at he;split at he
 ·rename_i e hu;split at he
  ·cases he
  ·rename_i hz;simp only [Bool.not_eq_false] at hz;split at he
   ·rename_i l' hl';obtain ⟨ty',hty'⟩:=zgb hl';split at he
    ·rename_i hx;split at he
     ·rename_i hb;injection he with he;subst he;have hv:a.eval x = .slice none 0 0:=hρ x _ hx;rw [hv];exact z15.zjM hb15 hI hu hz hty' hl' (hρ y ty' hty') hb.1 hb.2
     ·cases he
    ·rename_i q s l hx;split at he
     ·rename_i e' s' n hq;split at he
      ·rename_i hb;obtain ⟨h1,h2,h3,h4,h5,h6⟩:=hb;injection he with he;subst he;subst h2;subst h3;exact z15.zjL hb15 hI hu hz hq (hρ x _ hx) h1 h4 hty' hl' (hρ y ty' hty') h5 h6
      ·cases he
     ·cases he
    ·cases he
   ·cases he
 ·cases he
theorem zji {base:Nat} {f:Operand} {args:Array Operand} {argTypes:Array TypeId} {eff:Eff} {o:Oper} (hN:z14 P) (hX:z1e P c.gl c.tb X) (hI:Inv c G h w) (hρ:Rho G ρ a.eval) (hb16:base%16=0)
  (ho:o.op = .call {callee:= .value f,args:=args,argTypes:=argTypes}) (he:z5E P X h base (ρ f) (args.toList.map fun x=>e? (ρ x))=some eff) (hK:∀ v w',z15 c G h eff v w'→K (a.put o.dst v) w'):o.wp P a w K Q:=by
 unfold z5E at he;split at he
 ·rename_i g fs ks hf;split at he
  ·rename_i fn hfn;split at he
   ·cases he
   ·rename_i hbody;simp only [not_or,Bool.not_eq_true,ne_eq,Decidable.not_not] at hbody;obtain ⟨hbody,hfs,hks⟩:=hbody;have hfs:=Array.eq_empty_of_size_eq_zero hfs;have hks:=Array.eq_empty_of_size_eq_zero hks;subst hfs;subst hks;simp only at he;split at he
    ·cases he
    ·rename_i hdis;split at he
     ·rename_i ys os hys hos;split at he
      ·rename_i t ws os' hXg;split at he
       ·rename_i hb;obtain ⟨hlw,hws,ht,hpl,hty⟩:=hb;injection he with he;subst he;have hfv:=RT_v (hρ f _ hf);obtain ⟨im',hext,hI1,hset⟩:=hI.settle (z16 (args.toList.map fun x=>e? (ρ x)) []);have hnd:=z3b ((args.toList.map fun x=>e? (ρ x)).map (Option.map (setE h))) [] List.nodup_nil;have hos1:z1k P (fun p=>if p∈z16 (args.toList.map fun x=>e? (ρ x)) [] then none else h p) (z0R ((args.toList.map fun x=>e? (ρ x)).map (Option.map (setE h))) [])=some os:=by
         rw [←hos];refine z3d fun p hp=>?_
         rw [if_neg];intro hz;exact hdis (List.any_eq_true.2 ⟨p,hz,by simpa using hp⟩)
        have hargs:=z4X (G:=⟨im',G.loc⟩) (vs:=args.toList.map a.eval) hys (by simp) (fun j v x hv hx=>by
         rw [List.getElem?_map] at hv;rw [List.getElem?_map,List.getElem?_map] at hx;cases hp:args.toList[j]? with
         | none=>rw [hp] at hv;cases hv
         | some p=>
          rw [hp] at hv hx;simp at hv hx;subst hv;obtain ⟨y,hy,rfl⟩:=hx;exact zd0 hI hext hset (fun q n s hq=>z2K _ _ _ (.inr ⟨y,n,s,List.mem_map.2 ⟨p,List.mem_of_getElem? hp,hy⟩,hq⟩)) (hρ p _ (e?_spec hy)))
        have hcall:=hX g ys os t ws os' hXg c.W0 im' w (args.toList.map a.eval) _ _ (hI1.callee hnd hos1) hargs;have hnm:=hN g fn hfn;unfold Oper.wp execOp;simp only [ho,resolve,hfv,Deferred.ofValue,invoke,callFunc,Sem.run_bind,Sem.run_pure,Result.andThen_ok,run_program,hfn,hnm,Bool.false_eq_true,if_false,hbody];simp only [Oper.upon_enter];have hav:(#[]:Array Value)++Array.map a.eval args++#[]=(args.toList.map a.eval).toArray:=by
         apply Array.ext';simp
        rw [hav];refine hcall.mono ?_;rintro e w' ⟨v,G',rfl,hr,hI'⟩;exact hK v w' (z15.settled hext (Inv.call hI1 hnd hos1 (z5X hty) hb16 hlw hws hpl ht hr hI'))
       ·cases he
      ·cases he
     ·cases he
  ·cases he
 ·cases he
theorem ev_wp {base:Nat} {o:Oper} {eff:Eff} (hb16:base%16=0) (hN:z14 P) (hX:z1e P c.gl c.tb X) (hI:Inv c G h w) (hρ:Rho G ρ a.eval) (he:ev P X base o.op ρ h=some eff)
  (hK:∀ v w',z15 c G h eff v w'→K (a.put o.dst v) w'):o.wp P a w K Q:=by
 have hb15:base%16≠15:=by omega
 have val:∀ {v:Value} {w':World},(execOp a.eval o).run P w = .ok (.value v) w'→z15 c G h eff v w'→o.wp P a w K Q:=fun hrun hA=>by
  unfold Oper.wp;rw [hrun];exact hK _ _ hA
 have pure_:∀ {v:Value} {t:T},(execOp a.eval o).run P w = .ok (.value v) w→T.eff t=some eff→RT G v t→o.wp P a w K Q:=fun hrun ht hr=>by
  obtain rfl:=zfj ht;exact val hrun (z15.pure hI hr)
 obtain ⟨dst,op,type,pos,after,guard⟩:=o;cases op with
 | move x=>
  simp only [ev] at he;cases hx:ρ x with
  | none=>rw [hx] at he;cases he
  | some t=>rw [hx] at he;exact pure_ (by simp [execOp]) he (hρ x t hx)
 | assign x=>
  simp only [ev] at he;cases hx:ρ x with
  | none=>rw [hx] at he;cases he
  | some t=>rw [hx] at he;exact pure_ (by simp [execOp]) he (hρ x t hx)
 | pick cc x y=>
  simp only [ev] at he;cases hb:bool? (ρ cc) with
  | none=>rw [hb] at he;cases he
  | some b=>
   rw [hb] at he;have hc:=RT_v (hρ cc _ (bool?_spec hb));simp only [Option.bind_some] at he;cases b with
   | true=>
    simp only [if_true] at he;cases hx:ρ x with
    | none=>rw [hx] at he;cases he
    | some t=>rw [hx] at he;exact pure_ (by simp [execOp,hc,asBool]) he (hρ x t hx)
   | false=>
    simp only [Bool.false_eq_true,if_false] at he;cases hx:ρ y with
    | none=>rw [hx] at he;cases he
    | some t=>rw [hx] at he;exact pure_ (by simp [execOp,hc,asBool]) he (hρ y t hx)
 | alloc t=>
  simp only [ev] at he;cases hz:z3K P t with
  | none=>rw [hz] at he;cases he
  | some z=>
   rw [hz] at he;simp only [Option.map_some,Option.some.injEq] at he;subst he;obtain ⟨i,zv,_,_,hrun,hre⟩:=z6T (G:=G) (w:=w) hz;refine val ?_ (z15.box hb15 hI hre);simp [execOp,Instr.alloc,hrun,newVar,newRow]
 | box t x=>
  simp only [ev] at he;cases hx:e? (ρ x) with
  | none=>rw [hx] at he;cases he
  | some y=>
   rw [hx] at he;simp only [Option.map_some,Option.some.injEq] at he;subst he;refine val ?_ (z15.box hb15 hI (hρ x _ (e?_spec hx)));simp [execOp,Instr.box,newVar,newRow]
 | build t ps=>
  simp only [ev] at he;cases hb:z88 P t (ps.toList.map fun p=>(p.1,e? (ρ p.2))) with
  | none=>rw [hb] at he;cases he
  | some y=>
   rw [hb] at he;obtain ⟨v,hrun,hre⟩:=zg9 (G:=G) (w:=w) (vs:=ps.map fun (x:Nat×Operand)=>(x.1,a.eval x.2)) hb (by simp) (fun j p q z hp hq hz=>by
    rw [List.getElem?_map] at hp;rw [Array.toList_map,List.getElem?_map] at hq;cases hpj:ps.toList[j]? with
    | none=>rw [hpj] at hp;cases hp
    | some r=>
     rw [hpj] at hp hq;simp at hp hq;subst hp;subst hq;exact hρ r.2 _ (e?_spec hz))
   refine pure_ ?_ he hre;simp [execOp,hrun]
 | buildSlice t n ps=>
  simp only [ev] at he;obtain ⟨v,w',hrun,hA⟩:=z7s (c:=c) hb15 hI hρ he;exact val (by simp [execOp,hrun]) hA
 | makeSlice t n k=>
  simp only [ev] at he;obtain ⟨v,w',hrun,hA⟩:=zhE (c:=c) hb15 hI hρ he;exact val (by simp [execOp,hrun]) hA
 | load t x=>
  simp only [ev] at he;split at he
  ·rename_i cc hx;cases hl:z2n P h t cc with
   | none=>rw [hl] at he;cases he
   | some y=>
    rw [hl] at he;have hr:RC G (a.eval x) cc:=hρ x _ hx;unfold z2n at hl;split at hl
    ·rename_i p off;split at hl
     ·rename_i ty cs hp;obtain ⟨b,us,hloc,_,hB,hcs,_⟩:=hI.obj p _ hp;obtain ⟨b',hloc',hv⟩:=hr;rw [hloc] at hloc';simp at hloc';subst hloc';obtain ⟨v,hrun,hre⟩:=z2f (P:=P) (w:=w) (G:=G) (b:=b) (o:=0) (off:=off) (cs:=cs) (fun j cx hc=>by
       obtain ⟨u,h1,h2⟩:=hcs.get hc;exact ⟨u,by rw [Nat.zero_add,hB.cell,←Array.getElem?_toList];exact h1,h2⟩) hl
      rw [Nat.zero_add] at hrun;refine pure_ ?_ he hre;simp [execOp,Instr.loadAt,hv,Instr.sureAddr,hrun]
     ·cases hl
    ·rename_i l;obtain ⟨g,o,hv,hcell⟩:=hr;obtain ⟨v,hrun,hre⟩:=z2f (P:=P) (w:=w) (G:=G) (b:=g) (o:=o) (off:=0) (cs:=l.map .d) (fun j cx hc=>by
      rw [List.getElem?_map] at hc;cases hj:l[j]? with
      | none=>rw [hj] at hc;cases hc
      | some x=>
       rw [hj] at hc;simp at hc;subst hc;obtain ⟨u,h1,h2⟩:=hcell j x hj;exact ⟨u,hI.imw _ _ h1,h2⟩) hl
     rw [Nat.add_zero] at hrun;refine pure_ ?_ he hre;simp [execOp,Instr.loadAt,hv,Instr.sureAddr,hrun]
    ·cases hl
  ·cases he
 | store t x y=>
  simp only [ev] at he;split at he
  ·rename_i cx ey hx hy;obtain ⟨w',hrun,hA⟩:=zg6 hI (hρ x _ hx) (hρ y _ hy) he;unfold Oper.wp;simp only [execOp,Sem.run_bind,hrun,Result.andThen_ok,Sem.run_pure,Oper.upon_skip];exact hK _ _ hA
  ·cases he
 | nilCheck x=>
  simp only [ev] at he;cases hx:z4A (ρ x) with
  | none=>rw [hx] at he;cases he
  | some t=>
   rw [hx] at he;unfold z4A at hx;split at hx
   ·rename_i p o hp;injection hx with hx;subst hx;have hr:=hρ x _ hp;have hr2:=hr;obtain ⟨b,_,hv⟩:=hr2;refine pure_ ?_ he hr;simp [execOp,hv]
   ·rename_i l hp;injection hx with hx;subst hx;have hr:=hρ x _ hp;have hr2:=hr;obtain ⟨g,o,hv,_⟩:=hr2;refine pure_ ?_ he hr;simp [execOp,hv]
   ·rename_i g aa bb hp;injection hx with hx;subst hx;have hr:=hρ x _ hp;have hv:=RT_v hr;refine pure_ ?_ he hr;simp [execOp,hv]
   ·cases hx
 | binOp op t x y yt=>
  simp only [ev] at he;cases hb:zjk P op t (ρ x) (ρ y) with
  | none=>rw [hb] at he;cases he
  | some r=>
   rw [hb] at he;obtain ⟨v,hrun,hr⟩:=zmM (w:=w) hρ hb;refine pure_ ?_ he hr;simp only [execOp,Sem.run_bind] at hrun ⊢;rw [hrun];rfl
 | unOp op t x=>
  simp only [ev] at he;split at he
  ·rename_i u hx;cases hu:unV op u with
   | none=>rw [hu] at he;cases he
   | some v=>
    rw [hu] at he;have hv:=RT_v (hρ x _ hx);obtain ⟨hrun,h1⟩:=run_un (P:=P) (w:=w) hu;exact pure_ (by simp [execOp,hv,hrun]) he (z8E h1)
  ·cases he
 | convert s d x=>
  simp only [ev] at he;cases hc:zce P s d (ρ x) with
  | none=>rw [hc] at he;cases he
  | some cc=>
   rw [hc] at he;obtain rfl:=zfj he;obtain ⟨v,w',hrun,hA⟩:=zku (c:=c) hI hρ hc;exact val (by simp [execOp,hrun]) hA
 | fieldAddr t x f=>
  simp only [ev] at he;split at he
  ·rename_i cc hx;cases hf:z2Y P t f cc with
   | none=>rw [hf] at he;cases he
   | some cc' =>
    rw [hf] at he;obtain ⟨u,hrun,hr⟩:=z9V (w:=w) hf (hρ x _ hx);exact pure_ (by simp [execOp,hrun]) he hr
  ·cases he
 | field t x f=>
  simp only [ev] at he;cases hx:e? (ρ x) with
  | none=>rw [hx] at he;cases he
  | some z=>
   rw [hx] at he;simp only [Option.bind_some] at he;cases hf:z86 P t f z with
   | none=>rw [hf] at he;cases he
   | some y=>
    rw [hf] at he;obtain ⟨u,hrun,hr⟩:=zhF (w:=w) hf (hρ x _ (e?_spec hx));exact pure_ (by simp [execOp,hrun]) he hr
 | indexAddr t x i=>
  simp only [ev] at he;cases hi:int? (ρ i) with
  | none=>rw [hi] at he;cases he
  | some kn=>
   obtain ⟨k,n⟩:=kn;rw [hi] at he;simp only [Option.bind_some] at he;cases hc:z0j P t (ρ x) n with
   | none=>rw [hc] at he;cases he
   | some cc=>
    rw [hc] at he;have hiv:=RT_v (hρ i _ (int?_spec hi));obtain ⟨tx,htx⟩:∃ tx,ρ x=some tx:=by
     cases hx:ρ x with
     | none=>rw [hx] at hc;unfold z0j at hc;split at hc<;>simp [row?] at hc
     | some tx=>exact ⟨tx,rfl⟩
    obtain ⟨u,hrun,hr⟩:=z9U (k:=k) (w:=w) hc htx (hρ x _ htx);exact pure_ (by simp [execOp,hiv,hrun]) he hr
 | index t x i=>
  simp only [ev] at he;cases hi:int? (ρ i) with
  | none=>rw [hi] at he;cases he
  | some kn=>
   obtain ⟨k,n⟩:=kn;rw [hi] at he;simp only [Option.bind_some] at he;cases hc:z6e P t (ρ x) n with
   | none=>rw [hc] at he;cases he
   | some cc=>
    rw [hc] at he;have hiv:=RT_v (hρ i _ (int?_spec hi));obtain ⟨tx,htx⟩:∃ tx,ρ x=some tx:=by
     cases hx:ρ x with
     | none=>rw [hx] at hc;unfold z6e at hc;split at hc<;>simp [str?,e?] at hc
     | some tx=>exact ⟨tx,rfl⟩
    obtain ⟨u,hrun,hr⟩:=zg8 (k:=k) (w:=w) hc htx (hρ x _ htx);exact pure_ (by simp [execOp,hiv,hrun]) he hr
 | slice t x lo hi mx=>
  cases mx with
  | some m=>simp [ev] at he
  | none=>
   simp only [ev,Option.isSome_none,Bool.false_eq_true,if_false] at he;cases hc:z3n P t (ρ x) (lo.map ρ) (hi.map ρ) with
   | none=>rw [hc] at he;cases he
   | some cc=>
    rw [hc] at he;obtain ⟨u,hrun,hr⟩:=zg7 (w:=w) hρ hc;exact pure_ (by simp [execOp,hrun]) he hr
 | extract x i=>
  simp only [ev] at he;split at he
  ·rename_i xs hx;cases hi:xs[i]? with
   | none=>rw [hi] at he;cases he
   | some y=>
    rw [hi] at he;obtain ⟨vs,hv,h1,h2⟩:=hρ x _ hx;have hlt:i<vs.toList.length:=by rw [h1];exact (List.getElem?_eq_some_iff.1 hi).1
    have hvi:vs[i]? = some (vs[i]'(by simpa using hlt)):=Array.getElem?_eq_getElem _;refine pure_ (v:=vs[i]'(by simpa using hlt)) ?_ he (h2 i _ y (by rw [Array.getElem?_toList];exact hvi) hi);simp [execOp,hv,Instr.extract,hvi]
  ·cases he
 | call cl=>
  obtain ⟨callee,args,argTypes⟩:=cl;cases callee with
  | value f=>exact zji hN hX hI hρ hb16 rfl (by simpa only [ev] using he) hK
  | invoke r m=>simp [ev] at he
  | builtin b=>
   simp only [ev] at he;obtain ⟨args⟩:=args;obtain ⟨argTypes⟩:=argTypes;simp only at he;generalize hga:args=la at he;generalize hgt:argTypes=lt at he;unfold z5F at he;split at he
   ·rename_i x t;subst hga;subst hgt;cases hl:z2B P t (ρ x) with
    | none=>rw [hl] at he;cases he
    | some n=>
     rw [hl] at he;have:=zkt (w:=w) (ty:=type) hρ hl;exact pure_ (by simp [execOp,resolve,invoke,builtin,this]) he (z8E rfl)
   ·rename_i x y t t';subst hga;subst hgt;split at he
    ·rename_i htt;subst htt;obtain ⟨v,w',hrun,hA⟩:=zcg (ty:=type) hb15 hI hρ he;exact val (by simp [execOp,resolve,invoke,builtin,hrun]) hA
    ·cases he
   ·rename_i x y;subst hga;subst hgt;cases hl:zax (ρ x) (ρ y) false with
    | none=>rw [hl] at he;cases he
    | some n=>
     rw [hl] at he;obtain ⟨v,hrun,hr⟩:=zkr (w:=w) hρ hl ⟨argTypes⟩ type;exact pure_ (by simp [execOp,resolve,invoke,builtin];rw [hrun];rfl) he hr
   ·rename_i x y;subst hga;subst hgt;cases hl:zax (ρ x) (ρ y) true with
    | none=>rw [hl] at he;cases he
    | some n=>
     rw [hl] at he;obtain ⟨v,hrun,hr⟩:=zks (w:=w) hρ hl ⟨argTypes⟩ type;exact pure_ (by simp [execOp,resolve,invoke,builtin];rw [hrun];rfl) he hr
   ·cases he
 | _=>simp [ev] at he
end
end Am
end Go.Proofs.YtgmppconibklcaaGreatDoor

namespace Go.Proofs.YtgmppconibklcaaGreatDoor
open Go Go.RowKit
namespace Am
abbrev Env:=List (Nat×T)
abbrev Heap:=List (Nat×O)
structure S where
 env:Env
 heap:Heap
def look {α:Type}:List (Nat×α)→Nat→Option α
 | [],_=>none
 | (i,t)::r,k=>if i=k then some t else look r k
def z4H {α:Type} (p:Nat):List (Nat×α)→List (Nat×α)
 | []=>[]
 | (i,o)::r=>if i=p then z4H p r else (i,o)::z4H p r
def setL (l:Heap) (u:Nat×Option O):Heap:=
 match u.2 with
 | some o=>(u.1,o)::z4H u.1 l
 | none=>z4H u.1 l
def z1Y (ks:List Nat):Env→Env
 | []=>[]
 | (i,t)::r=>(i,t.kill ks)::z1Y ks r
def z1l (ks:List Nat):Heap→Heap
 | []=>[]
 | (i,o)::r=>(i,o.kill ks)::z1l ks r
def putE (dst:Option Nat) (t:T) (env:Env):Env:=
 match dst with
 | some d=>(d,t)::env
 | none=>env
def apply (e:Eff) (dst:Option Nat) (s:S):S:=
 match e.kills with
 | []=>⟨putE dst e.t s.env,e.ups.foldl setL s.heap⟩
 | ks=>⟨putE dst e.t (z1Y ks s.env),e.ups.foldl setL (z1l ks s.heap)⟩
def valOf (gl:Nat→Option (List D)) (env:Nat→Option T):Operand→Option T
 | .tmp t=>env t
 | .const v=>(z9E v).map .e
 | .func f=>some (.v (.func (.func f) #[] #[]))
 | .global g=>(gl g).map fun l=> .e (.one (.ep l))
def gdOf (ops:Array Oper) (o:Oper) (env:Nat→Option T):Option Bool:=
 match o.guard with
 | none=>some true
 | some (j,want)=>match (ops[j]?).bind (·.dst) with
  | none=>some false
  | some d=>match env d with
   | some (.e (.one (.d (.leaf (.bool b)))))=>some (b==want)
   | some .undef=>some false
   | _=>none
def nm (dst:Option Nat):Nat:=match dst with
 | some d=>d*16
 | none=>0
def fits (sz:Nat) (dst:Option Nat):Bool:=match dst with
 | some d=>decide (d<sz)
 | none=>true
section
variable (P:Program) (gl:Nat→Option (List D)) (X:z1C) (sz:Nat)
def zcW (ops:Array Oper) (o:Oper) (s:S):Option S:=
 match gdOf ops o (look s.env) with
 | some true=>if fits sz o.dst then (ev P X (nm o.dst) o.op (valOf gl (look s.env)) (look s.heap)).map fun e=>apply e o.dst s else none
 | some false=>if fits sz o.dst then some ⟨putE o.dst .undef s.env,s.heap⟩ else none
 | none=>none
def zbq (ops:Array Oper):List Oper→S→Option S
 | [],s=>some s
 | o::r,s=>match zcW P gl X sz ops o s with
  | some s'=>zbq ops r s'
  | none=>none
structure Log where
 vals:List T
 objs:List O
 rd:List Nat
 eff:Eff
def rdOf (op:Op) (ρ:Operand→Option T):List Nat:=
 match op with
 | .load _ a=>match ρ a with
  | some (.e (.one (.ref p _)))=>[p]
  | _=>[]
 | .store _ a _=>match ρ a with
  | some (.e (.one (.ref p _)))=>[p]
  | _=>[]
 | .call cl=>match cl.callee,cl.args.toList with
  | .builtin .append,[x,_]=>match ρ x with
   | some (.e (.one (.gr q _ _)))=>[q]
   | _=>[]
  | .value _,args=>z16 (args.map fun x=>e? (ρ x)) []++z0R (args.map fun x=>e? (ρ x)) []
  | _,_=>[]
 | _=>[]
def z4l (o:Oper) (s:S) (e:Eff):Log:=
 ⟨o.op.operands.toList.filterMap (valOf gl (look s.env)),(rdOf o.op (valOf gl (look s.env))).filterMap (look s.heap),rdOf o.op (valOf gl (look s.env)),e⟩
def z4F (ops:Array Oper) (o:Oper) (s:S):Option (S×Log):=
 match gdOf ops o (look s.env) with
 | some true=>if fits sz o.dst then match ev P X (nm o.dst) o.op (valOf gl (look s.env)) (look s.heap) with
   | some e=>some (apply e o.dst s,z4l gl o s e)
   | none=>none
  else none
 | some false=>if fits sz o.dst then some (⟨putE o.dst .undef s.env,s.heap⟩,⟨[],[],[],⟨.undef,[],[]⟩⟩) else none
 | none=>none
def z1w (ops:Array Oper):List Oper→S→Option (S×List Log)
 | [],s=>some (s,[])
 | o::r,s=>match z4F P gl X sz ops o s with
  | some (s',g)=>match z1w ops r s' with
   | some (s'',gs)=>some (s'',g::gs)
   | none=>none
  | none=>none
end
def C.men (ks:List Nat):C→Bool
 | .gr q _ _=>ks.contains q
 | .ref p _=>ks.contains p
 | .sl p _ _=>ks.contains p
 | .dead=>true
 | _=>false
def E.men (ks:List Nat) (x:E):Bool:=x.cells.any (C.men ks)
def T.men (ks:List Nat):T→Bool
 | .e x=>x.men ks
 | .tup xs=>xs.any (E.men ks)
 | .undef=>false
def O.men (ks:List Nat):O→Bool
 | .var _ cs=>cs.any (C.men ks)
 | .own _ _ _=>false
def z5S (ks:List Nat) (u:Nat×Option O):Bool:=match u.2 with
 | some o=>o.men ks
 | none=>false
def Log.men (ks:List Nat) (g:Log):Bool:=match ks with
 | []=>false
 | _=>g.vals.any (T.men ks)||g.objs.any (O.men ks)||g.eff.t.men ks||g.eff.ups.any (z5S ks)
def meet (a b:List Nat):Bool:=a.any fun x=>b.contains x
def z2l (a b:Log):Bool:=
 !meet (a.eff.ups.map (·.1)) b.rd&&!meet (a.eff.ups.map (·.1)) (b.eff.ups.map (·.1))&&!meet (b.eff.ups.map (·.1)) a.rd&&!b.men a.eff.kills&&!a.men b.eff.kills
def z8C:List Oper→List Nat→List Nat
 | [],acc=>acc
 | o::r,acc=>z8C r (acc++[o.after.toList.foldl (fun s e=>if Region.binds .any e then s|||2^e.on|||acc.getD e.on 0 else s) 0])
def ancs (ops:Array Oper):List Nat:=z8C ops.toList []
def ahead (t:List Nat) (i j:Nat):Bool:=(t.getD j 0).testBit i
def z2d (t:List Nat) (i:Nat) (a:Log):Nat→List Log→Bool
 | _,[]=>true
 | j,b::r=>(ahead t i j||z2l a b)&&z2d t i a (j+1) r
def z1t (t:List Nat):Nat→List Log→Bool
 | _,[]=>true
 | i,a::r=>z2d t i a (i+1) r&&z1t t (i+1) r
def z3I (ops:Array Oper) (gs:List Log):Bool:=z1t (ancs ops) 0 gs
def z7d (ops:Array Oper) (t:List Nat) (i:Nat) (a:Oper):Nat→List Oper→Bool
 | _,[]=>true
 | j,b::r=>(ahead t i j||Oper.apart ops a b)&&z7d ops t i a (j+1) r
def z5M (ops:Array Oper) (t:List Nat):Nat→List Oper→Bool
 | _,[]=>true
 | i,a::r=>z7d ops t i a (i+1) r&&z5M ops t (i+1) r
def zay:Nat→List Oper→Bool
 | _,[]=>true
 | i,o::r=>(o.after.all fun e=>!Region.binds .any e||decide (e.on<i))&&zay (i+1) r
def z9z (ops:Array Oper):Bool:=zay 0 ops.toList&&z5M ops (ancs ops) 0 ops.toList
inductive Ex where
 | normal
 | exit (id:Nat)
 | ret
def restrict (ks:Option (List Nat)) (s:S):S:=
 match ks with
 | none=>s
 | some ks=>⟨ks.filterMap fun k=>(look s.env k).map fun t=>(k,t),s.heap⟩
def iter (f:S→Option (Ex×S)):Nat→S→Option (Ex×S)
 | 0,_=>none
 | n+1,s=>match f s with
  | some (.normal,s')=>iter f n s'
  | r=>r
section
variable (P:Program) (gl:Nat→Option (List D)) (X:z1C) (sz:Nat) (lv:Nat→Option (List Nat)) (F:Nat)
def z3u (ops:Array Oper) (draw:Bool) (s:S):Option S:=
 if draw then match z1w P gl X sz ops ops.toList s with
  | some (s',gs)=>if z3I ops gs&&z9z ops then some s' else none
  | none=>none
 else zbq P gl X sz ops ops.toList s
def z0L:Code→S→Option (Ex×S)
 | .skip,s=>some (.normal,s)
 | .region id ops draw,s=>match z3u P gl X sz ops draw (restrict (lv id) s) with
  | some s'=>some (.normal,s')
  | none=>none
 | .seq a b,s=>match z0L a s with
  | some (.normal,s')=>z0L b s'
  | r=>r
 | .cond c a b,s=>match bool? (valOf gl (look s.env) c) with
  | some true=>z0L a s
  | some false=>z0L b s
  | none=>none
 | .block id b,s=>match z0L b s with
  | some (.exit id',s')=>if id'=id then some (.normal,s') else some (.exit id',s')
  | r=>r
 | .loop b,s=>iter (z0L b) F s
 | .exit id,s=>some (.exit id,s)
 | .ret,s=>some (.ret,s)
 | .label _,s=>some (.normal,s)
 | _,_=>none
def resE (env:Nat→Option T) (h:Nat→Option O):ResultVar→Option E
 | .tmp t=>match env t with
  | some (.e x)=>some x
  | _=>none
 | .cell a ty=>match env a with
  | some (.e (.one c))=>z2n P h ty c
  | _=>none
def z6K (env:Nat→Option T) (h:Nat→Option O):List ResultVar→Option (List E)
 | []=>some []
 | r::rs=>match resE P env h r with
  | some x=>(z6K env h rs).map (x::·)
  | none=>none
end
structure Out where
 used:List Nat
 os:List O
def outC (kn:Bool) (h:Nat→Option O) (z:Option Nat) (c:C) (u:Out):C×Out:=
 match c with
 | .gr q s l=>if u.used.contains q then (.d (.row s l),u) else match h q with
  | some (.own e s' n)=>(.gr (u.os.length*16+14) s l,⟨u.used++[q],u.os++[.own e s' n]⟩)
  | _=>(.d (.row s l),u)
 | .ref _ _=>(.dead,u)
 | .sl _ _ _=>(.dead,u)
 | .nilS=>if kn then (.nilS,u) else (C.fz z .nilS,u)
 | c=>(c.fz z,u)
def zai (kn:Bool) (h:Nat→Option O):List (Option Nat)→List C→Out→List C×Out
 | _,[],u=>([],u)
 | zs,c::cs,u=>
  let r:=outC kn h (zs.headD none) c u
  let t:=zai kn h zs.tail cs r.2
  (r.1::t.1,t.2)
def outE (kn:Bool) (h:Nat→Option O) (zs:List (Option Nat)) (x:E) (u:Out):E×Out:=
 match x with
 | .one c=>let r:=outC kn h (zs.headD none) c u;(.one r.1,r.2)
 | .agg cs=>let r:=zai kn h zs cs u;(.agg r.1,r.2)
def z4h (P:Program) (kn:Bool) (h:Nat→Option O):List TypeId→List E→Out→List E×Out
 | _,[],u=>([],u)
 | ts,x::xs,u=>
  let r:=outE kn h (slz P 8 (ts.headD 0)) x u
  let t:=z4h P kn h ts.tail xs r.2
  (r.1::t.1,t.2)
def tupT:List E→T
 | [x]=> .e x
 | xs=> .tup xs
def enter:Nat→List E→Env
 | _,[]=>[]
 | i,x::xs=>(i,.e x)::enter (i+1) xs
def zbG:Nat→List O→Heap
 | _,[]=>[]
 | i,o::os=>(i*16+15,o)::zbG (i+1) os
def z26 (P:Program) (h:Nat→Option O):Nat→List O→Option (List O)
 | _,[]=>some []
 | i,_::os=>match (h (i*16+15)).bind (zdi P) with
  | some o=>(z26 P h (i+1) os).map (o::·)
  | none=>none
def minus (zs:List Nat) (h:Nat→Option O):Nat→Option O:=fun p=>if p∈zs then none else h p
def zmN (P:Program) (gl:Nat→Option (List D)) (X:z1C) (F:Nat) (lv:Nat→Option (List Nat)) (own:Bool) (fn:Func) (args:List E) (os:List O):Option (T×List O×List O):=
 match fn.body with
 | none=>none
 | some c=>
  if args.length≤fn.ntmps then
   match z0L P gl X fn.ntmps lv F c ⟨enter 0 args,zbG 0 os⟩ with
   | some (.exit _,_)=>none
   | some (_,s)=>match z6K P (look s.env) (look s.heap) fn.results.toList with
    | some xs=>match z26 P (minus (z16 (xs.map some) []) (look s.heap)) 0 os with
     | some os' =>
      let r:=z4h P own (if own then minus (z16 (xs.map some) []) (look s.heap) else fun _=>none) fn.resultTypes.toList (xs.map (setE (look s.heap))) ⟨[],[]⟩
      some (tupT r.1,r.2.os,os')
     | none=>none
    | none=>none
   | none=>none
  else none
structure Cfg where
 P:Program
 gl:Nat→Option (List D)
 ov:FuncId→Option (List E→List O→Option (T×List O×List O))
 lv:FuncId→Nat→Option (List Nat)
 own:FuncId→Bool
 F:Nat
def runF (K:Cfg):Nat→z1C
 | 0=>fun _ _ _=>none
 | n+1=>fun f args os=>match K.ov f with
  | some g=>g args os
  | none=>match K.P.funcs[f]? with
   | some fn=>zmN K.P K.gl (runF K n) K.F (K.lv f) (K.own f) fn args os
   | none=>none
end Am
end Go.Proofs.YtgmppconibklcaaGreatDoor

namespace Go.Proofs.YtgmppconibklcaaGreatDoor
open Go Go.RowKit
namespace Am
theorem z6C (ks:List Nat):∀ (l:Env) (k:Nat),look (z1Y ks l) k=(look l k).map (T.kill ks)
 | [],k=>rfl
 | (i,t)::r,k=>by
  simp only [z1Y,look];split
  ·rfl
  ·exact z6C ks r k
theorem z5x (ks:List Nat):∀ (l:Heap) (k:Nat),look (z1l ks l) k=(look l k).map (O.kill ks)
 | [],k=>rfl
 | (i,t)::r,k=>by
  simp only [z1l,look];split
  ·rfl
  ·exact z5x ks r k
theorem z4z {α:Type} (p:Nat):∀ (l:List (Nat×α)) (k:Nat),look (z4H p l) k=if k=p then none else look l k
 | [],k=>by simp [z4H,look]
 | (i,t)::r,k=>by
  simp only [z4H,look];split
  ·rename_i h;subst h;rw [z4z i r k];by_cases hk:k=i
   ·simp [hk]
   ·rw [if_neg hk,if_neg hk,if_neg (fun e=>hk e.symm)]
  ·rename_i h;simp only [look];rw [z4z p r k];by_cases hk:k=p
   ·subst hk;simp [h]
   ·simp [hk]
theorem ziN (l:Heap) (u:Nat×Option O):look (setL l u)=hSet (look l) u:=by
 funext k
 obtain ⟨p,o⟩:=u;cases o with
 | none=>simp only [setL,hSet,z4z]
 | some o=>
  simp only [setL,hSet,look,z4z];by_cases hk:k=p
  ·subst hk;simp
  ·rw [if_neg (fun e=>hk e.symm),if_neg hk,if_neg hk]
theorem z7U:∀ (us:List (Nat×Option O)) (l:Heap),look (us.foldl setL l)=us.foldl hSet (look l)
 | [],l=>rfl
 | u::us,l=>by rw [List.foldl_cons,List.foldl_cons,z7U us,ziN]
theorem z7S {h:Objs}:(fun p=>(h p).map (O.kill []))=h:=by
 funext p
 cases h p with
 | none=>rfl
 | some o=>simp [O.z0I]
theorem z9J (e:Eff) (dst:Option Nat) (s:S):look (apply e dst s).heap=hUp e (look s.heap):=by
 obtain ⟨t,ups,ks⟩:=e;cases ks with
 | nil=>
  show look (ups.foldl setL s.heap)=ups.foldl hSet _;rw [z7U];simp only [z7S]
 | cons k ks=>
  show look (ups.foldl setL (z1l (k::ks) s.heap))=ups.foldl hSet _;rw [z7U]
  congr 1
  funext p
  rw [z5x]
theorem z71 (dst:Option Nat) (t:T) (env:Env) (k:Nat):look (putE dst t env) k=if dst=some k then some t else look env k:=by
 cases dst with
 | none=>simp [putE]
 | some d=>
  simp only [putE,look];by_cases h:d=k
  ·simp [h]
  ·simp [h]
theorem zcE (e:Eff) (dst:Option Nat) (s:S) (k:Nat):look (apply e dst s).env k=if dst=some k then some e.t else (look s.env k).map (T.kill e.kills):=by
 obtain ⟨t,ups,ks⟩:=e;cases ks with
 | nil=>
  show look (putE dst t s.env) k=_;rw [z71];simp only;split
  ·rfl
  ·cases look s.env k with
   | none=>rfl
   | some x=>simp [T.z0I]
 | cons q ks=>
  show look (putE dst t (z1Y (q::ks) s.env)) k=_;rw [z71,z6C]
theorem nm_16 (dst:Option Nat):nm dst%16=0:=by cases dst<;>simp [nm]
def EnvR (G:Gh) (env:Nat→Option T) (tmps:Array Value):Prop:=∀ k t,env k=some t→∃ v,tmps[k]? = some v∧RT G v t
def RelS (c:Ctx) (sz:Nat) (s:S) (a:Act) (w:World):Prop:=a.defers=[]∧a.tmps.size=sz∧∃ G,EnvR G (look s.env) a.tmps∧Inv c G (look s.heap) w
section
variable {P:Program} {c:Ctx} {X:z1C} {sz:Nat} {a:Act} {w:World} {s s':S} {ops:Array Oper}
theorem zek {G:Gh} {env:Nat→Option T} {h:Objs} (hI:Inv c G h w) (he:EnvR G env a.tmps):Rho G (valOf c.gl env) a.eval:=by
 intro x t hx;cases x with
 | tmp k=>
  obtain ⟨v,hv,hr⟩:=he k t hx;have:a.eval (.tmp k)=v:=by
   show a.tmps.getD k undef=v;simp [hv]
  rw [this];exact hr
 | const v=>
  simp only [valOf] at hx;cases hc:z9E v with
  | none=>rw [hc] at hx;cases hx
  | some e=>
   rw [hc] at hx;simp at hx;subst hx;exact zcu hc
 | func f=>
  simp only [valOf,Option.some.injEq] at hx;subst hx;exact z8E rfl
 | global g=>
  simp only [valOf] at hx;cases hg:c.gl g with
  | none=>rw [hg] at hx;cases hx
  | some l=>
   rw [hg] at hx;simp at hx;subst hx;exact hI.glob g l hg
theorem zdF {G:Gh} {o:Oper} {env:Nat→Option T} {b:Bool} (he:EnvR G env a.tmps) (h:gdOf ops o env=some b):Region.wanted o (yielded ops a.tmps)=b:=by
 unfold gdOf at h;unfold Region.wanted;cases hg:o.guard with
 | none=>rw [hg] at h;injection h with h
 | some jw=>
  obtain ⟨j,want⟩:=jw;rw [hg] at h;simp only at h ⊢;unfold yielded;cases hd:(ops[j]?).bind (·.dst) with
  | none=>
   rw [hd] at h;simp at h;subst h;simp
  | some d=>
   rw [hd] at h;simp only at h;split at h
   ·rename_i bb hv;injection h with h;subst h;obtain ⟨v,h1,h2⟩:=he d _ hv;have:=RT_v h2;subst this;simp [h1]
   ·rename_i hv;injection h with h;subst h;obtain ⟨v,h1,h2⟩:=he d _ hv;have h2:v=undef:=h2;subst h2;simp [h1,undef]
   ·cases h
theorem z6Y (a:Act) (dst:Option Nat) (v:Value):(a.put dst v).tmps.size=a.tmps.size:=by cases dst<;>simp [Act.put]
theorem z3P (a:Act) (dst:Option Nat) (v:Value):(a.put dst v).defers=a.defers:=by cases dst<;>rfl
theorem zab (a:Act) (dst:Option Nat) (v:Value) (hf:fits a.tmps.size dst=true) (k:Nat):(a.put dst v).tmps[k]? = if dst=some k then some v else a.tmps[k]? := by
 cases dst with
 | none=>simp [Act.put]
 | some d=>
  simp only [fits,decide_eq_true_eq] at hf;simp only [Act.put,Array.getElem?_setIfInBounds];by_cases h:d=k
  ·subst h;simp [hf]
  ·simp [h]
theorem z8O {o:Oper} {K:Act→World→Prop} {Q:Exit→Act→World→Prop} (hN:z14 P) (hX:z1e P c.gl c.tb X) (hs:zcW P c.gl X sz ops o s=some s') (hR:RelS c sz s a w) (hK:∀ a w,RelS c sz s' a w→K a w):
  if Region.wanted o (yielded ops a.tmps) then o.wp P a w K Q else K (a.put o.dst undef) w:=by
 obtain ⟨hd,hsz,G,he,hI⟩:=hR;unfold zcW at hs;cases hg:gdOf ops o (look s.env) with
 | none=>rw [hg] at hs;cases hs
 | some b=>
  rw [hg] at hs;rw [zdF he hg];cases b with
  | true=>
   simp only [if_true] at hs ⊢;split at hs
   ·rename_i hf;cases hev:ev P X (nm o.dst) o.op (valOf c.gl (look s.env)) (look s.heap) with
    | none=>rw [hev] at hs;cases hs
    | some e=>
     rw [hev] at hs;simp at hs;subst hs;refine ev_wp (nm_16 _) hN hX hI (zek hI he) hev (fun v w' hA=>hK _ _ ?_);obtain ⟨G',h1,h2,h3,h4⟩:=hA;refine ⟨by rw [z3P];exact hd,by rw [z6Y];exact hsz,G',fun k t hk=>?_,by rw [z9J];exact h4⟩;rw [zcE] at hk;rw [zab a o.dst v (by rw [hsz];exact hf)];by_cases hdk:o.dst=some k
     ·rw [if_pos hdk] at hk ⊢;injection hk with hk;subst hk;exact ⟨v,rfl,h3⟩
     ·rw [if_neg hdk] at hk ⊢;cases hl:look s.env k with
      | none=>rw [hl] at hk;cases hk
      | some t0=>
       rw [hl] at hk;simp at hk;subst hk;obtain ⟨u,h5,h6⟩:=he k t0 hl;exact ⟨u,h5,h6.kill h1 h2⟩
   ·cases hs
  | false=>
   simp only [Bool.false_eq_true,if_false] at hs ⊢;split at hs
   ·rename_i hf;injection hs with hs;subst hs;refine hK _ _ ⟨by rw [z3P];exact hd,by rw [z6Y];exact hsz,G,fun k t hk=>?_,hI⟩;rw [z71] at hk;rw [zab a o.dst undef (by rw [hsz];exact hf)];by_cases hdk:o.dst=some k
    ·rw [if_pos hdk] at hk ⊢;injection hk with hk;subst hk;exact ⟨undef,rfl,rfl⟩
    ·rw [if_neg hdk] at hk ⊢;exact he k t hk
   ·cases hs
theorem zbN {Q:Exit→Act→World→Prop} (hN:z14 P) (hX:z1e P c.gl c.tb X):∀ (l:List Oper) (s s':S) (a:Act) (w:World),zbq P c.gl X sz ops l s=some s'→RelS c sz s a w→(∀ a w,RelS c sz s' a w→Q .normal a w)→wpList P ops Q l a w
 | [],s,s',a,w,h,hR,hQ=>by
  simp [zbq] at h;subst h;exact hQ a w hR
 | o::l,s,s',a,w,h,hR,hQ=>by
  rw [zbq] at h;cases hs:zcW P c.gl X sz ops o s with
  | none=>rw [hs] at h;cases h
  | some s1=>
   rw [hs] at h;exact wpList_step fun K hK=>z8O hN hX hs hR fun a w hR'=>hK a w (zbN hN hX l s1 s' a w h hR' hQ)
end
end Am
end Go.Proofs.YtgmppconibklcaaGreatDoor

namespace Go.Proofs.YtgmppconibklcaaGreatDoor
open Go Go.RowKit
namespace Am
theorem C.z19 {ks:List Nat} {c:C} (h:(c.kill ks).men ks=false):c.kill ks=c:=by
 cases c with
 | gr q s l=>
  simp only [C.kill] at h ⊢;split at h
  ·simp [C.men] at h
  ·rename_i hh;rw [if_neg hh]
 | ref p o=>
  simp only [C.kill] at h ⊢;split at h
  ·simp [C.men] at h
  ·rename_i hh;rw [if_neg hh]
 | sl p n s=>
  simp only [C.kill] at h ⊢;split at h
  ·simp [C.men] at h
  ·rename_i hh;rw [if_neg hh]
 | _=>rfl
theorem C.z1c {ks:List Nat} {c:C} (h:c.men ks=false):c.kill ks=c:=by
 cases c with
 | gr q s l=>simp only [C.men] at h;simp only [C.kill,h,Bool.false_eq_true,if_false]
 | ref p o=>simp only [C.men] at h;simp only [C.kill,h,Bool.false_eq_true,if_false]
 | sl p n s=>simp only [C.men] at h;simp only [C.kill,h,Bool.false_eq_true,if_false]
 | _=>rfl
theorem Cs.z19 {ks:List Nat}:∀ {cs:List C},(cs.map (C.kill ks)).any (C.men ks)=false→cs.map (C.kill ks)=cs
 | [],_=>rfl
 | c::cs,h=>by
  simp only [List.map_cons,List.any_cons,Bool.or_eq_false_iff] at h;rw [List.map_cons,C.z19 h.1,Cs.z19 h.2]
theorem Cs.z1c {ks:List Nat}:∀ {cs:List C},cs.any (C.men ks)=false→cs.map (C.kill ks)=cs
 | [],_=>rfl
 | c::cs,h=>by
  simp only [List.any_cons,Bool.or_eq_false_iff] at h;rw [List.map_cons,C.z1c h.1,Cs.z1c h.2]
theorem E.z19 {ks:List Nat} {x:E} (h:(x.kill ks).men ks=false):x.kill ks=x:=by
 cases x with
 | one c=>simp [E.kill,E.men,E.cells] at h ⊢;exact C.z19 h
 | agg cs=>simp only [E.kill,E.men,E.cells] at h ⊢;rw [Cs.z19 h]
theorem E.z1c {ks:List Nat} {x:E} (h:x.men ks=false):x.kill ks=x:=by
 cases x with
 | one c=>simp [E.kill,E.men,E.cells] at h ⊢;exact C.z1c h
 | agg cs=>simp only [E.kill,E.men,E.cells] at h ⊢;rw [Cs.z1c h]
theorem Es.z19 {ks:List Nat}:∀ {cs:List E},(cs.map (E.kill ks)).any (E.men ks)=false→cs.map (E.kill ks)=cs
 | [],_=>rfl
 | c::cs,h=>by
  simp only [List.map_cons,List.any_cons,Bool.or_eq_false_iff] at h;rw [List.map_cons,E.z19 h.1,Es.z19 h.2]
theorem Es.z1c {ks:List Nat}:∀ {cs:List E},cs.any (E.men ks)=false→cs.map (E.kill ks)=cs
 | [],_=>rfl
 | c::cs,h=>by
  simp only [List.any_cons,Bool.or_eq_false_iff] at h;rw [List.map_cons,E.z1c h.1,Es.z1c h.2]
theorem T.z19 {ks:List Nat} {t:T} (h:(t.kill ks).men ks=false):t.kill ks=t:=by
 cases t with
 | e x=>simp only [T.kill,T.men] at h ⊢;rw [E.z19 h]
 | tup xs=>simp only [T.kill,T.men] at h ⊢;rw [Es.z19 h]
 | undef=>rfl
theorem T.z1c {ks:List Nat} {t:T} (h:t.men ks=false):t.kill ks=t:=by
 cases t with
 | e x=>simp only [T.kill,T.men] at h ⊢;rw [E.z1c h]
 | tup xs=>simp only [T.kill,T.men] at h ⊢;rw [Es.z1c h]
 | undef=>rfl
theorem O.z19 {ks:List Nat} {o:O} (h:(o.kill ks).men ks=false):o.kill ks=o:=by
 cases o with
 | var ty cs=>simp only [O.kill,O.men] at h ⊢;rw [Cs.z19 h]
 | own e s n=>rfl
theorem O.z1c {ks:List Nat} {o:O} (h:o.men ks=false):o.kill ks=o:=by
 cases o with
 | var ty cs=>simp only [O.kill,O.men] at h ⊢;rw [Cs.z1c h]
 | own e s n=>rfl
theorem C.z1A (a b:List Nat) (c:C):(c.kill a).kill b=(c.kill b).kill a:=by
 cases c with
 | gr q s l=>
  by_cases h1:q∈a<;>by_cases h2:q∈b<;>simp [C.kill,h1,h2]
 | ref p o=>
  by_cases h1:p∈a<;>by_cases h2:p∈b<;>simp [C.kill,h1,h2]
 | sl p n s=>
  by_cases h1:p∈a<;>by_cases h2:p∈b<;>simp [C.kill,h1,h2]
 | _=>rfl
theorem E.z1A (a b:List Nat) (x:E):(x.kill a).kill b=(x.kill b).kill a:=by
 cases x with
 | one c=>simp [E.kill,C.z1A a b]
 | agg cs=>simp [E.kill,Function.comp_def,C.z1A a b]
theorem T.z1A (a b:List Nat) (t:T):(t.kill a).kill b=(t.kill b).kill a:=by
 cases t with
 | e x=>simp [T.kill,E.z1A a b]
 | tup xs=>simp [T.kill,Function.comp_def,E.z1A a b]
 | undef=>rfl
theorem O.z1A (a b:List Nat) (o:O):(o.kill a).kill b=(o.kill b).kill a:=by
 cases o with
 | var ty cs=>simp [O.kill,Function.comp_def,C.z1A a b]
 | own e s n=>rfl
section
variable {P:Program} {X:z1C} {gl:Nat→Option (List D)} {sz:Nat} {ops:Array Oper}
theorem z8A {base:Nat} {t:TypeId} {x y:Option T} {h h':Objs} (hh:∀ q s l,x=some (.e (.one (.gr q s l)))→h q=h' q):z08 P h base t x y=z08 P h' base t x y:=by
 unfold z08;split
 ·split
  ·rfl
  ·split
   ·split
    ·rfl
    ·rename_i q s l;rw [hh q s l rfl]
    ·rfl
   ·rfl
 ·rfl
theorem zge {op:Op} {ρ ρ':Operand→Option T} (hρ:∀ x∈op.operands,ρ x=ρ' x):rdOf op ρ=rdOf op ρ':=by
 cases op<;>simp only [Op.operands] at hρ<;>simp only [rdOf]
 case load t a=>rw [hρ a (by simp)]
 case store t a x=>rw [hρ a (by simp)]
 case call cl=>
  obtain ⟨callee,⟨args⟩,ts⟩:=cl;cases callee with
  | builtin b=>
   cases b<;>simp only;match args,hρ with
   | [],_=>rfl
   | [x],_=>rfl
   | [x,y],hρ=>simp only;rw [hρ x (by simp [Call.operands])]
   | x::y::z::r,_=>rfl
  | value f=>
   simp only;rw [List.map_congr_left (l:=args) (fun x hx=>by rw [hρ x (by simp [Call.operands,hx])])]
  | invoke r m=>rfl
theorem z3w (h:Nat→Option O):∀ (cs:List C) (ps:List Nat),refsOf (cs.map (setC h)) ps=refsOf cs ps
 | [],ps=>rfl
 | c::cs,ps=>by
  cases c with
  | ref p o=>simp only [List.map_cons,setC,refsOf];exact z3w h cs _
  | sl p n s=>
   have:∀ ps,refsOf (setC h (.sl p n s)::cs.map (setC h)) ps=refsOf (cs.map (setC h)) ps:=by
    intro ps;simp only [setC];split
    ·split
     ·split<;>rfl
     ·rfl
    ·rfl
   rw [List.map_cons,this,refsOf];exact z3w h cs _;all_goals simp
  | _=>simp only [List.map_cons,setC,refsOf];exact z3w h cs _
theorem z5Z (h:Nat→Option O):∀ (xs:List (Option E)) (ps:List Nat),z0R (xs.map (Option.map (setE h))) ps=z0R xs ps
 | [],ps=>rfl
 | none::xs,ps=>by simp only [List.map_cons,Option.map_none,z0R];exact z5Z h xs ps
 | some x::xs,ps=>by
  simp only [List.map_cons,Option.map_some,z0R];have:refsOf (setE h x).cells ps=refsOf x.cells ps:=by
   cases x with
   | one c=>exact z3w h [c] ps
   | agg cs=>exact z3w h cs ps
  rw [this];exact z5Z h xs _
theorem z8R {h h':Nat→Option O} {c:C} (hh:∀ p n s,c = .sl p n s→h p=h' p):setC h c=setC h' c:=by
 cases c with
 | sl p n s=>simp only [setC,hh p n s rfl]
 | _=>rfl
theorem zg5 {h h':Nat→Option O} {x:E} (hh:∀ p n s,C.sl p n s∈x.cells→h p=h' p):setE h x=setE h' x:=by
 cases x with
 | one c=>simp only [setE];rw [z8R fun p n s e=>hh p n s (by simp [E.cells,e])]
 | agg cs=>simp only [setE];rw [List.map_congr_left fun c hc=>z8R fun p n s e=>hh p n s (by subst e;exact hc)]
theorem zcf {base:Nat} {f:Option T} {args:List (Option E)} {h h':Objs} (hh:∀ p,p∈z16 args []++z0R args []→h p=h' p):z5E P X h base f args=z5E P X h' base f args:=by
 have e1:args.map (Option.map (setE h))=args.map (Option.map (setE h')):=List.map_congr_left fun x hx=>by
  cases x with
  | none=>rfl
  | some x=>
   simp only [Option.map_some];rw [zg5 fun p n s hs=>hh p (List.mem_append_left _ (z2K _ _ _ (.inr ⟨x,n,s,hx,hs⟩)))]
 have e2:z1k P h (z0R (args.map (Option.map (setE h'))) [])=z1k P h' (z0R (args.map (Option.map (setE h'))) []):=z3d fun p hp=>hh p (List.mem_append_right _ (by rw [z5Z] at hp;exact hp))
 unfold z5E;simp only [e1,e2]
theorem zlm {base:Nat} {op:Op} {ρ ρ':Operand→Option T} {h h':Objs} (hρ:∀ x∈op.operands,ρ x=ρ' x) (hh:∀ p∈rdOf op ρ,h p=h' p):ev P X base op ρ h=ev P X base op ρ' h':=by
 have parts:∀ ps:Array (Nat×Operand),(∀ x∈(ps.toList.map (·.2)).toArray,ρ x=ρ' x)→(ps.toList.map fun p=>(p.1,e? (ρ p.2)))=ps.toList.map fun p=>(p.1,e? (ρ' p.2)):=fun ps hp=>
  List.map_congr_left fun p hm=>by rw [hp p.2 (by simp;exact ⟨p.1,by simpa using hm⟩)]
 cases op<;>simp only [Op.operands] at hρ<;>simp only [ev]
 case move x=>rw [hρ x (by simp)]
 case assign x=>rw [hρ x (by simp)]
 case pick c a b=>rw [hρ c (by simp),hρ a (by simp),hρ b (by simp)]
 case box t x=>rw [hρ x (by simp)]
 case build t ps=>rw [parts ps hρ]
 case buildSlice t n ps=>rw [parts ps hρ]
 case makeSlice t n k=>rw [hρ n (by simp),hρ k (by simp)]
 case load t a=>
  have ha:=hρ a (by simp);simp only [rdOf] at hh;rw [←ha];split
  ·rename_i cc hcc;rw [hcc] at hh;unfold z2n;cases cc with
   | ref p off=>simp only;rw [hh p (by simp)]
   | _=>rfl
  ·rfl
 case store t a x=>
  have ha:=hρ a (by simp);have hx:=hρ x (by simp);simp only [rdOf] at hh;rw [←ha,←hx];split
  ·rename_i cc ex hcc hex;rw [hcc] at hh;unfold z2X;cases cc with
   | ref p off=>simp only;rw [hh p (by simp)]
   | _=>rfl
  ·rfl
 case nilCheck x=>rw [hρ x (by simp)]
 case binOp op t x y yt=>rw [hρ x (by simp),hρ y (by simp)]
 case unOp op t x=>rw [hρ x (by simp)]
 case convert s d x=>rw [hρ x (by simp)]
 case fieldAddr t x f=>rw [hρ x (by simp)]
 case field t x f=>rw [hρ x (by simp)]
 case indexAddr t x i=>rw [hρ x (by simp),hρ i (by simp)]
 case index t x i=>rw [hρ x (by simp),hρ i (by simp)]
 case slice t x lo hi mx=>
  split
  ·rfl
  ·rw [hρ x (by simp)];cases lo with
   | none=>
    cases hi with
    | none=>rfl
    | some hi=>simp only [Option.map_some,Option.map_none];rw [hρ hi (by simp)]
   | some lo=>
    cases hi with
    | none=>simp only [Option.map_some,Option.map_none];rw [hρ lo (by simp)]
    | some hi=>simp only [Option.map_some];rw [hρ hi (by simp),hρ lo (by simp)]
 case extract x i=>rw [hρ x (by simp)]
 case call cl=>
  obtain ⟨callee,⟨args⟩,ts⟩:=cl;cases callee with
  | value f=>
   simp only [Call.operands] at hρ ⊢;rw [←hρ f (by simp),←List.map_congr_left (l:=args) (f:=fun x=>e? (ρ x)) (g:=fun x=>e? (ρ' x)) (fun x hx=>by rw [hρ x (by simp [hx])])];exact zcf fun p hp=>hh p hp
  | invoke r m=>rfl
  | builtin b=>
   simp only [Call.operands] at hρ ⊢;obtain ⟨ts⟩:=ts;simp only [List.toList_toArray] at hρ ⊢;have hρ2:∀ x∈args,ρ x=ρ' x:=fun x hx=>hρ x (by simp [hx])
   clear hρ;simp only [rdOf] at hh;revert hh hρ2;generalize args=la;intro hh hρ;unfold z5F;split
   ·rename_i x t;rw [hρ x (by simp)]
   ·rename_i x y t t';rw [←hρ x (by simp),←hρ y (by simp)];split
    ·refine z8A (fun q s l hq=>hh q ?_);simp only;rw [hq];simp
    ·rfl
   ·rename_i x y;rw [hρ x (by simp),hρ y (by simp)]
   ·rename_i x y;rw [hρ x (by simp),hρ y (by simp)]
   ·rfl
end
end Am
end Go.Proofs.YtgmppconibklcaaGreatDoor

