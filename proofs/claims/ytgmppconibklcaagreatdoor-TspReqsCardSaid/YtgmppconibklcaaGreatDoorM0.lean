/- Part of the proof. No condition. -/
import Derived.WalkKit
import Derived.Maps.AppendAt
import Derived.Deep.AppendLies
import Derived.Deep.Draws
import Derived.Deep.OwnRows
import Derived.Deep.QuietTactic
import Derived.RegionTactic
import Derived.OwnWalk
import Derived.ChangeSame
import Derived.Lib.Hide
import Derived.Laws.OwnMore
import Derived.Laws.Rows
import Derived.ProofKit
import Derived.Lib.UnsafeStr
import Derived.Lib.BufferRead
import Derived.Laws.IdiomStrings
set_option maxHeartbeats 40000000
set_option maxRecDepth 100000
set_option linter.unusedVariables false
set_option linter.unusedSimpArgs false
namespace Go.Proofs.YtgmppconibklcaaGreatDoor
open Go Go.RowKit Go.WideShapes Go.ChangeShapes
theorem z4t (a:Addr) (n:Nat):(a.add n).block=a.block:=by unfold Addr.add;split<;>rfl
theorem z6m (a:Addr) (i j:Nat):(a.add i).add j=a.add (i+j):=by
 unfold Addr.add;by_cases hi:i=0<;>by_cases hj:j=0<;>simp [hi,hj,Nat.add_assoc]

def Reads (w:World) (B size:Nat) (A:Option Addr) (n:Nat) (xs:List Value):Prop:=
 xs.length=n*size∧(0<n→∃ ad,A=some ad∧ad.block<B∧∀ j u,xs[j]? = some u→w.cell? (ad.add j)=some u)

section
variable {w w':World} {B B' size n:Nat} {A:Option Addr} {xs:List Value}
theorem Reads.none_:Reads w B size A 0 []:=⟨by simp,fun h=>absurd h (by omega)⟩
theorem Reads.at_ {k:Nat} (h:Reads w B 1 A n xs) (hk:k<n):∃ ad u,A=some ad∧ad.block<B∧xs[k]? = some u∧w.cell? (ad.add k)=some u:=by
 obtain ⟨ad,e,hb,hc⟩:=h.2 (by omega);have hl:k<xs.length:=by have:=h.1;omega
 exact ⟨ad,xs[k],e,hb,List.getElem?_eq_getElem hl,hc k _ (List.getElem?_eq_getElem hl)⟩
theorem Reads.keep (h:Reads w B size A n xs) (hk:∀ p:Addr,p.block<B→w'.cell? p=w.cell? p):Reads w' B size A n xs:=
 ⟨h.1,fun hn=>by
  obtain ⟨ad,e,hb,hc⟩:=h.2 hn;exact ⟨ad,e,hb,fun j u hu=>(hk _ (by rw [z4t];exact hb)).trans (hc j u hu)⟩⟩
theorem Reads.more (h:Reads w B size A n xs) (hB:B≤B'):Reads w B' size A n xs:=
 ⟨h.1,fun hn=>by
  obtain ⟨ad,e,hb,hc⟩:=h.2 hn;exact ⟨ad,e,by omega,hc⟩⟩
theorem Reads.below (h:Reads w B size A n xs) (hb:Below B w w'):Reads w' B size A n xs:=h.keep fun _ hp=>hb.cell hp
theorem Reads.drew (h:Reads w B size A n xs):Reads w.drew B size A n xs:=h
theorem Reads.drewN (h:Reads w B size A n xs) (k:Nat):Reads (w.drewN k) B size A n xs:=h
theorem Reads.alloc (h:Reads w B size A n xs) (hB:B≤w.heap.size) (o:Obj):Reads (w.alloc o) B size A n xs:=h.keep fun p hp=>World.cell?_alloc_lt w o p (by omega)
theorem Reads.setCell (h:Reads w B size A n xs) {p:Addr} (hB:B≤p.block) (u:Value):Reads (w.setCell p u) B size A n xs:=
 h.keep fun q hq=>World.cell?_setCell_other w p q u (fun e=>by subst e;omega)
theorem Reads.grown (h:Reads w B size A n xs) {row:Option Nat} (hg:w.grownBy w' row) (hB:B≤w.heap.size) (hr:∀ g,row=some g→B≤g):Reads w' B size A n xs:=
 h.keep fun p hp=>World.cell?_of_block (hg.block p.block (by omega) (fun e=>by have:=hr _ e.symm;omega))
theorem Reads.cut (h:Reads w B size A n xs) {k cap:Nat} (hk:k≤n) (hc:n≤cap):
  Reads w B size (if cap=k then A else A.map (·.add (k*size))) (n-k) (xs.drop (k*size)):=by
 refine ⟨by rw [List.length_drop,h.1,Nat.sub_mul],fun hn=>?_⟩;obtain ⟨ad,rfl,hb,hcell⟩:=h.2 (by omega);rw [if_neg (by omega)];refine ⟨ad.add (k*size),rfl,by rw [z4t];exact hb,fun j u hu=>?_⟩;rw [z6m];exact hcell _ u (by rw [←hu,List.getElem?_drop])
theorem Reads.of_own {base:Nat} {e:TypeId} {c:Nat} (h:w.ownsRow base e size (.slice A n c) n xs):Reads w w.heap.size size A n xs:=by
 refine ⟨h.1,fun hn=>?_⟩;obtain ⟨g,cap,hv,_,hlt⟩:=h.form hn;have hA:A=some ⟨g,0,none⟩:=by injection hv
 subst hA;exact ⟨_,rfl,hlt,h.cells (g:=g) rfl⟩
end

def Blk (w:World) (g:Nat) (t:TypeId) (cs:Array Value):Prop:=w.heap[g]? = some (.cells cs t (0,0))

section
variable {w w':World} {g:Nat} {t:TypeId} {cs:Array Value}
theorem Blk.lt (h:Blk w g t cs):g<w.heap.size:=by
 rcases Nat.lt_or_ge g w.heap.size with hlt|hge
 ·exact hlt
 ·unfold Blk at h;rw [Array.getElem?_eq_none hge] at h;cases h
theorem Blk.cell (h:Blk w g t cs) (i:Nat):w.cell? ⟨g,i,none⟩=cs[i]? := cell_of_row w g i cs t (0,0) h
theorem Blk.frozen (h:Blk w g t cs) (i:Nat):w.frozen? ⟨g,i,none⟩=false:=by
 unfold Blk at h;simp [World.frozen?,h]
theorem Blk.new (w:World) (t:TypeId) (cs:Array Value):Blk (w.alloc (.cells cs t)) w.heap.size t cs:=heap_alloc_new w _
theorem Blk.drew (h:Blk w g t cs):Blk w.drew g t cs:=h
theorem Blk.drewN (h:Blk w g t cs) (n:Nat):Blk (w.drewN n) g t cs:=h
theorem Blk.alloc (h:Blk w g t cs) (o:Obj):Blk (w.alloc o) g t cs:=(Below.heap_alloc w o g h.lt).trans h
theorem Blk.set_ (h:Blk w g t cs) (i:Nat) (u:Value):Blk (w.setCell ⟨g,i,none⟩ u) g t (cs.setIfInBounds i u):=by
 unfold Blk at h ⊢;simp [World.setCell,Array.getElem?_modify,h]
theorem Blk.far (h:Blk w g t cs) {p:Addr} (hp:g≠p.block) (u:Value):Blk (w.setCell p u) g t cs:=(Below.heap_setCell w p u g hp).trans h
theorem Blk.below {B:Nat} (h:Blk w g t cs) (hb:Below B w w') (hg:g<B):Blk w' g t cs:=(hb.block g hg).trans h
theorem Blk.grown {row:Option Nat} (h:Blk w g t cs) (hb:w.grownBy w' row) (hg:some g≠row):Blk w' g t cs:=(hb.block g h.lt hg).trans h
end

section
variable {P:Program} (w:World)

theorem z3t (base:Nat) (t ty e:TypeId) (i:TypeInfo) (size:Nat) (ht:P.underlying t=some (.slice e)) (hi:P.info? e=some i)
  (v:Value) (n:Nat) (xs:List Value) (hown:w.ownsRow base e size v n xs) (c:Nat):(Builtin.append_ #[t,t] ty #[v,.slice none 0 c]).run P w = .ok v w:=by
 rcases hown.2 with ⟨rfl,rfl⟩|⟨g,cap,cur,rfl,_,_,hnc,_⟩
 ·simp [Builtin.append_,run_underlying ht,sizeOf,typeInfo,hi,Builtin.lenOf,Builtin.firstCells]
 ·simp [Builtin.append_,run_underlying ht,sizeOf,typeInfo,hi,Builtin.lenOf,Builtin.firstCells,hnc,storeCells]

theorem z3k (base:Nat) (t ty e:TypeId) (i:TypeInfo) (z:Value) (size bytes:Nat) (ht:P.underlying t=some (.slice e)) (hi:P.info? e=some i) (hz:i.zero=some z)
  (hsize:i.size=size) (hby:i.bytes=bytes) (hzs:z.cells.size=size) (hsz:0<size)
  (v:Value) (n:Nat) (xs:List Value) (hown:w.ownsRow base e size v n xs)
  (B:Nat) (A:Option Addr) (m c:Nat) (news:List Value) (hr:Reads w B size A m news) (h1:∀ u∈news,u.oneCell'=true)
  (h63:n+m≤maxLen) (hbytes:(n+m)*bytes≤140737488355328) (hbase:base≤w.heap.size):
  ∃ v' w',(Builtin.append_ #[t,t] ty #[v,.slice A m c]).run P w = .ok v' w'∧w'.ownsRow base e size v' (n+m) (xs++news)∧w.grownBy w' v.ownBlock ∧
   (v'.ownBlock=v.ownBlock∨v'.ownBlock=some w.heap.size):=by
 rcases A with _|ad
 ·have hm:m=0:=by
   rcases Nat.eq_zero_or_pos m with h0|h0
   ·exact h0
   ·obtain ⟨ad,h,_⟩:=hr.2 h0;cases h
  subst hm;have hn:news=[]:=List.eq_nil_of_length_eq_zero (by simpa using hr.1);subst hn;exact ⟨v,w,z3t w base t ty e i size ht hi v n xs hown c,by simpa using hown,World.grownBy.refl w _,.inl rfl⟩
 ·have hcells:∀ j u,news[j]? = some u→w.cell? (ad.add j)=some u:=by
   intro j u hu;rcases Nat.eq_zero_or_pos m with h0|h0
   ·subst h0;have hn:news=[]:=List.eq_nil_of_length_eq_zero (by simpa using hr.1);subst hn;simp at hu
   ·obtain ⟨ad',h,_,hc⟩:=hr.2 h0;injection h with h;subst h;exact hc j u hu
  obtain ⟨v',w',hrun,h2,h3,_,h5⟩:=run_append_own_at (P:=P) w base t ty e i z size bytes ht hi hz hsize hby hzs hsz v n xs hown ad m c news hr.1 hcells h1 h63 hbytes hbase;exact ⟨v',w',hrun,h2,h3,h5⟩

theorem z56 {o:Oper} {a:Act} {K:Act→World→Prop} {Q:Exit→Act→World→Prop} (s x:Operand) (t:TypeId)
  (ho:o.op = .call {callee:= .builtin .append,args:=#[s,x],argTypes:=#[t,t]})
  (base:Nat) (e:TypeId) (i:TypeInfo) (z:Value) (size bytes:Nat) (ht:P.underlying t=some (.slice e)) (hi:P.info? e=some i) (hz:i.zero=some z)
  (hsize:i.size=size) (hby:i.bytes=bytes) (hzs:z.cells.size=size) (hsz:0<size)
  (v:Value) (n:Nat) (xs:List Value) (hs:a.eval s=v) (hown:w.ownsRow base e size v n xs)
  (B:Nat) (A:Option Addr) (m c:Nat) (news:List Value) (hx:a.eval x = .slice A m c) (hr:Reads w B size A m news) (h1:∀ u∈news,u.oneCell'=true)
  (h63:n+m≤maxLen) (hbytes:(n+m)*bytes≤140737488355328) (hbase:base≤w.heap.size)
  (h:∀ v' w',w'.ownsRow base e size v' (n+m) (xs++news)→w.grownBy w' v.ownBlock→(v'.ownBlock=v.ownBlock∨v'.ownBlock=some w.heap.size)→K (a.put o.dst v') w'):o.wp P a w K Q:=by
 obtain ⟨v',w',hrun,h2,h3,h4⟩:=z3k (P:=P) w base t o.type e i z size bytes ht hi hz hsize hby hzs hsz v n xs hown B A m c news hr h1 h63 hbytes hbase;unfold Oper.wp execOp;simp only [ho,resolve,invoke,builtin,Sem.run_bind,Sem.run_pure,Result.andThen_ok,List.map_toArray,List.map_cons,List.map_nil,hs,hx,hrun];exact h v' w' h2 h3 h4

theorem z0x {ops:Array Oper} {rest:List Oper} {o:Oper} {a:Act} {Q:Exit→Act→World→Prop} (hgd:o.guard=none) (s x:Operand) (t:TypeId)
  (ho:o.op = .call {callee:= .builtin .append,args:=#[s,x],argTypes:=#[t,t]})
  (base:Nat) (e:TypeId) (i:TypeInfo) (z:Value) (size bytes:Nat) (ht:P.underlying t=some (.slice e)) (hi:P.info? e=some i) (hz:i.zero=some z)
  (hsize:i.size=size) (hby:i.bytes=bytes) (hzs:z.cells.size=size) (hsz:0<size)
  (v:Value) (n:Nat) (xs:List Value) (hs:a.eval s=v) (hown:w.ownsRow base e size v n xs)
  (B:Nat) (A:Option Addr) (m c:Nat) (news:List Value) (hx:a.eval x = .slice A m c) (hr:Reads w B size A m news) (h1:∀ u∈news,u.oneCell'=true)
  (h63:n+m≤maxLen) (hbytes:(n+m)*bytes≤140737488355328) (hbase:base≤w.heap.size)
  (h:∀ v' w',w'.ownsRow base e size v' (n+m) (xs++news)→w.grownBy w' v.ownBlock→(v'.ownBlock=v.ownBlock∨v'.ownBlock=some w.heap.size)→wpList P ops Q rest (a.put o.dst v') w'):wpList P ops Q (o::rest) a w:=
 wpList_plain hgd fun _ hK=>z56 w s x t ho base e i z size bytes ht hi hz hsize hby hzs hsz v n xs hs hown B A m c news hx hr h1 h63 hbytes hbase fun v' w' h2 h3 h4=>hK _ _ (h v' w' h2 h3 h4)

theorem z4b {ops:Array Oper} {o:Oper} {a:Act} {K:Act→World→Prop} {Q:Exit→Act→World→Prop} {E:Prop} (hgd:o.guard=none) (s x:Operand) (t:TypeId)
  (ho:o.op = .call {callee:= .builtin .append,args:=#[s,x],argTypes:=#[t,t]})
  (base:Nat) (e:TypeId) (i:TypeInfo) (z:Value) (size bytes:Nat) (ht:P.underlying t=some (.slice e)) (hi:P.info? e=some i) (hz:i.zero=some z)
  (hsize:i.size=size) (hby:i.bytes=bytes) (hzs:z.cells.size=size) (hsz:0<size)
  (v:Value) (n:Nat) (xs:List Value) (hs:a.eval s=v) (hown:w.ownsRow base e size v n xs)
  (B:Nat) (A:Option Addr) (m c:Nat) (news:List Value) (hx:a.eval x = .slice A m c) (hr:Reads w B size A m news) (h1:∀ u∈news,u.oneCell'=true)
  (h63:n+m≤maxLen) (hbytes:(n+m)*bytes≤140737488355328) (hbase:base≤w.heap.size)
  (h:∀ v' w',w'.ownsRow base e size v' (n+m) (xs++news)→w.grownBy w' v.ownBlock→(v'.ownBlock=v.ownBlock∨v'.ownBlock=some w.heap.size)→K (a.put o.dst v') w'):
  if Region.wanted o (yielded ops a.tmps)=true then Oper.wp P o a w K Q else E:=by
 have hw:Region.wanted o (yielded ops a.tmps)=true:=by simp [Region.wanted,hgd]
 rw [if_pos hw];exact z56 w s x t ho base e i z size bytes ht hi hz hsize hby hzs hsz v n xs hs hown B A m c news hx hr h1 h63 hbytes hbase h
end

theorem zgp {P:Program} {f:FuncId} {args:Array Value} {w:World} {n:Nat} {v:Value}
  (h:Calls P f args (w.drewN n) fun e w'=>e = .returned v∧w.drewN n=w'):Calls P f args (w.drewN n) fun e w''=>e = .returned v∧∃ m,w''=w.drewN m:=
 h.mono fun _ _ ⟨he,hm⟩=>⟨he,n,hm.symm⟩

theorem below_drewN {B:Nat} {a w:World} (h:Below B a w) (n:Nat):Below B a (w.drewN n):=⟨h.os,h.tape,h.output,h.size,h.block⟩
theorem z3B {a w:World} {row:Option Nat} (h:a.grownBy w row) (n:Nat):a.grownBy (w.drewN n) row:=⟨h.os,h.tape,h.output,h.size,h.block⟩
theorem zbO {a w:World} {row:Option Nat} (h:a.grownBy w row):a.grownBy w.drew row:=⟨h.os,h.tape,h.output,h.size,h.block⟩
theorem z2G {a w:World} {row:Option Nat} (h:a.grownBy w row) (o:Obj):a.grownBy (w.alloc o) row:=
 ⟨h.os,h.tape,h.output,Nat.le_trans h.size (by simp),fun i hi hne=>(Below.heap_alloc w o i (Nat.lt_of_lt_of_le hi h.size)).trans (h.block i hi hne)⟩
theorem z0r {a w:World} {g:Nat} (h:a.grownBy w (some g)) {p:Addr} (hp:p.block=g∨a.heap.size≤p.block) (u:Value):a.grownBy (w.setCell p u) (some g):=
 ⟨h.os,h.tape,h.output,by simpa [World.setCell] using h.size,fun i hi hne=>(Below.heap_setCell w p u i (by
  rintro rfl;rcases hp with hp|hp
  ·exact hne (by rw [hp])
  ·omega)).trans (h.block i hi hne)⟩
theorem z0e {a w:World} (h:Below a.heap.size a w) (row:Option Nat):a.grownBy w row:=⟨h.os,h.tape,h.output,h.size,fun i hi _=>h.block i hi⟩

section
variable {H:Type} {enc:TypeId×Value→H} {P:Program}
theorem zac {f:Func} {s:ChangeSpec} {apart fresh handsOn again:Bool} {W W':World} {args:Array Value} {v:Value} {ds gs:List (DataW H)} {before pa pv:List MemPlace}
  (hW:DataW.Whole enc P f.params.toList s.vars apart W args.toList ds gs before)
  (hres:∀ (b:Nat) (sp:Nat→Bool) (hd:Bool),DataW.TrodAll enc P W' b sp hd f.resultTypes.toList (v.resultList f.resultTypes.size) (s.fn H (ds++gs)).results [])
  (hargs:∀ sp:Nat→Bool,(∀ p∈before,sp p.block=true)→DataW.TrodAll enc P W' 0 sp true f.params.toList args.toList (s.fn H (ds++gs)).args pa)
  (hvars:∀ sp:Nat→Bool,(∀ p∈before,sp p.block=true)→DataW.TrodVars enc P W' sp s.vars (s.fn H (ds++gs)).vars pv)
  (hps:before=pa++pv) (hb:Below W.heap.size W W')
  (hok:∀ (j:Nat) (t:TypeId) (r:Value),f.resultTypes[j]? = some t→(v.resultList f.resultTypes.size)[j]? = some r→Value.okWide P W' .any 0 t r):
  s.post enc P f apart fresh handsOn again W args v W':=by
 have hlt:∀ p∈before,p.block<W.heap.size:=fun p hp=>hW.lt p hp
 have hold:∀ p∈before,(fun b=>decide (b<W.heap.size)) p.block=true:=fun p hp=>by simpa using hlt p hp
 refine ⟨ds,gs,before,[],pa,pv,hW,hres _ _ _,hargs _ hold,hvars _ hold,World.keptBut_mono (fun p hp=>⟨hp,?_⟩) (hb.frame (·∈before)),fun _=>?_⟩
 ·rw [hps,List.mem_append] at hp;exact Or.inr hp
 ·obtain ⟨_,_,_,_,_,hz,hn⟩:=hW;refine ⟨hok,_,_,([]++pa)++pv,⟨[]++pa,pv,trodAll_append (hargs _ (fun _ _=>rfl)) (hres _ _ _),hvars _ (fun _ _=>rfl),rfl,?_,?_⟩,?_⟩
  ·intro b off hp;have hin:MemPlace.cell b off∈before:=by rw [hps];simpa using hp
   rw [hb.frozen (hlt _ hin)];exact hz b off hin
  ·intro ha;have:=hn ha;rw [hps] at this;simpa using this
  ·intro p hp _;rw [hps];simpa using hp
end


theorem z1y {w w':World} {base:Nat} {e:TypeId} {size n:Nat} {v:Value} {xs:List Value} (h:w.ownsRow base e size v n xs) (hb:Below w.heap.size w w'):w'.ownsRow base e size v n xs:=
 h.kept (z0e hb none) (by cases hv:v.ownBlock<;>simp)
theorem zdl {w:World} {base:Nat} {e:TypeId} {size n:Nat} {v:Value} {xs:List Value} (h:w.ownsRow base e size v n xs) {p:Addr} (hp:v.ownBlock≠some p.block) (u:Value):(w.setCell p u).ownsRow base e size v n xs:=
 h.kept (row:=some p.block) ⟨rfl,rfl,rfl,by simp [World.setCell],fun k _ hne=>Below.heap_setCell _ _ _ _ (fun e=>hne (by rw [e]))⟩ (.inr hp)
theorem z2o {a b c:World} {r:Option Nat} {v:Value} (h:a.grownBy b r) (k:b.grownBy c v.ownBlock) (hv:∀ g,v.ownBlock=some g→r=some g∨a.heap.size≤g):a.grownBy c r:=
 ⟨k.os.trans h.os,k.tape.trans h.tape,k.output.trans h.output,Nat.le_trans h.size k.size,fun i hi hne=>(k.block i (Nat.lt_of_lt_of_le hi h.size) (fun e=>by
  rcases hv i e.symm with hr|hr
  ·exact hne hr.symm
  ·omega)).trans (h.block i hi hne)⟩
structure AppB (base:Nat) (w w':World) (v v':Value) (l':List UInt8):Prop where
 own:w'.ownsRow base 5 1 v' l'.length (Lib.byteCells l')
 grown:w.grownBy w' v.ownBlock
 blk:∀ g,v'.ownBlock=some g→v.ownBlock=some g∨w.heap.size≤g
theorem AppB.trans {base:Nat} {w w1 w2:World} {v v1 v2:Value} {l1 l2:List UInt8} (h:AppB base w w1 v v1 l1) (k:AppB base w1 w2 v1 v2 l2):AppB base w w2 v v2 l2:=
 ⟨k.own,z2o h.grown k.grown h.blk,fun g hg=>by
  rcases k.blk g hg with hr|hr
  ·exact h.blk g hr
  ·exact .inr (Nat.le_trans h.grown.size hr)⟩
theorem AppB.below {base:Nat} {w w':World} {v v':Value} {l l':List UInt8} (h:AppB base w w' v v' l') (hown:w.ownsRow base 5 1 v l.length (Lib.byteCells l)) (hb:base≤w.heap.size):Below base w w' :=
 (Below.refl base w).grown h.grown hb (fun k hk=>(hown.lt k hk).1)

theorem z4d {P:Program} {src dst e:TypeId} (hs:P.underlying src=some (.slice e)) (he:P.underlying e=some (.int .u8)) (hd:P.underlying dst=some .string)
  {w:World} {B:Nat} {A:Option Addr} {n c:Nat} {l:List UInt8} (hr:Reads w B 1 A n (Lib.byteCells l)):(convert src dst (.slice A n c)).run P w = .ok (.string ⟨l.toArray⟩) w:=by
 have hn:n=l.length:=by have:=hr.1;rw [Lib.byteCells_length] at this;omega
 subst hn;cases A with
 | none=>
  have h0:l=[]:=by
   cases l with
   | nil=>rfl
   | cons x l=>obtain ⟨ad,h,_⟩:=hr.2 (by simp);cases h
  subst h0;exact Lib.run_convert_nil_bytes w src dst e c hs he hd
 | some a=>
  refine run_convert_bytes_back w src dst e a c l hs he hd (fun j hj=>?_);obtain ⟨ad,h,_,hc⟩:=hr.2 (by omega);injection h with h;subst h;exact hc j _ (by simp [Lib.byteCells,List.getElem?_eq_getElem hj])
theorem z0P {w:World} {base:Nat} {e:TypeId} {size n:Nat} {v:Value} {xs:List Value} (h:w.ownsRow base e size v n xs):∃ A c,v = .slice A n c∧Reads w w.heap.size size A n xs:=by
 rcases h.2 with ⟨rfl,rfl⟩|⟨g,cap,cur,rfl,_⟩
 ·have h1:=h.1;have h0:xs=[]:=List.eq_nil_of_length_eq_zero (by simpa using h1);subst h0;exact ⟨none,0,rfl,Reads.none_⟩
 ·exact ⟨_,cap,rfl,Reads.of_own h⟩
theorem zb0 {P:Program} {ops:Array Oper} {rest:List Oper} {o:Oper} {a:Act} {Q:Exit→Act→World→Prop} {w:World} (hgd:o.guard=none) (x:Operand) (src dst e:TypeId) (ho:o.op = .convert src dst x)
  (hs:P.underlying src=some (.slice e)) (he:P.underlying e=some (.int .u8)) (hd:P.underlying dst=some .string)
  (v:Value) (hx:a.eval x=v) (l:List UInt8) (hv:∃ B A c,v = .slice A l.length c∧Reads w B 1 A l.length (Lib.byteCells l))
  (h:wpList P ops Q rest (a.put o.dst (.string ⟨l.toArray⟩)) w):wpList P ops Q (o::rest) a w:=by
 obtain ⟨B,A,c,rfl,hr⟩:=hv;refine wpList_plain hgd fun _ hK=>?_
 have:=z4d (c:=c) hs he hd hr;unfold Oper.wp execOp;simp only [ho,hx];simp [go_sem,this];exact hK _ _ h

theorem z10 {P:Program} {ops:Array Oper} {rest:List Oper} {o:Oper} {a:Act} {Q:Exit→Act→World→Prop} {w1:World} (hgd:o.guard=none) (s x:Operand) (t:TypeId)
  (ho:o.op = .call {callee:= .builtin .append,args:=#[s,x],argTypes:=#[t,t]}) (base:Nat) (i:TypeInfo) (ht:P.underlying t=some (.slice 5)) (hi:P.info? 5=some i) (hz:i.zero=some (.int .u8 0))
  (hsize:i.size=1) (hby:i.bytes=1) (v:Value) (l:List UInt8) (hs:a.eval s=v) (hown:w1.ownsRow base 5 1 v l.length (Lib.byteCells l))
  (n:Int) (c:UInt8) (hc:n=(c.toNat:Int)) (cap:Nat) (hx:a.eval x = .slice (some ⟨w1.heap.size,0,none⟩) 1 cap) (hl:l.length≤100000000) (hbase:base≤w1.heap.size)
  (h:∀ v' w',AppB base w1 w' v v' (l++[c])→wpList P ops Q rest (a.put o.dst v') w'):wpList P ops Q (o::rest) a (w1.alloc (.cells #[.int .u8 n] 5)):=by
 subst hc;have hb:Blk (w1.alloc (.cells #[.int .u8 (c.toNat:Int)] 5)) w1.heap.size 5 #[.int .u8 (c.toNat:Int)]:=Blk.new _ _ _;have hr:Reads (w1.alloc (.cells #[.int .u8 (c.toNat:Int)] 5)) (w1.heap.size+1) 1 (some ⟨w1.heap.size,0,none⟩) 1 [.int .u8 (c.toNat:Int)]:=
  ⟨rfl,fun _=>⟨_,rfl,by simp,fun j u hu=>by
   match j,hu with
   | 0,hu=>simp at hu;subst hu;simp [Addr.add]⟩⟩
 refine z0x _ hgd s x t ho base 5 i _ 1 1 ht hi hz hsize hby rfl (by omega) v l.length (Lib.byteCells l) hs (hown.alloc _) _ _ 1 cap _ hx hr (by intro u hu;simp at hu;subst hu;rfl) (by simp only [maxLen];omega) (by omega) (by simp;omega) (fun v' w' h1 h2 h3=>h v' w' ⟨?_,?_,?_⟩)
 ·have:Lib.byteCells (l++[c])=Lib.byteCells l++[.int .u8 (c.toNat:Int)]:=by simp [Lib.byteCells]
  rw [this,List.length_append];exact h1
 ·exact z2o (World.grownBy_alloc w1 _ _) h2 (fun g hg=> .inl hg)
 ·intro g hg;rcases h3 with h3|h3
  ·exact .inl (by rw [←h3];exact hg)
  ·rw [h3] at hg;injection hg with hg;subst hg;exact .inr (by simp)
end Go.Proofs.YtgmppconibklcaaGreatDoor

namespace Go.Proofs.YtgmppconibklcaaGreatDoor
open Go Go.RowKit
inductive D
 | leaf (v:Value)
 | row (size:Nat) (l:List D)
inductive Is (w:World) (Av:Nat→Prop):Value→D→Prop
 | leaf (v:Value):Is w Av v (.leaf v)
 | row (A:Option Addr) (n c size:Nat) (xs:List Value) (l:List D) (hn:l.length=n*size) (hx:xs.length=l.length) (hz:0<size) (hc:n≤c)
   (hs:0<n→∃ g o,A=some ⟨g,o,none⟩∧¬Av g∧∀ j u,xs[j]? = some u→w.cell? ⟨g,o+j,none⟩=some u)
   (hd:∀ (j:Nat) (u:Value) (d:D),xs[j]? = some u→l[j]? = some d→Is w Av u d):Is w Av (.slice A n c) (.row size l)
def z0z (w:World) (Av:Nat→Prop) (us:List Value) (ds:List D):Prop:=us.length=ds.length∧∀ (j:Nat) (u:Value) (d:D),us[j]? = some u→ds[j]? = some d→Is w Av u d
section
variable {w w':World} {Av Av':Nat→Prop} {v:Value} {d:D}
theorem Is.keep (h:Is w Av v d) (hk:∀ p u,¬Av p.block→w.cell? p=some u→w'.cell? p=some u) (ha:∀ b,Av' b→b<w.heap.size→Av b):Is w' Av' v d:=by
 induction h with
 | leaf v=>exact .leaf v
 | row A n c size xs l hn hx hz hc hs hd ih=>
  refine .row A n c size xs l hn hx hz hc (fun h0=>?_) ih;obtain ⟨g,o,hA,hg,hcell⟩:=hs h0;have h1:0<xs.length:=by rw [hx,hn];exact Nat.mul_pos h0 hz
  have h2:=hcell 0 _ (List.getElem?_eq_getElem h1);have h3:=World.block_lt_of_cell? w _ h2;exact ⟨g,o,hA,fun h=>hg (ha g h h3),fun j u hu=>hk _ _ hg (hcell j u hu)⟩
theorem Is.less (h:Is w Av v d) (ha:∀ b,Av' b→b<w.heap.size→Av b):Is w Av' v d:=h.keep (fun _ _ _ h=>h) ha
theorem Is.stays (h:Is w Av v d) (hb:Below w.heap.size w w'):Is w' Av v d:=h.keep (fun p _ _ hp=>(hb.cell (World.block_lt_of_cell? w p hp)).trans hp) (fun _ h _=>h)
theorem Is.drew (h:Is w Av v d):Is w.drew Av v d:=h.keep (fun _ _ _ h=>h) (fun _ h _=>h)
theorem Is.drewN (h:Is w Av v d) (n:Nat):Is (w.drewN n) Av v d:=h.keep (fun _ _ _ h=>h) (fun _ h _=>h)
theorem Is.alloc (h:Is w Av v d) (o:Obj):Is (w.alloc o) Av v d:=h.keep (fun p _ _ hp=>(World.cell?_alloc_lt w o p (World.block_lt_of_cell? w p hp)).trans hp) (fun _ h _=>h)
theorem Is.setCell (h:Is w Av v d) {p:Addr} (hp:Av p.block) (u:Value):Is (w.setCell p u) Av v d:=
 h.keep (fun q _ hq hc=>(World.cell?_setCell_other w p q u (fun e=>by subst e;exact hq hp)).trans hc) (fun _ h _=>h)
theorem Is.grown (h:Is w Av v d) {row:Option Nat} (hg:w.grownBy w' row) (hr:∀ g,row=some g→Av g):Is w' Av v d:=
 h.keep (fun _ _ hp hc=>hg.cell hc (fun e=>hp (hr _ e.symm))) (fun _ h _=>h)
theorem Is.fresh (h:Is w Av v d) {p:Nat→Prop} (hp:∀ b,p b→w.heap.size≤b):Is w (fun b=>Av b∨p b) v d:=
 h.less (fun b hb hl=>by
  rcases hb with hb|hb
  ·exact hb
  ·have:=hp b hb;omega)
end

section
variable {w w':World} {Av Av':Nat→Prop} {us vs:List Value} {ds es:List D}
theorem z0z.nil_:z0z w Av [] []:=⟨rfl,fun j u _ h=>by simp at h⟩
theorem z0z.z0D {u:Value} {d:D} (h:Is w Av u d) (k:z0z w Av us ds):z0z w Av (u::us) (d::ds):=
 ⟨by simp [k.1],fun j x y hx hy=>by
  match j with
  | 0=>simp at hx hy;subst hx;subst hy;exact h
  | j+1=>exact k.2 j x y (by simpa using hx) (by simpa using hy)⟩
theorem z0z.z2u {d:D} (h:z0z w Av us (d::ds)):∃ u us',us=u::us'∧Is w Av u d∧z0z w Av us' ds:=by
 match us,h with
 | [],h=>exact absurd h.1 (by simp)
 | u::us,h=>exact ⟨u,us,rfl,h.2 0 u d rfl rfl,by simpa using h.1,fun j x y hx hy=>h.2 (j+1) x y (by simpa using hx) (by simpa using hy)⟩
theorem z0z.zhk (h:z0z w Av us []):us=[]:=List.eq_nil_of_length_eq_zero h.1
theorem z0z.keep (h:z0z w Av us ds) (hk:∀ (u:Value) (d:D),Is w Av u d→Is w' Av' u d):z0z w' Av' us ds:=⟨h.1,fun j u d hu hd=>hk u d (h.2 j u d hu hd)⟩
theorem z0z.app (h:z0z w Av us ds) (k:z0z w Av vs es):z0z w Av (us++vs) (ds++es):=
 ⟨by simp [h.1,k.1],fun j u d hu hd=>by
  rcases Nat.lt_or_ge j us.length with hj|hj
  ·rw [List.getElem?_append_left hj] at hu;rw [List.getElem?_append_left (by have:=h.1;omega)] at hd;exact h.2 j u d hu hd
  ·rw [List.getElem?_append_right hj] at hu;rw [List.getElem?_append_right (by have:=h.1;omega),←h.1] at hd;exact k.2 _ u d hu hd⟩
theorem z0z.drop (h:z0z w Av us ds) (k:Nat):z0z w Av (us.drop k) (ds.drop k):=
 ⟨by simp [h.1],fun j u d hu hd=>h.2 (k+j) u d (by simpa using hu) (by simpa using hd)⟩
theorem z0z.take (h:z0z w Av us ds) (k:Nat):z0z w Av (us.take k) (ds.take k):=
 ⟨by simp [h.1],fun j u d hu hd=>h.2 j u d (by rw [List.getElem?_take] at hu;split at hu<;>simp_all) (by rw [List.getElem?_take] at hd;split at hd<;>simp_all)⟩
theorem Is.row_ {A:Option Addr} {n c size:Nat} (hn:ds.length=n*size) (hz:0<size) (hc:n≤c) (ha:z0z w Av us ds)
  (hs:0<n→∃ g o,A=some ⟨g,o,none⟩∧¬Av g∧∀ j u,us[j]? = some u→w.cell? ⟨g,o+j,none⟩=some u):Is w Av (.slice A n c) (.row size ds):=
 .row A n c size us ds hn ha.1 hz hc hs ha.2
theorem Is.open_row {v:Value} {size:Nat} (h:Is w Av v (.row size ds)):∃ A n c xs,v = .slice A n c∧ds.length=n*size∧n≤c∧0<size∧z0z w Av xs ds ∧
  (0<n→∃ g o,A=some ⟨g,o,none⟩∧¬Av g∧∀ j u,xs[j]? = some u→w.cell? ⟨g,o+j,none⟩=some u):=by
 cases h with
 | row A n c size xs l hn hx hz hc hs hd=>exact ⟨A,n,c,xs,rfl,hn,hc,hz,⟨hx,hd⟩,hs⟩
end
theorem z1H {α:Type} {f:α→List D} {size:Nat} (hf:∀ a,(f a).length=size) (l:List α):(l.flatMap f).length=l.length*size:=by
 induction l with
 | nil=>simp
 | cons a l ih=>rw [List.flatMap_cons,List.length_append,ih,hf,List.length_cons,Nat.add_mul,Nat.one_mul,Nat.add_comm]
theorem z6d {α:Type} {f:α→List D} {size:Nat} (hf:∀ a,(f a).length=size):∀ (l:List α) (k:Nat) (hk:k<l.length),((l.flatMap f).drop (k*size)).take size=f l[k]
 | a::l,0,_=>by simp [List.flatMap_cons,←hf a]
 | a::l,k+1,hk=>by
  have:=z6d hf l k (by simpa using hk);rw [List.flatMap_cons,Nat.add_mul,Nat.one_mul,Nat.add_comm,←List.drop_drop,List.drop_left' (hf a),this];rfl
theorem Is.elems {α:Type} {f:α→List D} {size:Nat} {w:World} {Av:Nat→Prop} {v:Value} {l:List α} (h:Is w Av v (.row size (l.flatMap f))) (hf:∀ a,(f a).length=size):
  ∃ A c,v = .slice A l.length c∧l.length≤c∧∀ k (hk:k<l.length),∃ g o us,A=some ⟨g,o,none⟩∧¬Av g∧z0z w Av us (f l[k])∧∀ j u,us[j]? = some u→w.cell? ⟨g,o+(k*size+j),none⟩=some u:=by
 obtain ⟨A,n,c,xs,rfl,hn,hc,hz,ha,hs⟩:=h.open_row;rw [z1H hf] at hn;obtain rfl:l.length=n:=Nat.eq_of_mul_eq_mul_right hz hn;refine ⟨A,c,rfl,hc,fun k hk=>?_⟩;obtain ⟨g,o,hA,hg,hcell⟩:=hs (by omega);refine ⟨g,o,(xs.drop (k*size)).take size,hA,hg,by rw [←z6d hf l k hk];exact (ha.drop _).take _,fun j u hu=>hcell _ u ?_⟩;rw [List.getElem?_take] at hu;split at hu
 ·rw [List.getElem?_drop] at hu;exact hu
 ·cases hu

def z04 (l:List UInt8):D:= .row 1 (l.map fun b=> .leaf (.int .u8 (b.toNat:Int)))
theorem Is.z0M {w:World} {Av:Nat→Prop} {u v:Value} (h:Is w Av u (.leaf v)):u=v:=by cases h;rfl
theorem z0z.leaves {w:World} {Av:Nat→Prop} {us vs:List Value} (h:z0z w Av us (vs.map .leaf)):us=vs:=by
 refine List.ext_getElem? fun j=>?_
 rcases Nat.lt_or_ge j us.length with hj|hj
 ·have hv:j<vs.length:=by have:=h.1;simp at this;omega
  have:=(h.2 j us[j] (.leaf vs[j]) (List.getElem?_eq_getElem hj) (by simp [List.getElem?_eq_getElem hv])).z0M;rw [List.getElem?_eq_getElem hj,List.getElem?_eq_getElem hv,this]
 ·have hv:vs.length≤j:=by have:=h.1;simp at this;omega
  rw [List.getElem?_eq_none hj,List.getElem?_eq_none hv]
theorem z0z.leaf (w:World) (Av:Nat→Prop) (vs:List Value):z0z w Av vs (vs.map .leaf):=
 ⟨by simp,fun j u d hu hd=>by
  rw [List.getElem?_map,hu] at hd;simp at hd;subst hd;exact .leaf u⟩
theorem Is.zdA {w:World} {Av:Nat→Prop} {v:Value} {vs:List Value} (h:Is w Av v (.row 1 (vs.map .leaf))):
  ∃ A c,v = .slice A vs.length c∧vs.length≤c∧Reads w w.heap.size 1 A vs.length vs∧(0<vs.length→∃ g o,A=some ⟨g,o,none⟩∧¬Av g):=by
 obtain ⟨A,n,c,xs,rfl,hn,hc,hz,ha,hs⟩:=h.open_row;obtain rfl:vs.length=n:=by simpa using hn
 obtain rfl:=ha.leaves;refine ⟨A,c,rfl,hc,⟨by simp,fun h0=>?_⟩,fun h0=>?_⟩
 ·obtain ⟨g,o,hA,_,hcell⟩:=hs h0;refine ⟨_,hA,?_,fun j u hu=>?_⟩
  ·exact World.block_lt_of_cell? w _ (hcell 0 _ (List.getElem?_eq_getElem h0))
  ·have:=hcell j u hu;unfold Addr.add;split
   ·rename_i hj;subst hj;exact this
   ·exact this
 ·obtain ⟨g,o,hA,hg,_⟩:=hs h0;exact ⟨g,o,hA,hg⟩
theorem zcz (l:List UInt8):z04 l = .row 1 ((Lib.byteCells l).map .leaf):=by unfold z04 Lib.byteCells;rw [List.map_map];rfl
theorem Is.bytes {w:World} {Av:Nat→Prop} {v:Value} {l:List UInt8} (h:Is w Av v (z04 l)):
  ∃ A c,v = .slice A l.length c∧l.length≤c∧Reads w w.heap.size 1 A l.length (Lib.byteCells l)∧(0<l.length→∃ g o,A=some ⟨g,o,none⟩∧¬Av g):=by
 rw [zcz] at h;have:=h.zdA
 rwa [Lib.byteCells_length] at this
end Go.Proofs.YtgmppconibklcaaGreatDoor

namespace Go.Proofs.YtgmppconibklcaaGreatDoor
open Go Go.RowKit
namespace Am
inductive C where
 | d (x:D)
 | nilS
 | gr (q s:Nat) (l:List D)
 | ref (p off:Nat)
 | ep (l:List D)
 | sl (p n s:Nat)
 | dead
inductive E where
 | one (c:C)
 | agg (cs:List C)
inductive T where
 | e (x:E)
 | tup (xs:List E)
 | undef
inductive O where
 | var (ty:TypeId) (cs:List C)
 | own (e:TypeId) (s n:Nat)
abbrev T.d (x:D):T:= .e (.one (.d x))
abbrev T.v (v:Value):T:= .e (.one (.d (.leaf v)))
abbrev T.i (k:IntKind) (n:Int):T:= .v (.int k n)
abbrev T.b (b:Bool):T:= .v (.bool b)
abbrev T.s (s:ByteArray):T:= .v (.string s)
def C.kill (ks:List Nat):C→C
 | .gr q s l=>if ks.contains q then .dead else .gr q s l
 | .ref p off=>if ks.contains p then .dead else .ref p off
 | .sl p n s=>if ks.contains p then .dead else .sl p n s
 | c=>c
def E.kill (ks:List Nat):E→E
 | .one c=> .one (c.kill ks)
 | .agg cs=> .agg (cs.map (C.kill ks))
def T.kill (ks:List Nat):T→T
 | .e x=> .e (x.kill ks)
 | .tup xs=> .tup (xs.map (E.kill ks))
 | .undef=> .undef
def O.kill (ks:List Nat):O→O
 | .var ty cs=> .var ty (cs.map (C.kill ks))
 | o=>o
section
variable (P:Program)
def z0g (t:TypeId):Nat:=match P.info? t with|some i=>i.size|none=>0
def z30 (t:TypeId):Nat:=match P.info? t with|some i=>i.bytes|none=>0
def zc4 (t:TypeId):Bool:=match P.underlying t with|some (.struct _)=>true|some (.array _ _)=>true|_=>false
def slz:Nat→TypeId→List (Option Nat)
 | 0,_=>[none]
 | n+1,t=>match P.underlying t with
  | some (.struct fs)=>fs.toList.flatMap fun f=>slz n f.type
  | some (.array k e)=>(List.replicate k (slz n e)).flatten
  | some (.slice e)=>[some (z0g P e)]
  | _=>[none]
end
def zc:Value→C
 | .slice none 0 0=> .nilS
 | v=> .d (.leaf v)
def z9E:Value→Option E
 | .agg cs=>if cs.all Value.oneCell' then some (.agg (cs.toList.map zc)) else none
 | .tuple _=>none
 | v=>some (.one (zc v))
def C.fz:Option Nat→C→C
 | some s,.nilS=>if 0<s then .d (.row s []) else .nilS
 | none,.nilS=> .d (.leaf (.slice none 0 0))
 | _,.gr _ s l=> .d (.row s l)
 | _,c=>c
def fzs:List (Option Nat)→List C→List C
 | _,[]=>[]
 | [],c::cs=>c.fz none::fzs [] cs
 | z::zs,c::cs=>c.fz z::fzs zs cs
def E.fz (z:List (Option Nat)):E→E
 | .one c=> .one (c.fz (z.headD none))
 | .agg cs=> .agg (fzs z cs)
def C.d? : C→Option D
 | .d x=>some x
 | _=>none
def dsOf:List C→Option (List D)
 | []=>some []
 | c::cs=>match c.d? with
  | some x=>(dsOf cs).map (x::·)
  | none=>none
def E.cells:E→List C
 | .one c=>[c]
 | .agg cs=>cs
def E.ds (x:E):Option (List D):=dsOf x.cells
structure Eff where
 t:T
 ups:List (Nat×Option O):=[]
 kills:List Nat:=[]
def T.eff (t:T):Option Eff:=some ⟨t,[],[]⟩
def int? : Option T→Option (IntKind×Int)
 | some (.e (.one (.d (.leaf (.int k n)))))=>some (k,n)
 | _=>none
def bool? : Option T→Option Bool
 | some (.e (.one (.d (.leaf (.bool b)))))=>some b
 | _=>none
def str? : Option T→Option ByteArray
 | some (.e (.one (.d (.leaf (.string s)))))=>some s
 | _=>none
def row? : Option T→Option (Nat×List D)
 | some (.e (.one (.d (.row s l))))=>some (s,l)
 | some (.e (.one (.gr _ s l)))=>some (s,l)
 | _=>none
def e? : Option T→Option E
 | some (.e x)=>some x
 | _=>none
def zfJ (op:BinOp) (k:IntKind) (x y:Int):Option Value:=
 match op with
 | .add=>some (.int k (k.wrap (x+y)))
 | .sub=>some (.int k (k.wrap (x-y)))
 | .mul=>some (.int k (k.wrap (x*y)))
 | .quo=>if y=0 then none else some (.int k (k.wrap (x.tdiv y)))
 | .rem=>if y=0 then none else some (.int k (x.tmod y))
 | .and=>some (.int k (k.wrap (BitVec.ofInt k.bits x&&&BitVec.ofInt k.bits y).toNat))
 | .or=>some (.int k (k.wrap (BitVec.ofInt k.bits x|||BitVec.ofInt k.bits y).toNat))
 | .xor=>some (.int k (k.wrap (BitVec.ofInt k.bits x ^^^ BitVec.ofInt k.bits y).toNat))
 | .eql=>some (.bool (x==y))
 | .neq=>some (.bool (x != y))
 | .lss=>some (.bool (decide (x<y)))
 | .leq=>some (.bool (decide (x≤y)))
 | .gtr=>some (.bool (decide (x>y)))
 | .geq=>some (.bool (decide (x≥y)))
 | _=>none
def zfI (op:BinOp) (x y:ByteArray):Option Value:=
 match op with
 | .add=>if ((x.size+y.size:Nat):Int)>IntKind.i64.max then none else some (.string (x++y))
 | .eql=>some (.bool (x.toList==y.toList))
 | .neq=>some (.bool (!(x.toList==y.toList)))
 | _=>none
def binV (P:Program) (op:BinOp) (ty:TypeId) (x y:Value):Option Value:=
 match x,y with
 | .int k a,.int k' b=>
  match op with
  | .shl=>if b<0 then none else some (.int k (k.wrap (a*2^(min b.toNat k.bits))))
  | .shr=>if b<0 then none else some (.int k (a.fdiv (2^(min b.toNat k.bits))))
  | _=>if k=k' then zfJ op k a b else none
 | .string a,.string b=>zfI op a b
 | .bool a,.bool b=>match P.underlying ty with
  | some .bool=>match op with
   | .eql=>some (.bool (a==b))
   | .neq=>some (.bool (!(a==b)))
   | _=>none
  | _=>none
 | _,_=>none
def nil? : C→Option Bool
 | .nilS=>some true
 | .d (.row _ (_::_))=>some false
 | .gr _ _ (_::_)=>some false
 | _=>none
def ziH (P:Program) (op:BinOp) (ty:TypeId) (x y:C):Option Value:=
 match P.underlying ty with
 | some (.slice _)=>
  match nil? x,nil? y with
  | some a,some true=>match op with | .eql=>some (.bool a) | .neq=>some (.bool (!a))|_=>none
  | some true,some b=>match op with | .eql=>some (.bool b) | .neq=>some (.bool (!b))|_=>none
  | _,_=>none
 | _=>none
def unV (op:UnOp) (x:Value):Option Value:=
 match op,x with
 | .neg,.int k n=>some (.int k (k.wrap (0-n)))
 | .xor,.int k n=>some (.int k (k.wrap (BitVec.ofInt k.bits (if k.signed then -1 else k.max) ^^^ BitVec.ofInt k.bits n).toNat))
 | .not,.bool b=>some (.bool !b)
 | _,_=>none
def byteOf? : D→Option UInt8
 | .leaf (.int .u8 n)=>if 0≤n∧n<256 then some (UInt8.ofNat n.toNat) else none
 | _=>none
def bytesOf? : List D→Option (List UInt8)
 | []=>some []
 | x::l=>match byteOf? x with
  | some b=>(bytesOf? l).map (b::·)
  | none=>none
def zcB (b:UInt8):D:= .leaf (.int .u8 (b.toNat:Int))
def zdV (s n:Nat) (i:Int):Bool:=decide (0≤i)&&decide (0<s)&&decide (i.toNat<n / s)
def part (P:Program) (t:TypeId) (cs:List C) (off:Nat):Option E:=
 if (P.underlying t).isNone then none
 else if zc4 P t then if off+z0g P t≤cs.length then some (.agg ((cs.drop off).take (z0g P t))) else none
 else match cs[off]? with
  | some c=>some (.one c)
  | none=>none
def z2n (P:Program) (h:Nat→Option O) (t:TypeId):C→Option E
 | .ref p off=>match h p with
  | some (.var _ cs)=>part P t cs off
  | _=>none
 | .ep l=>part P t (l.map .d) 0
 | _=>none
def z3Y (cs:List C) (off:Nat) (xs:List C):List C:=cs.take off++(xs++cs.drop (off+xs.length))
def z2X (P:Program) (h:Nat→Option O) (t:TypeId) (a:C) (x:E):Option Eff:=
 match a with
 | .ref p off=>match h p with
  | some (.var ty cs)=>if 0<x.cells.length∧x.cells.length=z0g P t∧off+x.cells.length≤cs.length then some ⟨.undef,[(p,some (.var ty (z3Y cs off x.cells)))],[]⟩ else none
  | _=>none
 | _=>none
def zds (off:Nat):C→Option C
 | .ref p o=>some (.ref p (o+off))
 | .ep l=>some (.ep (l.drop off))
 | _=>none
def z83 (P:Program) (t:TypeId) (f:Nat):Option Field:=
 match P.underlying t with
 | some (.struct fs)=>fs[f]?
 | _=>none
def z2Y (P:Program) (t:TypeId) (f:Nat) (a:C):Option C:=
 match z83 P t f with
 | some fd=>if z0g P fd.type=0 then none else zds fd.offset a
 | none=>none
def z86 (P:Program) (t:TypeId) (f:Nat) (x:E):Option E:=
 match z83 P t f,x with
 | some fd,.agg cs=>part P fd.type cs fd.offset
 | _,_=>none
def z0j (P:Program) (t:TypeId) (x:Option T) (i:Int):Option C:=
 match P.underlying t with
 | some (.array n e)=>match x with
  | some (.e (.one a))=>if z0g P e≠0∧0≤i∧i<n then zds (i.toNat*z0g P e) a else none
  | _=>none
 | some (.slice e)=>match x with
  | some (.e (.one (.sl p n s)))=>if s=z0g P e∧0<s∧0≤i∧i<n then some (.ref p (i.toNat*s)) else none
  | x=>match row? x with
   | some (s,l)=>if s=z0g P e∧zdV s l.length i=true then some (.ep (l.drop (i.toNat*s))) else none
   | none=>none
 | _=>none
def z6e (P:Program) (t:TypeId) (x:Option T) (i:Int):Option E:=
 match P.underlying t with
 | some .string=>match str? x with
  | some s=>if 0≤i then match s[i.toNat]? with
    | some b=>some (.one (.d (zcB b)))
    | none=>none
   else none
  | none=>none
 | some (.array n e)=>match e? x with
  | some (.agg cs)=>if z0g P e≠0∧0≤i∧i<n then part P e cs (i.toNat*z0g P e) else none
  | _=>none
 | _=>none
def bound (o:Option (Option T)) (dflt:Nat):Option Nat:=
 match o with
 | none=>some dflt
 | some x=>match int? x with
  | some (_,i)=>if 0≤i then some i.toNat else none
  | none=>none
def z3n (P:Program) (t:TypeId) (x:Option T) (lo hi:Option (Option T)):Option C:=
 match P.underlying t with
 | some .string=>match str? x with
  | some s=>match bound lo 0,bound hi s.size with
   | some l,some h=>if l≤h∧h≤s.size then some (.d (.leaf (.string (s.extract l h)))) else none
   | _,_=>none
  | none=>none
 | some (.slice e)=>match row? x with
  | some (s,l)=>if s=z0g P e∧0<s then match bound lo 0,bound hi (l.length / s) with
    | some a,some b=>if a≤b∧b≤l.length / s then some (.d (.row s ((l.drop (a*s)).take ((b-a)*s)))) else none
    | _,_=>none
   else none
  | none=>none
 | _=>none
def z2B (P:Program) (t:TypeId) (x:Option T):Option Nat:=
 match P.underlying t with
 | some .string=>match str? x with
  | some s=>some s.size
  | none=>none
 | some (.array n _)=>some n
 | some (.slice e)=>match x with
  | some (.e (.one .nilS))=>some 0
  | some (.e (.one (.sl _ n _)))=>some n
  | x=>match row? x with
   | some (s,l)=>if 0<s then some (l.length / s) else none
   | none=>none
 | _=>none
def rowOf (s:Nat):Option T→Option (List D)
 | some (.e (.one .nilS))=>some []
 | x=>match row? x with
  | some (s',l)=>if s'=s then some l else none
  | none=>none
def z3K (P:Program) (t:TypeId):Option E:=
 match P.info? t with
 | some i=>match i.zero with
  | some z=>z9E z
  | none=>none
 | none=>none
def zok (P:Program) (e:TypeId):Bool:=match z3K P e with
 | some z=>z.cells.length==z0g P e&&z0g P e != 0
 | none=>false
def z08 (P:Program) (h:Nat→Option O) (base:Nat) (t:TypeId) (x y:Option T):Option Eff:=
 match P.underlying t with
 | some (.slice e)=>
  if zok P e=false then none else
  match rowOf (z0g P e) y with
  | some l' =>
   match x with
   | some (.e (.one .nilS))=>
    if (l'.length / z0g P e)*z30 P e≤140737488355328∧l'.length≤140737488355328 then
     some ⟨.e (.one (.gr base (z0g P e) l')),[(base,some (.own e (z0g P e) (l'.length / z0g P e)))],[base]⟩
    else none
   | some (.e (.one (.gr q s l)))=>match h q with
    | some (.own e' s' n)=>
     if s=z0g P e∧e'=e∧s'=s∧l.length=n*s∧((l.length+l'.length) / s)*z30 P e≤140737488355328∧l.length+l'.length≤140737488355328 then
      some ⟨.e (.one (.gr base s (l++l'))),(if q=base then [] else [(q,none)])++[(base,some (.own e s ((l.length+l'.length) / s)))],[q,base]⟩
     else none
    | _=>none
   | _=>none
  | none=>none
 | _=>none
def zce (P:Program) (src dst:TypeId) (x:Option T):Option C:=
 match P.underlying src,P.underlying dst with
 | some .string,some .string=>(str? x).map fun s=> .d (.leaf (.string s))
 | some .string,some (.slice e)=>match P.underlying e with
  | some (.int .u8)=>(str? x).map fun s=> .d (.row 1 (s.data.toList.map zcB))
  | _=>none
 | some (.slice e),some .string=>match P.underlying e with
  | some (.int .u8)=>match rowOf 1 x with
   | some l=>(bytesOf? l).map fun bs=> .d (.leaf (.string ⟨bs.toArray⟩))
   | none=>none
  | _=>none
 | some (.int _),some (.int k)=>match int? x with
  | some (_,n)=>some (.d (.leaf (.int k (k.wrap n))))
  | none=>none
 | _,_=>none
def lay (place:Nat→Option (Nat×Nat)):List C→List (Nat×Option E)→Option (List C)
 | cs,[]=>some cs
 | cs,(i,x)::rest=>match place i,x with
  | some (off,size),some x=>if x.cells.length=size∧off+size≤cs.length then lay place (z3Y cs off x.cells) rest else none
  | _,_=>none
def z5u (P:Program) (t:TypeId) (i:Nat):Option (Nat×Nat):=
 match P.underlying t with
 | some (.struct fs)=>match fs[i]? with
  | some f=>some (f.offset,z0g P f.type)
  | none=>none
 | some (.array _ e)=>some (i*z0g P e,z0g P e)
 | _=>none
def z1R (P:Program) (t:TypeId):Bool:=
 match P.underlying t with
 | some (.struct fs)=>fs.all fun f=>(P.info? f.type).isSome
 | some (.array _ e)=>(P.info? e).isSome
 | _=>false
def z88 (P:Program) (t:TypeId) (parts:List (Nat×Option E)):Option E:=
 match z3K P t with
 | some (.agg cs)=>if z1R P t then (lay (z5u P t) cs parts).map .agg else none
 | _=>none
def elems (P:Program) (e:TypeId):List (Option E)→Option (List D)
 | []=>some []
 | some x::rest=>match (x.fz (slz P 8 e)).ds with
  | some ds=>if ds.length=z0g P e then (elems P e rest).map (ds++·) else none
  | none=>none
 | none::_=>none
def z3f (P:Program) (base:Nat) (t:TypeId) (len:Nat) (parts:List (Nat×Option E)):Option Eff:=
 match P.underlying t with
 | some (.slice e)=>
  if zok P e=false∨len*z0g P e>2^24 then none else
  if parts.map (·.1)=List.range len then match elems P e (parts.map (·.2)) with
   | some l=>some ⟨.e (.one (.gr base (z0g P e) l)),[(base,some (.own e (z0g P e) len))],[base]⟩
   | none=>none
  else none
 | _=>none
def zfg (P:Program) (base:Nat) (t:TypeId) (n k:Option (IntKind×Int)):Option Eff:=
 match P.underlying t with
 | some (.slice e)=>match n,k,z3K P e with
  | some (_,n),some (_,k),some z=>
   if zok P e=true∧n=k∧0≤n∧n≤1000000∧(z30 P e:Int)*n≤100000000 then
    some ⟨.e (.one (.sl base n.toNat (z0g P e))),[(base,some (.var e ((List.replicate n.toNat z.cells).flatten)))],[base]⟩
   else none
  | _,_,_=>none
 | _=>none
def C.isD:C→Bool
 | .d _=>true
 | _=>false
def C.ren (base:Nat):C→C
 | .gr q s l=> .gr (base+1+q / 16) s l
 | c=>c
def E.ren (base:Nat):E→E
 | .one c=> .one (c.ren base)
 | .agg cs=> .agg (cs.map (C.ren base))
def T.ren (base:Nat):T→T
 | .e x=> .e (x.ren base)
 | .tup xs=> .tup (xs.map (E.ren base))
 | .undef=> .undef
def named (base:Nat):Nat→List O→List (Nat×Option O)
 | _,[]=>[]
 | i,o::os=>(base+1+i,some o)::named base (i+1) os
def C.z2y (n:Nat):C→Bool
 | .d _=>true
 | .nilS=>true
 | .gr q _ _=>q%16==14&&decide (q / 16<n)
 | .dead=>true
 | _=>false
def E.z2y (n:Nat) (x:E):Bool:=x.cells.all (C.z2y n)
def T.z2y (n:Nat):T→Bool
 | .e x=>x.z2y n
 | .tup xs=>xs.all (E.z2y n)
 | .undef=>false
def O.zc3:O→Bool
 | .own _ _ _=>true
 | _=>false
def O.plain:O→Bool
 | .var _ cs=>cs.all C.isD
 | _=>false
abbrev z1C:=FuncId→List E→List O→Option (T×List O×List O)
def idx (p:Nat):List Nat→Nat→Option Nat
 | [],_=>none
 | q::qs,i=>if q=p then some i else idx p qs (i+1)
def refsOf:List C→List Nat→List Nat
 | [],ps=>ps
 | .ref p _::cs,ps=>refsOf cs (if ps.contains p then ps else ps++[p])
 | _::cs,ps=>refsOf cs ps
def z0R:List (Option E)→List Nat→List Nat
 | [],ps=>ps
 | some x::xs,ps=>z0R xs (refsOf x.cells ps)
 | none::xs,ps=>z0R xs ps
def zbh:List C→List Nat→List Nat
 | [],ps=>ps
 | .sl p _ _::cs,ps=>zbh cs (if ps.contains p then ps else ps++[p])
 | _::cs,ps=>zbh cs ps
def z16:List (Option E)→List Nat→List Nat
 | [],ps=>ps
 | some x::xs,ps=>z16 xs (zbh x.cells ps)
 | none::xs,ps=>z16 xs ps
def setC (h:Nat→Option O):C→C
 | .sl p n s=>match h p with
  | some (.var _ cs)=>match dsOf cs with
   | some l=>if l.length=n*s∧0<s then .d (.row s l) else .sl p n s
   | none=> .sl p n s
  | _=> .sl p n s
 | c=>c
def setE (h:Nat→Option O):E→E
 | .one c=> .one (setC h c)
 | .agg cs=> .agg (cs.map (setC h))
def zbH (ps:List Nat):C→Option C
 | .d x=>some (.d x)
 | .ref p off=>(idx p ps 0).map fun i=> .ref (i*16+15) off
 | _=>none
def z6w (ps:List Nat):List C→Option (List C)
 | []=>some []
 | c::cs=>match zbH ps c with
  | some c=>(z6w ps cs).map (c::·)
  | none=>none
def zgr (ps:List Nat):E→Option E
 | .one c=>(zbH ps c).map .one
 | .agg cs=>(z6w ps cs).map .agg
def z23 (P:Program) (ps:List Nat):List TypeId→List (Option E)→Option (List E)
 | [],[]=>some []
 | t::ts,some x::xs=>match zgr ps (x.fz (slz P 8 t)) with
  | some y=>(z23 P ps ts xs).map (y::·)
  | none=>none
 | _,_=>none
def zdi (P:Program):O→Option O
 | .var ty cs=>if (fzs (slz P 8 ty) cs).all C.isD then some (.var ty (fzs (slz P 8 ty) cs)) else none
 | _=>none
def z1k (P:Program) (h:Nat→Option O):List Nat→Option (List O)
 | []=>some []
 | p::ps=>match (h p).bind (zdi P) with
  | some o=>(z1k P h ps).map (o::·)
  | none=>none
def z4u:List Nat→List O→List (Nat×Option O)
 | p::ps,o::os=>(p,some o)::z4u ps os
 | _,_=>[]
def z38:List O→List O→Bool
 | [],[]=>true
 | .var t _::a,.var u _::b=>t==u&&z38 a b
 | _,_=>false
def z5E (P:Program) (X:z1C) (h:Nat→Option O) (base:Nat) (f:Option T) (args:List (Option E)):Option Eff:=
 match f with
 | some (.e (.one (.d (.leaf (.func (.func g) fs ks)))))=>match P.funcs[g]? with
  | some fn=>if fn.body.isNone=true∨fs.size≠0∨ks.size≠0 then none else
   let zs:=z16 args []
   let args:=args.map (Option.map (setE h))
   let ps:=z0R args []
   if zs.any (fun z=>ps.contains z) then none else
   match z23 P ps fn.params.toList args,z1k P h ps with
   | some args,some os=>match X g args os with
    | some (t,ws,os')=>if ws.length<14∧ws.all O.zc3=true∧t.z2y ws.length=true∧os'.all O.plain=true∧z38 os os'=true then
      some ⟨t.ren base,zs.map (fun z=>(z,none))++(z4u ps os'++named base 0 ws),zs++(named base 0 ws).map (·.1)⟩
     else none
    | none=>none
   | _,_=>none
  | none=>none
 | _=>none
def zax (x y:Option T) (big:Bool):Option T:=
 match int? x,int? y with
 | some (k,a),some (k',b)=>if k=k' then some (.i k (if big then (if b>a then b else a) else (if b<a then b else a))) else none
 | _,_=>none
def zjk (P:Program) (op:BinOp) (t:TypeId) (x y:Option T):Option T:=
 match x,y with
 | some (.e (.one (.d (.leaf a)))),some (.e (.one (.d (.leaf b))))=>(binV P op t a b).map .v
 | some (.e (.one c)),some (.e (.one c'))=>(ziH P op t c c').map .v
 | _,_=>none
def z4A:Option T→Option T
 | some (.e (.one (.ref p o)))=>some (.e (.one (.ref p o)))
 | some (.e (.one (.ep l)))=>some (.e (.one (.ep l)))
 | some (.e (.one (.d (.leaf (.func (.func g) a b)))))=>some (.e (.one (.d (.leaf (.func (.func g) a b)))))
 | _=>none
def zjj (base:Nat) (t:TypeId) (x:E):Eff:=⟨.e (.one (.ref base 0)),[(base,some (.var t (x.cells.map (C.kill [base]))))],[base]⟩
def z5F (P:Program) (base:Nat) (ρ:Operand→Option T) (h:Nat→Option O) (b:Builtin) (args:List Operand) (ts:List TypeId):Option Eff:=
 match b,args,ts with
 | .len,[x],[t]=>(z2B P t (ρ x)).bind fun n=>T.eff (.i .i64 n)
 | .append,[x,y],[t,t']=>if t=t' then z08 P h base t (ρ x) (ρ y) else none
 | .min,[x,y],_=>(zax (ρ x) (ρ y) false).bind T.eff
 | .max,[x,y],_=>(zax (ρ x) (ρ y) true).bind T.eff
 | _,_,_=>none
def ev (P:Program) (X:z1C) (base:Nat) (op:Op) (ρ:Operand→Option T) (h:Nat→Option O):Option Eff:=
 match op with
 | .move x=>(ρ x).bind T.eff
 | .assign x=>(ρ x).bind T.eff
 | .pick c a b=>(bool? (ρ c)).bind fun t=>(if t then ρ a else ρ b).bind T.eff
 | .alloc t=>(z3K P t).map (zjj base t)
 | .box t x=>(e? (ρ x)).map (zjj base t)
 | .build t ps=>(z88 P t (ps.toList.map fun p=>(p.1,e? (ρ p.2)))).bind fun x=>T.eff (.e x)
 | .buildSlice t n ps=>z3f P base t n (ps.toList.map fun p=>(p.1,e? (ρ p.2)))
 | .makeSlice t n k=>zfg P base t (int? (ρ n)) (int? (ρ k))
 | .load t a=>match ρ a with
  | some (.e (.one c))=>(z2n P h t c).bind fun x=>T.eff (.e x)
  | _=>none
 | .store t a x=>match ρ a,ρ x with
  | some (.e (.one c)),some (.e x)=>z2X P h t c x
  | _,_=>none
 | .nilCheck x=>(z4A (ρ x)).bind T.eff
 | .binOp op t x y _=>(zjk P op t (ρ x) (ρ y)).bind T.eff
 | .unOp op _ x=>match ρ x with
  | some (.e (.one (.d (.leaf a))))=>(unV op a).bind fun v=>T.eff (.v v)
  | _=>none
 | .convert s d x=>(zce P s d (ρ x)).bind fun c=>T.eff (.e (.one c))
 | .fieldAddr t x f=>match ρ x with
  | some (.e (.one c))=>(z2Y P t f c).bind fun c=>T.eff (.e (.one c))
  | _=>none
 | .field t x f=>(e? (ρ x)).bind fun x=>(z86 P t f x).bind fun y=>T.eff (.e y)
 | .indexAddr t x i=>(int? (ρ i)).bind fun i=>(z0j P t (ρ x) i.2).bind fun c=>T.eff (.e (.one c))
 | .index t x i=>(int? (ρ i)).bind fun i=>(z6e P t (ρ x) i.2).bind fun y=>T.eff (.e y)
 | .slice t x lo hi mx=>if mx.isSome=true then none else (z3n P t (ρ x) (lo.map ρ) (hi.map ρ)).bind fun c=>T.eff (.e (.one c))
 | .extract x i=>match ρ x with
  | some (.tup xs)=>(xs[i]?).bind fun x=>T.eff (.e x)
  | _=>none
 | .call cl=>match cl.callee with
  | .value f=>z5E P X h base (ρ f) (cl.args.toList.map fun x=>e? (ρ x))
  | .builtin b=>z5F P base ρ h b cl.args.toList cl.argTypes.toList
  | _=>none
 | _=>none
end Am
end Go.Proofs.YtgmppconibklcaaGreatDoor

