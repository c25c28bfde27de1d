/- Part of the proof. No condition. -/
import Derived.Test.YtgmppconibklcaaGreatDoorM24
set_option maxHeartbeats 40000000
set_option maxRecDepth 100000
set_option linter.unusedVariables false
set_option linter.unusedSimpArgs false
namespace Go.Proofs.YtgmppconibklcaaGreatDoor
open Go Go.RowKit
theorem NS.row {w V V':World} {b:List UInt8} {A:Option Addr} {n c rb from_:Nat} {pos:Int} {P:Nat} {cs:Array Value} (h:NS w V b A n c rb from_ pos P cs) {r:Option Nat} (hg:V.grownBy V' r) (hr:∀ g,r=some g→P<g):NS w V' b A n c rb from_ pos P cs:=by
 have hp:=h.pl;have hl:=h.rl;refine ⟨?_,h.rd.grown hg (fun e=>by have:=hr _ e.symm;omega),h.frm.grown hg (fun e=>by have:=hr _ e.symm;omega),h.res.grown hg (fun e=>by have:=hr _ e.symm;omega),h.nd.grown hg (fun e=>by have:=hr _ e.symm;omega),h.data.grown hg (fun g e=> .inr (by have:=hr _ e;omega)),hp,hl⟩;exact ⟨hg.os.trans h.grown.os,hg.tape.trans h.grown.tape,hg.output.trans h.grown.output,Nat.le_trans h.grown.size hg.size,fun i hi hne=>(hg.block i (Nat.lt_of_lt_of_le hi h.grown.size) (fun e=>by have:=hr _ e.symm;omega)).trans (h.grown.block i hi hne)⟩
theorem zfY {P:Program} {ops:Array Oper} {o:Oper} {a:Act} {K:Act→World→Prop} {Q:Exit→Act→World→Prop} {E:Prop} {w1:World} (hgd:o.guard=none) (s x:Operand) (t e:TypeId)
  (ho:o.op = .call {callee:= .builtin .append,args:=#[s,x],argTypes:=#[t,t]}) (base:Nat) (i:TypeInfo) (z:Value) (size bytes:Nat) (ht:P.underlying t=some (.slice e)) (hi:P.info? e=some i) (hz:i.zero=some z)
  (hsize:i.size=size) (hby:i.bytes=bytes) (hzs:z.cells.size=size) (hsz:0<size) (v:Value) (n:Nat) (xs:List Value) (hs:a.eval s=v) (hown:w1.ownsRow base e size v n xs)
  (us:List Value) (hul:us.length=size) (hu:∀ u∈us,u.oneCell'=true) (cap:Nat) (hx:a.eval x = .slice (some ⟨w1.heap.size,0,none⟩) 1 cap) (hl:n≤10000000) (hby2:bytes≤1000) (hbase:base≤w1.heap.size)
  (h:∀ v' w',w'.ownsRow base e size v' (n+1) (xs++us)→w1.grownBy w' v.ownBlock→(∀ g,v'.ownBlock=some g→v.ownBlock=some g∨w1.heap.size≤g)→K (a.put o.dst v') w'):if Region.wanted o (yielded ops a.tmps)=true then Oper.wp P o a (w1.alloc (.cells us.toArray e)) K Q else E:=by
 have hr:Reads (w1.alloc (.cells us.toArray e)) (w1.heap.size+1) size (some ⟨w1.heap.size,0,none⟩) 1 us:=
  ⟨by rw [hul,Nat.one_mul],fun _=>⟨_,rfl,by simp,fun j y hy=>by
   have e:((⟨w1.heap.size,0,none⟩:Addr).add j)=⟨w1.heap.size,j,none⟩:=by
    unfold Addr.add;split
    ·rename_i h;subst h;rfl
    ·simp
   rw [e,(Blk.new w1 _ us.toArray).cell];simpa using hy⟩⟩
 have hm:(n+1)*bytes≤(10000000+1)*1000:=Nat.mul_le_mul (by omega) hby2;refine z4b _ hgd s x t ho base e i z size bytes ht hi hz hsize hby hzs hsz v n xs hs (hown.alloc _) _ _ 1 cap _ hx hr hu (by simp only [maxLen];omega) (by omega) (by simp;omega) (fun v' w' h1 h2 h3=>h v' w' h1 ?_ ?_)
 ·exact z2o (World.grownBy_alloc w1 _ _) h2 (fun g hg=> .inl hg)
 ·intro g hg;rcases h3 with h3|h3
  ·exact .inl (by rw [←h3];exact hg)
  ·rw [h3] at hg;injection hg with hg;subst hg;exact .inr (by simp)
def zad (w:World) (rb:Nat):Nat:=match w.cell? ⟨rb,1,none⟩ with
 | some (.int _ n)=>n.toNat
 | _=>0
theorem NS.zad {w V:World} {b:List UInt8} {A:Option Addr} {n c rb from_:Nat} {pos:Int} {P:Nat} {cs:Array Value} (h:NS w V b A n c rb from_ pos P cs):zad V rb=pos.toNat:=by
 have:=h.rd.cell 1;unfold Proofs.YtgmppconibklcaaGreatDoor.zad;rw [this];rfl
structure LI (w wr:World) (b S:List UInt8) (A:Option Addr) (n c rb at_ B0 d P:Nat) (C G:Int) (i last:Nat) (ri:Bool) (ns:List Nd) (cuts:List (List UInt8)) (xs:List Value) (v5:Value):Prop where
 st:NS w wr b A n c rb at_ ((B0:Int)+(i:Int)) P #[.int .i64 C,.int .i64 G,.bool true,.slice none 0 0,v5]
 own:wr.ownsRow (P+1) 61 5 v5 ns.length xs
 all:z0z wr (fun g=>g≤P∨v5.ownBlock=some g) xs (ns.flatMap Nd.cells)
 rds:Dr.rds (d+1) S=match Dr.rds (d+1) (S.drop i) with
  | none=>none
  | some (ms,cs)=>some (ns++ms,cuts++cs)
 cnt:cuts.length=ns.length
 few:ns.length≤i
 lst:last≤B0+i∧(0<ns.length→(b.drop last).take (B0+i-last)=cuts.getLastD [])
 ris:ri=Dr.rising cuts
section
variable {w wr V2 V4:World} {b S:List UInt8} {A:Option Addr} {n c rb at_ B0 d P:Nat} {C G:Int} {i last:Nat} {ri:Bool} {ns:List Nd} {cuts:List (List UInt8)} {xs:List Value} {v5:Value}
theorem LI.start (h:NS w wr b A n c rb at_ (B0:Int) P #[.int .i64 C,.int .i64 G,.bool true,.slice none 0 0,.slice none 0 0]):LI w wr b S A n c rb at_ B0 d P C G 0 B0 true [] [] [] (.slice none 0 0):=by
 refine ⟨by simpa using h,World.ownsRow_nil _ _ _ _,.nil_,?_,rfl,Nat.le_refl _,⟨Nat.le_refl _,fun h=>absurd h (by decide)⟩,rfl⟩;rw [List.drop_zero];split
 ·rename_i h;exact h
 ·rename_i ms cs h;rw [h];rfl
theorem LI.none_ (h:LI w wr b S A n c rb at_ B0 d P C G i last ri ns cuts xs v5) (hi:i<S.length) (hr:Dr.rd (d+1) (S.drop i)=none):Dr.rds (d+1) S=none:=by
 have hne:S.drop i≠[]:=fun e=>by have:=congrArg List.length e;rw [List.length_drop] at this;simp at this;omega
 rw [h.rds,Dr.zen _ hne,hr]
theorem LI.end_ (h:LI w wr b S A n c rb at_ B0 d P C G i last ri ns cuts xs v5) (hi:i=S.length):Dr.rds (d+1) S=some (ns,cuts):=by
 have he:S.drop i=[]:=by rw [hi];exact List.drop_length
 rw [h.rds,he,Dr.zmR];simp
theorem zmL {b S:List UInt8} {B0 size i p E0:Nat} (hS:S=(b.drop B0).take size) (hp:p=B0+i) (he:E0-p=size-i):(b.drop p).take (E0-p)=S.drop i:=by
 rw [hS,List.drop_take,List.drop_drop,hp,←hp,he]
theorem z1r {size k:Nat} (hS:S=(b.drop B0).take size) (hk:k≤size-i):(b.drop (B0+i)).take k=(S.drop i).take k:=by
 rw [hS,List.drop_take,List.take_take,List.drop_drop,Nat.min_eq_left hk]
theorem LI.step {size k:Nat} {nd:Nd} {vb vk v6:Value} (h:LI w wr b S A n c rb at_ B0 d P C G i last ri ns cuts xs v5) (hS:S=(b.drop B0).take size) (hSl:S.length=size) (hi:i<size) (hr:Dr.rd (d+1) (S.drop i)=some (nd,k))
  (hg2:wr.grownBy V2 (some rb)) (h2:NS w V2 b A n c rb at_ ((B0:Int)+(i:Int)+(k:Int)) P #[.int .i64 C,.int .i64 G,.bool true,.slice none 0 0,v5])
  (hb:Is V2 (Old wr) vb (z04 nd.bytes)) (hk:Is V2 (Old wr) vk (ndsD nd.kids))
  (o6:V4.ownsRow (P+1) 61 5 v6 (ns.length+1) (xs++[.int .i64 nd.cls,.int .i64 nd.tag,.bool nd.cons,vb,vk])) (g6:V2.grownBy V4 v5.ownBlock) (k6:∀ g,v6.ownBlock=some g→v5.ownBlock=some g∨V2.heap.size≤g)
  {ri':Bool} (hri:ri'=(ri&&(ns.length==0||decide (Lib.compareBytes (cuts.getLastD []) ((S.drop i).take k)≤0)))):
  LI w (V4.setCell ⟨P,4,none⟩ v6) b S A n c rb at_ B0 d P C G (i+k) (B0+i) ri' (ns++[nd]) (cuts++[(S.drop i).take k]) (xs++[.int .i64 nd.cls,.int .i64 nd.tag,.bool nd.cons,vb,vk]) v6:=by
 obtain ⟨hk0,hkl,_,_⟩:=Dr.rd_some hr;rw [List.length_drop,hSl] at hkl;have hlt5:∀ g,v5.ownBlock=some g→P<g∧g<wr.heap.size:=fun g hg=>by have:=h.own.lt g hg;omega
 have hlt6:∀ g,v6.ownBlock=some g→P<g:=fun g hg=>by have:=(o6.lt g hg).1;omega
 have hn:=h.st.nd.lt;have hrp:rb≤P:=by have h1:=h.st.pl;have h2:=h.st.rl;omega
 refine ⟨?_,?_,?_,?_,?_,?_,⟨by omega,fun _=>?_⟩,?_⟩
 ·have e:((B0:Int)+((i+k:Nat):Int))=(B0:Int)+(i:Int)+(k:Int):=by omega
  rw [e];exact (h2.row g6 (fun g hg=>(hlt5 g hg).1)).setN 4 v6
 ·rw [List.length_append,List.length_singleton];exact zdl o6 (fun e=>by have:=hlt6 _ e;simp at this) _
 ·have a2:z0z V2 (fun g=>g≤P∨v5.ownBlock=some g) xs (ns.flatMap Nd.cells):=h.all.keep fun u d hu=>hu.grown hg2 (fun g hg=>by injection hg with hg;subst hg;exact .inl hrp)
  have n2:z0z V2 (fun g=>g≤P∨v5.ownBlock=some g) [.int .i64 nd.cls,.int .i64 nd.tag,.bool nd.cons,vb,vk] nd.cells:=by
   have hlt:∀ g,(g≤P∨v5.ownBlock=some g)→g<wr.heap.size:=fun g hg=>by
    rcases hg with hg|hg
    ·omega
    ·exact (hlt5 g hg).2
   exact NdAt.all (hb.less (fun b hb _=>hlt b hb)) (hk.less (fun b hb _=>hlt b hb))
  rw [Nd.z6h];exact (z0z.step (O:=fun g=>g≤P) a2 n2 g6 k6).keep fun u d hu=>hu.setCell (p:=⟨P,4,none⟩) (.inl (Nat.le_refl _)) _
 ·have hne:S.drop i≠[]:=fun e=>by have:=congrArg List.length e;rw [List.length_drop] at this;simp at this;omega
  rw [h.rds,Dr.zen _ hne,hr];simp only [List.drop_drop];cases Dr.rds (d+1) (S.drop (i+k)) with
  | none=>rfl
  | some q=>obtain ⟨ms,cs⟩:=q;simp
 ·rw [List.length_append,List.length_append,h.cnt,List.length_singleton,List.length_singleton]
 ·rw [List.length_append,List.length_singleton];have:=h.few;omega
 ·have e1:B0+(i+k)-(B0+i)=k:=by omega
  rw [e1,z1r hS (by omega)];simp
 ·rw [hri,h.ris];rcases List.eq_nil_or_concat cuts with h0|⟨cs0,a0,h0⟩
  ·have:ns.length=0:=by have:=h.cnt;rw [h0] at this;simpa using this.symm
   rw [h0,this];rfl
  ·have h1:=h.cnt;rw [h0,List.concat_eq_append] at h1 ⊢;rw [List.length_append,List.length_singleton] at h1;have h2:(ns.length==0)=false:=by rw [beq_eq_false_iff_ne];omega
   rw [Dr.z2N,h2,Bool.false_or];simp
end
theorem zgu {M:Nat} (IH:zcH M) {w W:World} {b:List UInt8} {A:Option Addr} {n c rb from_ P:Nat} {cs:Array Value} {p stop d:Nat} (h:NS w W b A n c rb from_ (p:Int) P cs) (hm:stop-p<M) (hn:n≤40000) (hs:stop≤n) (hp:p≤stop) (hd:d≤1000) (hT:z8D rb W):
  Calls Tryz.prog 111 #[.pointer (some ⟨rb,0,none⟩),.int .i64 stop,.int .i64 d] W (z3i b A n c rb p stop d W):=IH b A n c rb p stop d W hm h.rd h.zgV hn hs hp hd hT
theorem z8z {w W w':World} {b:List UInt8} {A:Option Addr} {n c rb from_ P:Nat} {cs:Array Value} {p stop d k:Nat} {nd:Nd} {e:Ending} (h:NS w W b A n c rb from_ (p:Int) P cs) (hr:Dr.rd d ((b.drop p).take (stop-p))=some (nd,k)) (hp:z3i b A n c rb p stop d W e w'):
  ∃ Ab cb Ak ck,e = .returned (.agg #[.int .i64 nd.cls,.int .i64 nd.tag,.bool nd.cons,.slice Ab nd.bytes.length cb,.slice Ak nd.kids.length ck])∧Is w' (Old W) (.slice Ab nd.bytes.length cb) (z04 nd.bytes)∧Is w' (Old W) (.slice Ak nd.kids.length ck) (ndsD nd.kids)∧W.grownBy w' (some rb)∧NS w w' b A n c rb from_ ((p:Int)+(k:Int)) P cs:=by
 obtain ⟨hg,hm⟩:=hp;rw [hr] at hm;obtain ⟨v,rfl,⟨vb,vk,rfl,hb,hk⟩,hbl⟩:=hm;obtain ⟨Ab,cb,rfl,_⟩:=hb.bytes;obtain ⟨Ak,ck,rfl,_⟩:=hk.nodes;exact ⟨Ab,cb,Ak,ck,rfl,hb,hk,hg,h.step hg (by rw [←Int.natCast_add];exact hbl)⟩
theorem zal {W w':World} {b:List UInt8} {A:Option Addr} {n c rb:Nat} {p stop d:Nat} {e:Ending} (hr:Dr.rd d ((b.drop p).take (stop-p))=none) (hp:z3i b A n c rb p stop d W e w'):
  ∃ x y:Int,e = .panicked [{v:=z41 x y,recovered:=false}]∧(y==0)=false∧W.grownBy w' (some rb):=by
 obtain ⟨hg,hm⟩:=hp;rw [hr] at hm;obtain ⟨x,y,hy,rfl⟩:=hm;exact ⟨x,y,rfl,hy,hg⟩
end Go.Proofs.YtgmppconibklcaaGreatDoor

