/- Part of the proof. No condition. -/
import Derived.Test.YtgmppconibklcaaGreatDoorM0
import Derived.ChangeArms
import Derived.DataReads
import Derived.SizedLaws
import GoSem.ClaimJoined
import Derived.Test.YtgmppconibklcaaGreatDoorM37
import Derived.Test.YtgmppconibklcaaGreatDoorM40
import Derived.WideShapes
import Derived.Test.YtgmppconibklcaaGreatDoorM50
import Derived.Test.YtgmppconibklcaaGreatDoorTie
import Derived.Test.YtgmppconibklcaaGreatDoorCards
import Derived.Test.YtgmppconibklcaaGreatDoorShelf
import Derived.ProofKit
import Derived.OpenShut
import Derived.LaidMore
import Derived.Lay
import Derived.Stop.Joined
import Derived.Lib.LaidU8
import Derived.Test.YtgmppconibklcaaGreatDoorProg
import Derived.HandedShaped
import Derived.Carry
import GoSem.ClaimGoes
import Derived.KernelRfl
import Derived.Test.YtgmppconibklcaaGreatDoorRows
import Derived.JoinedOf
set_option maxHeartbeats 40000000
set_option maxRecDepth 100000
set_option linter.unusedVariables false
set_option linter.unusedSimpArgs false
namespace Go.Proofs.YtgmppconibklcaaGreatDoor
open Go Go.RowKit
inductive Shp (P:Program) (R:Nat):TypeId→List D→Prop
 | bool (t:TypeId) (b:Bool) (h:P.underlying t=some .bool):Shp P R t [.leaf (.bool b)]
 | int (t:TypeId) (k:IntKind) (n:Int) (h:P.underlying t=some (.int k)) (w:(Lit.int k n).wf=true):Shp P R t [.leaf (.int k n)]
 | str (t:TypeId) (s:ByteArray) (h:P.underlying t=some .string) (w:s.size≤R):Shp P R t [.leaf (.string s)]
 | slice (t e:TypeId) (xs:List (List D)) (h:P.underlying t=some (.slice e)) (hl:∀ x∈xs,x.length=P.cellsOf e) (hs:∀ x∈xs,Shp P R e x) (w:xs.length*P.bytesOf e≤R):Shp P R t [.row (P.cellsOf e) xs.flatten]
 | struct (t:TypeId) (fs:Array Field) (ds:List D) (h:P.underlying t=some (.struct fs)) (hl:ds.length=P.cellsOf t) (hs:∀ f∈fs.toList,Shp P R f.type ((ds.drop f.offset).take (P.cellsOf f.type))):Shp P R t ds
section
variable (P:Program)
def zb7 (m:Nat):List Field→Nat→Bool
 | [],n=>n==m
 | f::r,n=>f.offset==n&&zb7 m r (n+P.cellsOf f.type)
def zjz (S:List TypeId):Bool:=S.all fun t=>match P.underlying t with
 | some .bool=>P.cellsOf t==1
 | some (.int _)=>P.cellsOf t==1
 | some .string=>P.cellsOf t==1
 | some (.slice e)=>S.contains e&&decide (0<P.cellsOf e)&&P.cellsOf t==1
 | some (.struct fs)=>fs.toList.all (fun f=>S.contains f.type)&&zb7 P (P.cellsOf t) fs.toList 0
 | _=>false
variable {P}
theorem ze6 {m:Nat}:∀ {l:List Field} {n:Nat},zb7 P m l n=true→n≤m
 | [],n,h=>by simp [zb7] at h;omega
 | f::r,n,h=>by
  simp only [zb7,Bool.and_eq_true] at h;have:=ze6 h.2;omega
theorem z0z.len {w:World} {Av:Nat→Prop} {us:List Value} {ds:List D} (h:z0z w Av us ds):us.length=ds.length:=h.1
theorem ze7 {R:Nat} {w:World} {Av:Nat→Prop} {cs:List Value} {m:Nat} (hm:cs.length=m):∀ (l:List Field) (n:Nat),zb7 P m l n=true →
  (∀ f∈l,∃ ds,z0z w Av ((cs.drop f.offset).take (P.cellsOf f.type)) ds∧Shp P R f.type ds)→∃ ds,z0z w Av (cs.drop n) ds∧∀ f∈l,n≤f.offset∧Shp P R f.type ((ds.drop (f.offset-n)).take (P.cellsOf f.type))
 | [],n,h,_=>by
  simp only [zb7,beq_iff_eq] at h;refine ⟨[],?_,fun f hf=>by cases hf⟩;rw [List.drop_eq_nil_of_le (by omega)];exact ⟨rfl,fun j u d hu=>by simp at hu⟩
 | f::r,n,h,hf=>by
  simp only [zb7,Bool.and_eq_true,beq_iff_eq] at h;obtain ⟨h1,h2⟩:=h;have hle:=ze6 h2;obtain ⟨d1,a1,s1⟩:=hf f (by simp);obtain ⟨d2,a2,s2⟩:=ze7 hm r _ h2 fun g hg=>hf g (List.mem_cons_of_mem _ hg)
  have hl1:d1.length=P.cellsOf f.type:=by
   rw [←a1.1,List.length_take,List.length_drop];omega
  refine ⟨d1++d2,?_,fun g hg=>?_⟩
  ·have e:cs.drop n=(cs.drop n).take (P.cellsOf f.type)++cs.drop (n+P.cellsOf f.type):=by
    rw [←List.drop_drop,List.take_append_drop]
   rw [e];rw [h1] at a1;exact a1.app a2
  ·rcases List.mem_cons.1 hg with rfl|hg
   ·refine ⟨by omega,?_⟩;rw [h1,Nat.sub_self,List.drop_zero,←hl1,List.take_left];exact s1
   ·obtain ⟨b1,b2⟩:=s2 g hg;refine ⟨by omega,?_⟩;have e:g.offset-n=d1.length+(g.offset-(n+P.cellsOf f.type)):=by omega
    rw [e,←List.drop_drop,List.drop_left];exact b2
theorem add_add (a:Addr) (i j:Nat):(a.add i).add j=a.add (i+j):=by
 unfold Addr.add;by_cases hi:i=0<;>by_cases hj:j=0<;>simp [hi,hj,Nat.add_assoc]
variable {H:Type} {enc:TypeId×Value→H} {w:World} {held:Bool}
theorem z58 {e:TypeId}:∀ {l:List (DataW H)} {d:DataW H},d∈l→∀ {n:Nat},n∈d.weights P e→n∈DataW.weightsAll P e l
 | x::r,d,hm,n,hn=>by
  rw [DataW.weightsAll];rcases List.mem_cons.1 hm with rfl|hm
  ·exact List.mem_append_left _ hn
  ·exact List.mem_append_right _ (z58 hm hn)
theorem z6Q {R:Nat} {S:List TypeId} (hS:zjz P S=true):∀ (fuel:Nat) (t:TypeId) (cs:List Value) (x:DataW H×List MemPlace),t∈S→DataW.trod enc P w 0 (fun _=>true) held fuel t cs=some x→(∀ n∈x.1.weights P t,n≤R) →
  ∃ ds,z0z w (fun _=>False) cs ds∧Shp P R t ds∧ds.length=P.cellsOf t
 | 0,t,cs,x,ht,h,hw=>by simp [DataW.trod] at h
 | fuel+1,t,cs,x,ht,h,hw=>by
  have hc:=List.all_eq_true.1 hS t ht;cases hu:P.underlying t with
  | none=>rw [hu] at hc;cases hc
  | some u=>
   rw [hu] at hc;cases u with
   | bool=>
    obtain ⟨b,rfl,rfl⟩:=DataW.trod_bool hu h;simp only [beq_iff_eq] at hc;exact ⟨_,z0z.z0D (.leaf _) .nil_,.bool t b hu,by rw [hc];rfl⟩
   | int k=>
    obtain ⟨n,rfl,rfl,hwf⟩:=DataW.trod_int hu h;simp only [beq_iff_eq] at hc;exact ⟨_,z0z.z0D (.leaf _) .nil_,.int t k n hu hwf,by rw [hc];rfl⟩
   | string=>
    obtain ⟨s,rfl,rfl,_⟩:=DataW.trod_string hu h;simp only [beq_iff_eq] at hc;have:s.data.toList.length≤R:=hw _ (by rw [DataW.weights.eq_def];exact List.mem_singleton.2 rfl);exact ⟨_,z0z.z0D (.leaf _) .nil_,.str t s hu (by show s.data.size≤R;rw [←Array.length_toList];exact this),by rw [hc];rfl⟩
   | slice e=>
    simp only [Bool.and_eq_true,decide_eq_true_eq,beq_iff_eq] at hc;obtain ⟨⟨he,hz⟩,hc1⟩:=hc;have he':e∈S:=by simpa using he
    rcases DataW.trod_slice hu h with ⟨rfl,rfl⟩|⟨a,len,cap,elems,rest,n,hn,rfl,rfl,hb,hlc,hm,hlen,hel,_,_⟩
    ·have hs:Shp P R t [.row (P.cellsOf e) ([]:List (List D)).flatten]:= .slice t e [] hu (fun x h=>by cases h) (fun x h=>by cases h) (by simp);exact ⟨_,z0z.z0D (Is.row_ (us:=[]) (by simp) hz (by simp) ⟨rfl,fun j u d hu=>by simp at hu⟩ (fun h=>by simp at h)) .nil_,hs,by rw [hc1];rfl⟩
    ·injection hn with hn;subst hn;have hwt:∀ m,m∈(elems.length+rest.length)*P.bytesOf e::(DataW.weightsAll P e (elems.map (·.1))++DataW.weightsAll P e (rest.map (·.1)))→m≤R:=fun m hm=>hw m (by
      rw [DataW.weights.eq_def];simp only [hu,List.length_map];exact hm)
     have each:∀ i,i<len→∃ ds:List D,ds.length=P.cellsOf e∧Shp P R e ds∧∀ j d,ds[j]? = some d→∃ u,w.cell? (a.add (i*P.cellsOf e+j))=some u∧Is w (fun _=>False) u d:=by
      intro i hi;have h1:=hel i hi;have hi':i<elems.length:=by omega
      rw [List.getElem?_eq_getElem hi',Option.bind_eq_some_iff] at h1;obtain ⟨cs',hcs,hy⟩:=h1;obtain ⟨_,hl',hcell⟩:=World.cells?_some hcs;obtain ⟨ds,h2,h3,h4⟩:=z6Q hS fuel e cs' _ he' hy fun m hm=>hwt m (List.mem_cons_of_mem _ (List.mem_append_left _ (z58 (List.mem_map.2 ⟨_,List.getElem_mem hi',rfl⟩) hm)))
      refine ⟨ds,h4,h3,fun j d hd=>?_⟩;have hj:j<ds.length:=(List.getElem?_eq_some_iff.1 hd).1;have hj':j<cs'.length:=by rw [h2.1];exact hj
      have h5:=hcell j (by omega);rw [add_add,List.getElem?_eq_getElem hj'] at h5;exact ⟨_,h5,h2.2 j _ d (List.getElem?_eq_getElem hj') hd⟩
     let g:Nat→List D:=fun i=>if h:i<len then Classical.choose (each i h) else List.replicate (P.cellsOf e) (.leaf (.bool false))
     have hg:∀ i,(h:i<len)→g i=Classical.choose (each i h):=fun i h=>dif_pos h
     have hgl:∀ i,(g i).length=P.cellsOf e:=fun i=>by
      by_cases hi:i<len
      ·rw [hg i hi];exact (Classical.choose_spec (each i hi)).1
      ·show (if h:i<len then _ else _:List D).length=_;rw [dif_neg hi,List.length_replicate]
     have hflat:((List.range len).flatMap g).length=len*P.cellsOf e:=by rw [z1H hgl,List.length_range]
     have cellAt:∀ j d,((List.range len).flatMap g)[j]? = some d→∃ u,w.cell? (a.add j)=some u∧Is w (fun _=>False) u d:=by
      intro j d hd;have hj:j<len*P.cellsOf e:=by rw [←hflat];exact (List.getElem?_eq_some_iff.1 hd).1
      have hi:j / P.cellsOf e<len:=Nat.div_lt_of_lt_mul (by rw [Nat.mul_comm];exact hj);have hat:=z6d hgl (List.range len) (j / P.cellsOf e) (by rw [List.length_range];exact hi);rw [List.getElem_range] at hat;have hr:j%P.cellsOf e<P.cellsOf e:=Nat.mod_lt _ hz;have e1:j / P.cellsOf e*P.cellsOf e+j%P.cellsOf e=j:=Nat.div_add_mod' _ _;have hd2:(g (j / P.cellsOf e))[j%P.cellsOf e]? = some d:=by
       rw [←hat,List.getElem?_take,if_pos hr,List.getElem?_drop,e1,hd]
      rw [hg _ hi] at hd2;obtain ⟨u,h5,h6⟩:=(Classical.choose_spec (each _ hi)).2.2 _ d hd2;rw [e1] at h5;exact ⟨u,h5,h6⟩
     have hsp:len≠0→∃ b o,a=⟨b,o,none⟩:=fun h0=>by
      have h1:0<len*P.cellsOf e:=Nat.mul_pos (by omega) hz;have h2:(((List.range len).flatMap g)[0]?).isSome:=by rw [List.getElem?_eq_getElem (by rw [hflat];exact h1)];rfl
      obtain ⟨d,hd⟩:=Option.isSome_iff_exists.1 h2;obtain ⟨u,h3,_⟩:=cellAt 0 d hd;have h4:=World.cell?_spot h3;obtain ⟨b,o,sp⟩:=a;simp [Addr.add] at h4;subst h4;exact ⟨b,o,rfl⟩
     have hS2:Shp P R t [.row (P.cellsOf e) ((List.range len).map g).flatten]:=by
      refine .slice t e _ hu (fun x hx=>?_) (fun x hx=>?_) ?_
      ·obtain ⟨i,_,rfl⟩:=List.mem_map.1 hx;exact hgl i
      ·obtain ⟨i,hi,rfl⟩:=List.mem_map.1 hx;have hi:=List.mem_range.1 hi;rw [hg i hi];exact (Classical.choose_spec (each i hi)).2.1
      ·have:=hwt _ List.mem_cons_self;rw [List.length_map,List.length_range];rw [hlen] at this;exact Nat.le_trans (Nat.mul_le_mul_right _ (Nat.le_add_right _ _)) this
     refine ⟨_,z0z.z0D ?_ .nil_,hS2,by rw [hc1];rfl⟩;have ef:((List.range len).map g).flatten=(List.range len).flatMap g:=by rw [List.flatMap_def]
     rw [ef];have hget:∀ j,j<len*P.cellsOf e→∃ u d,w.cell? (a.add j)=some u∧((List.range len).flatMap g)[j]? = some d∧Is w (fun _=>False) u d:=fun j hj=>by
      have h2:((List.range len).flatMap g)[j]? = some (((List.range len).flatMap g)[j]'(by rw [hflat];exact hj)):=List.getElem?_eq_getElem _;obtain ⟨u,h3,h4⟩:=cellAt j _ h2;exact ⟨u,_,h3,h2,h4⟩
     let us:List Value:=(List.range (len*P.cellsOf e)).map fun j=>(w.cell? (a.add j)).getD (.bool false)
     have hus:∀ j u,us[j]? = some u→w.cell? (a.add j)=some u:=fun j u hu=>by
      have hj:j<len*P.cellsOf e:=by have:=(List.getElem?_eq_some_iff.1 hu).1;simpa [us] using this
      obtain ⟨u',d,h1,_,_⟩:=hget j hj;simp only [us,List.getElem?_map,List.getElem?_range hj,Option.map_some,h1,Option.getD_some,Option.some.injEq] at hu;rw [h1,hu]
     refine Is.row_ (us:=us) hflat hz hlc ⟨by simp [us,hflat],fun j u d hu hd=>?_⟩ fun h0=>?_
     ·obtain ⟨u',h1,h2⟩:=cellAt j d hd;have:=hus j u hu;rw [h1] at this;injection this with this;subst this;exact h2
     ·obtain ⟨b,o,rfl⟩:=hsp (by omega);refine ⟨b,o,rfl,id,fun j u hu=>?_⟩;have:=hus j u hu;unfold Addr.add at this;split at this
      ·rename_i hj;subst hj;exact this
      ·exact this
   | struct fs=>
    simp only [Bool.and_eq_true] at hc;obtain ⟨xs,n,hn,rfl,hl,hxl,hx⟩:=DataW.trod_struct hu h;injection hn with hn;subst hn;obtain ⟨ds,h1,h2⟩:=ze7 (P:=P) (R:=R) (w:=w) (Av:=fun _=>False) hl fs.toList 0 hc.2 fun f hf=>by
     obtain ⟨i,hi⟩:=List.getElem?_of_mem hf;have hi':fs[i]? = some f:=by rw [←hi];simp
     have h3:=hx i f hi';have hi2:i<xs.length:=by
      have:=(List.getElem?_eq_some_iff.1 hi).1;rw [hxl];simpa using this
     rw [List.getElem?_eq_getElem hi2] at h3;have hfS:f.type∈S:=by have:=List.all_eq_true.1 hc.1 f hf;simpa using this
     obtain ⟨d,h4,h5,_⟩:=z6Q hS fuel f.type _ _ hfS h3 fun m hm=>hw m (by
      rw [DataW.weights.eq_def];simp only [hu];exact DataW.weights_mem_each (j:=i) (t:=f.type) (d:=xs[i].1) (by rw [List.getElem?_map,hi];rfl) (by rw [List.getElem?_map,List.getElem?_eq_getElem hi2];rfl) m hm)
     exact ⟨d,h4,h5⟩
    rw [List.drop_zero] at h1;have hdl:ds.length=P.cellsOf t:=by rw [←h1.1,hl]
    exact ⟨ds,h1,.struct t fs ds hu hdl fun f hf=>by have:=(h2 f hf).2;rwa [Nat.sub_zero] at this,hdl⟩
   | _=>cases hc
end
end Go.Proofs.YtgmppconibklcaaGreatDoor

namespace Go.Proofs.YtgmppconibklcaaGreatDoor
open Go Go.RowKit Go.WideShapes
namespace Am
section
variable {P:Program} {R:Nat} {t e:TypeId} {ds:List D}
theorem zhx {k:IntKind} (hu:P.underlying t=some (.int k)) (h:Shp P R t ds):∃ n,ds=[.leaf (.int k n)]∧(Lit.int k n).wf=true:=by
 cases h with
 | int _ k' n h w=>rw [hu] at h;cases h;exact ⟨n,rfl,w⟩
 | _=>simp_all
theorem z9Q (hu:P.underlying t=some .bool) (h:Shp P R t ds):∃ b,ds=[.leaf (.bool b)]:=by
 cases h with
 | bool _ b h=>exact ⟨b,rfl⟩
 | _=>simp_all
theorem zcY (hu:P.underlying t=some .string) (h:Shp P R t ds):∃ l:List UInt8,ds=[.leaf (.string ⟨l.toArray⟩)]∧l.length≤R:=by
 cases h with
 | str _ s h w=>exact ⟨s.data.toList,by rw [Array.toArray_toList],by rw [Array.length_toList];exact w⟩
 | _=>simp_all
theorem z7o (hu:P.underlying t=some (.slice e)) (h:Shp P R t ds):∃ xs:List (List D),ds=[.row (P.cellsOf e) xs.flatten]∧(∀ x∈xs,Shp P R e x)∧xs.length*P.bytesOf e≤R:=by
 cases h with
 | slice _ e' xs h hl hs w=>rw [hu] at h;cases h;exact ⟨xs,rfl,hs,w⟩
 | _=>simp_all
theorem z8P {fs:Array Field} (hu:P.underlying t=some (.struct fs)) (h:Shp P R t ds):ds.length=P.cellsOf t∧∀ f∈fs.toList,Shp P R f.type ((ds.drop f.offset).take (P.cellsOf f.type)):=by
 cases h with
 | struct _ fs' ds h hl hs=>rw [hu] at h;cases h;exact ⟨hl,hs⟩
 | _=>simp_all
end
theorem z73 {β:Type} {g:β→List D} {Q:β→Prop}:∀ (xs:List (List D)),(∀ x∈xs,∃ n,x=g n∧Q n)→∃ ns:List β,xs.flatten=ns.flatMap g∧ns.length=xs.length∧∀ n∈ns,Q n
 | [],_=>⟨[],rfl,rfl,fun n h=>by cases h⟩
 | x::r,h=>by
  obtain ⟨n,rfl,hq⟩:=h x List.mem_cons_self;obtain ⟨ns,h1,h2,h3⟩:=z73 r fun y hy=>h y (List.mem_cons_of_mem _ hy)
  exact ⟨n::ns,by rw [List.flatten_cons,h1,List.flatMap_cons],by simp [h2],fun m hm=>by
   rcases List.mem_cons.1 hm with rfl|hm
   ·exact hq
   ·exact h3 m hm⟩
theorem z82 {α:Type} (f:α→D) (l:List α):(l.flatMap fun x=>[f x])=l.map f:=by
 induction l with
 | nil=>rfl
 | cons a l ih=>rw [List.flatMap_cons,ih];rfl
section
variable {R:Nat} {ds:List D}
theorem zhw (h:Shp Tryz.prog R 22 ds):∃ b:List UInt8,ds=[z04 b]∧b.length≤R:=by
 obtain ⟨xs,rfl,h1,h2⟩:=z7o Tryz.underlying22 h;obtain ⟨ns,h3,h4,_⟩:=z73 (g:=fun b:UInt8=>[.leaf (.int .u8 (b.toNat:Int))]) (Q:=fun _=>True) xs fun x hx=>by
  obtain ⟨n,rfl,hw⟩:=zhx Tryz.underlying5 (h1 x hx);simp only [Lit.wf,Bool.and_eq_true,decide_eq_true_eq] at hw;have e1:IntKind.u8.min=0:=rfl;have e2:IntKind.u8.max=255:=rfl;refine ⟨UInt8.ofNat n.toNat,?_,trivial⟩;have:(UInt8.ofNat n.toNat).toNat=n.toNat:=by rw [UInt8.toNat_ofNat'];omega
  rw [this];have:((n.toNat:Nat):Int)=n:=by omega
  rw [this]
 refine ⟨ns,?_,?_⟩
 ·rw [h3,z82,show Tryz.prog.cellsOf 5=1 by kernel_rfl];rfl
 ·have:Tryz.prog.bytesOf 5=1:=by kernel_rfl
  rw [this] at h2;omega
theorem zmJ {t:TypeId} (hu:Tryz.prog.underlying t=some (.slice 208)) (h:Shp Tryz.prog R t ds):∃ l:List Nat,ds=[nuR .u32 l]∧Nt.Lb l∧l.length≤R:=by
 obtain ⟨xs,rfl,h1,h2⟩:=z7o hu h;obtain ⟨ns,h3,h4,h5⟩:=z73 (g:=fun n:Nat=>[.leaf (.int .u32 (n:Int))]) (Q:=fun n=>n<4294967296) xs fun x hx=>by
  obtain ⟨n,rfl,hw⟩:=zhx Tryz.underlying208 (h1 x hx);simp only [Lit.wf,Bool.and_eq_true,decide_eq_true_eq] at hw;have e1:IntKind.u32.min=0:=rfl;have e2:IntKind.u32.max=4294967295:=rfl;refine ⟨n.toNat,?_,by omega⟩;have:((n.toNat:Nat):Int)=n:=by omega
  rw [this]
 refine ⟨ns,?_,h5,?_⟩
 ·rw [h3,z82,show Tryz.prog.cellsOf 208=1 by kernel_rfl];rfl
 ·have:Tryz.prog.bytesOf 208=4:=by kernel_rfl
  rw [this] at h2;omega
theorem len3 {l:List D} (h:l.length=3):∃ a b c,l=[a,b,c]:=by
 match l,h with
 | [a,b,c],_=>exact ⟨a,b,c,rfl⟩
theorem zmK (h:Shp Tryz.prog R 87 ds):∃ x:Rq.Ex,ds=z2W x∧x.oid.length≤R∧x.val.length≤R:=by
 obtain ⟨h0,h1⟩:=z8P Tryz.underlying87 h;have hc:Tryz.prog.cellsOf 87=3:=by kernel_rfl
 have cs:Tryz.prog.cellsOf 9=1:=by kernel_rfl
 have cb:Tryz.prog.cellsOf 4=1:=by kernel_rfl
 have cu:Tryz.prog.cellsOf 22=1:=by kernel_rfl
 obtain ⟨a,b,c,rfl⟩:=len3 (h0.trans hc);simp [cs,cb,cu] at h1;obtain ⟨ha,hb,hd⟩:=h1;obtain ⟨l,e1,w1⟩:=zcY Tryz.underlying9 ha;obtain ⟨f,e2⟩:=z9Q Tryz.underlying4 hb;obtain ⟨v,e3,w3⟩:=zhw hd;cases e1;cases e2;cases e3;exact ⟨⟨l,f,v⟩,rfl,w1,w3⟩
theorem zkn (h:Shp Tryz.prog R 25 ds):∃ l:List Rq.Ex,ds=[exR l]∧l.length≤R∧∀ x∈l,x.oid.length≤R∧x.val.length≤R:=by
 obtain ⟨xs,rfl,h1,h2⟩:=z7o Tryz.underlying25 h;obtain ⟨ns,h3,h4,h5⟩:=z73 (g:=z2W) (Q:=fun x=>x.oid.length≤R∧x.val.length≤R) xs fun x hx=>zmK (h1 x hx)
 refine ⟨ns,?_,?_,h5⟩
 ·rw [h3,show Tryz.prog.cellsOf 87=3 by kernel_rfl];rfl
 ·have:0<Tryz.prog.bytesOf 87:=of_decide_eq_true (by kernel_rfl);have:=Nat.le_mul_of_pos_right xs.length this;omega
end
theorem zmm {w:World} {Av:Nat→Prop}:∀ {us:List Value} {ds:List D},z0z w Av us ds→(∀ d∈ds,DOk d)→RCs (Gw w Av) us (ds.map C.d)
 | us,[],h,_=>by rw [h.zhk];exact .nil_
 | us,d::ds,h,ho=>by
  obtain ⟨u,us',rfl,h1,h2⟩:=h.z2u;exact .z0D (z2D h1 (ho d List.mem_cons_self)) (zmm h2 fun x hx=>ho x (List.mem_cons_of_mem _ hx))
theorem DOk.nu (k:IntKind) (l:List Nat):DOk (nuR k l):= .row _ _ fun d hd=>by
 simp [nuL] at hd;obtain ⟨x,_,rfl⟩:=hd;exact .leaf _ rfl
theorem DOk.exts (l:List Rq.Ex):DOk (exR l):= .row _ _ fun d hd=>by
 simp [exL,z2W] at hd;obtain ⟨x,_,h⟩:=hd;rcases h with rfl|rfl|rfl
 ·exact .leaf _ rfl
 ·exact .leaf _ rfl
 ·exact .bytes _
def argT:List TypeId:=[3,2,4,9,5,208,22,24,87,25,27,46]
theorem z8k:zjz Tryz.prog argT=true:=by kernel_rfl
section
variable {H:Type} {enc:TypeId×Value→H} {W:World} {b0:Nat} {v:Value} {d:DataW H} {p:List MemPlace}
theorem zkS {t:TypeId} {fs:Array Field} (ht:t∈argT) (hu:Tryz.prog.underlying t=some (.struct fs)) (hv:Value.okWide Tryz.prog W .any b0 t v) (h0:DataW.Trod enc Tryz.prog W 0 (fun _=>true) true t v d p)
  (hz:∀ n∈d.weights Tryz.prog t,n≤reachBytes):∃ us:Array Value,∃ ds,v = .agg us∧z0z W (fun _=>False) us.toList ds∧Shp Tryz.prog reachBytes t ds:=by
 obtain ⟨cs,rfl,_⟩:=okWide_struct hu hv;obtain ⟨fuel,hf⟩:=h0;obtain ⟨ds,h1,h2,_⟩:=z6Q z8k fuel t _ _ ht hf hz;exact ⟨cs,ds,rfl,h1,h2⟩
theorem z8y {b0:Nat} (hv:Value.okWide Tryz.prog W .any b0 22 v) (h0:DataW.Trod enc Tryz.prog W 0 (fun _=>true) true 22 v d p)
  (hz:∀ n∈d.weights Tryz.prog 22,n≤reachBytes):∃ b:List UInt8,RE (Gw W fun _=>False) v (rX (z04 b)):=by
 obtain ⟨a,l,c,rfl⟩:=okWide_slice Tryz.underlying22 hv;obtain ⟨fuel,hf⟩:=h0;obtain ⟨ds,h1,h2,_⟩:=z6Q z8k fuel _ _ _ (by decide) hf hz;obtain ⟨b,rfl,_⟩:=zhw h2;obtain ⟨u,us,e,h3,_⟩:=h1.z2u;cases e;exact ⟨b,z2D h3 (.bytes _)⟩
theorem len7 {l:List D} (h:l.length=7):∃ a b c d e f g,l=[a,b,c,d,e,f,g]:=by
 match l,h with
 | [a,b,c,d,e,f,g],_=>exact ⟨a,b,c,d,e,f,g,rfl⟩
theorem c3:Tryz.prog.cellsOf 3=1:=by kernel_rfl
theorem cs:Tryz.prog.cellsOf 9=1:=by kernel_rfl
theorem cb:Tryz.prog.cellsOf 4=1:=by kernel_rfl
theorem cu:Tryz.prog.cellsOf 22=1:=by kernel_rfl
theorem cn:Tryz.prog.cellsOf 24=1:=by kernel_rfl
theorem ce:Tryz.prog.cellsOf 25=1:=by kernel_rfl
theorem zkR (hv:Value.okWide Tryz.prog W .any b0 27 v) (h0:DataW.Trod enc Tryz.prog W 0 (fun _=>true) true 27 v d p)
  (hz:∀ n∈d.weights Tryz.prog 27,n≤reachBytes):∃ (q:Rq.Req) (ls:List Nat),RE (Gw W fun _=>False) v (reqY q ls)∧Nt.Lb ls∧Nt.vl ls=q.nonce ∧
   q.alg.length≤reachBytes∧q.impr.length≤reachBytes∧q.policy.length≤reachBytes∧ls.length≤reachBytes∧q.exts.length≤reachBytes∧∀ e∈q.exts,e.oid.length≤reachBytes∧e.val.length≤reachBytes:=by
 obtain ⟨us,ds,rfl,h1,h2⟩:=zkS (by decide) Tryz.underlying27 hv h0 hz;obtain ⟨h3,h4⟩:=z8P Tryz.underlying27 h2;obtain ⟨a,b,c,dd,e,f,g,rfl⟩:=len7 (h3.trans (by kernel_rfl));simp [cs,cb,cu,cn,ce] at h4;obtain ⟨g0,g1,g2,g3,g4,g5,g6⟩:=h4;obtain ⟨x0,e0,w0⟩:=zcY Tryz.underlying9 g0;obtain ⟨x1,e1,w1⟩:=zhw g1;obtain ⟨x2,e2,w2⟩:=zcY Tryz.underlying9 g2;obtain ⟨x3,e3⟩:=z9Q Tryz.underlying4 g3;obtain ⟨x4,e4,l4,w4⟩:=zmJ Tryz.underlying24 g4;obtain ⟨x5,e5⟩:=z9Q Tryz.underlying4 g5;obtain ⟨x6,e6,w6,z6⟩:=zkn g6;cases e0;cases e1;cases e2;cases e3;cases e4;cases e5;cases e6;refine ⟨⟨x0,x1,x2,x3,Nt.vl x4,x5,x6⟩,x4,⟨us,rfl,?_⟩,l4,rfl,w0,w1,w2,w4,w6,z6⟩;refine zmm h1 fun d hd=>?_
 simp only [List.mem_cons,List.not_mem_nil,or_false] at hd;rcases hd with rfl|rfl|rfl|rfl|rfl|rfl|rfl
 ·exact .leaf _ rfl
 ·exact .bytes _
 ·exact .leaf _ rfl
 ·exact .leaf _ rfl
 ·exact .nu _ _
 ·exact .leaf _ rfl
 ·exact .exts _
end
end Am
end Go.Proofs.YtgmppconibklcaaGreatDoor

namespace Go.Proofs.YtgmppconibklcaaGreatDoor
open Go Go.RowKit
open Am in
theorem zb4 {W:World} {v0 v1:Value} {q:Rq.Req} {ls:List Nat} {b:List UInt8} (h0:RE (Gw W fun _=>False) v0 (reqY q ls)) (h1:RE (Gw W fun _=>False) v1 (rX (z04 b)))
  (hz:zo8 q ls) (hL:Nt.Lb ls) (hv:Nt.vl ls=q.nonce) (hT:Tabs W):
  Calls Tryz.prog 3 #[v0,v1] W fun e W'=>e = .returned (.bool true)∧Below W.heap.size W W':=by
 refine (z0S.calls (zcO (gl:=fun _=>none) q ls b hz hL hv) W [v0,v1] (fun _=>False) hT (fun _ _ h=>by cases h) (.z0D h0 (.z0D h1 .nil_)) rfl).mono ?_;rintro e w' ⟨v,rfl,hr,hb⟩;have e:v = .bool true:=RD.z0M hr;subst e;exact ⟨rfl,hb⟩
end Go.Proofs.YtgmppconibklcaaGreatDoor

namespace Go.Proofs.YtgmppconibklcaaGreatDoor
open Go Go.ChangeShapes Go.WideShapes Go.ChangeAt Go.RowKit

theorem own:ownKnob Tryz.prog.godebug=none:=by kernel_rfl
def zbc:List (String×DataW Unit):=[("unicode/utf8.acceptRanges",Rows.laid_unicode_utf8_acceptRanges),("unicode/utf8.first",Rows.laid_unicode_utf8_first)]
theorem zhq:zbc=[("unicode/utf8.acceptRanges",Lib.acceptData),("unicode/utf8.first",Lib.firstData)]:=by kernel_rfl
theorem zbb {W:World} (h:laidMetH Tryz.prog zbc W):Lib.Utf8Tabs 1 2 W:=by
 rw [MakeChecks.laidMetH_plain _ _ _ (by kernel_rfl),zhq] at h;exact utf8Tabs_of_reads (ρ:=Tryz.lays260_ren) {Tryz.lays260 with} ⟨by kernel_rfl,by kernel_rfl,by kernel_rfl,by kernel_rfl,by kernel_rfl,by kernel_rfl,by kernel_rfl⟩ (Lib.laidMet.reads h (.tail _ (.head _))) (Lib.laidMet.reads h (.head _))
theorem zkj (os:Os) (args:Array Value):laidMetH Tryz.prog zbc ((World.laidAll Tryz.prog os zbc).forCall (fun _ _=>0) ⟨#[],args,[]⟩).memory:=by
 rw [MakeChecks.laidMetH_plain _ _ _ (by kernel_rfl)];exact laidMet_laidAll _ (by kernel_rfl) (by kernel_rfl)
end Go.Proofs.YtgmppconibklcaaGreatDoor

namespace Go.Proofs.YtgmppconibklcaaGreatDoor
open Go Go.ChangeShapes Go.WideShapes Go.ChangeAt Go.RowKit
theorem z4V {H:Type} {enc:TypeId×Value→H} {a:Assume} {C:Checked} {os:Os} {f:FuncId} {fn:Func} {s:ChangeSpec} {conds:List PathCond} {apart fresh handsOn again:Bool} {X:World→Array Value→Prop}
  (hX:∀ (w w':World) (args:Array Value),w.heap=w'.heap→X w args→X w' args)
  (own:ownKnob C.prog.godebug=none) (started:os.Started) (noInit:C.prog.inits.idxOf? f=none) (hfn:C.prog.funcs[f]? = some fn)
  (witness:∃ (w:World) (tape:Tape) (i:Input),w.os=os∧(w.forCall tape i).Shaped C.prog∧i.vars=[]∧Input.okWide C.prog (w.forCall tape i) .any w.heap.size f i ∧
   ((s.pre enc C.prog fn conds apart (w.forCall tape i).memory i.args∧X (w.forCall tape i).memory i.args)∧sizedMet enc C.prog fn (OpenSpec.ofChange s) apart (w.forCall tape i).memory i.args)∧a.holds C.prog (lone (Frame.enter C.prog f i.args .normal) [] (w.forCall tape i)))
  (contract:∀ (W:World) (base:Nat) (args:Array Value) (ds gs:List (DataW H)) (before:List MemPlace),
   (∀ (j:Nat) t v,fn.params[j]? = some t→args[j]? = some v→Value.okWide C.prog W .any base t v) →
   DataW.Whole enc C.prog fn.params.toList s.vars apart W args.toList ds gs before →
   (DataW.weightsEach C.prog (fn.params.toList++(OpenSpec.ofChange s).bare.plain.varTypes C.prog) (ds++gs)).all (·≤reachBytes)=true →
   X W args→W.ShapedOpen C.prog →
   Calls C.prog f args W fun e W'=>∃ v,e = .returned v∧s.post enc C.prog fn apart fresh handsOn again W args v W'):
  ReturnsInHanded a C os f .any (fun w args=>(s.pre enc C.prog fn conds apart w args∧X w args)∧sizedMet enc C.prog fn (OpenSpec.ofChange s) apart w args) (s.post enc C.prog fn apart fresh handsOn again):=by
 refine returnsInHanded_of_calls own started noInit witness ?_;intro w tape i _ hsh _ hok hpre hholds;obtain ⟨_,_,_,fn',hfn',_,_,_,_,hval⟩:=hok;have e:fn'=fn:=Option.some.inj (hfn'.symm.trans hfn);subst e;obtain ⟨⟨⟨ds,gs,before,hw,hc⟩,hx⟩,hz⟩:=hpre;have hw':=DataW.Whole.of_heap (w':=w.forCall tape i) (by rfl) hw;refine (contract (w.forCall tape i) w.heap.size i.args ds gs before hval hw' (hz.weights hw) (hX _ _ _ (by rfl) hx) hsh).mono fun e W' ⟨v,he,hp⟩=>?_
 subst he;exact ChangeSpec.post_blind hp
end Go.Proofs.YtgmppconibklcaaGreatDoor

namespace Go.Proofs.YtgmppconibklcaaGreatDoor
open Go Go.ChangeShapes Go.WideShapes Go.ChangeAt Go.RowKit
theorem zlc:laidOutB Tryz.prog=true:=by kernel_rfl
open Am in
theorem z8q (os:Os) (started:os.Started) (H:Type) (enc:TypeId×Value→H):
  ReturnsInHanded {} Tryz.checked os 3 .any (fun w args=>(Rows.tspReqsSpec.pre enc Tryz.prog Tryz.f3 [] false w args∧laidMetH Tryz.prog zbc w)∧sizedMet enc Tryz.prog Tryz.f3 (OpenSpec.ofChange Rows.tspReqsSpec) false w args)
   (Rows.tspReqsSpec.post enc Tryz.prog Tryz.f3 false true false false):=by
 refine z4V (C:=Tryz.checked) (X:=fun w _=>laidMetH Tryz.prog zbc w) (fun _ _ _ hh h=>h.of_heap hh) own started (by kernel_rfl) Tryz.func3
  (ChangeSpec.witness_shaped (enc:=enc) (C:=Tryz.checked) (os:=os) (X:=fun w _=>laidMetH Tryz.prog zbc w) false (World.laidAll Tryz.prog os zbc) #[.agg #[.string ⟨#[]⟩,.slice none 0 0,.string ⟨#[]⟩,.bool false,.slice none 0 0,.bool false,.slice none 0 0],.slice none 0 0] 8 (World.laidAll_os _ _ _)
   (World.shaped_of_ZipB (by kernel_rfl) (by kernel_rfl)) (by kernel_rfl) (by kernel_rfl) (by kernel_rfl) (zkj os _)) ?_
 intro W base args ds gs before hval0 hW hZ hL hS;have hval:∀ (j:Nat) t v,Tryz.f3.params[j]? = some t→args[j]? = some v→Value.okWide Tryz.prog W .any base t v:=hval0;have hW':=hW;obtain ⟨p,q,hA0,hV,rfl,_,_⟩:=hW;have hA:DataW.TrodAll enc Tryz.prog W 0 (fun _=>true) true Tryz.f3.params.toList args.toList ds p:=hA0;have hZ2:(DataW.weightsEach Tryz.prog (Tryz.f3.params.toList++(OpenSpec.ofChange Rows.tspReqsSpec).bare.plain.varTypes Tryz.prog) (ds++gs)).all (·≤reachBytes)=true:=hZ;rw [Tryz.params3] at hA hval hZ2;obtain ⟨v0,v1,d0,d1,p0,p1,rfl,rfl,rfl,h0,h1⟩:=trodAll_two hA;obtain ⟨rfl,rfl⟩:=trodVars_none hV;obtain ⟨r0,l0,a0,lb0,lv0,s1,s2,s3,s4,s5,s6⟩:=zkR (hval 0 27 v0 rfl rfl) h0 (fun n hn=>by simpa using List.all_eq_true.1 hZ2 n (DataW.weights_mem_each (j:=0) (t:=27) (d:=d0) rfl rfl n hn));obtain ⟨b1,a1⟩:=z8y (hval 1 22 v1 rfl rfl) h1 (fun n hn=>by simpa using List.all_eq_true.1 hZ2 n (DataW.weights_mem_each (j:=1) (t:=22) (d:=d1) rfl rfl n hn));have hR:reachBytes≤140737488355328:=by unfold reachBytes;omega
 simp only [List.append_nil] at hW';have hlt:∀ x∈p0++p1,x.block<W.heap.size:=fun x hx=>hW'.lt x (by simpa using hx)
 have hz:zo8 r0 l0:=⟨by omega,by omega,by omega,by omega,by omega,fun e he=>⟨Nat.le_trans (s6 e he).1 hR,Nat.le_trans (s6 e he).2 hR⟩⟩;refine (zb4 a0 a1 hz lb0 lv0 (zbb hL)).mono fun e W' ⟨he,hb⟩=>?_
 subst he;have st:∀ {t:TypeId} {v:Value} {d:DataW H} {pp:List MemPlace} {sp:Nat→Bool},Tryz.prog.readableRec t=true→t<Tryz.prog.types.size→DataW.Trod enc Tryz.prog W 0 (fun _=>true) true t v d pp→(∀ x∈pp,x∈p0++p1)→(∀ x∈p0++p1,sp x.block=true)→DataW.Trod enc Tryz.prog W' 0 sp true t v d pp:=
  fun hr hrow h hm hsp=>WideElems.Trod_stays zlc hr hrow h (fun x hx=>hb.same (hlt x (hm x hx))) (fun x hx=>hsp x (hm x hx))
 exact ⟨_,rfl,zac (pa:=p0++p1) (pv:=[]) hW' (fun _ _ _=>trodAll_mk1 (shut_bool Tryz.underlying4 _)) (fun _ hsp=>by
   have:=trodAll_mk2 (st (by kernel_rfl) (of_decide_eq_true (by kernel_rfl)) h0 (fun x hx=>by simp [hx]) hsp) (st (by kernel_rfl) (of_decide_eq_true (by kernel_rfl)) h1 (fun x hx=>by simp [hx]) hsp);exact this) (fun _ _=>rfl) (by simp) hb (ok_one (by kernel_rfl) rfl (okWide_bool_mk Tryz.underlying4 _))⟩
end Go.Proofs.YtgmppconibklcaaGreatDoor

namespace Go.Proofs.YtgmppconibklcaaGreatDoor
open Go
noncomputable def z0B (a n:Nat):Bool:=(List.range' a n).all fun g=>!((Tryz.prog.funcs[g]?).any Func.goes)
theorem still0:z0B 0 30=true:=by kernel_rfl
theorem still1:z0B 30 30=true:=by kernel_rfl
theorem still2:z0B 60 30=true:=by kernel_rfl
theorem still3:z0B 90 30=true:=by kernel_rfl
theorem still4:z0B 120 30=true:=by kernel_rfl
theorem still5:z0B 150 30=true:=by kernel_rfl
theorem still6:z0B 180 30=true:=by kernel_rfl
theorem still7:z0B 210 30=true:=by kernel_rfl
theorem still8:z0B 240 30=true:=by kernel_rfl
theorem still9:z0B 270 30=true:=by kernel_rfl
theorem zmI:z0B 300 30=true:=by kernel_rfl
theorem zmH:z0B 330 30=true:=by kernel_rfl
theorem zmG:z0B 360 30=true:=by kernel_rfl
theorem zmF:z0B 390 30=true:=by kernel_rfl
theorem zmE:z0B 420 30=true:=by kernel_rfl
theorem zmD:z0B 450 30=true:=by kernel_rfl
theorem zmC:z0B 480 30=true:=by kernel_rfl
theorem part:∀ k:Nat,k<17→z0B (30*k) 30=true
 | 0,_=>still0
 | 1,_=>still1
 | 2,_=>still2
 | 3,_=>still3
 | 4,_=>still4
 | 5,_=>still5
 | 6,_=>still6
 | 7,_=>still7
 | 8,_=>still8
 | 9,_=>still9
 | 10,_=>zmI
 | 11,_=>zmH
 | 12,_=>zmG
 | 13,_=>zmF
 | 14,_=>zmE
 | 15,_=>zmD
 | 16,_=>zmC
 | k+17,h=>absurd h (by omega)
theorem zgH:Tryz.prog.funcs.size=500:=by kernel_rfl
theorem zbf (g:Nat):(Tryz.prog.funcs[g]?).any Func.goes=false:=by
 by_cases hg:g<510
 ·have h:=part (g / 30) (by omega);unfold z0B at h;have:=List.all_eq_true.1 h g (List.mem_range'_1.2 ⟨by omega,by omega⟩);simpa using this
 rw [Array.getElem?_eq_none (by rw [zgH];omega)];rfl
theorem zj2 (f:FuncId):Tryz.prog.goes f=false:=by
 have h2:Tryz.prog.funcs.any Func.goes=false:=by
  rw [Array.any_eq_false];intro i hi;have:=zbf i;rw [Array.getElem?_eq_getElem hi] at this;simpa using this
 have h1:((Tryz.prog.closure f).any fun g=>(Tryz.prog.funcs[g]?).any Func.goes)=false:=by
  rw [List.any_eq_false];intro g _;rw [zbf g];simp
 unfold Program.goes;rw [h1,h2];simp
theorem znD {c:OpenClaim} (h:c.start = .entering):false=c.goesBy Tryz.prog:=by
 unfold OpenClaim.goesBy Program.goesAt Program.goesFrom;rw [h];cases Tryz.prog.funcNamed c.func with
 | none=>rfl
 | some f=>simp [zj2 f]
end Go.Proofs.YtgmppconibklcaaGreatDoor

namespace Go.Proofs.YtgmppconibklcaaGreatDoor
open Go
theorem zfV:Tryz.prog.inPlace 3=["internal/bytealg.Compare","internal/bytealg.IndexByteString","internal/bytealg.IndexString","internal/bytealg.abigen_runtime_cmpstring","internal/abi.NoEscape","internal/bytealg.MakeNoZero"]:=by kernel_rfl
theorem z8K:Tryz.prog.unfollowed 3=true:=by kernel_rfl
theorem zfT:Tryz.prog.recurses 3=true:=by unfold Program.recurses;rw [z8K,Bool.true_or]
theorem zfU:Tryz.prog.varsNamed 3=["unicode/utf8.first","unicode/utf8.acceptRanges","internal/bytealg.MaxLen"]:=by kernel_rfl
end Go.Proofs.YtgmppconibklcaaGreatDoor

