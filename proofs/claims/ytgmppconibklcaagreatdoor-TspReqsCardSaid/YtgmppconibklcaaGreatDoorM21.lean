/- Part of the proof. No condition. -/
import Derived.Test.YtgmppconibklcaaGreatDoorM19
import Derived.Test.YtgmppconibklcaaGreatDoorM20
import Derived.Test.YtgmppconibklcaaGreatDoorM8
import Derived.Test.YtgmppconibklcaaGreatDoorM17
import Derived.Test.YtgmppconibklcaaGreatDoorM18
import Derived.Test.YtgmppconibklcaaGreatDoorM13
set_option maxHeartbeats 40000000
set_option maxRecDepth 100000
set_option linter.unusedVariables false
set_option linter.unusedSimpArgs false
namespace Go.Proofs.YtgmppconibklcaaGreatDoor
open Go Go.RowKit
theorem NdAt.z7Z {w:World} {Av:Nat→Prop} {v:Value} {n:Nd} (h:NdAt w Av v n):∃ (c t:Int) (k:Bool) (A:Option Addr) (nb cb:Nat) (A2:Option Addr) (nk ck:Nat),v = .agg #[.int .i64 c,.int .i64 t,.bool k,.slice A nb cb,.slice A2 nk ck]:=by
 obtain ⟨A,c,A2,c2,rfl⟩:=h.form;exact ⟨_,_,_,_,_,_,_,_,_,rfl⟩
theorem NdAt.all_ {w:World} {Av:Nat→Prop} {a b c d e:Value} {n:Nd} (h:NdAt w Av (.agg #[a,b,c,d,e]) n):z0z w Av [a,b,c,d,e] n.cells:=by
 obtain ⟨vb,vk,h0,hb,hk⟩:=h.ex;injection h0 with h0;have h1:=congrArg Array.toList h0;simp only at h1;injection h1 with e0 h1;injection h1 with e1 h1;injection h1 with e2 h1;injection h1 with e3 h1;injection h1 with e4 h1;subst e0 e1 e2 e3 e4;exact NdAt.all hb hk
theorem Is.lit {V:World} {Av:Nat→Prop} {H:Nat} {t:TypeId} {us:List Value} {l:List Nd} (hB:Blk V H t us.toArray) (ha:z0z V Av us (l.flatMap Nd.cells)) (hH:¬Av H):Is V Av (.slice (some ⟨H,0,none⟩) l.length l.length) (ndsD l):=by
 refine Is.row_ (z1H Nd.z1Z l) (by decide) (Nat.le_refl _) ha fun _=>⟨H,0,rfl,hH,fun j u hu=>?_⟩
 rw [Nat.zero_add,hB.cell j];simpa using hu
theorem Is.lit1 {V:World} {Av:Nat→Prop} {H:Nat} {t:TypeId} {a b c d e:Value} {x:Nd} (hB:Blk V H t #[a,b,c,d,e]) (hx:NdAt V Av (.agg #[a,b,c,d,e]) x) (hH:¬Av H):Is V Av (.slice (some ⟨H,0,none⟩) 1 1) (ndsD [x]):=
 Is.lit (us:=[a,b,c,d,e]) (l:=[x]) hB (by simpa using hx.all_) hH
theorem Is.lit2 {V:World} {Av:Nat→Prop} {H:Nat} {t:TypeId} {a b c d e a' b' c' d' e':Value} {x y:Nd} (hB:Blk V H t #[a,b,c,d,e,a',b',c',d',e']) (hx:NdAt V Av (.agg #[a,b,c,d,e]) x) (hy:NdAt V Av (.agg #[a',b',c',d',e']) y) (hH:¬Av H):
  Is V Av (.slice (some ⟨H,0,none⟩) 2 2) (ndsD [x,y]):=
 Is.lit (us:=[a,b,c,d,e,a',b',c',d',e']) (l:=[x,y]) hB (by simpa using hx.all_.app hy.all_) hH
theorem Is.lit3 {V:World} {Av:Nat→Prop} {H:Nat} {t:TypeId} {a b c d e a' b' c' d' e' a2 b2 c2 d2 e2:Value} {x y z:Nd} (hB:Blk V H t #[a,b,c,d,e,a',b',c',d',e',a2,b2,c2,d2,e2]) (hx:NdAt V Av (.agg #[a,b,c,d,e]) x) (hy:NdAt V Av (.agg #[a',b',c',d',e']) y) (hz:NdAt V Av (.agg #[a2,b2,c2,d2,e2]) z) (hH:¬Av H):
  Is V Av (.slice (some ⟨H,0,none⟩) 3 3) (ndsD [x,y,z]):=
 Is.lit (us:=[a,b,c,d,e,a',b',c',d',e',a2,b2,c2,d2,e2]) (l:=[x,y,z]) hB (by simpa using hx.all_.app (hy.all_.app hz.all_)) hH
theorem ziU (n:Nd) (a b:Nat):zmc n (a:Int) (b:Int)=Rq.z0U n a b:=by
 have h1:decide ((a:Int)≤(n.kids.length:Int))=decide (a≤n.kids.length):=by rw [decide_eq_decide];omega
 have h2:decide ((n.kids.length:Int)≤(b:Int))=decide (n.kids.length≤b):=by rw [decide_eq_decide];omega
 unfold zmc Rq.z0U;rw [h1,h2]
theorem z7V {n:Nd} (h:Dr.right n=true) {k:Nat} (hk:k<n.kids.length):Dr.right (Rq.kid n k)=true:=by
 have ek:Rq.kid n k=n.kids[k]:=by unfold Rq.kid;rw [List.getD_eq_getElem?_getD,List.getElem?_eq_getElem hk,Option.getD_some]
 rw [ek];exact Rq.z2F h _ (List.getElem_mem hk)
theorem Fine.kid {n:Nd} (h:Fine n) {k:Nat} (hk:k<n.kids.length):Fine (Rq.kid n k):=by
 have ek:Rq.kid n k=n.kids[k]:=by unfold Rq.kid;rw [List.getD_eq_getElem?_getD,List.getElem?_eq_getElem hk,Option.getD_some]
 have h1:=z2I hk;have h2:=z0W n;have h3:=Dr.z2s (List.getElem_mem hk);have h4:=Dr.z0Y n;have h5:=h.wt;have h6:=h.mx;rw [ek];exact ⟨by omega,by omega⟩
structure N5 (w:World) (g o:Nat) (c t:Int) (k:Bool) (vb vk:Value):Prop where
 c0:w.cell? ⟨g,o,none⟩=some (.int .i64 c)
 c1:w.cell? ⟨g,o+1,none⟩=some (.int .i64 t)
 c2:w.cell? ⟨g,o+2,none⟩=some (.bool k)
 c3:w.cell? ⟨g,o+3,none⟩=some vb
 c4:w.cell? ⟨g,o+4,none⟩=some vk
theorem N5.stays {w w':World} {g o:Nat} {c t:Int} {k:Bool} {vb vk:Value} (h:N5 w g o c t k vb vk) (hb:Below w.heap.size w w'):N5 w' g o c t k vb vk:=
 ⟨z0n hb h.c0,z0n hb h.c1,z0n hb h.c2,z0n hb h.c3,z0n hb h.c4⟩
end Go.Proofs.YtgmppconibklcaaGreatDoor

namespace Go.Proofs.YtgmppconibklcaaGreatDoor
open Go Go.RowKit
namespace Am
abbrev iX (n:Int):E:= .one (.d (.leaf (.int .i64 n)))
abbrev bX (b:Bool):E:= .one (.d (.leaf (.bool b)))
abbrev sX (s:ByteArray):E:= .one (.d (.leaf (.string s)))
abbrev rX (d:D):E:= .one (.d d)
abbrev ndX (n:Nd):E:= .agg [.d (.leaf (.int .i64 n.cls)),.d (.leaf (.int .i64 n.tag)),.d (.leaf (.bool n.cons)),.d (z04 n.bytes),.d (ndsD n.kids)]
abbrev OK (gl:Nat→Option (List D)) (g:FuncId) (args:List E) (t:T):Prop:=z0S Tryz.prog gl Tabs g args [] t [] []
theorem z0q:∀ W0 w:World,Tabs W0→Below W0.heap.size W0 w→Tabs w:=fun W0 w h hb=>Utf8Tabs_below h hb
section
variable {w:World} {Av:Nat→Prop} {G:Gh}
theorem REs.one_ {vs:List Value} {x:E} (h:REs G vs [x]):∃ v,vs=[v]∧RE G v x:=by
 obtain ⟨h1,h2⟩:=h;match vs,h1 with
 | [v],_=>exact ⟨v,rfl,h2 0 v x rfl rfl⟩
theorem REs.two {vs:List Value} {x y:E} (h:REs G vs [x,y]):∃ v u,vs=[v,u]∧RE G v x∧RE G u y:=by
 obtain ⟨h1,h2⟩:=h;match vs,h1 with
 | [v,u],_=>exact ⟨v,u,rfl,h2 0 v x rfl rfl,h2 1 u y rfl rfl⟩
theorem REs.three {vs:List Value} {x y z:E} (h:REs G vs [x,y,z]):∃ v u t,vs=[v,u,t]∧RE G v x∧RE G u y∧RE G t z:=by
 obtain ⟨h1,h2⟩:=h;match vs,h1 with
 | [v,u,t],_=>exact ⟨v,u,t,rfl,h2 0 v x rfl rfl,h2 1 u y rfl rfl,h2 2 t z rfl rfl⟩
theorem REs.z0D {v:Value} {vs:List Value} {x:E} {xs:List E} (h:RE G v x) (k:REs G vs xs):REs G (v::vs) (x::xs):=
 ⟨by simp [k.1],fun j a b ha hb=>by
  match j with
  | 0=>simp at ha hb;subst ha;subst hb;exact h
  | j+1=>exact k.2 j a b (by simpa using ha) (by simpa using hb)⟩
theorem REs.nil_:REs G [] []:=⟨rfl,fun j a b ha=>by simp at ha⟩
theorem RCs.z0D {v:Value} {vs:List Value} {x:C} {xs:List C} (h:RC G v x) (k:RCs G vs xs):RCs G (v::vs) (x::xs):=
 ⟨by simp [k.1],fun j a b ha hb=>by
  match j with
  | 0=>simp at ha hb;subst ha;subst hb;exact h
  | j+1=>exact k.2 j a b (by simpa using ha) (by simpa using hb)⟩
theorem RCs.z2u {vs:List Value} {x:C} {xs:List C} (h:RCs G vs (x::xs)):∃ v vs',vs=v::vs'∧RC G v x∧RCs G vs' xs:=by
 obtain ⟨h1,h2⟩:=h;match vs,h1 with
 | v::vs,h1=>exact ⟨v,vs,rfl,h2 0 v x rfl rfl,by simpa using h1,fun j a b ha hb=>h2 (j+1) a b (by simpa using ha) (by simpa using hb)⟩
theorem RCs.zhk {vs:List Value} (h:RCs G vs []):vs=[]:=List.eq_nil_of_length_eq_zero h.1
theorem z4v {v:Value} (h:v.oneCell'=true):RT G v (.v v):= .leaf v h
theorem z2q {vs:Array Value} {xs:List E} (h:REs G vs.toList xs):RT G (.tuple vs) (.tup xs):=⟨vs,rfl,h⟩
theorem RD.z0M {im:Im} {u v:Value} (h:RD im u (.leaf v)):u=v:=by cases h;rfl
mutual
theorem zly:∀ (n:Nd),∀ d,d∈n.cells→DOk d
 | .mk c t k b l,d,h=>by
  rw [Nd.cells] at h;simp only [List.mem_cons,List.not_mem_nil,or_false] at h;rcases h with rfl|rfl|rfl|rfl|rfl
  ·exact .leaf _ rfl
  ·exact .leaf _ rfl
  ·exact .leaf _ rfl
  ·exact .bytes b
  ·exact .row _ _ (z8h l)
theorem z8h:∀ (l:List Nd),∀ d,d∈Nd.z6I l→DOk d
 | [],d,h=>by rw [Nd.z6I] at h;cases h
 | n::l,d,h=>by
  rw [Nd.z6I] at h;rcases List.mem_append.1 h with h|h
  ·exact zly n d h
  ·exact z8h l d h
end
theorem DOk.nds (l:List Nd):DOk (ndsD l):= .row _ _ fun d h=>z8h l d (by rw [Nd.zcx];exact h)
theorem zaV {v:Value} {n:Nd} (h:RE (Gw w Av) v (ndX n)):NdAt w Av v n:=by
 obtain ⟨us,rfl,h⟩:=h;obtain ⟨u0,t0,e,h0,h⟩:=h.z2u;obtain ⟨u1,t1,rfl,h1,h⟩:=h.z2u;obtain ⟨u2,t2,rfl,h2,h⟩:=h.z2u;obtain ⟨u3,t3,rfl,h3,h⟩:=h.z2u;obtain ⟨u4,t4,rfl,h4,h⟩:=h.z2u;obtain rfl:=h.zhk;have e0:=RD.z0M h0;have e1:=RD.z0M h1;have e2:=RD.z0M h2;subst e0;subst e1;subst e2;obtain ⟨us⟩:=us;simp only at e;subst e;exact NdAt.mk_ (z3p h3) (z3p h4)
theorem z68 {v:Value} {n:Nd} (h:NdAt w Av v n):RE (Gw w Av) v (ndX n):=by
 obtain ⟨vb,vk,rfl,hb,hk⟩:=h.ex;exact ⟨_,rfl,.z0D (.leaf _ rfl) (.z0D (.leaf _ rfl) (.z0D (.leaf _ rfl) (.z0D (z2D hb (.bytes _)) (.z0D (z2D hk (.nds _)) .nil_))))⟩
theorem DOk.lim (l:List Nat):DOk (limD l):= .row _ _ fun d hd=>by
 simp at hd;obtain ⟨x,_,rfl⟩:=hd;exact .leaf _ rfl
end
section
variable {gl:Nat→Option (List D)}
theorem zdL (n:Nd) (hf:Fine n):OK gl 118 [ndX n] (.tup [iX ((Dr.intOf n).getD 0),bX (Dr.intOf n).isSome]):=
 z0v rfl rfl z0q fun w vals hT hargs=>by
  obtain ⟨v,rfl,h⟩:=hargs.one_;refine (zco n v _ w (zaV h) hf hT).mono ?_;rintro e w' ⟨rfl,hb⟩;exact ⟨_,rfl,z2q (.z0D (.leaf _ rfl) (.z0D (.leaf _ rfl) .nil_)),hb⟩
theorem zdK (n:Nd) (hf:Fine n):OK gl 126 [ndX n] (.tup [rX (limD (Nt.lim ((Dr.z1z n).getD 0))),bX (Dr.z1z n).isSome]):=
 z0v rfl rfl z0q fun w vals hT hargs=>by
  obtain ⟨v,rfl,h⟩:=hargs.one_;refine (zcm n v _ w (zaV h) hf hT).mono ?_;rintro e w' ⟨A,m,c,rfl,hi,hb⟩;exact ⟨_,rfl,z2q (.z0D (z2D hi (.lim _)) (.z0D (.leaf _ rfl) .nil_)),hb⟩
end
end Am
end Go.Proofs.YtgmppconibklcaaGreatDoor

namespace Go.Proofs.YtgmppconibklcaaGreatDoor
open Go Go.RowKit
namespace Am
section
variable {P:Program} {α:Type} {f:α→List D} {s:Nat} {t e:TypeId}
theorem z5C (hf:∀ a,(f a).length=s) (l:List α):(l.flatMap f).length=l.length*s:=z1H hf l
theorem z81 (hf:∀ a,(f a).length=s):∀ (k:Nat) (l:List α),(l.flatMap f).drop (k*s)=(l.drop k).flatMap f
 | 0,l=>by simp
 | k+1,[]=>by simp
 | k+1,a::l=>by
  rw [List.flatMap_cons,Nat.add_mul,Nat.one_mul,Nat.add_comm (k*s) s,←List.drop_drop,List.drop_left' (hf a),z81 hf k l,List.drop_succ_cons]
theorem zc8 (hf:∀ a,(f a).length=s):∀ (k:Nat) (l:List α),(l.flatMap f).take (k*s)=(l.take k).flatMap f
 | 0,l=>by simp
 | k+1,[]=>by simp
 | k+1,a::l=>by
  rw [List.flatMap_cons,Nat.add_mul,Nat.one_mul,Nat.add_comm (k*s) s,List.take_add,List.take_left' (hf a),List.drop_left' (hf a),zc8 hf k l,List.take_succ_cons,List.flatMap_cons]
theorem zcc (hf:∀ a,(f a).length=s) (hs:0<s) (hu:P.underlying t=some (.slice e)) (l:List α):z2B P t (some (.e (.one (.d (.row s (l.flatMap f))))))=some l.length:=by
 simp [z2B,hu,row?,hs,z5C hf,Nat.mul_div_cancel]
theorem z4m (hf:∀ a,(f a).length=s) (hs:0<s) (hu:P.underlying t=some (.slice e)) (hz:z0g P e=s) (l:List α) (i:Int):z0j P t (some (.e (.one (.d (.row s (l.flatMap f)))))) i=if 0≤i∧i.toNat<l.length then some (.ep ((l.drop i.toNat).flatMap f)) else none:=by
 simp [z0j,hu,row?,hz,zdV,hs,z5C hf,Nat.mul_div_cancel,z81 hf]
theorem z4Z (hf:∀ a,(f a).length=s) (hs:0<s) (hu:P.underlying t=some (.slice e)) (hz:z0g P e=s) (l:List α) (lo hi:Option (Option T)):z3n P t (some (.e (.one (.d (.row s (l.flatMap f)))))) lo hi=match bound lo 0,bound hi l.length with
  | some a,some b=>if a≤b∧b≤l.length then some (.d (.row s (((l.drop a).take (b-a)).flatMap f))) else none
  | _,_=>none:=by
 unfold z3n;simp only [hu,row?,z5C hf,Nat.mul_div_cancel _ hs,z81 hf,zc8 hf];rw [if_pos ⟨hz.symm,hs⟩];cases bound lo 0<;>cases bound hi l.length<;>rfl
end
def ndL (l:List Nd):List D:=l.flatMap Nd.cells
def ndR (l:List Nd):D:= .row 5 (ndL l)
@[simp] theorem row_ndL (l:List Nd):D.row 5 (ndL l)=ndR l:=rfl
@[simp] theorem ndL_len (l:List Nd):(ndL l).length=l.length*5:=z5C Nd.z1Z l
@[simp] theorem ndL_app (l k:List Nd):ndL l++ndL k=ndL (l++k):=by simp [ndL]
abbrev nX (n:Nd):E:= .agg [.d (.leaf (.int .i64 n.cls)),.d (.leaf (.int .i64 n.tag)),.d (.leaf (.bool n.cons)),.d (z04 n.bytes),.d (ndR n.kids)]
@[simp high] theorem evLen_nd (l:List Nd):z2B Tryz.prog 59 (some (.e (.one (.d (ndR l)))))=some l.length:=zcc (e:=61) Nd.z1Z (by decide) (by simp) l
@[simp high] theorem zk1 (l:List Nd) (i:Int):z0j Tryz.prog 59 (some (.e (.one (.d (ndR l))))) i=if 0≤i∧i.toNat<l.length then some (.ep (ndL (l.drop i.toNat))) else none:=z4m Nd.z1Z (by decide) (e:=61) (by simp) (by simp) l i
@[simp high] theorem loadE_nd (h:Nat→Option O) (k:Nd) (l:List Nd):z2n Tryz.prog h 61 (.ep (ndL (k::l)))=some (nX k):=by
 simp [z2n,ndL,Nd.z7b];rfl
@[simp] theorem pos_2 (n:Nat):(0:Int)<(n:Int)+1+1:=by omega
@[simp] theorem pos_12 (n:Nat):(1:Int)<(n:Int)+1+1:=by omega
theorem zam (k:Nd) (l:List Nd):ndL (k::l) = .leaf (.int .i64 k.cls) :: .leaf (.int .i64 k.tag) :: .leaf (.bool k.cons)::z04 k.bytes::ndR k.kids::ndL l:=by
 simp only [ndL,List.flatMap_cons,Nd.z7b];rfl
@[simp high] theorem loadE_nd3 (h:Nat→Option O) (k:Nd) (l:List Nd):z2n Tryz.prog h 22 (.ep (List.drop 3 (ndL (k::l))))=some (rX (z04 k.bytes)):=by simp [z2n,zam]
@[simp high] theorem loadE_nd4 (h:Nat→Option O) (k:Nd) (l:List Nd):z2n Tryz.prog h 59 (.ep (List.drop 4 (ndL (k::l))))=some (rX (ndR k.kids)):=by simp [z2n,zam]
@[simp high] theorem evSlice_nd (l:List Nd) (lo hi:Option (Option T)):z3n Tryz.prog 59 (some (.e (.one (.d (ndR l))))) lo hi=match bound lo 0,bound hi l.length with
  | some a,some b=>if a≤b∧b≤l.length then some (.d (ndR ((l.drop a).take (b-a)))) else none
  | _,_=>none:=z4Z Nd.z1Z (by decide) (e:=61) (by simp) (by simp) l lo hi
@[simp high] theorem rowOf_gr (s q:Nat) (l:List D):rowOf s (some (.e (.one (.gr q s l))))=some l:=by simp [rowOf,row?]
def byL (b:List UInt8):List D:=b.map fun b=> .leaf (.int .u8 (b.toNat:Int))
@[simp] theorem zhH (b:List UInt8):D.row 1 (byL b)=z04 b:=rfl
@[simp] theorem row_nil1:D.row 1 []=z04 []:=rfl
@[simp] theorem byL_len (l:List UInt8):(byL l).length=l.length:=by simp [byL]
@[simp] theorem byL_app (l k:List UInt8):byL l++byL k=byL (l++k):=by simp [byL]
theorem zfF (b:List UInt8):byL b=b.flatMap fun b=>[.leaf (.int .u8 (b.toNat:Int))]:=by simp [byL,List.flatMap_singleton'];induction b<;>simp_all
@[simp high] theorem evLen_by (b:List UInt8):z2B Tryz.prog 22 (some (.e (.one (.d (z04 b)))))=some b.length:=by simp [z2B,row?,z04]
@[simp high] theorem zk3 (b:List UInt8) (i:Int):z0j Tryz.prog 22 (some (.e (.one (.d (z04 b))))) i=if 0≤i∧i.toNat<b.length then some (.ep (byL (b.drop i.toNat))) else none:=by
 simp [z0j,row?,z04,zdV,byL,List.map_drop]
@[simp high] theorem loadE_by (h:Nat→Option O) (x:UInt8) (b:List UInt8):z2n Tryz.prog h 5 (.ep (byL (x::b)))=some (.one (.d (.leaf (.int .u8 (x.toNat:Int))))):=by
 simp [z2n,byL]
@[simp high] theorem evSlice_by (b:List UInt8) (lo hi:Option (Option T)):z3n Tryz.prog 22 (some (.e (.one (.d (z04 b))))) lo hi=match bound lo 0,bound hi b.length with
  | some i,some j=>if i≤j∧j≤b.length then some (.d (z04 ((b.drop i).take (j-i)))) else none
  | _,_=>none:=by
 have:=z4Z (P:=Tryz.prog) (t:=22) (e:=5) (f:=fun b:UInt8=>[D.leaf (.int .u8 (b.toNat:Int))]) (s:=1) (fun _=>rfl) (by decide) (by simp) (by simp) b lo hi;rw [←zfF,zhH] at this;rw [this];cases bound lo 0 with
 | none=>rfl
 | some i=>
  cases bound hi b.length with
  | none=>rfl
  | some j=>simp only [←zfF,zhH]
@[simp high] theorem rowOf_by (b:List UInt8):rowOf 1 (some (.e (.one (.d (z04 b)))))=some (byL b):=by simp [rowOf,row?,z04,byL]
theorem zdT (b:UInt8):byteOf? (.leaf (.int .u8 (b.toNat:Int)))=some b:=by
 have:=b.toNat_lt;simp [byteOf?];omega
@[simp] theorem zdS:∀ b:List UInt8,bytesOf? (byL b)=some b
 | []=>rfl
 | x::b=>by
  have:=zdS b;simp only [byL] at this ⊢;rw [List.map_cons,bytesOf?,zdT,this];rfl
@[simp] theorem evLen_str (s:ByteArray):z2B Tryz.prog 9 (some (.e (.one (.d (.leaf (.string s))))))=some s.size:=by simp [z2B]
@[simp] theorem znN:z2B Tryz.prog 22 (some (.e (.one .nilS)))=some 0:=by simp [z2B]
@[simp] theorem znM:z2B Tryz.prog 59 (some (.e (.one .nilS)))=some 0:=by simp [z2B]
@[simp] theorem evLen_gr22 (q:Nat) (b:List UInt8):z2B Tryz.prog 22 (some (.e (.one (.gr q 1 (byL b)))))=some b.length:=by simp [z2B]
@[simp] theorem evLen_gr59 (q:Nat) (l:List Nd):z2B Tryz.prog 59 (some (.e (.one (.gr q 5 (ndL l)))))=some l.length:=by simp [z2B]
section
variable {gl:Nat→Option (List D)}
theorem zmi (n:Nd) (hf:Fine n):OK gl 118 [nX n] (.tup [iX ((Dr.intOf n).getD 0),bX (Dr.intOf n).isSome]):=zdL n hf
theorem dNatOf (n:Nd) (hf:Fine n):OK gl 126 [nX n] (.tup [rX (limD (Nt.lim ((Dr.z1z n).getD 0))),bX (Dr.z1z n).isSome]):=zdK n hf
end
@[simp] theorem nil_cls:Nd.nil.cls=0:=rfl
@[simp] theorem nil_tag:Nd.nil.tag=0:=rfl
@[simp] theorem nil_cons:Nd.nil.cons=false:=rfl
@[simp] theorem nil_bytes:Nd.nil.bytes=[]:=rfl
@[simp] theorem nil_kids:Nd.nil.kids=[]:=rfl
@[simp] theorem row_nil5:D.row 5 []=ndR []:=rfl
end Am
end Go.Proofs.YtgmppconibklcaaGreatDoor

namespace Go.Proofs.YtgmppconibklcaaGreatDoor
open Go Go.RowKit
namespace Am
variable {gl:Nat→Option (List D)}
theorem zgC (n:Nd) (t:Int):OK gl 97 [nX n,iX t] (.b (n.cls==0&&n.tag==t)):=by
 refine z0d Tryz.func97 rfl (by show 2≤_;decide) ?_;unfold Tryz.f97;dsimp only;repeat (refine z0a ?_)
 refine z09 z0b fun Q hQ=>?_
 simp;subst hQ;try simp only [z02,z03,z00,z01]
 refine z0a (z09 z0b fun Q hQ=>?_);have fin:∀ s:SF,s.env 4=some (.b (n.cls==0&&n.tag==t))→Q .normal s:=fun s h=>by
  subst hQ;try simp only [z02,z03,z00,z01]
  refine z07 ?_;simp [h]
 clear hQ;simp;cases h1:(n.cls==0)<;>simp [h1]
 ·exact fin _ (by simp [h1])
 ·exact fin _ (by simp [h1])
theorem zeI {p:Prop} (h:p:=by
  repeat (refine z0a ?_)
  refine z09 z0b fun Q hQ=>?_
  simp;subst hQ;try simp only [z02,z03,z00,z01]
  refine z07 ?_;simp):p:=h
theorem zau (l:List Nd):OK gl 95 [rX (ndR l)] (.e (nX (l.headD Nd.nil))):=by
 refine z0d Tryz.func95 rfl (by show 1≤_;decide) ?_;unfold Tryz.f95;dsimp only;repeat (refine z0a ?_)
 refine z09 z0b fun Q hQ=>?_
 simp;subst hQ;try simp only [z02,z03,z00,z01]
 repeat (refine z0a ?_)
 refine z09 z0b fun Q hQ=>?_
 simp;subst hQ;try simp only [z02,z03,z00,z01]
 repeat (refine z0a ?_)
 refine z1I fun Q hQ=>?_
 simp;cases l with
 | nil=>
  simp;subst hQ;try simp only [z02,z03,z00,z01]
  exact zeI
 | cons k l=>
  simp;subst hQ;try simp only [z02,z03,z00,z01]
  refine z05 ?_;simp only [z02];exact zeI
theorem one_ok (n:Nd) (hf:Fine n):OK gl 92 [nX n] (.b ((Dr.intOf n).isSome&&(n.cls==0&&n.tag==2)&&(Dr.intOf n).getD 0==1)):=by
 refine z0d Tryz.func92 rfl (by show 1≤_;decide) ?_;unfold Tryz.f92;dsimp only;repeat (refine z0a ?_)
 refine z09 z0b fun Q hQ=>?_
 simp;subst hQ;try simp only [z02,z03,z00,z01]
 repeat (refine z0a ?_)
 refine z09 z0b fun Q hQ=>?_
 simp;refine z0k Tryz.func118 (by simp) (by simp) (by simp) (by simp) (zmi n hf) (by simp) (by simp) ?_;simp;subst hQ;try simp only [z02,z03,z00,z01]
 repeat (refine z0a ?_)
 refine z09 z0b fun Q hQ=>?_
 have fin:∀ s:SF,s.env 2=some (.b ((Dr.intOf n).isSome&&(n.cls==0&&n.tag==2)&&(Dr.intOf n).getD 0==1))→Q .normal s:=fun s h=>by
  subst hQ;try simp only [z02,z03,z00,z01]
  refine z07 ?_;simp [h]
 clear hQ;simp;cases h1:(Dr.intOf n).isSome<;>simp
 ·exact fin _ (by simp [h1])
 ·refine z0k Tryz.func97 (by simp) (by simp) (by simp) (by simp) (zgC n 2) (by simp) (by simp) ?_;simp;cases h2:(n.cls==0&&n.tag==2)<;>simp
  ·exact fin _ (by simp [h1,h2])
  ·exact fin _ (by simp [h1,h2])
theorem zld (n:Nd) (a b:Int):OK gl 91 [nX n,iX a,iX b] (.b (n.cls==0&&n.tag==16&&n.cons&&decide (a≤(n.kids.length:Int))&&decide ((n.kids.length:Int)≤b))):=by
 refine z0d Tryz.func91 rfl (by show 3≤_;decide) ?_;unfold Tryz.f91;dsimp only;repeat (refine z0a ?_)
 refine z09 z0b fun Q hQ=>?_
 simp;subst hQ;try simp only [z02,z03,z00,z01]
 repeat (refine z0a ?_)
 refine z09 z0b fun Q hQ=>?_
 have fin:∀ s:SF,s.env 6=some (.b (n.cls==0&&n.tag==16&&n.cons&&decide (a≤(n.kids.length:Int))&&decide ((n.kids.length:Int)≤b)))→Q .normal s:=fun s h=>by
  subst hQ;try simp only [z02,z03,z00,z01]
  refine z07 ?_;simp [h]
 clear hQ;simp;cases h1:(n.cls==0)<;>simp
 ·exact fin _ (by simp [h1])
 ·cases h2:(n.tag==16)<;>simp
  ·exact fin _ (by simp [h1,h2])
  ·cases h3:n.cons<;>simp
   ·exact fin _ (by simp [h1,h2,h3])
   ·cases h4:decide (a≤(n.kids.length:Int))<;>simp
    ·exact fin _ (by simp [h1,h2,h3,h4])
    ·exact fin _ (by simp [h1,h2,h3,h4])
def oidO (n:Nd):Option (List UInt8):=if n.cls==0&&n.tag==6 then Od.decO n.bytes else none
theorem z9d (b:List UInt8) (hb:b.length≤40000):OK gl 158 [rX (z04 b)] (.tup [sX ⟨((Od.decO b).getD []).toArray⟩,iX (if (Od.decO b).isSome then 0 else 20)]):=
 z0v rfl rfl z0q fun w vals hT hargs=>by
  obtain ⟨v,rfl,h⟩:=hargs.one_;obtain ⟨A,c,rfl,hc,hr,_⟩:=(z3p (Av:=fun _=>False) (show RD (imOf w _) v (z04 b) from h)).bytes;refine (z7I A c b w hr hb).mono ?_;rintro e w' ⟨rfl,hb⟩;refine ⟨_,rfl,?_,hb⟩;unfold z4a;cases Od.decO b with
  | none=>exact z2q (.z0D (.leaf _ rfl) (.z0D (.leaf _ rfl) .nil_))
  | some t=>exact z2q (.z0D (.leaf _ rfl) (.z0D (.leaf _ rfl) .nil_))
theorem zeW (n:Nd) (hf:n.bytes.length≤40000):OK gl 94 [nX n] (.tup [sX ⟨((oidO n).getD []).toArray⟩,bX (oidO n).isSome]):=by
 obtain ⟨b,hb⟩:∃ b,b=(n.cls==0&&n.tag==6):=⟨_,rfl⟩;have his:=zgC (gl:=gl) n 6;rw [←hb] at his;have ho:oidO n=if b then Od.decO n.bytes else none:=by rw [hb];rfl
 refine z0d Tryz.func94 rfl (by show 1≤_;decide) ?_;unfold Tryz.f94;dsimp only;repeat (refine z0a ?_)
 refine z09 z0b fun Q hQ=>?_
 simp;subst hQ;try simp only [z02,z03,z00,z01]
 repeat (refine z0a ?_)
 refine z09 z0b fun Q hQ=>?_
 simp;refine z0k Tryz.func97 (by simp) (by simp) (by simp) (by simp) (his) (by simp) (by simp) ?_;simp;subst hQ;try simp only [z02,z03,z00,z01]
 repeat (refine z0a ?_)
 refine z1I fun Q hQ=>?_
 simp;cases b
 ·simp;subst hQ;try simp only [z02,z03,z00,z01]
  repeat (refine z0a ?_)
  refine z09 z0b fun Q hQ=>?_
  simp;subst hQ;try simp only [z02,z03,z00,z01]
  refine z07 ?_;simp [ho]
 ·simp;subst hQ;try simp only [z02,z03,z00,z01]
  refine z05 ?_;simp only [z02];repeat (refine z0a ?_)
  refine z09 z0b fun Q hQ=>?_
  simp;refine z0k Tryz.func158 (by simp) (by simp) (by simp) (by simp) (z9d n.bytes hf) (by simp) (by simp) ?_;simp;subst hQ;try simp only [z02,z03,z00,z01]
  repeat (refine z0a ?_)
  refine z09 z0b fun Q hQ=>?_
  simp;subst hQ;try simp only [z02,z03,z00,z01]
  refine z07 ?_;cases h2:Od.decO n.bytes<;>simp [ho,h2]
theorem z1X:limD (Nt.lim 0)=z04 []:=by rw [show Nt.lim 0=[] from by decide];rfl
theorem zgt (l:List Nd) (hf:∀ k∈l,Fine k):OK gl 96 [rX (ndR l)] (.tup [bX (Rq.z0p l).1,rX (limD (Nt.lim (Rq.z0p l).2.1)),rX (ndR (Rq.z0p l).2.2)]):=by
 refine z0d Tryz.func96 rfl (by show 1≤_;decide) ?_;unfold Tryz.f96;dsimp only;repeat (refine z0a ?_)
 refine z09 z0b fun Q hQ=>?_
 simp;subst hQ;try simp only [z02,z03,z00,z01]
 cases l with
 | nil=>
  repeat (refine z0a ?_)
  refine z09 z0b fun Q hQ=>?_
  simp;subst hQ;try simp only [z02,z03,z00,z01]
  repeat (refine z0a ?_)
  refine z1I fun Q hQ=>?_
  simp;subst hQ;try simp only [z02,z03,z00,z01]
  refine z05 ?_;simp only [z02];repeat (refine z0a ?_)
  refine z09 z0b fun Q hQ=>?_
  simp;subst hQ;try simp only [z02,z03,z00,z01]
  refine z07 ?_;simp [Rq.z0p,z1X]
 | cons k l=>
  obtain ⟨b,hb⟩:∃ b,b=(k.cls==0&&k.tag==2):=⟨_,rfl⟩;have his:=zgC (gl:=gl) k 2;rw [←hb] at his;have hb':(k.cls=0∧k.tag=2)↔b=true:=by rw [hb];simp
  repeat (refine z0a ?_)
  refine z09 z0b fun Q hQ=>?_
  simp;refine z0k Tryz.func97 (by simp) (by simp) (by simp) (by simp) (his) (by simp) (by simp) ?_;simp;subst hQ;try simp only [z02,z03,z00,z01]
  repeat (refine z0a ?_)
  refine z1I fun Q hQ=>?_
  simp;cases b
  ·simp;subst hQ;try simp only [z02,z03,z00,z01]
   refine z05 ?_;simp only [z02];repeat (refine z0a ?_)
   refine z09 z0b fun Q hQ=>?_
   simp;subst hQ;try simp only [z02,z03,z00,z01]
   refine z07 ?_;simp [Rq.z0p,hb',z1X]
  ·simp;subst hQ;try simp only [z02,z03,z00,z01]
   repeat (refine z0a ?_)
   refine z09 z0b fun Q hQ=>?_
   simp;refine z0k Tryz.func126 (by simp) (by simp) (by simp) (by simp) (dNatOf k (hf k (by simp))) (by simp) (by simp) ?_;simp;subst hQ;try simp only [z02,z03,z00,z01]
   repeat (refine z0a ?_)
   refine z09 z0b fun Q hQ=>?_
   simp;subst hQ;try simp only [z02,z03,z00,z01]
   repeat (refine z0a ?_)
   refine z1I fun Q hQ=>?_
   simp;cases hn:Dr.z1z k with
   | none=>
    simp;subst hQ;try simp only [z02,z03,z00,z01]
    refine z05 ?_;simp only [z02];repeat (refine z0a ?_)
    refine z09 z0b fun Q hQ=>?_
    simp;subst hQ;try simp only [z02,z03,z00,z01]
    refine z07 ?_;simp [Rq.z0p,hb',hn,z1X]
   | some a=>
    simp;subst hQ;try simp only [z02,z03,z00,z01]
    repeat (refine z0a ?_)
    refine z1O z1h z0b [0,5] [] zdX (by kernel_rfl) fun Q hQ=>?_
    simp [snap,z1w,z4F,z4l,look,apply,putE,z1Y,z1l,setL,z4H,rdOf,Op.operands,Call.operands,z2C,z3I,z1t,z2d,z2l,meet,Log.men,T.men,E.men,C.men,O.men,z5S];subst hQ;try simp only [z02,z03,z00,z01]
    refine z07 ?_;simp [Rq.z0p,hb',hn,z1X]
end Am
end Go.Proofs.YtgmppconibklcaaGreatDoor

namespace Go.Proofs.YtgmppconibklcaaGreatDoor
open Go Go.RowKit
namespace Am
variable {gl:Nat→Option (List D)}
def sq (n:Nd) (a b:Int):Bool:=n.cls==0&&n.tag==16&&n.cons&&decide (a≤(n.kids.length:Int))&&decide ((n.kids.length:Int)≤b)
theorem z5B (n:Nd) (a b:Int):OK gl 91 [nX n,iX a,iX b] (.b (sq n a b)):=zld n a b
theorem zlO {n:Nd} (h:sq n 2 2=true):∃ x y,n.kids=[x,y]:=by
 simp [sq] at h;have:n.kids.length=2:=by omega
 match n.kids,this with
 | [x,y],_=>exact ⟨x,y,rfl⟩
theorem zlP {n:Nd} (h:sq n 1 1=true):∃ x,n.kids=[x]:=by
 simp [sq] at h;have:n.kids.length=1:=by omega
 match n.kids,this with
 | [x],_=>exact ⟨x,rfl⟩
theorem z1D {n k:Nd} (h:Fine n) (hk:k∈n.kids):Fine k:=by
 obtain ⟨i,hi,rfl⟩:=List.getElem_of_mem hk;have:=Fine.kid h hi;have ek:Rq.kid n i=n.kids[i]:=by unfold Rq.kid;rw [List.getD_eq_getElem?_getD,List.getElem?_eq_getElem hi,Option.getD_some]
 rwa [ek] at this
theorem z2b {n:Nd} (h:Fine n):n.bytes.length≤40000:=by
 have h1:=Dr.z0Y n;have h2:=h.mx;omega
def impO (n:Nd):List UInt8×List UInt8×Bool:=
 if sq n 2 2&&(sq (Rq.kid n 0) 1 1&&((Rq.kid n 1).cls==0&&(Rq.kid n 1).tag==4)) then
  ((oidO (Rq.kid (Rq.kid n 0) 0)).getD [],(Rq.kid n 1).bytes,(oidO (Rq.kid (Rq.kid n 0) 0)).isSome&&decide (1≤((Rq.kid n 1).bytes.length:Int))&&decide (((Rq.kid n 1).bytes.length:Int)≤64))
 else ([],[],false)
theorem zc5 (n:Nd) (hf:Fine n):OK gl 93 [nX n] (.tup [sX ⟨(impO n).1.toArray⟩,rX (z04 (impO n).2.1),bX (impO n).2.2]):=by
 obtain ⟨b1,hb1⟩:∃ b,b=sq n 2 2:=⟨_,rfl⟩;have his:=z5B (gl:=gl) n 2 2;rw [←hb1] at his;refine z0d Tryz.func93 rfl (by show 1≤_;decide) ?_;unfold Tryz.f93;dsimp only;repeat (refine z0a ?_)
 refine z09 z0b fun Q hQ=>?_
 simp;subst hQ;try simp only [z02,z03,z00,z01]
 repeat (refine z0a ?_)
 refine z09 z0b fun Q hQ=>?_
 simp;refine z0k Tryz.func91 (by simp) (by simp) (by simp) (by simp) (his) (by simp) (by simp) ?_;simp;cases b1
 ·simp;subst hQ;try simp only [z02,z03,z00,z01]
  repeat (refine z0a ?_)
  refine z1I fun Q hQ=>?_
  simp;subst hQ;try simp only [z02,z03,z00,z01]
  repeat (refine z0a ?_)
  refine z09 z0b fun Q hQ=>?_
  simp;subst hQ;try simp only [z02,z03,z00,z01]
  refine z07 ?_;simp [impO,←hb1]
 ·obtain ⟨x,y,hk⟩:=zlO hb1.symm;have e0:Rq.kid n 0=x:=by simp [Rq.kid,hk]
  have e1:Rq.kid n 1=y:=by simp [Rq.kid,hk]
  obtain ⟨b2,hb2⟩:∃ b,b=sq x 1 1:=⟨_,rfl⟩;have his2:=z5B (gl:=gl) x 1 1;rw [←hb2] at his2;simp [hk];refine z0k Tryz.func91 (by simp) (by simp) (by simp) (by simp) (his2) (by simp) (by simp) ?_;simp;cases b2
  ·simp;subst hQ;try simp only [z02,z03,z00,z01]
   repeat (refine z0a ?_)
   refine z1I fun Q hQ=>?_
   simp;subst hQ;try simp only [z02,z03,z00,z01]
   repeat (refine z0a ?_)
   refine z09 z0b fun Q hQ=>?_
   simp;subst hQ;try simp only [z02,z03,z00,z01]
   refine z07 ?_;simp [impO,←hb1,e0,←hb2]
  ·obtain ⟨b3,hb3⟩:∃ b,b=(y.cls==0&&y.tag==4):=⟨_,rfl⟩;have his3:=zgC (gl:=gl) y 4;rw [←hb3] at his3;simp [hk];refine z0k Tryz.func97 (by simp) (by simp) (by simp) (by simp) (his3) (by simp) (by simp) ?_;simp;subst hQ;try simp only [z02,z03,z00,z01]
   repeat (refine z0a ?_)
   refine z1I fun Q hQ=>?_
   simp;cases b3
   ·simp;subst hQ;try simp only [z02,z03,z00,z01]
    repeat (refine z0a ?_)
    refine z09 z0b fun Q hQ=>?_
    simp;subst hQ;try simp only [z02,z03,z00,z01]
    refine z07 ?_;simp [impO,←hb1,e0,←hb2,e1,←hb3]
   ·simp;subst hQ;try simp only [z02,z03,z00,z01]
    refine z05 ?_;simp only [z02];obtain ⟨z,hz⟩:=zlP hb2.symm;have ez:Rq.kid x 0=z:=by simp [Rq.kid,hz]
    have hfx:Fine x:=z1D hf (by simp [hk]);have hfy:Fine y:=z1D hf (by simp [hk]);have hfz:Fine z:=z1D hfx (by simp [hz]);repeat (refine z0a ?_)
    refine z09 z0b fun Q hQ=>?_
    simp [hk,hz];refine z0k Tryz.func94 (by simp) (by simp) (by simp) (by simp) (zeW z (z2b hfz)) (by simp) (by simp) ?_;simp;subst hQ;try simp only [z02,z03,z00,z01]
    have hl1:y.bytes.length≤140737488355328:=by have:=z2b hfy;omega
    repeat (refine z0a ?_)
    refine z09 z0b fun Q hQ=>?_
    simp [hk,hl1,z08];subst hQ;try simp only [z02,z03,z00,z01]
    repeat (refine z0a ?_)
    refine z09 z0b fun Q hQ=>?_
    have hi:impO n=((oidO z).getD [],y.bytes,(oidO z).isSome&&decide (1≤(y.bytes.length:Int))&&decide ((y.bytes.length:Int)≤64)):=by simp [impO,←hb1,e0,←hb2,e1,←hb3,ez]
    have fin:∀ s:SF,s.env 2=some (.e (sX ⟨((oidO z).getD []).toArray⟩))→s.env 3=some (.e (.one (.gr 688 1 (byL y.bytes))))→s.env 4=some (.b ((oidO z).isSome&&decide (1≤(y.bytes.length:Int))&&decide ((y.bytes.length:Int)≤64)))→Q .normal s:=fun s h1 h2 h3=>by
     subst hQ;try simp only [z02,z03,z00,z01]
     refine z07 ?_;simp [h1,h2,h3,hi]
    clear hQ;simp;cases h1:(oidO z).isSome<;>simp
    ·exact fin _ (by simp) (by simp) (by simp [h1])
    ·cases h2:decide (1≤(y.bytes.length:Int))<;>simp
     ·exact fin _ (by simp) (by simp) (by simp [h1,h2])
     ·exact fin _ (by simp) (by simp) (by simp [h1,h2])
end Am
end Go.Proofs.YtgmppconibklcaaGreatDoor

namespace Go.Proofs.YtgmppconibklcaaGreatDoor
open Go Go.RowKit
theorem z1V (w:World) (t:TypeId) (cs:Array Value):∃ V,V=w.alloc (.cells cs t)∧Below w.heap.size w V∧Blk V w.heap.size t cs∧V.heap.size=w.heap.size+1:=⟨_,rfl,(Below.refl _ w).alloc (Nat.le_refl _) _,Blk.new w _ _,by simp⟩
theorem oid_wt (s:ByteArray):Dr.wt (Dr.prim 6 ((Od.enc s.data.toList).getD []))≤s.size+10:=Rq.z8F s.data.toList
theorem z8r (s:ByteArray) (A:Option Addr) (n c:Nat) (b:List UInt8) (Av:Nat→Prop) (w:World) (h:Is w Av (.slice A n c) (z04 b)) (hs:s.size≤90000) (hz:n≤100000):
  Calls Tryz.prog 27 #[.string s,.slice A n c] w fun e w'=>∃ v,e = .returned (.tuple #[v,.bool (Rq.z2z s.data.toList b)])∧NdAt w' (Old w) v (Rq.impN s.data.toList b)∧Below w.heap.size w w':=by
 obtain ⟨V,hV,hb0,hk0,hs0⟩:=z1V w 61 #[.int .i64 0,.int .i64 0,.bool false,.slice none 0 0,.slice none 0 0];have H:=Lib.hid h;have hnl:n=b.length:=by
  obtain ⟨A',c',e,_⟩:=h.bytes;injection e with _ e2 _
 have HNL:=Lib.hid hnl;have HB:=Lib.hid hb0;have HK:=Lib.hid hk0;have HV:=Lib.hid hV;have HS:=Lib.hid hs0;clear h hV hb0 hk0 hs0 hnl;go_enter Tryz.func27,Tryz.ntmps27
 go_upto_region 1 with fail
 rw [←HV.out]
 go_wp2_with fail
 refine (z8L s V hs).mono ?_;rintro e V1 ⟨v1,rfl,h1,hb1⟩;obtain ⟨c1,t1,k1,A1,nb1,cb1,A2,nk1,ck1,rfl⟩:=h1.z7Z;obtain ⟨ok,hok⟩:∃ ok,ok=(Od.enc s.data.toList).isSome:=⟨_,rfl⟩;rw [←hok];have HOK:=Lib.hid hok;have HB1:Hid (Below w.heap.size w V1):=HB.out.trans (hb1.mono HB.out.size);have H1:Hid (NdAt V1 (Old w) (.agg #[.int .i64 c1,.int .i64 t1,.bool k1,.slice A1 nb1 cb1,.slice A2 nk1 ck1]) (Rq.oidN s.data.toList)):=h1.less (fun b hb _=>Nat.lt_of_lt_of_le hb HB.out.size);have HK1:=Lib.hid (HK.out.below hb1 HK.out.lt);clear h1 hb1 hok
 go_upto_region 2 with fail
 obtain ⟨V2,hV2,hb2,hk2,hs2⟩:=z1V V1 61 #[.int .i64 c1,.int .i64 t1,.bool k1,.slice A1 nb1 cb1,.slice A2 nk1 ck1];rw [←hV2];have HB2:Hid (Below w.heap.size w V2):=HB1.out.trans (hb2.mono HB1.out.size);have H2:=Lib.hid (H1.out.stays hb2);have HK2:=Lib.hid (HK1.out.below hb2 HK1.out.lt);have HT2:=Lib.hid hk2;clear hV2 hb2 hs2;obtain ⟨P6,hP6⟩:∃ P6,P6=V1.heap.size:=⟨_,rfl⟩;rw [←hP6] at HT2 hk2 ⊢;clear hP6;obtain ⟨p0,p1,p2,p3,p4,g0,g1,g2,g3,g4⟩:=hk2.five;clear hk2
 go_wp2_with fail
 obtain ⟨V3,hV3,hb3,hk3,hs3⟩:=z1V V2 61 #[.int .i64 c1,.int .i64 t1,.bool k1,.slice A1 nb1 cb1,.slice A2 nk1 ck1];rw [←hV3];have HB3:Hid (Below w.heap.size w V3):=HB2.out.trans (hb3.mono HB2.out.size);have H3:Hid (Is V3 (Old w) (.slice (some ⟨V2.heap.size,0,none⟩) 1 1) (ndsD [Rq.oidN s.data.toList])):=Is.lit1 hk3 (H2.out.stays hb3) (by have:=HB2.out.size;show ¬(_<_);omega);have HK3:=Lib.hid (HK2.out.below hb3 HK2.out.lt);clear hV3 hb3 hk3 hs3;obtain ⟨Q2,hQ2⟩:∃ Q2,Q2=V2.heap.size:=⟨_,rfl⟩;rw [←hQ2] at H3 ⊢;clear hQ2 p0 p1 p2 p3 p4 g0 g1 g2 g3 g4;have hw1:=oid_wt s;refine (z8J [Rq.oidN s.data.toList] _ _ _ (Old w) V3 (by simp only [Dr.wts];show Dr.wt (Dr.prim 6 _)+0≤_;omega) H3.out).mono ?_;rintro e V4 ⟨v4,rfl,h4,hb4⟩;obtain ⟨c4,t4,k4,A4,nb4,cb4,A5,nk4,ck4,rfl⟩:=h4.z7Z;have HB4:Hid (Below w.heap.size w V4):=HB3.out.trans (hb4.mono HB3.out.size);have H4:Hid (NdAt V4 (Old w) (.agg #[.int .i64 c4,.int .i64 t4,.bool k4,.slice A4 nb4 cb4,.slice A5 nk4 ck4]) (Dr.seq [Rq.oidN s.data.toList])):=h4.less (fun b hb _=>Nat.lt_of_lt_of_le hb HB3.out.size);have HK4:=Lib.hid (HK3.out.below hb4 HK3.out.lt);have HI4:Hid (Is V4 Av (.slice A n c) (z04 b)):=H.out.stays HB4.out;clear h4 hb4 hw1
 go_wp2_with fail
 refine (z1d 4 A n c b Av V4 HI4.out (by omega)).mono ?_;rintro e V5 ⟨v5,rfl,h5,hb5⟩;obtain ⟨c5,t5,k5,A6,nb5,cb5,A7,nk5,ck5,rfl⟩:=h5.z7Z;have HB5:Hid (Below w.heap.size w V5):=HB4.out.trans (hb5.mono HB4.out.size);have H5:Hid (NdAt V5 (Old w) (.agg #[.int .i64 c5,.int .i64 t5,.bool k5,.slice A6 nb5 cb5,.slice A7 nk5 ck5]) (Dr.prim 4 b)):=h5.less (fun b hb _=>Nat.lt_of_lt_of_le hb HB4.out.size);have H45:=Lib.hid (H4.out.stays hb5);have HK5:=Lib.hid (HK4.out.below hb5 HK4.out.lt);clear h5 hb5
 go_wp2_with fail
 obtain ⟨V6,hV6,hb6,hk6,hs6⟩:=z1V V5 61 #[.int .i64 c4,.int .i64 t4,.bool k4,.slice A4 nb4 cb4,.slice A5 nk4 ck4,.int .i64 c5,.int .i64 t5,.bool k5,.slice A6 nb5 cb5,.slice A7 nk5 ck5];rw [←hV6];have HB6:Hid (Below w.heap.size w V6):=HB5.out.trans (hb6.mono HB5.out.size);have H6:Hid (Is V6 (Old w) (.slice (some ⟨V5.heap.size,0,none⟩) 2 2) (ndsD [Dr.seq [Rq.oidN s.data.toList],Dr.prim 4 b])):=Is.lit2 hk6 (H45.out.stays hb6) (H5.out.stays hb6) (by have:=HB5.out.size;show ¬(_<_);omega);have HK6:=Lib.hid (HK5.out.below hb6 HK5.out.lt);clear hV6 hb6 hk6 hs6;obtain ⟨Q5,hQ5⟩:∃ Q5,Q5=V5.heap.size:=⟨_,rfl⟩;rw [←hQ5] at H6 ⊢;clear hQ5;have hw2:=Rq.zhf s.data.toList b;have hsl:s.data.toList.length=s.size:=rfl;refine (z8J [Dr.seq [Rq.oidN s.data.toList],Dr.prim 4 b] _ _ _ (Old w) V6 (by unfold Rq.impN at hw2;rw [Dr.zaZ] at hw2;have:=HNL.out;omega) H6.out).mono ?_;rintro e V7 ⟨v7,rfl,h7,hb7⟩;obtain ⟨c7,t7,k7,A8,nb7,cb7,A9,nk7,ck7,rfl⟩:=h7.z7Z;have H7:=Lib.hid h7;have HB7:Hid (Below w.heap.size w V7):=HB6.out.trans (hb7.mono HB6.out.size);have HK7:=Lib.hid (HK6.out.below hb7 HK6.out.lt);have HL6:Hid (w.heap.size<V6.heap.size):=HK6.out.lt;have hok2:Hid (Rq.z2z s.data.toList b=(ok&&decide (1≤n)&&decide (n≤64))):=by show _=_;rw [HOK.out,HNL.out];rfl
 clear h7 hb7 hw2 hsl;obtain ⟨q0,q1,q2,q3,q4,f0,f1,f2,f3,f4⟩:=HK7.out.five;have fin:∀ r:Bool,r=Rq.z2z s.data.toList b→∃ v,Ending.returned (.tuple #[.agg #[.int .i64 c7,.int .i64 t7,.bool k7,.slice A8 nb7 cb7,.slice A9 nk7 ck7],.bool r]) = .returned (.tuple #[v,.bool (Rq.z2z s.data.toList b)])∧NdAt (World.set5 V7 w.heap.size (.int .i64 c7) (.int .i64 t7) (.bool k7) (.slice A8 nb7 cb7) (.slice A9 nk7 ck7)) (Old w) v (Rq.impN s.data.toList b)∧Below w.heap.size w (World.set5 V7 w.heap.size (.int .i64 c7) (.int .i64 t7) (.bool k7) (.slice A8 nb7 cb7) (.slice A9 nk7 ck7)):=by
  rintro r rfl;exact ⟨_,rfl,(H7.out.set5 HL6.out _ _ _ _ _).less (fun b hb _=>Nat.lt_trans hb HL6.out),z0y HB7.out (Nat.le_refl _) _ _ _ _ _⟩
 have FIN:=Lib.hid fin;clear fin;cases ok with
 | false=>
  go_wp2_with fail
  exact bodyPost_ret (z1T Tryz.results27 _ _ (HK7.out.set5 _ _ _ _ _) rfl rfl) rfl (FIN.out false (by rw [hok2.out];rfl))
 | true=>
  by_cases h1:1≤n
  ·have hd1:decide ((1:Int)≤(n:Int))=true:=decide_eq_true (by omega);by_cases h2:n≤64
   ·have hd2:decide ((n:Int)≤64)=true:=decide_eq_true (by omega);have HD:=Lib.hid (And.intro h1 h2);clear h1 h2
    go_wp2_with fail
    exact bodyPost_ret (z1T Tryz.results27 _ _ (HK7.out.set5 _ _ _ _ _) rfl rfl) rfl (FIN.out true (by rw [hok2.out,decide_eq_true HD.out.1,decide_eq_true HD.out.2];rfl))
   ·have hd2:decide ((n:Int)≤64)=false:=decide_eq_false (by omega);have HD:=Lib.hid h2;clear h1 h2
    go_wp2_with fail
    exact bodyPost_ret (z1T Tryz.results27 _ _ (HK7.out.set5 _ _ _ _ _) rfl rfl) rfl (FIN.out false (by rw [hok2.out,decide_eq_false HD.out,Bool.and_false]))
  ·have hd1:decide ((1:Int)≤(n:Int))=false:=decide_eq_false (by omega);have HD:=Lib.hid h1;clear h1
   go_wp2_with fail
   exact bodyPost_ret (z1T Tryz.results27 _ _ (HK7.out.set5 _ _ _ _ _) rfl rfl) rfl (FIN.out false (by rw [hok2.out,decide_eq_false HD.out];rfl))
end Go.Proofs.YtgmppconibklcaaGreatDoor

