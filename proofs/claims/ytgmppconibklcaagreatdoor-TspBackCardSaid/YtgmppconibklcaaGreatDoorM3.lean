/- Part of the proof of TspBack. No condition: lemmas alone. -/
import Derived.Test.YtgmppconibklcaaGreatDoorM2
set_option linter.unusedVariables false
set_option linter.unusedSimpArgs false
namespace Go.Proofs.YtgmppconibklcaaGreatDoor
open Go Go.RowKit
namespace Am
section
variable {P:Program} {w w':World} {G:Gh} {c:Ctx} {h:Objs} {ρ:Operand→Option T} {σ:Operand→Value}
theorem z8G {op:BinOp} {t:TypeId} {k:IntKind} {x y:Int} {v:Value} (h:zeJ op k x y=some v) (h1:op ≠ .shl) (h2:op ≠ .shr):(binOp op t (.int k x) (.int k y)).run P w = .ok v w∧v.oneCell'=true:=by
 cases op<;>simp [zeJ] at h<;>try (exact absurd rfl h1) 
 all_goals try (exact absurd rfl h2)
 all_goals first
  | (obtain ⟨h0,rfl⟩:=h;simp [binOp,Op.intArith,Op.intDiv,Op.intBits,Op.intCmp,h0,Value.oneCell'];done)
  | (subst h;simp [binOp,Op.intArith,Op.intDiv,Op.intBits,Op.intCmp,Value.oneCell'];done)
theorem zfb {op:BinOp} {t:TypeId} {x y:ByteArray} {v:Value} (h:zeI op x y=some v):(binOp op t (.string x) (.string y)).run P w = .ok v w∧v.oneCell'=true:=by
 cases op<;>simp only [zeI] at h<;>try (cases h;done)
 ·split at h
  ·cases h
  ·rename_i h0;injection h with h;subst h;refine ⟨?_,rfl⟩;simp only [binOp,Op.stringOp];rw [if_neg h0];rfl
 all_goals (injection h with h;subst h;simp [binOp,Op.stringOp,Value.oneCell'])
theorem zaR {op:BinOp} {t:TypeId} {x y:Operand} {a b:Value} (ha:a.oneCell'=true) (hb:b.oneCell'=true) (hn:a ≠ .nilIface):(eqGuard op t x y a b).run P w = .ok () w:=by
 unfold eqGuard;cases a<;>simp [Value.oneCell'] at ha<;>cases b<;>simp [Value.oneCell'] at hb<;>first
  | exact absurd rfl hn
  | (cases op<;>simp)
theorem ziY {op:BinOp} {t:TypeId} {x y v:Value} (h:binV P op t x y=some v):(binOp op t x y).run P w = .ok v w∧v.oneCell'=true∧x.oneCell'=true∧y.oneCell'=true∧x ≠ .nilIface:=by
 unfold binV at h;split at h
 ·rename_i k a k' b;refine ⟨?_,?_,rfl,rfl,by simp⟩
  ·split at h
   ·split at h
    ·cases h
    ·rename_i h0;injection h with h;subst h;simp [binOp,Op.shift,h0]
   ·split at h
    ·cases h
    ·rename_i h0;injection h with h;subst h;simp [binOp,Op.shift,h0]
   ·rename_i h1 h2;split at h
    ·rename_i hk;subst hk;exact (z8G h (fun e=>h1 e) (fun e=>h2 e)).1
    ·cases h
  ·split at h
   ·split at h
    ·cases h
    ·injection h with h;subst h;rfl
   ·split at h
    ·cases h
    ·injection h with h;subst h;rfl
   ·rename_i h1 h2;split at h
    ·rename_i hk;subst hk;exact (z8G (P:=P) (w:=w) (t:=t) h (fun e=>h1 e) (fun e=>h2 e)).2
    ·cases h
 ·obtain ⟨h1,h2⟩:=zfb (P:=P) (w:=w) (t:=t) h;exact ⟨h1,h2,rfl,rfl,by simp⟩
 ·rename_i a b;split at h
  ·rename_i hu;refine ⟨?_,?_,rfl,rfl,by simp⟩
   ·split at h
    ·injection h with h;subst h;simp [binOp,run_equal_bool w t a b hu]
    ·injection h with h;subst h;simp [binOp,run_equal_bool w t a b hu]
    ·cases h
   ·split at h
    ·injection h with h;subst h;rfl
    ·injection h with h;subst h;rfl
    ·cases h
  ·cases h
 ·cases h
theorem nil?_spec {v:Value} {cc:C} {b:Bool} (h:nil? cc=some b) (hr:RC G v cc):∃ A n k,v = .slice A n k∧A.isNone=b∧(b=true→v = .slice none 0 0):=by
 unfold nil? at h;split at h
 ·injection h with h;subst h;exact ⟨none,0,0,hr,rfl,fun _=>hr⟩
 ·injection h with h;subst h;obtain ⟨A,n,cap,us,rfl,hl,hs,_,_,hc⟩:=RD.row_ hr;have hn:0<n:=Nat.pos_of_ne_zero (by rintro rfl;simp at hl);obtain ⟨g,o,rfl,_⟩:=hc hn;exact ⟨_,n,cap,rfl,rfl,fun h=>by cases h⟩
 ·injection h with h;subst h;obtain ⟨A,n,cap,us,rfl,hl,hs,_,_,hc⟩:=RD.row_ hr.1;have hn:0<n:=Nat.pos_of_ne_zero (by rintro rfl;simp at hl);obtain ⟨g,o,rfl,_⟩:=hc hn;exact ⟨_,n,cap,rfl,rfl,fun h=>by cases h⟩
 ·cases h
theorem z5n (w:World) (d:Nat) {t e:TypeId} (hu:P.underlying t=some (.slice e)) (A B:Option Addr) (n m k l:Nat) (h1:A=none∨B=none):(Op.equalIn (d+1) t (.slice A n k) (.slice B m l)).run P w = .ok (A.isNone&&B.isNone) w:=by
 cases A<;>cases B<;>simp at h1<;>simp [Op.equalIn,run_underlying hu]
theorem zgq {op:BinOp} {t:TypeId} {a b:C} {x y v:Value} (h:zh6 P op t a b=some v) (ha:RC G x a) (hb:RC G y b):(binOp op t x y).run P w = .ok v w∧v.oneCell'=true∧x ≠ .nilIface:=by
 unfold zh6 at h;split at h
 ·rename_i e hu;have key:∀ (A B:Option Addr) (n m k l:Nat) (r:Bool),(A=none∨B=none)→(A.isNone&&B.isNone)=r→(Op.equal t (.slice A n k) (.slice B m l)).run P w = .ok r w:=by
   intro A B n m k l r h1 h2;subst h2;exact z5n w 9999 hu A B n m k l h1
  split at h
  ·rename_i a' ha' hb';obtain ⟨A,n,k,rfl,h3,_⟩:=nil?_spec ha' ha;obtain ⟨B,m,l,rfl,h4,h5⟩:=nil?_spec hb' hb;have hB:B=none:=by cases B with|none=>rfl|some _=>cases h4
   subst hB;have:=key A none n m k l a' (.inr rfl) (by rw [h3];simp);split at h
   ·injection h with h;subst h;exact ⟨by simp [binOp,this],rfl,by simp⟩
   ·injection h with h;subst h;exact ⟨by simp [binOp,this],rfl,by simp⟩
   ·cases h
  ·rename_i b' _ ha' hb';obtain ⟨A,n,k,rfl,h3,_⟩:=nil?_spec ha' ha;obtain ⟨B,m,l,rfl,h4,_⟩:=nil?_spec hb' hb;have hA:A=none:=by cases A with|none=>rfl|some _=>cases h3
   subst hA;have:=key none B n m k l b' (.inl rfl) (by rw [h4];simp);split at h
   ·injection h with h;subst h;exact ⟨by simp [binOp,this],rfl,by simp⟩
   ·injection h with h;subst h;exact ⟨by simp [binOp,this],rfl,by simp⟩
   ·cases h
  ·cases h
 ·cases h
theorem zla {op:BinOp} {t:TypeId} {x y:Operand} {r:T} (hρ:Rho G ρ σ) (h:zhM P op t (ρ x) (ρ y)=some r):∃ v,(do eqGuard op t x y (σ x) (σ y);binOp op t (σ x) (σ y):Sem Value).run P w = .ok v w∧RT G v r:=by
 unfold zhM at h;split at h
 ·rename_i a b hx hy;cases hb:binV P op t a b with
  | none=>rw [hb] at h;cases h
  | some v=>
   rw [hb] at h;simp at h;subst h;obtain ⟨h1,h2,h3,h4,h5⟩:=ziY (w:=w) hb;have ex:=RT_v (hρ x _ hx);have ey:=RT_v (hρ y _ hy);refine ⟨v,?_,z8q h2⟩;rw [ex,ey];simp [zaR h3 h4 h5,h1]
 ·rename_i a b _ hx hy;cases hb:zh6 P op t a b with
  | none=>rw [hb] at h;cases h
  | some v=>
   rw [hb] at h;simp at h;subst h;have ex:=hρ x _ hx;have ey:=hρ y _ hy;obtain ⟨h1,h2,h3⟩:=zgq (w:=w) hb ex ey;exact ⟨v,by simp [zaR (RC.one ex) (RC.one ey) h3,h1],z8q h2⟩
 ·cases h
theorem run_un {op:UnOp} {x v:Value} (h:unV op x=some v):(Op.unary op x).run P w = .ok v w∧v.oneCell'=true:=by
 unfold unV at h;split at h
 ·injection h with h;subst h;simp [Op.unary,Op.intArith,Value.oneCell']
 ·injection h with h;subst h;simp [Op.unary,Op.intBits,Value.oneCell']
 ·injection h with h;subst h;simp [Op.unary,Value.oneCell']
 ·cases h
theorem ziU {x y:Operand} {r:T} (hρ:Rho G ρ σ) (h:z9X (ρ x) (ρ y) false=some r) (ts:Array TypeId) (ty:TypeId):∃ v,(Builtin.min_ ts ty #[σ x,σ y]).run P w = .ok v w∧RT G v r:=by
 unfold z9X at h;split at h
 ·rename_i k a k' b hx hy;split at h
  ·rename_i hk;subst hk;injection h with h;subst h;have ex:=RT_v (hρ x _ (int?_spec hx));have ey:=RT_v (hρ y _ (int?_spec hy));exact ⟨.int k (if b<a then b else a),by simp [Builtin.min_,ex,ey,Builtin.min2],z8q rfl⟩
  ·cases h
 ·cases h
theorem ziV {x y:Operand} {r:T} (hρ:Rho G ρ σ) (h:z9X (ρ x) (ρ y) true=some r) (ts:Array TypeId) (ty:TypeId):∃ v,(Builtin.max_ ts ty #[σ x,σ y]).run P w = .ok v w∧RT G v r:=by
 unfold z9X at h;split at h
 ·rename_i k a k' b hx hy;split at h
  ·rename_i hk;subst hk;injection h with h;subst h;have ex:=RT_v (hρ x _ (int?_spec hx));have ey:=RT_v (hρ y _ (int?_spec hy));exact ⟨.int k (if b>a then b else a),by simp [Builtin.max_,ex,ey,Builtin.max2],z8q rfl⟩
  ·cases h
 ·cases h
theorem bytesOf?_spec:∀ {l:List D} {bs:List UInt8},bytesOf? l=some bs→l=bs.map zc0
 | [],bs,h=>by simp [bytesOf?] at h;subst h;rfl
 | x::l,bs,h=>by
  rw [bytesOf?] at h;cases hx:byteOf? x with
  | none=>rw [hx] at h;cases h
  | some b=>
   rw [hx] at h;simp only at h;cases hl:bytesOf? l with
   | none=>rw [hl] at h;cases h
   | some bs' =>
    rw [hl] at h;simp at h;subst h;rw [List.map_cons,←bytesOf?_spec hl]
    congr 1
    unfold byteOf? at hx;split at hx
    ·rename_i n;split at hx
     ·rename_i hn;injection hx with hx;subst hx;unfold zc0
      congr 2
      simp;omega
     ·cases hx
    ·cases hx
theorem ziq {us:List Value} {bs:List UInt8} (h:RDs G.im us (bs.map zc0)):us=Lib.byteCells bs:=by
 refine List.ext_getElem? fun j=>?_
 rcases Nat.lt_or_ge j us.length with hj|hj
 ·have hb:j<bs.length:=by have:=h.1;simp at this;omega
  have hr:=h.2 j us[j] (zc0 bs[j]) (List.getElem?_eq_getElem hj) (by simp [List.getElem?_eq_getElem hb]);rw [List.getElem?_eq_getElem hj];have hr:RT G us[j] (.v (.int .u8 (bs[j].toNat:Int))):=hr;rw [RT_v hr];simp [Lib.byteCells,List.getElem?_eq_getElem hb]
 ·have hb:bs.length≤j:=by have:=h.1;simp at this;omega
  rw [List.getElem?_eq_none hj,List.getElem?_eq_none (by simpa [Lib.byteCells] using hb)]
end
end Am
end Go.Proofs.YtgmppconibklcaaGreatDoor

namespace Go.Proofs.YtgmppconibklcaaGreatDoor
open Go Go.RowKit
namespace Am
section
variable {P:Program} {w w':World} {G:Gh} {c:Ctx} {h:Objs} {ρ:Operand→Option T} {σ:Operand→Value}
theorem z17.data {v:Value} {t:T} {us:List Value} (hI:Inv c G h w) (hb:Below w.heap.size w w') (hc:∀ j u,us[j]? = some u→w'.cell? ⟨w.heap.size,j,none⟩=some u)
  (hr:∀ G':Gh,(∀ a u,G.im a=some u→G'.im a=some u)→G'.loc=G.loc→(∀ j u,us[j]? = some u→G'.im ⟨w.heap.size,j,none⟩=some u)→RT G' v t):z17 c G h ⟨t,[],[]⟩ v w':=by
 obtain ⟨im',him⟩:∃ im':Im,im'=fun a:Addr=>if a.block=w.heap.size then w'.cell? a else G.im a:=⟨_,rfl⟩
 have h1:∀ a:Addr,a.block<w.heap.size→im' a=G.im a:=fun a ha=>by rw [him];exact if_neg (by omega)
 have hI2:=hI.grow hb im' h1 (fun a u ha=>by
  rw [him] at ha;simp only at ha;by_cases hbk:a.block=w.heap.size
  ·rw [if_pos hbk] at ha;exact ha
  ·rw [if_neg hbk] at ha;exact (hb.cell (z2J (hI.imw a u ha))).trans (hI.imw a u ha))
 have hext:∀ a u,G.im a=some u→im' a=some u:=fun a u ha=>by rw [h1 a (z2J (hI.imw a u ha))];exact ha
 refine ⟨⟨im',G.loc⟩,hext,fun _ _=>rfl,hr ⟨im',G.loc⟩ hext rfl (fun j u hu=>?_),by rw [zei];exact hI2⟩;rw [him];exact (if_pos rfl).trans (hc j u hu)
theorem ziX {s d:TypeId} {x:Operand} {c':C} (hI:Inv c G h w) (hρ:Rho G ρ σ) (hc:zbE P s d (ρ x)=some c'):∃ v w',(convert s d (σ x)).run P w = .ok v w'∧z17 c G h ⟨.e (.one c'),[],[]⟩ v w':=by
 unfold zbE at hc;split at hc
 ·rename_i hs hd;cases hx:str? (ρ x) with
  | none=>rw [hx] at hc;cases hc
  | some b=>
   rw [hx] at hc;simp at hc;subst hc;have hv:=RT_v (hρ x _ (str?_spec hx));exact ⟨.string b,w,by simp [convert,run_underlying hs,run_underlying hd,hv],z17.pure hI (z8q rfl)⟩
 ·rename_i e hs hd;split at hc
  ·rename_i he;cases hx:str? (ρ x) with
   | none=>rw [hx] at hc;cases hc
   | some b=>
    rw [hx] at hc;simp at hc;subst hc;have hv:=RT_v (hρ x _ (str?_spec hx));refine ⟨_,_,by rw [hv];exact run_bytes_of_string w s d e b hs hd he,?_⟩;have hge:=grownCap_ge w b.size 0 e;have hcell:∀ j u,(Lib.byteCells b.data.toList)[j]? = some u→(w.drew.alloc (.cells (bytesRow b (grownCap w b.size 0 e)) e ((bytesRow b (grownCap w b.size 0 e)).size,(bytesRow b (grownCap w b.size 0 e)).size+1))).cell? ⟨w.heap.size,j,none⟩=some u:=by
     intro j u hu;rw [cell_of_row _ w.heap.size j _ e _ (heap_alloc_new w.drew _)];have hj:j<b.size:=by have:=(List.getElem?_eq_some_iff.1 hu).1;simpa [Lib.byteCells] using this
     have hj2:j<b.data.size:=hj;have hu2:u = .int .u8 (b.data[j].toNat:Int):=by
      have:(Lib.byteCells b.data.toList)[j]? = some (.int .u8 (b.data[j].toNat:Int)):=by simp [Lib.byteCells,Array.getElem?_eq_getElem hj2]
      rw [this] at hu;injection hu with hu;exact hu.symm
     subst hu2;simp [bytesRow,Array.getElem?_append,hj2];rw [if_pos hj,Array.getElem?_eq_getElem hj2];rfl
    refine z17.data hI ((Below.refl _ w).drew.alloc (by simp) _) hcell (fun G' h1 h2 h3=>?_);refine RD.row _ b.size _ 1 (Lib.byteCells b.data.toList) (b.data.toList.map zc0) (by simp) (by simp [Lib.byteCells]) (by decide) hge (fun _=>⟨w.heap.size,0,rfl,fun j u hu=>by rw [Nat.zero_add];exact h3 j u hu⟩) (fun j u d hu hd=>?_);rw [List.getElem?_map] at hd;have hj:j<b.data.toList.length:=by have:=(List.getElem?_eq_some_iff.1 hu).1;simpa [Lib.byteCells] using this
    rw [List.getElem?_eq_getElem hj] at hd;simp at hd;subst hd;have hj2:j<b.data.size:=by simpa using hj
    have hu2:u = .int .u8 (b.data[j].toNat:Int):=by
     have:(Lib.byteCells b.data.toList)[j]? = some (.int .u8 (b.data[j].toNat:Int)):=by simp [Lib.byteCells,Array.getElem?_eq_getElem hj2]
     rw [this] at hu;injection hu with hu;exact hu.symm
    subst hu2;exact RD.leaf _ rfl
  ·cases hc
 ·rename_i e hs hd;split at hc
  ·rename_i he;cases hx:rowOf 1 (ρ x) with
   | none=>rw [hx] at hc;cases hc
   | some l=>
    rw [hx] at hc;simp only at hc;cases hbs:bytesOf? l with
    | none=>rw [hbs] at hc;cases hc
    | some bs=>
     rw [hbs] at hc;simp at hc;subst hc;obtain ⟨tx,htx⟩:∃ tx,ρ x=some tx:=by
      cases hxx:ρ x with
      | none=>rw [hxx] at hx;simp [rowOf,row?] at hx
      | some tx=>exact ⟨tx,rfl⟩
     obtain ⟨A,n,cap,us,hv,hl,hnc,hdn,hcn⟩:=z9w (G:=G) (by decide) htx hx (hρ x tx htx);have hreads:=z9y hI hl hdn hcn (by decide);have hl2:=bytesOf?_spec hbs;rw [hl2] at hdn;rw [ziq hdn] at hreads;refine ⟨_,w,by rw [hv];exact z7f hs he hd hreads,z17.pure hI (z8q rfl)⟩
  ·cases hc
 ·rename_i k0 k hs hd;cases hx:int? (ρ x) with
  | none=>rw [hx] at hc;cases hc
  | some kn=>
   obtain ⟨k',n⟩:=kn;rw [hx] at hc;simp at hc;subst hc;have hv:=RT_v (hρ x _ (int?_spec hx));exact ⟨.int k (k.wrap n),w,by simp [convert,run_underlying hs,run_underlying hd,hv,Conv.intToInt],z17.pure hI (z8q rfl)⟩
 ·cases hc
theorem RC.fz {v:Value} {cc:C} {o:Option Nat} (hr:RC G v cc):RC G v (cc.fz o):=by
 cases cc with
 | nilS=>
  have hr:v = .slice none 0 0:=hr;subst hr;cases o with
  | none=>exact RD.leaf _ rfl
  | some s=>
   by_cases hs:0<s
   ·simp only [C.fz,if_pos hs];exact RD.row none 0 0 s [] [] (by simp) rfl hs (Nat.le_refl _) (fun h=>by omega) (fun j u d hu=>by simp at hu)
   ·simp only [C.fz,if_neg hs];rfl
 | gr q s l=>cases o<;>exact hr.1
 | d x=>cases o<;>exact hr
 | ref p off=>cases o<;>exact hr
 | ep l=>cases o<;>exact hr
 | sl p n s=>cases o<;>exact hr
 | dead=>cases o<;>exact hr
theorem RCs.fzs:∀ {zs:List (Option Nat)} {cs:List C} {us:List Value},RCs G us cs→RCs G us (fzs zs cs)
 | zs,[],us,h=>by cases zs<;>exact h
 | [],cc::cs,us,h=>by
  match us,h with
  | [],h=>exact absurd h.1 (by simp)
  | u::us,h=>
   have h1:RC G u cc:=h.2 0 u cc rfl rfl;have h2:RCs G us cs:=⟨by simpa using h.1,fun j u c hu hc=>h.2 (j+1) u c (by simpa using hu) (by simpa using hc)⟩;have h3:=RCs.fzs (zs:=[]) h2;refine ⟨by simp [Am.fzs,h3.1],fun j x y hx hy=>?_⟩;match j with
   | 0=>simp [Am.fzs] at hx hy;subst hx;subst hy;exact h1.fz
   | j+1=>exact h3.2 j x y (by simpa using hx) (by simpa [Am.fzs] using hy)
 | z::zs,cc::cs,us,h=>by
  match us,h with
  | [],h=>exact absurd h.1 (by simp)
  | u::us,h=>
   have h1:RC G u cc:=h.2 0 u cc rfl rfl;have h2:RCs G us cs:=⟨by simpa using h.1,fun j u c hu hc=>h.2 (j+1) u c (by simpa using hu) (by simpa using hc)⟩;have h3:=RCs.fzs (zs:=zs) h2;refine ⟨by simp [Am.fzs,h3.1],fun j x y hx hy=>?_⟩;match j with
   | 0=>simp [Am.fzs] at hx hy;subst hx;subst hy;exact h1.fz
   | j+1=>exact h3.2 j x y (by simpa using hx) (by simpa [Am.fzs] using hy)
theorem RE.fz {v:Value} {x:E} {z:List (Option Nat)} (hr:RE G v x):RE G v (x.fz z):=by
 cases x with
 | one cc=>exact RC.fz hr
 | agg cs=>obtain ⟨us,rfl,h⟩:=hr;exact ⟨us,rfl,h.fzs⟩
theorem z9Z:∀ {cs:List C} {us:List Value} {ds:List D},RCs G us cs→dsOf cs=some ds→RDs G.im us ds
 | [],us,ds,h,hd=>by
  simp [dsOf] at hd;subst hd;have:us=[]:=List.eq_nil_of_length_eq_zero h.1;subst this;exact .nil_ _
 | cc::cs,us,ds,h,hd=>by
  match us,h with
  | [],h=>exact absurd h.1 (by simp)
  | u::us,h=>
   have h1:RC G u cc:=h.2 0 u cc rfl rfl;have h2:RCs G us cs:=⟨by simpa using h.1,fun j u c hu hc=>h.2 (j+1) u c (by simpa using hu) (by simpa using hc)⟩;rw [dsOf] at hd;cases cc with
   | d x=>
    simp only [C.d?] at hd;cases hcs:dsOf cs with
    | none=>rw [hcs] at hd;cases hd
    | some ds' =>
     rw [hcs] at hd;simp at hd;subst hd;have h3:=z9Z h2 hcs;refine ⟨by simp [h3.1],fun j a b ha hb=>?_⟩;match j with
     | 0=>simp at ha hb;subst ha;subst hb;exact h1
     | j+1=>exact h3.2 j a b (by simpa using ha) (by simpa using hb)
   | _=>cases hd
theorem zek {s:Nat}:∀ (vs:List Value) (k:Nat) (cells:Array Value),(∀ v∈vs,v.cells.size=s)→cells.size=(k+vs.length)*s →
  Instr.fill (fun i=>some (i*s,s)) cells ((vs.zipIdx k).map fun x=>(x.2,x.1))=some (cells.toList.take (k*s)++vs.flatMap (·.cells.toList)).toArray
 | [],k,cells,_,hs=>by
  simp [Instr.fill];have:cells.toList.take (k*s)=cells.toList:=List.take_of_length_le (by simp at hs ⊢;omega);apply Array.ext';simpa using this.symm
 | v::vs,k,cells,hv,hs=>by
  have h1:=hv v (by simp);have hmul:(k+(v::vs).length)*s=k*s+s+vs.length*s:=by rw [List.length_cons,Nat.add_mul,Nat.add_mul];omega
  rw [List.zipIdx_cons,List.map_cons,zbz (place:=fun i=>some (i*s,s)) (i:=k) (off:=k*s) (size:=s) rfl h1 (by rw [hs,hmul];omega)];have hl:v.cells.toList.length=s:=by simpa using h1
  have hk:(cells.toList.take (k*s)).length=k*s:=by simp;rw [hs,hmul];omega
  rw [zek vs (k+1) _ (fun x hx=>hv x (by simp [hx])) (by simp only [List.size_toArray,List.length_append,List.length_take,List.length_drop,Array.length_toList,h1,hs,hmul];rw [Nat.add_mul,Nat.add_mul];omega)];have e1:((cells.toList.take (k*s)++(v.cells.toList++cells.toList.drop (k*s+v.cells.toList.length))).toArray.toList.take ((k+1)*s))=cells.toList.take (k*s)++v.cells.toList:=by
   show List.take ((k+1)*s) (cells.toList.take (k*s)++(v.cells.toList++_))=_;rw [←List.append_assoc,List.take_append_of_le_length (by rw [List.length_append,hk,hl,Nat.add_mul];omega)];rw [List.take_of_length_le (by rw [List.length_append,hk,hl,Nat.add_mul];omega)]
  rw [e1,List.flatMap_cons,List.append_assoc]
theorem z9d {e:TypeId}:∀ {xs:List (Option E)} {vs:List Value} {l:List D},elems P e xs=some l→vs.length=xs.length→(∀ (j:Nat) (v:Value) (x:E),vs[j]? = some v→xs[j]? = some (some x)→RE G v x) →
  RDs G.im (vs.flatMap (·.cells.toList)) l∧∀ v∈vs,v.cells.size=z0h P e
 | [],vs,l,h,hl,_=>by
  have:vs=[]:=List.eq_nil_of_length_eq_zero hl;subst this;simp [elems] at h;subst h;exact ⟨.nil_ _,by simp⟩
 | none::xs,vs,l,h,_,_=>by simp [elems] at h
 | some x::xs,vs,l,h,hl,hr=>by
  match vs,hl with
  | v::vs,hl=>
   rw [elems] at h;cases hds:(x.fz (slz P 8 e)).ds with
   | none=>rw [hds] at h;cases h
   | some ds=>
    rw [hds] at h;simp only at h;split at h
    ·rename_i hsz;cases hel:elems P e xs with
     | none=>rw [hel] at h;cases h
     | some l' =>
      rw [hel] at h;simp at h;subst h;have hx:=z9Z (RE.cells ((hr 0 v x rfl rfl).fz (z:=slz P 8 e))) hds;obtain ⟨h1,h2⟩:=z9d hel (by simpa using hl) (fun j v x hv hx=>hr (j+1) v x (by simpa using hv) (by simpa using hx));refine ⟨by rw [List.flatMap_cons];exact hx.app h1,fun y hy=>?_⟩;rcases List.mem_cons.1 hy with rfl|hy
      ·have:=hx.1;simp at this;omega
      ·exact h2 y hy
    ·cases h
theorem z7i {base:Nat} (hb15:base%16≠15) {t:TypeId} {n:Nat} {ps:Array (Nat×Operand)} {eff:Eff} (hI:Inv c G h w) (hρ:Rho G ρ σ) (hb:z2W P base t n (ps.toList.map fun p=>(p.1,e? (ρ p.2)))=some eff):
  ∃ v w',(Instr.buildSlice t n (ps.map fun (i,x)=>(i,σ x))).run P w = .ok v w'∧z17 c G h eff v w':=by
 unfold z2W at hb;split at hb
 ·rename_i e hu;split at hb
  ·cases hb
  ·rename_i hz;simp only [not_or,Bool.not_eq_false] at hz;obtain ⟨hz,hsmall⟩:=hz;split at hb
   ·rename_i hrange;split at hb
    ·rename_i l hel;injection hb with hb;subst hb;obtain ⟨i,zv,hi,hzv,hsz,hby,hzs,hs0,_⟩:=z6G hz;simp only [List.map_map] at hrange hel;have hlen:ps.toList.length=n:=by have:=congrArg List.length hrange;simpa using this
     obtain ⟨hds,hcs⟩:=z9d (G:=G) (vs:=ps.toList.map fun p=>σ p.2) hel (by simp) (fun j v x hv hx=>by
      rw [List.getElem?_map] at hv hx;cases hp:ps.toList[j]? with
      | none=>rw [hp] at hv;cases hv
      | some p=>
       rw [hp] at hv hx;simp at hv hx;subst hv;exact hρ p.2 _ (e?_spec hx))
     have hparts:(ps.map fun (x:Nat×Operand)=>(x.1,σ x.2)).toList=((ps.toList.map fun p=>σ p.2).zipIdx 0).map fun x=>(x.2,x.1):=by
      apply List.ext_getElem?;intro j;have hj:=congrArg (fun l=>l[j]?) hrange;simp only [List.getElem?_map] at hj;simp only [Array.toList_map,List.getElem?_map,List.getElem?_zipIdx];cases hp:ps.toList[j]? with
      | none=>rfl
      | some p=>
       rw [hp] at hj;have hjn:j<n:=by rw [←hlen];exact (List.getElem?_eq_some_iff.1 hp).1
       rw [List.getElem?_range hjn] at hj;simp at hj;simp [hj]
     have hown:∀ cells:Array Value,cells.toList=(ps.toList.map fun p=>σ p.2).flatMap (·.cells.toList)→cells.size=n*z0h P e→z17 c G h ⟨.e (.one (.gr base (z0h P e) l)),[(base,some (.own e (z0h P e) n))],[base]⟩ (.slice (some ⟨w.heap.size,0,none⟩) n n) (w.alloc (.cells cells e)):=by
      intro cells hc1 hc2;have hn63:n≤maxLen:=by unfold maxLen;have:=Nat.le_mul_of_pos_right n hs0;omega
      refine z17.row hb15 hI ((Below.refl _ w).alloc (Nat.le_refl _) _) ⟨?_,.inr ⟨w.heap.size,n,cells,rfl,Nat.le_refl _,heap_alloc_new w _,Nat.le_refl _,hn63,hc2,?_⟩⟩ hs0 (hc1▸hds)
      ·simpa using hc2
      ·rw [List.take_of_length_le (by simp [hc2])]
     by_cases hn:n=0
     ·subst hn;have hps:ps.toList=[]:=List.eq_nil_of_length_eq_zero hlen;have hps2:ps=#[]:=by apply Array.ext';simpa using hps
      subst hps2;refine ⟨.slice (some ⟨w.heap.size,0,none⟩) 0 0,w.alloc (.cells #[] e),?_,hown #[] (by simp) (by simp)⟩;have er:Array.range 0=#[]:=Array.eq_empty_of_size_eq_zero (by simp);simp [Instr.buildSlice,run_underlying hu,sizeOf,typeInfo,hi,Instr.fill,newRow,er]
     ·have hpos:¬n*i.size=0:=by rw [hsz];exact Nat.ne_of_gt (Nat.mul_pos (Nat.pos_of_ne_zero hn) hs0)
      have hfill:=zek (s:=z0h P e) (ps.toList.map fun p=>σ p.2) 0 ((Array.range (n*i.size)).map (zv.cells[·%zv.cells.size]!)) hcs (by simp [hsz,hlen]);rw [←hparts] at hfill;simp only [Nat.zero_mul,List.take_zero,List.nil_append] at hfill;rw [←hsz] at hfill;refine ⟨_,_,run_buildSlice w t e n (ps.map fun (x:Nat×Operand)=>(x.1,σ x.2)) _ i zv hu hi hzv (by rw [hsz];exact hsmall) hpos hfill,hown _ (by simp) ?_⟩;have:=hds.1;have hl:((ps.toList.map fun p=>σ p.2).flatMap (·.cells.toList)).length=n*z0h P e:=by
       rw [←hlen];have hgen:∀ vs:List Value,(∀ v∈vs,v.cells.size=z0h P e)→(vs.flatMap (·.cells.toList)).length=vs.length*z0h P e:=by
        intro vs hvs;induction vs with
        | nil=>simp
        | cons v vs ih=>rw [List.flatMap_cons,List.length_append,ih (fun x hx=>hvs x (by simp [hx])),List.length_cons,Nat.add_mul,Nat.one_mul,Nat.add_comm];have:=hvs v (by simp);simp [this]
       have:=hgen _ hcs;simpa using this
      simpa using hl
    ·cases hb
   ·cases hb
 ·cases hb
theorem zf7 {t:TypeId} {a:C} {x:E} {va vx:Value} {eff:Eff} (hI:Inv c G h w) (ha:RC G va a) (hx:RE G vx x) (he:z7O P h t a x=some eff):∃ w',(Instr.storeAt t va vx).run P w = .ok () w'∧z17 c G h eff undef w':=by
 unfold z7O at he;split at he
 ·rename_i p off;split at he
  ·rename_i ty cs hp;split at he
   ·rename_i hb;obtain ⟨h0,hsz,hl⟩:=hb;injection he with he;subst he;obtain ⟨b,us,hloc,hb1,hB,hcs,him⟩:=hI.obj p _ hp;obtain ⟨b',hloc',rfl⟩:=ha;rw [hloc] at hloc';simp at hloc';subst hloc';have hcx:=hx.cells;have hxl:vx.cells.size=x.cells.length:=by have:=hcx.1;simpa using this
    have hul:us.size=cs.length:=by have:=hcs.1;simpa using this
    refine ⟨w.setCells b off vx.cells.toList,by simp [Instr.storeAt,Instr.sureAddr];exact z7g hB (by omega) (by omega) (by omega) hcx.zdZ,G,fun _ _ h=>h,fun _ _=>rfl,rfl,?_⟩;have hblk:=Blk.setCells vx.cells.toList off w us hB (by simp;omega);have hheap:hUp ⟨.undef,[(p,some (.var ty (z4L cs off x.cells)))],[]⟩ h=hSet h (p,some (.var ty (z4L cs off x.cells))):=by
     funext q
     simp only [hUp,List.foldl_cons,List.foldl_nil,hSet];split
     ·rfl
     ·cases h q<;>simp [O.z0G]
    rw [hheap];have hcell:∀ a u,G.im a=some u→(w.setCells b off vx.cells.toList).cell? a=some u:=by
     intro a u hau;have hne:a.block≠b:=by
      intro e;have hc:=hI.imw a u hau;have hsp:=World.cell?_spot hc;obtain ⟨bl,o,sp⟩:=a;simp only at e hsp;subst e;subst hsp;rw [him o] at hau;cases hau
     exact (World.cell?_of_block (z1h _ _ w a.block hne)).trans (hI.imw a u hau)
    have hbp:G.blk p=some b:=by unfold Gh.blk;rw [hloc]
    have hgb:w.grownBy (w.setCells b off vx.cells.toList) (some b):=⟨(z0X _ _ _).1,(z0X _ _ _).2.1,(z0X _ _ _).2.2,by rw [z2n];exact Nat.le_refl _,fun k _ hk=>z1h _ _ w k (fun e=>hk (by rw [e]))⟩;refine ⟨hI.tb,hI.base,hI.chb,hI.below.grown hgb (fun g e=>by injection e with e;subst e;exact hb1),hcell,hI.imx,hI.imo,hI.pas,hI.glob,fun q o hq=>?_,fun q r o o' bb hq hr hbq hbr=>?_⟩
    ·simp only [hSet] at hq;by_cases hqp:q=p
     ·subst hqp;rw [if_pos rfl] at hq;injection hq with hq;subst hq;refine ⟨b,_,hloc,hb1,hblk,?_,him⟩;simp only [List.toList_toArray];exact hcs.z4L hcx off
     ·rw [if_neg hqp] at hq;have hr:=hI.obj q o hq;have hnb:∀ bb,G.blk q=some bb→bb≠b:=fun bb hbb e=>hqp (hI.sep q p o _ b hq hp (e▸hbb) hbp)
      cases o with
      | var ty' cs' =>
       obtain ⟨b2,us2,e1,e2,e3,e4,e5⟩:=hr;have:b2≠b:=hnb b2 (by unfold Gh.blk;rw [e1]);exact ⟨b2,us2,e1,e2,(z1h _ _ w b2 this).trans e3,e4,e5⟩
      | own e s n=>
       obtain ⟨v,us2,e1,e2,e3⟩:=hr;refine ⟨v,us2,e1,?_,e3⟩;refine e2.kept (row:=some b) ⟨(z0X _ _ _).1,(z0X _ _ _).2.1,(z0X _ _ _).2.2,by rw [z2n];exact Nat.le_refl _,fun k _ hk=>z1h _ _ w k (fun e=>hk (by rw [e]))⟩ ?_;cases hv:v.ownBlock with
       | none=>exact .inl rfl
       | some g=>exact .inr (fun e=>by injection e with e;exact hnb g (by rw [z5V e2 e1,hv]) e)
    ·simp only [hSet] at hq hr;have hq':∃ o,h q=some o:=by
      by_cases hqp:q=p
      ·subst hqp;exact ⟨_,hp⟩
      ·rw [if_neg hqp] at hq;exact ⟨_,hq⟩
     have hr':∃ o,h r=some o:=by
      by_cases hrp:r=p
      ·subst hrp;exact ⟨_,hp⟩
      ·rw [if_neg hrp] at hr;exact ⟨_,hr⟩
     obtain ⟨o1,h1⟩:=hq';obtain ⟨o2,h2⟩:=hr';exact hI.sep q r o1 o2 bb h1 h2 hbq hbr
   ·cases he
  ·cases he
 ·cases he
theorem zhy {α:Type} (l:List α):∀ (n j:Nat),j<n*l.length→((List.replicate n l).flatten)[j]? = l[j%l.length]?
 | 0,j,h=>by simp at h
 | n+1,j,h=>by
  rw [List.replicate_succ,List.flatten_cons];rcases Nat.lt_or_ge j l.length with hj|hj
  ·rw [List.getElem?_append_left hj,Nat.mod_eq_of_lt hj]
  ·rw [List.getElem?_append_right hj,zhy l n (j-l.length) (by rw [Nat.add_mul] at h;omega),←Nat.mod_eq_sub_mod hj]
theorem zgr {base:Nat} (hb15:base%16≠15) {t:TypeId} {n k:Operand} {eff:Eff} (hI:Inv c G h w) (hρ:Rho G ρ σ) (he:zen P base t (int? (ρ n)) (int? (ρ k))=some eff):
  ∃ v w',(Instr.makeSlice t (σ n) (σ k)).run P w = .ok v w'∧z17 c G h eff v w':=by
 unfold zen at he;split at he
 ·rename_i e hu;split at he
  ·rename_i kn x kk y z hn hk hz;split at he
   ·rename_i hb;obtain ⟨hzok,rfl,h0,hn1,hbytes⟩:=hb;injection he with he;subst he;obtain ⟨i,zv,hi,hzv,hsz,hby,hzs,hs0,_⟩:=z6G hzok;have hnv:=RT_v (hρ n _ (int?_spec hn));have hkv:=RT_v (hρ k _ (int?_spec hk));have hrun:=run_make (P:=P) w t e i zv hu hi hzv kn kk x x h0 (Int.le_refl _) (by rw [hby];omega) (by omega);rw [hnv,hkv];refine ⟨_,_,hrun,?_⟩;have hI2:=hI.stays ((Below.refl w.heap.size w).alloc (Nat.le_refl _) (.cells (madeCells zv.cells (x.toNat*i.size)) e));have him:∀ off,G.im ⟨w.heap.size,off,none⟩=none:=fun off=>by
     cases hh:G.im ⟨w.heap.size,off,none⟩ with
     | none=>rfl
     | some u=>have:=z2J (hI.imw _ _ hh);simp at this
    refine ⟨⟨G.im,upd G.loc base (.pointer (some ⟨w.heap.size,0,none⟩))⟩,fun _ _ h=>h,fun p hp=>z5e (by simpa using hp),⟨w.heap.size,z3X,rfl⟩,?_⟩;refine hI2.new (base:=base) hb15 ⟨w.heap.size,_,z3X,.inl hI.below.size,Blk.new _ _ _,?_,him⟩ (fun p o' b hp hh hb=>?_)
    ·obtain ⟨i2,z2,hi2,hz2,_,hre⟩:=z6O (G:=⟨G.im,upd G.loc base (.pointer (some ⟨w.heap.size,0,none⟩))⟩) (w:=w) hz;rw [hi] at hi2;injection hi2 with hi2;subst hi2;rw [hzv] at hz2;injection hz2 with hz2;subst hz2;have hcs:=hre.cells;have hzl:z.cells.length=z0h P e:=by rw [←hcs.1];simpa using hzs
     have hfl:((List.replicate x.toNat z.cells).flatten).length=x.toNat*z.cells.length:=by simp
     refine ⟨by rw [hfl,hzl];simp [size_madeCells,hsz],fun j u cc hu hc=>?_⟩;have hj:j<x.toNat*z.cells.length:=by rw [←hfl];exact (List.getElem?_eq_some_iff.1 hc).1
     rw [zhy z.cells _ j hj] at hc;have hzp:0<zv.cells.size:=by omega
     have hm:j%zv.cells.size<zv.cells.size:=Nat.mod_lt _ hzp;have hu2:zv.cells.toList[j%z.cells.length]? = some u:=by
      rw [hzl,←hzs];simp only [madeCells,Array.toList_map,List.getElem?_map] at hu;have hj2:j<x.toNat*i.size:=by rw [hsz,←hzl];exact hj
      have hr:(Array.range (x.toNat*i.size)).toList[j]? = some j:=by simp [hj2]
      rw [hr] at hu;simp [hm] at hu;simp [hm];exact hu
     exact hcs.2 _ u cc hu2 hc
    ·have:=(hI.obj p o' hh).zi8 b hb;simp only [Gh.blk,z3X];simp;omega
   ·cases he
  ·cases he
 ·cases he
end
end Am
end Go.Proofs.YtgmppconibklcaaGreatDoor

