/- Part of the proof. No condition. -/
import Derived.Test.YtgmppconibklcaaGreatDoorM2
set_option maxHeartbeats 40000000
set_option maxRecDepth 100000
set_option linter.unusedVariables false
set_option linter.unusedSimpArgs false
namespace Go.Proofs.YtgmppconibklcaaGreatDoor
open Go Go.RowKit
namespace Am
section
variable {P:Program} {w w':World} {G:Gh} {c:Ctx} {h:Objs} {ρ:Operand→Option T} {σ:Operand→Value}
theorem z15.data {v:Value} {t:T} {us:List Value} (hI:Inv c G h w) (hb:Below w.heap.size w w') (hc:∀ j u,us[j]? = some u→w'.cell? ⟨w.heap.size,j,none⟩=some u)
  (hr:∀ G':Gh,(∀ a u,G.im a=some u→G'.im a=some u)→G'.loc=G.loc→(∀ j u,us[j]? = some u→G'.im ⟨w.heap.size,j,none⟩=some u)→RT G' v t):z15 c G h ⟨t,[],[]⟩ v w':=by
 obtain ⟨im',him⟩:∃ im':Im,im'=fun a:Addr=>if a.block=w.heap.size then w'.cell? a else G.im a:=⟨_,rfl⟩
 have h1:∀ a:Addr,a.block<w.heap.size→im' a=G.im a:=fun a ha=>by rw [him];exact if_neg (by omega)
 have hI2:=hI.grow hb im' h1 (fun a u ha=>by
  rw [him] at ha;simp only at ha;by_cases hbk:a.block=w.heap.size
  ·rw [if_pos hbk] at ha;exact ha
  ·rw [if_neg hbk] at ha;exact (hb.cell (z2Z (hI.imw a u ha))).trans (hI.imw a u ha))
 have hext:∀ a u,G.im a=some u→im' a=some u:=fun a u ha=>by rw [h1 a (z2Z (hI.imw a u ha))];exact ha
 refine ⟨⟨im',G.loc⟩,hext,fun _ _=>rfl,hr ⟨im',G.loc⟩ hext rfl (fun j u hu=>?_),by rw [zfc];exact hI2⟩;rw [him];exact (if_pos rfl).trans (hc j u hu)
theorem zlX {p:Prop} (h:p:=by
  have:(Lib.byteCells b.data.toList)[j]? = some (.int .u8 (b.data[j].toNat:Int)):=by simp [Lib.byteCells,Array.getElem?_eq_getElem hj2]
  rw [this] at hu;injection hu with hu;exact hu.symm):p:=h
theorem zku {s d:TypeId} {x:Operand} {c':C} (hI:Inv c G h w) (hρ:Rho G ρ σ) (hc:zce P s d (ρ x)=some c'):∃ v w',(convert s d (σ x)).run P w = .ok v w'∧z15 c G h ⟨.e (.one c'),[],[]⟩ v w':=by
 unfold zce at hc;split at hc
 ·rename_i hs hd;cases hx:str? (ρ x) with
  | none=>rw [hx] at hc;cases hc
  | some b=>
   rw [hx] at hc;simp at hc;subst hc;have hv:=RT_v (hρ x _ (str?_spec hx));exact ⟨.string b,w,by simp [convert,run_underlying hs,run_underlying hd,hv],z15.pure hI (z8E rfl)⟩
 ·rename_i e hs hd;split at hc
  ·rename_i he;cases hx:str? (ρ x) with
   | none=>rw [hx] at hc;cases hc
   | some b=>
    rw [hx] at hc;simp at hc;subst hc;have hv:=RT_v (hρ x _ (str?_spec hx));refine ⟨_,_,by rw [hv];exact run_bytes_of_string w s d e b hs hd he,?_⟩;have hge:=grownCap_ge w b.size 0 e;have hcell:∀ j u,(Lib.byteCells b.data.toList)[j]? = some u→(w.drew.alloc (.cells (bytesRow b (grownCap w b.size 0 e)) e ((bytesRow b (grownCap w b.size 0 e)).size,(bytesRow b (grownCap w b.size 0 e)).size+1))).cell? ⟨w.heap.size,j,none⟩=some u:=by
     intro j u hu;rw [cell_of_row _ w.heap.size j _ e _ (heap_alloc_new w.drew _)];have hj:j<b.size:=by have:=(List.getElem?_eq_some_iff.1 hu).1;simpa [Lib.byteCells] using this
     have hj2:j<b.data.size:=hj;have hu2:u = .int .u8 (b.data[j].toNat:Int):=by
      exact zlX
     subst hu2;simp [bytesRow,Array.getElem?_append,hj2];rw [if_pos hj,Array.getElem?_eq_getElem hj2];rfl
    refine z15.data hI ((Below.refl _ w).drew.alloc (by simp) _) hcell (fun G' h1 h2 h3=>?_);refine RD.row _ b.size _ 1 (Lib.byteCells b.data.toList) (b.data.toList.map zcB) (by simp) (by simp [Lib.byteCells]) (by decide) hge (fun _=>⟨w.heap.size,0,rfl,fun j u hu=>by rw [Nat.zero_add];exact h3 j u hu⟩) (fun j u d hu hd=>?_);rw [List.getElem?_map] at hd;have hj:j<b.data.toList.length:=by have:=(List.getElem?_eq_some_iff.1 hu).1;simpa [Lib.byteCells] using this
    rw [List.getElem?_eq_getElem hj] at hd;simp at hd;subst hd;have hj2:j<b.data.size:=by simpa using hj
    have hu2:u = .int .u8 (b.data[j].toNat:Int):=by
     exact zlX
    subst hu2;exact RD.leaf _ rfl
  ·cases hc
 ·rename_i e hs hd;split at hc
  ·rename_i he;cases hx:rowOf 1 (ρ x) with
   | none=>rw [hx] at hc;cases hc
   | some l=>
    rw [hx] at hc;simp only at hc;cases hbs:bytesOf? l with
    | none=>rw [hbs] at hc;cases hc
    | some bs=>
     rw [hbs] at hc;simp at hc;subst hc;obtain ⟨tx,htx⟩:∃ tx,ρ x=some tx:=by
      cases hxx:ρ x with
      | none=>rw [hxx] at hx;simp [rowOf,row?] at hx
      | some tx=>exact ⟨tx,rfl⟩
     obtain ⟨A,n,cap,us,hv,hl,hnc,hdn,hcn⟩:=z9W (G:=G) (by decide) htx hx (hρ x tx htx);have hreads:=za0 hI hl hdn hcn (by decide);have hl2:=bytesOf?_spec hbs;rw [hl2] at hdn;rw [zjT hdn] at hreads;refine ⟨_,w,by rw [hv];exact z4d hs he hd hreads,z15.pure hI (z8E rfl)⟩
  ·cases hc
 ·rename_i k0 k hs hd;cases hx:int? (ρ x) with
  | none=>rw [hx] at hc;cases hc
  | some kn=>
   obtain ⟨k',n⟩:=kn;rw [hx] at hc;simp at hc;subst hc;have hv:=RT_v (hρ x _ (int?_spec hx));exact ⟨.int k (k.wrap n),w,by simp [convert,run_underlying hs,run_underlying hd,hv,Conv.intToInt],z15.pure hI (z8E rfl)⟩
 ·cases hc
theorem RC.fz {v:Value} {cc:C} {o:Option Nat} (hr:RC G v cc):RC G v (cc.fz o):=by
 cases cc with
 | nilS=>
  have hr:v = .slice none 0 0:=hr;subst hr;cases o with
  | none=>exact RD.leaf _ rfl
  | some s=>
   by_cases hs:0<s
   ·simp only [C.fz,if_pos hs];exact RD.row none 0 0 s [] [] (by simp) rfl hs (Nat.le_refl _) (fun h=>by omega) (fun j u d hu=>by simp at hu)
   ·simp only [C.fz,if_neg hs];rfl
 | gr q s l=>cases o<;>exact hr.1
 | d x=>cases o<;>exact hr
 | ref p off=>cases o<;>exact hr
 | ep l=>cases o<;>exact hr
 | sl p n s=>cases o<;>exact hr
 | dead=>cases o<;>exact hr
theorem RCs.fzs:∀ {zs:List (Option Nat)} {cs:List C} {us:List Value},RCs G us cs→RCs G us (fzs zs cs)
 | zs,[],us,h=>by cases zs<;>exact h
 | [],cc::cs,us,h=>by
  match us,h with
  | [],h=>exact absurd h.1 (by simp)
  | u::us,h=>
   have h1:RC G u cc:=h.2 0 u cc rfl rfl;have h2:RCs G us cs:=⟨by simpa using h.1,fun j u c hu hc=>h.2 (j+1) u c (by simpa using hu) (by simpa using hc)⟩;have h3:=RCs.fzs (zs:=[]) h2;refine ⟨by simp [Am.fzs,h3.1],fun j x y hx hy=>?_⟩;match j with
   | 0=>simp [Am.fzs] at hx hy;subst hx;subst hy;exact h1.fz
   | j+1=>exact h3.2 j x y (by simpa using hx) (by simpa [Am.fzs] using hy)
 | z::zs,cc::cs,us,h=>by
  match us,h with
  | [],h=>exact absurd h.1 (by simp)
  | u::us,h=>
   have h1:RC G u cc:=h.2 0 u cc rfl rfl;have h2:RCs G us cs:=⟨by simpa using h.1,fun j u c hu hc=>h.2 (j+1) u c (by simpa using hu) (by simpa using hc)⟩;have h3:=RCs.fzs (zs:=zs) h2;refine ⟨by simp [Am.fzs,h3.1],fun j x y hx hy=>?_⟩;match j with
   | 0=>simp [Am.fzs] at hx hy;subst hx;subst hy;exact h1.fz
   | j+1=>exact h3.2 j x y (by simpa using hx) (by simpa [Am.fzs] using hy)
theorem RE.fz {v:Value} {x:E} {z:List (Option Nat)} (hr:RE G v x):RE G v (x.fz z):=by
 cases x with
 | one cc=>exact RC.fz hr
 | agg cs=>obtain ⟨us,rfl,h⟩:=hr;exact ⟨us,rfl,h.fzs⟩
theorem zaz:∀ {cs:List C} {us:List Value} {ds:List D},RCs G us cs→dsOf cs=some ds→RDs G.im us ds
 | [],us,ds,h,hd=>by
  simp [dsOf] at hd;subst hd;have:us=[]:=List.eq_nil_of_length_eq_zero h.1;subst this;exact .nil_ _
 | cc::cs,us,ds,h,hd=>by
  match us,h with
  | [],h=>exact absurd h.1 (by simp)
  | u::us,h=>
   have h1:RC G u cc:=h.2 0 u cc rfl rfl;have h2:RCs G us cs:=⟨by simpa using h.1,fun j u c hu hc=>h.2 (j+1) u c (by simpa using hu) (by simpa using hc)⟩;rw [dsOf] at hd;cases cc with
   | d x=>
    simp only [C.d?] at hd;cases hcs:dsOf cs with
    | none=>rw [hcs] at hd;cases hd
    | some ds' =>
     rw [hcs] at hd;simp at hd;subst hd;have h3:=zaz h2 hcs;refine ⟨by simp [h3.1],fun j a b ha hb=>?_⟩;match j with
     | 0=>simp at ha hb;subst ha;subst hb;exact h1
     | j+1=>exact h3.2 j a b (by simpa using ha) (by simpa using hb)
   | _=>cases hd
theorem zfd {s:Nat}:∀ (vs:List Value) (k:Nat) (cells:Array Value),(∀ v∈vs,v.cells.size=s)→cells.size=(k+vs.length)*s →
  Instr.fill (fun i=>some (i*s,s)) cells ((vs.zipIdx k).map fun x=>(x.2,x.1))=some (cells.toList.take (k*s)++vs.flatMap (·.cells.toList)).toArray
 | [],k,cells,_,hs=>by
  simp [Instr.fill];have:cells.toList.take (k*s)=cells.toList:=List.take_of_length_le (by simp at hs ⊢;omega);apply Array.ext';simpa using this.symm
 | v::vs,k,cells,hv,hs=>by
  have h1:=hv v (by simp);have hmul:(k+(v::vs).length)*s=k*s+s+vs.length*s:=by rw [List.length_cons,Nat.add_mul,Nat.add_mul];omega
  rw [List.zipIdx_cons,List.map_cons,zca (place:=fun i=>some (i*s,s)) (i:=k) (off:=k*s) (size:=s) rfl h1 (by rw [hs,hmul];omega)];have hl:v.cells.toList.length=s:=by simpa using h1
  have hk:(cells.toList.take (k*s)).length=k*s:=by simp;rw [hs,hmul];omega
  rw [zfd vs (k+1) _ (fun x hx=>hv x (by simp [hx])) (by simp only [List.size_toArray,List.length_append,List.length_take,List.length_drop,Array.length_toList,h1,hs,hmul];rw [Nat.add_mul,Nat.add_mul];omega)];have e1:((cells.toList.take (k*s)++(v.cells.toList++cells.toList.drop (k*s+v.cells.toList.length))).toArray.toList.take ((k+1)*s))=cells.toList.take (k*s)++v.cells.toList:=by
   show List.take ((k+1)*s) (cells.toList.take (k*s)++(v.cells.toList++_))=_;rw [←List.append_assoc,List.take_append_of_le_length (by rw [List.length_append,hk,hl,Nat.add_mul];omega)];rw [List.take_of_length_le (by rw [List.length_append,hk,hl,Nat.add_mul];omega)]
  rw [e1,List.flatMap_cons,List.append_assoc]
theorem z9x {e:TypeId}:∀ {xs:List (Option E)} {vs:List Value} {l:List D},elems P e xs=some l→vs.length=xs.length→(∀ (j:Nat) (v:Value) (x:E),vs[j]? = some v→xs[j]? = some (some x)→RE G v x) →
  RDs G.im (vs.flatMap (·.cells.toList)) l∧∀ v∈vs,v.cells.size=z0g P e
 | [],vs,l,h,hl,_=>by
  have:vs=[]:=List.eq_nil_of_length_eq_zero hl;subst this;simp [elems] at h;subst h;exact ⟨.nil_ _,by simp⟩
 | none::xs,vs,l,h,_,_=>by simp [elems] at h
 | some x::xs,vs,l,h,hl,hr=>by
  match vs,hl with
  | v::vs,hl=>
   rw [elems] at h;cases hds:(x.fz (slz P 8 e)).ds with
   | none=>rw [hds] at h;cases h
   | some ds=>
    rw [hds] at h;simp only at h;split at h
    ·rename_i hsz;cases hel:elems P e xs with
     | none=>rw [hel] at h;cases h
     | some l' =>
      rw [hel] at h;simp at h;subst h;have hx:=zaz (RE.cells ((hr 0 v x rfl rfl).fz (z:=slz P 8 e))) hds;obtain ⟨h1,h2⟩:=z9x hel (by simpa using hl) (fun j v x hv hx=>hr (j+1) v x (by simpa using hv) (by simpa using hx));refine ⟨by rw [List.flatMap_cons];exact hx.app h1,fun y hy=>?_⟩;rcases List.mem_cons.1 hy with rfl|hy
      ·have:=hx.1;simp at this;omega
      ·exact h2 y hy
    ·cases h
theorem z7s {base:Nat} (hb15:base%16≠15) {t:TypeId} {n:Nat} {ps:Array (Nat×Operand)} {eff:Eff} (hI:Inv c G h w) (hρ:Rho G ρ σ) (hb:z3f P base t n (ps.toList.map fun p=>(p.1,e? (ρ p.2)))=some eff):
  ∃ v w',(Instr.buildSlice t n (ps.map fun (i,x)=>(i,σ x))).run P w = .ok v w'∧z15 c G h eff v w':=by
 unfold z3f at hb;split at hb
 ·rename_i e hu;split at hb
  ·cases hb
  ·rename_i hz;simp only [not_or,Bool.not_eq_false] at hz;obtain ⟨hz,hsmall⟩:=hz;split at hb
   ·rename_i hrange;split at hb
    ·rename_i l hel;injection hb with hb;subst hb;obtain ⟨i,zv,hi,hzv,hsz,hby,hzs,hs0,_⟩:=z6N hz;simp only [List.map_map] at hrange hel;have hlen:ps.toList.length=n:=by have:=congrArg List.length hrange;simpa using this
     obtain ⟨hds,hcs⟩:=z9x (G:=G) (vs:=ps.toList.map fun p=>σ p.2) hel (by simp) (fun j v x hv hx=>by
      rw [List.getElem?_map] at hv hx;cases hp:ps.toList[j]? with
      | none=>rw [hp] at hv;cases hv
      | some p=>
       rw [hp] at hv hx;simp at hv hx;subst hv;exact hρ p.2 _ (e?_spec hx))
     have hparts:(ps.map fun (x:Nat×Operand)=>(x.1,σ x.2)).toList=((ps.toList.map fun p=>σ p.2).zipIdx 0).map fun x=>(x.2,x.1):=by
      apply List.ext_getElem?;intro j;have hj:=congrArg (fun l=>l[j]?) hrange;simp only [List.getElem?_map] at hj;simp only [Array.toList_map,List.getElem?_map,List.getElem?_zipIdx];cases hp:ps.toList[j]? with
      | none=>rfl
      | some p=>
       rw [hp] at hj;have hjn:j<n:=by rw [←hlen];exact (List.getElem?_eq_some_iff.1 hp).1
       rw [List.getElem?_range hjn] at hj;simp at hj;simp [hj]
     have hown:∀ cells:Array Value,cells.toList=(ps.toList.map fun p=>σ p.2).flatMap (·.cells.toList)→cells.size=n*z0g P e→z15 c G h ⟨.e (.one (.gr base (z0g P e) l)),[(base,some (.own e (z0g P e) n))],[base]⟩ (.slice (some ⟨w.heap.size,0,none⟩) n n) (w.alloc (.cells cells e)):=by
      intro cells hc1 hc2;have hn63:n≤maxLen:=by unfold maxLen;have:=Nat.le_mul_of_pos_right n hs0;omega
      refine z15.row hb15 hI ((Below.refl _ w).alloc (Nat.le_refl _) _) ⟨?_,.inr ⟨w.heap.size,n,cells,rfl,Nat.le_refl _,heap_alloc_new w _,Nat.le_refl _,hn63,hc2,?_⟩⟩ hs0 (hc1▸hds)
      ·simpa using hc2
      ·rw [List.take_of_length_le (by simp [hc2])]
     by_cases hn:n=0
     ·subst hn;have hps:ps.toList=[]:=List.eq_nil_of_length_eq_zero hlen;have hps2:ps=#[]:=by apply Array.ext';simpa using hps
      subst hps2;refine ⟨.slice (some ⟨w.heap.size,0,none⟩) 0 0,w.alloc (.cells #[] e),?_,hown #[] (by simp) (by simp)⟩;have er:Array.range 0=#[]:=Array.eq_empty_of_size_eq_zero (by simp);simp [Instr.buildSlice,run_underlying hu,sizeOf,typeInfo,hi,Instr.fill,newRow,er]
     ·have hpos:¬n*i.size=0:=by rw [hsz];exact Nat.ne_of_gt (Nat.mul_pos (Nat.pos_of_ne_zero hn) hs0)
      have hfill:=zfd (s:=z0g P e) (ps.toList.map fun p=>σ p.2) 0 ((Array.range (n*i.size)).map (zv.cells[·%zv.cells.size]!)) hcs (by simp [hsz,hlen]);rw [←hparts] at hfill;simp only [Nat.zero_mul,List.take_zero,List.nil_append] at hfill;rw [←hsz] at hfill;refine ⟨_,_,run_buildSlice w t e n (ps.map fun (x:Nat×Operand)=>(x.1,σ x.2)) _ i zv hu hi hzv (by rw [hsz];exact hsmall) hpos hfill,hown _ (by simp) ?_⟩;have:=hds.1;have hl:((ps.toList.map fun p=>σ p.2).flatMap (·.cells.toList)).length=n*z0g P e:=by
       rw [←hlen];have hgen:∀ vs:List Value,(∀ v∈vs,v.cells.size=z0g P e)→(vs.flatMap (·.cells.toList)).length=vs.length*z0g P e:=by
        intro vs hvs;induction vs with
        | nil=>simp
        | cons v vs ih=>rw [List.flatMap_cons,List.length_append,ih (fun x hx=>hvs x (by simp [hx])),List.length_cons,Nat.add_mul,Nat.one_mul,Nat.add_comm];have:=hvs v (by simp);simp [this]
       have:=hgen _ hcs;simpa using this
      simpa using hl
    ·cases hb
   ·cases hb
 ·cases hb
theorem zg6 {t:TypeId} {a:C} {x:E} {va vx:Value} {eff:Eff} (hI:Inv c G h w) (ha:RC G va a) (hx:RE G vx x) (he:z2X P h t a x=some eff):∃ w',(Instr.storeAt t va vx).run P w = .ok () w'∧z15 c G h eff undef w':=by
 unfold z2X at he;split at he
 ·rename_i p off;split at he
  ·rename_i ty cs hp;split at he
   ·rename_i hb;obtain ⟨h0,hsz,hl⟩:=hb;injection he with he;subst he;obtain ⟨b,us,hloc,hb1,hB,hcs,him⟩:=hI.obj p _ hp;obtain ⟨b',hloc',rfl⟩:=ha;rw [hloc] at hloc';simp at hloc';subst hloc';have hcx:=hx.cells;have hxl:vx.cells.size=x.cells.length:=by have:=hcx.1;simpa using this
    have hul:us.size=cs.length:=by have:=hcs.1;simpa using this
    refine ⟨w.setCells b off vx.cells.toList,by simp [Instr.storeAt,Instr.sureAddr];exact z7q hB (by omega) (by omega) (by omega) hcx.zeV,G,fun _ _ h=>h,fun _ _=>rfl,rfl,?_⟩;have hblk:=Blk.setCells vx.cells.toList off w us hB (by simp;omega);have hheap:hUp ⟨.undef,[(p,some (.var ty (z3Y cs off x.cells)))],[]⟩ h=hSet h (p,some (.var ty (z3Y cs off x.cells))):=by
     funext q
     simp only [hUp,List.foldl_cons,List.foldl_nil,hSet];split
     ·rfl
     ·cases h q<;>simp [O.z0I]
    rw [hheap];have hcell:∀ a u,G.im a=some u→(w.setCells b off vx.cells.toList).cell? a=some u:=by
     intro a u hau;have hne:a.block≠b:=by
      intro e;have hc:=hI.imw a u hau;have hsp:=World.cell?_spot hc;obtain ⟨bl,o,sp⟩:=a;simp only at e hsp;subst e;subst hsp;rw [him o] at hau;cases hau
     exact (World.cell?_of_block (z1f _ _ w a.block hne)).trans (hI.imw a u hau)
    have hbp:G.blk p=some b:=by unfold Gh.blk;rw [hloc]
    have hgb:w.grownBy (w.setCells b off vx.cells.toList) (some b):=⟨(z0X _ _ _).1,(z0X _ _ _).2.1,(z0X _ _ _).2.2,by rw [z2x];exact Nat.le_refl _,fun k _ hk=>z1f _ _ w k (fun e=>hk (by rw [e]))⟩;refine ⟨hI.tb,hI.base,hI.chb,hI.below.grown hgb (fun g e=>by injection e with e;subst e;exact hb1),hcell,hI.imx,hI.imo,hI.pas,hI.glob,fun q o hq=>?_,fun q r o o' bb hq hr hbq hbr=>?_⟩
    ·simp only [hSet] at hq;by_cases hqp:q=p
     ·subst hqp;rw [if_pos rfl] at hq;injection hq with hq;subst hq;refine ⟨b,_,hloc,hb1,hblk,?_,him⟩;simp only [List.toList_toArray];exact hcs.z3Y hcx off
     ·rw [if_neg hqp] at hq;have hr:=hI.obj q o hq;have hnb:∀ bb,G.blk q=some bb→bb≠b:=fun bb hbb e=>hqp (hI.sep q p o _ b hq hp (e▸hbb) hbp)
      cases o with
      | var ty' cs' =>
       obtain ⟨b2,us2,e1,e2,e3,e4,e5⟩:=hr;have:b2≠b:=hnb b2 (by unfold Gh.blk;rw [e1]);exact ⟨b2,us2,e1,e2,(z1f _ _ w b2 this).trans e3,e4,e5⟩
      | own e s n=>
       obtain ⟨v,us2,e1,e2,e3⟩:=hr;refine ⟨v,us2,e1,?_,e3⟩;refine e2.kept (row:=some b) ⟨(z0X _ _ _).1,(z0X _ _ _).2.1,(z0X _ _ _).2.2,by rw [z2x];exact Nat.le_refl _,fun k _ hk=>z1f _ _ w k (fun e=>hk (by rw [e]))⟩ ?_;cases hv:v.ownBlock with
       | none=>exact .inl rfl
       | some g=>exact .inr (fun e=>by injection e with e;exact hnb g (by rw [z64 e2 e1,hv]) e)
    ·simp only [hSet] at hq hr;have hq':∃ o,h q=some o:=by
      by_cases hqp:q=p
      ·subst hqp;exact ⟨_,hp⟩
      ·rw [if_neg hqp] at hq;exact ⟨_,hq⟩
     have hr':∃ o,h r=some o:=by
      by_cases hrp:r=p
      ·subst hrp;exact ⟨_,hp⟩
      ·rw [if_neg hrp] at hr;exact ⟨_,hr⟩
     obtain ⟨o1,h1⟩:=hq';obtain ⟨o2,h2⟩:=hr';exact hI.sep q r o1 o2 bb h1 h2 hbq hbr
   ·cases he
  ·cases he
 ·cases he
theorem zj6 {α:Type} (l:List α):∀ (n j:Nat),j<n*l.length→((List.replicate n l).flatten)[j]? = l[j%l.length]?
 | 0,j,h=>by simp at h
 | n+1,j,h=>by
  rw [List.replicate_succ,List.flatten_cons];rcases Nat.lt_or_ge j l.length with hj|hj
  ·rw [List.getElem?_append_left hj,Nat.mod_eq_of_lt hj]
  ·rw [List.getElem?_append_right hj,zj6 l n (j-l.length) (by rw [Nat.add_mul] at h;omega),←Nat.mod_eq_sub_mod hj]
theorem zhE {base:Nat} (hb15:base%16≠15) {t:TypeId} {n k:Operand} {eff:Eff} (hI:Inv c G h w) (hρ:Rho G ρ σ) (he:zfg P base t (int? (ρ n)) (int? (ρ k))=some eff):
  ∃ v w',(Instr.makeSlice t (σ n) (σ k)).run P w = .ok v w'∧z15 c G h eff v w':=by
 unfold zfg at he;split at he
 ·rename_i e hu;split at he
  ·rename_i kn x kk y z hn hk hz;split at he
   ·rename_i hb;obtain ⟨hzok,rfl,h0,hn1,hbytes⟩:=hb;injection he with he;subst he;obtain ⟨i,zv,hi,hzv,hsz,hby,hzs,hs0,_⟩:=z6N hzok;have hnv:=RT_v (hρ n _ (int?_spec hn));have hkv:=RT_v (hρ k _ (int?_spec hk));have hrun:=run_make (P:=P) w t e i zv hu hi hzv kn kk x x h0 (Int.le_refl _) (by rw [hby];omega) (by omega);rw [hnv,hkv];refine ⟨_,_,hrun,?_⟩;have hI2:=hI.stays ((Below.refl w.heap.size w).alloc (Nat.le_refl _) (.cells (madeCells zv.cells (x.toNat*i.size)) e));have him:∀ off,G.im ⟨w.heap.size,off,none⟩=none:=fun off=>by
     cases hh:G.im ⟨w.heap.size,off,none⟩ with
     | none=>rfl
     | some u=>have:=z2Z (hI.imw _ _ hh);simp at this
    refine ⟨⟨G.im,upd G.loc base (.pointer (some ⟨w.heap.size,0,none⟩))⟩,fun _ _ h=>h,fun p hp=>z5c (by simpa using hp),⟨w.heap.size,z3X,rfl⟩,?_⟩;refine hI2.new (base:=base) hb15 ⟨w.heap.size,_,z3X,.inl hI.below.size,Blk.new _ _ _,?_,him⟩ (fun p o' b hp hh hb=>?_)
    ·obtain ⟨i2,z2,hi2,hz2,_,hre⟩:=z6T (G:=⟨G.im,upd G.loc base (.pointer (some ⟨w.heap.size,0,none⟩))⟩) (w:=w) hz;rw [hi] at hi2;injection hi2 with hi2;subst hi2;rw [hzv] at hz2;injection hz2 with hz2;subst hz2;have hcs:=hre.cells;have hzl:z.cells.length=z0g P e:=by rw [←hcs.1];simpa using hzs
     have hfl:((List.replicate x.toNat z.cells).flatten).length=x.toNat*z.cells.length:=by simp
     refine ⟨by rw [hfl,hzl];simp [size_madeCells,hsz],fun j u cc hu hc=>?_⟩;have hj:j<x.toNat*z.cells.length:=by rw [←hfl];exact (List.getElem?_eq_some_iff.1 hc).1
     rw [zj6 z.cells _ j hj] at hc;have hzp:0<zv.cells.size:=by omega
     have hm:j%zv.cells.size<zv.cells.size:=Nat.mod_lt _ hzp;have hu2:zv.cells.toList[j%z.cells.length]? = some u:=by
      rw [hzl,←hzs];simp only [madeCells,Array.toList_map,List.getElem?_map] at hu;have hj2:j<x.toNat*i.size:=by rw [hsz,←hzl];exact hj
      have hr:(Array.range (x.toNat*i.size)).toList[j]? = some j:=by simp [hj2]
      rw [hr] at hu;simp [hm] at hu;simp [hm];exact hu
     exact hcs.2 _ u cc hu2 hc
    ·have:=(hI.obj p o' hh).zjC b hb;simp only [Gh.blk,z3X];simp;omega
   ·cases he
  ·cases he
 ·cases he
end
end Am
end Go.Proofs.YtgmppconibklcaaGreatDoor

namespace Go.Proofs.YtgmppconibklcaaGreatDoor
open Go Go.RowKit
namespace Am
def z3z (os:List O):Objs:=fun p=>if p%16=15 then os[p / 16]? else none
def resH (ws os:List O):Objs:=fun p=>if p%16=14 then ws[p / 16]? else z3z os p
def locP (lo:Nat→Option Value):Nat→Option Value:=fun p=>if p%16=15 then lo (p / 16) else none
def z7f (c:Ctx) (t:T) (ws os:List O) (e:Ending) (w':World):Prop:=∃ v G',e = .returned v∧RT G' v t∧Inv c G' (resH ws os) w'
def z0S (P:Program) (gl:Nat→Option (List D)) (tb:World→Prop) (g:FuncId) (args:List E) (os:List O) (t:T) (ws os':List O):Prop:=
 ∀ (W0:World) (im:Im) (w:World) (vals:List Value) (ch:Nat→Prop) (lo:Nat→Option Value),Inv ⟨W0,w,im,gl,tb,ch,lo⟩ ⟨im,locP lo⟩ (z3z os) w→REs ⟨im,locP lo⟩ vals args →
  Calls P g vals.toArray w (z7f ⟨W0,w,im,gl,tb,ch,lo⟩ t ws os')
def z1e (P:Program) (gl:Nat→Option (List D)) (tb:World→Prop) (X:z1C):Prop:=∀ g args os t ws os',X g args os=some (t,ws,os')→z0S P gl tb g args os t ws os'
def z14 (P:Program):Prop:=∀ (g:FuncId) (fn:Func),P.funcs[g]? = some fn→(fn.name=="runtime.NumGoroutine")=false
section
variable {P:Program} {w w':World} {G:Gh} {c:Ctx} {h:Objs} {ρ:Operand→Option T} {σ:Operand→Value}
theorem isD_RC {G G':Gh} {v:Value} {cc:C} (hd:cc.isD=true) (hi:∀ a u,G.im a=some u→G'.im a=some u) (hr:RC G v cc):RC G' v cc:=by
 cases cc with
 | d x=>exact RD.mono hr hi
 | _=>cases hd
theorem zdC {G G':Gh} {us:List Value} {cs:List C} (hd:cs.all C.isD=true) (hi:∀ a u,G.im a=some u→G'.im a=some u) (hr:RCs G us cs):RCs G' us cs:=
 ⟨hr.1,fun j u cc hu hc=>isD_RC (List.all_eq_true.1 hd cc (List.mem_of_getElem? hc)) hi (hr.2 j u cc hu hc)⟩
theorem z5f:∀ (cs:List C) (ps:List Nat) (p:Nat),(p∈ps∨∃ n s,C.sl p n s∈cs)→p∈zbh cs ps
 | [],ps,p,h=>by simpa [zbh] using h
 | cc::cs,ps,p,h=>by
  cases cc with
  | sl q m t=>
   simp only [zbh];refine z5f cs _ p ?_;by_cases hq:ps.contains q=true
   ·rw [if_pos hq];rcases h with h|⟨n,s,h⟩
    ·exact .inl h
    ·rcases List.mem_cons.1 h with h|h
     ·injection h with h1 h2 h3;subst h1;exact .inl (by simpa using hq)
     ·exact .inr ⟨n,s,h⟩
   ·rw [if_neg hq];rcases h with h|⟨n,s,h⟩
    ·exact .inl (by simp [h])
    ·rcases List.mem_cons.1 h with h|h
     ·injection h with h1 h2 h3;subst h1;exact .inl (by simp)
     ·exact .inr ⟨n,s,h⟩
  | _=>
   simp only [zbh];refine z5f cs _ p ?_;rcases h with h|⟨n,s,h⟩
   ·exact .inl h
   ·rcases List.mem_cons.1 h with h|h
    ·cases h
    ·exact .inr ⟨n,s,h⟩
theorem z2K:∀ (xs:List (Option E)) (ps:List Nat) (p:Nat),(p∈ps∨∃ x n s,some x∈xs∧C.sl p n s∈x.cells)→p∈z16 xs ps
 | [],ps,p,h=>by
  rcases h with h|⟨x,n,s,h,_⟩
  ·exact h
  ·cases h
 | none::xs,ps,p,h=>by
  rw [z16];refine z2K xs ps p ?_;rcases h with h|⟨x,n,s,h,h2⟩
  ·exact .inl h
  ·rcases List.mem_cons.1 h with h|h
   ·cases h
   ·exact .inr ⟨x,n,s,h,h2⟩
 | some y::xs,ps,p,h=>by
  rw [z16];refine z2K xs _ p ?_;rcases h with h|⟨x,n,s,h,h2⟩
  ·exact .inl (z5f _ _ _ (.inl h))
  ·rcases List.mem_cons.1 h with h|h
   ·injection h with h;subst h;exact .inl (z5f _ _ _ (.inr ⟨n,s,h2⟩))
   ·exact .inr ⟨x,n,s,h,h2⟩
theorem Inv.settle (hI:Inv c G h w) (zs:List Nat):∃ im':Im,(∀ a u,G.im a=some u→im' a=some u)∧Inv c ⟨im',G.loc⟩ (fun p=>if p∈zs then none else h p) w ∧
  ∀ p ty cs b us,p∈zs→h p=some (.var ty cs)→G.loc p=some (.pointer (some ⟨b,0,none⟩))→Blk w b ty us→∀ j u,us[j]? = some u→im' ⟨b,j,none⟩=some u:=by
 let cond:Addr→Prop:=fun a=>∃ p ty cs,p∈zs∧h p=some (.var ty cs)∧G.blk p=some a.block
 obtain ⟨im',him⟩:∃ im':Im,∀ a,(cond a→im' a=w.cell? a)∧(¬cond a→im' a=G.im a):=by
  refine ⟨fun a=>@ite _ (cond a) (Classical.propDecidable _) (w.cell? a) (G.im a),fun a=>⟨fun h=>if_pos h,fun h=>if_neg h⟩⟩
 have hext:∀ a u,G.im a=some u→im' a=some u:=fun a u ha=>by
  by_cases hc:cond a
  ·rw [(him a).1 hc];exact hI.imw a u ha
  ·rw [(him a).2 hc];exact ha
 refine ⟨im',hext,⟨hI.tb,hI.base,hI.chb,hI.below,fun a u ha=>?_,fun a u ha=>hext _ _ (hI.imx a u ha),fun a ha hn=>?_,hI.pas,fun g l hg=>RC.mono (hI.glob g l hg) hext rfl,fun p o hp=>?_,fun p q o o' b hp hq=>?_⟩,fun p ty cs b us hz hp hl hB j u hu=>?_⟩
 ·have ha:im' a=some u:=ha;by_cases hc:cond a
  ·rw [(him a).1 hc] at ha;exact ha
  ·rw [(him a).2 hc] at ha;exact hI.imw a u ha
 ·have hc:¬cond a:=by
   rintro ⟨p,ty,cs,_,hp,hb⟩;rcases ((hI.obj p _ hp).z5K hb).1 with h1|h1
   ·omega
   ·exact hn h1
  show im' a=c.im1 a;rw [(him a).2 hc];exact hI.imo a ha hn
 ·split at hp
  ·cases hp
  ·rename_i hz;have hr:=hI.obj p o hp;have hnc:∀ a:Addr,G.blk p=some a.block→¬cond a:=by
    rintro a hb ⟨q,ty,cs,hq,hhq,hbq⟩;have:=hI.sep p q o _ a.block hp hhq hb hbq;exact hz (this▸hq)
   cases o with
   | var ty cs=>
    obtain ⟨b,us,e1,e2,e3,e4,e5⟩:=hr;exact ⟨b,us,e1,e2,e3,e4.mono hext rfl,fun off=>by
     show im' ⟨b,off,none⟩=none;rw [(him _).2 (hnc ⟨b,off,none⟩ (by unfold Gh.blk;rw [e1]))];exact e5 off⟩
   | own e s n=>
    obtain ⟨v,us,e1,e2,e3⟩:=hr;exact ⟨v,us,e1,e2,fun g hg off u hu=>e3 g hg off u (by
     rw [←(him _).2 (hnc ⟨g,off,none⟩ (by rw [z64 e2 e1];exact hg))];exact hu)⟩
 ·split at hp
  ·cases hp
  ·split at hq
   ·cases hq
   ·exact hI.sep p q o o' b hp hq
 ·rw [(him _).1 ⟨p,ty,cs,hz,hp,by unfold Gh.blk;rw [hl]⟩,hB.cell,hu]
theorem zd1 {v:Value} {cc:C} {zs:List Nat} {im':Im} (hI:Inv c G h w) (hext:∀ a u,G.im a=some u→im' a=some u)
  (hz:∀ p ty cs b us,p∈zs→h p=some (.var ty cs)→G.loc p=some (.pointer (some ⟨b,0,none⟩))→Blk w b ty us→∀ j u,us[j]? = some u→im' ⟨b,j,none⟩=some u) (hmem:∀ p n s,cc = .sl p n s→p∈zs) (hr:RC G v cc):RC ⟨im',G.loc⟩ v (setC h cc):=by
 have same:RC ⟨im',G.loc⟩ v cc:=RC.mono hr hext rfl;cases cc with
 | sl p n s=>
  simp only [setC];split
  ·rename_i ty cs hp;split
   ·rename_i l hl;split
    ·rename_i hb;obtain ⟨b,us,e1,_,hB,hcs,_⟩:=hI.obj p _ hp;obtain ⟨b',e2,rfl⟩:=hr;rw [e1] at e2;simp at e2;subst e2;have hds:=(zaz hcs hl).mono hext;refine RD.row _ n n s us.toList l hb.1 hds.1 hb.2 (Nat.le_refl _) (fun _=>⟨b,0,rfl,fun j u hu=>?_⟩) hds.2;rw [Nat.zero_add];exact hz p ty cs b us (hmem p n s rfl) hp e1 hB j u (by rw [←Array.getElem?_toList];exact hu)
    ·exact same
   ·exact same
  ·exact same
 | _=>exact same
theorem zd0 {v:Value} {x:E} {zs:List Nat} {im':Im} (hI:Inv c G h w) (hext:∀ a u,G.im a=some u→im' a=some u)
  (hz:∀ p ty cs b us,p∈zs→h p=some (.var ty cs)→G.loc p=some (.pointer (some ⟨b,0,none⟩))→Blk w b ty us→∀ j u,us[j]? = some u→im' ⟨b,j,none⟩=some u) (hmem:∀ p n s,C.sl p n s∈x.cells→p∈zs) (hr:RE G v x):RE ⟨im',G.loc⟩ v (setE h x):=by
 cases x with
 | one cc=>exact zd1 hI hext hz (fun p n s e=>hmem p n s (by simp [E.cells,e])) hr
 | agg cs=>
  obtain ⟨us,rfl,h1,h2⟩:=hr;refine ⟨us,rfl,by simp [h1],fun j u cc hu hc=>?_⟩;rw [List.getElem?_map] at hc;cases hcj:cs[j]? with
  | none=>rw [hcj] at hc;cases hc
  | some c0=>
   rw [hcj] at hc;simp at hc;subst hc;exact zd1 hI hext hz (fun p n s e=>hmem p n s (by subst e;exact List.mem_of_getElem? hcj)) (h2 j u c0 hu hcj)
theorem zfa:∀ (ps:List Nat) (p i k:Nat),idx p ps i=some k→i≤k∧ps[k-i]? = some p
 | [],p,i,k,h=>by simp [idx] at h
 | q::qs,p,i,k,h=>by
  simp only [idx] at h;split at h
  ·rename_i e;injection h with h;subst h;subst e;exact ⟨Nat.le_refl _,by simp⟩
  ·obtain ⟨h1,h2⟩:=zfa qs p (i+1) k h;exact ⟨by omega,by rw [show k-i=(k-(i+1))+1 by omega,List.getElem?_cons_succ];exact h2⟩
theorem ziP (lo:Nat→Option Value) (i:Nat):locP lo (i*16+15)=lo i:=by
 unfold locP;rw [if_pos (by omega),show (i*16+15) / 16=i by omega]
theorem zeQ {v:Value} {cc cc':C} {ps:List Nat} (hp:zbH ps cc=some cc') (hr:RC G v cc):RC ⟨G.im,locP fun i=>(ps[i]?).bind G.loc⟩ v cc':=by
 cases cc with
 | d x=>simp [zbH] at hp;subst hp;exact hr
 | ref p off=>
  simp only [zbH] at hp;cases hi:idx p ps 0 with
  | none=>rw [hi] at hp;cases hp
  | some i=>
   rw [hi] at hp;simp at hp;subst hp;have:=(zfa ps p 0 i hi).2;rw [Nat.sub_zero] at this;obtain ⟨b,h1,h2⟩:=hr;exact ⟨b,by
    show locP (fun i=>(ps[i]?).bind G.loc) (i*16+15)=_;rw [ziP];show (ps[i]?).bind G.loc=_;rw [this];exact h1,h2⟩
 | _=>cases hp
theorem z98 {ps:List Nat}:∀ {cs cs':List C} {us:List Value},z6w ps cs=some cs'→RCs G us cs→RCs ⟨G.im,locP fun i=>(ps[i]?).bind G.loc⟩ us cs'
 | [],cs',us,h,hr=>by
  simp [z6w] at h;subst h;have:us=[]:=List.eq_nil_of_length_eq_zero hr.1;subst this;exact .nil_
 | cc::cs,cs',us,h,hr=>by
  rw [z6w] at h;cases hc:zbH ps cc with
  | none=>rw [hc] at h;cases h
  | some c1=>
   rw [hc] at h;simp only at h;cases hcs:z6w ps cs with
   | none=>rw [hcs] at h;cases h
   | some cs1=>
    rw [hcs] at h;simp at h;subst h;match us,hr with
    | [],hr=>exact absurd hr.1 (by simp)
    | u::us,hr=>
     have r1:RC G u cc:=hr.2 0 u cc rfl rfl;have r2:RCs G us cs:=⟨by simpa using hr.1,fun j u c hu hc=>hr.2 (j+1) u c (by simpa using hu) (by simpa using hc)⟩;have a1:=zeQ hc r1;have a2:=z98 hcs r2;refine ⟨by simp [a2.1],fun j x y hx hy=>?_⟩;match j with
     | 0=>simp at hx hy;subst hx;subst hy;exact a1
     | j+1=>exact a2.2 j x y (by simpa using hx) (by simpa using hy)
theorem zkL {v:Value} {x y:E} {ps:List Nat} (hp:zgr ps x=some y) (hr:RE G v x):RE ⟨G.im,locP fun i=>(ps[i]?).bind G.loc⟩ v y:=by
 cases x with
 | one cc=>
  simp only [zgr] at hp;cases hc:zbH ps cc with
  | none=>rw [hc] at hp;cases hp
  | some c1=>rw [hc] at hp;simp at hp;subst hp;exact zeQ hc hr
 | agg cs=>
  simp only [zgr] at hp;cases hc:z6w ps cs with
  | none=>rw [hc] at hp;cases hp
  | some c1=>
   rw [hc] at hp;simp at hp;subst hp;obtain ⟨us,rfl,hr⟩:=hr;exact ⟨us,rfl,z98 hc hr⟩
theorem z4X {ps:List Nat}:∀ {ts:List TypeId} {xs:List (Option E)} {ys:List E} {vs:List Value},z23 P ps ts xs=some ys→vs.length=xs.length→(∀ (j:Nat) (v:Value) (x:E),vs[j]? = some v→xs[j]? = some (some x)→RE G v x)→REs ⟨G.im,locP fun i=>(ps[i]?).bind G.loc⟩ vs ys
 | [],[],ys,vs,h,hl,_=>by
  simp [z23] at h;subst h;have:vs=[]:=List.eq_nil_of_length_eq_zero hl;subst this;exact ⟨rfl,fun j u x hu=>by simp at hu⟩
 | t::ts,[],ys,vs,h,_,_=>by simp [z23] at h
 | [],some x::xs,ys,vs,h,_,_=>by simp [z23] at h
 | [],none::xs,ys,vs,h,_,_=>by simp [z23] at h
 | t::ts,none::xs,ys,vs,h,_,_=>by simp [z23] at h
 | t::ts,some x::xs,ys,vs,h,hl,hr=>by
  match vs,hl with
  | v::vs,hl=>
   rw [z23] at h;cases hd:zgr ps (x.fz (slz P 8 t)) with
   | none=>rw [hd] at h;cases h
   | some y=>
    rw [hd] at h;simp only at h;cases hf:z23 P ps ts xs with
    | none=>rw [hf] at h;cases h
    | some ys' =>
     rw [hf] at h;simp at h;subst h;have h1:=z4X hf (by simpa using hl) (fun j v x hv hx=>hr (j+1) v x (by simpa using hv) (by simpa using hx));refine ⟨by simp [h1.1],fun j u y' hu hy=>?_⟩;match j with
     | 0=>simp at hu hy;subst hu;subst hy;exact zkL hd (hr 0 v x rfl rfl).fz
     | j+1=>exact h1.2 j u y' (by simpa using hu) (by simpa using hy)
theorem z4S:∀ {ps:List Nat} {os:List O},z1k P h ps=some os→os.length=ps.length∧∀ (i p:Nat) (o:O),ps[i]? = some p→os[i]? = some o→∃ ty cs,h p=some (.var ty cs)∧o = .var ty (fzs (slz P 8 ty) cs)∧(fzs (slz P 8 ty) cs).all C.isD=true
 | [],os,h=>by
  simp [z1k] at h;subst h;exact ⟨rfl,fun i p o hp=>by simp at hp⟩
 | p::ps,os,hh=>by
  rw [z1k] at hh;cases hb:(h p).bind (zdi P) with
  | none=>rw [hb] at hh;cases hh
  | some o1=>
   rw [hb] at hh;simp only at hh;cases hr:z1k P h ps with
   | none=>rw [hr] at hh;cases hh
   | some os1=>
    rw [hr] at hh;simp at hh;subst hh;obtain ⟨h1,h2⟩:=z4S hr;refine ⟨by simp [h1],fun i q o hq ho=>?_⟩;cases i with
    | zero=>
     simp at hq ho;subst hq;subst ho;cases hp:h p with
     | none=>rw [hp] at hb;cases hb
     | some o0=>
      rw [hp] at hb;simp only [Option.bind_some] at hb;cases o0 with
      | own e s n=>cases hb
      | var ty cs=>
       simp only [zdi] at hb;split at hb
       ·rename_i hall;injection hb with hb;exact ⟨ty,cs,rfl,hb.symm,hall⟩
       ·cases hb
    | succ i=>exact h2 i q o (by simpa using hq) (by simpa using ho)
theorem zeP {os:List O} {p:Nat} {o:O} (hp:z3z os p=some o):p%16=15∧os[p / 16]? = some o:=by
 unfold z3z at hp;split at hp
 ·rename_i h15;exact ⟨h15,hp⟩
 ·cases hp
def chOf (G:Gh) (ps:List Nat):Nat→Prop:=fun b=>∃ p,p∈ps∧G.blk p=some b
theorem Inv.callee (hI:Inv c G h w) {ps:List Nat} {os:List O} (hnd:ps.Nodup) (hos:z1k P h ps=some os):
  Inv ⟨c.W0,w,G.im,c.gl,c.tb,chOf G ps,fun i=>(ps[i]?).bind G.loc⟩ ⟨G.im,locP fun i=>(ps[i]?).bind G.loc⟩ (z3z os) w:=by
 obtain ⟨hlen,hspec⟩:=z4S hos;have at_:∀ p o,z3z os p=some o→∃ q ty cs,ps[p / 16]? = some q∧q∈ps∧p%16=15∧h q=some (.var ty cs)∧o = .var ty (fzs (slz P 8 ty) cs)∧(fzs (slz P 8 ty) cs).all C.isD=true∧locP (fun i=>(ps[i]?).bind G.loc) p=G.loc q:=by
  intro p o hp;obtain ⟨h15,ho⟩:=zeP hp;have hlt:p / 16<ps.length:=by rw [←hlen];exact (List.getElem?_eq_some_iff.1 ho).1
  have hq:=List.getElem?_eq_getElem hlt;obtain ⟨ty,cs,h1,h2,h3⟩:=hspec _ _ o hq ho;exact ⟨_,ty,cs,hq,List.getElem_mem hlt,h15,h1,h2,h3,by
   unfold locP;rw [if_pos h15];show (ps[p / 16]?).bind G.loc=_;rw [hq];rfl⟩
 have inos:∀ p,p∈ps→∃ ty cs,h p=some (.var ty cs):=by
  intro p hp;obtain ⟨i,hi,rfl⟩:=List.getElem_of_mem hp;have hi2:i<os.length:=by rw [hlen];exact hi
  obtain ⟨ty,cs,h1,_⟩:=hspec i _ os[i] (List.getElem?_eq_getElem hi) (List.getElem?_eq_getElem hi2);exact ⟨ty,cs,h1⟩
 refine ⟨hI.tb,hI.old,fun k hk=>?_,Only.refl _ _,hI.imw,fun _ _ h=>h,fun _ _ _=>rfl,fun i=>ziP (fun i=>(ps[i]?).bind G.loc) i,fun g l hg=>?_,fun p o hp=>?_,fun p q o o' b hp hq hbp hbq=>?_⟩
 ·obtain ⟨p,hp,hb⟩:=hk;obtain ⟨ty,cs,h1⟩:=inos p hp;have h2:=(hI.obj p _ h1).z5K hb;refine ⟨?_,h2.2⟩;rcases h2.1 with h3|h3
  ·exact Nat.le_trans hI.base.size h3
  ·exact (hI.chb _ h3).1
 ·obtain ⟨g',o',h1,h2⟩:=hI.glob g l hg;exact ⟨g',o',h1,h2⟩
 ·obtain ⟨q,ty,cs,hq,hqm,h15,h1,rfl,hall,hloc⟩:=at_ p o hp;obtain ⟨b,us,e1,e2,e3,e4,e5⟩:=hI.obj q _ h1;refine ⟨b,us,hloc.trans e1,.inr ⟨q,hqm,by unfold Gh.blk;rw [e1]⟩,e3,?_,e5⟩;exact zdC (G:=⟨G.im,G.loc⟩) hall (fun _ _ h=>h) (RCs.fzs (G:=⟨G.im,G.loc⟩) e4)
 ·obtain ⟨q1,ty1,cs1,a1,_,a2,a3,_,_,a4⟩:=at_ p o hp;obtain ⟨q2,ty2,cs2,b1,_,b2,b3,_,_,b4⟩:=at_ q o' hq;have hb1:G.blk q1=some b:=by unfold Gh.blk at hbp ⊢;rw [←a4];exact hbp
  have hb2:G.blk q2=some b:=by unfold Gh.blk at hbq ⊢;rw [←b4];exact hbq
  have hqq:=hI.sep q1 q2 _ _ b a3 b3 hb1 hb2;subst hqq;have h1:=(List.getElem?_eq_some_iff.1 a1).1;have h2:=(List.getElem?_eq_some_iff.1 b1).1;have e1:=(List.getElem?_eq_some_iff.1 a1).2;have e2:=(List.getElem?_eq_some_iff.1 b1).2;have hp2:=List.pairwise_iff_getElem.1 hnd;have:p / 16=q / 16:=by
   rcases Nat.lt_trichotomy (p / 16) (q / 16) with hlt|heq|hgt
   ·exact absurd (e1.trans e2.symm) (hp2 _ _ h1 h2 hlt)
   ·exact heq
   ·exact absurd (e2.trans e1.symm) (hp2 _ _ h2 h1 hgt)
  omega
theorem z4f:∀ (cs:List C) (ps:List Nat),ps.Nodup→(refsOf cs ps).Nodup
 | [],ps,h=>h
 | cc::cs,ps,h=>by
  cases cc with
  | ref p off=>
   simp only [refsOf];refine z4f cs _ ?_;by_cases hp:ps.contains p=true
   ·rw [if_pos hp];exact h
   ·rw [if_neg hp];have hp':p∉ps:=by simpa using hp
    exact List.nodup_append.2 ⟨h,by simp,fun a ha b hb=>by simp at hb;subst hb;exact fun e=>hp' (e▸ha)⟩
  | _=>simp only [refsOf];exact z4f cs _ h
theorem z3b:∀ (xs:List (Option E)) (ps:List Nat),ps.Nodup→(z0R xs ps).Nodup
 | [],ps,h=>h
 | none::xs,ps,h=>by rw [z0R];exact z3b xs ps h
 | some x::xs,ps,h=>by rw [z0R];exact z3b xs _ (z4f _ _ h)
theorem z4x:∀ (os:List O) (base i:Nat) (h:Objs) (p:Nat),(named base i os).foldl hSet h p=if base+1+i≤p∧p<base+1+i+os.length then os[p-(base+1+i)]? else h p
 | [],base,i,h,p=>by
  show h p=_;rw [if_neg (by intro hh;simp at hh;omega)]
 | o::os,base,i,h,p=>by
  rw [named,List.foldl_cons,z4x os base (i+1)];simp only [List.length_cons];by_cases h1:base+1+(i+1)≤p∧p<base+1+(i+1)+os.length
  ·rw [if_pos h1,if_pos (by omega),show p-(base+1+i)=(p-(base+1+(i+1)))+1 by omega,List.getElem?_cons_succ]
  ·rw [if_neg h1];unfold hSet;by_cases h2:p=base+1+i
   ·subst h2;rw [if_pos rfl,if_pos (by omega),Nat.sub_self];rfl
   ·simp only;rw [if_neg h2,if_neg (by omega)]
theorem z7M:∀ (os:List O) (base i p:Nat),p∈(named base i os).map (·.1)↔base+1+i≤p∧p<base+1+i+os.length
 | [],base,i,p=>by simp [named]
 | o::os,base,i,p=>by
  rw [named,List.map_cons,List.mem_cons,z7M os base (i+1)];simp only [List.length_cons];omega
theorem z6l:∀ (ps:List Nat) (os:List O) (h:Objs),ps.Nodup→os.length=ps.length→(∀ (i p:Nat),ps[i]? = some p→(z4u ps os).foldl hSet h p=os[i]?)∧∀ (p:Nat),p∉ps→(z4u ps os).foldl hSet h p=h p
 | [],[],h,_,_=>⟨fun i p hp=>by simp at hp,fun p _=>rfl⟩
 | [],o::os,h,_,hl=>by simp at hl
 | q::ps,[],h,_,hl=>by simp at hl
 | q::ps,o::os,h,hn,hl=>by
  obtain ⟨hq,hn⟩:=List.nodup_cons.1 hn;obtain ⟨h1,h2⟩:=z6l ps os (hSet h (q,some o)) hn (by simpa using hl);refine ⟨fun i p hp=>?_,fun p hp=>?_⟩
  ·cases i with
   | zero=>
    simp at hp;subst hp;rw [z4u,List.foldl_cons,h2 q hq];unfold hSet;simp
   | succ i=>rw [z4u,List.foldl_cons];exact h1 i p (by simpa using hp)
  ·simp at hp;rw [z4u,List.foldl_cons,h2 p hp.2];unfold hSet;simp [hp.1]
theorem z9h:∀ (zs:List Nat) (h:Objs) (p:Nat),(zs.map fun z=>(z,(none:Option O))).foldl hSet h p=if p∈zs then none else h p
 | [],h,p=>by simp
 | z::zs,h,p=>by
  rw [List.map_cons,List.foldl_cons,z9h zs];unfold hSet;by_cases h1:p∈zs
  ·simp [h1]
  ·by_cases h2:p=z
   ·simp [h1,h2]
   ·simp [h1,h2]
theorem z5X:∀ {os os':List O},z38 os os'=true→os'.length=os.length
 | [],[],_=>rfl
 | [],o::os,h=>by simp [z38] at h
 | o::os,[],h=>by simp [z38] at h
 | .var t _::os,.var u _::os',h=>by
  simp [z38] at h;simp [z5X h.2]
 | .own _ _ _::os,o'::os',h=>by simp [z38] at h
 | .var _ _::os,.own _ _ _::os',h=>by simp [z38] at h
def z1J (loc loc':Nat→Option Value) (base n:Nat):Nat→Option Value:=fun p=>if base+1≤p∧p<base+1+n then loc' ((p-(base+1))*16+14) else loc p
theorem RC.ren {G G':Gh} {v:Value} {cc:C} {base n:Nat} (hos:cc.z2y n=true) (hr:RC G' v cc):RC ⟨G'.im,z1J G.loc G'.loc base n⟩ v (cc.ren base):=by
 cases cc with
 | gr q s l=>
  simp [C.z2y] at hos;obtain ⟨h1,h2⟩:=hos;refine ⟨hr.1,?_⟩;show z1J _ _ _ _ _=_;unfold z1J;rw [if_pos (by omega)];have:(base+1+q / 16-(base+1))*16+14=q:=by omega
  rw [this];exact hr.2
 | d x=>exact hr
 | nilS=>exact hr
 | dead=>exact hr
 | _=>cases hos
theorem RE.ren {G G':Gh} {v:Value} {x:E} {base n:Nat} (hos:x.z2y n=true) (hr:RE G' v x):RE ⟨G'.im,z1J G.loc G'.loc base n⟩ v (x.ren base):=by
 cases x with
 | one cc=>exact RC.ren (by simpa [E.z2y,E.cells] using hos) hr
 | agg cs=>
  obtain ⟨us,rfl,h1,h2⟩:=hr;refine ⟨us,rfl,by simp [h1],fun j u cc hu hc=>?_⟩;rw [List.getElem?_map] at hc;cases hcj:cs[j]? with
  | none=>rw [hcj] at hc;cases hc
  | some c0=>
   rw [hcj] at hc;simp at hc;subst hc;exact RC.ren (List.all_eq_true.1 hos c0 (List.mem_of_getElem? hcj)) (h2 j u c0 hu hcj)
theorem RT.ren {G G':Gh} {v:Value} {t:T} {base n:Nat} (hos:t.z2y n=true) (hr:RT G' v t):RT ⟨G'.im,z1J G.loc G'.loc base n⟩ v (t.ren base):=by
 cases t with
 | e x=>exact RE.ren hos hr
 | tup xs=>
  obtain ⟨vs,rfl,h1,h2⟩:=hr;refine ⟨vs,rfl,by simp [h1],fun j u x hu hx=>?_⟩;rw [List.getElem?_map] at hx;cases hxj:xs[j]? with
  | none=>rw [hxj] at hx;cases hx
  | some x0=>
   rw [hxj] at hx;simp at hx;subst hx;exact RE.ren (List.all_eq_true.1 hos x0 (List.mem_of_getElem? hxj)) (h2 j u x0 hu hxj)
 | undef=>cases hos
theorem z9X (ws os:List O) (i:Nat):resH ws os (i*16+14)=ws[i]? := by
 unfold resH;rw [if_pos (by omega),show (i*16+14) / 16=i by omega]
theorem zhN (ws os:List O) (i:Nat):resH ws os (i*16+15)=os[i]? := by
 unfold resH z3z;rw [if_neg (by omega),if_pos (by omega),show (i*16+15) / 16=i by omega]
theorem Inv.call {v:Value} {t:T} {ws os os':List O} {ps zs:List Nat} {base:Nat} {G':Gh} (hI:Inv c G h w) (hnd:ps.Nodup) (hos:z1k P h ps=some os) (hlen:os'.length=os.length) (hb16:base%16=0) (hw:ws.length<14)
  (hws:ws.all O.zc3=true) (hpl:os'.all O.plain=true) (ht:t.z2y ws.length=true) (hr:RT G' v t) (hI':Inv ⟨c.W0,w,G.im,c.gl,c.tb,chOf G ps,fun i=>(ps[i]?).bind G.loc⟩ G' (resH ws os') w'):
  z15 c G h ⟨t.ren base,z4u ps os'++named base 0 ws,zs++(named base 0 ws).map (·.1)⟩ v w':=by
 have hext:∀ a u,G.im a=some u→G'.im a=some u:=hI'.imx;have hb:Only (chOf G ps) w w':=hI'.below;have hsz:=hI.below.size;obtain ⟨hol,hspec⟩:=z4S hos;have hlen2:os'.length=ps.length:=hlen.trans hol;have inos:∀ p,p∈ps→∃ ty cs,h p=some (.var ty cs):=by
  intro p hp;obtain ⟨i,hi,rfl⟩:=List.getElem_of_mem hp;obtain ⟨ty,cs,h1,_⟩:=hspec i _ (os[i]'(by omega)) (List.getElem?_eq_getElem hi) (List.getElem?_eq_getElem (by omega));exact ⟨ty,cs,h1⟩
 have hnames:∀ p,p∈(named base 0 ws).map (·.1)↔base+1≤p∧p<base+1+ws.length:=fun p=>by have:=z7M ws base 0 p;simpa using this
 have hloc:∀ p,p∉zs++(named base 0 ws).map (·.1)→z1J G.loc G'.loc base ws.length p=G.loc p:=fun p hp=>by
  unfold z1J;rw [if_neg];exact fun hh=>hp (List.mem_append_right _ ((hnames p).2 hh))
 refine ⟨⟨G'.im,z1J G.loc G'.loc base ws.length⟩,hext,hloc,RT.ren ht hr,?_⟩
 let ks:=zs++(named base 0 ws).map (·.1)
 have hup1:∀ p,base+1≤p∧p<base+1+ws.length→hUp ⟨t.ren base,z4u ps os'++named base 0 ws,zs++(named base 0 ws).map (·.1)⟩ h p=ws[p-(base+1)]? := fun p hp=>by
  unfold hUp;rw [List.foldl_append,z4x,Nat.add_zero,if_pos hp]
 have hup2:∀ (p i:Nat),¬(base+1≤p∧p<base+1+ws.length)→ps[i]? = some p→hUp ⟨t.ren base,z4u ps os'++named base 0 ws,zs++(named base 0 ws).map (·.1)⟩ h p=os'[i]? := fun p i hp hq=>by
  unfold hUp;rw [List.foldl_append,z4x,Nat.add_zero,if_neg hp];exact (z6l ps os' _ hnd hlen2).1 i p hq
 have hup3:∀ p,¬(base+1≤p∧p<base+1+ws.length)→p∉ps→hUp ⟨t.ren base,z4u ps os'++named base 0 ws,zs++(named base 0 ws).map (·.1)⟩ h p=(h p).map (O.kill (zs++(named base 0 ws).map (·.1))):=fun p hp hq=>by
  unfold hUp;rw [List.foldl_append,z4x,Nat.add_zero,if_neg hp];exact (z6l ps os' _ hnd hlen2).2 p hq
 have hblkn:∀ p,base+1≤p∧p<base+1+ws.length→(⟨G'.im,z1J G.loc G'.loc base ws.length⟩:Gh).blk p=G'.blk ((p-(base+1))*16+14):=fun p hp=>by
  simp only [Gh.blk,z1J,if_pos hp]
 have hlo:∀ p,¬(base+1≤p∧p<base+1+ws.length)→z1J G.loc G'.loc base ws.length p=G.loc p:=fun p hp=>by unfold z1J;rw [if_neg hp]
 have hblko:∀ p,¬(base+1≤p∧p<base+1+ws.length)→(⟨G'.im,z1J G.loc G'.loc base ws.length⟩:Gh).blk p=G.blk p:=fun p hp=>by
  simp only [Gh.blk,z1J,if_neg hp]
 have hobjn:∀ p o,base+1≤p∧p<base+1+ws.length→ws[p-(base+1)]? = some o→RO ⟨c.W0,w,G.im,c.gl,c.tb,chOf G ps,fun i=>(ps[i]?).bind G.loc⟩ G' w' ((p-(base+1))*16+14) o:=fun p o hp ho=>hI'.obj _ o (by rw [z9X];exact ho)
 have hpasl:∀ (i p:Nat),ps[i]? = some p→G'.loc (i*16+15)=G.loc p:=fun i p hp=>by
  rw [hI'.pas i];show (ps[i]?).bind G.loc=_;rw [hp];rfl
 have hpasb:∀ (i p:Nat),ps[i]? = some p→G'.blk (i*16+15)=G.blk p:=fun i p hp=>by unfold Gh.blk;rw [hpasl i p hp]
 have hold:∀ p o b,p∉ps→h p=some o→G.blk p=some b→b<w.heap.size∧¬chOf G ps b:=fun p o b hp ho hbp=>by
  refine ⟨((hI.obj p o ho).z5K hbp).2,?_⟩;rintro ⟨q,hq,hbq⟩;obtain ⟨ty,cs,h1⟩:=inos q hq;have:=hI.sep p q o _ b ho h1 hbp hbq;exact hp (this▸hq)
 have hmemi:∀ p,p∈ps→∃ i:Nat,ps[i]? = some p:=fun p hp=>by
  obtain ⟨i,hi,e⟩:=List.getElem_of_mem hp;exact ⟨i,by rw [List.getElem?_eq_getElem hi,e]⟩
 /- an own row of the call's: new -/
 have hown:∀ p o b,base+1≤p∧p<base+1+ws.length→ws[p-(base+1)]? = some o→G'.blk ((p-(base+1))*16+14)=some b→w.heap.size≤b:=fun p o b hp ho hbp=>by
  have hro:=hobjn p o hp ho;cases o with
  | var ty cs=>have:=List.all_eq_true.1 hws _ (List.mem_of_getElem? ho);cases this
  | own e s n=>
   obtain ⟨v1,us,e1,e2,e3⟩:=hro;rw [z64 e2 e1] at hbp;exact (e2.lt b hbp).1
 /- which object bears a name, and where its block lies -/
 have hwhere:∀ p o b,hUp ⟨t.ren base,z4u ps os'++named base 0 ws,zs++(named base 0 ws).map (·.1)⟩ h p=some o→(⟨G'.im,z1J G.loc G'.loc base ws.length⟩:Gh).blk p=some b →
   (base+1≤p∧p<base+1+ws.length∧w.heap.size≤b)∨(¬(base+1≤p∧p<base+1+ws.length)∧b<w.heap.size∧G.blk p=some b∧∃ o1,h p=some o1):=by
  intro p o b hp hbp;by_cases hn:base+1≤p∧p<base+1+ws.length
  ·rw [hup1 p hn] at hp;rw [hblkn p hn] at hbp;exact .inl ⟨hn.1,hn.2,hown p o b hn hp hbp⟩
  ·rw [hblko p hn] at hbp;by_cases hpp:p∈ps
   ·obtain ⟨ty,cs,h1⟩:=inos p hpp;exact .inr ⟨hn,((hI.obj p _ h1).z5K hbp).2,hbp,_,h1⟩
   ·rw [hup3 p hn hpp] at hp;cases hh:h p with
    | none=>rw [hh] at hp;cases hp
    | some o1=>exact .inr ⟨hn,((hI.obj p _ hh).z5K hbp).2,hbp,_,rfl⟩
 refine ⟨hI.tb,hI.base,hI.chb,hI.below.step hb (fun b hb hlt=>?_),hI'.imw,fun a u ha=>hext _ _ (hI.imx a u ha),fun a ha hn=>?_,fun i=>?_,fun g l hg=>?_,fun p o hp=>?_,fun p q o o' b hp hq hbp hbq=>?_⟩
 ·obtain ⟨p,hp,hbp⟩:=hb;obtain ⟨ty,cs,h1⟩:=inos p hp;rcases ((hI.obj p _ h1).z5K hbp).1 with h2|h2
  ·omega
  ·exact h2
 ·refine (hI'.imo a (by show a.block<w.heap.size;omega) ?_).trans (hI.imo a ha hn);rintro ⟨p,hp,hbp⟩;obtain ⟨ty,cs,h1⟩:=inos p hp;rcases ((hI.obj p _ h1).z5K hbp).1 with h2|h2
  ·omega
  ·exact hn h2
 ·show z1J _ _ _ _ _=_;rw [hlo _ (by omega)];exact hI.pas i
 ·obtain ⟨g',o',h1,h2⟩:=hI'.glob g l hg;exact ⟨g',o',h1,h2⟩
 ·by_cases hn:base+1≤p∧p<base+1+ws.length
  ·rw [hup1 p hn] at hp;have hro:=hobjn p o hn hp;cases o with
   | var ty cs=>have:=List.all_eq_true.1 hws _ (List.mem_of_getElem? hp);cases this
   | own e s n=>
    obtain ⟨v1,us,e1,e2,e3⟩:=hro;refine ⟨v1,us,?_,Joins.ownsRow_le e2 hsz,e3⟩;show z1J _ _ _ _ _=_;unfold z1J;rw [if_pos hn];exact e1
  ·by_cases hpp:p∈ps
   ·obtain ⟨i,hi⟩:=hmemi p hpp;rw [hup2 p i hn hi] at hp;have hro:=hI'.obj (i*16+15) o (by rw [zhN];exact hp);have hpo:=List.all_eq_true.1 hpl _ (List.mem_of_getElem? hp);cases o with
    | own e s n=>cases hpo
    | var ty cs=>
     obtain ⟨b,us,e1,e2,e3,e4,e5⟩:=hro;obtain ⟨ty1,cs1,h1⟩:=inos p hpp;have hbp:G.blk p=some b:=by rw [←hpasb i p hi];unfold Gh.blk;rw [e1]
     exact ⟨b,us,by show z1J _ _ _ _ _=_;rw [hlo p hn,←hpasl i p hi];exact e1,((hI.obj p _ h1).z5K hbp).1,e3,zdC (G:=⟨G'.im,G'.loc⟩) hpo (fun _ _ h=>h) e4,e5⟩
   ·rw [hup3 p hn hpp] at hp;cases hh:h p with
    | none=>rw [hh] at hp;cases hp
    | some o1=>
     rw [hh] at hp;simp at hp;subst hp;have hr1:=hI.obj p o1 hh;have hlp:z1J G.loc G'.loc base ws.length p=G.loc p:=hlo p hn;cases o1 with
     | var ty cs=>
      obtain ⟨b,us,e1,e2,e3,e4,e5⟩:=hr1;obtain ⟨k1,k2⟩:=hold p _ b hpp hh (by unfold Gh.blk;rw [e1]);exact ⟨b,us,hlp.trans e1,e2,(hb.block b k1 k2).trans e3,e4.kill hext hloc,fun off=>(hI'.imo _ k1 k2).trans (e5 off)⟩
     | own e s n=>
      obtain ⟨v1,us,e1,e2,e3⟩:=hr1;have hk:∀ g,v1.ownBlock=some g→g<w.heap.size∧¬chOf G ps g:=fun g hg=>hold p _ g hpp hh (by rw [z64 e2 e1];exact hg)
      refine ⟨v1,us,hlp.trans e1,⟨e2.1,?_⟩,fun g hg off u hu=>e3 g hg off u ?_⟩
      ·rcases e2.2 with h0|⟨g,cap,cur,hv,hbb,hgg,rest⟩
       ·exact .inl h0
       ·refine .inr ⟨g,cap,cur,hv,hbb,?_,rest⟩;obtain ⟨k1,k2⟩:=hk g (by rw [hv];rfl);exact (hb.block g k1 k2).trans hgg
      ·obtain ⟨k1,k2⟩:=hk g hg;exact (hI'.imo ⟨g,off,none⟩ k1 k2).symm.trans hu
 ·rcases hwhere p o b hp hbp with ⟨a1,a2,a3⟩|⟨a1,a2,a3,o1,a4⟩<;>rcases hwhere q o' b hq hbq with ⟨b1,b2,b3⟩|⟨b1,b2,b3,o2,b4⟩
  ·rw [hup1 p ⟨a1,a2⟩] at hp;rw [hup1 q ⟨b1,b2⟩] at hq;rw [hblkn p ⟨a1,a2⟩] at hbp;rw [hblkn q ⟨b1,b2⟩] at hbq;have:=hI'.sep _ _ o o' b (by rw [z9X];exact hp) (by rw [z9X];exact hq) hbp hbq;omega
  ·omega
  ·omega
  ·exact hI.sep p q o1 o2 b a4 b4 a3 b3
theorem z15.settled {v:Value} {im':Im} {t:T} {ups:List (Nat×Option O)} {zs ks:List Nat} (hext:∀ a u,G.im a=some u→im' a=some u)
  (hA:z15 c ⟨im',G.loc⟩ (fun p=>if p∈zs then none else h p) ⟨t,ups,zs++ks⟩ v w'):z15 c G h ⟨t,zs.map (fun z=>(z,none))++ups,zs++ks⟩ v w':=by
 obtain ⟨G',h1,h2,h3,h4⟩:=hA;refine ⟨G',fun a u ha=>h1 a u (hext a u ha),h2,h3,?_⟩;have:hUp ⟨t,zs.map (fun z=>(z,none))++ups,zs++ks⟩ h=hUp ⟨t,ups,zs++ks⟩ (fun p=>if p∈zs then none else h p):=by
  unfold hUp;simp only [List.foldl_append]
  congr 1
  funext p
  rw [z9h];by_cases hz:p∈zs
  ·simp [hz]
  ·simp [hz]
 rw [this];exact h4
end
end Am
end Go.Proofs.YtgmppconibklcaaGreatDoor

