/- Part of the proof of TspBack. No condition: lemmas alone. -/
import Derived.Test.YtgmppconibklcaaGreatDoorM21
import Derived.Test.YtgmppconibklcaaGreatDoorM13
import Derived.Test.YtgmppconibklcaaGreatDoorM19
import Derived.Test.YtgmppconibklcaaGreatDoorM20
import Derived.Test.YtgmppconibklcaaGreatDoorM18
import Derived.Test.YtgmppconibklcaaGreatDoorM9
set_option linter.unusedVariables false
set_option linter.unusedSimpArgs false
namespace Go.Proofs.YtgmppconibklcaaGreatDoor
open Go Go.RowKit
theorem zeo {s b:List UInt8} (h:Od.enc s=some b):b.length≤22+11*s.length:=by
 unfold Od.enc at h;cases hn:Od.z1b (Od.parts 46 s) with
 | none=>rw [hn] at h;cases h
 | some l=>
  rw [hn] at h;replace h:(if Od.z3L l=true then some (Od.bytesOf l) else none)=some b:=h;split at h
  ·injection h with h;subst h;have h1:=(z5X hn).1;have h2:=Od.z4h 46 s;have h3:=Od.z3U (40*l.getD 0 0+l.getD 1 0);have h4:∀ l:List Nat,(l.flatMap Od.b128).length≤11*l.length:=by
    intro l;induction l with
    | nil=>simp
    | cons a l ih=>have:=Od.z3U a;simp only [List.flatMap_cons,List.length_append,List.length_cons];omega
   have h5:=h4 (l.drop 2);unfold Od.bytesOf;rw [List.length_append];rw [List.length_drop] at h5;omega
  ·cases h
set_option maxRecDepth 100000 in
set_option maxHeartbeats 4000000 in
theorem z1C {fn:Func} {s s2:Tmp} (hr:fn.results=#[.cell s 61,.tmp s2]) (tmps:Array Value) (w:World) {P:Nat} {c0 c1 c2 c3 c4 u:Value} (hB:Blk w P 61 #[c0,c1,c2,c3,c4]) (h4:tmps[s]?.getD undef = .pointer (some ⟨P,0,none⟩)) (h5:tmps[s2]?.getD undef=u):
  (results fn tmps).run Tryz.prog w = .ok (.tuple #[.agg #[c0,c1,c2,c3,c4],u]) w:=by
 obtain ⟨g0,g1,g2,g3,g4,_⟩:=hB.five;simp [results,hr,go_sem,h4,h5,g0,g1,g2,g3,g4]
theorem z6q {s:ByteArray} {w w':World} {e:Ending} (h:z4r s w e w'):∃ A n c E,e = .returned (.tuple #[.slice A n c,.int .i64 E])∧(E==0)=(Od.enc s.data.toList).isSome∧Is w' (Old w) (.slice A n c) (z05 ((Od.enc s.data.toList).getD []))∧Below w.heap.size w w':=by
 unfold z4r at h;split at h
 ·rename_i out ho;obtain ⟨v,rfl,hr,hb⟩:=h;obtain ⟨A,c,rfl,_⟩:=z0K hr;exact ⟨A,_,c,0,rfl,by rw [ho];rfl,by rw [ho];exact z1T hr (fun g hg=>hg),hb⟩
 ·rename_i ho;obtain ⟨rfl,hb⟩:=h;exact ⟨none,0,0,20,rfl,by rw [ho];rfl,by rw [ho];exact Is.z1H _ _,hb⟩
set_option maxHeartbeats 4000000 in
set_option maxRecDepth 100000 in
theorem z8v (s:ByteArray) (w:World) (hs:s.size≤90000):
  Calls Tryz.prog 32 #[.string s] w fun e w'=>∃ v,e = .returned (.tuple #[v,.bool (Od.enc s.data.toList).isSome])∧NdAt w' (Old w) v (Dr.prim 6 ((Od.enc s.data.toList).getD []))∧Below w.heap.size w w':=by
 obtain ⟨V,hV⟩:∃ V,V=w.alloc (.cells #[.int .i64 0,.int .i64 0,.bool false,.slice none 0 0,.slice none 0 0] 61):=⟨_,rfl⟩;have HB:Hid (Below w.heap.size w V):=by show Below _ _ _;rw [hV];exact (Below.refl _ w).alloc (Nat.le_refl _) _
 have HK:Hid (Blk V w.heap.size 61 #[.int .i64 0,.int .i64 0,.bool false,.slice none 0 0,.slice none 0 0]):=by show Blk _ _ _ _;rw [hV];exact Blk.new w _ _
 have hsz:=HB.out.size;have HV:=Lib.hid hV;have HL:Hid (((Od.enc s.data.toList).getD []).length≤100000000):=by
  show _≤_;cases h:Od.enc s.data.toList with
  | none=>simp
  | some b=>
   have h1:=zeo h;have h2:s.data.toList.length=s.size:=rfl;show b.length≤_;omega
 clear hV;go_enter Tryz.func32,Tryz.ntmps32
 go_upto_region 1 with fail
 rw [←HV.out]
 go_wp2_with fail
 refine (z6r s V hs).mono ?_;intro e V2 hp;obtain ⟨A,n,c,E,rfl,hE,h2,hb2⟩:=z6q hp;obtain ⟨ob,hob⟩:∃ ob,ob=(Od.enc s.data.toList).getD []:=⟨_,rfl⟩;rw [←hob] at h2 HL;have hn:n≤100000000:=by have:=h2.byteCells.1;have:=HL.out;omega
 have H2:=Lib.hid h2;have HB2:=Lib.hid hb2;have HE:=Lib.hid hE;have HOB:=Lib.hid hob;clear h2 hb2 hp hE hob
 go_wp2_with fail
 refine (z1e 6 A n c ob _ _ H2.out hn).mono ?_;rintro e w9 ⟨v,rfl,h9,hb9⟩;have H9:=Lib.hid h9;obtain ⟨A1,c1,A3,c3,rfl⟩:=h9.form;have HB9:=Lib.hid (HB2.out.trans (hb9.mono HB2.out.size));have HK9:=Lib.hid (HK.out.below HB9.out HK.out.lt);obtain ⟨q0,q1,q2,q3,q4,f0,f1,f2,f3,f4⟩:=HK9.out.five;have hws:w.heap.size<V2.heap.size:=by have h3:=HB2.out.size;have h4:=HK.out.lt;omega
 clear h9 hb9
 go_wp2_with fail
 refine bodyPost_ret (z1C Tryz.results32 _ _ (u:= .bool (E==0)) (HK9.out.set5 _ _ _ _ _) rfl rfl) rfl ⟨_,by rw [←HE.out],?_,?_⟩
 ·rw [←HOB.out];exact (H9.out.set5 (by show w.heap.size<_;exact hws) _ _ _ _ _).less (fun b hb _=>Nat.lt_of_lt_of_le hb (Nat.le_of_lt hws))
 ·exact z0s (HB.out.trans (HB9.out.mono hsz)) (Nat.le_refl _) _ _ _ _ _
set_option maxHeartbeats 4000000 in
set_option maxRecDepth 100000 in
theorem zdc (s:ByteArray) (w:World) (hs:s.size≤90000):
  Calls Tryz.prog 136 #[.string s] w fun e w'=>∃ v,e = .returned (.tuple #[v,.bool (Od.enc s.data.toList).isSome])∧NdAt w' (Old w) v (Dr.prim 6 ((Od.enc s.data.toList).getD []))∧Below w.heap.size w w':=by
 obtain ⟨V,hV⟩:∃ V,V=w.alloc (.cells #[.int .i64 0,.int .i64 0,.bool false,.slice none 0 0,.slice none 0 0] 61):=⟨_,rfl⟩;have HB:Hid (Below w.heap.size w V):=by show Below _ _ _;rw [hV];exact (Below.refl _ w).alloc (Nat.le_refl _) _
 have HK:Hid (Blk V w.heap.size 61 #[.int .i64 0,.int .i64 0,.bool false,.slice none 0 0,.slice none 0 0]):=by show Blk _ _ _ _;rw [hV];exact Blk.new w _ _
 have hsz:=HB.out.size;have HV:=Lib.hid hV;have HL:Hid (((Od.enc s.data.toList).getD []).length≤100000000):=by
  show _≤_;cases h:Od.enc s.data.toList with
  | none=>simp
  | some b=>
   have h1:=zeo h;have h2:s.data.toList.length=s.size:=rfl;show b.length≤_;omega
 clear hV;go_enter Tryz.func136,Tryz.ntmps136
 go_upto_region 1 with fail
 rw [←HV.out]
 go_wp2_with fail
 refine (z6r s V hs).mono ?_;intro e V2 hp;obtain ⟨A,n,c,E,rfl,hE,h2,hb2⟩:=z6q hp;obtain ⟨ob,hob⟩:∃ ob,ob=(Od.enc s.data.toList).getD []:=⟨_,rfl⟩;rw [←hob] at h2 HL;have hn:n≤100000000:=by have:=h2.byteCells.1;have:=HL.out;omega
 have H2:=Lib.hid h2;have HB2:=Lib.hid hb2;have HE:=Lib.hid hE;have HOB:=Lib.hid hob;clear h2 hb2 hp hE hob
 go_wp2_with fail
 refine (z1e 6 A n c ob _ _ H2.out hn).mono ?_;rintro e w9 ⟨v,rfl,h9,hb9⟩;have H9:=Lib.hid h9;obtain ⟨A1,c1,A3,c3,rfl⟩:=h9.form;have HB9:=Lib.hid (HB2.out.trans (hb9.mono HB2.out.size));have HK9:=Lib.hid (HK.out.below HB9.out HK.out.lt);obtain ⟨q0,q1,q2,q3,q4,f0,f1,f2,f3,f4⟩:=HK9.out.five;have hws:w.heap.size<V2.heap.size:=by have h3:=HB2.out.size;have h4:=HK.out.lt;omega
 clear h9 hb9
 go_wp2_with fail
 refine bodyPost_ret (z1C Tryz.results136 _ _ (u:= .bool (E==0)) (HK9.out.set5 _ _ _ _ _) rfl rfl) rfl ⟨_,by rw [←HE.out],?_,?_⟩
 ·rw [←HOB.out];exact (H9.out.set5 (by show w.heap.size<_;exact hws) _ _ _ _ _).less (fun b hb _=>Nat.lt_of_lt_of_le hb (Nat.le_of_lt hws))
 ·exact z0s (HB.out.trans (HB9.out.mono hsz)) (Nat.le_refl _) _ _ _ _ _
end Go.Proofs.YtgmppconibklcaaGreatDoor

namespace Go.Proofs.YtgmppconibklcaaGreatDoor
open Go Go.RowKit
end Go.Proofs.YtgmppconibklcaaGreatDoor

namespace Go.Proofs.YtgmppconibklcaaGreatDoor
open Go Go.RowKit
end Go.Proofs.YtgmppconibklcaaGreatDoor

namespace Go.Proofs.YtgmppconibklcaaGreatDoor
namespace Rq
open Dr
structure Info where
 policy:Bs
 alg:Bs
 impr:Bs
 serial:Nat
 time:Int
 micros:Int
 secs:Int
 millis:Int
 has:Bool
 nonce:Nat
theorem zhg {l l':Bs} {t u:Int} (h:Pr.z1q l=some (t,u)) (h':Pr.z1q l'=some (t,u)):l=l':=by
 obtain ⟨y,m,d,s,v,hi,hs,hu,hv,rfl⟩:=Pr.z5w h;obtain ⟨y',m',d',s',v',hi',hs',hu',hv',rfl⟩:=Pr.z5w h';obtain ⟨e1,e2,e3⟩:=Cal.Is.one hi hi';have e4:s=s':=by omega
 have e5:v=v':=by omega
 have e1':y=y':=by omega
 have e2':m=m':=by omega
 have e3':d=d':=by omega
 subst e1' e2' e3' e4 e5;rfl
open Classical in
noncomputable def z3a (t u:Int):Option Bs:=if h:∃ l,Pr.z1q l=some (t,u) then some h.choose else none
theorem ze8 {l:Bs} {t u:Int} (h:Pr.z1q l=some (t,u)):z3a t u=some l:=by
 have hx:∃ l,Pr.z1q l=some (t,u):=⟨l,h⟩;unfold z3a;rw [dif_pos hx,zhg hx.choose_spec h]
theorem z3r {l:Bs} {t u:Int} (h:z3a t u=some l):Pr.z1q l=some (t,u):=by
 unfold z3a at h;split at h
 ·rename_i hx;simp only [Option.some.injEq] at h;rw [←h];exact hx.choose_spec
 ·cases h
def z44 (v:Int):Nd:= .mk 2 0 false (intB v) []
def z0F (s m:Int):List Nd:=opt (decide (0<s)) (intN s)++opt (decide (0<m)) (z44 m)
def accN (s m:Int):List Nd:=opt (decide (0<s∨0<m)) (seq (z0F s m))
noncomputable def z0g (i:Info):Nd:=seq (intN 1::oidN i.policy::impN i.alg i.impr::natN i.serial::prim 24 ((z3a i.time i.micros).getD [])::(accN i.secs i.millis++opt i.has (natN i.nonce)))
def z0J (i:Info):Bool:=decide (0<Nt.bl i.serial)&&decide (Nt.bl i.serial≤64)&&decide (0≤i.secs)&&decide (i.secs≤1000000)&&decide (0≤i.millis)&&decide (i.millis≤999)&&z0x i.has i.nonce
noncomputable def z0l (i:Info):Bool:=z2B i.policy&&z3O i.alg i.impr&&(z3a i.time i.micros).isSome&&z0J i
def z2M:List Nd→Option (Int×List Nd)
 | []=>some (0,[])
 | k::t=>if k.cls=0∧k.tag=2 then match intOf k with
   | some v=>if 1≤v∧v≤1000000 then some (v,t) else none
   | none=>none
  else some (0,k::t)
def z2m:List Nd→Option (Int×List Nd)
 | []=>some (0,[])
 | k::t=>if k.cls=2∧k.tag=0∧k.cons=false then match intOf (prim 2 k.bytes) with
   | some v=>if 1≤v∧v≤999 then some (v,t) else none
   | none=>none
  else some (0,k::t)
def zc4 (n:Nd):Option (Int×Int):=
 match z2M n.kids with
 | none=>none
 | some (s,l)=>match z2m l with
  | none=>none
  | some (m,l')=>if l'.isEmpty&&!n.kids.isEmpty then some (s,m) else none
def z2i (l:List Nd):Option ((Int×Int)×List Nd):=
 match l with
 | []=>some ((0,0),[])
 | k::t=>if z0t k 1 2 then match zc4 k with
   | some a=>some (a,t)
   | none=>none
  else some ((0,0),k::t)
def z0P (n:Nd):Option Info:=
 if z0t n 5 7&&(intOf (kid n 0)==some 1&&(kid n 0).tag==2) then
  match z2D (kid n 1),z62 (kid n 2),z1D (kid n 3),Pr.z1q (kid n 4).bytes with
  | some policy,some (alg,impr),some serial,some (t,u)=>
   if (kid n 3).tag==2&&((kid n 4).cls==0&&(kid n 4).tag==24) then
    match z2i (n.kids.drop 5) with
    | none=>none
    | some ((s,m),l)=>
     if (z0i l).2.2.isEmpty&&z0J ⟨policy,alg,impr,serial,t,u,s,m,(z0i l).1,(z0i l).2.1⟩ then
      some ⟨policy,alg,impr,serial,t,u,s,m,(z0i l).1,(z0i l).2.1⟩
     else none
   else none
  | _,_,_,_=>none
 else none
theorem zfi (b:Bs):right (.mk 2 0 false b [])=true:=by
 unfold right;rw [put,if_pos (by
  have:may 2 0 false=true:=by decide
  rw [this];simp),puts]
 simp
theorem zcj {l:List Nd} {s:Int} {t:List Nd} (h:z2M l=some (s,t)):l=opt (decide (0<s)) (intN s)++t∧0≤s∧s≤1000000∧(∀ k∈t,k∈l):=by
 match l,h with
 | [],h=>
  simp only [z2M,Option.some.injEq,Prod.mk.injEq] at h;obtain ⟨rfl,rfl⟩:=h;exact ⟨rfl,by decide,by decide,fun k h=>h⟩
 | k::l,h=>
  simp only [z2M] at h;split at h
  ·rename_i hk;split at h
   ·rename_i v hv;split at h
    ·rename_i hr;simp only [Option.some.injEq,Prod.mk.injEq] at h;obtain ⟨rfl,rfl⟩:=h;have:=z4A hv hk.2;refine ⟨?_,by omega,hr.2,fun k h=>List.mem_cons_of_mem _ h⟩;rw [←this];have:decide (0<v)=true:=decide_eq_true (by omega);rw [this];rfl
    ·cases h
   ·cases h
  ·simp only [Option.some.injEq,Prod.mk.injEq] at h;obtain ⟨rfl,rfl⟩:=h;exact ⟨rfl,by decide,by decide,fun k h=>h⟩
theorem zlB {k:Nd} (hr:right k=true) (h:k.cls=2∧k.tag=0∧k.cons=false):k = .mk 2 0 false k.bytes []:=by
 obtain ⟨c,t,b,bs,l⟩:=k;obtain ⟨rfl,rfl,rfl⟩:c=2∧t=0∧b=false:=h;unfold right at hr;rw [put] at hr;split at hr
 ·rename_i hok;simp only [Bool.and_eq_true] at hok;have:l=[]:=by simpa using hok.1.2
  subst this;rfl
 ·cases hr
theorem zcl {l:List Nd} (hr:∀ k∈l,right k=true) {s:Int} {t:List Nd} (h:z2m l=some (s,t)):l=opt (decide (0<s)) (z44 s)++t∧0≤s∧s≤999:=by
 match l,h with
 | [],h=>
  simp only [z2m,Option.some.injEq,Prod.mk.injEq] at h;obtain ⟨rfl,rfl⟩:=h;exact ⟨rfl,by decide,by decide⟩
 | k::l,h=>
  simp only [z2m] at h;split at h
  ·rename_i hk;split at h
   ·rename_i v hv;split at h
    ·rename_i hrange;simp only [Option.some.injEq,Prod.mk.injEq] at h;obtain ⟨rfl,rfl⟩:=h;have h1:=z4A hv rfl;have h2:=zlB (hr k List.mem_cons_self) hk;have h3:k.bytes=intB v:=by
      have:=congrArg Nd.bytes h1;exact this
     refine ⟨?_,by omega,hrange.2⟩;have:decide (0<v)=true:=decide_eq_true (by omega);rw [this];unfold z44;rw [←h3,←h2];rfl
    ·cases h
   ·cases h
  ·simp only [Option.some.injEq,Prod.mk.injEq] at h;obtain ⟨rfl,rfl⟩:=h;exact ⟨rfl,by decide,by decide⟩
theorem zk7 {n:Nd} (hr:right n=true) (hs:z0t n 1 2=true) {s m:Int} (h:zc4 n=some (s,m)):n=seq (z0F s m)∧0≤s∧s≤1000000∧0≤m∧m≤999∧(0<s∨0<m):=by
 obtain ⟨hn,h1,h2⟩:=zaM hr hs;have hk:=z1x hr;unfold zc4 at h;split at h
 ·cases h
 ·rename_i s' l hl;split at h
  ·cases h
  ·rename_i m' l' hm;split at h
   ·rename_i he;simp only [Option.some.injEq,Prod.mk.injEq] at h;obtain ⟨rfl,rfl⟩:=h;simp only [Bool.and_eq_true,List.isEmpty_iff] at he;obtain ⟨rfl,he⟩:=he;obtain ⟨a1,a2,a3,a4⟩:=zcj hl;obtain ⟨b1,b2,b3⟩:=zcl (fun k h=>hk k (a4 k h)) hm;rw [List.append_nil] at b1;refine ⟨?_,a2,a3,b2,b3,?_⟩
    ·rw [hn];unfold z0F;rw [←b1,←a1]
    ·rcases Int.lt_or_le 0 s' with h|h
     ·exact .inl h
     ·rcases Int.lt_or_le 0 m' with h'|h'
      ·exact .inr h'
      ·exfalso;have e1:decide (0<s')=false:=decide_eq_false (by omega);have e2:decide (0<m')=false:=decide_eq_false (by omega);rw [e2] at b1;rw [e1,b1] at a1;rw [a1] at h1;simp [opt] at h1
   ·cases h
theorem zf0 {l:List Nd} (hr:∀ k∈l,right k=true) {s m:Int} {t:List Nd} (h:z2i l=some ((s,m),t)):l=accN s m++t∧(∀ k∈t,k∈l):=by
 match l,h with
 | [],h=>
  simp only [z2i,Option.some.injEq,Prod.mk.injEq] at h;obtain ⟨⟨rfl,rfl⟩,rfl⟩:=h;exact ⟨rfl,fun k h=>h⟩
 | k::l,h=>
  simp only [z2i] at h;split at h
  ·rename_i hk;split at h
   ·rename_i a ha;simp only [Option.some.injEq,Prod.mk.injEq] at h;obtain ⟨rfl,rfl⟩:=h;obtain ⟨a1,a2,a3,a4,a5,a6⟩:=zk7 (hr k List.mem_cons_self) hk ha;refine ⟨?_,fun k h=>List.mem_cons_of_mem _ h⟩;unfold accN;rw [decide_eq_true a6,←a1];rfl
   ·cases h
  ·simp only [Option.some.injEq,Prod.mk.injEq] at h;obtain ⟨⟨rfl,rfl⟩,rfl⟩:=h;exact ⟨rfl,fun k h=>h⟩
theorem zcV {n:Nd} {i:Info} (hr:right n=true) (h:z0P n=some i):z0l i=true∧z0g i=n:=by
 unfold z0P at h;split at h
 ·rename_i hs;simp only [Bool.and_eq_true,beq_iff_eq] at hs;obtain ⟨hs,h1,h1t⟩:=hs;obtain ⟨hn,hl1,hl2⟩:=zaM hr hs;have hk:=z1x hr;split at h
  ·rename_i policy alg impr serial t u hpol himp hser hlong;split at h
   ·rename_i ht;simp only [Bool.and_eq_true,beq_iff_eq] at ht;split at h
    ·cases h
    ·rename_i s m l hacc;split at h
     ·rename_i hf;simp only [Bool.and_eq_true,List.isEmpty_iff] at hf;obtain ⟨he,hrest⟩:=hf;simp only [Option.some.injEq] at h;subst h;have hmem:∀ j,j<5→kid n j∈n.kids:=fun j hj=>by
       unfold kid;rw [List.getD_eq_getElem?_getD,List.getElem?_eq_getElem (by omega)];exact List.getElem_mem _
      have hkd:∀ k∈n.kids.drop 5,right k=true:=fun k h=>hk k (List.mem_of_mem_drop h)
      have hrest':=hrest;unfold z0J z0x at hrest';simp only [Bool.and_eq_true,decide_eq_true_eq] at hrest';obtain ⟨⟨⟨⟨⟨⟨r1,r2⟩,r3⟩,r4⟩,r5⟩,r6⟩,r7,r8⟩:=hrest';obtain ⟨a1,a2⟩:=zf0 hkd hacc;obtain ⟨b1,b2⟩:=z8y (fun k h=>hkd k (a2 k h)) (by omega);rw [he,List.append_nil] at b1;obtain ⟨o1,o2⟩:=z4v hpol;obtain ⟨i1,i2⟩:=z98 (hk _ (hmem 2 (by omega))) himp;have i0:=z4A h1 h1t;have n3:=z8W hser ht.1 (by omega);have p4:=(z2q (hk _ (hmem 4 (by omega))) ht.2.1 (by rw [ht.2.2];decide)).1;rw [ht.2.2] at p4;have hT:=ze8 hlong;refine ⟨?_,?_⟩
      ·unfold z0l;simp only [o2,i2,hT,hrest];rfl
      ·unfold z0g;simp only [hT,Option.getD_some];rw [←b1,←a1,←i0,←o1,←i1,←n3,←p4]
       conv=>rhs;rw [hn]
       congr 1
       unfold kid;generalize n.kids=l at hl1;match l,hl1 with
       | a::b::c::d::e::l,_=>rfl
     ·cases h
   ·cases h
  ·cases h
 ·cases h
theorem zaB {s:Int} (h0:0≤s) (h1:s≤1000000) {l:List Nd} (hl:∀ k∈l.head?,k.cls≠0):z2M (opt (decide (0<s)) (intN s)++l)=some (s,l):=by
 by_cases hs:0<s
 ·rw [decide_eq_true hs];simp only [opt,if_true,List.singleton_append,z2M];rw [if_pos ⟨rfl,rfl⟩,z3v (by omega) (by omega)];simp only;rw [if_pos ⟨by omega,h1⟩]
 ·obtain rfl:s=0:=by omega
  simp only [Int.lt_irrefl,decide_false,opt,Bool.false_eq_true,if_false,List.nil_append];match l,hl with
  | [],_=>rfl
  | k::t,hl=>
   simp only [z2M];rw [if_neg (by intro hx;exact hl k rfl hx.1)]
theorem zaD {s:Int} (h0:0≤s) (h1:s≤999):z2m (opt (decide (0<s)) (z44 s))=some (s,[]):=by
 by_cases hs:0<s
 ·rw [decide_eq_true hs];simp only [opt,if_true,z2m];rw [if_pos ⟨rfl,rfl,rfl⟩];have:prim 2 (z44 s).bytes=intN s:=rfl;rw [this,z3v (by omega) (by omega)];simp only;rw [if_pos ⟨by omega,h1⟩]
 ·obtain rfl:s=0:=by omega
  rfl
theorem zin {s m:Int} (h0:0≤s) (h1:s≤1000000) (h2:0≤m) (h3:m≤999) (h:0<s∨0<m):zc4 (seq (z0F s m))=some (s,m)∧z0t (seq (z0F s m)) 1 2=true:=by
 have hh:∀ k∈(opt (decide (0<m)) (z44 m)).head?,k.cls≠0:=by
  intro k hk;by_cases hm:0<m
  ·rw [decide_eq_true hm] at hk;simp [opt] at hk;subst hk;simp [z44,Nd.cls]
  ·rw [decide_eq_false hm] at hk;simp [opt] at hk
 have a:=zaB h0 h1 hh;have b:=zaD h2 h3;have hne:(z0F s m).isEmpty=false∧(z0F s m).length≤2∧1≤(z0F s m).length:=by
  unfold z0F;by_cases hs:0<s<;>by_cases hm:0<m<;>simp [hs,hm,opt]<;>omega
 refine ⟨?_,?_⟩
 ·unfold zc4;have:(seq (z0F s m)).kids=z0F s m:=rfl;rw [this];unfold z0F at hne ⊢;rw [a];simp only;rw [b];simp only [List.isEmpty_nil,hne.1,Bool.not_false,Bool.and_self,if_true]
 ·have e:z0t (seq (z0F s m)) 1 2=(decide (1≤(z0F s m).length)&&decide ((z0F s m).length≤2)):=rfl;rw [e];simp only [Bool.and_eq_true,decide_eq_true_eq];exact ⟨hne.2.2,hne.2.1⟩
theorem zcn {s m:Int} (h0:0≤s) (h1:s≤1000000) (h2:0≤m) (h3:m≤999) {l:List Nd} (hl:∀ k∈l.head?,k.tag≠16):z2i (accN s m++l)=some ((s,m),l):=by
 unfold accN;by_cases h:0<s∨0<m
 ·rw [decide_eq_true h];obtain ⟨a,b⟩:=zin h0 h1 h2 h3 h;simp only [opt,if_true,List.singleton_append,z2i,b,a]
 ·rw [decide_eq_false h];obtain rfl:s=0:=by omega
  obtain rfl:m=0:=by omega
  simp only [opt,Bool.false_eq_true,if_false,List.nil_append];match l,hl with
  | [],_=>rfl
  | k::t,hl=>
   have:z0t k 1 2=false:=by
    unfold z0t;have:=hl k rfl;simp [this]
   simp only [z2i,this,Bool.false_eq_true,if_false]
theorem zcW {i:Info} (h:z0l i=true):z0P (z0g i)=some i:=by
 unfold z0l at h;simp only [Bool.and_eq_true] at h;obtain ⟨⟨⟨hpol,himp⟩,hlong⟩,hrest⟩:=h;obtain ⟨lt,hlt⟩:=Option.isSome_iff_exists.1 hlong;have hlo:=z3r hlt;have hrest':=hrest;unfold z0J at hrest';simp only [Bool.and_eq_true,decide_eq_true_eq] at hrest';obtain ⟨⟨⟨⟨⟨⟨r1,r2⟩,r3⟩,r4⟩,r5⟩,r6⟩,r7⟩:=hrest';have hbl:Nt.bl i.nonce≤131072:=by
  unfold z0x at r7;simp only [Bool.and_eq_true,decide_eq_true_eq] at r7;omega
 have t1:∀ k∈(opt i.has (natN i.nonce)).head?,k.tag≠16:=by
  intro k hk;cases hb:i.has with
  | true=>rw [hb] at hk;simp [opt] at hk;subst hk;rw [z9M hbl];decide
  | false=>rw [hb] at hk;simp [opt] at hk
 have a1:=zcn r3 r4 r5 r6 t1;have a2:=z79 r7 (l:=[]) (by simp);rw [List.append_nil] at a2;have hl:(z0g i).kids=intN 1::oidN i.policy::impN i.alg i.impr::natN i.serial::prim 24 ((z3a i.time i.micros).getD [])::(accN i.secs i.millis++opt i.has (natN i.nonce)):=rfl;have hlen:(z0g i).kids.length=5+(accN i.secs i.millis++opt i.has (natN i.nonce)).length:=by rw [hl];simp;omega
 have hs:z0t (z0g i) 5 7=true:=by
  have e:z0t (z0g i) 5 7=(decide (5≤(z0g i).kids.length)&&decide ((z0g i).kids.length≤7)):=rfl;rw [e,hlen];have x:=z2s i.has (natN i.nonce);have y:(accN i.secs i.millis).length≤1:=z2s _ _;rw [List.length_append];simp only [Bool.and_eq_true,decide_eq_true_eq];omega
 have k0:kid (z0g i) 0=intN 1:=rfl;have k1:kid (z0g i) 1=oidN i.policy:=rfl;have k2:kid (z0g i) 2=impN i.alg i.impr:=rfl;have k3:kid (z0g i) 3=natN i.serial:=rfl;have k4:kid (z0g i) 4=prim 24 ((z3a i.time i.micros).getD []):=rfl;have d:(z0g i).kids.drop 5=accN i.secs i.millis++opt i.has (natN i.nonce):=rfl;have n3:(natN i.serial).tag=2:=z9M (by omega);unfold z0P;rw [hs,d,k0,k1,k2,k3,k4,hlt,z3v (by decide) (by decide),z4w hpol,z99 himp,z8X (by omega)];have e1:(intN 1).tag=2:=rfl;have e4:(prim 24 ((some lt).getD [])).bytes=lt:=rfl;have e5:(prim 24 ((some lt).getD [])).cls=0:=rfl;have e6:(prim 24 ((some lt).getD [])).tag=24:=rfl;rw [e1,e4,e5,e6,n3,hlo,a1];simp only [a2,List.isEmpty_nil,hrest,Bool.and_self,BEq.rfl,if_true]
theorem zfj {i:Info} (h:z0l i=true):right (z0g i)=true:=by
 unfold z0l at h;simp only [Bool.and_eq_true] at h;obtain ⟨⟨⟨hpol,himp⟩,hlong⟩,hrest⟩:=h;obtain ⟨lt,hlt⟩:=Option.isSome_iff_exists.1 hlong;have hlo:=z3r hlt;unfold z0J at hrest;simp only [Bool.and_eq_true,decide_eq_true_eq] at hrest;obtain ⟨⟨⟨⟨⟨⟨r1,r2⟩,r3⟩,r4⟩,r5⟩,r6⟩,r7⟩:=hrest;have hbl:Nt.bl i.nonce≤131072:=by
  unfold z0x at r7;simp only [Bool.and_eq_true,decide_eq_true_eq] at r7;omega
 have hopt:∀ {b:Bool} {n:Nd},right n=true→∀ k∈opt b n,right k=true:=by
  intro b n hb k hk;cases b with
  | true=>simp [opt] at hk;subst hk;exact hb
  | false=>simp [opt] at hk
 unfold z0g;refine z3l fun k hk=>?_
 rcases List.mem_cons.1 hk with rfl|hk
 ·exact z2y (by decide) (by decide)
 rcases List.mem_cons.1 hk with rfl|hk
 ·exact z4f hpol
 rcases List.mem_cons.1 hk with rfl|hk
 ·exact zaT himp
 rcases List.mem_cons.1 hk with rfl|hk
 ·exact z7l (by omega)
 rcases List.mem_cons.1 hk with rfl|hk
 ·rw [hlt];exact z4t (by decide) (by decide) (by decide) (by unfold value;simp [hlo])
 rcases List.mem_append.1 hk with hk|hk
 ·refine hopt ?_ k hk;refine z3l fun k hk=>?_
  unfold z0F at hk;rcases List.mem_append.1 hk with hk|hk
  ·exact hopt (z2y (by omega) (by omega)) k hk
  ·exact hopt (zfi _) k hk
 ·exact hopt (z7l hbl) k hk
end Rq
end Go.Proofs.YtgmppconibklcaaGreatDoor

namespace Go.Proofs.YtgmppconibklcaaGreatDoor
namespace Rq
open Dr
theorem zkA:∀ (f k n:Nat),n<128^k→(Od.hiF f n).length≤k
 | 0,k,n,_=>by simp [Od.hiF]
 | f+1,k,n,h=>by
  unfold Od.hiF;split
  ·simp
  ·rename_i h0;cases k with
   | zero=>simp at h;omega
   | succ k=>
    have:=zkA f k (n / 128) (by rw [Nat.pow_succ] at h;omega);simp;omega
theorem zig {n k:Nat} (h:n<128^(k+1)):(Od.b128 n).length≤k+1:=by
 have:=zkA 10 k (n / 128) (by rw [Nat.pow_succ] at h;omega);unfold Od.b128;simp;omega
theorem zkz:∀ (f n:Nat),n<128^f→n<128^(Od.hiF f n).length
 | 0,n,h=>by simpa [Od.hiF] using h
 | f+1,n,h=>by
  unfold Od.hiF;split
  ·rename_i h0;subst h0;simp
  ·have:=zkz f (n / 128) (by rw [Nat.pow_succ] at h;omega);rw [List.length_append,List.length_singleton,Nat.pow_succ];omega
theorem zm4 {n:Nat} (h:n<Od.top):n<128^(Od.b128 n).length:=by
 have:=zkz 10 (n / 128) (by unfold Od.top at h;omega);unfold Od.b128;rw [List.length_append,List.length_singleton,Nat.pow_succ];omega
theorem zae (n:Nat):1≤(Od.b128 n).length:=by unfold Od.b128;simp
theorem zkC {n:Nat} (h:n<Od.top):n<10^(Dig.dgs n 1).length:=by
 have h1:=Od.zkg _ (Od.za1 h);have h2:Od.val (Dig.dgs n 1)=n:=Od.z3B 20 n 1 (by unfold Od.top at h;omega) (by omega)
 rwa [h2] at h1
theorem zhT {n:Nat} (h:n<Od.top):1≤(Dig.dgs n 1).length:=(Dig.zeu 20 n 1 (by unfold Od.top at h;omega) (by omega)).1
theorem zd3:∀ (f m n k:Nat),n<10^m→k≤m→(Dig.dgsF f n k).length≤m
 | 0,m,n,k,_,_=>by simp [Dig.dgsF]
 | f+1,m,n,k,h,hk=>by
  by_cases hh:n=0∧k=0
  ·rw [Dig.z0A _ _ _ hh];simp
  ·rw [Dig.z0o _ _ _ hh];cases m with
   | zero=>simp at h;omega
   | succ m=>
    have:=zd3 f m (n / 10) (k-1) (by rw [Nat.pow_succ] at h;omega) (by omega);simp;omega
theorem zkq (k:Nat):10^(k+1)+80≤128^(k+1):=by
 induction k with
 | zero=>decide
 | succ k ih=>rw [Nat.pow_succ 10,Nat.pow_succ 128];omega
theorem zk4 {n:Nat} (h:n<Od.top):(Od.b128 n).length≤(Dig.dgs n 1).length:=by
 have h1:=zkC h;have h2:=zhT h;obtain ⟨k,hk⟩:∃ k,(Dig.dgs n 1).length=k+1:=⟨_,(Nat.sub_add_cancel h2).symm⟩;rw [hk] at h1 ⊢;have:=zkq k;exact zig (by omega)
theorem zfZ {a b:Nat} (h:b<Od.top) (ha:a=2∨a<2∧b<40):(Od.b128 (40*a+b)).length≤(Dig.dgs b 1).length:=by
 have h1:=zkC h;have h2:=zhT h;obtain ⟨k,hk⟩:∃ k,(Dig.dgs b 1).length=k+1:=⟨_,(Nat.sub_add_cancel h2).symm⟩;rw [hk] at h1 ⊢;have:=zkq k;exact zig (by omega)
theorem zes {n m:Nat} (h:n<Od.top) (hm:m≤n):(Dig.dgs m 1).length≤3*(Od.b128 n).length:=by
 have h1:=zm4 h;have h2:=zae n;refine zd3 20 _ m 1 ?_ (by omega);have h3:128^(Od.b128 n).length≤1000^(Od.b128 n).length:=Nat.pow_le_pow_left (by decide) _;have h4:10^(3*(Od.b128 n).length)=1000^(Od.b128 n).length:=by rw [Nat.pow_mul]
 rw [h4];omega
def tot (ps:List (List UInt8)):Nat:=(ps.map List.length).sum
theorem z6L (p:List UInt8) (ps:List (List UInt8)):tot (p::ps)=p.length+tot ps:=by simp [tot]
theorem zdr:∀ (ps:List (List UInt8)),tot ps≤(Od.join ps).length
 | []=>by simp [tot]
 | [p]=>by simp [tot,Od.join]
 | p::q::ps=>by
  have:=zdr (q::ps);rw [z6L,Od.join_cons _ (by simp),List.length_append,List.length_cons];omega
theorem zby:∀ {l:List Nat},(∀ x∈l,x<Od.top)→(l.flatMap Od.b128).length≤tot (l.map (Dig.dgs · 1))
 | [],_=>by simp
 | a::l,h=>by
  have h1:=zk4 (h a (by simp));have h2:=zby (l:=l) (fun x hx=>h x (by simp [hx]));rw [List.flatMap_cons,List.map_cons,z6L,List.length_append];omega
theorem enc_le {s b:Bs} (h:Od.enc s=some b):b.length≤s.length:=by
 unfold Od.enc at h;cases hn:Od.z1b (Od.parts 46 s) with
 | none=>rw [hn] at h;cases h
 | some l=>
  rw [hn] at h;replace h:(if Od.z3L l=true then some (Od.bytesOf l) else none)=some b:=h;split at h
  ·rename_i hok;injection h with h;subst h;obtain ⟨h1,h2⟩:=Od.z4Z _ _ hn;have h3:=zdr (Od.parts 46 s);rw [Od.z95,h1] at h3;unfold Od.z3L at hok;have hok:=of_decide_eq_true hok;match l,hok,h2,h3 with
   | a::b::l,hok,h2,h3=>
    simp only [List.getD_cons_zero,List.getD_cons_succ] at hok;have e1:=zfZ (a:=a) (b:=b) (h2 b (by simp)) (by omega);have e2:=zby (l:=l) (fun x hx=>h2 x (by simp [hx]));rw [List.map_cons,List.map_cons,z6L,z6L] at h3;simp only [Od.bytesOf,List.getD_cons_zero,List.getD_cons_succ,List.drop_succ_cons,List.drop_zero,List.length_append];omega
   | [_],hok,_,_=>simp at hok
   | [],hok,_,_=>simp at hok
  ·cases h
theorem zgg:∀ {l:List Nat},(∀ x∈l,x<Od.top)→(Od.z0T l).length≤4*(l.flatMap Od.b128).length
 | [],_=>by simp [Od.z0T]
 | a::l,h=>by
  have h1:=zes (h a (by simp)) (Nat.le_refl _);have h2:=zgg (l:=l) (fun x hx=>h x (by simp [hx]));have h3:=zae a;rw [Od.z0T,List.flatMap_cons,List.length_cons,List.length_append,List.length_append];omega
theorem zkD {b t:Bs} (h:Od.decO b=some t):t.length≤4*b.length+1:=by
 obtain ⟨g,gs,hd,rfl⟩:=Od.z7T h;obtain ⟨h1,h2⟩:=Od.z5C b 0 _ (by decide) hd;rw [Od.z3Q,List.nil_append] at h1;have e1:(Dig.dgs (Od.fst2 g) 1).length≤1:=zd3 20 1 _ 1 (by unfold Od.fst2;split<;>omega) (Nat.le_refl _);have e2:=zes (m:=g-40*Od.fst2 g) (h2 g (by simp)) (by omega);have e3:=zgg (l:=gs) (fun x hx=>h2 x (by simp [hx]));have e4:=zae g;rw [h1,List.flatMap_cons,Od.z0W,List.length_append,List.length_append,List.length_cons,List.length_append];omega
theorem zh0 {s:Bs} (h:z2B s=true):s.length≤4*wt (oidN s)+1:=by
 unfold z2B at h;obtain ⟨b,hb⟩:=Option.isSome_iff_exists.1 h;have:=zkD (Od.zaa hb);unfold oidN;rw [z25,hb,Option.getD_some];omega
theorem z6W (s:Bs):wt (oidN s)≤s.length+10:=by
 unfold oidN;rw [z25];cases h:Od.enc s with
 | none=>simp
 | some b=>have:=enc_le h;simp;omega
theorem wt_ex (e:Ex):wt (exN e)≤e.oid.length+e.val.length+41:=by
 have h1:=z6W e.oid;unfold exN;rw [z3h];cases e.crit
 ·simp only [Bool.false_eq_true,if_false,wts,z25];omega
 ·simp only [if_true,wts,z25,List.length_cons,List.length_nil];omega
theorem z2H (e:Ex) (l:List Ex):z41 (e::l)=1+e.oid.length+e.val.length+z41 l:=by simp [z41]
theorem zg9 (l:List Ex):wts (l.map exN)≤z41 l+40*l.length:=by
 induction l with
 | nil=>simp [wts]
 | cons e l ih=>
  have h1:=wt_ex e;rw [List.map_cons,wts,z2H,List.length_cons];omega
theorem zdo (alg impr:Bs):wt (impN alg impr)≤alg.length+impr.length+40:=by
 have:=z6W alg;unfold impN;rw [z3h,wts,wts,wts,z3h,wts,wts,z25];omega
theorem zdn {q:Req} (h:Nt.bl q.nonce≤160):wt (node q)≤z2z q+40*q.exts.length+130:=by
 have h2:=z6W q.policy;have h3:=zc9 h;have h4:=zg9 q.exts;have o1:=z6e (!q.policy.isEmpty) (oidN q.policy);have o2:=z6e q.has (natN q.nonce);have o3:=z6e q.cert z2L;have o4:=z6e (!q.exts.isEmpty) (ctxN q.exts);have e3:wt z2L=11:=by unfold z2L;rw [z25];rfl
 have e4:wt (ctxN q.exts)=wts (q.exts.map exN)+10:=by unfold ctxN;rw [wt];simp;omega
 have e5:wt (intN 1)=11:=by unfold intN;rw [z25];rfl
 have e6:=zdo q.alg q.impr;unfold node z1y z2z;rw [z3h,wts,wts,z3g,z3g,z3g];omega
theorem ze3 {has:Bool} {n:Nat} (h:z0x has n=true):Nt.bl n≤160:=by
 unfold z0x at h;simp only [Bool.and_eq_true,decide_eq_true_eq] at h;exact h.1
theorem z3G {q:Req} (h:z0q q=true):Nt.bl q.nonce≤160:=by
 unfold z0q at h;simp only [Bool.and_eq_true] at h;exact ze3 h.1.2
theorem z6j {q:Req} (h:z0q q=true):q.exts.length≤32:=by
 unfold z0q z0Q at h;simp only [Bool.and_eq_true,decide_eq_true_eq] at h;exact h.2.1.1
theorem z8V {q:Req} (h:z0q q=true) (hz:z2z q≤16000000):∃ o,put (node q)=some o∧write (node q)=(o,0)∧o.length≤z2z q+1410:=by
 have hb:=z3G h;have hr:=zfh h;unfold right at hr;obtain ⟨o,ho⟩:=Option.isSome_iff_exists.1 hr;have hw:=zdn hb;have hl:=z6j h;have hp:=z9D _ ho (by omega);have hd:=zhV q hb;refine ⟨o,ho,?_,by omega⟩;unfold write;rw [ho];simp only;rw [if_neg (by omega),if_neg (by omega)]
theorem z9U (c t:Int) (k:Bool) (n:Nat):2≤(head c t k n).length:=by
 have:1≤(lenB n).length:=by unfold lenB;split<;>simp
 unfold head;rw [List.length_cons];omega
mutual
theorem zgM:∀ (n:Nd) {o:List UInt8},put n=some o→wt n≤5*o.length
 | .mk c t k b l,o,h=>by
  rw [put] at h;split at h
  ·split at h
   ·rename_i bs hbs;have h1:=zgJ l hbs;split at h
    ·cases h
    ·injection h with h;subst h;have h3:=z9U c t k (b++bs.flatten).length;obtain ⟨H,hH⟩:∃ H,H=head c t k (b++bs.flatten).length:=⟨_,rfl⟩;rw [←hH] at h3 ⊢;rw [wt,List.length_append,List.length_append];omega
   ·cases h
  ·cases h
theorem zgJ:∀ (l:List Nd) {o:List (List UInt8)},puts l=some o→wts l≤5*o.flatten.length
 | [],o,h=>by rw [wts];omega
 | n::l,o,h=>by
  rw [puts] at h;split at h
  ·rename_i b hb;split at h
   ·rename_i bs hbs;injection h with h;subst h;have h1:=zgM n hb;have h2:=zgJ l hbs;rw [wts,List.flatten_cons,List.length_append];omega
   ·cases h
  ·cases h
end
theorem zg7 {l:List Nd} {x:Nd} (h:x∈l):wt x≤wts l:=by
 induction l with
 | nil=>cases h
 | cons a l ih=>
  rw [wts];rcases List.mem_cons.1 h with rfl|h
  ·omega
  ·have:=ih h;omega
theorem zkN (n:Nd):wts n.kids≤wt n:=by cases n;rw [wt];simp only [Nd.kids];omega
mutual
theorem zly:∀ n:Nd,mx n≤wt n
 | .mk c t k b l=>by have:=zh8 l;rw [mx,wt];omega
theorem zh8:∀ l:List Nd,mxs l≤wts l
 | []=>by rw [mxs];omega
 | n::l=>by have h1:=zly n;have h2:=zh8 l;rw [mxs,wts];omega
end
mutual
theorem za7:∀ n:Nd,10*deep n≤wt n
 | .mk c t k b l=>by have:=zbP l;rw [deep,wt];omega
theorem zbP:∀ l:List Nd,10*z0U l≤wts l
 | []=>by rw [z0U];omega
 | n::l=>by have h1:=za7 n;have h2:=zbP l;rw [z0U,wts];omega
end
structure zio (q:Req):Prop where
 alg:q.alg.length≤90000
 pol:q.policy.length≤90000
 impr:q.impr.length≤40000
 oid:∀ e∈q.exts,e.oid.length≤90000
 val:∀ e∈q.exts,e.val.length≤40000
 len:q.exts.length≤10000
 sz:z41 q.exts≤3000000
 node:z0q q=true→wt (node q)≤30000
theorem z9b {l:List Ex} {e:Ex} (h:e∈l):1+e.oid.length+e.val.length≤z41 l:=by
 induction l with
 | nil=>cases h
 | cons a l ih=>
  rw [z2H];rcases List.mem_cons.1 h with rfl|h
  ·omega
  ·have:=ih h;omega
theorem z9c (l:List Ex):l.length≤z41 l:=by
 induction l with
 | nil=>simp
 | cons a l ih=>rw [z2H,List.length_cons];omega
theorem zhG {l:List Ex} {m:Nat} (h:∀ e∈l,1+e.oid.length+e.val.length≤m):z41 l≤m*l.length:=by
 induction l with
 | nil=>simp [z41]
 | cons a l ih=>
  have h1:=h a (by simp);have h2:=ih (fun e he=>h e (by simp [he]));rw [z2H,List.length_cons,Nat.mul_add];omega
theorem z7L {q:Req} (h:z2z q≤6000):zio q:=by
 have h0:=z9c q.exts;unfold z2z at h;refine ⟨by omega,by omega,by omega,fun e he=>?_,fun e he=>?_,by omega,by omega,fun hr=>?_⟩
 ·have:=z9b he;omega
 ·have:=z9b he;omega
 ·have h1:=zdn (z3G hr);have h2:=z6j hr;unfold z2z at h1;omega
theorem zga (e:Ex):wt (oidN e.oid)≤wt (exN e):=by
 unfold exN;rw [z3h,wts];omega
theorem z8e {q:Req} (h:z0q q=true):z3O q.alg q.impr=true∧(q.policy.isEmpty=true∨z2B q.policy=true)∧z0x q.has q.nonce=true∧q.exts.length≤32∧(∀ e∈q.exts,exOk e=true):=by
 unfold z0q z0Q at h;simp only [Bool.and_eq_true,Bool.or_eq_true,decide_eq_true_eq,List.all_eq_true] at h;exact ⟨h.1.1.1,h.1.1.2,h.1.2,h.2.1.1,h.2.1.2⟩
theorem z7F {alg impr:Bs} (h:z3O alg impr=true):z2B alg=true∧1≤impr.length∧impr.length≤64:=by
 unfold z3O at h;simp only [Bool.and_eq_true,decide_eq_true_eq] at h;exact ⟨h.1.1,h.1.2,h.2⟩
theorem z64 {e:Ex} (h:exOk e=true):z2B e.oid=true∧e.val.length≤2000:=by
 unfold exOk at h;simp only [Bool.and_eq_true,decide_eq_true_eq] at h;exact h
theorem zd0 {q:Req} (hr:z0q q=true) (hw:wt (node q)≤20000):zio q:=by
 obtain ⟨h1,h2,h3,h4,h5⟩:=z8e hr;obtain ⟨h6,h7,h8⟩:=z7F h1;have e0:wt (node q)=10+(wt (intN 1)+(wt (impN q.alg q.impr)+wts (z1y q))):=by unfold node;rw [z3h,wts,wts];omega
 have e1:wt (oidN q.alg)≤wt (impN q.alg q.impr):=by unfold impN;rw [z3h,wts,wts,wts,z3h,wts,wts];omega
 have hk:∀ k∈z1y q,wt k≤20000:=fun k hk=>by have:=zg7 hk;omega
 have hoid:∀ e∈q.exts,e.oid.length≤80001:=by
  intro e he;have hne:(!q.exts.isEmpty)=true:=by cases hq:q.exts with|nil=>rw [hq] at he;cases he|cons _ _=>rfl
  have hc:=hk (ctxN q.exts) (by unfold z1y;simp [opt,hne]);have e4:wt (ctxN q.exts)=wts (q.exts.map exN)+10:=by unfold ctxN;rw [wt];simp;omega
  have h9:=zg7 (List.mem_map_of_mem (f:=exN) he);have h10:=zga e;have:=zh0 (z64 (h5 e he)).1;omega
 refine ⟨?_,?_,by omega,fun e he=>?_,fun e he=>?_,by omega,?_,fun _=>by omega⟩
 ·have:=zh0 h6;omega
 ·rcases h2 with h2|h2
  ·have:q.policy=[]:=List.isEmpty_iff.1 h2;rw [this];simp
  ·cases hp:q.policy with
   | nil=>simp
   | cons a l=>
    have hc:=hk (oidN q.policy) (by unfold z1y;rw [hp];simp [opt]);have:=zh0 h2;rw [hp] at this hc;omega
 ·have:=hoid e he;omega
 ·have:=(z64 (h5 e he)).2;omega
 ·have:=zhG (l:=q.exts) (m:=82002) (fun e he=>by have h1:=hoid e he;have h2:=(z64 (h5 e he)).2;omega);have h9:82002*q.exts.length≤82002*32:=Nat.mul_le_mul_left _ h4;omega
end Rq
end Go.Proofs.YtgmppconibklcaaGreatDoor

namespace Go.Proofs.YtgmppconibklcaaGreatDoor
open Go Go.RowKit
theorem NdAt.z7I {w:World} {Av:Nat→Prop} {v:Value} {n:Nd} (h:NdAt w Av v n):∃ (c t:Int) (k:Bool) (A:Option Addr) (nb cb:Nat) (A2:Option Addr) (nk ck:Nat),v = .agg #[.int .i64 c,.int .i64 t,.bool k,.slice A nb cb,.slice A2 nk ck]:=by
 obtain ⟨A,c,A2,c2,rfl⟩:=h.form;exact ⟨_,_,_,_,_,_,_,_,_,rfl⟩
theorem NdAt.all_ {w:World} {Av:Nat→Prop} {a b c d e:Value} {n:Nd} (h:NdAt w Av (.agg #[a,b,c,d,e]) n):z0v w Av [a,b,c,d,e] n.cells:=by
 obtain ⟨vb,vk,h0,hb,hk⟩:=h.ex;injection h0 with h0;have h1:=congrArg Array.toList h0;simp only at h1;injection h1 with e0 h1;injection h1 with e1 h1;injection h1 with e2 h1;injection h1 with e3 h1;injection h1 with e4 h1;subst e0 e1 e2 e3 e4;exact NdAt.all hb hk
theorem Is.lit {V:World} {Av:Nat→Prop} {H:Nat} {t:TypeId} {us:List Value} {l:List Nd} (hB:Blk V H t us.toArray) (ha:z0v V Av us (l.flatMap Nd.cells)) (hH:¬Av H):Is V Av (.slice (some ⟨H,0,none⟩) l.length l.length) (ndsD l):=by
 refine Is.row_ (z1K Nd.z1X l) (by decide) (Nat.le_refl _) ha fun _=>⟨H,0,rfl,hH,fun j u hu=>?_⟩
 rw [Nat.zero_add,hB.cell j];simpa using hu
theorem Is.lit1 {V:World} {Av:Nat→Prop} {H:Nat} {t:TypeId} {a b c d e:Value} {x:Nd} (hB:Blk V H t #[a,b,c,d,e]) (hx:NdAt V Av (.agg #[a,b,c,d,e]) x) (hH:¬Av H):Is V Av (.slice (some ⟨H,0,none⟩) 1 1) (ndsD [x]):=
 Is.lit (us:=[a,b,c,d,e]) (l:=[x]) hB (by simpa using hx.all_) hH
theorem Is.lit2 {V:World} {Av:Nat→Prop} {H:Nat} {t:TypeId} {a b c d e a' b' c' d' e':Value} {x y:Nd} (hB:Blk V H t #[a,b,c,d,e,a',b',c',d',e']) (hx:NdAt V Av (.agg #[a,b,c,d,e]) x) (hy:NdAt V Av (.agg #[a',b',c',d',e']) y) (hH:¬Av H):
  Is V Av (.slice (some ⟨H,0,none⟩) 2 2) (ndsD [x,y]):=
 Is.lit (us:=[a,b,c,d,e,a',b',c',d',e']) (l:=[x,y]) hB (by simpa using hx.all_.app hy.all_) hH
theorem Is.lit3 {V:World} {Av:Nat→Prop} {H:Nat} {t:TypeId} {a b c d e a' b' c' d' e' a2 b2 c2 d2 e2:Value} {x y z:Nd} (hB:Blk V H t #[a,b,c,d,e,a',b',c',d',e',a2,b2,c2,d2,e2]) (hx:NdAt V Av (.agg #[a,b,c,d,e]) x) (hy:NdAt V Av (.agg #[a',b',c',d',e']) y) (hz:NdAt V Av (.agg #[a2,b2,c2,d2,e2]) z) (hH:¬Av H):
  Is V Av (.slice (some ⟨H,0,none⟩) 3 3) (ndsD [x,y,z]):=
 Is.lit (us:=[a,b,c,d,e,a',b',c',d',e',a2,b2,c2,d2,e2]) (l:=[x,y,z]) hB (by simpa using hx.all_.app (hy.all_.app hz.all_)) hH
theorem zhl (n:Nd) (a b:Nat):zkx n (a:Int) (b:Int)=Rq.z0t n a b:=by
 have h1:decide ((a:Int)≤(n.kids.length:Int))=decide (a≤n.kids.length):=by rw [decide_eq_decide];omega
 have h2:decide ((n.kids.length:Int)≤(b:Int))=decide (n.kids.length≤b):=by rw [decide_eq_decide];omega
 unfold zkx Rq.z0t;rw [h1,h2]
theorem z7E {n:Nd} (h:Dr.right n=true) {k:Nat} (hk:k<n.kids.length):Dr.right (Rq.kid n k)=true:=by
 have ek:Rq.kid n k=n.kids[k]:=by unfold Rq.kid;rw [List.getD_eq_getElem?_getD,List.getElem?_eq_getElem hk,Option.getD_some]
 rw [ek];exact Rq.z1x h _ (List.getElem_mem hk)
theorem Fine.kid {n:Nd} (h:Fine n) {k:Nat} (hk:k<n.kids.length):Fine (Rq.kid n k):=by
 have ek:Rq.kid n k=n.kids[k]:=by unfold Rq.kid;rw [List.getD_eq_getElem?_getD,List.getElem?_eq_getElem hk,Option.getD_some]
 have h1:=z4T hk;have h2:=z1w n;have h3:=Dr.z5Y (List.getElem_mem hk);have h4:=Dr.z2d n;have h5:=h.wt;have h6:=h.mx;rw [ek];exact ⟨by omega,by omega⟩
structure N5 (w:World) (g o:Nat) (c t:Int) (k:Bool) (vb vk:Value):Prop where
 c0:w.cell? ⟨g,o,none⟩=some (.int .i64 c)
 c1:w.cell? ⟨g,o+1,none⟩=some (.int .i64 t)
 c2:w.cell? ⟨g,o+2,none⟩=some (.bool k)
 c3:w.cell? ⟨g,o+3,none⟩=some vb
 c4:w.cell? ⟨g,o+4,none⟩=some vk
theorem N5.stays {w w':World} {g o:Nat} {c t:Int} {k:Bool} {vb vk:Value} (h:N5 w g o c t k vb vk) (hb:Below w.heap.size w w'):N5 w' g o c t k vb vk:=
 ⟨z0n hb h.c0,z0n hb h.c1,z0n hb h.c2,z0n hb h.c3,z0n hb h.c4⟩
end Go.Proofs.YtgmppconibklcaaGreatDoor

namespace Go.Proofs.YtgmppconibklcaaGreatDoor
open Go Go.RowKit
namespace Am
abbrev iX (n:Int):E:= .one (.d (.leaf (.int .i64 n)))
abbrev bX (b:Bool):E:= .one (.d (.leaf (.bool b)))
abbrev sX (s:ByteArray):E:= .one (.d (.leaf (.string s)))
abbrev rX (d:D):E:= .one (.d d)
abbrev ndX (n:Nd):E:= .agg [.d (.leaf (.int .i64 n.cls)),.d (.leaf (.int .i64 n.tag)),.d (.leaf (.bool n.cons)),.d (z05 n.bytes),.d (ndsD n.kids)]
abbrev OK (gl:Nat→Option (List D)) (g:FuncId) (args:List E) (t:T):Prop:=z0M Tryz.prog gl Tabs g args [] t [] []
theorem z0I:∀ W0 w:World,Tabs W0→Below W0.heap.size W0 w→Tabs w:=fun W0 w h hb=>Utf8Tabs_below h hb
section
variable {w:World} {Av:Nat→Prop} {G:Gh}
theorem REs.one_ {vs:List Value} {x:E} (h:REs G vs [x]):∃ v,vs=[v]∧RE G v x:=by
 obtain ⟨h1,h2⟩:=h;match vs,h1 with
 | [v],_=>exact ⟨v,rfl,h2 0 v x rfl rfl⟩
theorem REs.two {vs:List Value} {x y:E} (h:REs G vs [x,y]):∃ v u,vs=[v,u]∧RE G v x∧RE G u y:=by
 obtain ⟨h1,h2⟩:=h;match vs,h1 with
 | [v,u],_=>exact ⟨v,u,rfl,h2 0 v x rfl rfl,h2 1 u y rfl rfl⟩
theorem REs.three {vs:List Value} {x y z:E} (h:REs G vs [x,y,z]):∃ v u t,vs=[v,u,t]∧RE G v x∧RE G u y∧RE G t z:=by
 obtain ⟨h1,h2⟩:=h;match vs,h1 with
 | [v,u,t],_=>exact ⟨v,u,t,rfl,h2 0 v x rfl rfl,h2 1 u y rfl rfl,h2 2 t z rfl rfl⟩
theorem REs.z0D {v:Value} {vs:List Value} {x:E} {xs:List E} (h:RE G v x) (k:REs G vs xs):REs G (v::vs) (x::xs):=
 ⟨by simp [k.1],fun j a b ha hb=>by
  match j with
  | 0=>simp at ha hb;subst ha;subst hb;exact h
  | j+1=>exact k.2 j a b (by simpa using ha) (by simpa using hb)⟩
theorem REs.nil_:REs G [] []:=⟨rfl,fun j a b ha=>by simp at ha⟩
theorem RCs.z0D {v:Value} {vs:List Value} {x:C} {xs:List C} (h:RC G v x) (k:RCs G vs xs):RCs G (v::vs) (x::xs):=
 ⟨by simp [k.1],fun j a b ha hb=>by
  match j with
  | 0=>simp at ha hb;subst ha;subst hb;exact h
  | j+1=>exact k.2 j a b (by simpa using ha) (by simpa using hb)⟩
theorem RCs.z2k {vs:List Value} {x:C} {xs:List C} (h:RCs G vs (x::xs)):∃ v vs',vs=v::vs'∧RC G v x∧RCs G vs' xs:=by
 obtain ⟨h1,h2⟩:=h;match vs,h1 with
 | v::vs,h1=>exact ⟨v,vs,rfl,h2 0 v x rfl rfl,by simpa using h1,fun j a b ha hb=>h2 (j+1) a b (by simpa using ha) (by simpa using hb)⟩
theorem RCs.zge {vs:List Value} (h:RCs G vs []):vs=[]:=List.eq_nil_of_length_eq_zero h.1
theorem zal {v:Value} (h:v.oneCell'=true):RT G v (.v v):= .leaf v h
theorem z35 {vs:Array Value} {xs:List E} (h:REs G vs.toList xs):RT G (.tuple vs) (.tup xs):=⟨vs,rfl,h⟩
theorem RD.z16 {im:Im} {u v:Value} (h:RD im u (.leaf v)):u=v:=by cases h;rfl
mutual
theorem zjW:∀ (n:Nd),∀ d,d∈n.cells→DOk d
 | .mk c t k b l,d,h=>by
  rw [Nd.cells] at h;simp only [List.mem_cons,List.not_mem_nil,or_false] at h;rcases h with rfl|rfl|rfl|rfl|rfl
  ·exact .leaf _ rfl
  ·exact .leaf _ rfl
  ·exact .leaf _ rfl
  ·exact .bytes b
  ·exact .row _ _ (z81 l)
theorem z81:∀ (l:List Nd),∀ d,d∈Nd.z6C l→DOk d
 | [],d,h=>by rw [Nd.z6C] at h;cases h
 | n::l,d,h=>by
  rw [Nd.z6C] at h;rcases List.mem_append.1 h with h|h
  ·exact zjW n d h
  ·exact z81 l d h
end
theorem DOk.nds (l:List Nd):DOk (ndsD l):= .row _ _ fun d h=>z81 l d (by rw [Nd.zbX];exact h)
theorem zam {v:Value} {n:Nd} (h:RE (Gw w Av) v (ndX n)):NdAt w Av v n:=by
 obtain ⟨us,rfl,h⟩:=h;obtain ⟨u0,t0,e,h0,h⟩:=h.z2k;obtain ⟨u1,t1,rfl,h1,h⟩:=h.z2k;obtain ⟨u2,t2,rfl,h2,h⟩:=h.z2k;obtain ⟨u3,t3,rfl,h3,h⟩:=h.z2k;obtain ⟨u4,t4,rfl,h4,h⟩:=h.z2k;obtain rfl:=h.zge;have e0:=RD.z16 h0;have e1:=RD.z16 h1;have e2:=RD.z16 h2;subst e0;subst e1;subst e2;obtain ⟨us⟩:=us;simp only at e;subst e;exact NdAt.mk_ (z3f h3) (z3f h4)
theorem z5W {v:Value} {n:Nd} (h:NdAt w Av v n):RE (Gw w Av) v (ndX n):=by
 obtain ⟨vb,vk,rfl,hb,hk⟩:=h.ex;exact ⟨_,rfl,.z0D (.leaf _ rfl) (.z0D (.leaf _ rfl) (.z0D (.leaf _ rfl) (.z0D (z3V hb (.bytes _)) (.z0D (z3V hk (.nds _)) .nil_))))⟩
theorem DOk.lim (l:List Nat):DOk (limD l):= .row _ _ fun d hd=>by
 simp at hd;obtain ⟨x,_,rfl⟩:=hd;exact .leaf _ rfl
end
section
variable {gl:Nat→Option (List D)}
theorem zd6 (n:Nd) (hf:Fine n):OK gl 118 [ndX n] (.tup [iX ((Dr.intOf n).getD 0),bX (Dr.intOf n).isSome]):=
 z0L rfl rfl z0I fun w vals hT hargs=>by
  obtain ⟨v,rfl,h⟩:=hargs.one_;refine (zbO n v _ w (zam h) hf hT).mono ?_;rintro e w' ⟨rfl,hb⟩;exact ⟨_,rfl,z35 (.z0D (.leaf _ rfl) (.z0D (.leaf _ rfl) .nil_)),hb⟩
theorem zd5 (n:Nd) (hf:Fine n):OK gl 126 [ndX n] (.tup [rX (limD (Nt.lim ((Dr.z1D n).getD 0))),bX (Dr.z1D n).isSome]):=
 z0L rfl rfl z0I fun w vals hT hargs=>by
  obtain ⟨v,rfl,h⟩:=hargs.one_;refine (zbM n v _ w (zam h) hf hT).mono ?_;rintro e w' ⟨A,m,c,rfl,hi,hb⟩;exact ⟨_,rfl,z35 (.z0D (z3V hi (.lim _)) (.z0D (.leaf _ rfl) .nil_)),hb⟩
end
end Am
end Go.Proofs.YtgmppconibklcaaGreatDoor

