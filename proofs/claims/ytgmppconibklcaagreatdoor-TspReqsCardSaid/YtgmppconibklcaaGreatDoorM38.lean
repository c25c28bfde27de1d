/- Part of the proof. No condition. -/
import Derived.Test.YtgmppconibklcaaGreatDoorM33
import Derived.Test.YtgmppconibklcaaGreatDoorM37
import Derived.Test.YtgmppconibklcaaGreatDoorM35
import Derived.KernelRfl
import Derived.Test.YtgmppconibklcaaGreatDoorM28
import Derived.Test.YtgmppconibklcaaGreatDoorM16
import Derived.Test.YtgmppconibklcaaGreatDoorM12
import Derived.Test.YtgmppconibklcaaGreatDoorM36
set_option maxHeartbeats 40000000
set_option maxRecDepth 100000
set_option linter.unusedVariables false
set_option linter.unusedSimpArgs false
namespace Go.Proofs.YtgmppconibklcaaGreatDoor
open Go Go.RowKit
namespace Am
variable {gl:Nat→Option (List D)}

theorem zn0 {p:Prop} (h:p:=by
  refine z0d Tryz.func64 rfl (by show 2≤_;decide) ?_;unfold Tryz.f64;dsimp only;exact am_):p:=h
theorem z7F {b:List UInt8} {n:Nd} {f:Int} (hb:b.length≤40000) (hr:Dr.read b=some n) (cO:OK gl 65 [nX n] (.tup [rspX 2 f [],bX true])):OK gl 64 [rX (z04 b),fnX 65] (.tup [rspX 2 f [],iX 0]):=by
 have cR:=z9D (gl:=gl) hb hr;clear hb hr;exact zn0
theorem zbJ {b:List UInt8} {s f e:Int} (c:OK gl 64 [rX (z04 b),fnX 65] (.tup [rspX s f [],iX e])):OK gl 18 [rX (z04 b)] (.tup [rspX s f [],iX e]):=by
 refine z0d Tryz.func18 rfl (by show 1≤_;decide) ?_;unfold Tryz.f18;dsimp only;exact am_
theorem zkB (f:Int) (h:z3C f=true):Dr.read (rejB f)=some (rejN f)∧(rejB f).length≤40000∧OK gl 16 [rspX 2 f []] (.tup [rX (z04 (rejB f)),iX 0])∧OK gl 65 [nX (rejN f)] (.tup [rspX 2 f [],bX true]):=by
 exact ⟨by rcases z1g h with rfl|rfl|rfl|rfl|rfl|rfl|rfl<;>kernel_rfl,by rcases z1g h with rfl|rfl|rfl|rfl|rfl|rfl|rfl<;>decide +kernel,z45 h,zhM h⟩
theorem zkM (f:Int) (h:z3C f=true):OK gl 18 [rX (z04 (rejB f))] (.tup [rspX 2 f [],iX 0]):=by
 obtain ⟨h1,h2,_,h4⟩:=zkB (gl:=gl) f h;exact zbJ (z7F h2 h1 h4)
def z2v:E:= .agg [.d (.leaf (.string ⟨#[]⟩)),.d (.leaf (.string ⟨#[]⟩)),.d (z04 []),.d (z04 []),.d (.leaf (.int .i64 0)),.d (.leaf (.int .i64 0)),.d (.leaf (.int .i64 0)),.d (.leaf (.int .i64 0)),.d (.leaf (.bool false)),.d (z04 [])]
theorem zjQ (q:Rq.Req) (ls:List Nat) (d d1 d2:D) (b:List UInt8) (f:Int) (c:OK gl 18 [rX (z04 b)] (.tup [rspX 2 f [],iX 0])):OK gl 26 [reqY q ls,rX (z04 b),rX d,.agg [.d d1,.d d2],iX 0] (.tup [z2v,iX 90]):=by
 refine z0d Tryz.func26 rfl (by show 5≤_;decide) ?_;unfold Tryz.f26;dsimp only;have z0:=@z2v.eq_def;exact am_
end Am
end Go.Proofs.YtgmppconibklcaaGreatDoor

namespace Go.Proofs.YtgmppconibklcaaGreatDoor
open Go Go.RowKit
theorem Blk.eight {w:World} {g:Nat} {t:TypeId} {c0 c1 c2 c3 c4 c5 c6 c7:Value} (h:Blk w g t #[c0,c1,c2,c3,c4,c5,c6,c7]):(w.cell? ⟨g,0,none⟩=some c0∧w.cell? ⟨g,1,none⟩=some c1∧w.cell? ⟨g,2,none⟩=some c2∧w.cell? ⟨g,3,none⟩=some c3∧w.cell? ⟨g,4,none⟩=some c4∧w.cell? ⟨g,5,none⟩=some c5∧w.cell? ⟨g,6,none⟩=some c6∧w.cell? ⟨g,7,none⟩=some c7)∧∀ k,w.frozen? ⟨g,k,none⟩=false:=⟨⟨h.cell 0,h.cell 1,h.cell 2,h.cell 3,h.cell 4,h.cell 5,h.cell 6,h.cell 7⟩,fun k=>h.frozen k⟩
theorem zcZ (w:World):
  Calls Tryz.prog 106 #[.int .i64 256] w fun e w'=>∃ t p,e = .returned (.iface t (.pointer (some p)))∧Below w.heap.size w w':=by
 go_enter Tryz.func106,Tryz.ntmps106
 go_wp2_with fail
 go_loopw [5,6,14] (fun t5 t6 t14 wr=>∃ (i:Int) (c0 c1 c2 c3 c4 c5 c6 c7:Value),t14 = .int .i64 i∧(0≤i∧i≤8)∧Hid (Blk wr (w.heap.size+1) 228 #[c0,c1,c2,c3,c4,c5,c6,c7]∧Below w.heap.size w wr)) (fun _ _ t14 _=>8-(intOf t14).toNat)
 case atStart=>
  refine ⟨0,.int .u32 0,.int .u32 0,.int .u32 0,.int .u32 0,.int .u32 0,.int .u32 0,.int .u32 0,.int .u32 0,rfl,by omega,?_⟩;have hsz:(w.alloc (.cells #[Value.int IntKind.u64 7640891576956012808,Value.int IntKind.u64 13503953896175478587,Value.int IntKind.u64 4354685564936845355,Value.int IntKind.u64 11912009170470909681,Value.int IntKind.u64 5840696475078001361,Value.int IntKind.u64 11170449401992604703,Value.int IntKind.u64 2270897969802886507,Value.int IntKind.u64 6620516959819538809] 224)).heap.size=w.heap.size+1:=by unfold World.alloc;rw [Array.size_push]
  refine ⟨?_,?_⟩
  ·rw [←hsz];exact Blk.new _ _ _
  ·exact ((Below.refl _ w).alloc (Nat.le_refl _) _).alloc (by omega) _
 case round=>
  obtain ⟨i,c0,c1,c2,c3,c4,c5,c6,c7,rfl,hi,HI⟩:=hrel;obtain ⟨⟨d0,d1,d2,d3,d4,d5,d6,d7⟩,hfz⟩:=HI.out.1.eight;have hlt:w.heap.size<wr.heap.size:=by have:=HI.out.1.lt;omega
  obtain rfl|rfl|rfl|rfl|rfl|rfl|rfl|rfl|rfl:i=0∨i=1∨i=2∨i=3∨i=4∨i=5∨i=6∨i=7∨i=8:=by omega
  ·have z0:=hfz 0;have i0:∀ w,(Instr.index 224 (.agg #[.int .u64 7640891576956012808,.int .u64 13503953896175478587,.int .u64 4354685564936845355,.int .u64 11912009170470909681,.int .u64 5840696475078001361,.int .u64 11170449401992604703,.int .u64 2270897969802886507,.int .u64 6620516959819538809]) (.int .i64 0)).run Tryz.prog w = .ok (.int .u64 7640891576956012808) w:=fun _=>by kernel_rfl
   go_wp2_with fail
   refine ⟨⟨1,_,_,_,_,_,_,_,_,rfl,by omega,⟨HI.out.1.set_ 0 _,HI.out.2.setCell (p:=⟨w.heap.size+1,0,none⟩) (Nat.le_succ _) _⟩⟩,by decide⟩
  ·have z1:=hfz 1;have i0:∀ w,(Instr.index 224 (.agg #[.int .u64 7640891576956012808,.int .u64 13503953896175478587,.int .u64 4354685564936845355,.int .u64 11912009170470909681,.int .u64 5840696475078001361,.int .u64 11170449401992604703,.int .u64 2270897969802886507,.int .u64 6620516959819538809]) (.int .i64 1)).run Tryz.prog w = .ok (.int .u64 13503953896175478587) w:=fun _=>by kernel_rfl
   go_wp2_with fail
   refine ⟨⟨2,_,_,_,_,_,_,_,_,rfl,by omega,⟨HI.out.1.set_ 1 _,HI.out.2.setCell (p:=⟨w.heap.size+1,1,none⟩) (Nat.le_succ _) _⟩⟩,by decide⟩
  ·have z2:=hfz 2;have i0:∀ w,(Instr.index 224 (.agg #[.int .u64 7640891576956012808,.int .u64 13503953896175478587,.int .u64 4354685564936845355,.int .u64 11912009170470909681,.int .u64 5840696475078001361,.int .u64 11170449401992604703,.int .u64 2270897969802886507,.int .u64 6620516959819538809]) (.int .i64 2)).run Tryz.prog w = .ok (.int .u64 4354685564936845355) w:=fun _=>by kernel_rfl
   go_wp2_with fail
   refine ⟨⟨3,_,_,_,_,_,_,_,_,rfl,by omega,⟨HI.out.1.set_ 2 _,HI.out.2.setCell (p:=⟨w.heap.size+1,2,none⟩) (Nat.le_succ _) _⟩⟩,by decide⟩
  ·have z3:=hfz 3;have i0:∀ w,(Instr.index 224 (.agg #[.int .u64 7640891576956012808,.int .u64 13503953896175478587,.int .u64 4354685564936845355,.int .u64 11912009170470909681,.int .u64 5840696475078001361,.int .u64 11170449401992604703,.int .u64 2270897969802886507,.int .u64 6620516959819538809]) (.int .i64 3)).run Tryz.prog w = .ok (.int .u64 11912009170470909681) w:=fun _=>by kernel_rfl
   go_wp2_with fail
   refine ⟨⟨4,_,_,_,_,_,_,_,_,rfl,by omega,⟨HI.out.1.set_ 3 _,HI.out.2.setCell (p:=⟨w.heap.size+1,3,none⟩) (Nat.le_succ _) _⟩⟩,by decide⟩
  ·have z4:=hfz 4;have i0:∀ w,(Instr.index 224 (.agg #[.int .u64 7640891576956012808,.int .u64 13503953896175478587,.int .u64 4354685564936845355,.int .u64 11912009170470909681,.int .u64 5840696475078001361,.int .u64 11170449401992604703,.int .u64 2270897969802886507,.int .u64 6620516959819538809]) (.int .i64 4)).run Tryz.prog w = .ok (.int .u64 5840696475078001361) w:=fun _=>by kernel_rfl
   go_wp2_with fail
   refine ⟨⟨5,_,_,_,_,_,_,_,_,rfl,by omega,⟨HI.out.1.set_ 4 _,HI.out.2.setCell (p:=⟨w.heap.size+1,4,none⟩) (Nat.le_succ _) _⟩⟩,by decide⟩
  ·have z5:=hfz 5;have i0:∀ w,(Instr.index 224 (.agg #[.int .u64 7640891576956012808,.int .u64 13503953896175478587,.int .u64 4354685564936845355,.int .u64 11912009170470909681,.int .u64 5840696475078001361,.int .u64 11170449401992604703,.int .u64 2270897969802886507,.int .u64 6620516959819538809]) (.int .i64 5)).run Tryz.prog w = .ok (.int .u64 11170449401992604703) w:=fun _=>by kernel_rfl
   go_wp2_with fail
   refine ⟨⟨6,_,_,_,_,_,_,_,_,rfl,by omega,⟨HI.out.1.set_ 5 _,HI.out.2.setCell (p:=⟨w.heap.size+1,5,none⟩) (Nat.le_succ _) _⟩⟩,by decide⟩
  ·have z6:=hfz 6;have i0:∀ w,(Instr.index 224 (.agg #[.int .u64 7640891576956012808,.int .u64 13503953896175478587,.int .u64 4354685564936845355,.int .u64 11912009170470909681,.int .u64 5840696475078001361,.int .u64 11170449401992604703,.int .u64 2270897969802886507,.int .u64 6620516959819538809]) (.int .i64 6)).run Tryz.prog w = .ok (.int .u64 2270897969802886507) w:=fun _=>by kernel_rfl
   go_wp2_with fail
   refine ⟨⟨7,_,_,_,_,_,_,_,_,rfl,by omega,⟨HI.out.1.set_ 6 _,HI.out.2.setCell (p:=⟨w.heap.size+1,6,none⟩) (Nat.le_succ _) _⟩⟩,by decide⟩
  ·have z7:=hfz 7;have i0:∀ w,(Instr.index 224 (.agg #[.int .u64 7640891576956012808,.int .u64 13503953896175478587,.int .u64 4354685564936845355,.int .u64 11912009170470909681,.int .u64 5840696475078001361,.int .u64 11170449401992604703,.int .u64 2270897969802886507,.int .u64 6620516959819538809]) (.int .i64 7)).run Tryz.prog w = .ok (.int .u64 6620516959819538809) w:=fun _=>by kernel_rfl
   go_wp2_with fail
   refine ⟨⟨8,_,_,_,_,_,_,_,_,rfl,by omega,⟨HI.out.1.set_ 7 _,HI.out.2.setCell (p:=⟨w.heap.size+1,7,none⟩) (Nat.le_succ _) _⟩⟩,by decide⟩
  ·go_wp2_with fail
   go_ret
   exact ⟨_,_,rfl,HI.out.2⟩
theorem zg4 (w:World):
  Calls Tryz.prog 52 #[.int .i64 256] w fun e w'=>e = .returned (.int .i64 32)∧Below w.heap.size w w':=by
 go_enter Tryz.func52,Tryz.ntmps52
 go_wp2_with fail
 refine (zcZ w).mono ?_;rintro e w1 ⟨t,p,rfl,hb⟩
 go_wp2_with fail
 go_ret
 exact ⟨rfl,hb⟩
end Go.Proofs.YtgmppconibklcaaGreatDoor

namespace Go.Proofs.YtgmppconibklcaaGreatDoor
open Go Go.RowKit
namespace Am
variable {gl:Nat→Option (List D)}
def alg256:List UInt8:=[50,46,49,54,46,56,52,48,46,49,46,49,48,49,46,51,46,52,46,50,46,49]
theorem z8Q:OK gl 52 [iX 256] (.i .i64 32):=
 z0v rfl rfl z0q fun w vals hT hargs=>by
  obtain ⟨v,rfl,h⟩:=hargs.one_;have e:=RD.z0M h;subst e;refine (zg4 w).mono ?_;rintro e w' ⟨rfl,hb⟩;exact ⟨_,rfl,z4v rfl,hb⟩
theorem zhy:OK gl 105 [iX 256] (.s ⟨#[50,46,49,54,46,56,52,48,46,49,46,49,48,49,46,51,46,52,46,50,46,49]⟩):=by
 refine z0d Tryz.func105 rfl (by show 1≤_;decide) ?_;unfold Tryz.f105;dsimp only;exact am_
theorem zko:OK gl 51 [sX ⟨#[50,46,49,54,46,56,52,48,46,49,46,49,48,49,46,51,46,52,46,50,46,49]⟩] (.i .i64 256):=by
 have c:=zhy (gl:=gl);generalize (⟨#[50,46,49,54,46,56,52,48,46,49,46,49,48,49,46,51,46,52,46,50,46,49]⟩:ByteArray)=a at c ⊢;refine z0d Tryz.func51 rfl (by show 1≤_;decide) ?_;unfold Tryz.f51;dsimp only;repeat' (first
  | (first|refine sq_ ?_|refine bk_ ?_)
  | ((first|refine rg_ fun Q hQ=>?_|refine if_ fun Q hQ=>?_|refine ca_ ?_|show EndK _ _ _ _ _ _ _ _);simp -implicitDefEqProofs [*])
  | ((first|refine bs_ ?_ ?_|refine cs_ ?_ ?_)<;>(intro hc;have hb:=hc;(try simp only [hk_,ne_eq] at hc);(try have ⟨hc1,hc2⟩:_∧_:=hc);(try subst_vars))<;>first|contradiction|(exfalso;omega)|(simp -implicitDefEqProofs [*])|skip)
  | ((first|refine aq_ ?_|refine z05 ?_|refine z06 ?_|refine z07 ?_);try simp only [sk_,↓reduceIte,Nat.reduceEqDiff])
  | ((with_reducible show OptK _ _);(simp (disch:=omega) only [if_pos,if_neg]);(try (simp -implicitDefEqProofs [*]))))
 refine z6O ?_;exact am_
theorem znJ (im:List UInt8) (d2 d3 d4 d5 d6:D) (h:im.length=32):OK gl 14 [.agg [.d (.leaf (.string ⟨#[50,46,49,54,46,56,52,48,46,49,46,49,48,49,46,51,46,52,46,50,46,49]⟩)),.d (z04 im),.d d2,.d d3,.d d4,.d d5,.d d6]] (.b true):=by
 have c1:=zko (gl:=gl);have c2:=z8Q (gl:=gl);generalize (⟨#[50,46,49,54,46,56,52,48,46,49,46,49,48,49,46,51,46,52,46,50,46,49]⟩:ByteArray)=a at c1 ⊢;refine z0d Tryz.func14 rfl (by show 1≤_;decide) ?_;unfold Tryz.f14;dsimp only;have d2:Drw 2 [1,3] [16,97]:=⟨⟩;exact am_
end Am
end Go.Proofs.YtgmppconibklcaaGreatDoor

namespace Go.Proofs.YtgmppconibklcaaGreatDoor
open Go Go.RowKit
namespace Am
variable {gl:Nat→Option (List D)}
theorem dCtx1 (a:Nd) (l:List Nd) (hz:Dr.wts (a::l)≤10000000):z0S Tryz.prog gl Tabs 35 [iX 2,iX 0,rX (ndR (a::l))] [] (.e (.agg [.d (.leaf (.int .i64 2)),.d (.leaf (.int .i64 0)),.d (.leaf (.bool true)),.nilS,.gr 14 5 (ndL (a::l))])) [.own 61 5 (l.length+1)] []:=dCons 2 0 (a::l) hz
theorem dTrue:OK gl 34 [iX 1,.one (.d (.row 1 [.leaf (.int .u8 255)]))] (.e (nX Rq.z1u)):=dPrim 1 [255] (by decide)
theorem zeb (p:UInt8) (ps:List UInt8):((⟨(p::ps).toArray⟩:ByteArray)==⟨#[]⟩)=false:=by
 show ((p::ps).toArray==#[])=false;simp
theorem zbd (q:Rq.Req) (ls:List Nat) (hf:Rq.zjR q) (hL:Nt.Lb ls) (hv:Nt.vl ls=q.nonce) (hls:ls.length≤100000):OK gl 8 [reqY q ls] (.tup [rX (z04 (if Rq.z0i q then (Dr.put (Rq.node q)).getD [] else [])),iX (if Rq.z0i q then 0 else 60)]):=by
 have hW:Rq.z0i q=true→Fine (Rq.node q)∧Dr.write (Rq.node q)=((Dr.put (Rq.node q)).getD [],0):=fun hr=>by
  have h1:=hf.node hr;have h2:=Rq.mx_wt (Rq.node q);obtain ⟨o,ho,hwo,_⟩:=Rq.z69 hr (by unfold Rq.z2r;have h1:=hf.alg;have h2:=hf.impr;have h3:=hf.pol;have h4:=hf.sz;omega);exact ⟨⟨by omega,by omega⟩,by rw [hwo,ho];rfl⟩
 obtain ⟨⟨h1,h2,h3,h4,h5,h6⟩,h7,_⟩:=hf;obtain ⟨alg,impr,pol,has,nonce,cert,exts⟩:=q;simp only at h1 h2 h3 h4 h5 h6 h7 hv;have cI:=zkk (gl:=gl) alg impr (by omega) (by omega);have cE:=zja (gl:=gl) exts (fun e he=>⟨h4 e he,h5 e he⟩) (by omega);have cN:=tNonce (gl:=gl) has ls hL (by omega);rw [hv] at cN;have cA:=dNat (gl:=gl) ls hL (by omega);rw [hv] at cA;have c1:=dInt (gl:=gl) 1 (by decide) (by decide);have hz2:Dr.wts [Dr.intN 1,Rq.impN alg impr]≤10000000:=by
  have g1:=Rq.zhf alg impr;have g2:Dr.wt (Dr.intN 1)≤100:=by decide
  simp only [Dr.wts];omega
 have cS:=zmz (gl:=gl) _ _ hz2;have cO:=tOid (gl:=gl) pol (by omega);have hz3:Dr.wts (exts.map Rq.exN)≤10000000:=by have g1:=Rq.zhg exts;omega
 have hlen:exts.length≤10000:=h6;clear h1 h2 h3 h4 h5 h6 h7 hL hv hls hz2;unfold z4G at cE;by_cases hr:Rq.z0i ⟨alg,impr,pol,has,nonce,cert,exts⟩=true
 ·have hp:=hr;unfold Rq.z0i at hp;simp only [Bool.and_eq_true] at hp;obtain ⟨⟨⟨hA,hO⟩,hN⟩,hE⟩:=hp;rw [hA] at cI;rw [hE] at cE;rw [hN] at cN;simp only [if_true] at cE;obtain ⟨hW1,hW2⟩:=hW hr;have cW:∀ (c t:Int) (k:Bool) (b:List UInt8) (l:List Nd),Nd.mk c t k b l=Rq.node ⟨alg,impr,pol,has,nonce,cert,exts⟩→OK gl 36 [.agg [.d (.leaf (.int .i64 c)),.d (.leaf (.int .i64 t)),.d (.leaf (.bool k)),.d (z04 b),.d (ndR l)]] (.tup [rX (z04 ((Dr.put (Rq.node ⟨alg,impr,pol,has,nonce,cert,exts⟩)).getD [])),iX 0]):=fun c t k b l h=>by
   have:=zaL (gl:=gl) _ hW1 c t k b l h
   rwa [hW2] at this
  simp only [hr,if_true];clear hW hW1 hW2 hr hA hN hE;generalize (Dr.put (Rq.node ⟨alg,impr,pol,has,nonce,cert,exts⟩)).getD []=out at *;have cW:∀ (c t:Int) (k:Bool) (b:List UInt8) (l:List Nd),Nd.mk c t k b l=Dr.seq (Dr.intN 1::Rq.impN alg impr::Rq.z1B ⟨alg,impr,pol,has,nonce,cert,exts⟩)→_:=cW;have hC:∀ a l,exts.map Rq.exN=a::l→z0S Tryz.prog gl Tabs 35 [iX 2,iX 0,rX (ndR (a::l))] [] (.e (.agg [.d (.leaf (.int .i64 2)),.d (.leaf (.int .i64 0)),.d (.leaf (.bool true)),.nilS,.gr 14 5 (ndL (a::l))])) [.own 61 5 (l.length+1)] []:=fun a l h=>dCtx1 a l (by rw [←h];exact hz3)
  clear hz3;rcases exts with _|⟨e,es⟩<;>rcases pol with _|⟨p,ps⟩<;>cases has<;>cases cert
  all_goals
   (try have hp:=zeb p ps)
   (try have hO:Rq.z1p (p::ps)=true:=hO)
   (try rw [hO] at cO)
   (try have cC:=hC _ _ rfl)
   clear hC;refine z0d Tryz.func8 rfl (by show 1≤_;decide) ?_;unfold Tryz.f8;dsimp only;repeat' (first
    | (first|refine sq_ ?_|refine bk_ ?_)
    | ((first|refine rg_ fun Q hQ=>?_|refine if_ fun Q hQ=>?_|refine dr_ (id:=5) [1,4,6] [16,64,257,353,577] (by kernel_rfl) fun Q hQ=>?_|refine dr_ (id:=12) [1,6,8] [16,128,257,353,577,625,656,673,785,912,928] (by kernel_rfl) fun Q hQ=>?_|refine dr_ (id:=14) [6,8] [128,257,353,577,625,656,673,785,912,928,1057,1072,1088] (by kernel_rfl) fun Q hQ=>?_|refine dr_ (id:=16) [6,8] [128,257,353,577,625,656,673,785,912,928,1057,1072,1088,1184,1201,1216,1232] (by kernel_rfl) fun Q hQ=>?_|refine ca_ ?_|refine ce_ ?_ ?_|refine ct_ (dTrue) ?_|refine cd_ (dTrue) ?_ ?_|refine ct_ (cW _ _ _ _ _ (by simp [Rq.z1B,Rq.opt,Dr.seq,Rq.ctxN])) ?_|refine cd_ (cW _ _ _ _ _ (by simp [Rq.z1B,Rq.opt,Dr.seq,Rq.ctxN])) ?_ ?_|show EndK _ _ _ _ _ _ _ _);simp -implicitDefEqProofs [*,z08,Rq.z1B,Rq.opt,Dr.seq,Rq.ctxN])
    | ((first|refine bs_ ?_ ?_|refine cs_ ?_ ?_)<;>(intro hc;have hb:=hc;(try simp only [hk_,ne_eq] at hc);(try have ⟨hc1,hc2⟩:_∧_:=hc);(try subst_vars))<;>first|contradiction|(exfalso;omega)|(simp -implicitDefEqProofs [*,z08,Rq.z1B,Rq.opt,Dr.seq,Rq.ctxN])|skip)
    | ((first|refine aq_ ?_|refine z05 ?_|refine z06 ?_|refine z07 ?_);try simp only [sk_,↓reduceIte,Nat.reduceEqDiff])
    | (first|exact z0h|refine cn_ (by decide) ?_|refine cc_ (by intro e1 e2 e3;simp_all) ?_|refine And.intro (by decide +kernel) ?_)
    | ((with_reducible show OptK _ _);(simp (disch:=omega) only [if_pos,if_neg]);(try (simp -implicitDefEqProofs [*,z08,Rq.z1B,Rq.opt,Dr.seq,Rq.ctxN]))))
 ·have hr:Rq.z0i ⟨alg,impr,pol,has,nonce,cert,exts⟩=false:=by simpa using hr
  have hpo:Rq.z2z alg impr=true→Rq.z0N exts=true→Rq.z0s has nonce=true→∃ p ps,pol=p::ps∧Rq.z1p (p::ps)=false:=fun a b c=>by
   unfold Rq.z0i at hr;simp only [a,b,c,Bool.true_and,Bool.and_true] at hr;cases pol with
   | nil=>cases hr
   | cons p ps=>exact ⟨p,ps,rfl,by simpa using hr⟩
  simp only [hr,Bool.false_eq_true,if_false];clear hW hz3 cA hr;cases hA:Rq.z2z alg impr<;>cases hE:Rq.z0N exts<;>cases hN:Rq.z0s has nonce;all_goals
   rw [hA] at cI;rw [hE] at cE;rw [hN] at cN;simp only [if_true,Bool.false_eq_true,if_false] at cE
   (try (have q:=hpo hA hE hN;obtain ⟨p,ps,rfl,hO⟩:=q;have hp:=zeb p ps;rw [hO] at cO;clear hO))
   clear hpo hA hE hN;refine z0d Tryz.func8 rfl (by show 1≤_;decide) ?_;unfold Tryz.f8;dsimp only;have d5:Drw 5 [1,4,6] [16,64,257,353,577]:=⟨⟩;have d12:Drw 12 [1,6,8] [16,128,257,353,577,625,656,673,785,912,928]:=⟨⟩;have d14:Drw 14 [6,8] [128,257,353,577,625,656,673,785,912,928,1057,1072,1088]:=⟨⟩;have d16:Drw 16 [6,8] [128,257,353,577,625,656,673,785,912,928,1057,1072,1088,1184,1201,1216,1232]:=⟨⟩;exact ama_
end Am
end Go.Proofs.YtgmppconibklcaaGreatDoor

