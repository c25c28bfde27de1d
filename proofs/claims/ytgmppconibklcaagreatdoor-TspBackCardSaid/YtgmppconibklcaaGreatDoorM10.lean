/- Part of the proof of TspBack. No condition: lemmas alone. -/
import Derived.Test.YtgmppconibklcaaGreatDoorM9
import Derived.PlainAid
import Derived.Lib.UnsafeStr
import Derived.Lib.Bytealg
import Derived.Lib.Strings
import Derived.Lib.DecodeNEq
set_option linter.unusedVariables false
set_option linter.unusedSimpArgs false
namespace Go.Proofs.YtgmppconibklcaaGreatDoor
namespace Tm
def clk (m d s:Nat):List UInt8:=Dig.dgs m 2++Dig.dgs d 2++Dig.dgs (s / 3600) 2++Dig.dgs (s / 60%60) 2++Dig.dgs (s%60) 2
def yr (y width:Nat):Nat:=if width=2 then y%100 else y
def txt (y m d s width:Nat):List UInt8:=Dig.dgs (yr y width) width++clk m d s
theorem z9r (y m d s width:Nat):(txt y m d s width).length≤120:=by
 unfold txt clk;have:=Dig.z0j (yr y width) width;have:=Dig.z0j m 2;have:=Dig.z0j d 2;have:=Dig.z0j (s / 3600) 2;have:=Dig.z0j (s / 60%60) 2;have:=Dig.z0j (s%60) 2;simp only [List.length_append];omega
def z1c (l:List UInt8):List UInt8:=(l.reverse.dropWhile (·==48)).reverse
theorem zfc:z1c []=[]:=rfl
theorem z1R (l:List UInt8):z1c (l++[48])=z1c l:=by simp [z1c]
theorem z1t (l:List UInt8) (c:UInt8) (h:c≠48):z1c (l++[c])=l++[c]:=by
 simp [z1c,h]
theorem zff (L:List UInt8) (k:Nat) (hk:k<L.length) (h:L[k]=48):z1c (L.take (k+1))=z1c (L.take k):=by
 rw [List.take_succ_eq_append_getElem hk,h,z1R]
theorem zfd (L:List UInt8) (k:Nat) (hk:k<L.length) (h:L[k]≠48):z1c (L.take (k+1))=L.take (k+1):=by
 rw [List.take_succ_eq_append_getElem hk,z1t _ _ h]
theorem zfe (a D:List UInt8):z1c (a++46::D)=a++46::z1c D:=by
 have key:∀ n (D:List UInt8),D.length=n→z1c (a++46::D)=a++46::z1c D:=by
  intro n;induction n with
  | zero=>
   intro D hD;rw [List.eq_nil_of_length_eq_zero hD];exact z1t a 46 (by decide)
  | succ n ih=>
   intro D hD;rcases List.eq_nil_or_concat D with h|⟨D',c,h⟩
   ·subst h;simp at hD
   ·subst h;rw [List.concat_eq_append] at hD ⊢;by_cases hc:c=48
    ·subst hc;rw [z1R,show a++46::(D'++[48])=(a++46::D')++[48] by simp,z1R];exact ih D' (by simpa using hD)
    ·rw [z1t _ _ hc,show a++46::(D'++[c])=(a++46::D')++[c] by simp,z1t _ _ hc]
 exact key _ D rfl
def long (y m d s u:Nat):List UInt8:=if u=0 then txt y m d s 4++[90] else z1c (txt y m d s 4++46::Dig.dgs u 6)++[90]
def short (y m d s:Nat):List UInt8:=txt y m d s 2++[90]
end Tm
end Go.Proofs.YtgmppconibklcaaGreatDoor

namespace Go.Proofs.YtgmppconibklcaaGreatDoor
namespace Pr
open Go.PlainAid
def lb (l:List UInt8) (k:Nat):Int:=((l.getD k 0).toNat:Int)
def AtOk (y m d h i s:Int):Prop:=0≤y∧y≤9999∧1≤m∧m≤12∧1≤d∧d≤Cal.dim y m∧0≤h∧h≤23∧0≤i∧i≤59∧0≤s∧s≤59
instance (y m d h i s:Int):Decidable (AtOk y m d h i s):=by unfold AtOk;infer_instance
def atT (y m d h i s:Int):Int:=Cal.num y m d*86400-62167219200+h*3600+i*60+s
def atO (y m d h i s:Int):Option Int:=if AtOk y m d h i s then some (atT y m d h i s) else none
def tw (l:List UInt8) (k:Nat):Int:=if 48≤lb l k∧lb l k≤57∧48≤lb l (k+1)∧lb l (k+1)≤57 then (lb l k-48)*10+(lb l (k+1)-48) else -1
theorem z6J (l:List UInt8) (k:Nat): -1≤tw l k∧tw l k≤99:=by unfold tw;split<;>omega
def momO (y:Int) (l:List UInt8) (k:Nat):Option Int:=atO y (tw l k) (tw l (k+2)) (tw l (k+4)) (tw l (k+6)) (tw l (k+8))
def z1Q (c:UInt8):Bool:=decide (48≤c.toNat∧c.toNat≤57)
def val (l:List UInt8):Nat:=l.foldl (fun n c=>n*10+(c.toNat-48)) 0
def z6h (l:List UInt8):Option Int:=
 if l.length=13∧lb l 12=90∧0≤tw l 0 then momO (if tw l 0<50 then 2000+tw l 0 else 1900+tw l 0) l 2 else none
def frac (l:List UInt8):List UInt8:=(l.drop 15).take (l.length-16)++List.replicate (22-l.length) 48
def Form (l:List UInt8):Prop:=15≤l.length∧l.length≤22∧l.length≠16∧lb l (l.length-1)=90∧(15<l.length→lb l 14=46∧lb l (l.length-2)≠48∧(frac l).all z1Q=true)
instance (l:List UInt8):Decidable (Form l):=by unfold Form;infer_instance
def z1q (l:List UInt8):Option (Int×Int):=
 if Form l∧0≤tw l 0∧0≤tw l 2 then (match momO (tw l 0*100+tw l 2) l 4 with
  | some t=>some (t,if l.length=15 then 0 else (val (frac l):Int))
  | none=>none) else none
theorem dgs2 {n:Nat} (h:n<100):Dig.dgs n 2=[Dig.dig (n / 10),Dig.dig n]:=by
 unfold Dig.dgs;rw [Dig.z0o _ _ _ (by omega),Dig.z0o _ _ _ (by omega),Dig.z0A _ _ _ (by omega)];rfl
theorem dgs4 {n:Nat} (h:n<10000):Dig.dgs n 4=[Dig.dig (n / 10 / 10 / 10),Dig.dig (n / 10 / 10),Dig.dig (n / 10),Dig.dig n]:=by
 unfold Dig.dgs;rw [Dig.z0o _ _ _ (by omega),Dig.z0o _ _ _ (by omega),Dig.z0o _ _ _ (by omega),Dig.z0o _ _ _ (by omega),Dig.z0A _ _ _ (by omega)];rfl
theorem dgs6 {n:Nat} (h:n<1000000):Dig.dgs n 6=[Dig.dig (n / 10 / 10 / 10 / 10 / 10),Dig.dig (n / 10 / 10 / 10 / 10),Dig.dig (n / 10 / 10 / 10),Dig.dig (n / 10 / 10),Dig.dig (n / 10),Dig.dig n]:=by
 unfold Dig.dgs;rw [Dig.z0o _ _ _ (by omega),Dig.z0o _ _ _ (by omega),Dig.z0o _ _ _ (by omega),Dig.z0o _ _ _ (by omega),Dig.z0o _ _ _ (by omega),Dig.z0o _ _ _ (by omega),Dig.z0A _ _ _ (by omega)];rfl
theorem z4O {c:UInt8} {n:Nat} (h:48≤c.toNat∧c.toNat≤57) (e:n%10=c.toNat-48):Dig.dig n=c:=by
 apply UInt8.toNat_inj.1;rw [Dig.z1g];omega
theorem zhR (n:Nat):((Dig.dig n).toNat:Int)=48+(n%10:Nat):=by rw [Dig.z1g];omega
theorem zgf {y m d s:Nat} (hy:y<10000) (hm:m<100) (hd:d<100) (hs:s<86400):Tm.txt y m d s 4 =
  [Dig.dig (y / 10 / 10 / 10),Dig.dig (y / 10 / 10),Dig.dig (y / 10),Dig.dig y,Dig.dig (m / 10),Dig.dig m,Dig.dig (d / 10),Dig.dig d,Dig.dig (s / 3600 / 10),Dig.dig (s / 3600),Dig.dig (s / 60%60 / 10),Dig.dig (s / 60%60),Dig.dig (s%60 / 10),Dig.dig (s%60)]:=by
 unfold Tm.txt Tm.clk Tm.yr;rw [if_neg (by decide),dgs4 hy,dgs2 hm,dgs2 hd,dgs2 (by omega),dgs2 (by omega),dgs2 (by omega)];rfl
theorem z74 {l:List UInt8} {k n:Nat} (h0:l.getD k 0=Dig.dig (n / 10)) (h1:l.getD (k+1) 0=Dig.dig n) (hn:n<100):tw l k=n:=by
 unfold tw lb;rw [h0,h1,zhR,zhR,if_pos (by omega)];omega
theorem at_ok {y m d s:Nat} {t:Int} (h:Cal.Is ((t+62167219200) / 86400) y m d) (hs:(s:Int)=(t+62167219200)%86400):atO y m d (s / 3600:Nat) (s / 60%60:Nat) (s%60:Nat)=some t:=by
 obtain ⟨y0,y1,m0,m1,d0,d1,hn⟩:=h;have e:(s:Int)=(s / 3600:Nat)*3600+(s / 60%60:Nat)*60+(s%60:Nat):=by omega
 unfold atO atT;rw [if_pos ⟨y0,y1,m0,m1,d0,d1,by omega,by omega,by omega,by omega,by omega,by omega⟩,hn]
 congr 1;omega
theorem zha {y m d s:Nat} {t:Int} (h:Cal.Is ((t+62167219200) / 86400) y m d) (hs:(s:Int)=(t+62167219200)%86400) (r:List UInt8):
  tw (Tm.txt y m d s 4++r) 0*100+tw (Tm.txt y m d s 4++r) 2=y∧0≤tw (Tm.txt y m d s 4++r) 0∧0≤tw (Tm.txt y m d s 4++r) 2∧momO y (Tm.txt y m d s 4++r) 4=some t:=by
 have a1:=h.y1;have a2:=h.m1;have a3:=h.d1;have a4:=Cal.z6w y m;rw [zgf (by omega) (by omega) (by omega) (by omega)];have t0:tw ([Dig.dig (y / 10 / 10 / 10),Dig.dig (y / 10 / 10),Dig.dig (y / 10),Dig.dig y,Dig.dig (m / 10),Dig.dig m,Dig.dig (d / 10),Dig.dig d,Dig.dig (s / 3600 / 10),Dig.dig (s / 3600),Dig.dig (s / 60%60 / 10),Dig.dig (s / 60%60),Dig.dig (s%60 / 10),Dig.dig (s%60)]++r) 0=(y / 10 / 10:Nat):=z74 rfl rfl (by omega);have t1:tw ([Dig.dig (y / 10 / 10 / 10),Dig.dig (y / 10 / 10),Dig.dig (y / 10),Dig.dig y,Dig.dig (m / 10),Dig.dig m,Dig.dig (d / 10),Dig.dig d,Dig.dig (s / 3600 / 10),Dig.dig (s / 3600),Dig.dig (s / 60%60 / 10),Dig.dig (s / 60%60),Dig.dig (s%60 / 10),Dig.dig (s%60)]++r) 2=(y%100:Nat):=by
  refine z74 (n:=y%100) ?_ ?_ (by omega)
  ·show Dig.dig (y / 10)=_;exact z4O (by rw [Dig.z1g];omega) (by rw [Dig.z1g];omega) |>.symm
  ·show Dig.dig y=_;exact z4O (by rw [Dig.z1g];omega) (by rw [Dig.z1g];omega) |>.symm
 have t2:tw ([Dig.dig (y / 10 / 10 / 10),Dig.dig (y / 10 / 10),Dig.dig (y / 10),Dig.dig y,Dig.dig (m / 10),Dig.dig m,Dig.dig (d / 10),Dig.dig d,Dig.dig (s / 3600 / 10),Dig.dig (s / 3600),Dig.dig (s / 60%60 / 10),Dig.dig (s / 60%60),Dig.dig (s%60 / 10),Dig.dig (s%60)]++r) 4=m:=z74 rfl rfl (by omega);have t3:tw ([Dig.dig (y / 10 / 10 / 10),Dig.dig (y / 10 / 10),Dig.dig (y / 10),Dig.dig y,Dig.dig (m / 10),Dig.dig m,Dig.dig (d / 10),Dig.dig d,Dig.dig (s / 3600 / 10),Dig.dig (s / 3600),Dig.dig (s / 60%60 / 10),Dig.dig (s / 60%60),Dig.dig (s%60 / 10),Dig.dig (s%60)]++r) 6=d:=z74 rfl rfl (by omega);have t4:tw ([Dig.dig (y / 10 / 10 / 10),Dig.dig (y / 10 / 10),Dig.dig (y / 10),Dig.dig y,Dig.dig (m / 10),Dig.dig m,Dig.dig (d / 10),Dig.dig d,Dig.dig (s / 3600 / 10),Dig.dig (s / 3600),Dig.dig (s / 60%60 / 10),Dig.dig (s / 60%60),Dig.dig (s%60 / 10),Dig.dig (s%60)]++r) 8=(s / 3600:Nat):=z74 rfl rfl (by omega);have t5:tw ([Dig.dig (y / 10 / 10 / 10),Dig.dig (y / 10 / 10),Dig.dig (y / 10),Dig.dig y,Dig.dig (m / 10),Dig.dig m,Dig.dig (d / 10),Dig.dig d,Dig.dig (s / 3600 / 10),Dig.dig (s / 3600),Dig.dig (s / 60%60 / 10),Dig.dig (s / 60%60),Dig.dig (s%60 / 10),Dig.dig (s%60)]++r) 10=(s / 60%60:Nat):=z74 rfl rfl (by omega);have t6:tw ([Dig.dig (y / 10 / 10 / 10),Dig.dig (y / 10 / 10),Dig.dig (y / 10),Dig.dig y,Dig.dig (m / 10),Dig.dig m,Dig.dig (d / 10),Dig.dig d,Dig.dig (s / 3600 / 10),Dig.dig (s / 3600),Dig.dig (s / 60%60 / 10),Dig.dig (s / 60%60),Dig.dig (s%60 / 10),Dig.dig (s%60)]++r) 12=(s%60:Nat):=z74 rfl rfl (by omega);unfold momO;rw [t0,t1,t2,t3,t4,t5,t6];exact ⟨by omega,by omega,by omega,at_ok h hs⟩
theorem z39 (F:List UInt8):∀ k,Tm.z1c (F++List.replicate k 48)=Tm.z1c F
 | 0=>by simp
 | k+1=>by
  rw [List.replicate_succ',←List.append_assoc,Tm.z1R,z39 F k]
theorem z6i:∀ (n:Nat) (l:List UInt8),l.length=n→∃ k,l=Tm.z1c l++List.replicate k 48∧(Tm.z1c l=[]∨∃ p c,Tm.z1c l=p++[c]∧c≠48)
 | 0,l,h=>by
  have:l=[]:=List.eq_nil_of_length_eq_zero h;subst this;exact ⟨0,rfl,.inl rfl⟩
 | n+1,l,h=>by
  rcases List.eq_nil_or_concat l with h0|⟨p,c,h0⟩
  ·subst h0;cases h
  ·rw [List.concat_eq_append] at h0;subst h0;by_cases hc:c=48
   ·subst hc;obtain ⟨k,e,hl⟩:=z6i n p (by simpa using h);rw [Tm.z1R];refine ⟨k+1,?_,hl⟩;rw [List.replicate_succ',←List.append_assoc,←e]
   ·exact ⟨0,by rw [Tm.z1t _ _ hc];simp,.inr ⟨p,c,Tm.z1t _ _ hc,hc⟩⟩
theorem z3A (l:List UInt8) (c:UInt8):val (l++[c])=val l*10+(c.toNat-48):=by simp [val]
theorem z3B:∀ (f n k:Nat),n<10^f→k≤f→val (Dig.dgsF f n k)=n
 | 0,n,k,h,_=>by
  have:n=0:=by simpa using h
  subst this;rfl
 | f+1,n,k,h,hk=>by
  by_cases hh:n=0∧k=0
  ·rw [Dig.z0A _ _ _ hh,hh.1];rfl
  ·rw [Dig.z0o _ _ _ hh,z3A,z3B f _ _ (Dig.z2Q h) (by omega),Dig.z1g];omega
theorem zk6 {n k:Nat} (h:n<10^20) (hk:k≤20):(Dig.dgs n k).all z1Q=true:=by
 have:=(Dig.zhU n k h hk).2;rw [List.all_eq_true];intro c hc;simpa [z1Q] using this c hc
theorem zjR {l:List UInt8} (hl:l.length=6) (hd:l.all z1Q=true):val l<1000000∧Dig.dgs (val l) 6=l:=by
 match l,hl with
 | [a,b,c,d,e,f],_=>
  simp only [List.all_cons,List.all_nil,Bool.and_true,Bool.and_eq_true,z1Q,decide_eq_true_eq] at hd;obtain ⟨ha,hb,hc,hd,he,hf⟩:=hd;have hv:val [a,b,c,d,e,f]=(((((a.toNat-48)*10+(b.toNat-48))*10+(c.toNat-48))*10+(d.toNat-48))*10+(e.toNat-48))*10+(f.toNat-48):=by simp [val]
  rw [hv];refine ⟨by omega,?_⟩;rw [dgs6 (by omega),z4O ha (by omega),z4O hb (by omega),z4O hc (by omega),z4O hd (by omega),z4O he (by omega),z4O hf (by omega)]
theorem zcN {y m d s u:Nat}:Tm.long y m d s u=Tm.txt y m d s 4++((if u=0 then [] else 46::Tm.z1c (Dig.dgs u 6))++[90]):=by
 unfold Tm.long;by_cases hu:u=0
 ·rw [if_pos hu,if_pos hu];rfl
 ·rw [if_neg hu,if_neg hu,Tm.zfe,List.append_assoc]
theorem zhj (p:List UInt8) (c:UInt8):lb (p++[c]) ((p++[c]).length-1)=c.toNat:=by
 unfold lb;simp [List.getD]
theorem zea (p:List UInt8) (c d:UInt8):lb (p++[c]++[d]) ((p++[c]++[d]).length-2)=c.toNat:=by
 unfold lb;simp [List.getD]
theorem zhf {y m d s u:Nat} {t:Int} (h:Cal.Is ((t+62167219200) / 86400) y m d) (hs:(s:Int)=(t+62167219200)%86400) (hu:u≤999999):z1q (Tm.long y m d s u)=some (t,(u:Int)):=by
 have a1:=h.y1;have a2:=h.m1;have a3:=h.d1;have a4:=Cal.z6w y m;have hlt:(Tm.txt y m d s 4).length=14:=by rw [zgf (by omega) (by omega) (by omega) (by omega)];rfl
 rw [zcN];by_cases hu0:u=0
 ·subst hu0;rw [if_pos rfl,List.nil_append];obtain ⟨e1,e2,e3,e4⟩:=zha h hs [90];have hf:Form (Tm.txt y m d s 4++[90]):=by
   refine ⟨by simp;omega,by simp;omega,by simp;omega,?_,fun hc=>?_⟩
   ·rw [zhj];rfl
   ·simp at hc;omega
  unfold z1q;rw [if_pos ⟨hf,e2,e3⟩,e1,e4];simp [hlt]
 ·rw [if_neg hu0];obtain ⟨k,hk,hl⟩:=z6i _ (Dig.dgs u 6) rfl;have h6:(Dig.dgs u 6).length=6:=by rw [dgs6 (by omega)];rfl
  have hne:Tm.z1c (Dig.dgs u 6)≠[]:=by
   intro e;rw [e,List.nil_append] at hk;have hv:=z3B 20 u 6 (by omega) (by omega);have hk6:k=6:=by have:=congrArg List.length hk;simp at this;omega
   subst hk6;have:val (Dig.dgs u 6)=0:=by rw [hk];decide
   unfold Dig.dgs at this;omega
  obtain ⟨F,hF⟩:∃ F,F=Tm.z1c (Dig.dgs u 6):=⟨_,rfl⟩;rw [←hF] at hk hl hne;rw [←hF];obtain ⟨p,c,hpc,hc⟩:=hl.resolve_left hne;have hkl:F.length+k=6:=by have:=congrArg List.length hk;rw [h6] at this;simp at this;omega
  have hF1:1≤F.length:=by rw [hpc];simp
  obtain ⟨e1,e2,e3,e4⟩:=zha h hs (46::F++[90]);have hlen:(Tm.txt y m d s 4++(46::F++[90])).length=F.length+16:=by simp [hlt];omega
  have hfr:frac (Tm.txt y m d s 4++(46::F++[90]))=Dig.dgs u 6:=by
   unfold frac;rw [hlen,hk,show F.length+16-16=F.length by omega,show 22-(F.length+16)=k by omega]
   congr 1
   rw [List.drop_append,hlt,List.drop_of_length_le (by omega)];simp
  have hlast:lb (Tm.txt y m d s 4++(46::F++[90])) ((Tm.txt y m d s 4++(46::F++[90])).length-1)=90:=by
   rw [show Tm.txt y m d s 4++(46::F++[90])=(Tm.txt y m d s 4++46::F)++[90] by simp,zhj];rfl
  have hlast2:lb (Tm.txt y m d s 4++(46::F++[90])) ((Tm.txt y m d s 4++(46::F++[90])).length-2)=c.toNat:=by
   rw [show Tm.txt y m d s 4++(46::F++[90])=(Tm.txt y m d s 4++46::p)++[c]++[90] by rw [hpc];simp,zea]
  have hdot:lb (Tm.txt y m d s 4++(46::F++[90])) 14=46:=by
   unfold lb;simp [List.getD,hlt]
  have hf:Form (Tm.txt y m d s 4++(46::F++[90])):=by
   refine ⟨by omega,by omega,by omega,hlast,fun _=>⟨hdot,?_,?_⟩⟩
   ·rw [hlast2];intro e;exact hc (UInt8.toNat_inj.1 (by simpa using (show c.toNat=48 by omega)))
   ·rw [hfr];exact zk6 (by omega) (by omega)
  unfold z1q;rw [if_pos ⟨hf,e2,e3⟩,e1,e4,hfr];have hv:val (Dig.dgs u 6)=u:=z3B 20 u 6 (by omega) (by omega);simp only [hv];rw [if_neg (by omega)]
theorem zm6 {y m d h i s t:Int} (e:atO y m d h i s=some t):AtOk y m d h i s∧t=atT y m d h i s:=by
 unfold atO at e;split at e
 ·rename_i hk;injection e with e;exact ⟨hk,e.symm⟩
 ·cases e
theorem at_is {y m d h i s:Nat} (hk:AtOk y m d h i s):Cal.Is ((atT y m d h i s+62167219200) / 86400) y m d∧((h*3600+i*60+s:Nat):Int)=(atT y m d h i s+62167219200)%86400:=by
 obtain ⟨k0,k1,k2,k3,k4,k5,k6,k7,k8,k9,k10,k11⟩:=hk;have e:(atT y m d h i s+62167219200) / 86400=Cal.num y m d∧(atT y m d h i s+62167219200)%86400=((h*3600+i*60+s:Nat):Int):=by
  unfold atT;omega
 exact ⟨⟨k0,k1,k2,k3,k4,k5,e.1.symm⟩,e.2.symm⟩
theorem z73 {l:List UInt8} {k:Nat} (h:0≤tw l k):∃ n:Nat,tw l k=n∧n<100∧l.getD k 0=Dig.dig (n / 10)∧l.getD (k+1) 0=Dig.dig n:=by
 unfold tw at h ⊢;split
 ·rename_i hd;unfold lb at hd ⊢;refine ⟨((l.getD k 0).toNat-48)*10+((l.getD (k+1) 0).toNat-48),by omega,by omega,?_,?_⟩
  ·exact (z4O (by omega) (by omega)).symm
  ·exact (z4O (by omega) (by omega)).symm
 ·rename_i hd;rw [if_neg hd] at h;omega
theorem list14 {l:List UInt8} (h:14≤l.length):l=[l.getD 0 0,l.getD 1 0,l.getD 2 0,l.getD 3 0,l.getD 4 0,l.getD 5 0,l.getD 6 0,l.getD 7 0,l.getD 8 0,l.getD 9 0,l.getD 10 0,l.getD 11 0,l.getD 12 0,l.getD 13 0]++l.drop 14:=by
 match l,h with
 | _::_::_::_::_::_::_::_::_::_::_::_::_::_::r,_=>rfl
theorem z5w {l:List UInt8} {t u:Int} (e:z1q l=some (t,u)):∃ y m d s v:Nat,Cal.Is ((t+62167219200) / 86400) y m d∧(s:Int)=(t+62167219200)%86400∧u=v∧v≤999999∧l=Tm.long y m d s v:=by
 unfold z1q at e;split at e
 ·rename_i hf;obtain ⟨⟨f0,f1,f2,f3,f4⟩,g0,g2⟩:=hf;cases hm:momO (tw l 0*100+tw l 2) l 4 with
  | none=>rw [hm] at e;cases e
  | some t' =>
   rw [hm] at e;simp only [Option.some.injEq,Prod.mk.injEq] at e;obtain ⟨rfl,e⟩:=e;obtain ⟨hk,ht⟩:=zm6 hm;have hk':=hk;obtain ⟨k0,k1,k2,k3,k4,k5,k6,k7,k8,k9,k10,k11⟩:=hk;obtain ⟨y0,ey0,ly0,b0,b1⟩:=z73 g0;obtain ⟨y2,ey2,ly2,b2,b3⟩:=z73 g2;obtain ⟨m,em,lm,b4,b5⟩:=z73 (l:=l) (k:=4) (by omega);obtain ⟨d,ed,ld,b6,b7⟩:=z73 (l:=l) (k:=4+2) (by omega);obtain ⟨h,eh,lh,b8,b9⟩:=z73 (l:=l) (k:=4+4) (by omega);obtain ⟨i,ei,li,b10,b11⟩:=z73 (l:=l) (k:=4+6) (by omega);obtain ⟨s,es,ls,b12,b13⟩:=z73 (l:=l) (k:=4+8) (by omega);have ey:(y0:Int)*100+y2=((y0*100+y2:Nat):Int):=by omega
   rw [ey0,ey2,em,ed,eh,ei,es,ey] at ht hk';obtain ⟨hi1,hi2⟩:=at_is hk';rw [←ht] at hi1 hi2;rw [em] at k2 k3;rw [ed] at k4;rw [eh] at k6 k7;rw [ei] at k8 k9;rw [es] at k10 k11;have a4:=Cal.z6w ((y0*100+y2:Nat):Int) m;have hd31:=hi1.d1;have htxt:Tm.txt (y0*100+y2) m d (h*3600+i*60+s) 4=[l.getD 0 0,l.getD 1 0,l.getD 2 0,l.getD 3 0,l.getD 4 0,l.getD 5 0,l.getD 6 0,l.getD 7 0,l.getD 8 0,l.getD 9 0,l.getD 10 0,l.getD 11 0,l.getD 12 0,l.getD 13 0]:=by
    rw [zgf (by omega) (by omega) (by omega) (by omega)];rw [show (h*3600+i*60+s) / 3600=h by omega,show (h*3600+i*60+s) / 60%60=i by omega,show (h*3600+i*60+s)%60=s by omega];rw [show l.getD 0 0=Dig.dig (y0 / 10) from b0,show l.getD 1 0=Dig.dig y0 from b1,show l.getD 2 0=Dig.dig (y2 / 10) from b2,show l.getD 3 0=Dig.dig y2 from b3,show l.getD 4 0=Dig.dig (m / 10) from b4,show l.getD 5 0=Dig.dig m from b5,
     show l.getD 6 0=Dig.dig (d / 10) from b6,show l.getD 7 0=Dig.dig d from b7,show l.getD 8 0=Dig.dig (h / 10) from b8,show l.getD 9 0=Dig.dig h from b9,show l.getD 10 0=Dig.dig (i / 10) from b10,show l.getD 11 0=Dig.dig i from b11,
     show l.getD 12 0=Dig.dig (s / 10) from b12,show l.getD 13 0=Dig.dig s from b13]
    have dd:∀ a b:Nat,a%10=b%10→Dig.dig a=Dig.dig b:=fun a b hab=>by unfold Dig.dig;rw [hab]
    rw [dd ((y0*100+y2) / 10 / 10 / 10) (y0 / 10) (by omega),dd ((y0*100+y2) / 10 / 10) y0 (by omega),dd ((y0*100+y2) / 10) (y2 / 10) (by omega),dd (y0*100+y2) y2 (by omega)]
   have hl14:=list14 (l:=l) (by omega);rw [←htxt] at hl14;by_cases h15:l.length=15
   ·refine ⟨y0*100+y2,m,d,h*3600+i*60+s,0,hi1,hi2,?_,by omega,?_⟩
    ·rw [if_pos h15] at e;omega
    ·rw [zcN,if_pos rfl,List.nil_append];have hr:l.drop 14=[90]:=by
      have hlen:(l.drop 14).length=1:=by rw [List.length_drop];omega
      have hg:(l.drop 14).getD 0 0=90:=by
       rw [h15] at f3;unfold lb at f3;have:l.getD 14 0=90:=UInt8.toNat_inj.1 (by simpa using (show (l.getD (15-1) 0).toNat=90 by omega));simpa [List.getD] using this
      match hq:l.drop 14,hlen with
      | [a],_=>rw [hq] at hg;simpa using hg
     rw [←hr];exact hl14
   ·obtain ⟨q0,q1,q2⟩:=f4 (by omega);rw [if_neg h15] at e;have hfl:(frac l).length=6:=by unfold frac;simp;omega
    obtain ⟨v1,v2⟩:=zjR hfl q2;refine ⟨y0*100+y2,m,d,h*3600+i*60+s,val (frac l),hi1,hi2,e.symm,by omega,?_⟩;obtain ⟨F,hF⟩:∃ F,F=(l.drop 15).take (l.length-16):=⟨_,rfl⟩;have hFl:F.length=l.length-16:=by rw [hF];simp;omega
    -- the last one of F
    have hd15:l.drop 15=F++[90]:=by
     have h1:l.drop 15=F++(l.drop 15).drop (l.length-16):=by rw [hF,List.take_append_drop]
     rw [h1]
     congr 1
     rw [List.drop_drop,show 15+(l.length-16)=l.length-1 by omega];have hlen:(l.drop (l.length-1)).length=1:=by rw [List.length_drop];omega
     have hg:(l.drop (l.length-1)).getD 0 0=90:=by
      unfold lb at f3;have:l.getD (l.length-1) 0=90:=UInt8.toNat_inj.1 (by simpa using (show (l.getD (l.length-1) 0).toNat=90 by omega));simpa [List.getD] using this
     match hq:l.drop (l.length-1),hlen with
     | [a],_=>rw [hq] at hg;simpa using hg
    have hlast:∃ p c,F=p++[c]∧c≠48:=by
     rcases List.eq_nil_or_concat F with h0|⟨p,c,h0⟩
     ·rw [h0] at hFl;simp at hFl;omega
     ·rw [List.concat_eq_append] at h0;refine ⟨p,c,h0,fun hc=>q1 ?_⟩;have hl2:l=(l.take 15++p)++[c]++[90]:=by
       conv=>lhs;rw [←List.take_append_drop 15 l,hd15,h0]
       simp
      have:=zea (l.take 15++p) c 90;rw [←hl2] at this;rw [this,hc];rfl
    obtain ⟨p,c,hpc,hc⟩:=hlast;have hst:Tm.z1c (frac l)=F:=by
     unfold frac;rw [←hF,z39,hpc,Tm.z1t _ _ hc]
    have hv0:val (frac l)≠0:=by
     intro e0;have e1:Dig.dgs 0 6=frac l:=by rw [←e0];exact v2
     have e2:Dig.dgs 0 6=[]++List.replicate 6 48:=by decide +kernel
     rw [←e1,e2,z39,Tm.zfc] at hst;rw [hpc] at hst;simp at hst
    rw [zcN,if_neg hv0,v2,hst];have hr:l.drop 14=46::(F++[90]):=by
     have h14:14<l.length:=by omega
     rw [List.drop_eq_getElem_cons h14,←hd15]
     congr 1
     unfold lb at q0;have:l.getD 14 0=46:=UInt8.toNat_inj.1 (by simpa using (show (l.getD 14 0).toNat=46 by omega));simpa [List.getD,h14] using this
    rw [List.cons_append,←hr];exact hl14
 ·cases e
end Pr
end Go.Proofs.YtgmppconibklcaaGreatDoor

namespace Go.Proofs.YtgmppconibklcaaGreatDoor
open Go

namespace St
def iaC (c:UInt8):Bool:=decide (c.toNat≤127)
def more:List Nat:=[32,39,40,41,43,44,45,46,47,58,61,63]
def prC (c:UInt8):Bool:=decide ((65≤c.toNat∧c.toNat≤90)∨(97≤c.toNat∧c.toNat≤122)∨(48≤c.toNat∧c.toNat≤57)∨c.toNat∈more)
def ia (s:ByteArray):Bool:=s.data.toList.all iaC
def pr (s:ByteArray):Bool:=s.data.toList.all prC
theorem zai {f:UInt8→Bool} {s:ByteArray} {pos:Nat} (h:pos<s.size) (hb:f s[pos]=false):s.data.toList.all f=false:=by
 rw [List.all_eq_false];have hl:pos<s.data.toList.length:=h;exact ⟨s.data.toList[pos],List.getElem_mem hl,by rw [show s.data.toList[pos]=s[pos] from rfl,hb];simp⟩
theorem zah {f:UInt8→Bool} {s:ByteArray} {pos:Nat} (h:pos<s.size) (ha:(s.data.toList.take pos).all f=true) (hb:f s[pos]=true):(s.data.toList.take (pos+1)).all f=true:=by
 have hl:pos<s.data.toList.length:=h;rw [List.take_succ_eq_append_getElem hl,List.all_append,ha];simp only [List.all_cons,List.all_nil,Bool.and_true,Bool.true_and];exact hb
theorem zdi {f:UInt8→Bool} {s:ByteArray} {pos:Nat} (h:¬pos<s.size) (ha:(s.data.toList.take pos).all f=true):s.data.toList.all f=true:=by
 rwa [List.take_of_length_le (by have:s.size=s.data.toList.length:=Lib.size_eq s;omega)] at ha
end St
end Go.Proofs.YtgmppconibklcaaGreatDoor

namespace Go.Proofs.YtgmppconibklcaaGreatDoor
namespace Utf
def chrZ (n:Nat) (b0 b1 b2 b3:Int):Int×Int:=
 if b0<128 then (b0,1)
 else if b0<192∨248≤b0 then (0,0)
 else if b0<224 then (if n<2∨b1<128∨191<b1∨(b0-192)*64+b1-128<128 then (0,0) else ((b0-192)*64+b1-128,2))
 else if b0<240 then (if n<3∨b1<128∨191<b1∨b2<128∨191<b2∨((b0-224)*64+b1-128)*64+b2-128<2048∨(55296≤((b0-224)*64+b1-128)*64+b2-128∧((b0-224)*64+b1-128)*64+b2-128≤57343) then (0,0)
  else (((b0-224)*64+b1-128)*64+b2-128,3))
 else (if n<4∨b1<128∨191<b1∨b2<128∨191<b2∨b3<128∨191<b3∨(((b0-240)*64+b1-128)*64+b2-128)*64+b3-128<65536∨1114111<(((b0-240)*64+b1-128)*64+b2-128)*64+b3-128 then (0,0)
  else ((((b0-240)*64+b1-128)*64+b2-128)*64+b3-128,4))
def chr (s:ByteArray):Int×Int:=chrZ s.size (PlainAid.bt s 0) (PlainAid.bt s 1) (PlainAid.bt s 2) (PlainAid.bt s 3)
set_option maxHeartbeats 4000000 in
theorem zdb (n b0 b1 b2 b3:Nat) (h0:b0<256) (h1:b1<256) (h2:b2<256) (h3:b3<256):
  chrZ n b0 b1 b2 b3=if Lib.decodeN n b0 b1 b2 b3=(65533,1) then (0,0) else (((Lib.decodeN n b0 b1 b2 b3).1:Int),((Lib.decodeN n b0 b1 b2 b3).2:Int)):=by
 by_cases c1:b0<128
 ·have e:Lib.decodeN n b0 b1 b2 b3=(b0,1):=by simp [Lib.decodeN,c1]
  rw [e,if_neg (by intro h;injection h with h _;omega)];simp only [chrZ];rw [if_pos (by omega)];rfl
 ·by_cases c2:b0<192∨248≤b0
  ·have e:Lib.decodeN n b0 b1 b2 b3=(65533,1):=by
    simp only [Lib.decodeN,if_neg c1,show ¬b0 / 32=6 by omega,show ¬b0 / 16=14 by omega,show ¬b0 / 8=30 by omega,false_and,if_false]
   rw [e,if_pos rfl];simp only [chrZ];rw [if_neg (by omega),if_pos (by omega)]
  ·have k1:¬((b0:Int)<128):=by omega
   have k2:¬((b0:Int)<192∨(248:Int)≤b0):=by omega
   by_cases c3:b0<224
   ·have d1:b0 / 32=6:=by omega
    simp only [chrZ,Lib.decodeN,if_neg k1,if_neg k2,if_neg c1,if_pos (show (b0:Int)<224 by omega),d1,true_and,show ¬b0 / 16=14 by omega,show ¬b0 / 8=30 by omega,false_and,if_false];by_cases e1:1<n∧b1 / 64=2
    ·rw [if_pos e1];by_cases e2:b0%32*64+b1%64≥128
     ·rw [if_pos e2,if_neg (by omega),if_neg (by intro h;injection h with _ h;omega)];simp only [Prod.mk.injEq];omega
     ·rw [if_neg e2,if_pos (by omega),if_pos rfl]
    ·rw [if_neg e1,if_pos (by omega),if_pos rfl]
   ·by_cases c4:b0<240
    ·have d1:¬b0 / 32=6:=by omega
     have d2:b0 / 16=14:=by omega
     simp only [chrZ,Lib.decodeN,if_neg k1,if_neg k2,if_neg c1,if_neg (show ¬(b0:Int)<224 by omega),if_pos (show (b0:Int)<240 by omega),d1,d2,true_and,show ¬b0 / 8=30 by omega,false_and,if_false];by_cases e1:(1<n∧b1 / 64=2)∧2<n∧b2 / 64=2
     ·rw [if_pos e1];by_cases e2:b0%16*4096+b1%64*64+b2%64≥2048∧(b0%16*4096+b1%64*64+b2%64<55296∨57344≤b0%16*4096+b1%64*64+b2%64∧b0%16*4096+b1%64*64+b2%64≤1114111)
      ·rw [if_pos e2,if_neg (by omega),if_neg (by intro h;injection h with _ h;omega)];simp only [Prod.mk.injEq];omega
      ·rw [if_neg e2,if_pos (by omega),if_pos rfl]
     ·rw [if_neg e1,if_pos (by omega),if_pos rfl]
    ·have d1:¬b0 / 32=6:=by omega
     have d2:¬b0 / 16=14:=by omega
     have d3:b0 / 8=30:=by omega
     simp only [chrZ,Lib.decodeN,if_neg k1,if_neg k2,if_neg c1,if_neg (show ¬(b0:Int)<224 by omega),if_neg (show ¬(b0:Int)<240 by omega),d1,d2,d3,true_and,false_and,if_false];by_cases e1:(1<n∧b1 / 64=2)∧(2<n∧b2 / 64=2)∧3<n∧b3 / 64=2
     ·rw [if_pos e1];by_cases e2:b0%8*262144+b1%64*4096+b2%64*64+b3%64≥65536∧(b0%8*262144+b1%64*4096+b2%64*64+b3%64<55296∨57344≤b0%8*262144+b1%64*4096+b2%64*64+b3%64∧b0%8*262144+b1%64*4096+b2%64*64+b3%64≤1114111)
      ·rw [if_pos e2,if_neg (by omega),if_neg (by intro h;injection h with _ h;omega)];simp only [Prod.mk.injEq];omega
      ·rw [if_neg e2,if_pos (by omega),if_pos rfl]
     ·rw [if_neg e1,if_pos (by omega),if_pos rfl]
theorem zeG (s:ByteArray) (i:Nat):PlainAid.bt s i=((s.get! i).toNat:Int):=by
 unfold PlainAid.bt;split
 ·rename_i h;have:s.get! i=s[i]:=by
   obtain ⟨d⟩:=s;show d[i]! = d[i];exact getElem!_pos d i h
  rw [this]
 ·rename_i h;have:s.get! i=0:=by
   obtain ⟨d⟩:=s;show d[i]! = 0;rw [getElem!_neg d i h];rfl
  rw [this];rfl
theorem zfW (s:ByteArray):chr s=if Utf8.decode s 0=(65533,1) then (0,0) else (((Utf8.decode s 0).1:Int),((Utf8.decode s 0).2:Int)):=by
 unfold chr;rw [zeG,zeG,zeG,zeG,zdb _ _ _ _ _ (UInt8.toNat_lt _) (UInt8.toNat_lt _) (UInt8.toNat_lt _) (UInt8.toNat_lt _),Lib.decode_at s 0];rfl
theorem zcY (s:ByteArray) (i k:Nat):(s.extract i s.size).get! k=s.get! (i+k):=by
 obtain ⟨⟨l⟩⟩:=s;rw [ByteArray.extract_mk];show (((l.drop i).take (l.length-i)).toArray)[k]! = l.toArray[i+k]!;rw [List.take_of_length_le (by rw [List.length_drop];exact Nat.le_refl _)];simp
theorem z4P (s:ByteArray) (i:Nat):Utf8.decode (s.extract i s.size) 0=Utf8.decode s i:=by
 rw [Lib.decode_at,Lib.decode_at s i];have hz:(s.extract i s.size).size=s.size-i:=by simp
 simp only [zcY,hz,Nat.zero_add,Nat.sub_zero,Nat.add_zero]
def z2C (s:ByteArray):Nat→Nat→Bool
 | 0,_=>true
 | f+1,pos=>if pos<s.size then (if Utf8.decode s pos=(65533,1) then false else z2C s f (pos+(Utf8.decode s pos).2)) else true
def ok (s:ByteArray):Bool:=z2C s s.size 0
theorem z8P (s:ByteArray) (f pos:Nat) (h:¬pos<s.size):z2C s f pos=true:=by cases f<;>simp [z2C,h]
end Utf
end Go.Proofs.YtgmppconibklcaaGreatDoor

namespace Go.Proofs.YtgmppconibklcaaGreatDoor
namespace Nt
def B:Nat:=4294967296
def vl:List Nat→Nat
 | []=>0
 | a::l=>a+B*vl l
def Lb (l:List Nat):Prop:=∀ x∈l,x<B
theorem Lb.nil:Lb []:=fun _ h=>by cases h
theorem Lb.head {a:Nat} {l:List Nat} (h:Lb (a::l)):a<B:=h a (by simp)
theorem Lb.tail {a:Nat} {l:List Nat} (h:Lb (a::l)):Lb l:=fun x hx=>h x (by simp [hx])
theorem Lb.cons {a:Nat} {l:List Nat} (h:a<B) (k:Lb l):Lb (a::l):=fun x hx=>by
 rcases List.mem_cons.1 hx with rfl|hx
 ·exact h
 ·exact k x hx
theorem Lb.app {a b:List Nat} (h:Lb a) (k:Lb b):Lb (a++b):=fun x hx=>by
 rcases List.mem_append.1 hx with hx|hx
 ·exact h x hx
 ·exact k x hx
theorem Lb.take {a:List Nat} (h:Lb a) (n:Nat):Lb (a.take n):=fun x hx=>h x (List.mem_of_mem_take hx)
theorem Lb.drop {a:List Nat} (h:Lb a) (n:Nat):Lb (a.drop n):=fun x hx=>h x (List.mem_of_mem_drop hx)
theorem Lb.zc8 (n:Nat):Lb (List.replicate n 0):=fun x hx=>by
 rw [List.eq_of_mem_replicate hx];decide
theorem z6g (a b:List Nat):vl (a++b)=vl a+B^a.length*vl b:=by
 induction a with
 | nil=>simp [vl]
 | cons x a ih=>
  simp only [List.cons_append,vl,ih,List.length_cons,Nat.pow_succ,Nat.mul_add];rw [Nat.mul_comm (B^a.length) B,Nat.mul_assoc,Nat.add_assoc]
theorem z3z (n:Nat):vl (List.replicate n 0)=0:=by
 induction n with
 | zero=>rfl
 | succ n ih=>simp [List.replicate_succ,vl,ih]
theorem zgd {l:List Nat} (h:Lb l):vl l<B^l.length:=by
 induction l with
 | nil=>simp [vl]
 | cons a l ih=>
  have h1:=ih h.tail;have h2:=h.head;simp only [vl,List.length_cons,Nat.pow_succ];have h3:B*(vl l+1)≤B*B^l.length:=Nat.mul_le_mul_left _ h1;rw [Nat.mul_add,Nat.mul_one] at h3;rw [Nat.mul_comm (B^l.length) B];omega
theorem zkf:∀ {a b:List Nat},Lb a→Lb b→a.length=b.length→vl a=vl b→a=b
 | [],[],_,_,_,_=>rfl
 | [],_::_,_,_,h,_=>by simp at h
 | _::_,[],_,_,h,_=>by simp at h
 | x::a,y::b,ha,hb,hl,hv=>by
  have h1:=ha.head;have h2:=hb.head;simp only [vl] at hv;have e1:x=y:=by
   have:=congrArg (·%B) hv;simp only [Nat.add_mul_mod_self_left] at this
   rwa [Nat.mod_eq_of_lt h1,Nat.mod_eq_of_lt h2] at this
  subst e1;have e2:vl a=vl b:=Nat.eq_of_mul_eq_mul_left (show 0<B by decide) (by omega);rw [zkf ha.tail hb.tail (by simpa using hl) e2]
def sz:List Nat→Nat
 | []=>0
 | a::l=>if sz l=0 then (if a=0 then 0 else 1) else sz l+1
theorem zaH (l:List Nat):sz l≤l.length:=by
 induction l with
 | nil=>simp [sz]
 | cons a l ih=>simp only [sz,List.length_cons];split<;>(try split)<;>omega
theorem zco (l:List Nat) (a:Nat):sz (l++[a])=if a=0 then sz l else l.length+1:=by
 induction l with
 | nil=>simp [sz]
 | cons x l ih=>
  simp only [List.cons_append,sz,ih,List.length_cons];by_cases ha:a=0
  ·simp [ha]
  ·simp [ha]
def trim (l:List Nat):List Nat:=l.take (sz l)
theorem zd2:∀ l:List Nat,l.drop (sz l)=List.replicate (l.length-sz l) 0
 | []=>rfl
 | a::l=>by
  have h1:=zd2 l;have h2:=zaH l;simp only [sz];by_cases h0:sz l=0
  ·rw [h0] at h1;rw [if_pos h0];simp only [List.drop_zero,Nat.sub_zero] at h1;by_cases ha:a=0
   ·rw [if_pos ha];simp only [List.drop_zero,Nat.sub_zero,List.length_cons,List.replicate_succ];rw [←h1,ha]
   ·rw [if_neg ha];simp only [List.drop_succ_cons,List.drop_zero,List.length_cons,Nat.add_sub_cancel];exact h1
  ·rw [if_neg h0];simp only [List.drop_succ_cons,List.length_cons,Nat.add_sub_add_right];exact h1
theorem ziM (l:List Nat):l=trim l++List.replicate (l.length-sz l) 0:=by
 rw [←zd2];exact (List.take_append_drop _ _).symm
theorem z5K (l:List Nat):vl (trim l)=vl l:=by
 conv=>rhs;rw [ziM l]
 rw [z6g,z3z];simp
theorem z2w (l:List Nat):(trim l).length=sz l:=by
 unfold trim;have:=zaH l;simp;omega
theorem Lb.trim {l:List Nat} (h:Lb l):Lb (trim l):=h.take _
theorem zcT:∀ (l:List Nat),0<sz l→l.getD (sz l-1) 0≠0
 | [],h=>by simp [sz] at h
 | a::l,h=>by
  simp only [sz] at h ⊢;by_cases h0:sz l=0
  ·rw [if_pos h0] at h ⊢;by_cases ha:a=0
   ·rw [if_pos ha] at h;omega
   ·rw [if_neg ha];simpa using ha
  ·rw [if_neg h0];have h1:=zcT l (by omega);obtain ⟨k,hk⟩:∃ k,sz l=k+1:=⟨sz l-1,by omega⟩;rw [hk] at h1 ⊢;simpa using h1
theorem z7b {l:List Nat} (h:Lb l) (k:Nat):sz l≤k↔vl l<B^k:=by
 constructor
 ·intro hk;rw [←z5K];have h1:=zgd h.trim;rw [z2w] at h1;exact Nat.lt_of_lt_of_le h1 (Nat.pow_le_pow_right (by decide) hk)
 ·intro hv;rcases Nat.lt_or_ge k (sz l) with hk|hk
  ·exfalso;have h1:=zcT l (by omega);have h2:=zaH l;have e:l=l.take (sz l-1)++(l.getD (sz l-1) 0::l.drop (sz l)):=by
    have hlt:sz l-1<l.length:=by omega
    have e3:l.getD (sz l-1) 0=l[sz l-1]:=by rw [List.getD_eq_getElem?_getD,List.getElem?_eq_getElem hlt];rfl
    rw [e3]
    conv=>lhs;rw [←List.take_append_drop (sz l-1) l,List.drop_eq_getElem_cons hlt,show sz l-1+1=sz l by omega]
   have h3:B^(sz l-1)≤vl l:=by
    conv=>rhs;rw [e]
    rw [z6g];have h4:(l.take (sz l-1)).length=sz l-1:=by simp;omega
    rw [h4];simp only [vl];have h5:1≤l.getD (sz l-1) 0+B*vl (l.drop (sz l)):=by omega
    have h6:=Nat.mul_le_mul_left (B^(sz l-1)) h5;omega
   have h7:B^k≤B^(sz l-1):=Nat.pow_le_pow_right (by decide) (by omega);omega
  ·exact hk
theorem zkX {a b:List Nat} (ha:Lb a) (hb:Lb b) (h:vl a=vl b):sz a=sz b:=by
 have h1:=(z7b ha (sz b)).2 (by rw [h];exact (z7b hb (sz b)).1 (Nat.le_refl _));have h2:=(z7b hb (sz a)).2 (by rw [←h];exact (z7b ha (sz a)).1 (Nat.le_refl _));omega
theorem zax {a b:List Nat} (ha:Lb a) (hb:Lb b) (h:vl a=vl b):trim a=trim b:=
 zkf ha.trim hb.trim (by rw [z2w,z2w,zkX ha hb h]) (by rw [z5K,z5K,h])
def limF:Nat→Nat→List Nat
 | 0,_=>[]
 | f+1,n=>if n=0 then [] else (n%B)::limF f (n / B)
def lim (n:Nat):List Nat:=limF (n.log2 / 32+1) n
theorem zhi:∀ f n,Lb (limF f n)
 | 0,_=>Lb.nil
 | f+1,n=>by
  unfold limF;split
  ·exact Lb.nil
  ·exact Lb.cons (Nat.mod_lt _ (by decide)) (zhi f _)
theorem zcQ:∀ f n,n<B^f→vl (limF f n)=n
 | 0,n,h=>by
  have:n=0:=by simpa using h
  subst this;rfl
 | f+1,n,h=>by
  unfold limF;split
  ·rename_i h0;rw [h0];rfl
  ·simp only [vl];rw [zcQ f (n / B) (by rw [Nat.pow_succ] at h;exact Nat.div_lt_of_lt_mul (by rw [Nat.mul_comm];exact h))];have:=Nat.div_add_mod n B;omega
theorem zcR:∀ f n,n<B^f→sz (limF f n)=(limF f n).length
 | 0,_,_=>rfl
 | f+1,n,h=>by
  have hlt:n / B<B^f:=by rw [Nat.pow_succ] at h;exact Nat.div_lt_of_lt_mul (by rw [Nat.mul_comm];exact h)
  have ih:=zcR f (n / B) hlt;have hv:=zcQ f (n / B) hlt;unfold limF;split
  ·rfl
  ·rename_i h0;simp only [sz,ih,List.length_cons];by_cases h1:(limF f (n / B)).length=0
   ·rw [if_pos h1];have e:limF f (n / B)=[]:=List.eq_nil_of_length_eq_zero h1;rw [e] at hv;have h2:n / B=0:=hv.symm;have h3:=Nat.div_add_mod n B;rw [h2] at h3;rw [if_neg (by omega),e];rfl
   ·rw [if_neg h1]
theorem z9O (n:Nat):n<B^(n.log2 / 32+1):=by
 have h1:n<2^(n.log2+1):=Nat.lt_log2_self;have h2:B=2^32:=by decide
 rw [h2,←Nat.pow_mul];exact Nat.lt_of_lt_of_le h1 (Nat.pow_le_pow_right (by decide) (by omega))
theorem z2U (n:Nat):Lb (lim n):=zhi _ n
theorem z4j (n:Nat):vl (lim n)=n:=zcQ _ n (z9O n)
theorem zjo (n:Nat):trim (lim n)=lim n:=by
 unfold trim lim;rw [zcR _ n (z9O n),List.take_length]
theorem ziL {a:List Nat} (h:Lb a):trim a=lim (vl a):=by
 rw [←zjo];exact zax h (z2U _) (z4j _).symm
theorem zcP {n k:Nat} (h:n<B^k):(lim n).length≤k:=by
 have h1:=(z7b (z2U n) k).2 (by rw [z4j];exact h)
 rwa [show sz (lim n)=(lim n).length from zcR _ n (z9O n)] at h1
theorem z2e:lim 0=[]:=by decide
structure Kn (v1 v2 M w V top u0 x U:Nat):Prop where
 eV:V=(v1*B+v2)*M+w
 eU:U=(top*B+u0)*M+x
 hw:w<M
 hx:x<M
 h2:v2<B
 h0:u0<B
 hv:B≤2*v1
 hU:U<V*B
section
variable {v1 v2 M w V top u0 x U:Nat}
theorem Kn.pos (k:Kn v1 v2 M w V top u0 x U):0<V:=by
 have h1:=k.hw;have h2:=k.hv;have h3:1≤v1*B+v2:=by
  have:1≤v1:=by unfold B at h2;omega
  unfold B;omega
 have h4:=Nat.mul_le_mul_right M h3;rw [k.eV];omega
theorem Kn.below (k:Kn v1 v2 M w V top u0 x U) {q:Nat} (h:q*V≤U):q*(v1*B+v2)≤top*B+u0:=by
 have h1:q*(v1*B+v2)*M<(top*B+u0+1)*M:=by
  have h2:q*(v1*B+v2)*M≤q*V:=by
   rw [Nat.mul_assoc];exact Nat.mul_le_mul_left _ (by rw [k.eV];omega)
  have h3:=k.hx;rw [Nat.add_mul,Nat.one_mul];have h4:=k.eU;omega
 have:=Nat.lt_of_mul_lt_mul_right h1;omega
theorem Kn.top_le (k:Kn v1 v2 M w V top u0 x U):top≤v1*B+v2:=by
 have h1:(top*B+u0)*M<(v1*B+v2+1)*B*M:=by
  have h2:=k.hU;have h3:V≤(v1*B+v2+1)*M:=by rw [k.eV,Nat.add_mul (v1*B+v2) 1 M,Nat.one_mul];have:=k.hw;omega
  have h4:=Nat.mul_le_mul_right B h3;have h5:(v1*B+v2+1)*M*B=(v1*B+v2+1)*B*M:=by rw [Nat.mul_assoc,Nat.mul_comm M B,←Nat.mul_assoc]
  rw [h5] at h4;have h6:=k.eU;omega
 have h2:=Nat.lt_of_mul_lt_mul_right h1;have h3:top*B<(v1*B+v2+1)*B:=by omega
 have:=Nat.lt_of_mul_lt_mul_right h3;omega
theorem Kn.good (k:Kn v1 v2 M w V top u0 x U) {g:Nat} (hg:g≤B) (h:g*(v1*B+v2)≤top*B+u0):g≤U / V+1:=by
 rcases Nat.eq_zero_or_pos g with h0|h0
 ·rw [h0];exact Nat.zero_le _
 ·obtain ⟨j,rfl⟩:∃ j,g=j+1:=⟨g-1,by omega⟩;have hA:B≤v1*B+v2:=by
   have h2:=k.hv;have:1≤v1:=by unfold B at h2;omega
   have:=Nat.mul_le_mul_right B this;omega
  have h1:j*w≤B*M:=Nat.mul_le_mul (by omega) (by have:=k.hw;omega);have h2:B*M≤(v1*B+v2)*M:=Nat.mul_le_mul_right _ hA;have h3:(j+1)*(v1*B+v2)*M≤(top*B+u0)*M:=Nat.mul_le_mul_right _ h;have h4:j*V≤U:=by
   rw [Nat.add_mul,Nat.one_mul,Nat.add_mul] at h3;rw [k.eV,Nat.mul_add,←Nat.mul_assoc];have h5:=k.eU;omega
  exact Nat.succ_le_succ ((Nat.le_div_iff_mul_le k.pos).2 h4)
structure Gs (v1 V top U g r:Nat):Prop where
 e:g*v1+r=top
 q:U / V≤g
 b:g≤B∨(g≤B+1∧r<v1)
theorem Gs.start (k:Kn v1 v2 M w V top u0 x U):Gs v1 V top U (top / v1) (top%v1):=by
 have h2:=k.hv;have hv1:0<v1:=by unfold B at h2;omega
 refine ⟨by rw [Nat.mul_comm];exact Nat.div_add_mod _ _,?_,.inr ⟨?_,Nat.mod_lt _ hv1⟩⟩
 ·rw [Nat.le_div_iff_mul_le hv1];have h1:=k.below (Nat.div_mul_le_self U V);have h3:U / V*v1*B<(top+1)*B:=by
   rw [Nat.mul_add,←Nat.mul_assoc] at h1;have:=k.h0;rw [Nat.add_mul,Nat.one_mul];omega
  have:=Nat.lt_of_mul_lt_mul_right h3;omega
 ·have h1:=k.top_le;have h3:=k.h2;have h4:top<(B+2)*v1:=by
   rw [Nat.add_mul,Nat.mul_comm B v1];omega
  have:=(Nat.div_lt_iff_lt_mul hv1).2 h4;omega
theorem Gs.step (k:Kn v1 v2 M w V top u0 x U) {g r:Nat} (s:Gs v1 V top U g r) (hc:B≤g∨r*B+u0<g*v2):1≤g∧Gs v1 V top U (g-1) (r+v1)∧g-1≤B:=by
 have hq:U / V<B:=by
  exact Nat.div_lt_of_lt_mul k.hU
 have hlt:U / V<g:=by
  rcases hc with hc|hc
  ·exact Nat.lt_of_lt_of_le hq hc
  ·rcases Nat.lt_or_ge (U / V) g with h|h
   ·exact h
   ·exfalso;have e:g=U / V:=Nat.le_antisymm h s.q;have h1:=k.below (Nat.div_mul_le_self U V);rw [←e] at h1;have h2:=s.e;rw [←h2,Nat.mul_add,Nat.add_mul,←Nat.mul_assoc] at h1;omega
 have hb:g-1≤B:=by rcases s.b with h|h<;>omega
 refine ⟨Nat.lt_of_le_of_lt (Nat.zero_le _) hlt,⟨?_,Nat.le_sub_one_of_lt hlt,.inl hb⟩,hb⟩;have h2:=s.e;obtain ⟨j,rfl⟩:∃ j,g=j+1:=⟨g-1,(Nat.succ_pred_eq_of_pos (Nat.lt_of_le_of_lt (Nat.zero_le _) hlt)).symm⟩;rw [Nat.add_mul,Nat.one_mul] at h2;rw [Nat.add_sub_cancel];omega
theorem Gs.stop (k:Kn v1 v2 M w V top u0 x U) {g r:Nat} (s:Gs v1 V top U g r) (hg:g<B) (hc:g*v2≤r*B+u0):g≤U / V+1:=by
 refine k.good (by omega) ?_;rw [←s.e,Nat.mul_add,Nat.add_mul,←Nat.mul_assoc];omega
end
end Nt
end Go.Proofs.YtgmppconibklcaaGreatDoor

namespace Go.Proofs.YtgmppconibklcaaGreatDoor
namespace Nt
theorem z3b {l:List Nat} (h:Lb l) (k:Nat):l.getD k 0<B:=by
 rw [List.getD_eq_getElem?_getD];rcases Nat.lt_or_ge k l.length with hk|hk
 ·rw [List.getElem?_eq_getElem hk];exact h _ (List.getElem_mem hk)
 ·rw [List.getElem?_eq_none hk];decide
theorem z0H (l:List Nat) (k:Nat):vl (l.take (k+1))=vl (l.take k)+B^k*l.getD k 0:=by
 rcases Nat.lt_or_ge k l.length with hk|hk
 ·have e:l.getD k 0=l[k]:=by rw [List.getD_eq_getElem?_getD,List.getElem?_eq_getElem hk];rfl
  rw [List.take_succ_eq_append_getElem hk,z6g,e];have h1:(l.take k).length=k:=by simp;omega
  rw [h1];simp [vl]
 ·rw [List.take_of_length_le (by omega),List.take_of_length_le hk,List.getD_eq_getElem?_getD,List.getElem?_eq_none hk];simp
theorem z14 {l:List Nat} {k:Nat} (h:l.length≤k):vl (l.take k)=vl l:=by rw [List.take_of_length_le h]
theorem z3W:∀ (l:List Nat) (j y:Nat),j<l.length→vl (l.set j y)+B^j*l.getD j 0=vl l+B^j*y
 | [],j,y,h=>by simp at h
 | a::l,0,y,_=>by simp [vl];omega
 | a::l,j+1,y,h=>by
  have h1:=z3W l j y (by simpa using h);have h2:=congrArg (B*·) h1;simp only [Nat.mul_add] at h2;simp only [List.set_cons_succ,List.getD_cons_succ,vl,Nat.pow_succ];rw [Nat.mul_comm (B^j) B,Nat.mul_assoc,Nat.mul_assoc];omega
theorem Lb.set {l:List Nat} (h:Lb l) {y:Nat} (hy:y<B) (j:Nat):Lb (l.set j y):=fun x hx=>by
 rcases List.mem_or_eq_of_mem_set hx with hx|rfl
 ·exact h x hx
 ·exact hy
theorem carry (i s:Nat):B^i*(s%B)+B^(i+1)*(s / B)=B^i*s:=by
 rw [Nat.pow_succ,Nat.mul_assoc,←Nat.mul_add,Nat.add_comm,Nat.div_add_mod]
structure AI (a b o:List Nat) (i c:Nat):Prop where
 v:vl o+B^i*c=vl (a.take i)+vl (b.take i)
 lb:Lb o
 z:∀ j,i≤j→o.getD j 0=0
 c:c≤1
theorem AI.start (a b:List Nat) (n:Nat):AI a b (List.replicate n 0) 0 0:=
 ⟨by simp [z3z,vl],Lb.zc8 n,fun j _=>by
  rw [List.getD_eq_getElem?_getD,List.getElem?_replicate];split<;>rfl,by omega⟩
theorem getD_set_ne {l:List Nat} {i j y:Nat} (h:i≠j):(l.set i y).getD j 0=l.getD j 0:=by
 rw [List.getD_eq_getElem?_getD,List.getD_eq_getElem?_getD,List.getElem?_set_ne h]
theorem AI.next {a b o:List Nat} {i c:Nat} (h:AI a b o i c) (ha:Lb a) (hb:Lb b) (hi:i<o.length):
  AI a b (o.set i ((c+a.getD i 0+b.getD i 0)%B)) (i+1) ((c+a.getD i 0+b.getD i 0) / B):=by
 have h1:=z3b ha i;have h2:=z3b hb i;have h3:=h.c;have h4:=z3W o i ((c+a.getD i 0+b.getD i 0)%B) hi;rw [h.z i (Nat.le_refl _),Nat.mul_zero,Nat.add_zero] at h4;refine ⟨?_,h.lb.set (Nat.mod_lt _ (by decide)) _,fun j hj=>by rw [getD_set_ne (by omega)];exact h.z j (by omega),?_⟩
 ·have h5:=carry i (c+a.getD i 0+b.getD i 0);have h6:=h.v;rw [z0H,z0H,h4];rw [Nat.mul_add,Nat.mul_add] at h5;omega
 ·have:c+a.getD i 0+b.getD i 0<2*B:=by omega
  have:=(Nat.div_lt_iff_lt_mul (show 0<B by decide)).2 this;omega
theorem AI.fin {a b o:List Nat} {n c:Nat} (h:AI a b o n c) (ha:a.length≤n) (hb:b.length≤n) (hn:n<o.length):vl (o.set n c)=vl a+vl b∧Lb (o.set n c):=by
 have h4:=z3W o n c hn;rw [h.z n (Nat.le_refl _),Nat.mul_zero,Nat.add_zero] at h4;have h6:=h.v;rw [z14 ha,z14 hb] at h6;have h7:=h.c;exact ⟨by omega,h.lb.set (by unfold B;omega) _⟩
structure MI (o0 b o:List Nat) (x i k c:Nat):Prop where
 v:vl o+B^(i+k)*c=vl o0+B^i*(x*vl (b.take k))
 lb:Lb o
 len:o.length=o0.length
 z:∀ j,i+k≤j→o.getD j 0=o0.getD j 0
 c:c<B
theorem MI.start {o0:List Nat} (b:List Nat) (x i:Nat) (h:Lb o0):MI o0 b o0 x i 0 0:=⟨by simp [vl],h,rfl,fun _ _=>rfl,by decide⟩
theorem MI.bound {c x y z:Nat} (hc:c<B) (hx:x<B) (hy:y<B) (hz:z<B):c+(x*y+z)<B*B:=by
 have h1:x*y≤(B-1)*(B-1):=Nat.mul_le_mul (by omega) (by omega);unfold B at *;omega
theorem MI.next {o0 b o:List Nat} {x i k c:Nat} (h:MI o0 b o x i k c) (hb:Lb b) (h0:Lb o0) (hx:x<B) (hk:i+k<o.length):
  MI o0 b (o.set (i+k) ((c+(x*b.getD k 0+o.getD (i+k) 0))%B)) x i (k+1) ((c+(x*b.getD k 0+o.getD (i+k) 0)) / B):=by
 have h4:=z3W o (i+k) ((c+(x*b.getD k 0+o.getD (i+k) 0))%B) hk;have hbd:=MI.bound h.c hx (z3b hb k) (z3b h.lb (i+k));refine ⟨?_,h.lb.set (Nat.mod_lt _ (by decide)) _,by rw [List.length_set,h.len],fun j hj=>by rw [getD_set_ne (by omega)];exact h.z j (by omega),(Nat.div_lt_iff_lt_mul (by decide)).2 hbd⟩;have h5:=carry (i+k) (c+(x*b.getD k 0+o.getD (i+k) 0));have h6:=h.v;have e1:B^i*(x*vl (b.take (k+1)))=B^i*(x*vl (b.take k))+B^(i+k)*(x*b.getD k 0):=by
  rw [z0H,Nat.mul_add,Nat.mul_add,Nat.pow_add]
  congr 1
  rw [Nat.mul_assoc]
  congr 1
  rw [←Nat.mul_assoc,←Nat.mul_assoc,Nat.mul_comm x]
 rw [e1,show i+(k+1)=i+k+1 by omega];rw [Nat.mul_add,Nat.mul_add] at h5;omega
structure PI (a b o:List Nat) (i:Nat):Prop where
 v:vl o=vl (a.take i)*vl b
 lb:Lb o
 len:o.length=a.length+b.length
 z:∀ j,i+b.length≤j→o.getD j 0=0
theorem PI.start (a b:List Nat):PI a b (List.replicate (a.length+b.length) 0) 0:=
 ⟨by simp [z3z,vl],Lb.zc8 _,by simp,fun j _=>by rw [List.getD_eq_getElem?_getD,List.getElem?_replicate];split<;>rfl⟩
theorem PI.next {a b o o':List Nat} {i c:Nat} (h:PI a b o i) (hi:i<a.length) (hm:MI o b o' (a.getD i 0) i b.length c):PI a b (o'.set (i+b.length) c) (i+1):=by
 have hl:i+b.length<o'.length:=by rw [hm.len,h.len];omega
 have h4:=z3W o' (i+b.length) c hl;rw [hm.z _ (Nat.le_refl _),h.z _ (Nat.le_refl _),Nat.mul_zero,Nat.add_zero] at h4;refine ⟨?_,hm.lb.set hm.c _,by rw [List.length_set,hm.len,h.len],fun j hj=>by rw [getD_set_ne (by omega),hm.z j (by omega)];exact h.z j (by omega)⟩;have h6:=hm.v;rw [z14 (Nat.le_refl _),h.v] at h6;rw [h4,h6,z0H,Nat.add_mul,Nat.mul_assoc]
theorem PI.fin {a b o:List Nat} (h:PI a b o a.length):vl o=vl a*vl b:=by rw [h.v,z14 (Nat.le_refl _)]
end Nt
end Go.Proofs.YtgmppconibklcaaGreatDoor

