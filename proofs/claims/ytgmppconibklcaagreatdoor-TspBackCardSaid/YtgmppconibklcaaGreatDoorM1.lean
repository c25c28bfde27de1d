/- Part of the proof of TspBack. No condition: lemmas alone. -/
import Derived.Test.YtgmppconibklcaaGreatDoorM0
import Derived.Great.FillDense
import Derived.Great.BuildSlice
import Derived.Laws.IdiomCopy
set_option linter.unusedVariables false
set_option linter.unusedSimpArgs false
namespace Go.Proofs.YtgmppconibklcaaGreatDoor
open Go Go.RowKit
namespace Am
inductive C where
 | d (x:D)
 | nilS
 | gr (q s:Nat) (l:List D)
 | ref (p off:Nat)
 | ep (l:List D)
 | sl (p n s:Nat)
 | dead
inductive E where
 | one (c:C)
 | agg (cs:List C)
inductive T where
 | e (x:E)
 | tup (xs:List E)
 | undef
inductive O where
 | var (ty:TypeId) (cs:List C)
 | own (e:TypeId) (s n:Nat)
abbrev T.d (x:D):T:= .e (.one (.d x))
abbrev T.v (v:Value):T:= .e (.one (.d (.leaf v)))
abbrev T.i (k:IntKind) (n:Int):T:= .v (.int k n)
abbrev T.b (b:Bool):T:= .v (.bool b)
abbrev T.s (s:ByteArray):T:= .v (.string s)
def C.kill (ks:List Nat):C→C
 | .gr q s l=>if ks.contains q then .dead else .gr q s l
 | .ref p off=>if ks.contains p then .dead else .ref p off
 | .sl p n s=>if ks.contains p then .dead else .sl p n s
 | c=>c
def E.kill (ks:List Nat):E→E
 | .one c=> .one (c.kill ks)
 | .agg cs=> .agg (cs.map (C.kill ks))
def T.kill (ks:List Nat):T→T
 | .e x=> .e (x.kill ks)
 | .tup xs=> .tup (xs.map (E.kill ks))
 | .undef=> .undef
def O.kill (ks:List Nat):O→O
 | .var ty cs=> .var ty (cs.map (C.kill ks))
 | o=>o
section
variable (P:Program)
def z0h (t:TypeId):Nat:=match P.info? t with|some i=>i.size|none=>0
def z33 (t:TypeId):Nat:=match P.info? t with|some i=>i.bytes|none=>0
def zbt (t:TypeId):Bool:=match P.underlying t with|some (.struct _)=>true|some (.array _ _)=>true|_=>false
def slz:Nat→TypeId→List (Option Nat)
 | 0,_=>[none]
 | n+1,t=>match P.underlying t with
  | some (.struct fs)=>fs.toList.flatMap fun f=>slz n f.type
  | some (.array k e)=>(List.replicate k (slz n e)).flatten
  | some (.slice e)=>[some (z0h P e)]
  | _=>[none]
end
def zc:Value→C
 | .slice none 0 0=> .nilS
 | v=> .d (.leaf v)
def z9i:Value→Option E
 | .agg cs=>if cs.all Value.oneCell' then some (.agg (cs.toList.map zc)) else none
 | .tuple _=>none
 | v=>some (.one (zc v))
def C.fz:Option Nat→C→C
 | some s,.nilS=>if 0<s then .d (.row s []) else .nilS
 | none,.nilS=> .d (.leaf (.slice none 0 0))
 | _,.gr _ s l=> .d (.row s l)
 | _,c=>c
def fzs:List (Option Nat)→List C→List C
 | _,[]=>[]
 | [],c::cs=>c.fz none::fzs [] cs
 | z::zs,c::cs=>c.fz z::fzs zs cs
def E.fz (z:List (Option Nat)):E→E
 | .one c=> .one (c.fz (z.headD none))
 | .agg cs=> .agg (fzs z cs)
def C.d? : C→Option D
 | .d x=>some x
 | _=>none
def dsOf:List C→Option (List D)
 | []=>some []
 | c::cs=>match c.d? with
  | some x=>(dsOf cs).map (x::·)
  | none=>none
def E.cells:E→List C
 | .one c=>[c]
 | .agg cs=>cs
def E.ds (x:E):Option (List D):=dsOf x.cells
structure Eff where
 t:T
 ups:List (Nat×Option O):=[]
 kills:List Nat:=[]
def T.eff (t:T):Option Eff:=some ⟨t,[],[]⟩
def int? : Option T→Option (IntKind×Int)
 | some (.e (.one (.d (.leaf (.int k n)))))=>some (k,n)
 | _=>none
def bool? : Option T→Option Bool
 | some (.e (.one (.d (.leaf (.bool b)))))=>some b
 | _=>none
def str? : Option T→Option ByteArray
 | some (.e (.one (.d (.leaf (.string s)))))=>some s
 | _=>none
def row? : Option T→Option (Nat×List D)
 | some (.e (.one (.d (.row s l))))=>some (s,l)
 | some (.e (.one (.gr _ s l)))=>some (s,l)
 | _=>none
def e? : Option T→Option E
 | some (.e x)=>some x
 | _=>none
def zeJ (op:BinOp) (k:IntKind) (x y:Int):Option Value:=
 match op with
 | .add=>some (.int k (k.wrap (x+y)))
 | .sub=>some (.int k (k.wrap (x-y)))
 | .mul=>some (.int k (k.wrap (x*y)))
 | .quo=>if y=0 then none else some (.int k (k.wrap (x.tdiv y)))
 | .rem=>if y=0 then none else some (.int k (x.tmod y))
 | .and=>some (.int k (k.wrap (BitVec.ofInt k.bits x&&&BitVec.ofInt k.bits y).toNat))
 | .or=>some (.int k (k.wrap (BitVec.ofInt k.bits x|||BitVec.ofInt k.bits y).toNat))
 | .xor=>some (.int k (k.wrap (BitVec.ofInt k.bits x ^^^ BitVec.ofInt k.bits y).toNat))
 | .eql=>some (.bool (x==y))
 | .neq=>some (.bool (x != y))
 | .lss=>some (.bool (decide (x<y)))
 | .leq=>some (.bool (decide (x≤y)))
 | .gtr=>some (.bool (decide (x>y)))
 | .geq=>some (.bool (decide (x≥y)))
 | _=>none
def zeI (op:BinOp) (x y:ByteArray):Option Value:=
 match op with
 | .add=>if ((x.size+y.size:Nat):Int)>IntKind.i64.max then none else some (.string (x++y))
 | .eql=>some (.bool (x.toList==y.toList))
 | .neq=>some (.bool (!(x.toList==y.toList)))
 | _=>none
def binV (P:Program) (op:BinOp) (ty:TypeId) (x y:Value):Option Value:=
 match x,y with
 | .int k a,.int k' b=>
  match op with
  | .shl=>if b<0 then none else some (.int k (k.wrap (a*2^(min b.toNat k.bits))))
  | .shr=>if b<0 then none else some (.int k (a.fdiv (2^(min b.toNat k.bits))))
  | _=>if k=k' then zeJ op k a b else none
 | .string a,.string b=>zeI op a b
 | .bool a,.bool b=>match P.underlying ty with
  | some .bool=>match op with
   | .eql=>some (.bool (a==b))
   | .neq=>some (.bool (!(a==b)))
   | _=>none
  | _=>none
 | _,_=>none
def nil? : C→Option Bool
 | .nilS=>some true
 | .d (.row _ (_::_))=>some false
 | .gr _ _ (_::_)=>some false
 | _=>none
def zh6 (P:Program) (op:BinOp) (ty:TypeId) (x y:C):Option Value:=
 match P.underlying ty with
 | some (.slice _)=>
  match nil? x,nil? y with
  | some a,some true=>match op with | .eql=>some (.bool a) | .neq=>some (.bool (!a))|_=>none
  | some true,some b=>match op with | .eql=>some (.bool b) | .neq=>some (.bool (!b))|_=>none
  | _,_=>none
 | _=>none
def unV (op:UnOp) (x:Value):Option Value:=
 match op,x with
 | .neg,.int k n=>some (.int k (k.wrap (0-n)))
 | .xor,.int k n=>some (.int k (k.wrap (BitVec.ofInt k.bits (if k.signed then -1 else k.max) ^^^ BitVec.ofInt k.bits n).toNat))
 | .not,.bool b=>some (.bool !b)
 | _,_=>none
def byteOf? : D→Option UInt8
 | .leaf (.int .u8 n)=>if 0≤n∧n<256 then some (UInt8.ofNat n.toNat) else none
 | _=>none
def bytesOf? : List D→Option (List UInt8)
 | []=>some []
 | x::l=>match byteOf? x with
  | some b=>(bytesOf? l).map (b::·)
  | none=>none
def zc0 (b:UInt8):D:= .leaf (.int .u8 (b.toNat:Int))
def zdg (s n:Nat) (i:Int):Bool:=decide (0≤i)&&decide (0<s)&&decide (i.toNat<n / s)
def part (P:Program) (t:TypeId) (cs:List C) (off:Nat):Option E:=
 if (P.underlying t).isNone then none
 else if zbt P t then if off+z0h P t≤cs.length then some (.agg ((cs.drop off).take (z0h P t))) else none
 else match cs[off]? with
  | some c=>some (.one c)
  | none=>none
def z2j (P:Program) (h:Nat→Option O) (t:TypeId):C→Option E
 | .ref p off=>match h p with
  | some (.var _ cs)=>part P t cs off
  | _=>none
 | .ep l=>part P t (l.map .d) 0
 | _=>none
def z4L (cs:List C) (off:Nat) (xs:List C):List C:=cs.take off++(xs++cs.drop (off+xs.length))
def z7O (P:Program) (h:Nat→Option O) (t:TypeId) (a:C) (x:E):Option Eff:=
 match a with
 | .ref p off=>match h p with
  | some (.var ty cs)=>if 0<x.cells.length∧x.cells.length=z0h P t∧off+x.cells.length≤cs.length then some ⟨.undef,[(p,some (.var ty (z4L cs off x.cells)))],[]⟩ else none
  | _=>none
 | _=>none
def zcL (off:Nat):C→Option C
 | .ref p o=>some (.ref p (o+off))
 | .ep l=>some (.ep (l.drop off))
 | _=>none
def z7N (P:Program) (t:TypeId) (f:Nat):Option Field:=
 match P.underlying t with
 | some (.struct fs)=>fs[f]?
 | _=>none
def z2I (P:Program) (t:TypeId) (f:Nat) (a:C):Option C:=
 match z7N P t f with
 | some fd=>if z0h P fd.type=0 then none else zcL fd.offset a
 | none=>none
def z7Q (P:Program) (t:TypeId) (f:Nat) (x:E):Option E:=
 match z7N P t f,x with
 | some fd,.agg cs=>part P fd.type cs fd.offset
 | _,_=>none
def z0u (P:Program) (t:TypeId) (x:Option T) (i:Int):Option C:=
 match P.underlying t with
 | some (.array n e)=>match x with
  | some (.e (.one a))=>if z0h P e≠0∧0≤i∧i<n then zcL (i.toNat*z0h P e) a else none
  | _=>none
 | some (.slice e)=>match x with
  | some (.e (.one (.sl p n s)))=>if s=z0h P e∧0<s∧0≤i∧i<n then some (.ref p (i.toNat*s)) else none
  | x=>match row? x with
   | some (s,l)=>if s=z0h P e∧zdg s l.length i=true then some (.ep (l.drop (i.toNat*s))) else none
   | none=>none
 | _=>none
def z65 (P:Program) (t:TypeId) (x:Option T) (i:Int):Option E:=
 match P.underlying t with
 | some .string=>match str? x with
  | some s=>if 0≤i then match s[i.toNat]? with
    | some b=>some (.one (.d (zc0 b)))
    | none=>none
   else none
  | none=>none
 | some (.array n e)=>match e? x with
  | some (.agg cs)=>if z0h P e≠0∧0≤i∧i<n then part P e cs (i.toNat*z0h P e) else none
  | _=>none
 | _=>none
def bound (o:Option (Option T)) (dflt:Nat):Option Nat:=
 match o with
 | none=>some dflt
 | some x=>match int? x with
  | some (_,i)=>if 0≤i then some i.toNat else none
  | none=>none
def z3S (P:Program) (t:TypeId) (x:Option T) (lo hi:Option (Option T)):Option C:=
 match P.underlying t with
 | some .string=>match str? x with
  | some s=>match bound lo 0,bound hi s.size with
   | some l,some h=>if l≤h∧h≤s.size then some (.d (.leaf (.string (s.extract l h)))) else none
   | _,_=>none
  | none=>none
 | some (.slice e)=>match row? x with
  | some (s,l)=>if s=z0h P e∧0<s then match bound lo 0,bound hi (l.length / s) with
    | some a,some b=>if a≤b∧b≤l.length / s then some (.d (.row s ((l.drop (a*s)).take ((b-a)*s)))) else none
    | _,_=>none
   else none
  | none=>none
 | _=>none
def z45 (P:Program) (t:TypeId) (x:Option T):Option Nat:=
 match P.underlying t with
 | some .string=>match str? x with
  | some s=>some s.size
  | none=>none
 | some (.array n _)=>some n
 | some (.slice e)=>match x with
  | some (.e (.one .nilS))=>some 0
  | some (.e (.one (.sl _ n _)))=>some n
  | x=>match row? x with
   | some (s,l)=>if 0<s then some (l.length / s) else none
   | none=>none
 | _=>none
def rowOf (s:Nat):Option T→Option (List D)
 | some (.e (.one .nilS))=>some []
 | x=>match row? x with
  | some (s',l)=>if s'=s then some l else none
  | none=>none
def z43 (P:Program) (t:TypeId):Option E:=
 match P.info? t with
 | some i=>match i.zero with
  | some z=>z9i z
  | none=>none
 | none=>none
def zok (P:Program) (e:TypeId):Bool:=match z43 P e with
 | some z=>z.cells.length==z0h P e&&z0h P e != 0
 | none=>false
def z0e (P:Program) (h:Nat→Option O) (base:Nat) (t:TypeId) (x y:Option T):Option Eff:=
 match P.underlying t with
 | some (.slice e)=>
  if zok P e=false then none else
  match rowOf (z0h P e) y with
  | some l' =>
   match x with
   | some (.e (.one .nilS))=>
    if (l'.length / z0h P e)*z33 P e≤140737488355328∧l'.length≤140737488355328 then
     some ⟨.e (.one (.gr base (z0h P e) l')),[(base,some (.own e (z0h P e) (l'.length / z0h P e)))],[base]⟩
    else none
   | some (.e (.one (.gr q s l)))=>match h q with
    | some (.own e' s' n)=>
     if s=z0h P e∧e'=e∧s'=s∧l.length=n*s∧((l.length+l'.length) / s)*z33 P e≤140737488355328∧l.length+l'.length≤140737488355328 then
      some ⟨.e (.one (.gr base s (l++l'))),(if q=base then [] else [(q,none)])++[(base,some (.own e s ((l.length+l'.length) / s)))],[q,base]⟩
     else none
    | _=>none
   | _=>none
  | none=>none
 | _=>none
def zbE (P:Program) (src dst:TypeId) (x:Option T):Option C:=
 match P.underlying src,P.underlying dst with
 | some .string,some .string=>(str? x).map fun s=> .d (.leaf (.string s))
 | some .string,some (.slice e)=>match P.underlying e with
  | some (.int .u8)=>(str? x).map fun s=> .d (.row 1 (s.data.toList.map zc0))
  | _=>none
 | some (.slice e),some .string=>match P.underlying e with
  | some (.int .u8)=>match rowOf 1 x with
   | some l=>(bytesOf? l).map fun bs=> .d (.leaf (.string ⟨bs.toArray⟩))
   | none=>none
  | _=>none
 | some (.int _),some (.int k)=>match int? x with
  | some (_,n)=>some (.d (.leaf (.int k (k.wrap n))))
  | none=>none
 | _,_=>none
def lay (place:Nat→Option (Nat×Nat)):List C→List (Nat×Option E)→Option (List C)
 | cs,[]=>some cs
 | cs,(i,x)::rest=>match place i,x with
  | some (off,size),some x=>if x.cells.length=size∧off+size≤cs.length then lay place (z4L cs off x.cells) rest else none
  | _,_=>none
def z5r (P:Program) (t:TypeId) (i:Nat):Option (Nat×Nat):=
 match P.underlying t with
 | some (.struct fs)=>match fs[i]? with
  | some f=>some (f.offset,z0h P f.type)
  | none=>none
 | some (.array _ e)=>some (i*z0h P e,z0h P e)
 | _=>none
def z2c (P:Program) (t:TypeId):Bool:=
 match P.underlying t with
 | some (.struct fs)=>fs.all fun f=>(P.info? f.type).isSome
 | some (.array _ e)=>(P.info? e).isSome
 | _=>false
def z7R (P:Program) (t:TypeId) (parts:List (Nat×Option E)):Option E:=
 match z43 P t with
 | some (.agg cs)=>if z2c P t then (lay (z5r P t) cs parts).map .agg else none
 | _=>none
def elems (P:Program) (e:TypeId):List (Option E)→Option (List D)
 | []=>some []
 | some x::rest=>match (x.fz (slz P 8 e)).ds with
  | some ds=>if ds.length=z0h P e then (elems P e rest).map (ds++·) else none
  | none=>none
 | none::_=>none
def z2W (P:Program) (base:Nat) (t:TypeId) (len:Nat) (parts:List (Nat×Option E)):Option Eff:=
 match P.underlying t with
 | some (.slice e)=>
  if zok P e=false∨len*z0h P e>2^24 then none else
  if parts.map (·.1)=List.range len then match elems P e (parts.map (·.2)) with
   | some l=>some ⟨.e (.one (.gr base (z0h P e) l)),[(base,some (.own e (z0h P e) len))],[base]⟩
   | none=>none
  else none
 | _=>none
def zen (P:Program) (base:Nat) (t:TypeId) (n k:Option (IntKind×Int)):Option Eff:=
 match P.underlying t with
 | some (.slice e)=>match n,k,z43 P e with
  | some (_,n),some (_,k),some z=>
   if zok P e=true∧n=k∧0≤n∧n≤1000000∧(z33 P e:Int)*n≤100000000 then
    some ⟨.e (.one (.sl base n.toNat (z0h P e))),[(base,some (.var e ((List.replicate n.toNat z.cells).flatten)))],[base]⟩
   else none
  | _,_,_=>none
 | _=>none
def C.isD:C→Bool
 | .d _=>true
 | _=>false
def C.ren (base:Nat):C→C
 | .gr q s l=> .gr (base+1+q / 16) s l
 | c=>c
def E.ren (base:Nat):E→E
 | .one c=> .one (c.ren base)
 | .agg cs=> .agg (cs.map (C.ren base))
def T.ren (base:Nat):T→T
 | .e x=> .e (x.ren base)
 | .tup xs=> .tup (xs.map (E.ren base))
 | .undef=> .undef
def named (base:Nat):Nat→List O→List (Nat×Option O)
 | _,[]=>[]
 | i,o::os=>(base+1+i,some o)::named base (i+1) os
def C.z2o (n:Nat):C→Bool
 | .d _=>true
 | .nilS=>true
 | .gr q _ _=>q%16==14&&decide (q / 16<n)
 | .dead=>true
 | _=>false
def E.z2o (n:Nat) (x:E):Bool:=x.cells.all (C.z2o n)
def T.z2o (n:Nat):T→Bool
 | .e x=>x.z2o n
 | .tup xs=>xs.all (E.z2o n)
 | .undef=>false
def O.zbs:O→Bool
 | .own _ _ _=>true
 | _=>false
def O.plain:O→Bool
 | .var _ cs=>cs.all C.isD
 | _=>false
abbrev z1F:=FuncId→List E→List O→Option (T×List O×List O)
def idx (p:Nat):List Nat→Nat→Option Nat
 | [],_=>none
 | q::qs,i=>if q=p then some i else idx p qs (i+1)
def refsOf:List C→List Nat→List Nat
 | [],ps=>ps
 | .ref p _::cs,ps=>refsOf cs (if ps.contains p then ps else ps++[p])
 | _::cs,ps=>refsOf cs ps
def z0O:List (Option E)→List Nat→List Nat
 | [],ps=>ps
 | some x::xs,ps=>z0O xs (refsOf x.cells ps)
 | none::xs,ps=>z0O xs ps
def zaL:List C→List Nat→List Nat
 | [],ps=>ps
 | .sl p _ _::cs,ps=>zaL cs (if ps.contains p then ps else ps++[p])
 | _::cs,ps=>zaL cs ps
def z1s:List (Option E)→List Nat→List Nat
 | [],ps=>ps
 | some x::xs,ps=>z1s xs (zaL x.cells ps)
 | none::xs,ps=>z1s xs ps
def setC (h:Nat→Option O):C→C
 | .sl p n s=>match h p with
  | some (.var _ cs)=>match dsOf cs with
   | some l=>if l.length=n*s∧0<s then .d (.row s l) else .sl p n s
   | none=> .sl p n s
  | _=> .sl p n s
 | c=>c
def setE (h:Nat→Option O):E→E
 | .one c=> .one (setC h c)
 | .agg cs=> .agg (cs.map (setC h))
def zb5 (ps:List Nat):C→Option C
 | .d x=>some (.d x)
 | .ref p off=>(idx p ps 0).map fun i=> .ref (i*16+15) off
 | _=>none
def z6o (ps:List Nat):List C→Option (List C)
 | []=>some []
 | c::cs=>match zb5 ps c with
  | some c=>(z6o ps cs).map (c::·)
  | none=>none
def zfr (ps:List Nat):E→Option E
 | .one c=>(zb5 ps c).map .one
 | .agg cs=>(z6o ps cs).map .agg
def z23 (P:Program) (ps:List Nat):List TypeId→List (Option E)→Option (List E)
 | [],[]=>some []
 | t::ts,some x::xs=>match zfr ps (x.fz (slz P 8 t)) with
  | some y=>(z23 P ps ts xs).map (y::·)
  | none=>none
 | _,_=>none
def zcz (P:Program):O→Option O
 | .var ty cs=>if (fzs (slz P 8 ty) cs).all C.isD then some (.var ty (fzs (slz P 8 ty) cs)) else none
 | _=>none
def z1o (P:Program) (h:Nat→Option O):List Nat→Option (List O)
 | []=>some []
 | p::ps=>match (h p).bind (zcz P) with
  | some o=>(z1o P h ps).map (o::·)
  | none=>none
def z4q:List Nat→List O→List (Nat×Option O)
 | p::ps,o::os=>(p,some o)::z4q ps os
 | _,_=>[]
def z2N:List O→List O→Bool
 | [],[]=>true
 | .var t _::a,.var u _::b=>t==u&&z2N a b
 | _,_=>false
def z5A (P:Program) (X:z1F) (h:Nat→Option O) (base:Nat) (f:Option T) (args:List (Option E)):Option Eff:=
 match f with
 | some (.e (.one (.d (.leaf (.func (.func g) fs ks)))))=>match P.funcs[g]? with
  | some fn=>if fn.body.isNone=true∨fs.size≠0∨ks.size≠0 then none else
   let zs:=z1s args []
   let args:=args.map (Option.map (setE h))
   let ps:=z0O args []
   if zs.any (fun z=>ps.contains z) then none else
   match z23 P ps fn.params.toList args,z1o P h ps with
   | some args,some os=>match X g args os with
    | some (t,ws,os')=>if ws.length<14∧ws.all O.zbs=true∧t.z2o ws.length=true∧os'.all O.plain=true∧z2N os os'=true then
      some ⟨t.ren base,zs.map (fun z=>(z,none))++(z4q ps os'++named base 0 ws),zs++(named base 0 ws).map (·.1)⟩
     else none
    | none=>none
   | _,_=>none
  | none=>none
 | _=>none
def z9X (x y:Option T) (big:Bool):Option T:=
 match int? x,int? y with
 | some (k,a),some (k',b)=>if k=k' then some (.i k (if big then (if b>a then b else a) else (if b<a then b else a))) else none
 | _,_=>none
def zhM (P:Program) (op:BinOp) (t:TypeId) (x y:Option T):Option T:=
 match x,y with
 | some (.e (.one (.d (.leaf a)))),some (.e (.one (.d (.leaf b))))=>(binV P op t a b).map .v
 | some (.e (.one c)),some (.e (.one c'))=>(zh6 P op t c c').map .v
 | _,_=>none
def z4B:Option T→Option T
 | some (.e (.one (.ref p o)))=>some (.e (.one (.ref p o)))
 | some (.e (.one (.ep l)))=>some (.e (.one (.ep l)))
 | some (.e (.one (.d (.leaf (.func (.func g) a b)))))=>some (.e (.one (.d (.leaf (.func (.func g) a b)))))
 | _=>none
def zhL (base:Nat) (t:TypeId) (x:E):Eff:=⟨.e (.one (.ref base 0)),[(base,some (.var t (x.cells.map (C.kill [base]))))],[base]⟩
def z5B (P:Program) (base:Nat) (ρ:Operand→Option T) (h:Nat→Option O) (b:Builtin) (args:List Operand) (ts:List TypeId):Option Eff:=
 match b,args,ts with
 | .len,[x],[t]=>(z45 P t (ρ x)).bind fun n=>T.eff (.i .i64 n)
 | .append,[x,y],[t,t']=>if t=t' then z0e P h base t (ρ x) (ρ y) else none
 | .min,[x,y],_=>(z9X (ρ x) (ρ y) false).bind T.eff
 | .max,[x,y],_=>(z9X (ρ x) (ρ y) true).bind T.eff
 | _,_,_=>none
def ev (P:Program) (X:z1F) (base:Nat) (op:Op) (ρ:Operand→Option T) (h:Nat→Option O):Option Eff:=
 match op with
 | .move x=>(ρ x).bind T.eff
 | .assign x=>(ρ x).bind T.eff
 | .pick c a b=>(bool? (ρ c)).bind fun t=>(if t then ρ a else ρ b).bind T.eff
 | .alloc t=>(z43 P t).map (zhL base t)
 | .box t x=>(e? (ρ x)).map (zhL base t)
 | .build t ps=>(z7R P t (ps.toList.map fun p=>(p.1,e? (ρ p.2)))).bind fun x=>T.eff (.e x)
 | .buildSlice t n ps=>z2W P base t n (ps.toList.map fun p=>(p.1,e? (ρ p.2)))
 | .makeSlice t n k=>zen P base t (int? (ρ n)) (int? (ρ k))
 | .load t a=>match ρ a with
  | some (.e (.one c))=>(z2j P h t c).bind fun x=>T.eff (.e x)
  | _=>none
 | .store t a x=>match ρ a,ρ x with
  | some (.e (.one c)),some (.e x)=>z7O P h t c x
  | _,_=>none
 | .nilCheck x=>(z4B (ρ x)).bind T.eff
 | .binOp op t x y _=>(zhM P op t (ρ x) (ρ y)).bind T.eff
 | .unOp op _ x=>match ρ x with
  | some (.e (.one (.d (.leaf a))))=>(unV op a).bind fun v=>T.eff (.v v)
  | _=>none
 | .convert s d x=>(zbE P s d (ρ x)).bind fun c=>T.eff (.e (.one c))
 | .fieldAddr t x f=>match ρ x with
  | some (.e (.one c))=>(z2I P t f c).bind fun c=>T.eff (.e (.one c))
  | _=>none
 | .field t x f=>(e? (ρ x)).bind fun x=>(z7Q P t f x).bind fun y=>T.eff (.e y)
 | .indexAddr t x i=>(int? (ρ i)).bind fun i=>(z0u P t (ρ x) i.2).bind fun c=>T.eff (.e (.one c))
 | .index t x i=>(int? (ρ i)).bind fun i=>(z65 P t (ρ x) i.2).bind fun y=>T.eff (.e y)
 | .slice t x lo hi mx=>if mx.isSome=true then none else (z3S P t (ρ x) (lo.map ρ) (hi.map ρ)).bind fun c=>T.eff (.e (.one c))
 | .extract x i=>match ρ x with
  | some (.tup xs)=>(xs[i]?).bind fun x=>T.eff (.e x)
  | _=>none
 | .call cl=>match cl.callee with
  | .value f=>z5A P X h base (ρ f) (cl.args.toList.map fun x=>e? (ρ x))
  | .builtin b=>z5B P base ρ h b cl.args.toList cl.argTypes.toList
  | _=>none
 | _=>none
end Am
end Go.Proofs.YtgmppconibklcaaGreatDoor

namespace Go.Proofs.YtgmppconibklcaaGreatDoor
open Go Go.RowKit
namespace Am
abbrev Im:=Addr→Option Value
inductive RD (im:Im):Value→D→Prop
 | leaf (v:Value) (h:v.oneCell'=true):RD im v (.leaf v)
 | row (A:Option Addr) (n c size:Nat) (xs:List Value) (l:List D) (hn:l.length=n*size) (hx:xs.length=l.length) (hz:0<size) (hc:n≤c)
   (hs:0<n→∃ g o,A=some ⟨g,o,none⟩∧∀ j u,xs[j]? = some u→im ⟨g,o+j,none⟩=some u)
   (hd:∀ (j:Nat) (u:Value) (d:D),xs[j]? = some u→l[j]? = some d→RD im u d):RD im (.slice A n c) (.row size l)
structure Gh where
 im:Im
 loc:Nat→Option Value
def RC (G:Gh) (v:Value):C→Prop
 | .d x=>RD G.im v x
 | .nilS=>v = .slice none 0 0
 | .gr q s l=>RD G.im v (.row s l)∧G.loc q=some v
 | .ref p off=>∃ b,G.loc p=some (.pointer (some ⟨b,0,none⟩))∧v = .pointer (some ⟨b,off,none⟩)
 | .ep l=>∃ g o,v = .pointer (some ⟨g,o,none⟩)∧∀ (j:Nat) (x:D),l[j]? = some x→∃ u,G.im ⟨g,o+j,none⟩=some u∧RD G.im u x
 | .sl p n s=>∃ b,G.loc p=some (.pointer (some ⟨b,0,none⟩))∧v = .slice (some ⟨b,0,none⟩) n n
 | .dead=>v.oneCell'=true
def RCs (G:Gh) (us:List Value) (cs:List C):Prop:=us.length=cs.length∧∀ (j:Nat) (u:Value) (c:C),us[j]? = some u→cs[j]? = some c→RC G u c
def RE (G:Gh) (v:Value):E→Prop
 | .one c=>RC G v c
 | .agg cs=>∃ us:Array Value,v = .agg us∧RCs G us.toList cs
def REs (G:Gh) (vs:List Value) (xs:List E):Prop:=vs.length=xs.length∧∀ (j:Nat) (u:Value) (x:E),vs[j]? = some u→xs[j]? = some x→RE G u x
def RT (G:Gh) (v:Value):T→Prop
 | .e x=>RE G v x
 | .tup xs=>∃ vs:Array Value,v = .tuple vs∧REs G vs.toList xs
 | .undef=>v=undef
theorem RD.one {im:Im} {v:Value} {x:D} (h:RD im v x):v.oneCell'=true:=by cases h with|leaf _ h=>exact h|row=>rfl
theorem RD.mono {im im':Im} {v:Value} {x:D} (h:RD im v x) (hi:∀ a u,im a=some u→im' a=some u):RD im' v x:=by
 induction h with
 | leaf v h=>exact .leaf v h
 | row A n c size xs l hn hx hz hc hs hd ih=>
  refine .row A n c size xs l hn hx hz hc (fun h0=>?_) ih;obtain ⟨g,o,hA,hcell⟩:=hs h0;exact ⟨g,o,hA,fun j u hu=>hi _ _ (hcell j u hu)⟩
theorem RC.one {G:Gh} {v:Value} {c:C} (h:RC G v c):v.oneCell'=true:=by
 cases c with
 | d x=>exact RD.one h
 | nilS=>rw [show v=_ from h];rfl
 | gr q s l=>exact RD.one h.1
 | ref p off=>obtain ⟨b,_,rfl⟩:=h;rfl
 | ep l=>obtain ⟨g,o,rfl,_⟩:=h;rfl
 | sl p n s=>obtain ⟨b,_,rfl⟩:=h;rfl
 | dead=>exact h
theorem z9I {v:Value} (h:v.oneCell'=true):v.cells=#[v]:=by cases v<;>first|rfl|cases h
theorem RE.cells {G:Gh} {v:Value} {x:E} (h:RE G v x):RCs G v.cells.toList x.cells:=by
 cases x with
 | one c=>
  rw [z9I (RC.one h)];refine ⟨rfl,fun j u c' hu hc=>?_⟩;match j with
  | 0=>simp [E.cells] at hu hc;subst hu;subst hc;exact h
  | j+1=>simp at hu
 | agg cs=>obtain ⟨us,rfl,h⟩:=h;exact h
theorem RC.kill {G G':Gh} {v:Value} {c:C} {ks:List Nat} (h:RC G v c) (hi:∀ a u,G.im a=some u→G'.im a=some u) (hl:∀ p,p∉ks→G'.loc p=G.loc p):RC G' v (c.kill ks):=by
 cases c with
 | d x=>exact RD.mono h hi
 | nilS=>exact h
 | gr q' s l=>
  by_cases hne:q'∈ks
  ·simp only [C.kill,List.contains_iff_mem.2 hne,if_true];exact RD.one h.1
  ·have:ks.contains q'=false:=by simpa using hne
   simp only [C.kill,this,Bool.false_eq_true,if_false];exact ⟨RD.mono h.1 hi,(hl _ hne).trans h.2⟩
 | ref p off=>
  by_cases hne:p∈ks
  ·simp only [C.kill,List.contains_iff_mem.2 hne,if_true];obtain ⟨b,_,rfl⟩:=h;rfl
  ·have:ks.contains p=false:=by simpa using hne
   simp only [C.kill,this,Bool.false_eq_true,if_false];obtain ⟨b,h1,h2⟩:=h;exact ⟨b,(hl _ hne).trans h1,h2⟩
 | ep l=>
  obtain ⟨g,o,h1,h2⟩:=h;exact ⟨g,o,h1,fun j x hx=>by obtain ⟨u,h3,h4⟩:=h2 j x hx;exact ⟨u,hi _ _ h3,h4.mono hi⟩⟩
 | sl p n s=>
  by_cases hne:p∈ks
  ·simp only [C.kill,List.contains_iff_mem.2 hne,if_true];obtain ⟨b,_,rfl⟩:=h;rfl
  ·have:ks.contains p=false:=by simpa using hne
   simp only [C.kill,this,Bool.false_eq_true,if_false];obtain ⟨b,h1,h2⟩:=h;exact ⟨b,(hl _ hne).trans h1,h2⟩
 | dead=>exact h
theorem C.z0G (c:C):c.kill []=c:=by cases c<;>rfl
theorem z6s (cs:List C):cs.map (C.kill [])=cs:=by
 induction cs with
 | nil=>rfl
 | cons c cs ih=>rw [List.map_cons,ih,C.z0G]
theorem E.z0G (x:E):x.kill []=x:=by cases x<;>simp [E.kill,C.z0G,z6s]
theorem T.z0G (t:T):t.kill []=t:=by
 cases t with
 | e x=>simp [T.kill,E.z0G]
 | tup xs=>
  simp only [T.kill]
  congr 1
  induction xs with
  | nil=>rfl
  | cons c cs ih=>rw [List.map_cons,ih,E.z0G]
 | undef=>rfl
theorem O.z0G (o:O):o.kill []=o:=by cases o<;>simp [O.kill,z6s]
theorem RC.mono {G G':Gh} {v:Value} {c:C} (h:RC G v c) (hi:∀ a u,G.im a=some u→G'.im a=some u) (hl:G'.loc=G.loc):RC G' v c:=by
 cases c with
 | d x=>exact RD.mono h hi
 | nilS=>exact h
 | gr q' s l=>exact ⟨RD.mono h.1 hi,by rw [hl];exact h.2⟩
 | ref p off=>obtain ⟨b,h1,h2⟩:=h;exact ⟨b,by rw [hl];exact h1,h2⟩
 | ep l=>
  obtain ⟨g,o,h1,h2⟩:=h;exact ⟨g,o,h1,fun j x hx=>by obtain ⟨u,h3,h4⟩:=h2 j x hx;exact ⟨u,hi _ _ h3,h4.mono hi⟩⟩
 | sl p n s=>obtain ⟨b,h1,h2⟩:=h;exact ⟨b,by rw [hl];exact h1,h2⟩
 | dead=>exact h
theorem RCs.map {G G':Gh} {us:List Value} {cs:List C} {f:C→C} (h:RCs G us cs) (hf:∀ u c,RC G u c→RC G' u (f c)):RCs G' us (cs.map f):=
 ⟨by simp [h.1],fun j u c hu hc=>by
  rw [List.getElem?_map] at hc;cases hcj:cs[j]? with
  | none=>rw [hcj] at hc;cases hc
  | some c0=>
   rw [hcj] at hc;simp at hc;subst hc;exact hf u c0 (h.2 j u c0 hu hcj)⟩
theorem REs.map {G G':Gh} {us:List Value} {xs:List E} {f:E→E} (h:REs G us xs) (hf:∀ u x,RE G u x→RE G' u (f x)):REs G' us (xs.map f):=
 ⟨by simp [h.1],fun j u c hu hc=>by
  rw [List.getElem?_map] at hc;cases hcj:xs[j]? with
  | none=>rw [hcj] at hc;cases hc
  | some c0=>
   rw [hcj] at hc;simp at hc;subst hc;exact hf u c0 (h.2 j u c0 hu hcj)⟩
section
variable {G G':Gh} {ks:List Nat}
theorem RE.kill (hi:∀ a u,G.im a=some u→G'.im a=some u) (hl:∀ p,p∉ks→G'.loc p=G.loc p) {v:Value} {x:E} (h:RE G v x):RE G' v (x.kill ks):=by
 cases x with
 | one c=>exact RC.kill h hi hl
 | agg cs=>obtain ⟨us,rfl,h⟩:=h;exact ⟨us,rfl,h.map fun u c hc=>hc.kill hi hl⟩
theorem RT.kill (hi:∀ a u,G.im a=some u→G'.im a=some u) (hl:∀ p,p∉ks→G'.loc p=G.loc p) {v:Value} {t:T} (h:RT G v t):RT G' v (t.kill ks):=by
 cases t with
 | e x=>exact RE.kill hi hl h
 | tup xs=>obtain ⟨vs,rfl,h⟩:=h;exact ⟨vs,rfl,h.map fun u c hc=>hc.kill hi hl⟩
 | undef=>exact h
theorem RCs.mono {us:List Value} {cs:List C} (h:RCs G us cs) (hi:∀ a u,G.im a=some u→G'.im a=some u) (hl:G'.loc=G.loc):RCs G' us cs:=⟨h.1,fun j u c hu hc=>(h.2 j u c hu hc).mono hi hl⟩
theorem RE.mono {v:Value} {x:E} (h:RE G v x) (hi:∀ a u,G.im a=some u→G'.im a=some u) (hl:G'.loc=G.loc):RE G' v x:=by
 cases x with
 | one c=>exact RC.mono h hi hl
 | agg cs=>obtain ⟨us,rfl,h⟩:=h;exact ⟨us,rfl,h.mono hi hl⟩
theorem RT.mono {v:Value} {t:T} (h:RT G v t) (hi:∀ a u,G.im a=some u→G'.im a=some u) (hl:G'.loc=G.loc):RT G' v t:=by
 cases t with
 | e x=>exact RE.mono h hi hl
 | tup xs=>obtain ⟨vs,rfl,h⟩:=h;exact ⟨vs,rfl,h.1,fun j u x hu hx=>(h.2 j u x hu hx).mono hi hl⟩
 | undef=>exact h
end
def Gh.blk (G:Gh) (p:Nat):Option Nat:=
 match G.loc p with
 | some (.pointer (some a))=>some a.block
 | some (.slice (some a) _ _)=>some a.block
 | _=>none
structure Ctx where
 W0:World
 w1:World
 im1:Im
 gl:Nat→Option (List D)
 tb:World→Prop
 ch:Nat→Prop
 lo:Nat→Option Value
structure Only (ch:Nat→Prop) (w w':World):Prop where
 os:w'.os=w.os
 tape:w'.tape=w.tape
 output:w'.output=w.output
 size:w.heap.size≤w'.heap.size
 block:∀ k,k<w.heap.size→¬ch k→w'.heap[k]? = w.heap[k]?
theorem Only.refl (ch:Nat→Prop) (w:World):Only ch w w:=⟨rfl,rfl,rfl,Nat.le_refl _,fun _ _ _=>rfl⟩
theorem Only.step {ch ch':Nat→Prop} {a w w':World} (h:Only ch a w) (k:Only ch' w w') (hc:∀ b,ch' b→b<a.heap.size→ch b):Only ch a w' :=
 ⟨k.os.trans h.os,k.tape.trans h.tape,k.output.trans h.output,Nat.le_trans h.size k.size,fun i hi hn=>(k.block i (Nat.lt_of_lt_of_le hi h.size) (fun e=>hn (hc i e hi))).trans (h.block i hi hn)⟩
theorem Only.below {ch:Nat→Prop} {a w w':World} (h:Only ch a w) (k:Below w.heap.size w w'):Only ch a w' :=
 ⟨k.os.trans h.os,k.tape.trans h.tape,k.output.trans h.output,Nat.le_trans h.size k.size,fun i hi hn=>(k.block i (Nat.lt_of_lt_of_le hi h.size)).trans (h.block i hi hn)⟩
theorem Only.grown {ch:Nat→Prop} {a w w':World} {r:Option Nat} (h:Only ch a w) (k:w.grownBy w' r) (hr:∀ g,r=some g→a.heap.size≤g∨ch g):Only ch a w' :=
 ⟨k.os.trans h.os,k.tape.trans h.tape,k.output.trans h.output,Nat.le_trans h.size k.size,fun i hi hn=>(k.block i (Nat.lt_of_lt_of_le hi h.size) (fun e=>by
  rcases hr i e.symm with h1|h1
  ·omega
  ·exact hn h1)).trans (h.block i hi hn)⟩
def RO (c:Ctx) (G:Gh) (w:World) (p:Nat):O→Prop
 | .var ty cs=>∃ (b:Nat) (us:Array Value),G.loc p=some (.pointer (some ⟨b,0,none⟩))∧(c.w1.heap.size≤b∨c.ch b)∧Blk w b ty us∧RCs G us.toList cs∧∀ off,G.im ⟨b,off,none⟩=none
 | .own e s n=>∃ (v:Value) (us:List Value),G.loc p=some v∧w.ownsRow c.w1.heap.size e s v n us∧∀ g,v.ownBlock=some g→∀ off u,G.im ⟨g,off,none⟩=some u→off<n*s
structure Inv (c:Ctx) (G:Gh) (h:Nat→Option O) (w:World):Prop where
 tb:c.tb c.W0
 base:Below c.W0.heap.size c.W0 c.w1
 chb:∀ k,c.ch k→c.W0.heap.size≤k∧k<c.w1.heap.size
 below:Only c.ch c.w1 w
 imw:∀ a u,G.im a=some u→w.cell? a=some u
 imx:∀ a u,c.im1 a=some u→G.im a=some u
 imo:∀ a,a.block<c.w1.heap.size→¬c.ch a.block→G.im a=c.im1 a
 pas:∀ i,G.loc (i*16+15)=c.lo i
 glob:∀ g l,c.gl g=some l→RC G (.pointer (some ⟨g,0,none⟩)) (.ep l)
 obj:∀ p o,h p=some o→RO c G w p o
 sep:∀ p q o o' b,h p=some o→h q=some o'→G.blk p=some b→G.blk q=some b→p=q
theorem Inv.old {c:Ctx} {G:Gh} {h:Nat→Option O} {w:World} (hI:Inv c G h w):Below c.W0.heap.size c.W0 w:=
 ⟨hI.below.os.trans hI.base.os,hI.below.tape.trans hI.base.tape,hI.below.output.trans hI.base.output,Nat.le_trans hI.base.size hI.below.size,fun k hk=>(hI.below.block k (Nat.lt_of_lt_of_le hk hI.base.size) (fun e=>by have:=(hI.chb k e).1;omega)).trans (hI.base.block k hk)⟩
theorem RO.z5F {c:Ctx} {G:Gh} {w:World} {p:Nat} {o:O} (h:RO c G w p o) {b:Nat} (hb:G.blk p=some b):(c.w1.heap.size≤b∨c.ch b)∧b<w.heap.size:=by
 cases o with
 | var ty cs=>
  obtain ⟨b',us,h1,h2,h3,_,_⟩:=h;unfold Gh.blk at hb;rw [h1] at hb;simp at hb;subst hb;exact ⟨h2,h3.lt⟩
 | own e s n=>
  obtain ⟨v,us,h1,h2,_⟩:=h;unfold Gh.blk at hb;rw [h1] at hb;refine (fun h:c.w1.heap.size≤b∧b<w.heap.size=>⟨.inl h.1,h.2⟩) (h2.lt b ?_);split at hb
  ·rename_i a e;injection e with e;subst e;rcases h2.2 with ⟨h,_⟩|⟨g,cap,cur,h,_⟩<;>cases h
  ·rename_i a _ _ e;injection e with e;subst e;exact hb
  ·cases hb
end Am
end Go.Proofs.YtgmppconibklcaaGreatDoor

namespace Go.Proofs.YtgmppconibklcaaGreatDoor
open Go Go.RowKit
namespace Am
section
variable {P:Program} {w:World} {G:Gh}
theorem zee {t:TypeId} {d:TypeDesc} (h:P.underlying t=some d):∃ i,P.info? t=some i:=by
 unfold Program.underlying at h;cases hi:P.info? t with
 | none=>rw [hi] at h;cases h
 | some i=>exact ⟨i,rfl⟩
theorem zhn {t:TypeId} (h:z0h P t≠0):∃ i,P.info? t=some i:=by
 unfold z0h at h;cases hi:P.info? t with
 | none=>rw [hi] at h;exact absurd rfl h
 | some i=>exact ⟨i,rfl⟩
theorem z5l {t:TypeId} {i:TypeInfo} (h:P.info? t=some i):(sizeOf t).run P w = .ok (z0h P t) w:=by
 simp [sizeOf,typeInfo,h,z0h]
theorem z2x {t:TypeId} (h:z0h P t≠0):(sizeOf t).run P w = .ok (z0h P t) w:=by
 obtain ⟨i,hi⟩:=zhn h;exact z5l hi
theorem z5m {t:TypeId} (h:(P.underlying t).isNone=false):(isAgg t).run P w = .ok (zbt P t) w:=by
 cases hd:P.underlying t with
 | none=>rw [hd] at h;cases h
 | some d=>
  cases d<;>simp [isAgg,run_underlying hd,zbt,hd]
theorem z34 (b o j:Nat):(⟨b,o,none⟩:Addr).add j=⟨b,o+j,none⟩:=by
 unfold Addr.add;split
 ·rename_i h;subst h;rfl
 ·rfl
theorem RCs.get {us:List Value} {cs:List C} (h:RCs G us cs) {j:Nat} {c:C} (hc:cs[j]? = some c):∃ u,us[j]? = some u∧RC G u c:=by
 have hj:j<cs.length:=(List.getElem?_eq_some_iff.1 hc).1;have hj2:j<us.length:=by rw [h.1];exact hj
 exact ⟨us[j],List.getElem?_eq_getElem hj2,h.2 j _ c (List.getElem?_eq_getElem hj2) hc⟩
theorem RCs.drop {us:List Value} {cs:List C} (h:RCs G us cs) (k:Nat):RCs G (us.drop k) (cs.drop k):=
 ⟨by simp [h.1],fun j u c hu hc=>h.2 (k+j) u c (by simpa using hu) (by simpa using hc)⟩
theorem RCs.take {us:List Value} {cs:List C} (h:RCs G us cs) (k:Nat):RCs G (us.take k) (cs.take k):=
 ⟨by simp [h.1],fun j u c hu hc=>h.2 j u c (by rw [List.getElem?_take] at hu;split at hu<;>simp_all) (by rw [List.getElem?_take] at hc;split at hc<;>simp_all)⟩
theorem RCs.app {us vs:List Value} {cs ds:List C} (h:RCs G us cs) (k:RCs G vs ds):RCs G (us++vs) (cs++ds):=
 ⟨by simp [h.1,k.1],fun j u c hu hc=>by
  rcases Nat.lt_or_ge j us.length with hj|hj
  ·rw [List.getElem?_append_left hj] at hu;rw [List.getElem?_append_left (by have:=h.1;omega)] at hc;exact h.2 j u c hu hc
  ·rw [List.getElem?_append_right hj] at hu;rw [List.getElem?_append_right (by have:=h.1;omega),←h.1] at hc;exact k.2 _ u c hu hc⟩
theorem RCs.nil_:RCs G [] []:=⟨rfl,fun j u c hu=>by simp at hu⟩
theorem RCs.zdZ {us:List Value} {cs:List C} (h:RCs G us cs):∀ u∈us,u.oneCell'=true:=by
 intro u hu;obtain ⟨j,hj,rfl⟩:=List.getElem_of_mem hu;have hj2:j<cs.length:=by rw [←h.1];exact hj
 exact RC.one (h.2 j us[j] cs[j] (List.getElem?_eq_getElem hj) (List.getElem?_eq_getElem hj2))
theorem zdF {t:TypeId} {us:Array Value} {cs:List C} {off:Nat} {x:E} (h:RCs G us.toList cs) (hp:Am.part P t cs off=some x):∃ u,(Go.part t us off).run P w = .ok u w∧RE G u x:=by
 unfold Am.part at hp;cases hn:(P.underlying t).isNone with
 | true=>rw [hn] at hp;simp at hp
 | false=>
  rw [hn] at hp;simp only [Bool.false_eq_true,if_false] at hp;cases ha:zbt P t with
  | true=>
   rw [ha] at hp;simp only [if_true] at hp;split at hp
   ·rename_i hl;injection hp with hp;subst hp;obtain ⟨d,hd⟩:∃ d,P.underlying t=some d:=by cases hd:P.underlying t with|none=>rw [hd] at hn;cases hn|some d=>exact ⟨d,rfl⟩
    obtain ⟨i,hi⟩:=zee hd;refine ⟨.agg (us.extract off (off+z0h P t)),by simp [Go.part,z5m hn,ha,z5l hi],_,rfl,?_⟩;have e:(us.extract off (off+z0h P t)).toList=(us.toList.drop off).take (z0h P t):=by
     simp [List.extract_eq_take_drop]
    rw [e];exact (h.drop off).take _
   ·cases hp
  | false=>
   rw [ha] at hp;simp only [Bool.false_eq_true,if_false] at hp;split at hp
   ·rename_i c hc;injection hp with hp;subst hp;obtain ⟨u,hu,hr⟩:=h.get hc;have hu2:us[off]? = some u:=by rw [←Array.getElem?_toList];exact hu
    exact ⟨u,by simp [Go.part,z5m hn,ha,hu2],hr⟩
   ·cases hp
theorem z2b {t:TypeId} {b o off:Nat} {cs:List C} {x:E} (hc:∀ j c,cs[j]? = some c→∃ u,w.cell? ⟨b,o+j,none⟩=some u∧RC G u c) (hp:Am.part P t cs off=some x):
  ∃ v,(loadVar t ⟨b,o+off,none⟩).run P w = .ok v w∧RE G v x:=by
 unfold Am.part at hp;cases hn:(P.underlying t).isNone with
 | true=>rw [hn] at hp;simp at hp
 | false=>
  rw [hn] at hp;simp only [Bool.false_eq_true,if_false] at hp;cases ha:zbt P t with
  | true=>
   rw [ha] at hp;simp only [if_true] at hp;split at hp
   ·rename_i hl;injection hp with hp;subst hp;obtain ⟨d,hd⟩:∃ d,P.underlying t=some d:=by cases hd:P.underlying t with|none=>rw [hd] at hn;cases hn|some d=>exact ⟨d,rfl⟩
    obtain ⟨i,hi⟩:=zee hd;have hall:∀ j,j<z0h P t→∃ u,w.cell? ⟨b,o+off+j,none⟩=some u∧RC G u (cs[off+j]?.getD .dead):=by
     intro j hj;have hjl:off+j<cs.length:=by omega
     obtain ⟨u,h1,h2⟩:=hc (off+j) cs[off+j] (List.getElem?_eq_getElem hjl);exact ⟨u,by rw [Nat.add_assoc];exact h1,by rw [List.getElem?_eq_getElem hjl];exact h2⟩
    have hl2:=run_loadCells (P:=P) w ⟨b,o+off,none⟩ (z0h P t) (fun j=>(w.cell? ⟨b,o+off+j,none⟩).getD undef) (fun j hj=>by
     rw [z34];obtain ⟨u,h1,_⟩:=hall j hj;rw [h1];rfl)
    refine ⟨_,by simp [loadVar,z5m hn,ha,z5l hi,hl2];rfl,_,rfl,?_,?_⟩
    ·simp;omega
    ·intro j u c hu hcj;simp only [List.getElem?_map] at hu;rcases Nat.lt_or_ge j (z0h P t) with hj|hj
     ·obtain ⟨u',h1,h2⟩:=hall j hj;rw [List.getElem?_range hj] at hu;simp [h1] at hu;subst hu;rw [List.getElem?_take,if_pos hj,List.getElem?_drop] at hcj;rw [hcj] at h2;exact h2
     ·rw [List.getElem?_eq_none (by simpa using hj)] at hu;cases hu
   ·cases hp
  | false=>
   rw [ha] at hp;simp only [Bool.false_eq_true,if_false] at hp;split at hp
   ·rename_i c hcc;injection hp with hp;subst hp;obtain ⟨u,hu,hr⟩:=hc _ _ hcc;exact ⟨u,by simp [loadVar,z5m hn,ha,hu],hr⟩
   ·cases hp
theorem Blk.setCells {b:Nat} {ty:TypeId}:∀ (vs:List Value) (o:Nat) (w:World) (us:Array Value),Blk w b ty us→o+vs.length≤us.size→Blk (w.setCells b o vs) b ty (us.toList.take o++(vs++us.toList.drop (o+vs.length))).toArray
 | [],o,w,us,h,_=>by simpa [World.setCells] using h
 | v::r,o,w,us,h,hl=>by
  rw [World.setCells];have h1:=h.set_ o v;have h2:=Blk.setCells r (o+1) _ _ h1 (by simp at hl ⊢;omega);have e:((us.setIfInBounds o v).toList.take (o+1)++(r++(us.setIfInBounds o v).toList.drop (o+1+r.length)))=us.toList.take o++((v::r)++us.toList.drop (o+(v::r).length)):=by
   have ho:o<us.toList.length:=by simp at hl ⊢;omega
   apply List.ext_getElem?;intro k;simp only [Array.toList_setIfInBounds,List.getElem?_append,List.length_take,List.length_set,List.length_cons,List.getElem?_drop,List.getElem?_take,List.getElem?_set];rcases Nat.lt_trichotomy k o with hk|hk|hk
   ·rw [if_pos (by omega),if_pos (by omega),if_neg (by omega),if_pos (by omega),if_pos hk]
   ·subst hk;rw [if_pos (by omega),if_pos (by omega),if_pos rfl,if_pos ho,if_neg (by omega),if_pos (by omega),show k-min k us.toList.length=0 by omega];rfl
   ·rw [if_neg (by omega),if_neg (by omega:¬k<min o us.toList.length)];rw [show k-min (o+1) us.toList.length=k-(o+1) by omega,show k-min o us.toList.length=k-o by omega];by_cases hr:k-(o+1)<r.length
    ·rw [if_pos hr,if_pos (by omega),show k-o=(k-(o+1))+1 by omega,List.getElem?_cons_succ]
    ·rw [if_neg hr,if_neg (by omega),if_neg (by omega),show o+1+r.length+(k-(o+1)-r.length)=o+(r.length+1)+(k-o-(r.length+1)) by omega]
  rw [←e];exact h2
theorem z1h {b:Nat}:∀ (vs:List Value) (o:Nat) (w:World) (k:Nat),k≠b→(w.setCells b o vs).heap[k]? = w.heap[k]?
 | [],_,_,_,_=>rfl
 | v::r,o,w,k,h=>by
  rw [World.setCells,z1h r (o+1) _ k h];exact Below.heap_setCell w _ v k h
theorem z2n {b:Nat}:∀ (vs:List Value) (o:Nat) (w:World),(w.setCells b o vs).heap.size=w.heap.size
 | [],_,_=>rfl
 | v::r,o,w=>by rw [World.setCells,z2n r (o+1)];simp [World.setCell]
theorem z0X {b:Nat}:∀ (vs:List Value) (o:Nat) (w:World),(w.setCells b o vs).os=w.os∧(w.setCells b o vs).tape=w.tape∧(w.setCells b o vs).output=w.output
 | [],_,_=>⟨rfl,rfl,rfl⟩
 | v::r,o,w=>by rw [World.setCells];exact z0X r (o+1) _
theorem Below.setCells {B b:Nat} {a w:World} (h:Below B a w) (hb:B≤b) (o:Nat) (vs:List Value):Below B a (w.setCells b o vs):=by
 obtain ⟨h1,h2,h3⟩:=z0X (b:=b) vs o w;exact ⟨h1.trans h.os,h2.trans h.tape,h3.trans h.output,by rw [z2n];exact h.size,fun k hk=>(z1h vs o w k (by omega)).trans (h.block k hk)⟩
theorem z7g {t:TypeId} {b off:Nat} {ty:TypeId} {us:Array Value} {v:Value} (hB:Blk w b ty us) (hs:v.cells.size=z0h P t) (h0:0<v.cells.size) (hl:off+v.cells.size≤us.size) (h1:∀ u∈v.cells.toList,u.oneCell'=true):
  (storeVar t ⟨b,off,none⟩ v).run P w = .ok () (w.setCells b off v.cells.toList):=by
 have hr:=z2x (P:=P) (w:=w) (t:=t) (by omega);have hst:=run_storeCells_cells (P:=P) b off v.cells.toList 0 w (fun j hj=>by rw [hB.cell];simp at hj ⊢;omega) (fun j hj=>hB.frozen _) h1;simp only [Nat.add_zero] at hst;simp [storeVar,hr,hs];exact hst
theorem RCs.z4L {us vs:List Value} {cs xs:List C} (h:RCs G us cs) (k:RCs G vs xs) (off:Nat):RCs G (us.take off++(vs++us.drop (off+vs.length))) (z4L cs off xs):=by
 unfold Am.z4L;rw [k.1];exact (h.take off).app (k.app (h.drop _))
theorem zbz {place:Nat→Option (Nat×Nat)} {cells:Array Value} {i off size:Nat} {v:Value} {rest:List (Nat×Value)} (hp:place i=some (off,size)) (hs:v.cells.size=size) (hl:off+size≤cells.size):
  Instr.fill place cells ((i,v)::rest)=Instr.fill place (cells.toList.take off++(v.cells.toList++cells.toList.drop (off+v.cells.toList.length))).toArray rest:=by
 have hc:¬(v.cells.size≠size||off+v.cells.size>cells.size)=true:=by simp;omega
 simp only [Instr.fill,hp];rw [if_neg (by simpa using hc)]
 congr 1
 have hz:v.cells.zipIdx.foldl (fun cs (x:Value×Nat)=>cs.setIfInBounds (off+x.2) x.1) cells=(v.cells.toList.zipIdx 0).foldl (fun cs (x:Value×Nat)=>cs.setIfInBounds (off+x.2) x.1) cells:=by
  rw [←Array.foldl_toList,Array.toList_zipIdx]
 rw [hz];obtain ⟨h1,h2⟩:=Great.foldl_set off v.cells.toList 0 cells;apply Array.ext_getElem?;intro k;rw [h2 k];simp only [List.getElem?_toArray,List.getElem?_append,List.length_take,Array.length_toList,List.getElem?_take,List.getElem?_drop,Nat.add_zero];rcases Nat.lt_or_ge k off with hk|hk
 ·rw [if_neg (by omega),if_pos (by omega),if_pos hk,Array.getElem?_toList]
 ·rw [if_neg (by omega:¬k<min off cells.size),show k-min off cells.size=k-off by omega];by_cases hk2:k-off<v.cells.size
  ·rw [if_pos ⟨hk,by omega,by omega⟩,if_pos hk2]
  ·rw [if_neg (by omega),if_neg hk2,Array.getElem?_toList,show off+v.cells.size+(k-off-v.cells.size)=k by omega]
theorem z9P {place:Nat→Option (Nat×Nat)}:∀ (parts:List (Nat×Option E)) (vs:List (Nat×Value)) (cs cs':List C) (cells:Array Value),lay place cs parts=some cs'→RCs G cells.toList cs →
  vs.map (·.1)=parts.map (·.1)→(∀ (j:Nat) (p:Nat×Option E) (q:Nat×Value) (x:E),parts[j]? = some p→vs[j]? = some q→p.2=some x→RE G q.2 x) →
  ∃ cells':Array Value,Instr.fill place cells vs=some cells'∧RCs G cells'.toList cs'
 | [],vs,cs,cs',cells,h,hc,hm,hr=>by
  have:vs=[]:=by simpa using hm
  subst this;simp [lay] at h;subst h;exact ⟨cells,rfl,hc⟩
 | (i,none)::rest,vs,cs,cs',cells,h,hc,hm,hr=>by
  simp only [lay] at h;cases hp:place i<;>rw [hp] at h<;>cases h
 | (i,some x)::rest,vs,cs,cs',cells,h,hc,hm,hr=>by
  match vs,hm with
  | (k,v)::vs,hm=>
   simp only [List.map_cons,List.cons.injEq] at hm;obtain ⟨rfl,hm2⟩:=hm;simp only [lay] at h;cases hp:place k with
   | none=>rw [hp] at h;cases h
   | some os=>
    obtain ⟨off,size⟩:=os;rw [hp] at h;simp only at h;split at h
    ·rename_i hl;have hv:=hr 0 _ _ x rfl rfl rfl;have hcv:=hv.cells;have hsz:v.cells.size=size:=by have:=hcv.1;simp at this;omega
     have hcl:cells.size=cs.length:=by have:=hc.1;simpa using this
     rw [zbz hp hsz (by omega)];refine z9P rest vs _ cs' _ h ?_ hm2 (fun j p q y h1 h2 h3=>hr (j+1) p q y (by simpa using h1) (by simpa using h2) h3);simp only [List.toList_toArray] ;exact hc.z4L hcv off
    ·cases h
theorem zc_RC {v:Value} (h:v.oneCell'=true):RC G v (zc v):=by
 unfold zc;split
 ·rfl
 ·exact RD.leaf _ h
theorem zbU {v:Value} {x:E} (h:z9i v=some x):RE G v x:=by
 unfold z9i at h;split at h
 ·rename_i cs;split at h
  ·rename_i hall;injection h with h;subst h;refine ⟨cs,rfl,by simp,fun j u c hu hc=>?_⟩;rw [List.getElem?_map,hu] at hc;simp at hc;subst hc;exact zc_RC ((Array.all_eq_true_iff_forall_mem.1 hall) u (Array.mem_of_getElem? (by rw [←Array.getElem?_toList];exact hu)))
  ·cases h
 ·cases h
 ·rename_i h1 h2;injection h with h;subst h;refine zc_RC ?_;cases v<;>first|rfl|exact absurd rfl (h1 _)|exact absurd rfl (h2 _)
theorem z6O {t:TypeId} {x:E} (h:z43 P t=some x):∃ i z,P.info? t=some i∧i.zero=some z∧(zeroValue t).run P w = .ok z w∧RE G z x:=by
 unfold z43 at h;cases hi:P.info? t with
 | none=>rw [hi] at h;cases h
 | some i=>
  rw [hi] at h;simp only at h;cases hz:i.zero with
  | none=>rw [hz] at h;cases h
  | some z=>
   rw [hz] at h;exact ⟨i,z,rfl,hz,by simp [zeroValue,typeInfo,hi,hz],zbU h⟩
theorem z90:∀ (fs:List Field),(∀ f∈fs,(P.info? f.type).isSome=true)→(fs.mapM fun f=>Prod.mk f.offset <$> sizeOf f.type).run P w = .ok (fs.map fun f=>(f.offset,z0h P f.type)) w
 | [],_=>by simp
 | f::fs,h=>by
  obtain ⟨i,hi⟩:=Option.isSome_iff_exists.1 (h f (by simp));simp [List.mapM_cons,z5l hi,z90 fs (fun g hg=>h g (by simp [hg]))]
theorem zfa {t:TypeId} {parts:List (Nat×Option E)} {vs:Array (Nat×Value)} {x:E} (h:z7R P t parts=some x) (hm:vs.toList.map (·.1)=parts.map (·.1))
  (hr:∀ (j:Nat) (p:Nat×Option E) (q:Nat×Value) (y:E),parts[j]? = some p→vs.toList[j]? = some q→p.2=some y→RE G q.2 y):∃ v,(Instr.build t vs).run P w = .ok v w∧RE G v x:=by
 unfold z7R at h;cases hz:z43 P t with
 | none=>rw [hz] at h;cases h
 | some z=>
  rw [hz] at h;match z,hz,h with
  | .agg cs,hz,h=>
   simp only at h;cases hp:z2c P t with
   | false=>rw [hp] at h;simp at h
   | true=>
    rw [hp] at h;simp only [if_true] at h;cases hlay:lay (z5r P t) cs parts with
    | none=>rw [hlay] at h;cases h
    | some cs' =>
     rw [hlay] at h;simp at h;subst h;obtain ⟨i,zv,hi,hzv,hrun,hre⟩:=z6O (G:=G) (w:=w) hz;obtain ⟨us,rfl,hus⟩:=hre;unfold z2c at hp;cases hu:P.underlying t with
     | none=>rw [hu] at hp;cases hp
     | some d=>
      rw [hu] at hp;match d,hu,hp with
      | .struct fs,hu,hp=>
       have hall:∀ f∈fs.toList,(P.info? f.type).isSome=true:=fun f hf=>(Array.all_eq_true_iff_forall_mem.1 hp) f (by simpa using hf)
       obtain ⟨cells',hfill,hcs⟩:=z9P (place:=z5r P t) parts vs.toList cs cs' us hlay hus hm hr;have hpl:z5r P t=fun i=>((fs.toList.map fun f=>(f.offset,z0h P f.type)).toArray)[i]? := by
        funext i
        unfold z5r;rw [hu];simp;cases fs[i]? <;> rfl
       rw [hpl] at hfill;have hms:=z90 (P:=P) (w:=w) fs.toList hall;have hma:(fs.mapM fun f=>Prod.mk f.offset <$> sizeOf f.type).run P w = .ok (fs.toList.map fun f=>(f.offset,z0h P f.type)).toArray w:=by
        rw [Array.mapM_eq_mapM_toList];simp [hms]
       refine ⟨.agg cells',?_,cells',rfl,hcs⟩;simp only [Instr.build,Sem.run_bind,hrun,Result.andThen_ok,run_underlying hu];simp only [bind_pure_comp];simp only [Sem.run_bind,hma,Result.andThen_ok];simp only [Value.cells];rw [hfill];rfl
      | .array n e,hu,hp=>
       obtain ⟨ie,hie⟩:=Option.isSome_iff_exists.1 hp;obtain ⟨cells',hfill,hcs⟩:=z9P (place:=z5r P t) parts vs.toList cs cs' us hlay hus hm hr;have hpl:z5r P t=fun i=>some (i*z0h P e,z0h P e):=by
        funext i
        unfold z5r;rw [hu]
       rw [hpl] at hfill;refine ⟨.agg cells',?_,cells',rfl,hcs⟩;simp only [Instr.build,Sem.run_bind,hrun,Result.andThen_ok,run_underlying hu,z5l hie,Value.cells];rw [hfill];rfl
end
end Am
end Go.Proofs.YtgmppconibklcaaGreatDoor

