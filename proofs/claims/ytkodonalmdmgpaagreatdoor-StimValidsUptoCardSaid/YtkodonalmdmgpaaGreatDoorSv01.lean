import Derived.WalkKit
import Derived.Below
import Derived.Orders
import Derived.Deep.LoopGhost
set_option linter.all false
set_option linter.defProp false
section
namespace Go.Abs
open Go Go.RowKit
/-- What is known of a slice's spare room. -/
inductive Tok where
 | none
 | nil
 | tight
 | chain (t k:Nat)
/-- An abstract value: a tree. Slices and read-only pointers carry their content. -/
inductive AV where
 | any
 | bool (b:Bool)
 | int (k:IntKind) (n:Int)
 | str (s:List UInt8)
 | nilp
 | ptr (b off:Nat)
 | rptr (cells:List AV)
 | sl (sz:Nat) (rows:List (List AV)) (tok:Tok)
 | ms (b off len sz:Nat)
 | nilm
 | map (b:Nat)
 | iter (b:Nat)
 | fn (f:FuncId) (first cap:List AV)
 | nilf
 | agg (cells:List AV)
 | tup (vs:List AV)
instance:Inhabited AV:=⟨.any⟩
inductive Blk where
 | cells (c:List AV)
 | map (es:List (AV×AV×Nat)) (clock:Nat)
 | siter (s:List UInt8) (pos:Nat)
 | miter (mb:Option Nat) (since:Nat) (seen:List Nat) (stepped:Nat)
 | dead
 | raw (n:Nat)
structure St where
 H:List Blk
 T:List (Option Nat)
abbrev Env:=Nat→AV
def upd (env:Env) (d:Option Nat) (v:AV):Env:=match d with
 | some d=>fun i=>if i=d then v else env i
 | none=>env
/-! ### Types -/
inductive TD where
 | bool | int (k:IntKind) | str | ptr (e:Nat) | sl (e:Nat) | arr (n e:Nat) | map (k e:Nat)
 | st (fs:List (Nat×Nat)) | fn | other
structure TI where
 size:Nat
 bytes:Nat
 zero:List AV
 zv:AV
 d:TD
 cmp:Bool
def TD.agg:TD→Option Bool
 | .st _ | .arr .. =>some true
 | .other=>none
 | _=>some false
def ofAtom:Value→AV
 | .bool b=>.bool b
 | .int k n=>.int k n
 | .string s=>.str s.data.toList
 | .pointer none=>.nilp
 | .slice none 0 0=>.sl 0 [] .nil
 | .map none=>.nilm
 | .nilFunc=>.nilf
 | .func (.func f) a b=>if a.size=0∧b.size=0 then .fn f [] [] else .any
 | _=>.any
def ofV:Value→AV
 | .agg cs=>.agg (cs.toList.map ofAtom)
 | .tuple vs=>if vs.size=0 then .tup [] else .any
 | v=>ofAtom v
def tdOf (P:Program):TypeDesc→TD
 | .bool=>.bool
 | .int k=>.int k
 | .string=>.str
 | .pointer e=>.ptr e
 | .slice e=>.sl e
 | .array n e=>.arr n e
 | .map k e=>.map k e
 | .func .. =>.fn
 | .struct fs => if fs.toList.all (fun f => P.cellsOf f.type != 0 && f.name != "_") then .st (fs.toList.map fun f => (f.offset, f.type)) else .other
 | _=>.other
/-- The table of a program. -/
def Dof (P:Program) (t:Nat):Option TI :=
 match P.info? t,P.underlying t with
 | some i,some d=>match i.zero with
  | some z=>some ⟨i.size,i.bytes,z.cells.toList.map ofAtom,ofV z,tdOf P d,!P.stoodInHeld t⟩
  | none=>none
 | _,_=>none
/-! ### Operations -/
def ev (G:Nat→AV) (env:Env):Operand→AV
 | .tmp t=>env t
 | .const v=>ofV v
 | .global g=>G g
 | .func f=>.fn f [] []
def AV.atom:AV→Bool
 | .any | .agg _ | .tup _=>false
 | _=>true
def acells:AV→Option (List AV)
 | .agg cs=>if cs.all AV.atom then some cs else none
 | .any=>none
 | .tup _=>none
 | v=>some [v]
def St.push (σ:St) (b:Blk):St:={ σ with H:=σ.H++[b] }
/-- The cells from 'off' on, 'n' of them. -/
def cut (c:List AV) (off n:Nat):Option (List AV):=if off+n≤c.length then some ((c.drop off).take n) else none
def asVal (agg:Option Bool) (c:List AV):Option AV:=match agg with
 | some true=>some (.agg c)
 | some false=>c.head?
 | none=>none
def loadA (D:Nat→Option TI) (σ:St) (t:Nat) (a:AV):Option AV :=
 match D t,a with
 | some i,.ptr b off=>match σ.H[b]? with
  | some (.cells c)=>(cut c off i.size).bind (asVal i.d.agg)
  | _=>none
 | some i,.rptr c=>(cut c 0 i.size).bind (asVal i.d.agg)
 | _,_=>none
/-- 'new' written over 'c' from 'off' on. -/
def putAt:List AV→Nat→List AV→List AV
 | c,_,[]=>c
 | c,off,v::r=>putAt (c.set off v) (off+1) r
def storeA (D:Nat→Option TI) (σ:St) (t:Nat) (a x:AV):Option St :=
 match D t,a,acells x with
 | some i,.ptr b off,some new=>match σ.H[b]? with
  | some (.cells c)=>if new.length=i.size∧off+i.size≤c.length then some { σ with H:=σ.H.set b (.cells (putAt c off new)) } else none
  | _=>none
 | _,_,_=>none
def fillA (place:Nat→Option (Nat×Nat)) (c:List AV):List (Nat×AV)→Option (List AV)
 | []=>some c
 | (i,v)::r=>match place i,acells v with
  | some (off,n),some new=>if new.length=n∧off+n≤c.length then fillA place (putAt c off new) r else none
  | _,_=>none
def stPlace (D:Nat→Option TI) (fs:List (Nat×Nat)) (i:Nat):Option (Nat×Nat) :=
 match fs[i]? with
 | some (off,t)=>(D t).map fun j=>(off,j.size)
 | none=>none
def buildA (D:Nat→Option TI) (t:Nat) (parts:List (Nat×AV)):Option AV :=
 match D t with
 | some i=>match i.d with
  | .st fs=>(fillA (stPlace D fs) i.zero parts).map .agg
  | .arr _ e=>match D e with
   | some j=>(fillA (fun i=>some (i*j.size,j.size)) i.zero parts).map .agg
   | none=>none
  | _=>none
 | none=>none
/-- Rows: row i of 'n' is the part with number i, or zero. -/
def rowsFill (sz:Nat) (rows:List (List AV)):List (Nat×AV)→Option (List (List AV))
 | []=>some rows
 | (i,v)::r=>match acells v with
  | some new=>if new.length=sz∧i<rows.length then rowsFill sz (rows.set i new) r else none
  | none=>none
def buildSliceA (D:Nat→Option TI) (t n:Nat) (parts:List (Nat×AV)):Option AV :=
 match D t with
 | some i=>match i.d with
  | .sl e=>match D e with
   | some j=>if j.zero.length=j.size∧j.zero.all AV.atom∧0<j.size∧n*j.size≤16777216 then (rowsFill j.size (List.replicate n j.zero) parts).map fun rows=>.sl j.size rows .tight else none
   | none=>none
  | _=>none
 | none=>none
def plainEq:AV→AV→Option Bool
 | .bool a,.bool b=>some (a==b)
 | .int k a,.int k' b=>if k=k' then some (a==b) else none
 | .str a,.str b=>some (a==b)
 | _,_=>none
def cellsEq:List AV→List AV→Option Bool
 | [],[]=>some true
 | a::x,b::y=>match plainEq a b,cellsEq x y with
  | some p,some q=>some (p&&q)
  | _,_=>none
 | _,_=>none
def intOp (op:BinOp) (k:IntKind) (a b:Int):Option AV :=
 match op with
 | .add=>some (.int k (k.wrap (a+b)))
 | .sub=>some (.int k (k.wrap (a-b)))
 | .mul=>some (.int k (k.wrap (a*b)))
 | .quo=>if b=0 then none else some (.int k (k.wrap (a.tdiv b)))
 | .rem=>if b=0 then none else some (.int k (a.tmod b))
 | .and=>some (.int k (k.wrap (BitVec.ofInt k.bits a &&& BitVec.ofInt k.bits b).toNat))
 | .or=>some (.int k (k.wrap (BitVec.ofInt k.bits a ||| BitVec.ofInt k.bits b).toNat))
 | .xor=>some (.int k (k.wrap (BitVec.ofInt k.bits a ^^^ BitVec.ofInt k.bits b).toNat))
 | .andNot=>some (.int k (k.wrap (BitVec.ofInt k.bits a &&& ~~~ BitVec.ofInt k.bits b).toNat))
 | .eql=>some (.bool (a==b))
 | .neq=>some (.bool (a != b))
 | .lss=>some (.bool (a<b))
 | .leq=>some (.bool (a≤b))
 | .gtr=>some (.bool (a > b))
 | .geq=>some (.bool (a≥b))
 | _=>none
def strOp (op:BinOp) (a b:List UInt8):Option AV :=
 match op with
 | .add=>if a.length+b.length≤4611686018427387904 then some (.str (a++b)) else none
 | .eql=>some (.bool (a==b))
 | .neq=>some (.bool (!(a==b)))
 | .lss=>some (.bool (Op.bytesLess a b))
 | .leq=>some (.bool (Op.bytesLess a b||a==b))
 | .gtr=>some (.bool (!(Op.bytesLess a b||a==b)))
 | .geq=>some (.bool (!Op.bytesLess a b))
 | _=>none
/-- The struct types whose fields are plain cells, one behind the other, and the arrays of plain cells: they may be compared cell by cell. -/
def plainT (D:Nat→Option TI) (t:Nat):Bool :=
 match D t with
 | some i=>(match i.d with | .int _ | .bool | .str=>true | _=>false)
 | none=>false
def plainTD (D:Nat→Option TI) (t:Nat):TD :=
 match D t with
 | some i=>i.d
 | none=>.other
def flatT (D:Nat→Option TI) (t:Nat):Option (List TD) :=
 match D t with
 | some i=>(match i.d with
  | .st fs=>if i.cmp&&fs.all (fun f=>plainT D f.2)&&(fs.map (·.1)==List.range fs.length) then some (fs.map fun f=>plainTD D f.2) else none
  | _=>none)
 | none=>none
def fitsAll:List TD→List AV→Bool
 | [],[]=>true
 | .bool::r,.bool _::s=>fitsAll r s
 | .str::r,.str _::s=>fitsAll r s
 | .int _::r,.int ..::s=>fitsAll r s
 | _,_=>false
/-- The elements of an array type, if they are plain cells. -/
def arrT (D:Nat→Option TI) (t:Nat):Option (List TD) :=
 match D t with
 | some i=>(match i.d with
  | .arr n e=>match D e with
   | some j=>if plainT D e&&j.size==1 then some (List.replicate n j.d) else none
   | none=>none
  | _=>none)
 | none=>none
def eqAgg (D:Nat→Option TI) (t:Nat) (a b:List AV):Option Bool :=
 match flatT D t with
 | some tds=>if fitsAll tds a then cellsEq a b else none
 | none=>match arrT D t with
  | some tds=>if fitsAll tds a then cellsEq a b else none
  | none=>none
def binA (D:Nat→Option TI) (op:BinOp) (t:Nat) (x y:AV):Option AV :=
 match x,y with
 | .int k a,.int k' b=>match op with
  | .shl=>if b<0 then none else some (.int k (k.wrap (a*2 ^ (min b.toNat k.bits))))
  | .shr=>if b<0 then none else some (.int k (a.fdiv (2 ^ (min b.toNat k.bits))))
  | op=>if k=k' then intOp op k a b else none
 | .str a,.str b=>strOp op a b
 | .bool a,.bool b=>match op,plainTD D t with
  | .eql,.bool=>some (.bool (a==b))
  | .neq,.bool=>some (.bool (!(a==b)))
  | _,_=>none
 | .agg a,.agg b=>match op with
  | .eql=>(eqAgg D t a b).map .bool
  | .neq=>(eqAgg D t a b).map fun p=>.bool (!p)
  | _=>none
 | _,_=>none
def unA (op:UnOp) (x:AV):Option AV :=
 match op,x with
 | .not,.bool b=>some (.bool (!b))
 | .neg,.int k n=>some (.int k (k.wrap (0-n)))
 | .xor,.int k n=>some (.int k (k.wrap (BitVec.ofInt k.bits (if k.signed then -1 else k.max) ^^^ BitVec.ofInt k.bits n).toNat))
 | _,_=>none
def bytesOf:List (List AV)→Option (List UInt8)
 | []=>some []
 | [.int .u8 n]::r=>(bytesOf r).map (UInt8.ofNat n.toNat::·)
 | _=>none
def convA (D:Nat→Option TI) (s d:Nat) (x:AV):Option AV :=
 match D s,D d,x with
 | some i,some j,.int _ n=>match i.d,j.d with
  | .int _,.int k=>some (.int k (k.wrap n))
  | _,_=>none
 | some i,some j,.str l=>match i.d,j.d with
  | .str,.str=>some (.str l)
  | _,_=>none
 | some i,some j,.sl 1 rows _=>match i.d,j.d with
  | .sl e,.str=>match D e with
   | some m=>(match m.d with | .int .u8=>(bytesOf rows).map .str | _=>none)
   | none=>none
  | _,_=>none
 | _,_,_=>none
def asIntA:AV→Option Int
 | .int _ n=>some n
 | _=>none
def Tok.known:Tok→Bool
 | .none=>false
 | _=>true
def sliceTok (n lo hi:Nat) (mx:Option Nat) (tok:Tok):Tok :=
 match mx with
 | some m=>if m=hi∧(0<n∨tok.known=true) then .tight else .none
 | none=>match tok with
  | .tight=>if hi=n then .tight else .none
  | .nil=>.nil
  | .none=>.none
  | .chain t k=>if lo=0∧hi=n then .chain t k else .none
def boundA (o:Option AV) (n:Int):Option Int :=
 match o with
 | none=>some n
 | some v=>asIntA v
/-- A third bound must be the second one. -/
def thirdA (o:Option AV) (hi:Option AV) (h:Int):Bool :=
 match o with
 | none=>true
 | some v=>decide (asIntA v=some h)&&hi.isSome
def sliceA (x:AV) (lo hi mx:Option AV):Option AV :=
 match x with
 | .str s=>match boundA lo 0,boundA hi s.length,mx with
  | some l,some h,none=>if 0≤l∧l≤h∧h≤s.length then some (.str ((s.take h.toNat).drop l.toNat)) else none
  | _,_,_=>none
 | .sl sz rows tok=>match boundA lo 0,boundA hi rows.length with
  | some l,some h=>
   if 0≤l∧l≤h∧h≤rows.length∧thirdA mx hi h=true then
    some (.sl sz ((rows.take h.toNat).drop l.toNat) (sliceTok rows.length l.toNat h.toNat (if mx.isSome then some h.toNat else none) tok))
   else none
  | _,_=>none
 | .ms b off len sz=>match boundA lo 0,boundA hi len,mx with
  | some l,some h,none=>if 0≤l∧l≤h∧h≤len∧(l=0∨l<len) then some (.ms b (off+l.toNat*sz) (h.toNat-l.toNat) sz) else if l=len∧h=len then some (.sl sz [] .none) else none
  | _,_,_=>none
 | _=>none
def fieldAddrA (D:Nat→Option TI) (s:Nat) (x:AV) (f:Nat):Option AV :=
 match D s with
 | some i=>match i.d with
  | .st fs=>match fs[f]? with
   | some (off,_)=>match x with
    | .ptr b o=>some (.ptr b (o+off))
    | .rptr c=>some (.rptr (c.drop off))
    | _=>none
   | none=>none
  | _=>none
 | none=>none
def fieldA (D:Nat→Option TI) (s:Nat) (x:AV) (f:Nat):Option AV :=
 match D s,x with
 | some i,.agg c=>match i.d with
  | .st fs=>match fs[f]? with
   | some (off,t)=>match D t with
    | some j=>(cut c off (if j.d.agg=some true then j.size else 1)).bind (asVal j.d.agg)
    | none=>none
   | none=>none
  | _=>none
 | _,_=>none
def indexAddrA (D:Nat→Option TI) (t:Nat) (x i:AV):Option AV :=
 match D t,asIntA i with
 | some ti,some i=>match ti.d with
  | .sl e=>match D e with
   | some j=>match x with
    | .sl sz rows _=>if 0≤i∧(sz=j.size∨rows=[]) then (rows[i.toNat]?).map .rptr else none
    | .ms b off len sz=>if 0≤i∧i<len∧sz=j.size then some (.ptr b (off+i.toNat*sz)) else none
    | _=>none
   | none=>none
  | .arr n e=>match D e with
   | some j=>if 0≤i∧i<n then (match x with
    | .ptr b off=>some (.ptr b (off+i.toNat*j.size))
    | .rptr c=>some (.rptr (c.drop (i.toNat*j.size)))
    | _=>none) else none
   | none=>none
  | _=>none
 | _,_=>none
def indexA (D:Nat→Option TI) (t:Nat) (x i:AV):Option AV :=
 match D t,asIntA i with
 | some ti,some i=>match ti.d,x with
  | .str,.str s=>if 0≤i then (s[i.toNat]?).map fun b=>.int .u8 b.toNat else none
  | .arr n e,.agg c=>match D e with
   | some j=>if 0≤i∧i<n then (cut c (i.toNat*j.size) (if j.d.agg=some true then j.size else 1)).bind (asVal j.d.agg) else none
   | none=>none
  | _,_=>none
 | _,_=>none
def extractA (x:AV) (i:Nat):Option AV :=
 match x with
 | .tup vs=>vs[i]?
 | _=>none
/-- A slice's element size and rows. -/
def rowsOf:AV→Option (Nat×List (List AV))
 | .sl sz rows _=>some (sz,rows)
 | _=>none
def lenA (D:Nat→Option TI) (σ:St) (t:Nat) (x:AV):Option AV :=
 match D t with
 | some i=>match i.d,x with
  | .str,.str s=>some (.int .i64 s.length)
  | .sl _,.sl _ rows _=>some (.int .i64 rows.length)
  | .sl _,.ms _ _ len _=>some (.int .i64 len)
  | .arr n _,_=>some (.int .i64 n)
  | .map ..,.nilm=>some (.int .i64 0)
  | .map ..,.map b=>match σ.H[b]? with
   | some (.map es _)=>some (.int .i64 es.length)
   | _=>none
  | _,_=>none
 | none=>none
def appendA (D:Nat→Option TI) (σ:St) (t:Nat) (s x:AV):Option (AV×St) :=
 match D t,s,rowsOf x with
 | some i,.sl sz rows tok,some (sz2,rows2)=>match i.d with
  | .sl e=>match D e with
   | some j=>
    if (sz=j.size∨rows=[])∧(sz2=j.size∨rows2=[])∧0<j.size∧j.zero.length=j.size∧j.bytes≤256∧rows.length+rows2.length≤549755813888 then
     if rows2=[] then some (.sl sz rows tok,σ) else
     match tok with
     | .none=>none
     | .nil | .tight=>some (.sl j.size (rows++rows2) (.chain σ.T.length rows2.length),{ σ with T:=σ.T++[some rows2.length] })
     | .chain t k=>if sz=j.size∧σ.T[t]?=some (some k) then some (.sl j.size (rows++rows2) (.chain t (k+rows2.length)),{ σ with T:=σ.T.set t (some (k+rows2.length)) }) else none
    else none
   | none=>none
  | _=>none
 | _,_,_=>none
def min2A:AV→AV→Option AV
 | .int k x,.int _ y=>some (.int k (if y<x then y else x))
 | _,_=>none
def min3A:AV→AV→AV→Option AV
 | .int k x,.int _ y,.int _ z=>some (.int k (if z<(if y<x then y else x) then z else if y<x then y else x))
 | _,_,_=>none
def max2A:AV→AV→Option AV
 | .int k x,.int _ y=>some (.int k (if y > x then y else x))
 | _,_=>none
def makeSliceA (D:Nat→Option TI) (σ:St) (t:Nat) (l c:AV):Option (AV×St) :=
 match D t,asIntA l,asIntA c with
 | some i,some l,some c=>match i.d with
  | .sl e=>match D e with
   | some j=>
    if 0≤l∧l≤c∧c≤549755813888∧j.bytes≤256∧0<j.size∧j.zero.length=j.size∧j.zero.all AV.atom then
     if l=0 then some (.sl j.size [] (.chain σ.T.length 0),{ σ with T:=σ.T++[some 0] })
     else some (.ms σ.H.length 0 l.toNat j.size,σ.push (.cells ((List.replicate l.toNat j.zero).flatten)))
    else none
   | none=>none
  | _=>none
 | _,_,_=>none
def keyEq:AV→AV→Option Bool
 | .int k a,.int k' b=>if k=k' then some (a==b) else none
 | .str a,.str b=>some (a==b)
 | .agg a,.agg b=>cellsEq a b
 | _,_=>none
def findA (k:AV):List (AV×AV×Nat)→Nat→Option (Option (Nat×AV))
 | [],_=>some none
 | (k',v,_)::r,i=>match keyEq k k' with
  | some true=>some (some (i,v))
  | some false=>findA k r (i+1)
  | none=>none
def mapKeyOk (D:Nat→Option TI) (k:Nat) (v:AV):Bool :=
 match D k with
 | some i=>(match i.d,v with | .int _,.int .. =>true | .str,.str _=>true | .st _,.agg c=>(flatT D k).any fun tds=>fitsAll tds c | _,_=>false)
 | none=>false
def zeroA (D:Nat→Option TI) (t:Nat):Option AV:=match D t with
 | some i=>some i.zv
 | none=>none
def lookupA (D:Nat→Option TI) (σ:St) (t:Nat) (m k:AV) (ok:Bool):Option AV :=
 match D t with
 | some i=>match i.d with
  | .map kt et=>
   if mapKeyOk D kt k then
    match (match m with
     | .nilm=>some []
     | .map b=>(match σ.H[b]? with | some (.map es _)=>some es | _=>none)
     | _=>none) with
    | some es=>match findA k es 0 with
     | some (some (_,v))=>some (if ok then .tup [v,.bool true] else v)
     | some none=>(zeroA D et).map fun z=>if ok then .tup [z,.bool false] else z
     | none=>none
    | none=>none
   else none
  | _=>none
 | none=>none
def mapUpdateA (D:Nat→Option TI) (σ:St) (t:Nat) (m k v:AV):Option St :=
 match D t with
 | some i=>match i.d with
  | .map kt _=>
   if mapKeyOk D kt k then
    match m with
    | .map b=>match σ.H[b]? with
     | some (.map es clock)=>match findA k es 0 with
      | some (some (i,_))=>some { σ with H:=σ.H.set b (.map (es.modify i fun e=>(k,v,e.2.2)) clock) }
      | some none=>some { σ with H:=σ.H.set b (.map (es++[(k,v,clock)]) (clock+1)) }
      | none=>none
     | _=>none
    | _=>none
   else none
  | _=>none
 | none=>none
/-- A string's next rune. -/
def nextA (σ:St):AV→Option (AV×St)
 | .iter b=>match σ.H[b]? with
  | some (.siter s pos)=>
   if pos<s.length then
    some (.tup [.bool true,.int .i64 pos,.int .i32 (Utf8.decode ⟨s.toArray⟩ pos).1],{ σ with H:=σ.H.set b (.siter s (pos+(Utf8.decode ⟨s.toArray⟩ pos).2)) })
   else some (.tup [.bool false],σ)
  | _=>none
 | _=>none
/-- A map's next entry: all that may come, in whatever order. -/
def nextsA (σ:St):AV→Option (List (AV×St))
 | .iter b=>match σ.H[b]? with
  | some (.miter none _ _ _)=>some [(.tup [.bool false],σ)]
  | some (.miter (some mb) since seen last)=>match σ.H[mb]? with
   | some (.map es clock)=>
    if seen.isEmpty=false∧es.isEmpty=false∧es.all (fun e=>decide (last≤e.2.2))=true then none else
    let left:=es.filter fun e=>!seen.contains e.2.2
    let old:=left.filter fun e=>decide (e.2.2<since)
    let new:=left.filter fun e=>decide (since≤e.2.2)
    some ((if old.isEmpty then [(.tup [.bool false],σ)] else [])++(old++new).map fun e=>(.tup [.bool true,e.1,e.2.1],{ σ with H:=σ.H.set b (.miter (some mb) since (seen++[e.2.2]) clock) }))
   | _=>none
  | _=>none
 | _=>none
def opds (G:Nat→AV) (env:Env) (l:List Operand):List AV:=l.map (ev G env)
def builtinA (D:Nat→Option TI) (σ:St) (b:Builtin) (ts:List Nat) (vs:List AV):Option (AV×St) :=
 match b,ts,vs with
 | .len,[t],[x]=>(lenA D σ t x).map (·,σ)
 | .append,[t,u],[s,x]=>if u=t then appendA D σ t s x else none
 | .min,_,[x,y]=>(min2A x y).map (·,σ)
 | .min,_,[x,y,z]=>(min3A x y z).map (·,σ)
 | .max,_,[x,y]=>(max2A x y).map (·,σ)
 | _,_,_=>none
/-- One operation that is no call of a function. -/
def sem (D:Nat→Option TI) (G:Nat→AV) (env:Env) (σ:St):Op→Option (AV×St)
 | .move x | .assign x=>some (ev G env x,σ)
 | .pick c a b=>match ev G env c with
  | .bool c=>some (if c then ev G env a else ev G env b,σ)
  | _=>none
 | .alloc e=>match D e with
  | some i=>if i.zero.all AV.atom then some (.ptr σ.H.length 0,σ.push (.cells i.zero)) else none
  | none=>none
 | .box _ x=>(acells (ev G env x)).map fun c=>(.ptr σ.H.length 0,σ.push (.cells c))
 | .build t ps=>(buildA D t (ps.toList.map fun p=>(p.1,ev G env p.2))).map (·,σ)
 | .buildSlice t n ps=>(buildSliceA D t n (ps.toList.map fun p=>(p.1,ev G env p.2))).map (·,σ)
 | .load t a=>(loadA D σ t (ev G env a)).map (·,σ)
 | .store t a x=>(storeA D σ t (ev G env a) (ev G env x)).map (.tup [],·)
 | .nilCheck x=>match ev G env x with
  | .ptr b o=>some (.ptr b o,σ)
  | .rptr c=>some (.rptr c,σ)
  | _=>none
 | .binOp op t x y _=>(binA D op t (ev G env x) (ev G env y)).map (·,σ)
 | .unOp op _ x=>(unA op (ev G env x)).map (·,σ)
 | .convert s d x=>(convA D s d (ev G env x)).map (·,σ)
 | .makeFunc (.func f) a b=>some (.fn f (opds G env a.toList) (opds G env b.toList),σ)
 | .makeMap _ none=>some (.map σ.H.length,σ.push (.map [] 0))
 | .makeSlice t l c=>makeSliceA D σ t (ev G env l) (ev G env c)
 | .slice t x lo hi mx=>match D t with
  | some i=>(match i.d,ev G env x with
   | .str,.str s=>(sliceA (.str s) (lo.map (ev G env)) (hi.map (ev G env)) (mx.map (ev G env))).map (·,σ)
   | .sl e,x=>(match D e,x with
    | some j,.sl sz rows tok=>if sz=j.size∨rows=[] then (sliceA (.sl sz rows tok) (lo.map (ev G env)) (hi.map (ev G env)) (mx.map (ev G env))).map (·,σ) else none
    | some j,.ms b off len sz=>if sz=j.size then (sliceA (.ms b off len sz) (lo.map (ev G env)) (hi.map (ev G env)) (mx.map (ev G env))).map (·,σ) else none
    | _,_=>none)
   | _,_=>none)
  | none=>none
 | .fieldAddr s x f=>(fieldAddrA D s (ev G env x) f).map (·,σ)
 | .field s x f=>(fieldA D s (ev G env x) f).map (·,σ)
 | .indexAddr t x i=>(indexAddrA D t (ev G env x) (ev G env i)).map (·,σ)
 | .index t x i=>(indexA D t (ev G env x) (ev G env i)).map (·,σ)
 | .lookup t x i ok=>(lookupA D σ t (ev G env x) (ev G env i) ok).map (·,σ)
 | .mapUpdate t m k v=>(mapUpdateA D σ t (ev G env m) (ev G env k) (ev G env v)).map (.tup [],·)
 | .range t x=>match D t,ev G env x with
  | some i,.str s=>(match i.d with | .str=>some (.iter σ.H.length,σ.push (.siter s 0)) | _=>none)
  | some i,.map b=>(match i.d,σ.H[b]? with | .map ..,some (.map _ clock)=>some (.iter σ.H.length,σ.push (.miter (some b) clock [] clock)) | _,_=>none)
  | some i,.nilm=>(match i.d with | .map .. =>some (.iter σ.H.length,σ.push (.miter none 0 [] 0)) | _=>none)
  | _,_=>none
 | .next it true=>nextA σ (ev G env it)
 | .extract x i=>(extractA (ev G env x) i).map (·,σ)
 | .call { callee:=.builtin b,args,argTypes }=>builtinA D σ b argTypes.toList (opds G env args.toList)
 | _=>none
/-- A row in memory whose cells behind 'fin' are nobody's. -/
structure Chn where
 k:Nat
 B:Nat
 fin:Nat
 cap:Nat
 sz:Nat
/-- What is known of memory: read-only cells, the blocks of the state's own, the rows with free ends. -/
structure Kn where
 ro:Nat→Nat→Option Value
 m:Nat→Option Nat
 ch:Nat→Option Chn
 nch:Nat
 bs:Nat→Nat
 fx:Nat→Option Obj
 rw:Nat→Option Obj
def TokOk (K:Kn) (B off len cap sz:Nat):Tok→Prop
 | .none=>True
 | .nil=>False
 | .tight=>cap=len
 | .chain t k=>t<K.nch∧∀ C,K.ch t=some C→k≤C.k∧(k=C.k→C.B=B∧C.sz=sz∧off=0∧len*sz=C.fin∧cap*sz=C.cap)
def Tok.plain:Tok→Prop
 | .chain .. =>False
 | _=>True
mutual
def VRel (K:Kn):AV→Value→Prop
 | .any,_=>True
 | .bool b,v=>v=.bool b
 | .int k n,v=>v=.int k n
 | .str s,v=>v=.string ⟨s.toArray⟩
 | .nilp,v=>v=.pointer none
 | .ptr b off,v=>∃ B,K.m b=some B∧v=.pointer (some ⟨B,off,none⟩)
 | .rptr c,v=>∃ B off,v=.pointer (some ⟨B,off,none⟩)∧CellsAt K B off c
 | .sl sz rows tok,v=>((∃ a:Option Addr,v=.slice a 0 0∧(a=none∨tok=.none))∧rows=[]∧tok.plain) ∨
  ∃ B off cap,v=.slice (some ⟨B,off,none⟩) rows.length cap∧rows.length≤cap∧RowsAt K B off sz rows∧TokOk K B off rows.length cap sz tok
 | .ms b off len sz,v=>∃ B cap,K.m b=some B∧v=.slice (some ⟨B,off,none⟩) len cap∧len≤cap∧0<cap∧off+cap*sz≤K.bs b
 | .nilm,v=>v=.map none
 | .map b,v=>∃ B,K.m b=some B∧v=.map (some B)
 | .iter b,v=>∃ B,K.m b=some B∧v=.pointer (some ⟨B,0,none⟩)
 | .fn f a b,v=>∃ va vb,v=.func (.func f) va vb∧VRels K a va.toList∧VRels K b vb.toList
 | .nilf,v=>v=.nilFunc
 | .agg c,v=>∃ vs,v=.agg vs∧VRels K c vs.toList
 | .tup c,v=>∃ vs,v=.tuple vs∧VRels K c vs.toList
def VRels (K:Kn):List AV→List Value→Prop
 | [],vs=>vs=[]
 | a::r,vs=>∃ v vr,vs=v::vr∧VRel K a v∧VRels K r vr
def CellsAt (K:Kn):Nat→Nat→List AV→Prop
 | _,_,[]=>True
 | B,off,a::r=>(∃ v,K.ro B off=some v∧VRel K a v)∧CellsAt K B (off+1) r
def RowsAt (K:Kn):Nat→Nat→Nat→List (List AV)→Prop
 | _,_,_,[]=>True
 | B,off,sz,r::rs=>(r.length=sz∧r.all AV.atom=true∧CellsAt K B off r)∧RowsAt K B (off+sz) sz rs
end
/-- More is known; nothing that was known is lost but rows with free ends that have gone on. -/
structure Kn.le (K K':Kn):Prop where
 ro:∀ b o v,K.ro b o=some v→K'.ro b o=some v
 m:∀ i B,K.m i=some B→K'.m i=some B
 nch:K.nch≤K'.nch
 ch:∀ t C',t<K.nch→K'.ch t=some C'→∃ C,K.ch t=some C∧(C'=C∨C.k<C'.k)
 bs:∀ i B,K.m i=some B→K'.bs i=K.bs i
 fx:∀ B o,K.fx B=some o→K'.fx B=some o
 rw:∀ n o,K.rw n=some o→K'.rw n=some o
theorem Kn.le_refl (K:Kn):K.le K:=⟨fun _ _ _ h=>h,fun _ _ h=>h,Nat.le_refl _,fun _ C' _ h=>⟨C',h,.inl rfl⟩,fun _ _ _=>rfl,fun _ _ h=>h,fun _ _ h=>h⟩
theorem Kn.le_trans {A B C:Kn} (h:A.le B) (k:B.le C):A.le C :=
 ⟨fun b o v x=>k.ro b o v (h.ro b o v x),fun i x y=>k.m i x (h.m i x y),Nat.le_trans h.nch k.nch,fun t C' ht hc=>by
  obtain⟨C1,h1,e1⟩:=k.ch t C' (Nat.lt_of_lt_of_le ht h.nch) hc
  obtain⟨C2,h2,e2⟩:=h.ch t C1 ht h1
  refine⟨C2,h2,?_⟩
  rcases e1 with rfl|e1<;>rcases e2 with rfl|e2
  · exact .inl rfl
  · exact .inr e2
  · exact .inr e1
  · exact .inr (Nat.lt_trans e2 e1),fun i B e=>by rw [k.bs i B (h.m i B e),h.bs i B e],fun B o e=>k.fx B o (h.fx B o e),fun n o e=>k.rw n o (h.rw n o e)⟩
/-- What values look at. -/
structure Kn.le0 (K K':Kn):Prop where
 ro:∀ b o v,K.ro b o=some v→K'.ro b o=some v
 m:∀ i B,K.m i=some B→K'.m i=some B
 nch:K.nch≤K'.nch
 ch:∀ t C',t<K.nch→K'.ch t=some C'→∃ C,K.ch t=some C∧(C'=C∨C.k<C'.k)
 bs:∀ i B,K.m i=some B→K'.bs i=K.bs i
theorem Kn.le.le0 {K K':Kn} (h:K.le K'):K.le0 K':=⟨h.ro,h.m,h.nch,h.ch,h.bs⟩
theorem TokOk.mono {K K':Kn} (h:K.le0 K') {B off len cap sz:Nat}:∀ {tok:Tok},TokOk K B off len cap sz tok→TokOk K' B off len cap sz tok
 | .none,_=>trivial
 | .nil,x=>x
 | .tight,x=>x
 | .chain t k,⟨x,y⟩=>⟨Nat.lt_of_lt_of_le x h.nch,fun C' hC=>by
  obtain⟨C,hC0,e⟩:=h.ch t C' x hC
  obtain⟨y1,y2⟩:=y C hC0
  rcases e with rfl|e
  · exact⟨y1,y2⟩
  · exact⟨by omega,fun e'=>by omega⟩⟩
/-- Nothing is known but the read-only cells. -/
def K0 (ro:Nat→Nat→Option Value):Kn:=⟨ro,fun _=>none,fun _=>none,0,fun _=>0,fun _=>none,fun _=>none⟩
theorem K0_le (K:Kn):(K0 K.ro).le K:=⟨fun _ _ _ e=>e,fun _ _ e=>by simp [K0] at e,Nat.zero_le _,fun t _ ht _=>by simp [K0] at ht,fun _ _ e=>by simp [K0] at e,fun _ _ e=>by simp [K0] at e,fun _ _ e=>by simp [K0] at e⟩
theorem K0_mono {K K':Kn} (h:K.le K'):(K0 K.ro).le (K0 K'.ro):=⟨h.ro,fun _ _ e=>by simp [K0] at e,Nat.le_refl _,fun t _ ht _=>by simp [K0] at ht,fun _ _ e=>by simp [K0] at e,fun _ _ e=>by simp [K0] at e,fun _ _ e=>by simp [K0] at e⟩
theorem K0_mono' {ro ro':Nat→Nat→Option Value} (h:∀ b o v,ro b o=some v→ro' b o=some v):(K0 ro).le (K0 ro'):=⟨h,fun _ _ e=>by simp [K0] at e,Nat.le_refl _,fun t _ ht _=>by simp [K0] at ht,fun _ _ e=>by simp [K0] at e,fun _ _ e=>by simp [K0] at e,fun _ _ e=>by simp [K0] at e⟩
mutual
theorem VRel.mono0 {K K':Kn} (h:K.le0 K'):∀ (a:AV) {v:Value},VRel K a v→VRel K' a v
 | .any,_,_=>by simp [VRel]
 | .bool b,_,x=>by simpa [VRel] using x
 | .int k n,_,x=>by simpa [VRel] using x
 | .str s,_,x=>by simpa [VRel] using x
 | .nilp,_,x=>by simpa [VRel] using x
 | .ptr b off,_,x=>by
  simp only [VRel] at x ⊢
  obtain⟨B,h1,h2⟩:=x
  exact⟨B,h.m _ _ h1,h2⟩
 | .rptr c,_,x=>by
  simp only [VRel] at x ⊢
  obtain⟨B,off,h1,h2⟩:=x
  exact⟨B,off,h1,CellsAt.mono0 h c B off h2⟩
 | .sl sz rows tok,_,x=>by
  simp only [VRel] at x ⊢
  rcases x with x|⟨B,off,cap,h1,h2,h3,h4⟩
  · exact .inl x
  · exact .inr ⟨B,off,cap,h1,h2,RowsAt.mono0 h rows B off sz h3,h4.mono h⟩
 | .ms b off len sz,_,x=>by
  simp only [VRel] at x ⊢
  obtain⟨B,cap,h1,h2,h3,h4,h5⟩:=x
  exact⟨B,cap,h.m _ _ h1,h2,h3,h4,by rw [h.bs _ _ h1];exact h5⟩
 | .nilm,_,x=>by simpa [VRel] using x
 | .map b,_,x=>by
  simp only [VRel] at x ⊢
  obtain⟨B,h1,h2⟩:=x
  exact⟨B,h.m _ _ h1,h2⟩
 | .iter b,_,x=>by
  simp only [VRel] at x ⊢
  obtain⟨B,h1,h2⟩:=x
  exact⟨B,h.m _ _ h1,h2⟩
 | .fn f a b,_,x=>by
  simp only [VRel] at x ⊢
  obtain⟨va,vb,h1,h2,h3⟩:=x
  exact⟨va,vb,h1,VRels.mono0 h a h2,VRels.mono0 h b h3⟩
 | .nilf,_,x=>by simpa [VRel] using x
 | .agg c,_,x=>by
  simp only [VRel] at x ⊢
  obtain⟨vs,h1,h2⟩:=x
  exact⟨vs,h1,VRels.mono0 h c h2⟩
 | .tup c,_,x=>by
  simp only [VRel] at x ⊢
  obtain⟨vs,h1,h2⟩:=x
  exact⟨vs,h1,VRels.mono0 h c h2⟩
theorem VRels.mono0 {K K':Kn} (h:K.le0 K'):∀ (l:List AV) {vs:List Value},VRels K l vs→VRels K' l vs
 | [],_,x=>by simpa [VRels] using x
 | a::r,_,x=>by
  simp only [VRels] at x ⊢
  obtain⟨v,vr,h1,h2,h3⟩:=x
  exact⟨v,vr,h1,VRel.mono0 h a h2,VRels.mono0 h r h3⟩
theorem CellsAt.mono0 {K K':Kn} (h:K.le0 K'):∀ (l:List AV) (B off:Nat),CellsAt K B off l→CellsAt K' B off l
 | [],_,_,_=>by simp [CellsAt]
 | a::r,B,off,x=>by
  simp only [CellsAt] at x ⊢
  obtain⟨⟨v,h1,h2⟩,h3⟩:=x
  exact⟨⟨v,h.ro _ _ _ h1,VRel.mono0 h a h2⟩,CellsAt.mono0 h r _ _ h3⟩
theorem RowsAt.mono0 {K K':Kn} (h:K.le0 K'):∀ (l:List (List AV)) (B off sz:Nat),RowsAt K B off sz l→RowsAt K' B off sz l
 | [],_,_,_,_=>by simp [RowsAt]
 | a::r,B,off,sz,x=>by
  simp only [RowsAt] at x ⊢
  obtain⟨⟨h1,h0,h2⟩,h3⟩:=x
  exact⟨⟨h1,h0,CellsAt.mono0 h a _ _ h2⟩,RowsAt.mono0 h r _ _ _ h3⟩
end
theorem VRel.mono {K K':Kn} (h:K.le K') (a:AV) {v:Value}:VRel K a v→VRel K' a v:=VRel.mono0 h.le0 a
theorem VRels.mono {K K':Kn} (h:K.le K') (l:List AV) {vs:List Value}:VRels K l vs→VRels K' l vs:=VRels.mono0 h.le0 l
theorem CellsAt.mono {K K':Kn} (h:K.le K') (l:List AV) (B off:Nat):CellsAt K B off l→CellsAt K' B off l:=CellsAt.mono0 h.le0 l B off
theorem RowsAt.mono {K K':Kn} (h:K.le K') (l:List (List AV)) (B off sz:Nat):RowsAt K B off sz l→RowsAt K' B off sz l:=RowsAt.mono0 h.le0 l B off sz
section
def BlkRel (K:Kn):Blk→Option Obj→Prop
 | .cells c,o=>∃ cs el,o=some (.cells cs el (0,0))∧c.all AV.atom=true∧c.length≤cs.size∧∀ (i:Nat) (a:AV),c[i]?=some a→∃ v,cs[i]?=some v∧VRel K a v
 | .map es clock,o=>∃ es',o=some (.map es' clock)∧es'.size=es.length ∧
  ∀ (i:Nat) (k v:AV) (b:Nat),es[i]?=some (k,v,b)→∃ e:MapEntry,es'[i]?=some e∧VRel K k e.key∧VRel K v e.val∧e.born=b
 | .siter s pos,o=>o=some (.stringIter ⟨s.toArray⟩ pos)
 | .miter mb since seen st,o=>∃ mB,o=some (.mapIter mB since seen.toArray st) ∧
  (match mb with | none=>mB=none | some b=>∃ B,K.m b=some B∧mB=some B)
 | .dead,_=>True
 | .raw n,o=>∃ x,K.rw n=some x∧o=some x
theorem BlkRel.mono {K K':Kn} (h:K.le K') {b:Blk} {o:Option Obj} (x:BlkRel K b o):BlkRel K' b o:=by
 cases b with
 | cells c=>
  obtain⟨cs,el,h1,h0,h2,h3⟩:=x
  exact⟨cs,el,h1,h0,h2,fun i a e=>by obtain⟨v,h4,h5⟩:=h3 i a e;exact⟨v,h4,h5.mono h⟩⟩
 | map es clock=>
  obtain⟨es',h1,h2,h3⟩:=x
  exact⟨es',h1,h2,fun i k v b e=>by obtain⟨e',h4,h5,h6,h7⟩:=h3 i k v b e;exact⟨e',h4,h5.mono h,h6.mono h,h7⟩⟩
 | siter s pos=>simpa [BlkRel] using x
 | miter mb since seen st=>
  obtain⟨mB,h1,h2⟩:=x
  refine⟨mB,h1,?_⟩
  cases mb with
  | none=>exact h2
  | some b=>obtain⟨B,h3,h4⟩:=h2;exact⟨B,h.m _ _ h3,h4⟩
 | dead=>simp [BlkRel]
 | raw n=>obtain⟨y,h1,h2⟩:=x;exact⟨y,h.rw _ _ h1,h2⟩
/-- Memory 'w' is as the state says; 'w0': memory when the activation began; 'ro0': what was read-only then. -/
structure WRel (G:Nat→AV) (w0:World) (ro0:Nat→Nat→Option Value) (K:Kn) (σ:St) (w:World):Prop where
 below:Below w0.heap.size w0 w
 glob:∀ g,VRel (K0 K.ro) (G g) (.pointer (some ⟨g,0,none⟩))
 ro:∀ b o v,K.ro b o=some v→w.cell? ⟨b,o,none⟩=some v
 new:∀ b o v,K.ro b o=some v→b<w0.heap.size→ro0 b o=some v
 blk:∀ i b,σ.H[i]?=some b→∃ B,K.m i=some B∧w0.heap.size≤B∧B<w.heap.size∧BlkRel K b w.heap[B]?∧∀ o,K.ro B o=none
 inj:∀ i j B,K.m i=some B→K.m j=some B→i=j∨σ.H[i]?=some .dead∨σ.H[j]?=some .dead
 mlt:∀ i B,K.m i=some B→i<σ.H.length
 ch:∀ t k,σ.T[t]?=some (some k)→∃ C,K.ch t=some C∧C.k=k∧w0.heap.size≤C.B∧C.fin≤C.cap ∧
  (∃ cs el,w.heap[C.B]?=some (.cells cs el (0,0))∧cs.size=C.cap)∧(∀ o,C.fin≤o→K.ro C.B o=none)∧∀ i,K.m i≠some C.B
 chd:∀ t C,K.ch t=some C→∃ k,σ.T[t]?=some (some k)
 chinj:∀ t u C C',K.ch t=some C→K.ch u=some C'→C.B=C'.B→t=u
 nch:K.nch=σ.T.length
 bsz:∀ i B cs el fr,K.m i=some B→w.heap[B]?=some (.cells cs el fr)→cs.size=K.bs i
 fx:∀ B o,K.fx B=some o→w.heap[B]?=some o∧w0.heap.size≤B∧(∀ i,K.m i≠some B)∧∀ t C,K.ch t=some C→C.B≠B
 rwl:∀ n o,K.rw n=some o→n<2*σ.H.length
structure ERel (K:Kn) (N:Nat) (env:Env) (a:Act):Prop where
 size:a.tmps.size=N
 val:∀ t,VRel K (env t) (a.tmps.getD t undef)
theorem ERel.mono {K K':Kn} (h:K.le K') {N:Nat} {env:Env} {a:Act} (x:ERel K N env a):ERel K' N env a :=
 ⟨x.size,fun t=>(x.val t).mono h⟩
theorem ERel.put {K:Kn} {N:Nat} {env:Env} {a:Act} (x:ERel K N env a) {dst:Option Nat} (hd:∀ d,dst=some d→d<N) {v:AV} {v':Value} (hv:VRel K v v') :
 ERel K N (upd env dst v) (a.put dst v'):=by
 cases dst with
 | none=>exact x
 | some d=>
  refine⟨by simpa [Act.put] using x.size,fun t=>?_⟩
  have hlt:=hd d rfl
  simp only [Act.put,upd]
  by_cases ht:t=d
  · subst ht
    have:t<a.tmps.size:=by rw [x.size];exact hlt
    simpa [Array.getElem?_setIfInBounds,this] using hv
  · have:=x.val t
    have hne:¬ d=t:=fun e=>ht e.symm
    simpa [ht,Array.getElem?_setIfInBounds,hne] using this
theorem VRel.ofAtom (K:Kn) (v:Value):VRel K (ofAtom v) v:=by
 cases v with
 | pointer a=>cases a<;>simp [Abs.ofAtom,VRel]
 | slice a l c=>
  unfold Abs.ofAtom
  split<;>first | (simp_all [VRel,Tok.plain];done) | simp_all [VRel]
 | map r=>cases r<;>simp [Abs.ofAtom,VRel]
 | func f a b=>
  cases f<;>simp only [Abs.ofAtom]<;>first | (simp [VRel];done) | skip
  split
  · rename_i h
    obtain⟨h1,h2⟩:=h
    refine⟨a,b,rfl,?_,?_⟩
    · have:a = #[]:=Array.eq_empty_of_size_eq_zero h1
      subst this;simp [VRels]
    · have:b = #[]:=Array.eq_empty_of_size_eq_zero h2
      subst this;simp [VRels]
  · simp [VRel]
 | _=>simp [Abs.ofAtom,VRel]
theorem VRels.ofAtoms (K:Kn):∀ l:List Value,VRels K (l.map Abs.ofAtom) l
 | []=>by simp [VRels]
 | v::r=>by simp only [List.map_cons,VRels];exact⟨v,r,rfl,VRel.ofAtom K v,VRels.ofAtoms K r⟩
theorem VRel.ofV (K:Kn) (v:Value):VRel K (ofV v) v:=by
 have h:=VRel.ofAtom K v
 cases v with
 | agg cs=>simp only [Abs.ofV,VRel];exact⟨cs,rfl,VRels.ofAtoms K _⟩
 | tuple vs=>
  simp only [Abs.ofV]
  split
  · rename_i h
    have:vs = #[]:=Array.eq_empty_of_size_eq_zero h
    subst this
    exact⟨#[],rfl,by simp [VRels]⟩
  · simp [VRel]
 | _=>simpa only [Abs.ofV] using h
section
variable {P:Program} {G:Nat→AV} {w0:World} {ro0:Nat→Nat→Option Value} {K:Kn} {σ:St} {w:World} {N:Nat} {env:Env} {a:Act}
theorem ev_rel (hw:WRel G w0 ro0 K σ w) (he:ERel K N env a) (x:Operand):VRel K (ev G env x) (a.eval x):=by
 cases x with
 | tmp t=>exact he.val t
 | const v=>exact VRel.ofV K v
 | global g=>exact (hw.glob g).mono (K0_le K)
 | func f=>exact⟨#[],#[],rfl,by simp [VRels],by simp [VRels]⟩
theorem opds_rel (hw:WRel G w0 ro0 K σ w) (he:ERel K N env a):∀ l:List Operand,VRels K (opds G env l) (l.map a.eval)
 | []=>by simp [opds,VRels]
 | x::r=>by
  simp only [opds,List.map_cons,VRels]
  exact⟨_,_,rfl,ev_rel hw he x,opds_rel hw he r⟩
end
theorem VRels.length {K:Kn}:∀ {l:List AV} {vs:List Value},VRels K l vs→vs.length=l.length
 | [],_,h=>by simp only [VRels] at h;simp [h]
 | a::r,_,h=>by
  simp only [VRels] at h
  obtain⟨v,vr,rfl,_,h2⟩:=h
  simp [VRels.length h2]
theorem VRels.get {K:Kn}:∀ {l:List AV} {vs:List Value},VRels K l vs→∀ (i:Nat) (a:AV),l[i]?=some a→∃ v,vs[i]?=some v∧VRel K a v
 | [],_,h,i,a,e=>by simp at e
 | a::r,_,h,i,b,e=>by
  simp only [VRels] at h
  obtain⟨v,vr,rfl,h1,h2⟩:=h
  cases i with
  | zero=>simp at e;subst e;exact⟨v,by simp,h1⟩
  | succ i=>simp at e ⊢;exact VRels.get h2 i b e
theorem VRels.intro {K:Kn}:∀ {l:List AV} {vs:List Value},vs.length=l.length→(∀ (i:Nat) (a:AV),l[i]?=some a→∃ v,vs[i]?=some v∧VRel K a v)→VRels K l vs
 | [],vs,h,_=>by simp only [VRels];exact List.eq_nil_of_length_eq_zero (by simpa using h)
 | a::r,[],h,_=>by simp at h
 | a::r,v::vr,h,k=>by
  simp only [VRels]
  obtain⟨v',e,h1⟩:=k 0 a (by simp)
  simp at e
  subst e
  refine⟨v,vr,rfl,h1,VRels.intro (by simpa using h) fun i b e=>?_⟩
  simpa using k (i+1) b (by simpa using e)
theorem VRels.append {K:Kn}:∀ {l m:List AV} {vs us:List Value},VRels K l vs→VRels K m us→VRels K (l++m) (vs++us)
 | [],_,_,_,h,k=>by simp only [VRels] at h;subst h;simpa using k
 | a::r,_,_,_,h,k=>by
  simp only [VRels] at h
  obtain⟨v,vr,rfl,h1,h2⟩:=h
  simp only [List.cons_append,VRels]
  exact⟨v,_,rfl,h1,VRels.append h2 k⟩
theorem VRel.oneCell {K:Kn} {a:AV} {v:Value} (h:VRel K a v) (ha:a.atom=true):v.oneCell'=true:=by
 cases a<;>simp only [AV.atom,VRel] at h ha
 case any=>cases ha
 case agg=>cases ha
 case tup=>cases ha
 case sl=>rcases h with ⟨⟨_,rfl,_⟩,_⟩ | ⟨_,_,_,rfl,_⟩<;>rfl
 all_goals first
  | (subst h;rfl)
  | (obtain⟨_,_,rfl⟩:=h;rfl)
  | (obtain⟨_,_,rfl,_⟩:=h;rfl)
  | (obtain⟨_,_,_,rfl,_⟩:=h;rfl)
theorem VRels.oneCells {K:Kn}:∀ {l:List AV} {vs:List Value},VRels K l vs→l.all AV.atom=true→∀ v∈vs,v.oneCell'=true
 | [],_,h,_,v,hv=>by simp only [VRels] at h;subst h;cases hv
 | a::r,_,h,ha,u,hu=>by
  simp only [VRels] at h
  obtain⟨v,vr,rfl,h1,h2⟩:=h
  simp only [List.all_cons,Bool.and_eq_true] at ha
  rcases List.mem_cons.1 hu with rfl|hu
  · exact h1.oneCell ha.1
  · exact VRels.oneCells h2 ha.2 u hu
/-- Cells of an abstract value. -/
theorem acells_rel {K:Kn} {x:AV} {v:Value} {c:List AV} (h:VRel K x v) (hc:acells x=some c):VRels K c v.cells.toList∧c.all AV.atom=true:=by
 cases x with
 | any=>simp [acells] at hc
 | tup vs=>simp [acells] at hc
 | agg cs=>
  simp only [acells] at hc
  split at hc
  · rename_i ha
    simp at hc;subst hc
    simp only [VRel] at h
    obtain⟨vs,rfl,h2⟩:=h
    exact⟨h2,ha⟩
  · simp at hc
 | _=>
  simp only [acells,Option.some.injEq] at hc
  subst hc
  have h1:=h.oneCell rfl
  refine⟨?_,rfl⟩
  cases v<;>first | (simp [Value.oneCell'] at h1;done) | exact⟨_,_,rfl,h,rfl⟩
/-- In memory 'w', from (B, off) on, lie values that the list stands for. -/
def Lies (K:Kn) (w:World) (B off:Nat) (c:List AV):Prop :=
 ∃ vs:List Value,VRels K c vs∧∀ (j:Nat) (v:Value),vs[j]?=some v→w.cell? ⟨B,off+j,none⟩=some v
theorem Lies.of_cellsAt {K:Kn} {w:World} (hro:∀ b o v,K.ro b o=some v→w.cell? ⟨b,o,none⟩=some v) (B:Nat):∀ (c:List AV) (off:Nat),CellsAt K B off c→Lies K w B off c
 | [],off,_=>⟨[],by simp [VRels],by simp⟩
 | a::r,off,h=>by
  simp only [CellsAt] at h
  obtain⟨⟨v,h1,h2⟩,h3⟩:=h
  obtain⟨vs,h4,h5⟩:=Lies.of_cellsAt hro B r (off+1) h3
  refine⟨v::vs,by simp only [VRels];exact⟨v,vs,rfl,h2,h4⟩,fun j u e=>?_⟩
  cases j with
  | zero=>simp at e;subst e;simpa using hro _ _ _ h1
  | succ j=>simp at e;have:=h5 j u e;rwa [show off+1+j=off+(j+1) by omega] at this
theorem CellsAt.drop {K:Kn} (B:Nat):∀ (c:List AV) (off n:Nat),CellsAt K B off c→CellsAt K B (off+n) (c.drop n)
 | [],off,n,_=>by simp [CellsAt]
 | a::r,off,0,h=>by simpa using h
 | a::r,off,n+1,h=>by
  simp only [CellsAt] at h
  have:=CellsAt.drop B r (off+1) n h.2
  rw [show off+1+n=off+(n+1) by omega] at this
  simpa using this
theorem CellsAt.take {K:Kn} (B:Nat):∀ (c:List AV) (off n:Nat),CellsAt K B off c→CellsAt K B off (c.take n)
 | [],off,n,_=>by simp [CellsAt]
 | a::r,off,0,h=>by simp [CellsAt]
 | a::r,off,n+1,h=>by
  simp only [CellsAt,List.take_succ_cons] at h ⊢
  exact⟨h.1,CellsAt.take B r (off+1) n h.2⟩
theorem CellsAt.get {K:Kn} (B:Nat):∀ (c:List AV) (off:Nat),CellsAt K B off c→∀ (i:Nat) (a:AV),c[i]?=some a→∃ v,K.ro B (off+i)=some v∧VRel K a v
 | [],_,_,i,a,e=>by simp at e
 | b::r,off,h,i,a,e=>by
  simp only [CellsAt] at h
  cases i with
  | zero=>simp at e;subst e;simpa using h.1
  | succ i=>simp at e;have:=CellsAt.get B r (off+1) h.2 i a e;rwa [show off+1+i=off+(i+1) by omega] at this
theorem CellsAt.intro {K:Kn} (B:Nat):∀ (c:List AV) (off:Nat),(∀ (i:Nat) (a:AV),c[i]?=some a→∃ v,K.ro B (off+i)=some v∧VRel K a v)→CellsAt K B off c
 | [],_,_=>by simp [CellsAt]
 | b::r,off,h=>by
  simp only [CellsAt]
  exact⟨by simpa using h 0 b (by simp),CellsAt.intro B r (off+1) fun i a e=>by have:=h (i+1) a (by simpa using e);rwa [show off+(i+1)=off+1+i by omega] at this⟩
theorem RowsAt.get {K:Kn} (B sz:Nat):∀ (rs:List (List AV)) (off:Nat),RowsAt K B off sz rs→∀ (i:Nat) (r:List AV),rs[i]?=some r→r.length=sz∧r.all AV.atom=true∧CellsAt K B (off+i*sz) r
 | [],_,_,i,a,e=>by simp at e
 | b::rs,off,h,i,r,e=>by
  simp only [RowsAt] at h
  cases i with
  | zero=>simp at e;subst e;simpa using h.1
  | succ i=>simp at e;have:=RowsAt.get B sz rs (off+sz) h.2 i r e;rwa [show off+sz+i*sz=off+(i+1)*sz by rw [Nat.add_mul];omega] at this
theorem RowsAt.intro {K:Kn} (B sz:Nat):∀ (rs:List (List AV)) (off:Nat),(∀ (i:Nat) (r:List AV),rs[i]?=some r→r.length=sz∧r.all AV.atom=true∧CellsAt K B (off+i*sz) r)→RowsAt K B off sz rs
 | [],_,_=>by simp [RowsAt]
 | b::rs,off,h=>by
  simp only [RowsAt]
  exact⟨by simpa using h 0 b (by simp),RowsAt.intro B sz rs (off+sz) fun i r e=>by have:=h (i+1) r (by simpa using e);rwa [show off+(i+1)*sz=off+sz+i*sz by rw [Nat.add_mul];omega] at this⟩
/-- The rows' cells, one behind the other. -/
theorem RowsAt.flat {K:Kn} (B sz:Nat):∀ (rs:List (List AV)) (off:Nat),RowsAt K B off sz rs→CellsAt K B off rs.flatten∧rs.flatten.length=rs.length*sz∧rs.flatten.all AV.atom=true
 | [],_,_=>by simp [CellsAt]
 | r::rs,off,h=>by
  simp only [RowsAt] at h
  obtain⟨⟨h1,h2,h3⟩,h4⟩:=h
  obtain⟨i1,i2,i3⟩:=RowsAt.flat B sz rs (off+sz) h4
  refine⟨?_,by simp [h1,Nat.add_mul];rw [← List.length_flatten,i2];omega,by simp [List.all_append,h2];simpa using i3⟩
  simp only [List.flatten_cons]
  refine CellsAt.intro B _ off fun i a e=>?_
  rw [List.getElem?_append] at e
  split at e
  · exact CellsAt.get B _ _ h3 i a e
  · rename_i hlt
    have:=CellsAt.get B _ _ i1 (i-r.length) a e
    rwa [show off+sz+(i-r.length)=off+i by omega] at this
end
section
theorem addr_add (B off j:Nat):(⟨B,off,none⟩:Addr).add j=⟨B,off+j,none⟩:=by
 unfold Addr.add;split<;>simp_all
/-- A block is now known under a number of the state's. -/
def Kn.addM (K:Kn) (i B n:Nat):Kn:={ K with m:=fun j=>if j=i then some B else K.m j,bs:=fun j=>if j=i then n else K.bs j }
/-- How many cells a block has. -/
def objSize:Obj→Nat
 | .cells cs _ _=>cs.size
 | _=>0
/-- Cells are now read-only. -/
def Kn.addRo (K:Kn) (B lo:Nat) (vs:List Value):Kn :=
 { K with ro:=fun b o=>if b=B∧lo≤o∧o<lo+vs.length then vs[o-lo]? else K.ro b o }
/-- Chain t is now as C says. -/
def Kn.setCh (K:Kn) (t:Nat) (C:Chn) (n:Nat):Kn:={ K with ch:=fun u=>if u=t then some C else K.ch u,nch:=n }
section
variable {P:Program} {G:Nat→AV} {w0:World} {ro0:Nat→Nat→Option Value} {K:Kn} {σ:St} {w:World}
theorem WRel.ro_lt (h:WRel G w0 ro0 K σ w) {b o:Nat} {v:Value} (e:K.ro b o=some v):b<w.heap.size :=
 World.block_lt_of_cell? w ⟨b,o,none⟩ (h.ro b o v e)
theorem WRel.ro_new (h:WRel G w0 ro0 K σ w) (o:Nat):K.ro w.heap.size o=none:=by
 cases e:K.ro w.heap.size o with
 | none=>rfl
 | some v=>have:=h.ro_lt e;omega
theorem WRel.m_lt (h:WRel G w0 ro0 K σ w) {i B:Nat} (e:K.m i=some B):B<w.heap.size∧w0.heap.size≤B:=by
 have hi:=h.mlt i B e
 obtain⟨B',h1,h2,h3,_⟩:=h.blk i σ.H[i] (by simp [hi])
 rw [e] at h1
 cases h1
 exact⟨h3,h2⟩
theorem WRel.ch_lt (h:WRel G w0 ro0 K σ w) {t:Nat} {C:Chn} (e:K.ch t=some C):C.B<w.heap.size∧w0.heap.size≤C.B∧t<K.nch:=by
 obtain⟨k,hk⟩:=h.chd t C e
 obtain⟨C',h1,_,h3,_,⟨cs,el,h5,_⟩,_⟩:=h.ch t k hk
 rw [e] at h1
 cases h1
 have:t<σ.T.length:=(List.getElem?_eq_some_iff.1 hk).1
 exact⟨(Array.getElem?_eq_some_iff.1 h5).1,h3,by rw [h.nch];exact this⟩
theorem WRel.size_le (h:WRel G w0 ro0 K σ w):w0.heap.size≤w.heap.size:=h.below.size
/-- Nothing but the count of draws has moved. -/
theorem WRel.drew (h:WRel G w0 ro0 K σ w):WRel G w0 ro0 K σ w.drew :=
 ⟨h.below.drew,h.glob,h.ro,h.new,h.blk,h.inj,h.mlt,h.ch,h.chd,h.chinj,h.nch,h.bsz,h.fx,h.rwl⟩
/-- Other blocks are fixed. -/
def Kn.withFx (K:Kn) (f:Nat→Option Obj):Kn:={ K with fx:=f }
theorem Kn.le0_fx (K:Kn) (f g:Nat→Option Obj):(K.withFx f).le0 (K.withFx g):=⟨fun _ _ _ e=>e,fun _ _ e=>e,Nat.le_refl _,fun t C _ e=>⟨C,e,.inl rfl⟩,fun _ _ _=>rfl⟩
theorem VRel.refx {K:Kn} {a:AV} {v:Value} (f:Nat→Option Obj) (h:VRel K a v):VRel (K.withFx f) a v:=VRel.mono0 (Kn.le0_fx K K.fx f) a h
theorem ERel.refx {K:Kn} {N:Nat} {env:Env} {a:Act} (f:Nat→Option Obj) (h:ERel K N env a):ERel (K.withFx f) N env a:=⟨h.size,fun t=>(h.val t).refx f⟩
theorem BlkRel.refx {K:Kn} {b:Blk} {o:Option Obj} (f:Nat→Option Obj) (x:BlkRel K b o):BlkRel (K.withFx f) b o:=by
 cases b with
 | cells c=>
  obtain⟨cs,el,h1,h0,h2,h3⟩:=x
  exact⟨cs,el,h1,h0,h2,fun i a e=>by obtain⟨v,h4,h5⟩:=h3 i a e;exact⟨v,h4,h5.refx f⟩⟩
 | map es clock=>
  obtain⟨es',h1,h2,h3⟩:=x
  exact⟨es',h1,h2,fun i k v b e=>by obtain⟨e',h4,h5,h6,h7⟩:=h3 i k v b e;exact⟨e',h4,h5.refx f,h6.refx f,h7⟩⟩
 | siter s pos=>simpa [BlkRel] using x
 | miter mb since seen st=>exact x
 | dead=>simp [BlkRel]
 | raw n=>exact x
/-- Fewer blocks are fixed. -/
theorem WRel.unfix (h:WRel G w0 ro0 K σ w) {f:Nat→Option Obj} (hf:∀ B o,f B=some o→K.fx B=some o):WRel G w0 ro0 (K.withFx f) σ w :=
 ⟨h.below,h.glob,h.ro,h.new,fun i b e=>by obtain⟨B,h1,h2,h3,h4,h5⟩:=h.blk i b e;exact⟨B,h1,h2,h3,h4.refx f,h5⟩,h.inj,h.mlt,h.ch,h.chd,h.chinj,h.nch,h.bsz,fun B o e=>h.fx B o (hf B o e),h.rwl⟩
/-- One fixed block is turned. -/
theorem WRel.refix (h:WRel G w0 ro0 K σ w) {B:Nat} {o:Obj} (hB:K.fx B=some o) (hc:∀ c el fr,o≠.cells c el fr) (o':Obj) :
 WRel G w0 ro0 (K.withFx fun b=>if b=B then some o' else K.fx b) σ { w with heap:=w.heap.setIfInBounds B o' }:=by
 obtain⟨b1,b2,b3,b4⟩:=h.fx B o hB
 have hlt:B<w.heap.size:=(Array.getElem?_eq_some_iff.1 b1).1
 have oth:∀ k,k≠B→(w.heap.setIfInBounds B o')[k]?=w.heap[k]? := fun k hk=>by simp [Array.getElem?_setIfInBounds_ne (Ne.symm hk)]
 have hro:∀ b o v,K.ro b o=some v→b≠B:=by
  intro b o1 v e eb
  subst eb
  have:=h.ro _ _ _ e
  unfold World.cell? at this
  rw [b1] at this
  cases o<;>first | exact hc _ _ _ rfl | simp at this
 refine⟨h.below.trans ⟨rfl,rfl,rfl,by simp,fun k hk=>oth k (by omega)⟩,h.glob,?_,h.new,?_,h.inj,h.mlt,?_,h.chd,h.chinj,h.nch,?_,?_,h.rwl⟩
 · intro b o1 v e
   rw [World.cell?_of_block (w:=w) (oth b (hro b o1 v e))]
   exact h.ro b o1 v e
 · intro i b e
   obtain⟨B',h1,h2,h3,h4,h5⟩:=h.blk i b e
   refine⟨B',h1,h2,by simpa using h3,?_,h5⟩
   show BlkRel _ b (w.heap.setIfInBounds B o')[B']?
   rw [oth B' (fun e=>b3 i (e▸h1))]
   exact h4.refx _
 · intro t k e
   obtain⟨C,c1,c2,c3,c4,⟨cs,el,c5,c6⟩,c7,c8⟩:=h.ch t k e
   refine⟨C,c1,c2,c3,c4,⟨cs,el,?_,c6⟩,c7,c8⟩
   show (w.heap.setIfInBounds B o')[C.B]?=_
   rw [oth C.B (b4 t C c1)]
   exact c5
 · intro i B' cs el fr e1 e2
   have e2':(w.heap.setIfInBounds B o')[B']?=some (.cells cs el fr):=e2
   rw [oth B' (fun e=>b3 i (e▸e1))] at e2'
   exact h.bsz i B' cs el fr e1 e2'
 · intro B' o1 e
   show (w.heap.setIfInBounds B o')[B']?=_∧_
   by_cases hB':B'=B
   · subst hB'
     simp only [Kn.withFx,if_pos] at e
     cases e
     exact⟨by simp [hlt],b2,b3,b4⟩
   · simp only [Kn.withFx,if_neg hB'] at e
     rw [oth B' hB']
     exact h.fx B' o1 e
/-- A new block, fixed. -/
theorem WRel.allocFix (h:WRel G w0 ro0 K σ w) (o:Obj):WRel G w0 ro0 (K.withFx fun b=>if b=w.heap.size then some o else K.fx b) σ (w.alloc o):=by
 have hsz:=h.size_le
 have oth:∀ k,k<w.heap.size→(w.alloc o).heap[k]?=w.heap[k]? := fun k hk=>Below.heap_alloc w o k hk
 have hlt:∀ k x,w.heap[k]?=some x→k<w.heap.size:=fun k x e=>(Array.getElem?_eq_some_iff.1 e).1
 have new:(w.alloc o).heap[w.heap.size]?=some o:=by show (w.heap.push o)[w.heap.size]?=some o;simp
 have hs:(w.alloc o).heap.size=w.heap.size+1:=by show (w.heap.push o).size=_;simp
 refine⟨h.below.alloc hsz o,h.glob,?_,h.new,?_,h.inj,h.mlt,?_,h.chd,h.chinj,h.nch,?_,?_,h.rwl⟩
 · intro b o' v e
   rw [World.cell?_of_block (w:=w) (oth b (h.ro_lt e))]
   exact h.ro b o' v e
 · intro i b e
   obtain⟨B',h1,h2,h3,h4,h5⟩:=h.blk i b e
   refine⟨B',h1,h2,by omega,?_,h5⟩
   rw [oth B' h3]
   exact h4.refx _
 · intro t k e
   obtain⟨C,c1,c2,c3,c4,⟨cs,el,c5,c6⟩,c7,c8⟩:=h.ch t k e
   exact⟨C,c1,c2,c3,c4,⟨cs,el,by rw [oth C.B (hlt _ _ c5)];exact c5,c6⟩,c7,c8⟩
 · intro i B' cs el fr e1 e2
   rw [oth B' (h.m_lt e1).1] at e2
   exact h.bsz i B' cs el fr e1 e2
 · intro B' o1 e
   by_cases hB':B'=w.heap.size
   · subst hB'
     simp only [Kn.withFx,if_pos] at e
     cases e
     refine⟨new,hsz,fun i e=>?_,fun t C e eB=>?_⟩
     · have:=(h.m_lt e).1;omega
     · have:=(h.ch_lt e).1;omega
   · simp only [Kn.withFx,if_neg hB'] at e
     obtain⟨x1,x2,x3,x4⟩:=h.fx B' o1 e
     exact⟨by rw [oth B' (hlt _ _ x1)];exact x1,x2,x3,x4⟩
theorem WRel.fx_lt (h:WRel G w0 ro0 K σ w) {B:Nat} {o:Obj} (e:K.fx B=some o):B<w.heap.size:=(Array.getElem?_eq_some_iff.1 (h.fx B o e).1).1
theorem Kn.le_fx {K:Kn} {f:Nat→Option Obj} (hf:∀ B o,K.fx B=some o→f B=some o):K.le (K.withFx f) :=
 ⟨fun _ _ _ e=>e,fun _ _ e=>e,Nat.le_refl _,fun t C _ e=>⟨C,e,.inl rfl⟩,fun _ _ _=>rfl,hf,fun _ _ e=>e⟩
theorem Kn.le_swap {K K':Kn} {f g:Nat→Option Obj} (h:(K.withFx f).le K') (hg:∀ B o,K.fx B=some o→g B=some o):K.le (K'.withFx g) :=
 ⟨h.ro,h.m,h.nch,h.ch,h.bs,hg,h.rw⟩
theorem Kn.le_addM (h:WRel G w0 ro0 K σ w) (B n:Nat):K.le (K.addM σ.H.length B n) :=
 ⟨fun _ _ _ e=>e,fun i B' e=>by
  have:=h.mlt i B' e
  have hne:¬ i=σ.H.length:=by omega
  simp [Kn.addM,hne,e],Nat.le_refl _,fun t C _ e=>⟨C,e,.inl rfl⟩,fun i B' e=>by
  have:=h.mlt i B' e
  have hne:¬ i=σ.H.length:=by omega
  simp [Kn.addM,hne],fun _ _ e=>e,fun _ _ e=>e⟩
/-- A new block of the state's own. -/
theorem WRel.push (h:WRel G w0 ro0 K σ w) {b:Blk} {o:Obj} (hb:BlkRel K b (some o)) :
 WRel G w0 ro0 (K.addM σ.H.length w.heap.size (objSize o)) (σ.push b) (w.alloc o):=by
 have hle:=Kn.le_addM h w.heap.size (objSize o)
 have hsz:=h.size_le
 refine⟨h.below.alloc hsz o,fun g=>(h.glob g).mono (K0_mono hle),?_,h.new,?_,?_,?_,?_,h.chd,h.chinj,h.nch,?_,?_,?_⟩
 · intro b o' v e
   have hlt:=h.ro_lt e
   rw [World.cell?_of_block (w:=w) (Below.heap_alloc w o b hlt)]
   exact h.ro b o' v e
 · intro i b' e
   simp only [St.push,List.getElem?_append] at e
   split at e
   · rename_i hi
     obtain⟨B,h1,h2,h3,h4,h5⟩:=h.blk i b' e
     refine⟨B,hle.m _ _ h1,h2,by simp;omega,?_,h5⟩
     rw [Below.heap_alloc w o B h3]
     exact h4.mono hle
   · rename_i hi
     have hi':i=σ.H.length:=by
      rcases Nat.lt_or_ge (i-σ.H.length) 1 with h1|h1
      · omega
      · simp [List.getElem?_eq_none (l:=[b]) (by simpa using h1)] at e
     subst hi'
     simp at e
     subst e
     refine⟨w.heap.size,by simp [Kn.addM],hsz,by simp,?_,h.ro_new⟩
     rw [heap_alloc_new]
     exact hb.mono hle
 · intro i j B e1 e2
   simp only [Kn.addM] at e1 e2
   split at e1<;>split at e2
   · left;omega
   · simp at e1;subst e1;have:=(h.m_lt e2).1;omega
   · simp at e2;subst e2;have:=(h.m_lt e1).1;omega
   · have li:=h.mlt i B e1
     have lj:=h.mlt j B e2
     simp only [St.push,List.getElem?_append_left li,List.getElem?_append_left lj]
     exact h.inj i j B e1 e2
 · intro i B e
   simp only [Kn.addM] at e
   simp only [St.push,List.length_append,List.length_singleton]
   split at e
   · omega
   · have:=h.mlt i B e;omega
 · intro t k e
   obtain⟨C,h1,h2,h3,h4,⟨cs,el,h5,h6⟩,h7,h8⟩:=h.ch t k e
   refine⟨C,h1,h2,h3,h4,⟨cs,el,?_,h6⟩,h7,?_⟩
   · rw [Below.heap_alloc w o C.B (h.ch_lt h1).1];exact h5
   · intro i e2
     simp only [Kn.addM] at e2
     split at e2
     · simp at e2;have:=(h.ch_lt h1).1;omega
     · exact h8 i e2
 · intro i B cs el fr e1 e2
   simp only [Kn.addM] at e1 ⊢
   split at e1
   · rename_i hi
     simp at e1;subst e1
     rw [heap_alloc_new] at e2
     cases e2
     simp [hi,objSize]
   · rename_i hi
     rw [Below.heap_alloc w o B (h.m_lt e1).1] at e2
     simp only [hi,if_false]
     exact h.bsz i B cs el fr e1 e2
 · intro B x e
   obtain⟨h1,h2,h3,h4⟩:=h.fx B x e
   have hlt:=(Array.getElem?_eq_some_iff.1 h1).1
   refine⟨by rw [Below.heap_alloc w o B hlt];exact h1,h2,fun i e2=>?_,h4⟩
   simp only [Kn.addM] at e2
   split at e2
   · simp at e2;omega
   · exact h3 i e2
 · intro n x e
   have:=h.rwl n x e
   simp only [St.push,List.length_append,List.length_singleton];omega
theorem Kn.le_addRo (B lo:Nat) (vs:List Value) (hn:∀ o,lo≤o→o<lo+vs.length→K.ro B o=none):K.le (K.addRo B lo vs) :=
 ⟨fun b o v e=>by
  simp only [Kn.addRo]
  split
  · rename_i hc
    obtain⟨rfl,h1,h2⟩:=hc
    rw [hn o h1 h2] at e;cases e
  · exact e,fun _ _ e=>e,Nat.le_refl _,fun t C _ e=>⟨C,e,.inl rfl⟩,fun _ _ _=>rfl,fun _ _ e=>e,fun _ _ e=>e⟩
/-- A new row of read-only cells. -/
theorem WRel.newRo (h:WRel G w0 ro0 K σ w) (vs:List Value) (cs:Array Value) (el:TypeId) (hp:∀ (j:Nat) (v:Value),vs[j]?=some v→cs[j]?=some v) :
 WRel G w0 ro0 (K.addRo w.heap.size 0 vs) σ (w.alloc (.cells cs el))∧K.le (K.addRo w.heap.size 0 vs):=by
 have hle:K.le (K.addRo w.heap.size 0 vs):=Kn.le_addRo _ _ _ (fun o _ _=>h.ro_new o)
 have hsz:=h.size_le
 refine⟨⟨h.below.alloc hsz _,fun g=>(h.glob g).mono (K0_mono hle),?_,?_,?_,h.inj,h.mlt,?_,h.chd,h.chinj,h.nch,fun i B cs el fr e1 e2=>by
  rw [Below.heap_alloc w _ B (h.m_lt e1).1] at e2
  exact h.bsz i B cs el fr e1 e2,fun B x e=>by
  obtain⟨h1,h2,h3,h4⟩:=h.fx B x e
  exact⟨by rw [Below.heap_alloc w _ B (Array.getElem?_eq_some_iff.1 h1).1];exact h1,h2,h3,h4⟩,h.rwl⟩,hle⟩
 · intro b o v e
   simp only [Kn.addRo] at e
   split at e
   · rename_i hc
     obtain⟨rfl,h1,h2⟩:=hc
     have:=hp _ _ e
     simp only [World.cell?,heap_alloc_new]
     simpa using this
   · have hlt:=h.ro_lt e
     rw [World.cell?_of_block (w:=w) (Below.heap_alloc w _ b hlt)]
     exact h.ro b o v e
 · intro b o v e hb
   simp only [Kn.addRo] at e
   split at e
   · rename_i hc
     obtain⟨rfl,_⟩:=hc
     omega
   · exact h.new b o v e hb
 · intro i b e
   obtain⟨B,h1,h2,h3,h4,h5⟩:=h.blk i b e
   refine⟨B,h1,h2,by simp;omega,by rw [Below.heap_alloc w _ B h3];exact h4.mono hle,fun o=>?_⟩
   simp only [Kn.addRo]
   rw [if_neg (by omega)]
   exact h5 o
 · intro t k e
   obtain⟨C,h1,h2,h3,h4,⟨cs',el',h5,h6⟩,h7,h8⟩:=h.ch t k e
   refine⟨C,h1,h2,h3,h4,⟨cs',el',?_,h6⟩,fun o ho=>?_,h8⟩
   · rw [Below.heap_alloc w _ C.B (h.ch_lt h1).1];exact h5
   · simp only [Kn.addRo]
     have:=(h.ch_lt h1).1
     rw [if_neg (by omega)]
     exact h7 o ho
theorem CellsAt.addRo {B lo:Nat} {vs:List Value} {c:List AV} (h:VRels K c vs) (hle:K.le (K.addRo B lo vs)):CellsAt (K.addRo B lo vs) B lo c:=by
 refine CellsAt.intro B c lo fun i a e=>?_
 obtain⟨v,h1,h2⟩:=h.get i a e
 refine⟨v,?_,h2.mono hle⟩
 have hlt:i<vs.length:=(List.getElem?_eq_some_iff.1 h1).1
 show (if B=B∧lo≤lo+i∧lo+i<lo+vs.length then vs[lo+i-lo]? else K.ro B (lo+i))=some v
 rw [if_pos ⟨rfl,by omega,by omega⟩,show lo+i-lo=i by omega]
 exact h1
end
end
end Go.Abs
end
