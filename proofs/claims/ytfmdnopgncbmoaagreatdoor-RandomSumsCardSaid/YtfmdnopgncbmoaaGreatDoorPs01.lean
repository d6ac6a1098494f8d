import Derived.WalkKit
import Derived.Below
import Derived.Orders
import Derived.Deep.LoopGhost
import Derived.Great.BuildSlice
import Derived.Laws.StructEq
set_option linter.all false
set_option linter.defProp false
namespace Go.Abs
open Go Go.RowKit
def qyF:=@List.getElem?_eq_some_iff
def qyG:=@List.mem_of_getElem?
def qyH:=@List.getElem?_eq_getElem
def qyI:=@List.getElem?_set_ne
def qyJ:=@Bool.and_eq_true
def qyK:=@List.length_append
def qyL:=@List.getElem?_set_self
def qyM:=@Option.map_eq_some_iff
def qyN:=@List.take_of_length_le
def qyO:=@List.getElem?_append_right
def qyP:=@List.all_eq_true
def qyQ:=@Nat.le_refl
def qyR:=@List.map_cons
def qyS:=@List.getD_eq_getElem?_getD
def qyT:=@List.getElem?_append_left
def qyU:=@Option.some.injEq
def qyV:=@Nat.lt_of_lt_of_le
def qyW:=@Prod.mk.injEq
def qyX:=@List.eq_nil_of_length_eq_zero
def qyY:=@List.length_cons
def qyZ:=@List.length_pos_iff
def qy0:=@List.mem_append
def qy1:=@List.drop_eq_getElem_cons
def qy2:=@List.nil_append
def qy3:=@List.cons_append
def qy4:=@Bool.false_eq_true
def qy5:=@List.flatMap_cons
def qy6:=@List.getElem?_eq_none
def qy7:=@List.getElem?_map
def qy8:=@List.any_eq_true
def qy9:=@List.mem_cons
def qza:=@List.mem_map
def qzb:=@List.take_add_one
def qzc:=@Nat.pow_le_pow_right
def qzd:=@List.length_singleton
def qze:=@List.append_assoc
def qzf:=@List.drop_of_length_le
def qzg:=@Int.eq_ofNat_of_zero_le
def qzh:=@List.mem_singleton
def qzi:=@List.set_append
def qzj:=@List.map_nil
def qzk:=@List.length_map
def qzl:=@List.mem_flatten
def qzm:=@List.foldl_cons
def qzn:=@List.flatten_cons
def qzo:=@List.length_take
def qzp:=@List.append_nil
def qzq:=@List.getElem?_of_mem
def qzr:=@Nat.add_mul
def qzs:=@Nat.le_trans
def qzt:=@Int.toNat_natCast
def qzu:=@List.getElem?_append
def qzv:=@Array.getElem?_eq_some_iff
def qzw:=@Nat.lt_of_le_of_lt
def qzx:=@Nat.mul_le_mul_right
def qzy:=@List.mem_of_mem_take
def qzz:=@Bool.eq_iff_iff
def qzA:=@List.take_append_drop
def qzB:=@Classical.not_not
def qzC:=@List.ext_getElem?
def qzD:=@List.getElem?_take
def qzE:=@List.map_append
def qzF:=@Nat.add_sub_cancel_left
def qzG:=@List.getElem?_drop
def qzH:=@List.length_nil
def qzI:=@Nat.div_le_self
def qzJ:=@Nat.gcd_pos_of_pos_right
def qzK:=@Nat.lt_succ_iff_lt_or_eq
def qzL:=@List.take_append_of_le_length
def qzM:=@List.mem_append_left
def qzN:=@Bool.true_and
def qzO:=@List.set_append_right
def qzP:=@List.mem_range
def qzQ:=@Nat.gcd_dvd_right
def qzR:=@Nat.mul_div_cancel_left
def qzS:=@Array.length_toList
def qzT:=@Bool.eq_false_iff
def qzU:=@Nat.sub_self
def qzV:=@Nat.eq_zero_or_pos
def qzW:=@List.map_congr_left
def qzX:=@List.drop_zero
def qzY:=@Nat.mul_le_mul
def qzZ:=@List.length_set
def qz0:=@List.map_map
def qz1:=@Int.natCast_zero
def qz2:=@List.drop_length
def qz3:=@List.nodup_append
def qz4:=@Bool.not_eq_true'
def qz5:=@List.foldl_append
def qz6:=@Option.bind_eq_some_iff
def qz7:=@Int.fdiv_eq_ediv_of_nonneg
def qz8:=@Nat.add_zero
def qz9:=@Nat.zero_add
def qAa:=@List.all_append
def qAb:=@Nat.min_eq_left
def qAc:=@List.range_succ
def qAd:=@List.not_mem_nil
def qAe:=@List.getElem_map
def qAf:=@Nat.gcd_dvd_left
def qAg:=@List.any_eq_false
def qAh:=@List.all_cons
def qAi:=@Nat.two_pow_pos
def qAj:=@List.mem_of_mem_drop
def qAk:=@List.mem_cons_of_mem
def qAl:=@Nat.zero_mul
def qAm:=@Nat.mod_lt
def qAn:=@Array.eq_empty_of_size_eq_zero
def qAo:=@List.getElem?_zip_eq_some
def qAp:=@Nat.and_two_pow_sub_one_eq_mod
def qAq:=@List.singleton_append
def qAr:=@Nat.div_lt_iff_lt_mul
def qAs:=@List.mem_append_right
def qAt:=@Nat.add_comm
def qAu:=@List.mem_cons_self
def qAv:=@List.flatMap_def
def qAw:=@Nat.mod_eq_of_lt
def qAx:=@List.mem_replicate
def qAy:=@List.drop_append
def qAz:=@Nat.mul_comm
def qAA:=@Nat.zero_le
def qAB:=@List.range_eq_range'
def qAC:=@List.getElem?_modify
def qAD:=@Bool.false_and
def qAE:=@Nat.eq_of_testBit_eq
def qAF:=@List.flatten_append
def qAG:=@Bool.and_true
def qAH:=@Nat.mul_assoc
def qAI:=@List.range'_succ
def qAJ:=@List.take_length
def qAK:=@Nat.pos_of_ne_zero
def qAL:=@List.mem_or_eq_of_mem_set
def qAM:=@List.pairwise_iff_getElem
def qAN:=@Int.natCast_mul
def qAO:=@Array.toArray_toList
def qAP:=@Bool.eq_false_or_eq_true
def qAQ:=@Nat.div_add_mod
def qAR:=@Nat.add_assoc
def qAS:=@List.any_cons
def qAT:=@List.drop_append_of_le_length
def qAU:=@List.length_drop
def qAV:=@List.getElem_mem
def qAW:=@Nat.min_le_right
def qAX:=@List.dropLast_concat_getLast
def qAY:=@Nat.div_pos
def qAZ:=@Nat.mul_pos
def qA0:=@Nat.coprime_div_gcd_div_gcd
def qA1:=@Bool.or_eq_true
def qA2:=@List.getElem?_toArray
def qA3:=@List.cons.injEq
def qA4:=@List.sum_cons
def qA5:=@Int.tdiv_eq_ediv_of_nonneg
def qA6:=@Nat.le_of_dvd
def qA7:=@List.getElem?_zipIdx
def qA8:=@Nat.succ_mul
def qA9:=@Nat.pow_succ
def qBa:=@List.replicate_succ
def qBb:=@List.take_succ_cons
def qBc:=@Array.getElem?_setIfInBounds_ne
def qBd:=@List.getElem?_cons_succ
def qBe:=@Nat.gcd_pos_of_pos_left
def qBf:=@Bool.false_or
def qBg:=@List.nodup_cons
def qBh:=@Nat.le_succ_of_le
def qBi:=@List.getElem?_set
def qBj:=@List.flatMap_nil
def qBk:=@List.replicate_succ'
def qBl:=@Array.getElem?_append_left
def qBm:=@Int.tmod_eq_emod_of_nonneg
def qBn:=@List.exists_cons_of_ne_nil
def qBo:=@Nat.one_mul
def qBp:=@Nat.mul_add
def qBq:=@Nat.pow_add
def qBr:=@List.getElem?_range
def qBs:=@List.reverse_append
def qBt:=@Option.map_some
def qBu:=@List.getLast?_eq_none_iff
def qBv:=@List.getLast?_eq_some_iff
def qBw:=@List.set_cons_succ
def qBx:=@Nat.lt_trans
def qBy:=@Option.isSome_none
def qBz:=@Option.isSome_iff_exists
def qBA:=@List.map_replicate
def qBB:=@List.zipIdx_append
def qBC:=@Nat.div_dvd_of_dvd
def qBD:=@List.find?_eq_none
def qBE:=@Bool.and_false
def qBF:=@List.length_eq_zero_iff
def qBG:=@Nat.testBit_mod_two_pow
def qBH:=@List.getElem?_replicate
def qBI:=@Nat.pos_of_mul_pos_left
def qBJ:=@List.size_toArray
def qBK:=@List.pairwise_map
def qBL:=@List.append_eq_nil_iff
def qBM:=@List.length_filter_le
def qBN:=@List.mem_filter
def qBO:=@List.find?_cons
def qBP:=@List.eq_nil_iff_forall_not_mem
def qBQ:=@List.map_set
def qBR:=@List.countP_map
def qBS:=@Bool.or_eq_false_iff
def qBT:=@List.takeWhile_cons
def qBU:=@List.replicate_zero
def qBV:=@Nat.div_mul_le_self
def qBW:=@Bool.not_false
def qBX:=@Array.getElem?_setIfInBounds
def qBY:=@Int.le_refl
def qBZ:=@List.count_pos_iff
def qB0:=@List.prefix_append
def qB1:=@Array.getD_eq_getD_getElem?
def qB2:=@List.set_cons_zero
def qB3:=@List.zip_cons_cons
def qB4:=@List.all_eq_false
def qB5:=@List.length_range
def qB6:=@Array.getElem?_eq_getElem
def qB7:=@List.extract_eq_take_drop
def qB8:=@List.mem_take_iff_getElem
def qB9:=@List.mem_of_find?_eq_some
def qCa:=@Nat.lt_or_ge
def qCb:=@Array.setIfInBounds_comm
def qCc:=@List.all_map
def qCd:=@Nat.sub_zero
def qCe:=@Nat.le_of_lt
def qCf:=@Nat.gcd_comm
def qCg:=@List.countP_cons
def qCh:=@List.getElem?_cons_zero
def qCi:=@Nat.testBit_div_two_pow
def qCj:=@Nat.le_mul_of_pos_right
def qCk:=@Int.natCast_add
def qCl:=@Int.natCast_one
def qCm:=@Int.pow_pos
def qCn:=@Nat.testBit_lt_two_pow
def qCo:=@Nat.div_one
def qCp:=@List.getElem_cons_succ
def qCq:=@List.getElem_cons_zero
def qCr:=@List.mapM_cons
def qCs:=@List.contains_iff_mem
def qCt:=@List.countP_singleton
def qCu:=@Nat.mul_div_mul_right
def qCv:=@Nat.le_div_iff_mul_le
def qCw:=@List.countP_le_length
def qCx:=@List.take_take
def qCy:=@List.take_zero
def qCz:=@Bool.not_true
def qCA:=@Nat.dvd_trans
def qCB:=@List.sum_nil
def qCC:=@List.all_nil
def qCD:=@Int.zero_add
def qCE:=@Int.mul_emod
inductive Tok where
 |none
 |nil
 |tight
 |chain (t k:Nat)
inductive AV where
 |any
 |bool (b:Bool)
 |int (k:IntKind) (n:Int)
 |str (s:List UInt8)
 |nilp
 |ptr (b off:Nat)
 |rptr (cells:List AV)
 |sl (sz:Nat) (rows:List (List AV)) (tok:Tok)
 |ms (b off len sz:Nat)
 |nilm
 |map (b:Nat)
 |iter (b:Nat)
 |fn (f:FuncId) (first cap:List AV)
 |nilf
 |agg (cells:List AV)
 |tup (vs:List AV)
instance:Inhabited AV:=⟨.any⟩
inductive Blk where
 |cells (c:List AV)
 |map (es:List (AV×AV×Nat)) (clock:Nat)
 |siter (s:List UInt8) (pos:Nat)
 |miter (mb:Option Nat) (since:Nat) (seen:List Nat) (stepped:Nat)
 |dead
 |raw (n:Nat)
structure St where
 H:List Blk
 T:List (Option Nat)
abbrev Env:=Nat->AV
def upd(env:Env)(d:Option Nat)(v:AV):Env:=match d with
 |some d=>fun i=>if i=d then v else env i
 |none=>env
inductive TD where
 |bool|int (k:IntKind)|str|ptr (e:Nat)|sl (e:Nat)|arr (n e:Nat)|map (k e:Nat)
 |st (fs:List (Nat×Nat))|fn|other
structure TI where
 size:Nat
 bytes:Nat
 zero:List AV
 zv:AV
 d:TD
 cmp:Bool
def TD.agg:TD->Option Bool
 |.st _|.arr .. =>some true
 |.other=>none
 |_=>some false
def ofAtom:Value->AV
 |.bool b=>.bool b
 |.int k n=>.int k n
 |.string s=>.str s.data.toList
 |.pointer none=>.nilp
 |.slice none 0 0=>.sl 0 [] .nil
 |.map none=>.nilm
 |.nilFunc=>.nilf
 |.func (.func f) a b=>if a.size=0/\b.size=0 then .fn f [] [] else .any
 |_=>.any
def ofV:Value->AV
 |.agg cs=>.agg (cs.toList.map ofAtom)
 |.tuple vs=>if vs.size=0 then .tup [] else .any
 |v=>ofAtom v
def vV(P:Program):TypeDesc->TD
 |.bool=>.bool
 |.int k=>.int k
 |.string=>.str
 |.pointer e=>.ptr e
 |.slice e=>.sl e
 |.array n e=>.arr n e
 |.map k e=>.map k e
 |.func .. =>.fn
 | .struct fs=>if fs.toList.all (fun f=>P.cellsOf f.type != 0 && f.name != "_") then .st (fs.toList.map fun f=>(f.offset,f.type)) else .other
 |_=>.other
def Dof(P:Program)(t:Nat):Option TI :=
 match P.info? t,P.underlying t with
 | some i,some d=>match i.zero with
  |some z=>some ⟨i.size,i.bytes,z.cells.toList.map ofAtom,ofV z,vV P d,!P.stoodInHeld t⟩
  |none=>none
 |_,_=>none
def ev(G:Nat->AV)(env:Env):Operand->AV
 |.tmp t=>env t
 |.const v=>ofV v
 |.global g=>G g
 |.func f=>.fn f [] []
def AV.atom:AV->Bool
 |.any|.agg _|.tup _=>false
 |_=>true
def qW:AV->Option (List AV)
 |.agg cs=>if cs.all AV.atom then some cs else none
 |.any=>none
 |.tup _=>none
 |v=>some [v]
def St.push(U:St)(b:Blk):St:={U with H:=U.H++[b]}
def cut(c:List AV)(off n:Nat):Option (List AV):=if off+n<=c.length then some ((c.drop off).take n) else none
def QJ(agg:Option Bool)(c:List AV):Option AV:=match agg with
 |some true=>some (.agg c)
 |some false=>c.head?
 |none=>none
def yQ(D:Nat->Option TI)(U:St)(t:Nat)(a:AV):Option AV :=
 match D t,a with
 | some i,.ptr b off=>match U.H[b]? with
  |some (.cells c)=>(cut c off i.size).bind (QJ i.d.agg)
  |_=>none
 |some i,.rptr c=>(cut c 0 i.size).bind (QJ i.d.agg)
 |_,_=>none
def zj:List AV->Nat->List AV->List AV
 |c,_,[]=>c
 |c,off,v::r=>zj (c.set off v) (off+1) r
def KZ(D:Nat->Option TI)(U:St)(t:Nat)(a x:AV):Option St :=
 match D t,a,qW x with
 | some i,.ptr b off,some new=>match U.H[b]? with
  |some (.cells c)=>if new.length=i.size/\off+i.size<=c.length then some {U with H:=U.H.set b (.cells (zj c off new))} else none
  |_=>none
 |_,_,_=>none
def zS(place:Nat->Option (Nat×Nat))(c:List AV):List (Nat×AV)->Option (List AV)
 |[]=>some c
 | (i,v)::r=>match place i,qW v with
  |some (off,n),some new=>if new.length=n/\off+n<=c.length then zS place (zj c off new) r else none
  |_,_=>none
def qG(D:Nat->Option TI)(fs:List (Nat×Nat))(i:Nat):Option (Nat×Nat) :=
 match fs[i]? with
 |some (off,t)=>(D t).map fun j=>(off,j.size)
 |none=>none
def zp(D:Nat->Option TI)(t:Nat)(zX:List (Nat×AV)):Option AV :=
 match D t with
 | some i=>match i.d with
  |.st fs=>(zS (qG D fs) i.zero zX).map .agg
  | .arr _ e=>match D e with
   |some j=>(zS (fun i=>some (i*j.size,j.size)) i.zero zX).map .agg
   |none=>none
  |_=>none
 |none=>none
def qs(sz:Nat)(rows:List (List AV)):List (Nat×AV)->Option (List (List AV))
 |[]=>some rows
 | (i,v)::r=>match qW v with
  |some new=>if new.length=sz/\i<rows.length then qs sz (rows.set i new) r else none
  |none=>none
def qj(D:Nat->Option TI)(t n:Nat)(zX:List (Nat×AV)):Option AV :=
 match D t with
 | some i=>match i.d with
  | .sl e=>match D e with
   |some j=>if j.zero.length=j.size/\j.zero.all AV.atom/\0<j.size/\n*j.size<=16777216 then(qs j.size (List.replicate n j.zero) zX).map fun rows=>.sl j.size rows .tight else none
   |none=>none
  |_=>none
 |none=>none
def kc:AV->AV->Option Bool
 |.bool a,.bool b=>some (a==b)
 |.int k a,.int k' b=>if k=k' then some (a==b) else none
 |.str a,.str b=>some (a==b)
 |_,_=>none
def zY:List AV->List AV->Option Bool
 |[],[]=>some true
 | a::x,b::y=>match kc a b,zY x y with
  |some p,some q=>some (p&&q)
  |_,_=>none
 |_,_=>none
def qu(op:BinOp)(k:IntKind)(a b:Int):Option AV :=
 match op with
 |.add=>some (.int k (k.wrap (a+b)))
 |.sub=>some (.int k (k.wrap (a-b)))
 |.mul=>some (.int k (k.wrap (a*b)))
 |.quo=>if b=0 then none else some (.int k (k.wrap (a.tdiv b)))
 |.rem=>if b=0 then none else some (.int k (a.tmod b))
 |.and=>some (.int k (k.wrap (BitVec.ofInt k.bits a &&& BitVec.ofInt k.bits b).toNat))
 |.or=>some (.int k (k.wrap (BitVec.ofInt k.bits a ||| BitVec.ofInt k.bits b).toNat))
 |.xor=>some (.int k (k.wrap (BitVec.ofInt k.bits a ^^^ BitVec.ofInt k.bits b).toNat))
 |.andNot=>some (.int k (k.wrap (BitVec.ofInt k.bits a &&& ~~~ BitVec.ofInt k.bits b).toNat))
 |.eql=>some (.bool (a==b))
 |.neq=>some (.bool (a != b))
 |.lss=>some (.bool (a<b))
 |.leq=>some (.bool (a<=b))
 |.gtr=>some (.bool (a > b))
 |.geq=>some (.bool (a≥b))
 |_=>none
def qoZ(op:BinOp)(a b:List UInt8):Option AV :=
 match op with
 |.add=>if a.length+b.length<=4611686018427387904 then some (.str (a++b)) else none
 |.eql=>some (.bool (a==b))
 |.neq=>some (.bool (!(a==b)))
 |.lss=>some (.bool (Op.bytesLess a b))
 |.leq=>some (.bool (Op.bytesLess a b||a==b))
 |.gtr=>some (.bool (!(Op.bytesLess a b||a==b)))
 |.geq=>some (.bool (!Op.bytesLess a b))
 |_=>none
def yM(D:Nat->Option TI)(t:Nat):Bool :=
 match D t with
 |some i=>(match i.d with|.int _|.bool|.str=>true|_=>false)
 |none=>false
def qP(D:Nat->Option TI)(t:Nat):TD :=
 match D t with
 |some i=>i.d
 |none=>.other
def Y1(D:Nat->Option TI)(t:Nat):Option (List TD) :=
 match D t with
 | some i=>(match i.d with
  |.st fs=>if i.cmp&&fs.all (fun f=>yM D f.2)&&(fs.map (·.1)==List.range fs.length) then some (fs.map fun f=>qP D f.2) else none
  |_=>none)
 |none=>none
def zR:List TD->List AV->Bool
 |[],[]=>true
 |.bool::r,.bool _::s=>zR r s
 |.str::r,.str _::s=>zR r s
 |.int _::r,.int ..::s=>zR r s
 |_,_=>false
def quZ(D:Nat->Option TI)(t:Nat):Option (List TD) :=
 match D t with
 | some i=>(match i.d with
  | .arr n e=>match D e with
   |some j=>if yM D e&&j.size==1 then some (List.replicate n j.d) else none
   |none=>none
  |_=>none)
 |none=>none
def VC(D:Nat->Option TI)(t:Nat)(a b:List AV):Option Bool :=
 match Y1 D t with
 |some tds=>if zR tds a then zY a b else none
 | none=>match quZ D t with
  |some tds=>if zR tds a then zY a b else none
  |none=>none
def qmS(D:Nat->Option TI)(op:BinOp)(t:Nat)(x y:AV):Option AV :=
 match x,y with
 | .int k a,.int k' b=>match op with
  |.shl=>if b<0 then none else some (.int k (k.wrap (a*2^(min b.toNat k.bits))))
  |.shr=>if b<0 then none else some (.int k (a.fdiv (2^(min b.toNat k.bits))))
  |op=>if k=k' then qu op k a b else none
 |.str a,.str b=>qoZ op a b
 | .bool a,.bool b=>match op,qP D t with
  |.eql,.bool=>some (.bool (a==b))
  |.neq,.bool=>some (.bool (!(a==b)))
  |_,_=>none
 | .agg a,.agg b=>match op with
  |.eql=>(VC D t a b).map .bool
  |.neq=>(VC D t a b).map fun p=>.bool (!p)
  |_=>none
 |_,_=>none
def unA(op:UnOp)(x:AV):Option AV :=
 match op,x with
 |.not,.bool b=>some (.bool (!b))
 |.neg,.int k n=>some (.int k (k.wrap (0-n)))
 |.xor,.int k n=>some (.int k (k.wrap (BitVec.ofInt k.bits (if k.signed then -1 else k.max) ^^^ BitVec.ofInt k.bits n).toNat))
 |_,_=>none
def bytesOf:List (List AV)->Option (List UInt8)
 |[]=>some []
 |[.int .u8 n]::r=>(bytesOf r).map (UInt8.ofNat n.toNat::·)
 |_=>none
def yS(D:Nat->Option TI)(s d:Nat)(x:AV):Option AV :=
 match D s,D d,x with
 | some i,some j,.int _ n=>match i.d,j.d with
  |.int _,.int k=>some (.int k (k.wrap n))
  |_,_=>none
 | some i,some j,.str l=>match i.d,j.d with
  |.str,.str=>some (.str l)
  |_,_=>none
 | some i,some j,.sl 1 rows _=>match i.d,j.d with
  | .sl e,.str=>match D e with
   |some m=>(match m.d with|.int .u8=>(bytesOf rows).map .str|_=>none)
   |none=>none
  |_,_=>none
 |_,_,_=>none
def w7:AV->Option Int
 |.int _ n=>some n
 |_=>none
def Tok.known:Tok->Bool
 |.none=>false
 |_=>true
def z0(n lo hi:Nat)(mx:Option Nat)(tok:Tok):Tok :=
 match mx with
 |some m=>if m=hi/\(0<n\/tok.known=true) then .tight else .none
 | none=>match tok with
  |.tight=>if hi=n then .tight else .none
  |.nil=>.nil
  |.none=>.none
  |.chain t k=>if lo=0/\hi=n then .chain t k else .none
def zU(o:Option AV)(n:Int):Option Int :=
 match o with
 |none=>some n
 |some v=>w7 v
def kI(o:Option AV)(hi:Option AV)(h:Int):Bool :=
 match o with
 |none=>true
 |some v=>decide (w7 v=some h)&&hi.isSome
def zo(x:AV)(lo hi mx:Option AV):Option AV :=
 match x with
 | .str s=>match zU lo 0,zU hi s.length,mx with
  |some l,some h,none=>if 0<=l/\l<=h/\h<=s.length then some (.str ((s.take h.toNat).drop l.toNat)) else none
  |_,_,_=>none
 | .sl sz rows tok=>match zU lo 0,zU hi rows.length with
  | some l,some h=>
   if 0<=l/\l<=h/\h<=rows.length/\kI mx hi h=true then
    some (.sl sz ((rows.take h.toNat).drop l.toNat) (z0 rows.length l.toNat h.toNat (if mx.isSome then some h.toNat else none) tok))
   else none
  |_,_=>none
 | .ms b off len sz=>match zU lo 0,zU hi len,mx with
  |some l,some h,none=>if 0<=l/\l<=h/\h<=len/\(l=0\/l<len) then some (.ms b (off+l.toNat*sz) (h.toNat-l.toNat) sz) else if l=len/\h=len then some (.sl sz [] .none) else none
  |_,_,_=>none
 |_=>none
def Qa(D:Nat->Option TI)(s:Nat)(x:AV)(f:Nat):Option AV :=
 match D s with
 | some i=>match i.d with
  | .st fs=>match fs[f]? with
   | some (off,_)=>match x with
    |.ptr b o=>some (.ptr b (o+off))
    |.rptr c=>some (.rptr (c.drop off))
    |_=>none
   |none=>none
  |_=>none
 |none=>none
def qeL(D:Nat->Option TI)(s:Nat)(x:AV)(f:Nat):Option AV :=
 match D s,x with
 | some i,.agg c=>match i.d with
  | .st fs=>match fs[f]? with
   | some (off,t)=>match D t with
    |some j=>(cut c off (if j.d.agg=some true then j.size else 1)).bind (QJ j.d.agg)
    |none=>none
   |none=>none
  |_=>none
 |_,_=>none
def zr(D:Nat->Option TI)(t:Nat)(x i:AV):Option AV :=
 match D t,w7 i with
 | some ti,some i=>match ti.d with
  | .sl e=>match D e with
   | some j=>match x with
    |.sl sz rows _=>if 0<=i/\(sz=j.size\/rows=[]) then(rows[i.toNat]?).map .rptr else none
    |.ms b off len sz=>if 0<=i/\i<len/\sz=j.size then some (.ptr b (off+i.toNat*sz)) else none
    |_=>none
   |none=>none
  | .arr n e=>match D e with
   | some j=>if 0<=i/\i<n then(match x with
    |.ptr b off=>some (.ptr b (off+i.toNat*j.size))
    |.rptr c=>some (.rptr (c.drop (i.toNat*j.size)))
    |_=>none) else none
   |none=>none
  |_=>none
 |_,_=>none
def qeu(D:Nat->Option TI)(t:Nat)(x i:AV):Option AV :=
 match D t,w7 i with
 | some ti,some i=>match ti.d,x with
  |.str,.str s=>if 0<=i then(s[i.toNat]?).map fun b=>.int .u8 b.toNat else none
  | .arr n e,.agg c=>match D e with
   |some j=>if 0<=i/\i<n then(cut c (i.toNat*j.size) (if j.d.agg=some true then j.size else 1)).bind (QJ j.d.agg) else none
   |none=>none
  |_,_=>none
 |_,_=>none
def JT(x:AV)(i:Nat):Option AV :=
 match x with
 |.tup vs=>vs[i]?
 |_=>none
def zK:AV->Option (Nat×List (List AV))
 |.sl sz rows _=>some (sz,rows)
 |_=>none
def JO(D:Nat->Option TI)(U:St)(t:Nat)(x:AV):Option AV :=
 match D t with
 | some i=>match i.d,x with
  |.str,.str s=>some (.int .i64 s.length)
  |.sl _,.sl _ rows _=>some (.int .i64 rows.length)
  |.sl _,.ms _ _ len _=>some (.int .i64 len)
  |.arr n _,_=>some (.int .i64 n)
  |.map ..,.nilm=>some (.int .i64 0)
  | .map ..,.map b=>match U.H[b]? with
   |some (.map es _)=>some (.int .i64 es.length)
   |_=>none
  |_,_=>none
 |none=>none
def qL(D:Nat->Option TI)(U:St)(t:Nat)(s x:AV):Option (AV×St) :=
 match D t,s,zK x with
 | some i,.sl sz rows tok,some (sz2,rows2)=>match i.d with
  | .sl e=>match D e with
   | some j=>
    if (sz=j.size\/rows=[])/\(sz2=j.size\/rows2=[])/\0<j.size/\j.zero.length=j.size/\j.bytes<=256/\rows.length+rows2.length<=549755813888 then
     if rows2=[] then some (.sl sz rows tok,U) else
     match tok with
     |.none=>none
     |.nil|.tight=>some (.sl j.size (rows++rows2) (.chain U.T.length rows2.length),{U with T:=U.T++[some rows2.length]})
     |.chain t k=>if sz=j.size/\U.T[t]?=some (some k) then some (.sl j.size (rows++rows2) (.chain t (k+rows2.length)),{U with T:=U.T.set t (some (k+rows2.length))}) else none
    else none
   |none=>none
  |_=>none
 |_,_,_=>none
def vd:AV->AV->Option AV
 |.int k x,.int _ y=>some (.int k (if y<x then y else x))
 |_,_=>none
def qia:AV->AV->AV->Option AV
 |.int k x,.int _ y,.int _ z=>some (.int k (if z<(if y<x then y else x) then z else if y<x then y else x))
 |_,_,_=>none
def qlH:AV->AV->Option AV
 |.int k x,.int _ y=>some (.int k (if y > x then y else x))
 |_,_=>none
def qz(D:Nat->Option TI)(U:St)(t:Nat)(l c:AV):Option (AV×St) :=
 match D t,w7 l,w7 c with
 | some i,some l,some c=>match i.d with
  | .sl e=>match D e with
   | some j=>
    if 0<=l/\l<=c/\c<=549755813888/\j.bytes<=256/\0<j.size/\j.zero.length=j.size/\j.zero.all AV.atom then
     if l=0 then some (.sl j.size [] (.chain U.T.length 0),{U with T:=U.T++[some 0]})
     else some (.ms U.H.length 0 l.toNat j.size,U.push (.cells ((List.replicate l.toNat j.zero).flatten)))
    else none
   |none=>none
  |_=>none
 |_,_,_=>none
def Qj:AV->AV->Option Bool
 |.int k a,.int k' b=>if k=k' then some (a==b) else none
 |.str a,.str b=>some (a==b)
 |.agg a,.agg b=>zY a b
 |_,_=>none
def jz(k:AV):List (AV×AV×Nat)->Nat->Option (Option (Nat×AV))
 |[],_=>some none
 | (k',v,_)::r,i=>match Qj k k' with
  |some true=>some (some (i,v))
  |some false=>jz k r (i+1)
  |none=>none
def zt(D:Nat->Option TI)(k:Nat)(v:AV):Bool :=
 match D k with
 |some i=>(match i.d,v with|.int _,.int .. =>true|.str,.str _=>true|.st _,.agg c=>(Y1 D k).any fun tds=>zR tds c|_,_=>false)
 |none=>false
def qad(D:Nat->Option TI)(t:Nat):Option AV:=match D t with
 |some i=>some i.zv
 |none=>none
def zl(D:Nat->Option TI)(U:St)(t:Nat)(m k:AV)(ok:Bool):Option AV :=
 match D t with
 | some i=>match i.d with
  | .map kt et=>
   if zt D kt k then
    match (match m with
     |.nilm=>some []
     |.map b=>(match U.H[b]? with|some (.map es _)=>some es|_=>none)
     |_=>none) with
    | some es=>match jz k es 0 with
     |some (some (_,v))=>some (if ok then .tup [v,.bool true] else v)
     |some none=>(qad D et).map fun z=>if ok then .tup [z,.bool false] else z
     |none=>none
    |none=>none
   else none
  |_=>none
 |none=>none
def q9(D:Nat->Option TI)(U:St)(t:Nat)(m k v:AV):Option St :=
 match D t with
 | some i=>match i.d with
  | .map kt _=>
   if zt D kt k then
    match m with
    | .map b=>match U.H[b]? with
     | some (.map es clock)=>match jz k es 0 with
      |some (some (i,_))=>some {U with H:=U.H.set b (.map (es.modify i fun e=>(k,v,e.2.2)) clock)}
      |some none=>some {U with H:=U.H.set b (.map (es++[(k,v,clock)]) (clock+1))}
      |none=>none
     |_=>none
    |_=>none
   else none
  |_=>none
 |none=>none
def Vg(U:St):AV->Option (AV×St)
 | .iter b=>match U.H[b]? with
  | some (.siter s pos)=>
   if pos<s.length then
    some (.tup [.bool true,.int .i64 pos,.int .i32 (Utf8.decode ⟨s.toArray⟩ pos).1],{U with H:=U.H.set b (.siter s (pos+(Utf8.decode ⟨s.toArray⟩ pos).2))})
   else some (.tup [.bool false],U)
  |_=>none
 |_=>none
def V8(G:Nat->AV)(env:Env)(l:List Operand):List AV:=l.map (ev G env)
def zB(D:Nat->Option TI)(U:St)(b:Builtin)(ts:List Nat)(vs:List AV):Option (AV×St) :=
 match b,ts,vs with
 |.len,[t],[x]=>(JO D U t x).map (·,U)
 |.append,[t,u],[s,x]=>if u=t then qL D U t s x else none
 |.min,_,[x,y]=>(vd x y).map (·,U)
 |.min,_,[x,y,z]=>(qia x y z).map (·,U)
 |.max,_,[x,y]=>(qlH x y).map (·,U)
 |_,_,_=>none
def sem(D:Nat->Option TI)(G:Nat->AV)(env:Env)(U:St):Op->Option (AV×St)
 |.move x|.assign x=>some (ev G env x,U)
 | .pick c a b=>match ev G env c with
  |.bool c=>some (if c then ev G env a else ev G env b,U)
  |_=>none
 | .alloc e=>match D e with
  |some i=>if i.zero.all AV.atom then some (.ptr U.H.length 0,U.push (.cells i.zero)) else none
  |none=>none
 |.box _ x=>(qW (ev G env x)).map fun c=>(.ptr U.H.length 0,U.push (.cells c))
 |.build t ps=>(zp D t (ps.toList.map fun p=>(p.1,ev G env p.2))).map (·,U)
 |.buildSlice t n ps=>(qj D t n (ps.toList.map fun p=>(p.1,ev G env p.2))).map (·,U)
 |.load t a=>(yQ D U t (ev G env a)).map (·,U)
 |.store t a x=>(KZ D U t (ev G env a) (ev G env x)).map (.tup [],·)
 | .nilCheck x=>match ev G env x with
  |.ptr b o=>some (.ptr b o,U)
  |.rptr c=>some (.rptr c,U)
  |_=>none
 |.binOp op t x y _=>(qmS D op t (ev G env x) (ev G env y)).map (·,U)
 |.unOp op _ x=>(unA op (ev G env x)).map (·,U)
 |.convert s d x=>(yS D s d (ev G env x)).map (·,U)
 |.makeFunc (.func f) a b=>some (.fn f (V8 G env a.toList) (V8 G env b.toList),U)
 |.makeMap _ none=>some (.map U.H.length,U.push (.map [] 0))
 |.makeSlice t l c=>qz D U t (ev G env l) (ev G env c)
 | .slice t x lo hi mx=>match D t with
  | some i=>(match i.d,ev G env x with
   |.str,.str s=>(zo (.str s) (lo.map (ev G env)) (hi.map (ev G env)) (mx.map (ev G env))).map (·,U)
   | .sl e,x=>(match D e,x with
    |some j,.sl sz rows tok=>if sz=j.size\/rows=[] then(zo (.sl sz rows tok) (lo.map (ev G env)) (hi.map (ev G env)) (mx.map (ev G env))).map (·,U) else none
    |some j,.ms b off len sz=>if sz=j.size then(zo (.ms b off len sz) (lo.map (ev G env)) (hi.map (ev G env)) (mx.map (ev G env))).map (·,U) else none
    |_,_=>none)
   |_,_=>none)
  |none=>none
 |.fieldAddr s x f=>(Qa D s (ev G env x) f).map (·,U)
 |.field s x f=>(qeL D s (ev G env x) f).map (·,U)
 |.indexAddr t x i=>(zr D t (ev G env x) (ev G env i)).map (·,U)
 |.index t x i=>(qeu D t (ev G env x) (ev G env i)).map (·,U)
 |.lookup t x i ok=>(zl D U t (ev G env x) (ev G env i) ok).map (·,U)
 |.mapUpdate t m k v=>(q9 D U t (ev G env m) (ev G env k) (ev G env v)).map (.tup [],·)
 | .range t x=>match D t,ev G env x with
  |some i,.str s=>(match i.d with|.str=>some (.iter U.H.length,U.push (.siter s 0))|_=>none)
  |_,_=>none
 |.next it true=>Vg U (ev G env it)
 |.extract x i=>(JT (ev G env x) i).map (·,U)
 |.call {callee:=.builtin b,args,argTypes}=>zB D U b argTypes.toList (V8 G env args.toList)
 |_=>none
structure Chn where
 k:Nat
 B:Nat
 fin:Nat
 cap:Nat
 sz:Nat
structure Kn where
 ro:Nat->Nat->Option Value
 m:Nat->Option Nat
 ch:Nat->Option Chn
 nch:Nat
 bs:Nat->Nat
 fx:Nat->Option Obj
 rw:Nat->Option Obj
def ky(K:Kn)(B off len cap sz:Nat):Tok->Prop
 |.none=>True
 |.nil=>False
 |.tight=>cap=len
 |.chain t k=>t<K.nch/\∀C,K.ch t=some C->k<=C.k/\(k=C.k->C.B=B/\C.sz=sz/\off=0/\len*sz=C.fin/\cap*sz=C.cap)
def Tok.plain:Tok->Prop
 |.chain .. =>False
 |_=>True
mutual
def qg(K:Kn):AV->Value->Prop
 |.any,_=>True
 |.bool b,v=>v=.bool b
 |.int k n,v=>v=.int k n
 |.str s,v=>v=.string ⟨s.toArray⟩
 |.nilp,v=>v=.pointer none
 |.ptr b off,v=>∃B,K.m b=some B/\v=.pointer (some ⟨B,off,none⟩)
 |.rptr c,v=>∃B off,v=.pointer (some ⟨B,off,none⟩)/\qm K B off c
 | .sl sz rows tok,v=>((∃a:Option Addr,v=.slice a 0 0/\(a=none\/tok=.none))/\rows=[]/\tok.plain) \/
  ∃B off cap,v=.slice (some ⟨B,off,none⟩) rows.length cap/\rows.length<=cap/\qI K B off sz rows/\ky K B off rows.length cap sz tok
 |.ms b off len sz,v=>∃B cap,K.m b=some B/\v=.slice (some ⟨B,off,none⟩) len cap/\len<=cap/\0<cap/\off+cap*sz<=K.bs b
 |.nilm,v=>v=.map none
 |.map b,v=>∃B,K.m b=some B/\v=.map (some B)
 |.iter b,v=>∃B,K.m b=some B/\v=.pointer (some ⟨B,0,none⟩)
 |.fn f a b,v=>∃va vb,v=.func (.func f) va vb/\qh K a va.toList/\qh K b vb.toList
 |.nilf,v=>v=.nilFunc
 |.agg c,v=>∃vs,v=.agg vs/\qh K c vs.toList
 |.tup c,v=>∃vs,v=.tuple vs/\qh K c vs.toList
def qh(K:Kn):List AV->List Value->Prop
 |[],vs=>vs=[]
 |a::r,vs=>∃v vr,vs=v::vr/\qg K a v/\qh K r vr
def qm(K:Kn):Nat->Nat->List AV->Prop
 |_,_,[]=>True
 |B,off,a::r=>(∃v,K.ro B off=some v/\qg K a v)/\qm K B (off+1) r
def qI(K:Kn):Nat->Nat->Nat->List (List AV)->Prop
 |_,_,_,[]=>True
 |B,off,sz,r::rs=>(r.length=sz/\r.all AV.atom=true/\qm K B off r)/\qI K B (off+sz) sz rs
end
structure Kn.le(K K':Kn):Prop where
 ro:∀b o v,K.ro b o=some v->K'.ro b o=some v
 m:∀i B,K.m i=some B->K'.m i=some B
 nch:K.nch<=K'.nch
 ch:∀t C',t<K.nch->K'.ch t=some C'->∃C,K.ch t=some C/\(C'=C\/C.k<C'.k)
 bs:∀i B,K.m i=some B->K'.bs i=K.bs i
 fx:∀B o,K.fx B=some o->K'.fx B=some o
 rw:∀n o,K.rw n=some o->K'.rw n=some o
def Kn.le_refl(K:Kn):K.le K:=⟨fun _ _ _ h=>h,fun _ _ h=>h,qyQ _,fun _ C' _ h=>⟨C',h,.inl rfl⟩,fun _ _ _=>rfl,fun _ _ h=>h,fun _ _ h=>h⟩
def qC3:=@Kn.le_refl
def Kn.le_trans{A B C:Kn}(h:A.le B)(k:B.le C):A.le C :=
 ⟨fun b o v x=>k.ro b o v (h.ro b o v x),fun i x y=>k.m i x (h.m i x y),qzs h.nch k.nch,fun t C' ht hc=>by
  obtain⟨C1,h1,e1⟩:=k.ch t C' (qyV ht h.nch) hc;obtain⟨C2,h2,e2⟩:=h.ch t C1 ht h1;refine⟨C2,h2,?_⟩;rcases e1 with rfl|e1<;>rcases e2 with rfl|e2
  . exact .inl rfl
  . exact .inr e2
  . exact .inr e1
  exact .inr (qBx e2 e1),fun i B e=>by rw[k.bs i B (h.m i B e),h.bs i B e],fun B o e=>k.fx B o (h.fx B o e),fun n o e=>k.rw n o (h.rw n o e)⟩
def qC4:=@Kn.le_trans
structure Kn.le0(K K':Kn):Prop where
 ro:∀b o v,K.ro b o=some v->K'.ro b o=some v
 m:∀i B,K.m i=some B->K'.m i=some B
 nch:K.nch<=K'.nch
 ch:∀t C',t<K.nch->K'.ch t=some C'->∃C,K.ch t=some C/\(C'=C\/C.k<C'.k)
 bs:∀i B,K.m i=some B->K'.bs i=K.bs i
def Kn.le.le0{K K':Kn}(h:K.le K'):K.le0 K':=⟨h.ro,h.m,h.nch,h.ch,h.bs⟩
def ky.mono{K K'}(h:K.le0 K'){B off len cap sz}:∀{tok:Tok},ky K B off len cap sz tok->ky K' B off len cap sz tok
 |.none,_=>trivial
 |.nil,x=>x
 |.tight,x=>x
 | .chain t k,⟨x,y⟩=>⟨qyV x h.nch,fun C' hC=>by
  obtain⟨C,hC0,e⟩:=h.ch t C' x hC;obtain⟨y1,y2⟩:=y C hC0;rcases e with rfl|e
  . exact⟨y1,y2⟩
  exact⟨by omega,fun e'=>by omega⟩⟩
def K0(ro:Nat->Nat->Option Value):Kn:=⟨ro,fun _=>none,fun _=>none,0,fun _=>0,fun _=>none,fun _=>none⟩
def qtL(K):(K0 K.ro).le K:=⟨fun _ _ _ e=>e,fun _ _ e=>by simp[K0]at e,qAA _,fun t _ ht _=>by simp[K0]at ht,fun _ _ e=>by simp[K0]at e,fun _ _ e=>by simp[K0]at e,fun _ _ e=>by simp[K0]at e⟩
def Z7{K K':Kn}(h:K.le K'):(K0 K.ro).le (K0 K'.ro):=⟨h.ro,fun _ _ e=>by simp[K0]at e,qyQ _,fun t _ ht _=>by simp[K0]at ht,fun _ _ e=>by simp[K0]at e,fun _ _ e=>by simp[K0]at e,fun _ _ e=>by simp[K0]at e⟩
def qe2{ro ro'}(h:∀b o v,ro b o=some v->ro' b o=some v):(K0 ro).le (K0 ro'):=⟨h,fun _ _ e=>by simp[K0]at e,qyQ _,fun t _ ht _=>by simp[K0]at ht,fun _ _ e=>by simp[K0]at e,fun _ _ e=>by simp[K0]at e,fun _ _ e=>by simp[K0]at e⟩
mutual
def qg.mono0{K K'}(h:K.le0 K'):∀(a){v:Value},qg K a v->qg K' a v
 |.any,_,_=>by simp[qg]
 |.bool b,_,x=>by simpa[qg] using x
 |.int k n,_,x=>by simpa[qg] using x
 |.str s,_,x=>by simpa[qg] using x
 |.nilp,_,x=>by simpa[qg] using x
 | .ptr b off,_,x=>by
  simp only[qg]at x⊢;obtain⟨B,h1,h2⟩:=x;exact⟨B,h.m _ _ h1,h2⟩
 | .rptr c,_,x=>by
  simp only[qg]at x⊢;obtain⟨B,off,h1,h2⟩:=x;exact⟨B,off,h1,qm.mono0 h c B off h2⟩
 | .sl sz rows tok,_,x=>by
  simp only[qg]at x⊢;rcases x with x|⟨B,off,cap,h1,h2,h3,h4⟩
  . exact .inl x
  exact .inr ⟨B,off,cap,h1,h2,qI.mono0 h rows B off sz h3,h4.mono h⟩
 | .ms b off len sz,_,x=>by
  simp only[qg]at x⊢;obtain⟨B,cap,h1,h2,h3,h4,h5⟩:=x;exact⟨B,cap,h.m _ _ h1,h2,h3,h4,by rw[h.bs _ _ h1];exact h5⟩
 |.nilm,_,x=>by simpa[qg] using x
 | .map b,_,x=>by
  simp only[qg]at x⊢;obtain⟨B,h1,h2⟩:=x;exact⟨B,h.m _ _ h1,h2⟩
 | .iter b,_,x=>by
  simp only[qg]at x⊢;obtain⟨B,h1,h2⟩:=x;exact⟨B,h.m _ _ h1,h2⟩
 | .fn f a b,_,x=>by
  simp only[qg]at x⊢;obtain⟨va,vb,h1,h2,h3⟩:=x;exact⟨va,vb,h1,qh.mono0 h a h2,qh.mono0 h b h3⟩
 |.nilf,_,x=>by simpa[qg] using x
 | .agg c,_,x=>by
  simp only[qg]at x⊢;obtain⟨vs,h1,h2⟩:=x;exact⟨vs,h1,qh.mono0 h c h2⟩
 | .tup c,_,x=>by
  simp only[qg]at x⊢;obtain⟨vs,h1,h2⟩:=x;exact⟨vs,h1,qh.mono0 h c h2⟩
def qh.mono0{K K'}(h:K.le0 K'):∀(l){vs:List Value},qh K l vs->qh K' l vs
 |[],_,x=>by simpa[qh] using x
 | a::r,_,x=>by
  simp only[qh]at x⊢;obtain⟨v,vr,h1,h2,h3⟩:=x;exact⟨v,vr,h1,qg.mono0 h a h2,qh.mono0 h r h3⟩
def qm.mono0{K K'}(h:K.le0 K'):∀(l) (B off),qm K B off l->qm K' B off l
 |[],_,_,_=>by simp[qm]
 | a::r,B,off,x=>by
  simp only[qm]at x⊢;obtain⟨⟨v,h1,h2⟩,h3⟩:=x;exact⟨⟨v,h.ro _ _ _ h1,qg.mono0 h a h2⟩,qm.mono0 h r _ _ h3⟩
def qI.mono0{K K'}(h:K.le0 K'):∀(l) (B off sz),qI K B off sz l->qI K' B off sz l
 |[],_,_,_,_=>by simp[qI]
 | a::r,B,off,sz,x=>by
  simp only[qI]at x⊢;obtain⟨⟨h1,h0,h2⟩,h3⟩:=x;exact⟨⟨h1,h0,qm.mono0 h a _ _ h2⟩,qI.mono0 h r _ _ _ h3⟩
end
def qC5:=@qh.mono0
def qg.mono{K K'}(h:K.le K')(a){v}:qg K a v->qg K' a v:=qg.mono0 h.le0 a
def qh.mono{K K'}(h:K.le K')(l){vs}:qh K l vs->qh K' l vs:=qC5 h.le0 l
def jV(K:Kn):Blk->Option Obj->Prop
 |.cells c,o=>∃cs el,o=some (.cells cs el (0,0))/\c.all AV.atom=true/\c.length<=cs.size/\∀(i:Nat) (a:AV),c[i]?=some a->∃v,cs[i]?=some v/\qg K a v
 | .map es clock,o=>∃es',o=some (.map es' clock)/\es'.size=es.length /\
  ∀(i:Nat) (k v:AV) (b:Nat),es[i]?=some (k,v,b)->∃e:MapEntry,es'[i]?=some e/\qg K k e.key/\qg K v e.val/\e.born=b
 |.siter s pos,o=>o=some (.stringIter ⟨s.toArray⟩ pos)
 | .miter mb since seen st,o=>∃mB,o=some (.mapIter mB since seen.toArray st) /\
  (match mb with|none=>mB=none|some b=>∃B,K.m b=some B/\mB=some B)
 |.dead,_=>True
 |.raw n,o=>∃x,K.rw n=some x/\o=some x
def jV.mono{K K'}(h:K.le K'){b o}(x:jV K b o):jV K' b o:=by
 cases b with
 | cells c=>
  obtain⟨cs,el,h1,h0,h2,h3⟩:=x;exact⟨cs,el,h1,h0,h2,fun i a e=>by obtain⟨v,h4,h5⟩:=h3 i a e;exact⟨v,h4,h5.mono h⟩⟩
 | map es clock=>
  obtain⟨es',h1,h2,h3⟩:=x;exact⟨es',h1,h2,fun i k v b e=>by obtain⟨e',h4,h5,h6,h7⟩:=h3 i k v b e;exact⟨e',h4,h5.mono h,h6.mono h,h7⟩⟩
 |siter s pos=>simpa[jV] using x
 | miter mb since seen st=>
  obtain⟨mB,h1,h2⟩:=x;refine⟨mB,h1,?_⟩
  cases mb with
  |none=>exact h2
  |some b=>obtain⟨B,h3,h4⟩:=h2;exact⟨B,h.m _ _ h3,h4⟩
 |dead=>simp[jV]
 |raw n=>obtain⟨y,h1,h2⟩:=x;exact⟨y,h.rw _ _ h1,h2⟩
structure WRel(G:Nat->AV)(w0)(ro0:Nat->Nat->Option Value)(K:Kn)(U:St)(w):Prop where
 below:Below w0.heap.size w0 w
 glob:∀g,qg (K0 K.ro) (G g) (.pointer (some ⟨g,0,none⟩))
 ro:∀b o v,K.ro b o=some v->w.cell? ⟨b,o,none⟩=some v
 new:∀b o v,K.ro b o=some v->b<w0.heap.size->ro0 b o=some v
 blk:∀i b,U.H[i]?=some b->∃B,K.m i=some B/\w0.heap.size<=B/\B<w.heap.size/\jV K b w.heap[B]?/\∀o,K.ro B o=none
 inj:∀i j B,K.m i=some B->K.m j=some B->i=j\/U.H[i]?=some .dead\/U.H[j]?=some .dead
 mlt:∀i B,K.m i=some B->i<U.H.length
 ch:∀t k,U.T[t]?=some (some k)->∃C,K.ch t=some C/\C.k=k/\w0.heap.size<=C.B/\C.fin<=C.cap /\
  (∃cs el,w.heap[C.B]?=some (.cells cs el (0,0))/\cs.size=C.cap)/\(∀o,C.fin<=o->K.ro C.B o=none)/\∀i,K.m i≠some C.B
 chd:∀t C,K.ch t=some C->∃k,U.T[t]?=some (some k)
 chinj:∀t u C C',K.ch t=some C->K.ch u=some C'->C.B=C'.B->t=u
 nch:K.nch=U.T.length
 bsz:∀i B cs el fr,K.m i=some B->w.heap[B]?=some (.cells cs el fr)->cs.size=K.bs i
 fx:∀B o,K.fx B=some o->w.heap[B]?=some o/\w0.heap.size<=B/\(∀i,K.m i≠some B)/\∀t C,K.ch t=some C->C.B≠B
 rwl:∀n o,K.rw n=some o->n<2*U.H.length
structure ERel(K N)(env:Env)(a:Act):Prop where
 size:a.tmps.size=N
 val:∀t,qg K (env t) (a.tmps.getD t undef)
def ERel.mono{K K'}(h:K.le K'){N env a}(x:ERel K N env a):ERel K' N env a :=
 ⟨x.size,fun t=>(x.val t).mono h⟩
def ERel.put{K N env a}(x:ERel K N env a){dst}(hd:∀d,dst=some d->d<N){v v'}(hv:qg K v v'):
 ERel K N (upd env dst v) (a.put dst v'):=by
 cases dst with
 |none=>exact x
 | some d=>
  refine⟨by simpa[Act.put] using x.size,fun t=>?_⟩;have hlt:=hd d rfl;simp only[Act.put,upd];by_cases ht:t=d
  . subst ht;have:t<a.tmps.size:=by rwa[x.size]
    simpa[qBX,this] using hv
  have:=x.val t;have hne:¬d=t:=fun e=>ht e.symm
  simpa[ht,qBX,hne] using this
def qg.ofAtom(K v):qg K (ofAtom v) v:=by
 cases v with
 |pointer a=>cases a<;>simp[Abs.ofAtom,qg]
 | slice a l c=>
  unfold Abs.ofAtom;split<;>first|(simp_all[qg,Tok.plain];done)|simp_all[qg]
 |map r=>cases r<;>simp[Abs.ofAtom,qg]
 | func f a b=>
  cases f<;>simp only[Abs.ofAtom]<;>first|(simp[qg];done)|skip
  split
  . rename_i h;obtain⟨h1,h2⟩:=h;refine⟨a,b,rfl,?_,?_⟩
    . have:a = #[]:=qAn h1;subst this;simp[qh]
    have:b = #[]:=qAn h2;subst this;simp[qh]
  simp[qg]
 |_=>simp[Abs.ofAtom,qg]
def qh.ofAtoms(K):∀l:List Value,qh K (l.map Abs.ofAtom) l
 |[]=>by simp[qh]
 |v::r=>by simp only[qyR,qh];exact⟨v,r,rfl,qg.ofAtom K v,qh.ofAtoms K r⟩
def qDc:=@qh.ofAtoms
def qg.ofV(K v):qg K (ofV v) v:=by
 have h:=qg.ofAtom K v
 cases v with
 |agg cs=>simp only[Abs.ofV,qg];exact⟨cs,rfl,qDc K _⟩
 | tuple vs=>
  simp only[Abs.ofV];split
  . rename_i h;have:=qAn h;subst this;exact⟨#[],rfl,by simp[qh]⟩
  simp[qg]
 |_=>simpa only[Abs.ofV] using h
section
variable {P:Program}{G:Nat->AV}{w0:World}{ro0:Nat->Nat->Option Value}{K:Kn}{U:St}{w:World}{N:Nat}{env:Env}{a:Act}
def Zf(hw:WRel G w0 ro0 K U w)(he:ERel K N env a)(x):qg K (ev G env x) (a.eval x):=by
 cases x with
 |tmp t=>exact he.val t
 |const v=>exact qg.ofV K v
 |global g=>exact(hw.glob g).mono (qtL K)
 |func f=>exact⟨#[],#[],rfl,by simp[qh],by simp[qh]⟩
def vY(hw:WRel G w0 ro0 K U w)(he:ERel K N env a):∀l:List Operand,qh K (V8 G env l) (l.map a.eval)
 |[]=>by simp[V8,qh]
 | x::r=>by
  simp only[V8,qyR,qh];exact⟨_,_,rfl,Zf hw he x,vY hw he r⟩
end
def qh.length{K}:∀{l:List AV}{vs:List Value},qh K l vs->vs.length=l.length
 |[],_,h=>by simp only[qh]at h;simp[h]
 | a::r,_,h=>by
  simp only[qh]at h;obtain⟨v,vr,rfl,_,h2⟩:=h;simp[qh.length h2]
def qh.get{K}:∀{l:List AV}{vs:List Value},qh K l vs->∀(i:Nat) (a:AV),l[i]?=some a->∃v,vs[i]?=some v/\qg K a v
 |[],_,h,i,a,e=>by simp at e
 | a::r,_,h,i,b,e=>by
  simp only[qh]at h;obtain⟨v,vr,rfl,h1,h2⟩:=h
  cases i with
  |zero=>simp at e;subst e;exact⟨v,by simp,h1⟩
  |succ i=>simp at e⊢;exact qh.get h2 i b e
def qh.intro{K}:∀{l:List AV}{vs:List Value},vs.length=l.length->(∀(i:Nat) (a:AV),l[i]?=some a->∃v,vs[i]?=some v/\qg K a v)->qh K l vs
 |[],vs,h,_=>by simp only[qh];exact qyX (by simpa using h)
 |a::r,[],h,_=>by simp at h
 | a::r,v::vr,h,k=>by
  simp only[qh];obtain⟨v',e,h1⟩:=k 0 a (by simp);simp at e;subst e;refine⟨v,vr,rfl,h1,qh.intro (by simpa using h) fun i b e=>?_⟩;simpa using k (i+1) b (by simpa using e)
def qh.append{K}:∀{l m:List AV}{vs us:List Value},qh K l vs->qh K m us->qh K (l++m) (vs++us)
 |[],_,_,_,h,k=>by simp only[qh]at h;subst h;simpa using k
 | a::r,_,_,_,h,k=>by
  simp only[qh]at h;obtain⟨v,vr,rfl,h1,h2⟩:=h;simp only[qy3,qh];exact⟨v,_,rfl,h1,qh.append h2 k⟩
def qg.oneCell{K a v}(h:qg K a v)(ha:a.atom=true):v.oneCell'=true:=by
 cases a<;>simp only[AV.atom,qg]at h ha
 case any=>cases ha
 case agg=>cases ha
 case tup=>cases ha
 case sl=>rcases h with⟨⟨_,rfl,_⟩,_⟩|⟨_,_,_,rfl,_⟩<;>rfl
 all_goals first
  |(subst h;rfl)
  |(obtain⟨_,_,rfl⟩:=h;rfl)
  |(obtain⟨_,_,rfl,_⟩:=h;rfl)
  |(obtain⟨_,_,_,rfl,_⟩:=h;rfl)
def qh.oneCells{K}:∀{l:List AV}{vs:List Value},qh K l vs->l.all AV.atom=true->∀v∈vs,v.oneCell'=true
 |[],_,h,_,v,hv=>by simp only[qh]at h;subst h;cases hv
 | a::r,_,h,ha,u,hu=>by
  simp only[qh]at h;obtain⟨v,vr,rfl,h1,h2⟩:=h;simp only[qAh,qyJ]at ha;rcases qy9.1 hu with rfl|hu
  . exact h1.oneCell ha.1
  exact qh.oneCells h2 ha.2 u hu
def Z5{K x v c}(h:qg K x v)(hc:qW x=some c):qh K c v.cells.toList/\c.all AV.atom=true:=by
 cases x with
 |any=>simp[qW]at hc
 |tup vs=>simp[qW]at hc
 | agg cs=>
  simp only[qW]at hc;split at hc
  . rename_i ha;simp at hc;subst hc;simp only[qg]at h;obtain⟨vs,rfl,h2⟩:=h;exact⟨h2,ha⟩
  simp at hc
 | _=>
  simp only[qW,qyU]at hc;subst hc;have h1:=h.oneCell rfl;refine⟨?_,rfl⟩;cases v<;>first|(simp[Value.oneCell']at h1;done)|exact⟨_,_,rfl,h,rfl⟩
def qgy(K:Kn)(w:World)(B off:Nat)(c:List AV):Prop :=
 ∃vs:List Value,qh K c vs/\∀(j) (v),vs[j]?=some v->w.cell? ⟨B,off+j,none⟩=some v
def qgy.of_cellsAt{K w}(hro:∀b o v,K.ro b o=some v->w.cell? ⟨b,o,none⟩=some v)(B):∀(c) (off),qm K B off c->qgy K w B off c
 |[],off,_=>⟨[],by simp[qh],by simp⟩
 | a::r,off,h=>by
  simp only[qm]at h;obtain⟨⟨v,h1,h2⟩,h3⟩:=h;obtain⟨vs,h4,h5⟩:=qgy.of_cellsAt hro B r (off+1) h3;refine⟨v::vs,by simp only[qh];exact⟨v,vs,rfl,h2,h4⟩,fun j u e=>?_⟩
  cases j with
  |zero=>simp at e;subst e;simpa using hro _ _ _ h1
  |succ j=>simp at e;have:=h5 j u e;rwa[show off+1+j=off+(j+1) by omega]at this
def qDd:=@qgy.of_cellsAt
def qm.drop{K}(B):∀(c) (off n),qm K B off c->qm K B (off+n) (c.drop n)
 |[],off,n,_=>by simp[qm]
 |a::r,off,0,h=>by simpa using h
 | a::r,off,n+1,h=>by
  simp only[qm]at h;have:=qm.drop B r (off+1) n h.2;rw[show off+1+n=off+(n+1) by omega]at this;simpa using this
def qm.take{K}(B):∀(c) (off n),qm K B off c->qm K B off (c.take n)
 |[],off,n,_=>by simp[qm]
 |a::r,off,0,h=>by simp[qm]
 | a::r,off,n+1,h=>by
  simp only[qm,qBb]at h⊢;exact⟨h.1,qm.take B r (off+1) n h.2⟩
def qm.get{K}(B):∀(c) (off),qm K B off c->∀(i) (a),c[i]?=some a->∃v,K.ro B (off+i)=some v/\qg K a v
 |[],_,_,i,a,e=>by simp at e
 | b::r,off,h,i,a,e=>by
  simp only[qm]at h
  cases i with
  |zero=>simp at e;subst e;simpa using h.1
  |succ i=>simp at e;have:=qm.get B r (off+1) h.2 i a e;rwa[show off+1+i=off+(i+1) by omega]at this
def qm.intro{K}(B):∀(c) (off),(∀(i) (a),c[i]?=some a->∃v,K.ro B (off+i)=some v/\qg K a v)->qm K B off c
 |[],_,_=>by simp[qm]
 | b::r,off,h=>by
  simp only[qm];exact⟨by simpa using h 0 b (by simp),qm.intro B r (off+1) fun i a e=>by have:=h (i+1) a (by simpa using e);rwa[show off+(i+1)=off+1+i by omega]at this⟩
def qDe:=@qm.intro
def qI.get{K}(B sz):∀(rs) (off),qI K B off sz rs->∀(i) (r),rs[i]?=some r->r.length=sz/\r.all AV.atom=true/\qm K B (off+i*sz) r
 |[],_,_,i,a,e=>by simp at e
 | b::rs,off,h,i,r,e=>by
  simp only[qI]at h
  cases i with
  |zero=>simp at e;subst e;simpa using h.1
  |succ i=>simp at e;have:=qI.get B sz rs (off+sz) h.2 i r e;rwa[show off+sz+i*sz=off+(i+1)*sz by rw[qzr];omega]at this
def qI.intro{K}(B sz):∀(rs) (off),(∀(i) (r),rs[i]?=some r->r.length=sz/\r.all AV.atom=true/\qm K B (off+i*sz) r)->qI K B off sz rs
 |[],_,_=>by simp[qI]
 | b::rs,off,h=>by
  simp only[qI];exact⟨by simpa using h 0 b (by simp),qI.intro B sz rs (off+sz) fun i r e=>by have:=h (i+1) r (by simpa using e);rwa[show off+(i+1)*sz=off+sz+i*sz by rw[qzr];omega]at this⟩
def qDf:=@qI.intro
def qI.flat{K}(B sz):∀(rs) (off),qI K B off sz rs->qm K B off rs.flatten/\rs.flatten.length=rs.length*sz/\rs.flatten.all AV.atom=true
 |[],_,_=>by simp[qm]
 | r::rs,off,h=>by
  simp only[qI]at h;obtain⟨⟨h1,h2,h3⟩,h4⟩:=h;obtain⟨i1,i2,i3⟩:=qI.flat B sz rs (off+sz) h4;refine⟨?_,by simp[h1,qzr];rw[<- List.length_flatten,i2];omega,by simp[qAa,h2];simpa using i3⟩;simp only[qzn];refine qDe B _ off fun i a e=>?_
  rw[qzu]at e;split at e
  . exact qm.get B _ _ h3 i a e
  rename_i hlt;have:=qm.get B _ _ i1 (i-r.length) a e
  rwa[show off+sz+(i-r.length)=off+i by omega]at this
def jg(B off j):(⟨B,off,none⟩:Addr).add j=⟨B,off+j,none⟩:=by
 unfold Addr.add;split<;>simp_all
def Kn.addM(K:Kn)(i B n:Nat):Kn:={K with m:=fun j=>if j=i then some B else K.m j,bs:=fun j=>if j=i then n else K.bs j}
def jI:Obj->Nat
 |.cells cs _ _=>cs.size
 |_=>0
def Kn.addRo(K:Kn)(B lo:Nat)(vs:List Value):Kn :=
 {K with ro:=fun b o=>if b=B/\lo<=o/\o<lo+vs.length then vs[o-lo]? else K.ro b o}
def Kn.setCh(K:Kn)(t:Nat)(C:Chn)(n:Nat):Kn:={K with ch:=fun u=>if u=t then some C else K.ch u,nch:=n}
section
variable {P:Program}{G:Nat->AV}{w0:World}{ro0:Nat->Nat->Option Value}{K:Kn}{U:St}{w:World}
def WRel.ro_lt(h:WRel G w0 ro0 K U w){b o v}(e:K.ro b o=some v):b<w.heap.size :=
 World.block_lt_of_cell? w ⟨b,o,none⟩ (h.ro b o v e)
def WRel.ro_new(h:WRel G w0 ro0 K U w)(o):K.ro w.heap.size o=none:=by
 cases e:K.ro w.heap.size o with
 |none=>rfl
 |some v=>have:=h.ro_lt e;omega
def WRel.m_lt(h:WRel G w0 ro0 K U w){i B}(e:K.m i=some B):B<w.heap.size/\w0.heap.size<=B:=by
 have hi:=h.mlt i B e;obtain⟨B',h1,h2,h3,_⟩:=h.blk i U.H[i] (by simp[hi]);rw[e]at h1;cases h1;exact⟨h3,h2⟩
def WRel.ch_lt(h:WRel G w0 ro0 K U w){t C}(e:K.ch t=some C):C.B<w.heap.size/\w0.heap.size<=C.B/\t<K.nch:=by
 obtain⟨k,hk⟩:=h.chd t C e;obtain⟨C',h1,_,h3,_,⟨cs,el,h5,_⟩,_⟩:=h.ch t k hk;rw[e]at h1;cases h1;have:=(qyF.1 hk).1;exact⟨(qzv.1 h5).1,h3,by rw[h.nch];exact this⟩
def WRel.size_le(h:WRel G w0 ro0 K U w):w0.heap.size<=w.heap.size:=h.below.size
def WRel.drew(h:WRel G w0 ro0 K U w):WRel G w0 ro0 K U w.drew :=
 ⟨h.below.drew,h.glob,h.ro,h.new,h.blk,h.inj,h.mlt,h.ch,h.chd,h.chinj,h.nch,h.bsz,h.fx,h.rwl⟩
def Kn.withFx(K:Kn)(f:Nat->Option Obj):Kn:={K with fx:=f}
def Kn.le0_fx(K:Kn)(f g):(K.withFx f).le0 (K.withFx g):=⟨fun _ _ _ e=>e,fun _ _ e=>e,qyQ _,fun t C _ e=>⟨C,e,.inl rfl⟩,fun _ _ _=>rfl⟩
def qg.refx{K a v}(f)(h:qg K a v):qg (K.withFx f) a v:=qg.mono0 (Kn.le0_fx K K.fx f) a h
def ERel.refx{K N env a}(f)(h:ERel K N env a):ERel (K.withFx f) N env a:=⟨h.size,fun t=>(h.val t).refx f⟩
def jV.refx{K b o}(f)(x:jV K b o):jV (K.withFx f) b o:=by
 cases b with
 | cells c=>
  obtain⟨cs,el,h1,h0,h2,h3⟩:=x;exact⟨cs,el,h1,h0,h2,fun i a e=>by obtain⟨v,h4,h5⟩:=h3 i a e;exact⟨v,h4,h5.refx f⟩⟩
 | map es clock=>
  obtain⟨es',h1,h2,h3⟩:=x;exact⟨es',h1,h2,fun i k v b e=>by obtain⟨e',h4,h5,h6,h7⟩:=h3 i k v b e;exact⟨e',h4,h5.refx f,h6.refx f,h7⟩⟩
 |siter s pos=>simpa[jV] using x
 |miter mb since seen st=>exact x
 |dead=>simp[jV]
 |raw n=>exact x
def WRel.unfix(h:WRel G w0 ro0 K U w){f}(hf:∀B o,f B=some o->K.fx B=some o):WRel G w0 ro0 (K.withFx f) U w :=
 ⟨h.below,h.glob,h.ro,h.new,fun i b e=>by obtain⟨B,h1,h2,h3,h4,h5⟩:=h.blk i b e;exact⟨B,h1,h2,h3,h4.refx f,h5⟩,h.inj,h.mlt,h.ch,h.chd,h.chinj,h.nch,h.bsz,fun B o e=>h.fx B o (hf B o e),h.rwl⟩
def WRel.refix(h:WRel G w0 ro0 K U w){B o}(hB:K.fx B=some o)(hc:∀c el fr,o≠.cells c el fr)(o'):
 WRel G w0 ro0 (K.withFx fun b=>if b=B then some o' else K.fx b) U {w with heap:=w.heap.setIfInBounds B o'}:=by
 obtain⟨b1,b2,b3,b4⟩:=h.fx B o hB;have oth:∀k,k≠B->(w.heap.setIfInBounds B o')[k]?=w.heap[k]?:=fun k hk=>by simp[qBc (Ne.symm hk)]
 have hro:∀b o v,K.ro b o=some v->b≠B:=by
  intro b o1 v e eb;subst eb;have:=h.ro _ _ _ e;unfold World.cell? at this;rw[b1]at this;cases o<;>first|exact hc _ _ _ rfl|simp at this
 refine⟨h.below.trans ⟨rfl,rfl,rfl,by simp,fun k hk=>oth k (by omega)⟩,h.glob,?_,h.new,?_,h.inj,h.mlt,?_,h.chd,h.chinj,h.nch,?_,?_,h.rwl⟩
 . intro b o1 v e;rw[World.cell?_of_block (w:=w) (oth b (hro b o1 v e))];exact h.ro b o1 v e
 . intro i b e;obtain⟨B',h1,h2,h3,h4,h5⟩:=h.blk i b e;refine⟨B',h1,h2,by simpa using h3,?_,h5⟩;rw[oth B' (fun e=>b3 i (e▸h1))];exact h4.refx _
 . intro t k e;obtain⟨C,c1,c2,c3,c4,⟨cs,el,c5,c6⟩,c7,c8⟩:=h.ch t k e;refine⟨C,c1,c2,c3,c4,⟨cs,el,?_,c6⟩,c7,c8⟩
   rwa[oth C.B (b4 t C c1)]
 . intro i B' cs el fr e1 e2;have e2':=e2;rw[oth B' (fun e=>b3 i (e▸e1))]at e2';exact h.bsz i B' cs el fr e1 e2'
 intro B' o1 e;by_cases hB':B'=B
 . subst hB';simp only[Kn.withFx,if_pos]at e;cases e;exact⟨by simp[(qzv.1 b1).1],b2,b3,b4⟩
 simp only[Kn.withFx,if_neg hB']at e;rw[oth B' hB'];exact h.fx B' o1 e
def WRel.allocFix(h:WRel G w0 ro0 K U w)(o):WRel G w0 ro0 (K.withFx fun b=>if b=w.heap.size then some o else K.fx b) U (w.alloc o):=by
 have hsz:=h.size_le;have oth:∀k,k<w.heap.size->(w.alloc o).heap[k]?=w.heap[k]?:=fun k hk=>Below.heap_alloc w o k hk
 have hlt:∀k x,w.heap[k]?=some x->k<w.heap.size:=fun k x e=>(qzv.1 e).1
 have hs:(w.alloc o).heap.size=w.heap.size+1:=by show(w.heap.push o).size=_;simp
 refine⟨h.below.alloc hsz o,h.glob,?_,h.new,?_,h.inj,h.mlt,?_,h.chd,h.chinj,h.nch,?_,?_,h.rwl⟩
 . intro b o' v e;rw[World.cell?_of_block (w:=w) (oth b (h.ro_lt e))];exact h.ro b o' v e
 . intro i b e;obtain⟨B',h1,h2,h3,h4,h5⟩:=h.blk i b e;refine⟨B',h1,h2,by omega,?_,h5⟩;rw[oth B' h3];exact h4.refx _
 . intro t k e;obtain⟨C,c1,c2,c3,c4,⟨cs,el,c5,c6⟩,c7,c8⟩:=h.ch t k e;exact⟨C,c1,c2,c3,c4,⟨cs,el,by rw[oth C.B (hlt _ _ c5)];exact c5,c6⟩,c7,c8⟩
 . intro i B' cs el fr e1 e2;rw[oth B' (h.m_lt e1).1]at e2;exact h.bsz i B' cs el fr e1 e2
 intro B' o1 e;by_cases hB':B'=w.heap.size
 . subst hB';simp only[Kn.withFx,if_pos]at e;cases e;refine⟨(by show(w.heap.push o)[w.heap.size]?=some o;simp),hsz,fun i e=>?_,fun t C e eB=>?_⟩
   . have:=(h.m_lt e).1;omega
   have:=(h.ch_lt e).1;omega
 simp only[Kn.withFx,if_neg hB']at e;obtain⟨x1,x2,x3,x4⟩:=h.fx B' o1 e;exact⟨by rw[oth B' (hlt _ _ x1)];exact x1,x2,x3,x4⟩
def WRel.fx_lt(h:WRel G w0 ro0 K U w){B o}(e:K.fx B=some o):B<w.heap.size:=(qzv.1 (h.fx B o e).1).1
def Kn.le_fx{K:Kn}{f:Nat->Option Obj}(hf:∀B o,K.fx B=some o->f B=some o):K.le (K.withFx f) :=
 ⟨fun _ _ _ e=>e,fun _ _ e=>e,qyQ _,fun t C _ e=>⟨C,e,.inl rfl⟩,fun _ _ _=>rfl,hf,fun _ _ e=>e⟩
def Kn.le_swap{K K':Kn}{f g:Nat->Option Obj}(h:(K.withFx f).le K')(hg:∀B o,K.fx B=some o->g B=some o):K.le (K'.withFx g) :=
 ⟨h.ro,h.m,h.nch,h.ch,h.bs,hg,h.rw⟩
def qCY:=@Kn.le_swap
def Kn.le_addM(h:WRel G w0 ro0 K U w)(B n):K.le (K.addM U.H.length B n) :=
 ⟨fun _ _ _ e=>e,fun i B' e=>by
  have:=h.mlt i B' e;have hne:¬i=U.H.length:=by omega
  simp[Kn.addM,hne,e],qyQ _,fun t C _ e=>⟨C,e,.inl rfl⟩,fun i B' e=>by
  have:=h.mlt i B' e;simp[Kn.addM,show ¬i=U.H.length by omega],fun _ _ e=>e,fun _ _ e=>e⟩
def qCZ:=@Kn.le_addM
def WRel.push(h:WRel G w0 ro0 K U w){b o}(hb:jV K b (some o)):
 WRel G w0 ro0 (K.addM U.H.length w.heap.size (jI o)) (U.push b) (w.alloc o):=by
 have hle:=qCZ h w.heap.size (jI o);have hsz:=h.size_le;refine⟨h.below.alloc hsz o,fun g=>(h.glob g).mono (Z7 hle),?_,h.new,?_,?_,?_,?_,h.chd,h.chinj,h.nch,?_,?_,?_⟩
 . intro b o' v e;have hlt:=h.ro_lt e;rw[World.cell?_of_block (w:=w) (Below.heap_alloc w o b hlt)];exact h.ro b o' v e
 . intro i b' e;simp only[St.push,qzu]at e;split at e
   . rename_i hi;obtain⟨B,h1,h2,h3,h4,h5⟩:=h.blk i b' e;refine⟨B,hle.m _ _ h1,h2,by simp;omega,?_,h5⟩;rw[Below.heap_alloc w o B h3];exact h4.mono hle
   rename_i hi;have hi':i=U.H.length:=by
    rcases qCa (i-U.H.length) 1 with h1|h1
    . omega
    simp[qy6 (l:=[b]) (by simpa using h1)]at e
   subst hi';simp at e;subst e;refine⟨w.heap.size,by simp[Kn.addM],hsz,by simp,?_,h.ro_new⟩;rw[heap_alloc_new];exact hb.mono hle
 . intro i j B e1 e2;simp only[Kn.addM]at e1 e2;split at e1<;>split at e2
   . left;omega
   . simp at e1;subst e1;have:=(h.m_lt e2).1;omega
   . simp at e2;subst e2;have:=(h.m_lt e1).1;omega
   have li:=h.mlt i B e1;have lj:=h.mlt j B e2;simp only[St.push,qyT li,qyT lj];exact h.inj i j B e1 e2
 . intro i B e;simp only[Kn.addM]at e;simp only[St.push,qyK,qzd];split at e
   . omega
   have:=h.mlt i B e;omega
 . intro t k e;obtain⟨C,h1,h2,h3,h4,⟨cs,el,h5,h6⟩,h7,h8⟩:=h.ch t k e;refine⟨C,h1,h2,h3,h4,⟨cs,el,?_,h6⟩,h7,?_⟩
   . rw[Below.heap_alloc w o C.B (h.ch_lt h1).1];exact h5
   intro i e2;simp only[Kn.addM]at e2;split at e2
   . simp at e2;have:=(h.ch_lt h1).1;omega
   exact h8 i e2
 . intro i B cs el fr e1 e2;simp only[Kn.addM]at e1⊢;split at e1
   . rename_i hi;simp at e1;subst e1;rw[heap_alloc_new]at e2;cases e2;simp[hi,jI]
   rename_i hi;rw[Below.heap_alloc w o B (h.m_lt e1).1]at e2;simp only[hi,if_false];exact h.bsz i B cs el fr e1 e2
 . intro B x e;obtain⟨h1,h2,h3,h4⟩:=h.fx B x e;have hlt:=(qzv.1 h1).1;refine⟨by rw[Below.heap_alloc w o B hlt];exact h1,h2,fun i e2=>?_,h4⟩;simp only[Kn.addM]at e2;split at e2
   . simp at e2;omega
   exact h3 i e2
 intro n x e;have:=h.rwl n x e;simp only[St.push,qyK,qzd];omega
def Kn.le_addRo(B lo vs)(hn:∀o,lo<=o->o<lo+vs.length->K.ro B o=none):K.le (K.addRo B lo vs) :=
 ⟨fun b o v e=>by
  simp only[Kn.addRo];split
  . rename_i hc;obtain⟨rfl,h1,h2⟩:=hc;rw[hn o h1 h2]at e;cases e
  exact e,fun _ _ e=>e,qyQ _,fun t C _ e=>⟨C,e,.inl rfl⟩,fun _ _ _=>rfl,fun _ _ e=>e,fun _ _ e=>e⟩
def WRel.newRo(h:WRel G w0 ro0 K U w)(vs:List Value)(cs)(el:TypeId)(hp:∀(j:Nat) (v:Value),vs[j]?=some v->cs[j]?=some v):
 WRel G w0 ro0 (K.addRo w.heap.size 0 vs) U (w.alloc (.cells cs el))/\K.le (K.addRo w.heap.size 0 vs):=by
 have hle:K.le (K.addRo w.heap.size 0 vs):=Kn.le_addRo _ _ _ (fun o _ _=>h.ro_new o);have hsz:=h.size_le;refine⟨⟨h.below.alloc hsz _,fun g=>(h.glob g).mono (Z7 hle),?_,?_,?_,h.inj,h.mlt,?_,h.chd,h.chinj,h.nch,fun i B cs el fr e1 e2=>by
  rw[Below.heap_alloc w _ B (h.m_lt e1).1]at e2;exact h.bsz i B cs el fr e1 e2,fun B x e=>by
  obtain⟨h1,h2,h3,h4⟩:=h.fx B x e;exact⟨by rw[Below.heap_alloc w _ B (qzv.1 h1).1];exact h1,h2,h3,h4⟩,h.rwl⟩,hle⟩
 . intro b o v e;simp only[Kn.addRo]at e;split at e
   . rename_i hc;obtain⟨rfl,h1,h2⟩:=hc;have:=hp _ _ e;simp only[World.cell?,heap_alloc_new];simpa using this
   have hlt:=h.ro_lt e;rw[World.cell?_of_block (w:=w) (Below.heap_alloc w _ b hlt)];exact h.ro b o v e
 . intro b o v e hb;simp only[Kn.addRo]at e;split at e
   . rename_i hc;obtain⟨rfl,_⟩:=hc;omega
   exact h.new b o v e hb
 . intro i b e;obtain⟨B,h1,h2,h3,h4,h5⟩:=h.blk i b e;refine⟨B,h1,h2,by simp;omega,by rw[Below.heap_alloc w _ B h3];exact h4.mono hle,fun o=>?_⟩;simp only[Kn.addRo];rw[if_neg (by omega)];exact h5 o
 intro t k e;obtain⟨C,h1,h2,h3,h4,⟨cs',el',h5,h6⟩,h7,h8⟩:=h.ch t k e;refine⟨C,h1,h2,h3,h4,⟨cs',el',?_,h6⟩,fun o ho=>?_,h8⟩
 . rw[Below.heap_alloc w _ C.B (h.ch_lt h1).1];exact h5
 simp only[Kn.addRo];have:=(h.ch_lt h1).1;rw[if_neg (by omega)];exact h7 o ho
def qm.addRo{B lo vs c}(h:qh K c vs)(hle:K.le (K.addRo B lo vs)):qm (K.addRo B lo vs) B lo c:=by
 refine qDe B c lo fun i a e=>?_
 obtain⟨v,h1,h2⟩:=h.get i a e;refine⟨v,?_,h2.mono hle⟩;have hlt:=(qyF.1 h1).1;show(if B=B/\lo<=lo+i/\lo+i<lo+vs.length then vs[lo+i-lo]? else K.ro B (lo+i))=some v
 rwa[if_pos ⟨rfl,by omega,by omega⟩,show lo+i-lo=i by omega]
end
def vB:∀(new c) (off),(zj c off new).length=c.length
 |[],c,off=>by simp[zj]
 |v::r,c,off=>by simp[zj,vB r]
def wu:∀(new c) (off i),off+new.length<=c.length->(zj c off new)[i]?=if off<=i/\i<off+new.length then new[i-off]? else c[i]?
 |[],c,off,i,_=>by simp[zj];intro h1 h2;omega
 | v::r,c,off,i,h=>by
  simp only[qyY]at h;simp only[zj];rw[wu r _ _ _ (by simp;omega)];by_cases h1:i=off
  . subst h1;have:i<c.length:=by omega
    rw[if_neg (by omega),if_pos ⟨qyQ _,by simp⟩];simp[this]
  by_cases h2:off+1<=i/\i<off+1+r.length
  . rw[if_pos h2,if_pos ⟨by omega,by simp;omega⟩];have:i-off=(i-(off+1))+1:=by omega
    rw[this];simp
  rw[if_neg h2,if_neg (by simp;omega)];rw[qyI (by omega)]
def putAt_all:∀(new c) (off),c.all AV.atom=true->new.all AV.atom=true->(zj c off new).all AV.atom=true
 |[],c,off,h,_=>by simpa[zj] using h
 | v::r,c,off,h,k=>by
  simp only[qAh,qyJ]at k;refine putAt_all r _ _ ?_ k.2;rw[qyP]at h⊢;intro x hx;rcases qAL hx with h1|h1
  . exact h x h1
  rw[h1];exact k.1
section
variable {P:Program}{G:Nat->AV}{w0:World}{ro0:Nat->Nat->Option Value}{K:Kn}{U:St}{w w':World}
def WRel.setBlk(h:WRel G w0 ro0 K U w){i B b'}(hi:i<U.H.length)(hm:K.m i=some B)(hos:w'.os=w.os)(htape:w'.tape=w.tape)(hout:w'.output=w.output)
 (hsz:w'.heap.size=w.heap.size) (hother:∀k,k≠B->w'.heap[k]?=w.heap[k]?) (hb:jV K b' w'.heap[B]?)
 (hal:U.H[i]?≠some .dead) (hbs:∀cs el fr,w'.heap[B]?=some (.cells cs el fr)->cs.size=K.bs i)
 (hwas:∀cs el fr,w'.heap[B]?=some (.cells cs el fr)->∃cs0 el0 fr0,w.heap[B]?=some (.cells cs0 el0 fr0)):WRel G w0 ro0 K {U with H:=U.H.set i b'} w':=by
 have hB:=h.m_lt hm;have keep:∀j,U.H[j]?=some Blk.dead->(U.H.set i b')[j]?=some Blk.dead:=fun j hj=>by
  have hne:i≠j:=by rintro rfl;exact hal hj
  rwa[qyI hne]
 refine⟨h.below.trans ⟨hos,htape,hout,by omega,fun k hk=>hother k (by omega)⟩,h.glob,?_,h.new,?_,fun i' j B' e1 e2=>(h.inj i' j B' e1 e2).imp_right (Or.imp (keep _) (keep _)),fun i' B' e=>by simpa using h.mlt i' B' e,?_,h.chd,h.chinj,h.nch,?_,?_,fun n o e=>by simpa using h.rwl n o e⟩
 . intro b o v e;have hne:b≠B:=by
    rintro rfl;obtain⟨B',h1,_,_,_,h5⟩:=h.blk i U.H[i] (by simp[hi]);rw[hm]at h1;cases h1;rw[h5 o]at e;cases e
   rw[World.cell?_of_block (w:=w) (hother b hne)];exact h.ro b o v e
 . intro j b e;by_cases hj:j=i
   . subst hj;simp[hi]at e;subst e;obtain⟨B',h1,h2,h3,_,h5⟩:=h.blk j U.H[j] (by simp[hi]);rw[hm]at h1;cases h1;exact⟨B,hm,h2,by omega,hb,h5⟩
   simp[qyI (Ne.symm hj)]at e;obtain⟨B',h1,h2,h3,h4,h5⟩:=h.blk j b e;refine⟨B',h1,h2,by omega,?_,h5⟩;by_cases hBB:B'=B
   . subst hBB;rcases h.inj _ _ _ h1 hm with h6|h6|h6
     . exact absurd h6 hj
     . rw[e]at h6;cases h6;simp[jV]
     exact absurd h6 hal
   rwa[hother B' hBB]
 . intro t k e;obtain⟨C,h1,h2,h3,h4,⟨cs,el,h5,h6⟩,h7,h8⟩:=h.ch t k e;exact⟨C,h1,h2,h3,h4,⟨cs,el,by rw[hother C.B (fun e=>h8 i (by rw[hm,e]))];exact h5,h6⟩,h7,h8⟩
 . intro j B' cs el fr e1 e2;by_cases hBB:B'=B
   . subst hBB;obtain⟨B0,g1,g2,g3,g4,g5⟩:=h.blk i U.H[i] (by simp[hi]);rw[hm]at g1;cases g1;by_cases hij:j=i
     . subst hij;exact hbs cs el fr e2
     have hb1:=hbs cs el fr e2;obtain⟨cs0,el0,fr0,hw⟩:=hwas cs el fr e2;rw[hb1,<- h.bsz i B' cs0 el0 fr0 hm hw,h.bsz j B' cs0 el0 fr0 e1 hw]
   rw[hother B' hBB]at e2;exact h.bsz j B' cs el fr e1 e2
 intro B' x e;obtain⟨g1,g2,g3,g4⟩:=h.fx B' x e;have hBB:B'≠B:=fun e2=>g3 i (by rwa[e2])
 exact⟨by rw[hother B' hBB];exact g1,g2,g3,g4⟩
def Kn.le_chain{t n C' B lo vs}(hn:∀o,lo<=o->o<lo+vs.length->K.ro B o=none)
 (hnch:K.nch<=n) (hk:t<K.nch->∃C,K.ch t=some C/\C.k<C'.k):K.le ((K.addRo B lo vs).setCh t C' n):=by
 have h1:=Kn.le_addRo B lo vs hn;refine⟨h1.ro,h1.m,hnch,fun u C1 hu e=>?_,fun _ _ _=>rfl,fun _ _ e=>e,fun _ _ e=>e⟩;simp only[Kn.setCh]at e;split at e
 . rename_i hut;subst hut;cases e;obtain⟨C,e1,e2⟩:=hk hu;exact⟨C,e1,.inr e2⟩
 exact⟨C1,e,.inl rfl⟩
def WRel.chainNew(h:WRel G w0 ro0 K U w)(vs:List Value)(cs)(el:TypeId)(hp:∀(j:Nat) (v:Value),vs[j]?=some v->cs[j]?=some v)
 (t k n:Nat) (T') (hT:∀u k',T'[u]?=some (some k')->(u=t/\k'=k)\/(u≠t/\U.T[u]?=some (some k'))) (hTt:T'[t]?=some (some k))
 (hTk:∀u C,u≠t->K.ch u=some C->∃k',T'[u]?=some (some k')) (hn:n=T'.length) (hnch:K.nch<=n) (hk:t<K.nch->∃C,K.ch t=some C/\C.k<k) (sz) (hcs:vs.length<=cs.size):
 WRel G w0 ro0 ((K.addRo w.heap.size 0 vs).setCh t ⟨k,w.heap.size,vs.length,cs.size,sz⟩ n) {U with T:=T'} (w.alloc (.cells cs el)) /\
  K.le ((K.addRo w.heap.size 0 vs).setCh t ⟨k,w.heap.size,vs.length,cs.size,sz⟩ n):=by
 have hle:K.le ((K.addRo w.heap.size 0 vs).setCh t ⟨k,w.heap.size,vs.length,cs.size,sz⟩ n):=Kn.le_chain (fun o _ _=>h.ro_new o) hnch hk;obtain⟨h1,_⟩:=h.newRo vs cs el hp;refine⟨⟨h1.below,fun g=>(h.glob g).mono (Z7 hle),h1.ro,h1.new,?_,h1.inj,h1.mlt,?_,?_,?_,?_,h1.bsz,?_,h1.rwl⟩,hle⟩
 . intro i b e;obtain⟨B,a1,a2,a3,a4,a5⟩:=h.blk i b e;refine⟨B,a1,a2,by simp;omega,by rw[Below.heap_alloc w _ B a3];exact a4.mono hle,fun o=>?_⟩;simp only[Kn.setCh,Kn.addRo];rw[if_neg (by omega)];exact a5 o
 . intro u k' e;rcases hT u k' e with⟨rfl,rfl⟩|⟨hne,e'⟩
   . refine⟨⟨k',w.heap.size,vs.length,cs.size,sz⟩,by simp[Kn.setCh],rfl,h.size_le,hcs,⟨cs,el,heap_alloc_new w _,rfl⟩,fun o ho=>?_,fun i e2=>?_⟩
     . simp only[Kn.setCh,Kn.addRo];rw[if_neg (by simp only at ho;omega)];exact h.ro_new o
     . have:=(h.m_lt (show K.m i=some _ from e2)).1;simp only at this;omega
   obtain⟨C,a1,a2,a3,a4,⟨cs',el',a5,a6⟩,a7,a8⟩:=h.ch u k' e';refine⟨C,by simp[Kn.setCh,hne,Kn.addRo,a1],a2,a3,a4,⟨cs',el',?_,a6⟩,fun o ho=>?_,a8⟩
   . rw[Below.heap_alloc w _ C.B (h.ch_lt a1).1];exact a5
   simp only[Kn.setCh,Kn.addRo];have:=(h.ch_lt a1).1;rw[if_neg (by omega)];exact a7 o ho
 . intro u C e;simp only[Kn.setCh]at e;split at e
   . rename_i hu;subst hu;exact⟨k,hTt⟩
   rename_i hu;exact hTk u C hu e
 . intro u u' C C' e e' hB;simp only[Kn.setCh]at e e';split at e<;>split at e'
   . omega
   . cases e;have:=(h.ch_lt (show K.ch u'=some C' from e')).1;simp only at hB;omega
   . cases e';have:=(h.ch_lt (show K.ch u=some C from e)).1;simp only at hB;omega
   exact h.chinj u u' C C' e e' hB
 . simp[Kn.setCh,hn]
 intro B x e;obtain⟨g1,g2,g3,g4⟩:=h.fx B x e;have hlt:=(qzv.1 g1).1;refine⟨by rw[Below.heap_alloc w _ B hlt];exact g1,g2,g3,fun u C e2=>?_⟩;simp only[Kn.setCh]at e2;split at e2
 . cases e2;simp only;omega
 exact g4 u C e2
def WRel.chainIn(h:WRel G w0 ro0 K U w){t k C}(hC:K.ch t=some C)(hk:U.T[t]?=some (some k))(vs cs' el k')(hkk:k<k')
 (hos:w'.os=w.os) (htape:w'.tape=w.tape) (hout:w'.output=w.output) (hsz:w'.heap.size=w.heap.size) (hother:∀j,j≠C.B->w'.heap[j]?=w.heap[j]?)
 (hnew:w'.heap[C.B]?=some (.cells cs' el (0,0))) (hcs:cs'.size=C.cap) (hfit:C.fin+vs.length<=C.cap)
 (hvs:∀(j) (v),vs[j]?=some v->cs'[C.fin+j]?=some v) (hold:∀(cs) (el),w.heap[C.B]?=some (.cells cs el (0,0))->∀j,j<C.fin->cs'[j]?=cs[j]?):
 WRel G w0 ro0 ((K.addRo C.B C.fin vs).setCh t ⟨k',C.B,C.fin+vs.length,C.cap,C.sz⟩ K.nch) {U with T:=U.T.set t (some k')} w' /\
  K.le ((K.addRo C.B C.fin vs).setCh t ⟨k',C.B,C.fin+vs.length,C.cap,C.sz⟩ K.nch):=by
 obtain⟨C1,c1,c2,c3,c4,⟨cs,el0,c5,c6⟩,c7,c8⟩:=h.ch t k hk;rw[hC]at c1;cases c1;have hle:K.le ((K.addRo C.B C.fin vs).setCh t ⟨k',C.B,C.fin+vs.length,C.cap,C.sz⟩ K.nch):=Kn.le_chain (fun o ho _=>c7 o ho) (qyQ _) (fun _=>⟨C,hC,by simp only;omega⟩);have htT:=(qyF.1 hk).1;refine⟨⟨h.below.trans ⟨hos,htape,hout,by omega,fun j hj=>hother j (by omega)⟩,fun g=>(h.glob g).mono (Z7 hle),?_,?_,?_,h.inj,h.mlt,?_,?_,?_,?_,?_,?_,h.rwl⟩,hle⟩
 . intro b o v e;simp only[Kn.setCh,Kn.addRo]at e;split at e
   . rename_i hc;obtain⟨rfl,e1,e2⟩:=hc;have:=hvs _ _ e;simp only[World.cell?,hnew];rw[show C.fin+(o-C.fin)=o by omega]at this;simpa using this
   have hro:=h.ro b o v e;by_cases hb:b=C.B
   . subst hb;have ho:o<C.fin:=by
      rcases qCa o C.fin with h1|h1
      . exact h1
      rw[c7 o h1]at e;cases e
     simp only[World.cell?,hnew];simp only[World.cell?,c5]at hro;simp at hro⊢
     rwa[hold cs el0 c5 o ho]
   rwa[World.cell?_of_block (w:=w) (hother b hb)]
 . intro b o v e hb;simp only[Kn.setCh,Kn.addRo]at e;split at e
   . rename_i hc;obtain⟨rfl,_⟩:=hc;omega
   exact h.new b o v e hb
 . intro i b e;obtain⟨B,a1,a2,a3,a4,a5⟩:=h.blk i b e;have hne:B≠C.B:=fun e=>c8 i (by rw[a1,e])
   refine⟨B,a1,a2,by omega,by rw[hother B hne];exact a4.mono hle,fun o=>?_⟩;simp only[Kn.setCh,Kn.addRo];rw[if_neg (by simp[hne])];exact a5 o
 . intro u k1 e;by_cases hu:u=t
   . subst hu;simp[htT]at e;subst e;refine⟨⟨k',C.B,C.fin+vs.length,C.cap,C.sz⟩,by simp[Kn.setCh],rfl,c3,hfit,⟨cs',el,hnew,hcs⟩,fun o ho=>?_,c8⟩;simp only[Kn.setCh,Kn.addRo];simp only at ho;rw[if_neg (by omega)];exact c7 o (by omega)
   rw[qyI (Ne.symm hu)]at e;obtain⟨C2,a1,a2,a3,a4,⟨cs2,el2,a5,a6⟩,a7,a8⟩:=h.ch u k1 e;have hne:C2.B≠C.B:=fun e=>hu (h.chinj u t C2 C a1 hC e)
   refine⟨C2,by simp[Kn.setCh,hu,Kn.addRo,a1],a2,a3,a4,⟨cs2,el2,by rw[hother _ hne];exact a5,a6⟩,fun o ho=>?_,a8⟩;simp only[Kn.setCh,Kn.addRo];rw[if_neg (by simp[hne])];exact a7 o ho
 . intro u C1 e;simp only[Kn.setCh]at e;split at e
   . rename_i hu;subst hu;exact⟨k',by simp[htT]⟩
   rename_i hu;obtain⟨k1,e1⟩:=h.chd u C1 e;exact⟨k1,by rw[qyI (Ne.symm hu)];exact e1⟩
 . intro u u' C1 C2 e e' hB;simp only[Kn.setCh]at e e';split at e<;>split at e'
   . omega
   . rename_i hu hu';cases e;exact absurd (h.chinj t u' C C2 hC e' hB).symm hu'
   . rename_i hu hu';cases e';exact absurd (h.chinj u t C1 C e hC hB) hu
   exact h.chinj u u' C1 C2 e e' hB
 . simp[Kn.setCh,h.nch]
 . intro i B cs el fr e1 e2;have hne:B≠C.B:=fun e=>c8 i (by rw[show K.m i=some B from e1,e])
   rw[hother B hne]at e2;exact h.bsz i B cs el fr e1 e2
 intro B x e;obtain⟨g1,g2,g3,g4⟩:=h.fx B x e;have hBB:B≠C.B:=fun e2=>g4 t C hC e2.symm
 refine⟨by rw[hother B hBB];exact g1,g2,g3,fun u C2 e2=>?_⟩;simp only[Kn.setCh]at e2;split at e2
 . cases e2;exact fun e3=>hBB e3.symm
 exact g4 u C2 e2
end
def qv{P t i}(h:Dof P t=some i):
 ∃inf d z,P.info? t=some inf/\P.underlying t=some d/\inf.zero=some z/\i=⟨inf.size,inf.bytes,z.cells.toList.map ofAtom,ofV z,vV P d,!P.stoodInHeld t⟩:=by
 unfold Dof at h;split at h
 . rename_i inf d h1 h2;split at h
   . rename_i z h3;simp at h;exact⟨inf,d,z,h1,h2,h3,h.symm⟩
   cases h
 cases h
def Qh{P}{d:TypeDesc}{e}(h:vV P d=.sl e):d=.slice e:=by
 cases d<;>simp[vV]at h
 . simp[h]
 split at h<;>cases h
def qau{P}{d:TypeDesc}{n e}(h:vV P d=.arr n e):d=.array n e:=by
 cases d<;>simp[vV]at h
 . simp[h]
 split at h<;>cases h
def vu{P}{d:TypeDesc}(h:vV P d=.str):d=.string:=by
 cases d<;>simp[vV]at h
 . rfl
 split at h<;>cases h
def WV{P}{d:TypeDesc}(h:vV P d=.bool):d=.bool:=by
 cases d<;>simp[vV]at h
 . rfl
 split at h<;>cases h
def Jc{P}{d:TypeDesc}{k}(h:vV P d=.int k):d=.int k:=by
 cases d<;>simp[vV]at h
 . simp[h]
 split at h<;>cases h
def qat{P}{d:TypeDesc}{k e}(h:vV P d=.map k e):d=.map k e:=by
 cases d<;>simp[vV]at h
 . simp[h]
 split at h<;>cases h
def qkI{P}{d:TypeDesc}{fs}(h:vV P d=.st fs):
 ∃ fields:Array Field,d = .struct fields∧fs=fields.toList.map (fun f=>(f.offset,f.type))∧(∀ f ∈ fields.toList,P.cellsOf f.type≠0) ∧ ∀ f ∈ fields.toList,f.name ≠ "_" := by
 cases d with
 | struct fields=>
  simp only[vV]at h;split at h
  . rename_i h1;simp only[TD.st.injEq]at h;rw[qyP]at h1;exact⟨fields,rfl,h.symm,fun f hf=>by have:=h1 f hf;simp at this;exact this.1,fun f hf=>by have:=h1 f hf;simp at this;exact this.2⟩
  cases h
 |_=>simp[vV]at h
section
variable {P:Program}{G:Nat->AV}{w0:World}{ro0:Nat->Nat->Option Value}{K:Kn}{U:St}{w w':World}
def Ran(P:Program)(G:Nat->AV)(w0:World)(ro0:Nat->Nat->Option Value)(K:Kn)(w:World)(s:Sem Value)(v:AV)(U':St):Prop :=
 ∃v' w' K',s.run P w=.ok v' w'/\K.le K'/\WRel G w0 ro0 K' U' w'/\qg K' v v'
def Ran.same(h:WRel G w0 ro0 K U w){s:Sem Value}{v v'}(hr:s.run P w=.ok v' w)(hv:qg K v v'):Ran P G w0 ro0 K w s v U :=
 ⟨v',w,K,hr,qC3 K,h,hv⟩
def qC6:=@Ran.same
def qaQ{t:Nat}{d:TypeDesc}(hu:P.underlying t=some d)(hd:vV P d≠.other):(isAgg t).run P w=.ok ((vV P d).agg==some true) w:=by
 simp only[isAgg,Sem.run_bind,run_underlying hu,Result.andThen_ok]
 cases d with
 | struct fields=>
  simp only[vV]at hd⊢;split at hd
  . rename_i h1;rw[if_pos h1];rfl
  exact absurd rfl hd
 |_=>first|rfl|exact absurd rfl hd
def VI{c c' off n}(h:cut c off n=some c'):off+n<=c.length/\c'=(c.drop off).take n/\c'.length=n:=by
 unfold cut at h;split at h
 . rename_i hl;simp at h;subst h;refine⟨hl,rfl,?_⟩;simp;omega
 cases h
def qgy.of_blk(h:WRel G w0 ro0 K U w){b B c}(hb:U.H[b]?=some (.cells c))(hm:K.m b=some B)(off n)(hl:off+n<=c.length):
 qgy K w B off ((c.drop off).take n):=by
 obtain⟨B',h1,h2,h3,h4,h5⟩:=h.blk b _ hb;rw[hm]at h1;cases h1;obtain⟨cs,el,h6,h0,h7,h8⟩:=h4;refine⟨(cs.toList.drop off).take n,qh.intro (by simp;omega) fun i a e=>?_,fun j v e=>?_⟩
 . rw[qzD,qzG]at e;split at e
   . rename_i hi;obtain⟨v,e1,e2⟩:=h8 (off+i) a e;refine⟨v,?_,e2⟩;rw[qzD,if_pos hi,qzG];simpa using e1
   cases e
 rw[qzD,qzG]at e;split at e
 . simp only[World.cell?,h6];simpa using e
 cases e
def Yi{t B off:Nat}{inf:TypeInfo}{d:TypeDesc}(hi:P.info? t=some inf)(hu:P.underlying t=some d){c:List AV}(hc:qgy K w B off c)(hl:c.length=inf.size)
 {v:AV} (hv:QJ (vV P d).agg c=some v):∃v',(loadVar t ⟨B,off,none⟩).run P w=.ok v' w/\qg K v v':=by
 obtain⟨vs,h1,h2⟩:=hc;have ha:=qaQ (w:=w) hu (by intro e;rw[e]at hv;simp[TD.agg,QJ]at hv)
 cases hg:(vV P d).agg with
 |none=>rw[hg]at hv;simp[QJ]at hv
 | some g=>
  rw[hg]at hv ha
  cases g with
  | true=>
   simp[QJ]at hv;subst hv;have hcl:=run_loadCells_list (P:=P) w ⟨B,off,none⟩ vs (fun j v e=>by rw[jg];exact h2 j v e);rw[h1.length,hl]at hcl;refine⟨.agg vs.toArray,?_,by simp only[qg];exact⟨_,rfl,by simpa using h1⟩⟩;simp only[loadVar,Sem.run_bind,ha,Result.andThen_ok];simp[sizeOf,typeInfo,hi,hcl]
  | false=>
   simp only[QJ]at hv
   cases c with
   |nil=>simp at hv
   | cons a r=>
    simp at hv;subst hv;simp only[qh]at h1;obtain⟨v',vr,rfl,h3,_⟩:=h1;have h4:=h2 0 v' (by simp);refine⟨v',?_,h3⟩;simp only[loadVar,Sem.run_bind,ha,Result.andThen_ok];simp at h4;simp[run_load,h4]
def qbh(h:WRel G w0 ro0 K U w){t a v a'}(ha:qg K a a')(hl:yQ (Dof P) U t a=some v):
 ∃v',(Instr.loadAt t a').run P w=.ok v' w/\qg K v v':=by
 unfold yQ at hl;split at hl
 . rename_i i b off hD;obtain⟨inf,d,z,hi,hu,hz,rfl⟩:=qv hD;split at hl
   . rename_i c hb;obtain⟨c',hc',hv⟩:=qz6.1 hl;obtain⟨h1,rfl,h3⟩:=VI hc';simp only[qg]at ha;obtain⟨B,hm,rfl⟩:=ha;obtain⟨v',hr,hv'⟩:=Yi hi hu (qgy.of_blk h hb hm off _ h1) h3 hv;exact⟨v',by simpa[Instr.loadAt,Instr.sureAddr] using hr,hv'⟩
   cases hl
 . rename_i i c hD;obtain⟨inf,d,z,hi,hu,hz,rfl⟩:=qv hD;obtain⟨c',hc',hv⟩:=qz6.1 hl;obtain⟨h1,rfl,h3⟩:=VI hc';simp only[qg]at ha;obtain⟨B,off,rfl,hc⟩:=ha;obtain⟨v',hr,hv'⟩:=Yi hi hu (qDd h.ro B _ off (qm.take B _ off _ (by simpa using hc))) (by simpa using h3) hv;exact⟨v',by simpa[Instr.loadAt,Instr.sureAddr] using hr,hv'⟩
 cases hl
def qf1(h:WRel G w0 ro0 K U w){t a v a'}(ha:qg K a a')(hl:yQ (Dof P) U t a=some v):
 Ran P G w0 ro0 K w (Instr.loadAt t a') v U:=by
 obtain⟨v',h1,h2⟩:=qbh h ha hl;exact qC6 h h1 h2
def qaP{t:Nat}{inf:TypeInfo}(hi:P.info? t=some inf)(ad:Addr)(v:Value)(hv:v.cells.size=inf.size)(w:World):
 (storeVar t ad v).run P w=(storeCells ad v.cells.toList).run P w:=by
 simp[storeVar,sizeOf,typeInfo,hi,hv]
def Qu(h:WRel G w0 ro0 K U w){t a x a' x'}(ha:qg K a a')(hx:qg K x x'){U'}(hs:KZ (Dof P) U t a x=some U'):
 ∃w',(Instr.storeAt t a' x').run P w=.ok () w'/\WRel G w0 ro0 K U' w':=by
 unfold KZ at hs;split at hs
 . rename_i i b off new hD hc;obtain⟨inf,d,z,hi,hu,hz,rfl⟩:=qv hD;split at hs
   . rename_i c hb;split at hs
     . rename_i hl;simp at hs;subst hs;obtain⟨hl1,hl2⟩:=hl;simp only at hl1 hl2;simp only[qg]at ha;obtain⟨B,hm,rfl⟩:=ha;obtain⟨hc1,hc2⟩:=Z5 hx hc;obtain⟨B',h1,h2,h3,h4,h5⟩:=h.blk b _ hb;rw[hm]at h1;cases h1;obtain⟨cs,el,h6,h0,h7,h8⟩:=h4;have hlen:=hc1.length;have hst:=run_storeCells_at P B off el x'.cells.toList 0 cs w h6 (by simp only[qz8];omega) (hc1.oneCells hc2);simp only[qz8]at hst;have hlen':x'.cells.size=new.length:=(by simpa using hlen);refine⟨w.setRow B (cs.toList.take off++x'.cells.toList++cs.toList.drop (off+x'.cells.toList.length)).toArray,?_,h.setBlk (B:=B) (b':=.cells (zj c off new)) (w':=w.setRow B (cs.toList.take off++x'.cells.toList++cs.toList.drop (off+x'.cells.toList.length)).toArray) ((qyF.1 hb).1) hm rfl rfl rfl (by simp[World.setRow]) (fun k hk=>setRow_other w B k _ hk) ?_ (by rw[hb];simp)
        (fun cs2 el2 fr2 e2=>by
          rw[setRow_heap w B cs _ el _ h6]at e2;cases e2;rw[<- h.bsz b B cs el _ hm h6];simp;omega) (fun _ _ _ _=>⟨cs,el,_,h6⟩)⟩
       . have hsz:x'.cells.size=inf.size:=(by have:=hc1.length;simp at this;omega);have hr:=qaP (P:=P) hi ⟨B,off,none⟩ x' hsz w;rw[hst]at hr;simpa only[Instr.storeAt,Instr.sureAddr,Sem.run_bind,pure,Sem.run,Result.andThen_ok] using hr
       refine⟨(cs.toList.take off++x'.cells.toList++cs.toList.drop (off+x'.cells.toList.length)).toArray,el,setRow_heap w B cs _ el _ h6,putAt_all _ _ _ h0 hc2,by simp[vB];omega,fun i a e=>?_⟩;rw[wu _ _ _ _ (by omega)]at e;simp only[qA2];split at e
       . rename_i hin;obtain⟨v,e1,e2⟩:=hc1.get _ _ e;refine⟨v,?_,e2⟩;rw[qze,qyO (by simp;omega),qyT (by simp;simp at hlen;omega)];simp only[qzo,qzS]
         rwa[show min off cs.size=off by omega]
       rename_i hin;obtain⟨v,e1,e2⟩:=h8 i a e;refine⟨v,?_,e2⟩;by_cases hlo:i<off
       . rw[qze,qyT (by simp;omega),qzD,if_pos hlo];simpa using e1
       have:off+new.length<=i:=by omega
       rw[qyO (by simp at hlen⊢;omega),qzG];simp only[qyK,qzo,qzS];simp at hlen;rw[show off+x'.cells.size+(i-(min off cs.size+x'.cells.size))=i by omega];simpa using e1
     cases hs
   cases hs
 cases hs
end
def qpf:List Value->Nat->List Value->List Value
 |c,_,[]=>c
 |c,off,v::r=>qpf (c.set off v) (off+1) r
def qdY{K}:∀(new) (news) (c) (cs) (off),qh K new news->qh K c cs->qh K (zj c off new) (qpf cs off news)
 |[],_,c,cs,off,h,k=>by simp only[qh]at h;subst h;simpa[zj,qpf] using k
 | a::r,_,c,cs,off,h,k=>by
  simp only[qh]at h;obtain⟨v,vr,rfl,h1,h2⟩:=h;simp only[zj,qpf];refine qdY r vr _ _ _ h2 (qh.intro (by simp[k.length]) fun i b e=>?_);have hl:=k.length;by_cases hi:i=off
  . subst hi;have hlt:i<c.length:=(by have:=(qyF.1 e).1;simpa using this);simp[hlt]at e;subst e;exact⟨v,by simp[hl,hlt],h1⟩
  rw[qyI (Ne.symm hi)]at e;obtain⟨u,e1,e2⟩:=k.get i b e;exact⟨u,by rw[qyI (Ne.symm hi)];exact e1,e2⟩
def qbA(off):∀(l) (k) (cells:Array Value),((l.zipIdx k).foldl (fun cs x=>cs.setIfInBounds (off+x.2) x.1) cells).toList=qpf cells.toList (off+k) l
 |[],k,cells=>by simp[qpf]
 | v::r,k,cells=>by
  simp only[List.zipIdx_cons,qzm,qpf];rw[qbA off r (k+1)];simp[qAR]
def JS{K place placeC}(hp:∀i p,place i=some p->placeC i=some p):
 ∀ (zX:List (Nat×AV)) (partsC:List (Nat×Value)) (c c':List AV) (cells:Array Value),qh K c cells.toList->partsC.map (·.1)=zX.map (·.1)->qh K (zX.map (·.2)) (partsC.map (·.2)) ->
  zS place c zX=some c'->∃cells',Instr.fill placeC cells partsC=some cells'/\qh K c' cells'.toList/\(c.all AV.atom=true->c'.all AV.atom=true)
 | [],partsC,c,c',cells,h,h1,h2,hf=>by
  have:partsC=[]:=by simpa using h1
  subst this;simp[zS]at hf;subst hf;exact⟨cells,rfl,h,id⟩
 |(i,x)::r,[],c,c',cells,h,h1,h2,hf=>by simp at h1
 | (i,x)::r,(j,y)::rc,c,c',cells,h,h1,h2,hf=>by
  simp only[qyR,qA3]at h1;obtain⟨rfl,h1⟩:=h1;simp only[qyR,qh]at h2;obtain⟨v,vr,he,h3,h4⟩:=h2;simp only[qA3]at he;obtain⟨rfl,rfl⟩:=he;simp only[zS]at hf;split at hf
  . rename_i off n new hpl hc;split at hf
    . rename_i hl;obtain⟨hl1,hl2⟩:=hl;obtain⟨hc1,hc2⟩:=Z5 h3 hc;have e1:=hc1.length;have e2:=h.length;simp only[qzS]at e1 e2;have hfold:=qbA off y.cells.toList 0 cells;have hput:=qdY new y.cells.toList c cells.toList off hc1 h;obtain⟨cells',g1,g2,g3⟩:=JS hp r rc _ c' (y.cells.zipIdx.foldl (fun cs (c,j)=>cs.setIfInBounds (off+j) c) cells) (by
       rw[<- Array.foldl_toList,Array.toList_zipIdx];rw[hfold];simpa using hput) h1 h4 hf
      refine⟨cells',?_,g2,fun hh=>g3 (putAt_all _ _ _ hh hc2)⟩;simp only[Instr.fill,hp _ _ hpl];rw[if_neg (by simp only[ne_eq,qA1,decide_eq_true_eq];omega)];exact g1
    cases hf
  cases hf
section
variable {P:Program}{G:Nat->AV}{w0:World}{ro0:Nat->Nat->Option Value}{K:Kn}{U:St}{w w':World}
def qdn(h:WRel G w0 ro0 K U w){e i}(hD:Dof P e=some i)(hz:i.zero.all AV.atom=true):
 Ran P G w0 ro0 K w (Instr.alloc e true (.tuple #[])) (.ptr U.H.length 0) (U.push (.cells i.zero)):=by
 obtain⟨inf,d,z,hi,hu,hzero,rfl⟩:=qv hD;refine⟨.pointer (some ⟨w.heap.size,0,none⟩),w.alloc (.cells z.cells e),K.addM U.H.length w.heap.size (jI _),?_,qCZ h _ _,h.push ?_,?_⟩
 . simp[Instr.alloc,zeroValue,typeInfo,hi,hzero,newVar,newRow]
 . refine⟨z.cells,e,rfl,hz,by simp,fun j a e1=>?_⟩;have:=(qDc K z.cells.toList).get j a e1;simpa using this
 exact⟨w.heap.size,by simp[Kn.addM],rfl⟩
def qjC(h:WRel G w0 ro0 K U w){e:Nat}{x:AV}{x':Value}(hx:qg K x x'){c:List AV}(hc:qW x=some c):
 Ran P G w0 ro0 K w (Instr.box e x') (.ptr U.H.length 0) (U.push (.cells c)):=by
 obtain⟨h1,h2⟩:=Z5 hx hc;refine⟨.pointer (some ⟨w.heap.size,0,none⟩),w.alloc (.cells x'.cells e),K.addM U.H.length w.heap.size (jI _),?_,qCZ h _ _,h.push ?_,?_⟩
 . simp[Instr.box,newVar,newRow]
 . refine⟨x'.cells,e,rfl,h2,by have:=h1.length;simp at this;omega,fun j a e1=>?_⟩;have:=h1.get j a e1;simpa using this
 exact⟨w.heap.size,by simp[Kn.addM],rfl⟩
def qhO(fs:List Field)(h:∀f∈fs,P.cellsOf f.type≠0):
 fs.mapM (fun f=>(P.info? f.type).map fun i=>(f.offset,i.size))=some (fs.map fun f=>(f.offset,P.cellsOf f.type)):=by
 induction fs with
 |nil=>rfl
 | cons f r ih=>
  have h1:=h f (by simp);simp only[Program.cellsOf]at h1
  cases hi:P.info? f.type with
  |none=>simp[hi]at h1
  | some i=>
   simp[qCr,hi,ih (fun g hg=>h g (by simp[hg])),Program.cellsOf]
def qdi(h:WRel G w0 ro0 K U w){t zX partsC}(hp1:partsC.toList.map (·.1)=zX.map (·.1))(hp2:qh K (zX.map (·.2)) (partsC.toList.map (·.2)))
 {v} (hb:zp (Dof P) t zX=some v):Ran P G w0 ro0 K w (Instr.build t partsC) v U:=by
 unfold zp at hb;split at hb
 . rename_i i hD;obtain⟨inf,d,z,hi,hu,hzero,rfl⟩:=qv hD;simp only at hb;split at hb
   . rename_i fs hd;obtain⟨fields,rfl,rfl,hnz,_⟩:=qkI hd;obtain⟨c',hc',rfl⟩:=qyM.1 hb;have hpl:=qhO (P:=P) fields.toList hnz;obtain⟨cells',g1,g2,_⟩:=JS (K:=K) (place:=qG (Dof P) (fields.toList.map fun f=>(f.offset,f.type))) (placeC:=((fields.toList.map fun f=>(f.offset,P.cellsOf f.type)).toArray[·]?)) (fun i p e=>by
      simp only[qG,qy7]at e
      cases hf:fields.toList[i]? with
      |none=>simp[hf]at e
      | some f=>
       simp only[hf,qBt]at e;obtain⟨j,hj,rfl⟩:=qyM.1 e;obtain⟨inf',d',z',hi',_,_,rfl⟩:=qv hj;simp[show fields[i]?=some f by simpa using hf,Program.cellsOf,hi']) zX partsC.toList _ c' z.cells (qDc K _) hp1 hp2 hc'
     refine qC6 h (run_build w t partsC cells' ?_) (by simp only[qg];exact⟨cells',rfl,g2⟩);simp only[Program.built,hi,hu,hzero,hpl];exact g1
   . rename_i n e hd;have hd':=qau hd;subst hd';split at hb
     . rename_i j hj;obtain⟨inf',d',z',hi',_,_,rfl⟩:=qv hj;obtain⟨c',hc',rfl⟩:=qyM.1 hb;obtain⟨cells',g1,g2,_⟩:=JS (K:=K) (place:=fun i=>some (i*inf'.size,inf'.size)) (placeC:=fun i=>some (i*inf'.size,inf'.size)) (fun i p e=>e) zX partsC.toList _ c' z.cells (qDc K _) hp1 hp2 hc';refine qC6 h (run_build w t partsC cells' ?_) (by simp only[qg];exact⟨cells',rfl,g2⟩);simp only[Program.built,hi,hu,hzero,hi'];exact g1
     cases hb
   cases hb
 cases hb
def YX(sz new)(hn:new.length=sz):∀(rows:List (List AV)) (i),(∀r∈rows,r.length=sz)->i<rows.length->zj rows.flatten (i*sz) new=(rows.set i new).flatten
 |[],i,_,hi=>by simp at hi
 | r::rs,0,h,_=>by
  have hr:=h r (by simp);apply qzC;intro j;rw[wu _ _ _ _ (by simp[hr,hn])];simp only[qB2,qzn,qzu,qAl,qz9,qAA,true_and,qCd];by_cases hj:j<new.length
  . simp[hj]
  rw[if_neg hj,if_neg (by omega),if_neg hj,hr,hn]
 | r::rs,i+1,h,hi=>by
  have hr:=h r (by simp);have ih:=YX sz new hn rs i (fun x hx=>h x (by simp[hx])) (by simpa using hi);have hlen:∀l:List (List AV),(∀r∈l,r.length=sz)->l.flatten.length=l.length*sz:=by
   intro l
   induction l with
   |nil=>intro _;simp
   |cons a l ih=>intro h';simp only[qzn,qyK,qyY,h' a (by simp),ih (fun x hx=>h' x (by simp[hx]))];rw[qzr];omega
  have hfit:(i+1)*sz<=rs.length*sz:=qzx _ (by have:=hi;simp at this;omega);have hl2:=hlen rs (fun x hx=>h x (by simp[hx]));have hmul:(i+1)*sz=i*sz+sz:=by rw[qzr];omega
  simp only[qBw,qzn];rw[<- ih];apply qzC;intro j;rw[wu _ _ _ _ (by simp only[qyK,hl2,hr,hn];omega)];simp only[qzu,hr];by_cases hj:j<sz
  . rw[if_neg (by omega),if_pos hj,if_pos hj]
  rw[if_neg hj,if_neg hj,wu _ _ _ _ (by rw[hl2,hn];omega)];by_cases hk:(i+1)*sz<=j/\j<(i+1)*sz+new.length
  . rw[if_pos hk,if_pos (by omega)];congr 1;omega
  rw[if_neg hk,if_neg (by omega)]
def QW(sz):∀(zX:List (Nat×AV)) (rows rows':List (List AV)),(∀r∈rows,r.length=sz)->qs sz rows zX=some rows' ->
 zS (fun i=>some (i*sz,sz)) rows.flatten zX=some rows'.flatten/\rows'.length=rows.length/\(∀r∈rows',r.length=sz)
 |[],rows,rows',h,hf=>by simp[qs]at hf;subst hf;exact⟨rfl,rfl,h⟩
 | (i,x)::r,rows,rows',h,hf=>by
  simp only[qs]at hf;split at hf
  . rename_i new hc;split at hf
    . rename_i hl;have hset:∀r∈rows.set i new,r.length=sz:=fun y hy=>by
       rcases qAL hy with h1|h1
       . exact h y h1
       rw[h1];exact hl.1
      obtain⟨g1,g2,g3⟩:=QW sz r _ rows' hset hf;refine⟨?_,by simpa using g2,g3⟩;have hlen:rows.flatten.length=rows.length*sz:=by
       clear hf g1 g2 g3 hset hl
       induction rows with
       |nil=>simp
       |cons a l ih=>simp only[qzn,qyK,qyY,h a (by simp),ih (fun x hx=>h x (by simp[hx]))];rw[qzr];omega
      have hfit:(i+1)*sz<=rows.length*sz:=qzx _ hl.2;have hmul:(i+1)*sz=i*sz+sz:=(by rw[qzr];omega);simp only[zS,hc];rw[if_pos ⟨hl.1,by rw[hlen];omega⟩,YX sz new hl.1 rows i h hl.2];exact g1
    cases hf
  cases hf
def jB(z:List AV):∀(n i),i<n*z.length->(List.replicate n z).flatten[i]?=z[i%z.length]?
 |0,i,h=>by simp at h
 | n+1,i,h=>by
  simp only[qBa,qzn,qzu];split
  . rename_i h1;rw[qAw h1]
  rename_i h1;have h2:z.length<=i:=by omega
  rw[jB z n (i-z.length) (by rw[qzr]at h;omega),Nat.mod_eq_sub_mod h2]
def J2{z:Value}{n}(hz:0<z.cells.size):qh K ((List.replicate n (z.cells.toList.map ofAtom)).flatten) ((Array.range (n*z.cells.size)).map (z.cells[· % z.cells.size]!)).toList:=by
 have hl:(z.cells.toList.map ofAtom).length=z.cells.size:=by simp
 refine qh.intro (by simp) fun i a e=>?_
 have hlt:i<n*z.cells.size:=by
  have:=(qyF.1 e).1;simpa using this
 rw[jB _ n i (by rwa[hl]),hl]at e;obtain⟨v,e1,e2⟩:=(qDc K z.cells.toList).get _ _ e;refine⟨v,?_,e2⟩;simp only[Array.toList_map,Array.toList_range,qy7,qBr hlt,qBt,qyU];have hm:i%z.cells.size<z.cells.size:=qAm _ hz;simp[hm]at e1;simp[hm,e1]
def vz{K' B sz}:∀(rows) (off),(∀r∈rows,r.length=sz)->rows.flatten.all AV.atom=true->qm K' B off rows.flatten->qI K' B off sz rows
 |[],off,_,_,_=>by simp[qI]
 | r::rs,off,h,ha,hc=>by
  have hr:=h r (by simp);simp only[qzn,qAa,qyJ]at ha hc;simp only[qI];refine⟨⟨hr,ha.1,?_⟩,vz rs _ (fun x hx=>h x (by simp[hx])) ha.2 ?_⟩
  . have:=qm.take B _ off r.length hc;simpa using this
  have:=qm.drop B _ off r.length hc;rw[hr]at this;simpa[hr.symm] using this
def JD(h:WRel G w0 ro0 K U w){t n zX partsC}(hp1:partsC.toList.map (·.1)=zX.map (·.1))(hp2:qh K (zX.map (·.2)) (partsC.toList.map (·.2)))
 {v} (hb:qj (Dof P) t n zX=some v):Ran P G w0 ro0 K w (Instr.buildSlice t n partsC) v U:=by
 unfold qj at hb;split at hb
 . rename_i i hD;obtain⟨inf,d,z,hi,hu,hzero,rfl⟩:=qv hD;simp only at hb;split at hb
   . rename_i e hd;have hd':=Qh hd;subst hd';split at hb
     . rename_i j hj;obtain⟨inf',d',z',hi',_,hz',rfl⟩:=qv hj;simp only at hb;split at hb
       . rename_i hc;obtain⟨hc1,hc2,hc3,hc4⟩:=hc;obtain⟨rows,hrows,rfl⟩:=qyM.1 hb;have hzl:z'.cells.size=inf'.size:=(by simpa using hc1);have huni:∀r∈List.replicate n (z'.cells.toList.map ofAtom),r.length=inf'.size:=fun r hr=>by rw[(qAx.1 hr).2];exact hc1
         obtain⟨f1,f2,f3⟩:=QW inf'.size zX _ rows huni hrows;have hz0:=J2 (K:=K) (z:=z') (n:=n) (by omega);rw[hzl]at hz0;obtain⟨cells',g1,g2,g3⟩:=JS (K:=K) (place:=fun i=>some (i*inf'.size,inf'.size)) (placeC:=fun i=>some (i*inf'.size,inf'.size)) (fun i p e=>e) zX partsC.toList _ _ ((Array.range (n*inf'.size)).map (z'.cells[· % inf'.size]!)) hz0 hp1 hp2 f1;have hat:=g3 (by
          rw[qyP];intro x hx;obtain⟨l,hl1,hl2⟩:=qzl.1 hx;rw[(qAx.1 hl1).2]at hl2;rw[qyP]at hc2;exact hc2 x hl2)
         by_cases hn:n=0
         . subst hn;have hrn:=qyX (by simpa using f2);subst hrn;obtain⟨k1,k2⟩:=h.newRo [] cells' e (by simp);have hpn:partsC.toList=[]:=by
            cases zX with
            |nil=>simpa using hp1
            | cons p r=>
             simp only[qs]at hrows;split at hrows
             . split at hrows
               . rename_i hx;simp at hx
               . cases hrows
             cases hrows
           have hce:cells' = #[]:=by
            have hl:=g2.length;simp at hl;exact hl
           subst hce;refine⟨.slice (some ⟨w.heap.size,0,none⟩) 0 0,_,_,?_,k2,k1,?_⟩
           . have hpe:partsC = #[]:=(by simpa using hpn);subst hpe;simp[Instr.buildSlice,run_underlying hu,sizeOf,typeInfo,hi',Instr.fill,newRow];rw[show Array.range 0 = #[] from by apply Array.ext';simp];simp
           simp only[qg];exact .inr ⟨w.heap.size,0,0,by simp,by simp,by simp[qI],by simp[ky]⟩
         have hpos:¬n*inf'.size=0:=by
          intro e0;rcases Nat.mul_eq_zero.1 e0 with e0|e0<;>omega
         obtain⟨k1,k2⟩:=h.newRo cells'.toList cells' e (fun j v e=>by simpa using e);refine⟨_,_,_,run_buildSlice w t e n partsC cells' inf' z' hu hi' hz' (by omega) hpos (by rwa[hzl]),k2,k1,?_⟩;simp only[qg];have hrl:rows.length=n:=(by simpa using f2);refine .inr ⟨w.heap.size,0,n,by rw[hrl],by omega,vz rows 0 f3 hat (qm.addRo g2 k2),?_⟩;simp[ky,hrl]
       cases hb
     cases hb
   cases hb
 cases hb
end
def yn(a:List UInt8):(⟨a.toArray⟩:ByteArray).toList=a:=by rw[ByteArray.toList_eq]
def QP(a:List UInt8):(⟨a.toArray⟩:ByteArray).size=a.length:=by simp[ByteArray.size]
def qfx(a b:List UInt8):(⟨a.toArray⟩:ByteArray)++⟨b.toArray⟩=⟨(a++b).toArray⟩:=by
 apply ByteArray.ext;simp
def qcy(a:List UInt8)(l h):(⟨a.toArray⟩:ByteArray).extract l h=⟨((a.take h).drop l).toArray⟩:=by
 apply ByteArray.ext;rw[ByteArray.data_extract];simp[qB7,List.drop_take]
section
variable {P:Program}{G:Nat->AV}{w0:World}{ro0:Nat->Nat->Option Value}{K:Kn}{U:St}{w w':World}
def qbT{t:Nat}(h:P.cellsOf t≠0):∃inf,P.info? t=some inf/\inf.size≠0:=by
 simp only[Program.cellsOf]at h
 cases hi:P.info? t with
 |none=>simp[hi]at h
 |some inf=>exact⟨inf,rfl,by simpa[hi] using h⟩
def Y4(h:WRel G w0 ro0 K U w){s f x v x'}(hx:qg K x x')(hf:Qa (Dof P) s x f=some v):
 ∃v',(Instr.fieldAt s x' f).run P w=.ok v' w/\qg K v v':=by
 unfold Qa at hf;split at hf
 . rename_i i hD;obtain⟨inf,d,z,hi,hu,hzero,rfl⟩:=qv hD;simp only at hf;split at hf
   . rename_i fs hd;obtain⟨fields,rfl,rfl,hnz,_⟩:=qkI hd;split at hf
     . rename_i off ty hfo;simp only[qy7,qyM]at hfo;obtain⟨fl,hfl,he⟩:=hfo;simp only[qyW]at he;obtain⟨rfl,rfl⟩:=he;obtain⟨inf2,hi2,hsz2⟩:=qbT (hnz fl (qyG hfl));have hrun:∀ad:Addr,(Instr.fieldAt s (.pointer (some ad)) f).run P w=.ok (.pointer (some (ad.add fl.offset))) w:=by
        intro ad;simp[Instr.fieldAt,run_underlying hu,show fields[f]?=some fl by simpa using hfl,Instr.sureAddr,fieldPlace,sizeOf,typeInfo,hi2,hsz2]
       split at hf
       . simp at hf;subst hf;simp only[qg]at hx;obtain⟨B,hm,rfl⟩:=hx;exact⟨_,hrun _,by rw[jg];exact⟨B,hm,rfl⟩⟩
       . simp at hf;subst hf;simp only[qg]at hx;obtain⟨B,o,rfl,hc⟩:=hx;exact⟨_,hrun _,by rw[jg];simp only[qg];exact⟨B,_,rfl,qm.drop B _ _ _ hc⟩⟩
       cases hf
     cases hf
   cases hf
 cases hf
def qh.sub{c vs}(h:qh K c vs)(off n):qh K ((c.drop off).take n) ((vs.drop off).take n):=by
 refine qh.intro (by simp[h.length]) fun i a e=>?_
 rw[qzD,qzG]at e;split at e
 . rename_i hi;obtain⟨v,e1,e2⟩:=h.get _ _ e;exact⟨v,by rw[qzD,if_pos hi,qzG];exact e1,e2⟩
 cases e
def Wh{t:Nat}{inf:TypeInfo}{d:TypeDesc}(hi:P.info? t=some inf)(hu:P.underlying t=some d){c c':List AV}{vs:Array Value}(hc:qh K c vs.toList){off:Nat}
 (h1:cut c off (if(vV P d).agg=some true then inf.size else 1)=some c') {v:AV} (h2:QJ (vV P d).agg c'=some v):∃v',(part t vs off).run P w=.ok v' w/\qg K v v':=by
 obtain⟨g1,g2,g3⟩:=VI h1;have ha:=qaQ (w:=w) hu (by intro e;rw[e]at h2;simp[TD.agg,QJ]at h2)
 cases hg:(vV P d).agg with
 |none=>rw[hg]at h2;simp[QJ]at h2
 | some g=>
  rw[hg]at h2 ha
  cases g with
  | true=>
   simp[QJ]at h2;subst h2;rw[hg]at g2;simp only[if_true]at g2;refine⟨.agg (vs.extract off (off+inf.size)),?_,?_⟩
   . simp only[part,Sem.run_bind,ha,Result.andThen_ok];simp[sizeOf,typeInfo,hi]
   simp only[qg];refine⟨_,rfl,?_⟩;rw[g2];have:=hc.sub off inf.size;simpa[qB7] using this
  | false=>
   simp only[QJ]at h2;rw[hg]at g2 g1;simp only[qyU,qy4,if_false]at g2 g1;have hget:c[off]?=some v:=by
    rw[g2,List.head?_take]at h2;simp[List.head?_drop]at h2;exact h2
   obtain⟨v',e1,e2⟩:=hc.get off v hget;refine⟨v',?_,e2⟩;simp only[part,Sem.run_bind,ha,Result.andThen_ok];have:vs[off]?=some v':=by simpa using e1
   simp[this]
def qc6{s f x v x'}(hx:qg K x x')(hf:qeL (Dof P) s x f=some v):
 ∃v',(Instr.field s x' f).run P w=.ok v' w/\qg K v v':=by
 unfold qeL at hf;split at hf
 . rename_i i c hD;obtain⟨inf,d,z,hi,hu,hzero,rfl⟩:=qv hD;simp only at hf;split at hf
   . rename_i fs hd;obtain⟨fields,rfl,rfl,hnz,_⟩:=qkI hd;split at hf
     . rename_i off ty hfo;simp only[qy7,qyM]at hfo;obtain⟨fl,hfl,he⟩:=hfo;simp only[qyW]at he;obtain⟨rfl,rfl⟩:=he;split at hf
       . rename_i j hj;obtain⟨inf2,d2,z2,hi2,hu2,_,rfl⟩:=qv hj;obtain⟨c',hc',hv⟩:=qz6.1 hf;simp only[qg]at hx;obtain⟨vs,rfl,hvs⟩:=hx;obtain⟨v',e1,e2⟩:=Wh (w:=w) hi2 hu2 hvs hc' hv;refine⟨v',?_,e2⟩;simp[Instr.field,run_underlying hu,show fields[f]?=some fl by simpa using hfl,asAgg,e1]
       cases hf
     cases hf
   cases hf
 cases hf
def jZ{i n}(h:w7 i=some n){i'}(hi:qg K i i'):∃k,i'=.int k n:=by
 cases i<;>simp[w7]at h;subst h;exact⟨_,by simpa only[qg] using hi⟩
def YT(h:WRel G w0 ro0 K U w){t x i v x' i'}(hx:qg K x x')(hi':qg K i i')(hf:zr (Dof P) t x i=some v):
 ∃v',(Instr.indexAt t x' i').run P w=.ok v' w/\qg K v v':=by
 unfold zr at hf;split at hf
 . rename_i ti n hD hn;obtain⟨inf,d,z,hi,hu,hzero,rfl⟩:=qv hD;obtain⟨k,rfl⟩:=jZ hn hi';simp only at hf;split at hf
   . rename_i e hd;have hd':=Qh hd;subst hd';split at hf
     . rename_i j hj;obtain⟨inf2,d2,z2,hi2,hu2,_,rfl⟩:=qv hj;split at hf
       . rename_i sz rows tok;split at hf
         . rename_i hc;obtain⟨h0,hsz⟩:=hc;simp only at hsz;obtain⟨r,hr,rfl⟩:=qyM.1 hf;have hlt:=(qyF.1 hr).1;simp only[qg]at hx;rcases hx with⟨_,rfl,_⟩|⟨B,off,cap,rfl,hcap,hrows,_⟩
           . simp at hlt
           have hsz':sz=inf2.size:=by
            rcases hsz with hsz|rfl
            . exact hsz
            simp at hlt
           subst hsz';obtain⟨_,_,hca⟩:=qI.get B _ rows off hrows _ _ hr;refine⟨.pointer (some ⟨B,off+n.toNat*inf2.size,none⟩),?_,by simp only[qg];exact⟨B,_,rfl,hca⟩⟩;simp[Instr.indexAt,asIntOf,run_underlying hu,h0,show n<(rows.length:Int) by omega,sizeOf,typeInfo,hi2,jg]
         cases hf
       . rename_i b off len sz;split at hf
         . rename_i hc;obtain⟨h0,hlt,hsz⟩:=hc;simp only at hsz;subst hsz;simp at hf;subst hf;simp only[qg]at hx;obtain⟨B,cap,hm,rfl,_⟩:=hx;refine⟨.pointer (some ⟨B,off+n.toNat*inf2.size,none⟩),?_,by simp only[qg];exact⟨B,hm,rfl⟩⟩;simp[Instr.indexAt,asIntOf,run_underlying hu,h0,hlt,sizeOf,typeInfo,hi2,jg]
         cases hf
       cases hf
     cases hf
   . rename_i m e hd;have hd':=qau hd;subst hd';split at hf
     . rename_i j hj;obtain⟨inf2,d2,z2,hi2,hu2,_,rfl⟩:=qv hj;split at hf
       . rename_i hc;obtain⟨h0,hlt⟩:=hc;have hrun:∀ad:Addr,(Instr.indexAt t (.pointer (some ad)) (.int k n)).run P w=.ok (.pointer (some (ad.add (n.toNat*inf2.size)))) w:=by
          intro ad;simp[Instr.indexAt,asIntOf,run_underlying hu,h0,hlt,sizeOf,typeInfo,hi2,Instr.sureAddr]
         split at hf
         . simp at hf;subst hf;simp only[qg]at hx;obtain⟨B,hm,rfl⟩:=hx;exact⟨_,hrun _,by rw[jg];exact⟨B,hm,rfl⟩⟩
         . simp at hf;subst hf;simp only[qg]at hx;obtain⟨B,o,rfl,hc⟩:=hx;exact⟨_,hrun _,by rw[jg];simp only[qg];exact⟨B,_,rfl,qm.drop B _ _ _ hc⟩⟩
         cases hf
       cases hf
     cases hf
   cases hf
 cases hf
def qcY{t x i v x' i'}(hx:qg K x x')(hi':qg K i i')(hf:qeu (Dof P) t x i=some v):
 ∃v',(Instr.index t x' i').run P w=.ok v' w/\qg K v v':=by
 unfold qeu at hf;split at hf
 . rename_i ti n hD hn;obtain⟨inf,d,z,hi,hu,hzero,rfl⟩:=qv hD;obtain⟨k,rfl⟩:=jZ hn hi';simp only at hf;split at hf
   . rename_i s hd;have hd':=vu hd;subst hd';split at hf
     . rename_i h0;obtain⟨b,hb,rfl⟩:=qyM.1 hf;simp only[qg]at hx;subst hx;refine⟨.int .u8 b.toNat,?_,by simp[qg]⟩;have:(⟨s.toArray⟩:ByteArray)[n.toNat]?=some b:=by
        have hlt:=(qyF.1 hb);obtain⟨h1,h2⟩:=hlt;rw[getElem?_pos _ _ (by rwa[QP])];congr 1
       simp[Instr.index,asIntOf,run_underlying hu,h0,this]
     cases hf
   . rename_i m e c hd;have hd':=qau hd;subst hd';split at hf
     . rename_i j hj;obtain⟨inf2,d2,z2,hi2,hu2,_,rfl⟩:=qv hj;split at hf
       . rename_i hc;obtain⟨h0,hlt⟩:=hc;obtain⟨c',hc',hv⟩:=qz6.1 hf;simp only[qg]at hx;obtain⟨vs,rfl,hvs⟩:=hx;obtain⟨v',e1,e2⟩:=Wh (w:=w) hi2 hu2 hvs hc' hv;refine⟨v',?_,e2⟩;simp[Instr.index,asIntOf,run_underlying hu,h0,hlt,sizeOf,typeInfo,hi2,e1]
       cases hf
     cases hf
   cases hf
 cases hf
def Vy{x v x'}(hx:qg K x x'){i}(hf:JT x i=some v):∃v',(Instr.extract x' i).run P w=.ok v' w/\qg K v v':=by
 cases x<;>simp[JT]at hf;simp only[qg]at hx;obtain⟨vs,rfl,hvs⟩:=hx;obtain⟨v',e1,e2⟩:=hvs.get i v hf;have:vs[i]?=some v':=by simpa using e1
 exact⟨v',by simp[Instr.extract,this],e2⟩
def qkF{op x v x'}(hx:qg K x x')(hf:unA op x=some v):∃v',(Op.unary op x').run P w=.ok v' w/\qg K v v':=by
 unfold unA at hf;split at hf
 . simp only[qg]at hx;subst hx;simp at hf;subst hf;exact⟨_,by simp only[Op.unary,pure,Sem.run];rfl,by simp[qg]⟩
 . simp only[qg]at hx;subst hx;cases hf;exact⟨_,by simp only[Op.unary,Op.intArith,pure,Sem.run];rfl,by simp[qg]⟩
 . simp only[qg]at hx;subst hx;simp at hf;subst hf;exact⟨_,by simp[Op.unary,Op.intBits];rfl,by simp[qg]⟩
 cases hf
def qcX{op:BinOp}{k:IntKind}{a b:Int}{v:AV}(hf:qu op k a b=some v)(t:Nat)(hs:op≠.shl/\op≠.shr):
 ∃v',(binOp op t (.int k a) (.int k b)).run P w=.ok v' w/\qg K v v':=by
 obtain⟨hs1,hs2⟩:=hs;cases op<;>simp only[qu]at hf<;>first
  |exact absurd rfl hs1
  |exact absurd rfl hs2
  |skip
 all_goals first
  | (split at hf
     . cases hf
     . rename_i hb;simp at hf;subst hf;exact⟨_,by simp[binOp,Op.intDiv,hb];rfl,by simp[qg]⟩)
  |(simp at hf;subst hf;exact⟨_,by simp[binOp,Op.intArith,Op.intBits,Op.intCmp];rfl,by simp[qg]⟩)
  |(cases hf)
end
