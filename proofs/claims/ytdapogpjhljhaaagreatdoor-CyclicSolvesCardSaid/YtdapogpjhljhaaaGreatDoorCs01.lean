import Derived.WalkKit
import Derived.Below
import Derived.Orders
import Derived.Deep.LoopGhost
import Derived.Great.BuildSlice
import Derived.Laws.StructEq
import Derived.ChangeKeysEq
set_option linter.all false
set_option linter.defProp false
namespace Go.Abs
open Go Go.RowKit
def qBk:=@List.getElem?_eq_some_iff
def qBl:=@List.mem_of_getElem?
def qBm:=@List.getElem?_eq_getElem
def qBn:=@List.getElem?_set_ne
def qBo:=@List.getElem?_set_self
def qBp:=@List.length_append
def qBq:=@Bool.and_eq_true
def qBr:=@List.take_of_length_le
def qBs:=@Nat.le_refl
def qBt:=@List.getElem?_append_right
def qBu:=@Option.map_eq_some_iff
def qBv:=@List.getElem?_append_left
def qBw:=@List.getD_eq_getElem?_getD
def qBx:=@List.all_eq_true
def qBy:=@List.eq_nil_of_length_eq_zero
def qBz:=@List.map_cons
def qBA:=@List.length_pos_iff
def qBB:=@List.length_cons
def qBC:=@List.mem_append
def qBD:=@Nat.lt_of_lt_of_le
def qBE:=@List.drop_eq_getElem_cons
def qBF:=@Nat.pow_le_pow_right
def qBG:=@Int.eq_ofNat_of_zero_le
def qBH:=@List.mem_map
def qBI:=@Option.some.injEq
def qBJ:=@List.flatMap_cons
def qBK:=@Prod.mk.injEq
def qBL:=@List.nil_append
def qBM:=@List.any_eq_true
def qBN:=@List.mem_cons
def qBO:=@List.getElem?_map
def qBP:=@Bool.false_eq_true
def qBQ:=@List.take_add_one
def qBR:=@List.length_singleton
def qBS:=@List.map_nil
def qBT:=@List.length_map
def qBU:=@Int.toNat_natCast
def qBV:=@List.cons_append
def qBW:=@List.getElem?_eq_none
def qBX:=@List.append_assoc
def qBY:=@List.length_take
def qBZ:=@List.drop_of_length_le
def qB0:=@List.mem_singleton
def qB1:=@List.getElem?_of_mem
def qB2:=@List.foldl_cons
def qB3:=@List.mem_flatten
def qB4:=@List.append_nil
def qB5:=@List.mem_append_left
def qB6:=@List.mem_of_mem_take
def qB7:=@List.flatten_cons
def qB8:=@List.set_append
def qB9:=@List.take_append_drop
def qCa:=@List.dropLast_concat_getLast
def qCb:=@List.foldl_append
def qCc:=@List.length_nil
def qCd:=@List.set_append_right
def qCe:=@List.mem_range
def qCf:=@Classical.not_not
def qCg:=@List.ext_getElem?
def qCh:=@Nat.sub_self
def qCi:=@List.getElem?_take
def qCj:=@List.length_drop
def qCk:=@List.mem_filter
def qCl:=@List.map_append
def qCm:=@List.getElem?_drop
def qCn:=@List.getElem?_append
def qCo:=@Bool.eq_iff_iff
def qCp:=@Array.getElem?_eq_some_iff
def qCq:=@Nat.le_trans
def qCr:=@Int.tmod_eq_emod_of_nonneg
def qCs:=@Bool.eq_false_iff
def qCt:=@Nat.add_sub_cancel_left
def qCu:=@List.mem_append_right
def qCv:=@List.take_append_of_le_length
def qCw:=@List.drop_length
def qCx:=@Nat.add_mul
def qCy:=@List.map_congr_left
def qCz:=@Nat.mul_le_mul_right
def qCA:=@List.getElem?_zip_eq_some
def qCB:=@Nat.lt_succ_iff_lt_or_eq
def qCC:=@Bool.true_and
def qCD:=@List.mem_of_mem_drop
def qCE:=@List.mem_cons_of_mem
def qCF:=@List.range_eq_range'
def qCG:=@List.drop_zero
def qCH:=@List.all_cons
def qCI:=@Nat.eq_zero_or_pos
def qCJ:=@List.drop_append_of_le_length
def qCK:=@List.replicate_succ
def qCL:=@List.range_succ
def qCM:=@List.any_eq_false
def qCN:=@List.map_map
def qCO:=@List.length_set
def qCP:=@List.length_filter_le
def qCQ:=@List.flatMap_def
def qCR:=@Bool.and_true
def qCS:=@List.take_length
def qCT:=@Int.tdiv_eq_ediv_of_nonneg
def qCU:=@List.all_append
def qCV:=@Nat.add_zero
def qCW:=@Array.length_toList
def qCX:=@List.nodup_append
def qCY:=@Option.bind_eq_some_iff
def qCZ:=@List.eq_nil_iff_forall_not_mem
def qC0:=@List.range'_succ
def qC1:=@List.getElem_map
def qC2:=@List.pairwise_iff_getElem
def qC3:=@Nat.lt_of_le_of_lt
def qC4:=@List.dropLast_concat
def qC5:=@Bool.not_eq_true'
def qC6:=@List.take_succ_cons
def qC7:=@List.nodup_cons
def qC8:=@Array.eq_empty_of_size_eq_zero
def qC9:=@Nat.min_eq_left
def qDa:=@Nat.zero_mul
def qDb:=@Nat.zero_add
def qDc:=@List.mem_replicate
def qDd:=@List.drop_append
def qDe:=@List.filter_cons
def qDf:=@List.any_cons
def qDg:=@List.getElem?_modify
def qDh:=@Nat.eq_of_testBit_eq
def qDi:=@List.flatten_append
def qDj:=@Nat.zero_le
def qDk:=@List.not_mem_nil
def qDl:=@List.mem_cons_self
def qDm:=@List.mem_or_eq_of_mem_set
def qDn:=@Nat.add_comm
def qDo:=@Bool.or_eq_true
def qDp:=@Array.toArray_toList
def qDq:=@Bool.eq_false_or_eq_true
def qDr:=@Nat.div_le_self
def qDs:=@List.eq_of_mem_replicate
def qDt:=@Nat.two_pow_pos
def qDu:=@Nat.add_assoc
def qDv:=@List.sum_cons
def qDw:=@Nat.mod_eq_of_lt
def qDx:=@Nat.mul_le_mul
def qDy:=@Bool.false_and
def qDz:=@Bool.and_false
def qDA:=@Nat.pow_succ
def qDB:=@List.zipIdx_append
def qDC:=@List.getElem?_toArray
def qDD:=@List.singleton_append
def qDE:=@Int.fdiv_eq_ediv_of_nonneg
def qDF:=@List.exists_cons_of_ne_nil
def qDG:=@List.pairwise_map
def qDH:=@List.exists_mem_of_ne_nil
def qDI:=@List.getLast?_eq_none_iff
def qDJ:=@List.getLast?_eq_some_iff
def qDK:=@Int.natCast_zero
def qDL:=@List.getElem_mem
def qDM:=@List.getElem?_take_of_lt
def qDN:=@List.replicate_zero
def qDO:=@Array.getElem?_setIfInBounds_ne
def qDP:=@List.getElem?_cons_succ
def qDQ:=@Bool.false_or
def qDR:=@List.cons.injEq
def qDS:=@List.find?_cons
def qDT:=@List.pairwise_cons
def qDU:=@List.find?_eq_none
def qDV:=@Nat.and_two_pow_sub_one_eq_mod
def qDW:=@List.size_toArray
def qDX:=@List.length_range
def qDY:=@List.getElem?_set
def qDZ:=@List.drop_drop
def qD0:=@List.getElem?_zipIdx
def qD1:=@List.flatMap_nil
def qD2:=@List.replicate_succ'
def qD3:=@Bool.or_eq_false_iff
def qD4:=@Array.getElem?_append_left
def qD5:=@Bool.not_true
def qD6:=@List.getElem?_range
def qD7:=@List.reverse_append
def qD8:=@List.drop_succ_cons
def qD9:=@List.mem_take_iff_getElem
def qEa:=@Int.emod_nonneg
def qEb:=@Nat.succ_mul
def qEc:=@List.set_cons_succ
def qEd:=@Option.isSome_iff_exists
def qEe:=@List.map_replicate
def qEf:=@List.length_erase_of_mem
def qEg:=@List.filter_append
def qEh:=@Int.emod_lt_of_pos
def qEi:=@Nat.mod_lt
def qEj:=@List.length_eq_zero_iff
def qEk:=@Nat.testBit_mod_two_pow
def qEl:=@List.all_eq_false
def qEm:=@Nat.testBit_eq_decide_div_mod_eq
def qEn:=@Nat.min_eq_right
def qEo:=@List.mem_reverse
def qEp:=@Nat.gcd_dvd_left
def qEq:=@Nat.div_eq_of_lt
def qEr:=@Bool.and_eq_false_iff
def qEs:=@List.all_map
def qEt:=@Option.map_some
def qEu:=@Nat.sub_zero
def qEv:=@List.pairwise_append
def qEw:=@List.takeWhile_cons
def qEx:=@List.length_reverse
def qEy:=@Bool.not_false
def qEz:=@Array.getElem?_setIfInBounds
def qEA:=@Nat.one_mul
def qEB:=@Nat.mul_add
def qEC:=@List.count_pos_iff
def qED:=@List.prefix_append
def qEE:=@Array.getD_eq_getD_getElem?
def qEF:=@Nat.and_lt_two_pow
def qEG:=@Nat.xor_lt_two_pow
def qEH:=@List.set_cons_zero
def qEI:=@List.zip_cons_cons
def qEJ:=@Nat.pos_of_ne_zero
def qEK:=@Nat.mod_two_eq_zero_or_one
def qEL:=@Nat.or_lt_two_pow
def qEM:=@List.find?_append
def qEN:=@List.filter_congr
def qEO:=@Array.getElem?_eq_getElem
def qEP:=@List.extract_eq_take_drop
def qEQ:=@List.getElem?_eq_none_iff
def qER:=@List.mem_of_find?_eq_some
def qES:=@Option.getD_some
def qET:=@Nat.lt_or_ge
def qEU:=@Array.setIfInBounds_comm
def qEV:=@Int.le_of_lt
def qEW:=@List.all_nil
def qEX:=@List.mem_flatMap
def qEY:=@Nat.min_le_right
def qEZ:=@Nat.gcd_comm
def qE0:=@List.getElem?_cons_zero
def qE1:=@Nat.testBit_div_two_pow
def qE2:=@List.getElem?_replicate
def qE3:=@Nat.gcd_pos_of_pos_left
def qE4:=@List.sum_append
def qE5:=@List.of_mem_zip
def qE6:=@Int.pow_pos
def qE7:=@Nat.testBit_lt_two_pow
def qE8:=@Int.le_refl
def qE9:=@List.pairwise_lt_range
def qFa:=@List.length_pos_of_mem
def qFb:=@List.append_eq_nil_iff
def qFc:=@List.map_id
def qFd:=@Nat.mul_pos
def qFe:=@Nat.div_mul_right_comm
def qFf:=@List.getElem_cons_succ
def qFg:=@List.getElem_cons_zero
def qFh:=@List.mapM_cons
def qFi:=@List.drop_take
def qFj:=@List.contains_iff_mem
def qFk:=@Nat.div_lt_iff_lt_mul
def qFl:=@List.foldl_nil
def qFm:=@Int.not_lt
def qFn:=@Bool.and_self
def qFo:=@List.map_drop
def qFp:=@Nat.mul_assoc
def qFq:=@Nat.le_of_dvd
def qFr:=@Nat.le_of_lt
def qFs:=@List.sum_nil
def qFt:=@List.map_set
def qFu:=@Int.zero_add
def qFv:=@Int.mul_emod
inductive Tok where
 |none
 |nil
 |tight
 |chain (t k:Nat)
inductive AV where
 |any
 |bool (b:Bool)
 |int (k:IntKind) (n:Int)
 |str (s:List UInt8)
 |nilp
 |ptr (b off:Nat)
 |rptr (cells:List AV)
 |sl (sz:Nat) (rows:List (List AV)) (tok:Tok)
 |ms (b off len sz:Nat)
 |nilm
 |map (b:Nat)
 |iter (b:Nat)
 |fn (f:FuncId) (first cap:List AV)
 |nilf
 |agg (cells:List AV)
 |tup (vs:List AV)
instance:Inhabited AV:=⟨.any⟩
inductive Blk where
 |cells (c:List AV)
 |map (es:List (AV×AV×Nat)) (clock:Nat)
 |siter (s:List UInt8) (pos:Nat)
 |miter (mb:Option Nat) (since:Nat) (seen:List Nat) (stepped:Nat)
 |dead
 |raw (n:Nat)
structure St where
 H:List Blk
 T:List (Option Nat)
abbrev Env:=Nat->AV
def upd(env:Env)(d:Option Nat)(v:AV):Env:=match d with
 |some d=>fun i=>if i=d then v else env i
 |none=>env
inductive TD where
 |bool|int (k:IntKind)|str|ptr (e:Nat)|sl (e:Nat)|arr (n e:Nat)|map (k e:Nat)
 |st (fs:List (Nat×Nat))|fn|other
structure TI where
 size:Nat
 bytes:Nat
 zero:List AV
 zv:AV
 d:TD
 cmp:Bool
def TD.agg:TD->Option Bool
 |.st _|.arr .. =>some true
 |.other=>none
 |_=>some false
def ofAtom:Value->AV
 |.bool b=>.bool b
 |.int k n=>.int k n
 |.string s=>.str s.data.toList
 |.pointer none=>.nilp
 |.slice none 0 0=>.sl 0 [] .nil
 |.map none=>.nilm
 |.nilFunc=>.nilf
 |.func (.func f) a b=>if a.size=0/\b.size=0 then .fn f [] [] else .any
 |_=>.any
def ofV:Value->AV
 |.agg cs=>.agg (cs.toList.map ofAtom)
 |.tuple vs=>if vs.size=0 then .tup [] else .any
 |v=>ofAtom v
def QK(P:Program):TypeDesc->TD
 |.bool=>.bool
 |.int k=>.int k
 |.string=>.str
 |.pointer e=>.ptr e
 |.slice e=>.sl e
 |.array n e=>.arr n e
 |.map k e=>.map k e
 |.func .. =>.fn
 | .struct fs=>if fs.toList.all (fun f=>P.cellsOf f.type != 0 && f.name != "_") then .st (fs.toList.map fun f=>(f.offset,f.type)) else .other
 |_=>.other
def Dof(P:Program)(t:Nat):Option TI :=
 match P.info? t,P.underlying t with
 | some i,some d=>match i.zero with
  |some z=>some ⟨i.size,i.bytes,z.cells.toList.map ofAtom,ofV z,QK P d,!P.stoodInHeld t⟩
  |none=>none
 |_,_=>none
def ev(G:Nat->AV)(env:Env):Operand->AV
 |.tmp t=>env t
 |.const v=>ofV v
 |.global g=>G g
 |.func f=>.fn f [] []
def AV.atom:AV->Bool
 |.any|.agg _|.tup _=>false
 |_=>true
def qL:AV->Option (List AV)
 |.agg cs=>if cs.all AV.atom then some cs else none
 |.any=>none
 |.tup _=>none
 |v=>some [v]
def St.push(σ:St)(b:Blk):St:={σ with H:=σ.H++[b]}
def cut(c:List AV)(off n:Nat):Option (List AV):=if off+n<=c.length then some ((c.drop off).take n) else none
def ZI(agg:Option Bool)(c:List AV):Option AV:=match agg with
 |some true=>some (.agg c)
 |some false=>c.head?
 |none=>none
def wZ(D:Nat->Option TI)(σ:St)(t:Nat)(a:AV):Option AV :=
 match D t,a with
 | some i,.ptr b off=>match σ.H[b]? with
  |some (.cells c)=>(cut c off i.size).bind (ZI i.d.agg)
  |_=>none
 |some i,.rptr c=>(cut c 0 i.size).bind (ZI i.d.agg)
 |_,_=>none
def zC:List AV->Nat->List AV->List AV
 |c,_,[]=>c
 |c,off,v::r=>zC (c.set off v) (off+1) r
def Vq(D:Nat->Option TI)(σ:St)(t:Nat)(a x:AV):Option St :=
 match D t,a,qL x with
 | some i,.ptr b off,some new=>match σ.H[b]? with
  |some (.cells c)=>if new.length=i.size/\off+i.size<=c.length then some {σ with H:=σ.H.set b (.cells (zC c off new))} else none
  |_=>none
 |_,_,_=>none
def zt(place:Nat->Option (Nat×Nat))(c:List AV):List (Nat×AV)->Option (List AV)
 |[]=>some c
 | (i,v)::r=>match place i,qL v with
  |some (off,n),some new=>if new.length=n/\off+n<=c.length then zt place (zC c off new) r else none
  |_,_=>none
def qx(D:Nat->Option TI)(fs:List (Nat×Nat))(i:Nat):Option (Nat×Nat) :=
 match fs[i]? with
 |some (off,t)=>(D t).map fun j=>(off,j.size)
 |none=>none
def qV(D:Nat->Option TI)(t:Nat)(zR:List (Nat×AV)):Option AV :=
 match D t with
 | some i=>match i.d with
  |.st fs=>(zt (qx D fs) i.zero zR).map .agg
  | .arr _ e=>match D e with
   |some j=>(zt (fun i=>some (i*j.size,j.size)) i.zero zR).map .agg
   |none=>none
  |_=>none
 |none=>none
def qp(sz:Nat)(rows:List (List AV)):List (Nat×AV)->Option (List (List AV))
 |[]=>some rows
 | (i,v)::r=>match qL v with
  |some new=>if new.length=sz/\i<rows.length then qp sz (rows.set i new) r else none
  |none=>none
def qe(D:Nat->Option TI)(t n:Nat)(zR:List (Nat×AV)):Option AV :=
 match D t with
 | some i=>match i.d with
  | .sl e=>match D e with
   |some j=>if j.zero.length=j.size/\j.zero.all AV.atom/\0<j.size/\n*j.size<=16777216 then(qp j.size (List.replicate n j.zero) zR).map fun rows=>.sl j.size rows .tight else none
   |none=>none
  |_=>none
 |none=>none
def wc:AV->AV->Option Bool
 |.bool a,.bool b=>some (a==b)
 |.int k a,.int k' b=>if k=k' then some (a==b) else none
 |.str a,.str b=>some (a==b)
 |_,_=>none
def jk:List AV->List AV->Option Bool
 |[],[]=>some true
 | a::x,b::y=>match wc a b,jk x y with
  |some p,some q=>some (p&&q)
  |_,_=>none
 |_,_=>none
def zV(op:BinOp)(k:IntKind)(a b:Int):Option AV :=
 match op with
 |.add=>some (.int k (k.wrap (a+b)))
 |.sub=>some (.int k (k.wrap (a-b)))
 |.mul=>some (.int k (k.wrap (a*b)))
 |.quo=>if b=0 then none else some (.int k (k.wrap (a.tdiv b)))
 |.rem=>if b=0 then none else some (.int k (a.tmod b))
 |.and=>some (.int k (k.wrap (BitVec.ofInt k.bits a &&& BitVec.ofInt k.bits b).toNat))
 |.or=>some (.int k (k.wrap (BitVec.ofInt k.bits a ||| BitVec.ofInt k.bits b).toNat))
 |.xor=>some (.int k (k.wrap (BitVec.ofInt k.bits a ^^^ BitVec.ofInt k.bits b).toNat))
 |.andNot=>some (.int k (k.wrap (BitVec.ofInt k.bits a &&& ~~~ BitVec.ofInt k.bits b).toNat))
 |.eql=>some (.bool (a==b))
 |.neq=>some (.bool (a != b))
 |.lss=>some (.bool (a<b))
 |.leq=>some (.bool (a<=b))
 |.gtr=>some (.bool (a > b))
 |.geq=>some (.bool (a≥b))
 |_=>none
def qro(op:BinOp)(a b:List UInt8):Option AV :=
 match op with
 |.add=>if a.length+b.length<=4611686018427387904 then some (.str (a++b)) else none
 |.eql=>some (.bool (a==b))
 |.neq=>some (.bool (!(a==b)))
 |.lss=>some (.bool (Op.bytesLess a b))
 |.leq=>some (.bool (Op.bytesLess a b||a==b))
 |.gtr=>some (.bool (!(Op.bytesLess a b||a==b)))
 |.geq=>some (.bool (!Op.bytesLess a b))
 |_=>none
def kz(D:Nat->Option TI)(t:Nat):Bool :=
 match D t with
 |some i=>(match i.d with|.int _|.bool|.str=>true|_=>false)
 |none=>false
def qP(D:Nat->Option TI)(t:Nat):TD :=
 match D t with
 |some i=>i.d
 |none=>.other
def Ww(D:Nat->Option TI)(t:Nat):Option (List TD) :=
 match D t with
 | some i=>(match i.d with
  |.st fs=>if i.cmp&&fs.all (fun f=>kz D f.2)&&(fs.map (·.1)==List.range fs.length) then some (fs.map fun f=>qP D f.2) else none
  |_=>none)
 |none=>none
def z9:List TD->List AV->Bool
 |[],[]=>true
 |.bool::r,.bool _::s=>z9 r s
 |.str::r,.str _::s=>z9 r s
 |.int _::r,.int ..::s=>z9 r s
 |_,_=>false
def qxU(D:Nat->Option TI)(t:Nat):Option (List TD) :=
 match D t with
 | some i=>(match i.d with
  | .arr n e=>match D e with
   |some j=>if kz D e&&j.size==1 then some (List.replicate n j.d) else none
   |none=>none
  |_=>none)
 |none=>none
def qbh(D:Nat->Option TI)(t:Nat)(a b:List AV):Option Bool :=
 match Ww D t with
 |some c=>if z9 c a then jk a b else none
 | none=>match qxU D t with
  |some c=>if z9 c a then jk a b else none
  |none=>none
def qpm(D:Nat->Option TI)(op:BinOp)(t:Nat)(x y:AV):Option AV :=
 match x,y with
 | .int k a,.int k' b=>match op with
  |.shl=>if b<0 then none else some (.int k (k.wrap (a*2^(min b.toNat k.bits))))
  |.shr=>if b<0 then none else some (.int k (a.fdiv (2^(min b.toNat k.bits))))
  |op=>if k=k' then zV op k a b else none
 |.str a,.str b=>qro op a b
 | .bool a,.bool b=>match op,qP D t with
  |.eql,.bool=>some (.bool (a==b))
  |.neq,.bool=>some (.bool (!(a==b)))
  |_,_=>none
 | .agg a,.agg b=>match op with
  |.eql=>(qbh D t a b).map .bool
  |.neq=>(qbh D t a b).map fun p=>.bool (!p)
  |_=>none
 |_,_=>none
def unA(op:UnOp)(x:AV):Option AV :=
 match op,x with
 |.not,.bool b=>some (.bool (!b))
 |.neg,.int k n=>some (.int k (k.wrap (0-n)))
 |.xor,.int k n=>some (.int k (k.wrap (BitVec.ofInt k.bits (if k.signed then -1 else k.max) ^^^ BitVec.ofInt k.bits n).toNat))
 |_,_=>none
def bytesOf:List (List AV)->Option (List UInt8)
 |[]=>some []
 |[.int .u8 n]::r=>(bytesOf r).map (UInt8.ofNat n.toNat::·)
 |_=>none
def ye(D:Nat->Option TI)(s d:Nat)(x:AV):Option AV :=
 match D s,D d,x with
 | some i,some j,.int _ n=>match i.d,j.d with
  |.int _,.int k=>some (.int k (k.wrap n))
  |_,_=>none
 | some i,some j,.str l=>match i.d,j.d with
  |.str,.str=>some (.str l)
  |_,_=>none
 | some i,some j,.sl 1 rows _=>match i.d,j.d with
  | .sl e,.str=>match D e with
   |some m=>(match m.d with|.int .u8=>(bytesOf rows).map .str|_=>none)
   |none=>none
  |_,_=>none
 |_,_,_=>none
def vi:AV->Option Int
 |.int _ n=>some n
 |_=>none
def Tok.known:Tok->Bool
 |.none=>false
 |_=>true
def zH(n lo hi:Nat)(mx:Option Nat)(tok:Tok):Tok :=
 match mx with
 |some m=>if m=hi/\(0<n\/tok.known=true) then .tight else .none
 | none=>match tok with
  |.tight=>if hi=n then .tight else .none
  |.nil=>.nil
  |.none=>.none
  |.chain t k=>if lo=0/\hi=n then .chain t k else .none
def zM(o:Option AV)(n:Int):Option Int :=
 match o with
 |none=>some n
 |some v=>vi v
def yp(o:Option AV)(hi:Option AV)(h:Int):Bool :=
 match o with
 |none=>true
 |some v=>decide (vi v=some h)&&hi.isSome
def zm(x:AV)(lo hi mx:Option AV):Option AV :=
 match x with
 | .str s=>match zM lo 0,zM hi s.length,mx with
  |some l,some h,none=>if 0<=l/\l<=h/\h<=s.length then some (.str ((s.take h.toNat).drop l.toNat)) else none
  |_,_,_=>none
 | .sl sz rows tok=>match zM lo 0,zM hi rows.length with
  | some l,some h=>
   if 0<=l/\l<=h/\h<=rows.length/\yp mx hi h=true then
    some (.sl sz ((rows.take h.toNat).drop l.toNat) (zH rows.length l.toNat h.toNat (if mx.isSome then some h.toNat else none) tok))
   else none
  |_,_=>none
 | .ms b off len sz=>match zM lo 0,zM hi len,mx with
  |some l,some h,none=>if 0<=l/\l<=h/\h<=len/\(l=0\/l<len) then some (.ms b (off+l.toNat*sz) (h.toNat-l.toNat) sz) else if l=len/\h=len then some (.sl sz [] .none) else none
  |_,_,_=>none
 |_=>none
def Q5(D:Nat->Option TI)(s:Nat)(x:AV)(f:Nat):Option AV :=
 match D s with
 | some i=>match i.d with
  | .st fs=>match fs[f]? with
   | some (off,_)=>match x with
    |.ptr b o=>some (.ptr b (o+off))
    |.rptr c=>some (.rptr (c.drop off))
    |_=>none
   |none=>none
  |_=>none
 |none=>none
def qgN(D:Nat->Option TI)(s:Nat)(x:AV)(f:Nat):Option AV :=
 match D s,x with
 | some i,.agg c=>match i.d with
  | .st fs=>match fs[f]? with
   | some (off,t)=>match D t with
    |some j=>(cut c off (if j.d.agg=some true then j.size else 1)).bind (ZI j.d.agg)
    |none=>none
   |none=>none
  |_=>none
 |_,_=>none
def zY(D:Nat->Option TI)(t:Nat)(x i:AV):Option AV :=
 match D t,vi i with
 | some a,some i=>match a.d with
  | .sl e=>match D e with
   | some j=>match x with
    |.sl sz rows _=>if 0<=i/\(sz=j.size\/rows=[]) then(rows[i.toNat]?).map .rptr else none
    |.ms b off len sz=>if 0<=i/\i<len/\sz=j.size then some (.ptr b (off+i.toNat*sz)) else none
    |_=>none
   |none=>none
  | .arr n e=>match D e with
   | some j=>if 0<=i/\i<n then(match x with
    |.ptr b off=>some (.ptr b (off+i.toNat*j.size))
    |.rptr c=>some (.rptr (c.drop (i.toNat*j.size)))
    |_=>none) else none
   |none=>none
  |_=>none
 |_,_=>none
def qgy(D:Nat->Option TI)(t:Nat)(x i:AV):Option AV :=
 match D t,vi i with
 | some a,some i=>match a.d,x with
  |.str,.str s=>if 0<=i then(s[i.toNat]?).map fun b=>.int .u8 b.toNat else none
  | .arr n e,.agg c=>match D e with
   |some j=>if 0<=i/\i<n then(cut c (i.toNat*j.size) (if j.d.agg=some true then j.size else 1)).bind (ZI j.d.agg) else none
   |none=>none
  |_,_=>none
 |_,_=>none
def Y3(x:AV)(i:Nat):Option AV :=
 match x with
 |.tup vs=>vs[i]?
 |_=>none
def qR:AV->Option (Nat×List (List AV))
 |.sl sz rows _=>some (sz,rows)
 |_=>none
def Yk(D:Nat->Option TI)(σ:St)(t:Nat)(x:AV):Option AV :=
 match D t with
 | some i=>match i.d,x with
  |.str,.str s=>some (.int .i64 s.length)
  |.sl _,.sl _ rows _=>some (.int .i64 rows.length)
  |.sl _,.ms _ _ len _=>some (.int .i64 len)
  |.arr n _,_=>some (.int .i64 n)
  |.map ..,.nilm=>some (.int .i64 0)
  | .map ..,.map b=>match σ.H[b]? with
   |some (.map es _)=>some (.int .i64 es.length)
   |_=>none
  |_,_=>none
 |none=>none
def qm(D:Nat->Option TI)(σ:St)(t:Nat)(s x:AV):Option (AV×St) :=
 match D t,s,qR x with
 | some i,.sl sz rows tok,some (b,a)=>match i.d with
  | .sl e=>match D e with
   | some j=>
    if (sz=j.size\/rows=[])/\(b=j.size\/a=[])/\0<j.size/\j.zero.length=j.size/\j.bytes<=256/\rows.length+a.length<=549755813888 then
     if a=[] then some (.sl sz rows tok,σ) else
     match tok with
     |.none=>none
     |.nil|.tight=>some (.sl j.size (rows++a) (.chain σ.T.length a.length),{σ with T:=σ.T++[some a.length]})
     |.chain t k=>if sz=j.size/\σ.T[t]?=some (some k) then some (.sl j.size (rows++a) (.chain t (k+a.length)),{σ with T:=σ.T.set t (some (k+a.length))}) else none
    else none
   |none=>none
  |_=>none
 |_,_,_=>none
def vR:AV->AV->Option AV
 |.int k x,.int _ y=>some (.int k (if y<x then y else x))
 |_,_=>none
def qkK:AV->AV->AV->Option AV
 |.int k x,.int _ y,.int _ z=>some (.int k (if z<(if y<x then y else x) then z else if y<x then y else x))
 |_,_,_=>none
def qoi:AV->AV->Option AV
 |.int k x,.int _ y=>some (.int k (if y > x then y else x))
 |_,_=>none
def qz(D:Nat->Option TI)(σ:St)(t:Nat)(l c:AV):Option (AV×St) :=
 match D t,vi l,vi c with
 | some i,some l,some c=>match i.d with
  | .sl e=>match D e with
   | some j=>
    if 0<=l/\l<=c/\c<=549755813888/\j.bytes<=256/\0<j.size/\j.zero.length=j.size/\j.zero.all AV.atom then
     if l=0 then some (.sl j.size [] (.chain σ.T.length 0),{σ with T:=σ.T++[some 0]})
     else some (.ms σ.H.length 0 l.toNat j.size,σ.push (.cells ((List.replicate l.toNat j.zero).flatten)))
    else none
   |none=>none
  |_=>none
 |_,_,_=>none
def Zg:AV->AV->Option Bool
 |.int k a,.int k' b=>if k=k' then some (a==b) else none
 |.str a,.str b=>some (a==b)
 |.agg a,.agg b=>jk a b
 |_,_=>none
def jQ(k:AV):List (AV×AV×Nat)->Nat->Option (Option (Nat×AV))
 |[],_=>some none
 | (k',v,_)::r,i=>match Zg k k' with
  |some true=>some (some (i,v))
  |some false=>jQ k r (i+1)
  |none=>none
def zI(D:Nat->Option TI)(k:Nat)(v:AV):Bool :=
 match D k with
 |some i=>(match i.d,v with|.int _,.int .. =>true|.str,.str _=>true|.st _,.agg c=>(Ww D k).any fun a=>z9 a c|_,_=>false)
 |none=>false
def qbN(D:Nat->Option TI)(t:Nat):Option AV:=match D t with
 |some i=>some i.zv
 |none=>none
def zF(D:Nat->Option TI)(σ:St)(t:Nat)(m k:AV)(ok:Bool):Option AV :=
 match D t with
 | some i=>match i.d with
  | .map c a=>
   if zI D c k then
    match (match m with
     |.nilm=>some []
     |.map b=>(match σ.H[b]? with|some (.map es _)=>some es|_=>none)
     |_=>none) with
    | some es=>match jQ k es 0 with
     |some (some (_,v))=>some (if ok then .tup [v,.bool true] else v)
     |some none=>(qbN D a).map fun z=>if ok then .tup [z,.bool false] else z
     |none=>none
    |none=>none
   else none
  |_=>none
 |none=>none
def zq(D:Nat->Option TI)(σ:St)(t:Nat)(m k v:AV):Option St :=
 match D t with
 | some i=>match i.d with
  | .map a _=>
   if zI D a k then
    match m with
    | .map b=>match σ.H[b]? with
     | some (.map es clock)=>match jQ k es 0 with
      |some (some (i,_))=>some {σ with H:=σ.H.set b (.map (es.modify i fun e=>(k,v,e.2.2)) clock)}
      |some none=>some {σ with H:=σ.H.set b (.map (es++[(k,v,clock)]) (clock+1))}
      |none=>none
     |_=>none
    |_=>none
   else none
  |_=>none
 |none=>none
def qaX(σ:St):AV->Option (AV×St)
 | .iter b=>match σ.H[b]? with
  | some (.siter s pos)=>
   if pos<s.length then
    some (.tup [.bool true,.int .i64 pos,.int .i32 (Utf8.decode ⟨s.toArray⟩ pos).1],{σ with H:=σ.H.set b (.siter s (pos+(Utf8.decode ⟨s.toArray⟩ pos).2))})
   else some (.tup [.bool false],σ)
  |_=>none
 |_=>none
def qbJ(G:Nat->AV)(env:Env)(l:List Operand):List AV:=l.map (ev G env)
def zL(D:Nat->Option TI)(σ:St)(b:Builtin)(a:List Nat)(vs:List AV):Option (AV×St) :=
 match b,a,vs with
 |.len,[t],[x]=>(Yk D σ t x).map (·,σ)
 |.append,[t,u],[s,x]=>if u=t then qm D σ t s x else none
 |.min,_,[x,y]=>(vR x y).map (·,σ)
 |.min,_,[x,y,z]=>(qkK x y z).map (·,σ)
 |.max,_,[x,y]=>(qoi x y).map (·,σ)
 |_,_,_=>none
def sem(D:Nat->Option TI)(G:Nat->AV)(env:Env)(σ:St):Op->Option (AV×St)
 |.move x|.assign x=>some (ev G env x,σ)
 | .pick c a b=>match ev G env c with
  |.bool c=>some (if c then ev G env a else ev G env b,σ)
  |_=>none
 | .alloc e=>match D e with
  |some i=>if i.zero.all AV.atom then some (.ptr σ.H.length 0,σ.push (.cells i.zero)) else none
  |none=>none
 |.box _ x=>(qL (ev G env x)).map fun c=>(.ptr σ.H.length 0,σ.push (.cells c))
 |.build t g=>(qV D t (g.toList.map fun p=>(p.1,ev G env p.2))).map (·,σ)
 |.buildSlice t n g=>(qe D t n (g.toList.map fun p=>(p.1,ev G env p.2))).map (·,σ)
 |.load t a=>(wZ D σ t (ev G env a)).map (·,σ)
 |.store t a x=>(Vq D σ t (ev G env a) (ev G env x)).map (.tup [],·)
 | .nilCheck x=>match ev G env x with
  |.ptr b o=>some (.ptr b o,σ)
  |.rptr c=>some (.rptr c,σ)
  |_=>none
 |.binOp op t x y _=>(qpm D op t (ev G env x) (ev G env y)).map (·,σ)
 |.unOp op _ x=>(unA op (ev G env x)).map (·,σ)
 |.convert s d x=>(ye D s d (ev G env x)).map (·,σ)
 |.makeFunc (.func f) a b=>some (.fn f (qbJ G env a.toList) (qbJ G env b.toList),σ)
 |.makeMap _ none=>some (.map σ.H.length,σ.push (.map [] 0))
 |.makeSlice t l c=>qz D σ t (ev G env l) (ev G env c)
 | .slice t x lo hi mx=>match D t with
  | some i=>(match i.d,ev G env x with
   |.str,.str s=>(zm (.str s) (lo.map (ev G env)) (hi.map (ev G env)) (mx.map (ev G env))).map (·,σ)
   | .sl e,x=>(match D e,x with
    |some j,.sl sz rows tok=>if sz=j.size\/rows=[] then(zm (.sl sz rows tok) (lo.map (ev G env)) (hi.map (ev G env)) (mx.map (ev G env))).map (·,σ) else none
    |some j,.ms b off len sz=>if sz=j.size then(zm (.ms b off len sz) (lo.map (ev G env)) (hi.map (ev G env)) (mx.map (ev G env))).map (·,σ) else none
    |_,_=>none)
   |_,_=>none)
  |none=>none
 |.fieldAddr s x f=>(Q5 D s (ev G env x) f).map (·,σ)
 |.field s x f=>(qgN D s (ev G env x) f).map (·,σ)
 |.indexAddr t x i=>(zY D t (ev G env x) (ev G env i)).map (·,σ)
 |.index t x i=>(qgy D t (ev G env x) (ev G env i)).map (·,σ)
 |.lookup t x i ok=>(zF D σ t (ev G env x) (ev G env i) ok).map (·,σ)
 |.mapUpdate t m k v=>(zq D σ t (ev G env m) (ev G env k) (ev G env v)).map (.tup [],·)
 | .range t x=>match D t,ev G env x with
  |some i,.str s=>(match i.d with|.str=>some (.iter σ.H.length,σ.push (.siter s 0))|_=>none)
  |_,_=>none
 |.next it true=>qaX σ (ev G env it)
 |.extract x i=>(Y3 (ev G env x) i).map (·,σ)
 |.call {callee:=.builtin b,args,argTypes}=>zL D σ b argTypes.toList (qbJ G env args.toList)
 |_=>none
structure Chn where
 k:Nat
 B:Nat
 fin:Nat
 cap:Nat
 sz:Nat
structure Kn where
 ro:Nat->Nat->Option Value
 m:Nat->Option Nat
 ch:Nat->Option Chn
 nch:Nat
 bs:Nat->Nat
 fx:Nat->Option Obj
 rw:Nat->Option Obj
def wo(K:Kn)(B off len cap sz:Nat):Tok->Prop
 |.none=>True
 |.nil=>False
 |.tight=>cap=len
 |.chain t k=>t<K.nch/\∀C,K.ch t=some C->k<=C.k/\(k=C.k->C.B=B/\C.sz=sz/\off=0/\len*sz=C.fin/\cap*sz=C.cap)
def Tok.plain:Tok->Prop
 |.chain .. =>False
 |_=>True
mutual
def qi(K:Kn):AV->Value->Prop
 |.any,_=>True
 |.bool b,v=>v=.bool b
 |.int k n,v=>v=.int k n
 |.str s,v=>v=.string ⟨s.toArray⟩
 |.nilp,v=>v=.pointer none
 |.ptr b off,v=>∃B,K.m b=some B/\v=.pointer (some ⟨B,off,none⟩)
 |.rptr c,v=>∃B off,v=.pointer (some ⟨B,off,none⟩)/\qq K B off c
 | .sl sz rows tok,v=>((∃a:Option Addr,v=.slice a 0 0/\(a=none\/tok=.none))/\rows=[]/\tok.plain) \/
  ∃B off cap,v=.slice (some ⟨B,off,none⟩) rows.length cap/\rows.length<=cap/\qQ K B off sz rows/\wo K B off rows.length cap sz tok
 |.ms b off len sz,v=>∃B cap,K.m b=some B/\v=.slice (some ⟨B,off,none⟩) len cap/\len<=cap/\0<cap/\off+cap*sz<=K.bs b
 |.nilm,v=>v=.map none
 |.map b,v=>∃B,K.m b=some B/\v=.map (some B)
 |.iter b,v=>∃B,K.m b=some B/\v=.pointer (some ⟨B,0,none⟩)
 |.fn f a b,v=>∃d e,v=.func (.func f) d e/\qj K a d.toList/\qj K b e.toList
 |.nilf,v=>v=.nilFunc
 |.agg c,v=>∃vs,v=.agg vs/\qj K c vs.toList
 |.tup c,v=>∃vs,v=.tuple vs/\qj K c vs.toList
def qj(K:Kn):List AV->List Value->Prop
 |[],vs=>vs=[]
 |a::r,vs=>∃v b,vs=v::b/\qi K a v/\qj K r b
def qq(K:Kn):Nat->Nat->List AV->Prop
 |_,_,[]=>True
 |B,off,a::r=>(∃v,K.ro B off=some v/\qi K a v)/\qq K B (off+1) r
def qQ(K:Kn):Nat->Nat->Nat->List (List AV)->Prop
 |_,_,_,[]=>True
 |B,off,sz,r::a=>(r.length=sz/\r.all AV.atom=true/\qq K B off r)/\qQ K B (off+sz) sz a
end
structure Kn.le(K K':Kn):Prop where
 ro:∀b o v,K.ro b o=some v->K'.ro b o=some v
 m:∀i B,K.m i=some B->K'.m i=some B
 nch:K.nch<=K'.nch
 ch:∀t C',t<K.nch->K'.ch t=some C'->∃C,K.ch t=some C/\(C'=C\/C.k<C'.k)
 bs:∀i B,K.m i=some B->K'.bs i=K.bs i
 fx:∀B o,K.fx B=some o->K'.fx B=some o
 rw:∀n o,K.rw n=some o->K'.rw n=some o
def Kn.le_refl(K:Kn):K.le K:=⟨fun _ _ _ h=>h,fun _ _ h=>h,qBs _,fun _ C' _ h=>⟨C',h,.inl rfl⟩,fun _ _ _=>rfl,fun _ _ h=>h,fun _ _ h=>h⟩
def qFX:=@Kn.le_refl
def Kn.le_trans{A B C:Kn}(h:A.le B)(k:B.le C):A.le C :=
 ⟨fun b o v x=>k.ro b o v (h.ro b o v x),fun i x y=>k.m i x (h.m i x y),qCq h.nch k.nch,fun t C' d j=>by
  obtain⟨f,h1,a⟩:=k.ch t C' (qBD d h.nch) j;obtain⟨g,h2,c⟩:=h.ch t f d h1;refine⟨g,h2,?_⟩;rcases a with rfl|a<;>rcases c with rfl|c
  . exact .inl rfl
  . exact .inr c
  . exact .inr a
  exact .inr (Nat.lt_trans c a),fun i B e=>by rw[k.bs i B (h.m i B e),h.bs i B e],fun B o e=>k.fx B o (h.fx B o e),fun n o e=>k.rw n o (h.rw n o e)⟩
def qFY:=@Kn.le_trans
structure Kn.le0(K K':Kn):Prop where
 ro:∀b o v,K.ro b o=some v->K'.ro b o=some v
 m:∀i B,K.m i=some B->K'.m i=some B
 nch:K.nch<=K'.nch
 ch:∀t C',t<K.nch->K'.ch t=some C'->∃C,K.ch t=some C/\(C'=C\/C.k<C'.k)
 bs:∀i B,K.m i=some B->K'.bs i=K.bs i
def Kn.le.le0{K K':Kn}(h:K.le K'):K.le0 K':=⟨h.ro,h.m,h.nch,h.ch,h.bs⟩
def wo.mono{K K'}(h:K.le0 K'){B off len cap sz}:∀{tok:Tok},wo K B off len cap sz tok->wo K' B off len cap sz tok
 |.none,_=>trivial
 |.nil,x=>x
 |.tight,x=>x
 | .chain t k,⟨x,y⟩=>⟨qBD x h.nch,fun C' d=>by
  obtain⟨C,a,e⟩:=h.ch t C' x d;obtain⟨b,c⟩:=y C a;rcases e with rfl|e
  . exact⟨b,c⟩
  exact⟨by omega,fun f=>by omega⟩⟩
def K0(ro:Nat->Nat->Option Value):Kn:=⟨ro,fun _=>none,fun _=>none,0,fun _=>0,fun _=>none,fun _=>none⟩
def qwE(K):(K0 K.ro).le K:=⟨fun _ _ _ e=>e,fun _ _ e=>by simp[K0]at e,qDj _,fun t _ a _=>by simp[K0]at a,fun _ _ e=>by simp[K0]at e,fun _ _ e=>by simp[K0]at e,fun _ _ e=>by simp[K0]at e⟩
def J8{K K':Kn}(h:K.le K'):(K0 K.ro).le (K0 K'.ro):=⟨h.ro,fun _ _ e=>by simp[K0]at e,qBs _,fun t _ a _=>by simp[K0]at a,fun _ _ e=>by simp[K0]at e,fun _ _ e=>by simp[K0]at e,fun _ _ e=>by simp[K0]at e⟩
def qha{ro ro'}(h:∀b o v,ro b o=some v->ro' b o=some v):(K0 ro).le (K0 ro'):=⟨h,fun _ _ e=>by simp[K0]at e,qBs _,fun t _ a _=>by simp[K0]at a,fun _ _ e=>by simp[K0]at e,fun _ _ e=>by simp[K0]at e,fun _ _ e=>by simp[K0]at e⟩
mutual
def qi.mono0{K K'}(h:K.le0 K'):∀(a){v:Value},qi K a v->qi K' a v
 |.any,_,_=>by simp[qi]
 |.bool b,_,x=>by simpa[qi] using x
 |.int k n,_,x=>by simpa[qi] using x
 |.str s,_,x=>by simpa[qi] using x
 |.nilp,_,x=>by simpa[qi] using x
 | .ptr b off,_,x=>by
  simp only[qi]at x⊢;obtain⟨B,h1,h2⟩:=x;exact⟨B,h.m _ _ h1,h2⟩
 | .rptr c,_,x=>by
  simp only[qi]at x⊢;obtain⟨B,off,h1,h2⟩:=x;exact⟨B,off,h1,qq.mono0 h c B off h2⟩
 | .sl sz rows tok,_,x=>by
  simp only[qi]at x⊢;rcases x with x|⟨B,off,cap,h1,h2,d,e⟩
  . exact .inl x
  exact .inr ⟨B,off,cap,h1,h2,qQ.mono0 h rows B off sz d,e.mono h⟩
 | .ms b off len sz,_,x=>by
  simp only[qi]at x⊢;obtain⟨B,cap,h1,h2,d,e,g⟩:=x;exact⟨B,cap,h.m _ _ h1,h2,d,e,by rw[h.bs _ _ h1];exact g⟩
 |.nilm,_,x=>by simpa[qi] using x
 | .map b,_,x=>by
  simp only[qi]at x⊢;obtain⟨B,h1,h2⟩:=x;exact⟨B,h.m _ _ h1,h2⟩
 | .iter b,_,x=>by
  simp only[qi]at x⊢;obtain⟨B,h1,h2⟩:=x;exact⟨B,h.m _ _ h1,h2⟩
 | .fn f a b,_,x=>by
  simp only[qi]at x⊢;obtain⟨i,j,h1,h2,d⟩:=x;exact⟨i,j,h1,qj.mono0 h a h2,qj.mono0 h b d⟩
 |.nilf,_,x=>by simpa[qi] using x
 | .agg c,_,x=>by
  simp only[qi]at x⊢;obtain⟨vs,h1,h2⟩:=x;exact⟨vs,h1,qj.mono0 h c h2⟩
 | .tup c,_,x=>by
  simp only[qi]at x⊢;obtain⟨vs,h1,h2⟩:=x;exact⟨vs,h1,qj.mono0 h c h2⟩
def qj.mono0{K K'}(h:K.le0 K'):∀(l){vs:List Value},qj K l vs->qj K' l vs
 |[],_,x=>by simpa[qj] using x
 | a::r,_,x=>by
  simp only[qj]at x⊢;obtain⟨v,b,h1,h2,c⟩:=x;exact⟨v,b,h1,qi.mono0 h a h2,qj.mono0 h r c⟩
def qq.mono0{K K'}(h:K.le0 K'):∀(l) (B off),qq K B off l->qq K' B off l
 |[],_,_,_=>by simp[qq]
 | a::r,B,off,x=>by
  simp only[qq]at x⊢;obtain⟨⟨v,h1,h2⟩,b⟩:=x;exact⟨⟨v,h.ro _ _ _ h1,qi.mono0 h a h2⟩,qq.mono0 h r _ _ b⟩
def qQ.mono0{K K'}(h:K.le0 K'):∀(l) (B off sz),qQ K B off sz l->qQ K' B off sz l
 |[],_,_,_,_=>by simp[qQ]
 | a::r,B,off,sz,x=>by
  simp only[qQ]at x⊢;obtain⟨⟨h1,h0,h2⟩,b⟩:=x;exact⟨⟨h1,h0,qq.mono0 h a _ _ h2⟩,qQ.mono0 h r _ _ _ b⟩
end
def qFZ:=@qj.mono0
def qi.mono{K K'}(h:K.le K')(a){v}:qi K a v->qi K' a v:=qi.mono0 h.le0 a
def qj.mono{K K'}(h:K.le K')(l){vs}:qj K l vs->qj K' l vs:=qFZ h.le0 l
def qQ.mono{K K'}(h:K.le K')(l B off sz):qQ K B off sz l->qQ K' B off sz l:=qQ.mono0 h.le0 l B off sz
def yv(K:Kn):Blk->Option Obj->Prop
 |.cells c,o=>∃cs el,o=some (.cells cs el (0,0))/\c.all AV.atom=true/\c.length<=cs.size/\∀(i:Nat) (a:AV),c[i]?=some a->∃v,cs[i]?=some v/\qi K a v
 | .map es clock,o=>∃f,o=some (.map f clock)/\f.size=es.length /\
  ∀(i:Nat) (k v:AV) (b:Nat),es[i]?=some (k,v,b)->∃e:MapEntry,f[i]?=some e/\qi K k e.key/\qi K v e.val/\e.born=b
 |.siter s pos,o=>o=some (.stringIter ⟨s.toArray⟩ pos)
 | .miter mb since seen st,o=>∃d,o=some (.mapIter d since seen.toArray st) /\
  (match mb with|none=>d=none|some b=>∃B,K.m b=some B/\d=some B)
 |.dead,_=>True
 |.raw n,o=>∃x,K.rw n=some x/\o=some x
def yv.mono{K K'}(h:K.le K'){b o}(x:yv K b o):yv K' b o:=by
 cases b with
 | cells c=>
  obtain⟨cs,el,h1,h0,h2,d⟩:=x;exact⟨cs,el,h1,h0,h2,fun i a e=>by obtain⟨v,f,g⟩:=d i a e;exact⟨v,f,g.mono h⟩⟩
 | map es clock=>
  obtain⟨t,h1,h2,d⟩:=x;exact⟨t,h1,h2,fun i k v b e=>by obtain⟨u,f,g,l,j⟩:=d i k v b e;exact⟨u,f,g.mono h,l.mono h,j⟩⟩
 |siter s pos=>simpa[yv] using x
 | miter mb since seen st=>
  obtain⟨r,h1,h2⟩:=x;refine⟨r,h1,?_⟩
  cases mb with
  |none=>exact h2
  |some b=>obtain⟨B,d,f⟩:=h2;exact⟨B,h.m _ _ d,f⟩
 |dead=>simp[yv]
 |raw n=>obtain⟨y,h1,h2⟩:=x;exact⟨y,h.rw _ _ h1,h2⟩
structure WRel(G:Nat->AV)(w0)(ro0:Nat->Nat->Option Value)(K:Kn)(σ:St)(w):Prop where
 below:Below w0.heap.size w0 w
 glob:∀g,qi (K0 K.ro) (G g) (.pointer (some ⟨g,0,none⟩))
 ro:∀b o v,K.ro b o=some v->w.cell? ⟨b,o,none⟩=some v
 new:∀b o v,K.ro b o=some v->b<w0.heap.size->ro0 b o=some v
 blk:∀i b,σ.H[i]?=some b->∃B,K.m i=some B/\w0.heap.size<=B/\B<w.heap.size/\yv K b w.heap[B]?/\∀o,K.ro B o=none
 inj:∀i j B,K.m i=some B->K.m j=some B->i=j\/σ.H[i]?=some .dead\/σ.H[j]?=some .dead
 mlt:∀i B,K.m i=some B->i<σ.H.length
 ch:∀t k,σ.T[t]?=some (some k)->∃C,K.ch t=some C/\C.k=k/\w0.heap.size<=C.B/\C.fin<=C.cap /\
  (∃cs el,w.heap[C.B]?=some (.cells cs el (0,0))/\cs.size=C.cap)/\(∀o,C.fin<=o->K.ro C.B o=none)/\∀i,K.m i≠some C.B
 chd:∀t C,K.ch t=some C->∃k,σ.T[t]?=some (some k)
 chinj:∀t u C C',K.ch t=some C->K.ch u=some C'->C.B=C'.B->t=u
 nch:K.nch=σ.T.length
 bsz:∀i B cs el fr,K.m i=some B->w.heap[B]?=some (.cells cs el fr)->cs.size=K.bs i
 fx:∀B o,K.fx B=some o->w.heap[B]?=some o/\w0.heap.size<=B/\(∀i,K.m i≠some B)/\∀t C,K.ch t=some C->C.B≠B
 rwl:∀n o,K.rw n=some o->n<2*σ.H.length
structure ERel(K N)(env:Env)(a:Act):Prop where
 size:a.tmps.size=N
 val:∀t,qi K (env t) (a.tmps.getD t undef)
def ERel.mono{K K'}(h:K.le K'){N env a}(x:ERel K N env a):ERel K' N env a :=
 ⟨x.size,fun t=>(x.val t).mono h⟩
def ERel.put{K N env a}(x:ERel K N env a){dst}(hd:∀d,dst=some d->d<N){v v'}(f:qi K v v'):
 ERel K N (upd env dst v) (a.put dst v'):=by
 cases dst with
 |none=>exact x
 | some d=>
  refine⟨by simpa[Act.put] using x.size,fun t=>?_⟩;have g:=hd d rfl;simp only[Act.put,upd];by_cases b:t=d
  . subst b;have:t<a.tmps.size:=by rwa[x.size]
    simpa[qEz,this] using f
  have:=x.val t;have c:¬d=t:=fun e=>b e.symm
  simpa[b,qEz,c] using this
def qi.ofAtom(K v):qi K (ofAtom v) v:=by
 cases v with
 |pointer a=>cases a<;>simp[Abs.ofAtom,qi]
 | slice a l c=>
  unfold Abs.ofAtom;split<;>first|(simp_all[qi,Tok.plain];done)|simp_all[qi]
 |map r=>cases r<;>simp[Abs.ofAtom,qi]
 | func f a b=>
  cases f<;>simp only[Abs.ofAtom]<;>first|(simp[qi];done)|skip
  split
  . rename_i h;obtain⟨h1,h2⟩:=h;refine⟨a,b,rfl,?_,?_⟩
    . have:a = #[]:=qC8 h1;subst this;simp[qj]
    have:b = #[]:=qC8 h2;subst this;simp[qj]
  simp[qi]
 |_=>simp[Abs.ofAtom,qi]
def qj.ofAtoms(K):∀l:List Value,qj K (l.map Abs.ofAtom) l
 |[]=>by simp[qj]
 |v::r=>by simp only[qBz,qj];exact⟨v,r,rfl,qi.ofAtom K v,qj.ofAtoms K r⟩
def qF7:=@qj.ofAtoms
def qi.ofV(K v):qi K (ofV v) v:=by
 have h:=qi.ofAtom K v
 cases v with
 |agg cs=>simp only[Abs.ofV,qi];exact⟨cs,rfl,qF7 K _⟩
 | tuple vs=>
  simp only[Abs.ofV];split
  . rename_i h;have:=qC8 h;subst this;exact⟨#[],rfl,by simp[qj]⟩
  simp[qi]
 |_=>simpa only[Abs.ofV] using h
section
variable {P:Program}{G:Nat->AV}{w0:World}{ro0:Nat->Nat->Option Value}{K:Kn}{σ:St}{w:World}{N:Nat}{env:Env}{a:Act}
def Jn(c:WRel G w0 ro0 K σ w)(b:ERel K N env a)(x):qi K (ev G env x) (a.eval x):=by
 cases x with
 |tmp t=>exact b.val t
 |const v=>exact qi.ofV K v
 |global g=>exact(c.glob g).mono (qwE K)
 |func f=>exact⟨#[],#[],rfl,by simp[qj],by simp[qj]⟩
def QR(c:WRel G w0 ro0 K σ w)(b:ERel K N env a):∀l:List Operand,qj K (qbJ G env l) (l.map a.eval)
 |[]=>by simp[qbJ,qj]
 | x::r=>by
  simp only[qbJ,qBz,qj];exact⟨_,_,rfl,Jn c b x,QR c b r⟩
end
def qj.length{K}:∀{l:List AV}{vs:List Value},qj K l vs->vs.length=l.length
 |[],_,h=>by simp only[qj]at h;simp[h]
 | a::r,_,h=>by
  simp only[qj]at h;obtain⟨v,b,rfl,_,h2⟩:=h;simp[qj.length h2]
def qj.get{K}:∀{l:List AV}{vs:List Value},qj K l vs->∀(i:Nat) (a:AV),l[i]?=some a->∃v,vs[i]?=some v/\qi K a v
 |[],_,h,i,a,e=>by simp at e
 | a::r,_,h,i,b,e=>by
  simp only[qj]at h;obtain⟨v,c,rfl,h1,h2⟩:=h
  cases i with
  |zero=>simp at e;subst e;exact⟨v,by simp,h1⟩
  |succ i=>simp at e⊢;exact qj.get h2 i b e
def qj.intro{K}:∀{l:List AV}{vs:List Value},vs.length=l.length->(∀(i:Nat) (a:AV),l[i]?=some a->∃v,vs[i]?=some v/\qi K a v)->qj K l vs
 |[],vs,h,_=>by simp only[qj];exact qBy (by simpa using h)
 |a::r,[],h,_=>by simp at h
 | a::r,v::c,h,k=>by
  simp only[qj];obtain⟨v',e,h1⟩:=k 0 a (by simp);simp at e;subst e;refine⟨v,c,rfl,h1,qj.intro (by simpa using h) fun i b e=>?_⟩;simpa using k (i+1) b (by simpa using e)
def qj.append{K}:∀{l m:List AV}{vs us:List Value},qj K l vs->qj K m us->qj K (l++m) (vs++us)
 |[],_,_,_,h,k=>by simp only[qj]at h;subst h;simpa using k
 | a::r,_,_,_,h,k=>by
  simp only[qj]at h;obtain⟨v,b,rfl,h1,h2⟩:=h;simp only[qBV,qj];exact⟨v,_,rfl,h1,qj.append h2 k⟩
def qi.oneCell{K a v}(h:qi K a v)(b:a.atom=true):v.oneCell'=true:=by
 cases a<;>simp only[AV.atom,qi]at h b
 case any=>cases b
 case agg=>cases b
 case tup=>cases b
 case sl=>rcases h with⟨⟨_,rfl,_⟩,_⟩|⟨_,_,_,rfl,_⟩<;>rfl
 all_goals first
  |(subst h;rfl)
  |(obtain⟨_,_,rfl⟩:=h;rfl)
  |(obtain⟨_,_,rfl,_⟩:=h;rfl)
  |(obtain⟨_,_,_,rfl,_⟩:=h;rfl)
def qj.oneCells{K}:∀{l:List AV}{vs:List Value},qj K l vs->l.all AV.atom=true->∀v∈vs,v.oneCell'=true
 |[],_,h,_,v,d=>by simp only[qj]at h;subst h;cases d
 | a::r,_,h,b,u,c=>by
  simp only[qj]at h;obtain⟨v,e,rfl,h1,h2⟩:=h;simp only[qCH,qBq]at b;rcases qBN.1 c with rfl|c
  . exact h1.oneCell b.1
  exact qj.oneCells h2 b.2 u c
def J5{K x v c}(h:qi K x v)(a:qL x=some c):qj K c v.cells.toList/\c.all AV.atom=true:=by
 cases x with
 |any=>simp[qL]at a
 |tup vs=>simp[qL]at a
 | agg cs=>
  simp only[qL]at a;split at a
  . rename_i b;simp at a;subst a;simp only[qi]at h;obtain⟨vs,rfl,h2⟩:=h;exact⟨h2,b⟩
  simp at a
 | _=>
  simp only[qL,qBI]at a;subst a;have h1:=h.oneCell rfl;refine⟨?_,rfl⟩;cases v<;>first|(simp[Value.oneCell']at h1;done)|exact⟨_,_,rfl,h,rfl⟩
def qiR(K:Kn)(w:World)(B off:Nat)(c:List AV):Prop :=
 ∃vs:List Value,qj K c vs/\∀(j) (v),vs[j]?=some v->w.cell? ⟨B,off+j,none⟩=some v
def qiR.of_cellsAt{K w}(d:∀b o v,K.ro b o=some v->w.cell? ⟨b,o,none⟩=some v)(B):∀(c) (off),qq K B off c->qiR K w B off c
 |[],off,_=>⟨[],by simp[qj],by simp⟩
 | a::r,off,h=>by
  simp only[qq]at h;obtain⟨⟨v,h1,h2⟩,g⟩:=h;obtain⟨vs,i,f⟩:=qiR.of_cellsAt d B r (off+1) g;refine⟨v::vs,by simp only[qj];exact⟨v,vs,rfl,h2,i⟩,fun j u e=>?_⟩
  cases j with
  |zero=>simp at e;subst e;simpa using d _ _ _ h1
  |succ j=>simp at e;have:=f j u e;rwa[show off+1+j=off+(j+1) by omega]at this
def qF8:=@qiR.of_cellsAt
def qq.drop{K}(B):∀(c) (off n),qq K B off c->qq K B (off+n) (c.drop n)
 |[],off,n,_=>by simp[qq]
 |a::r,off,0,h=>by simpa using h
 | a::r,off,n+1,h=>by
  simp only[qq]at h;have:=qq.drop B r (off+1) n h.2;rw[show off+1+n=off+(n+1) by omega]at this;simpa using this
def qq.take{K}(B):∀(c) (off n),qq K B off c->qq K B off (c.take n)
 |[],off,n,_=>by simp[qq]
 |a::r,off,0,h=>by simp[qq]
 | a::r,off,n+1,h=>by
  simp only[qq,qC6]at h⊢;exact⟨h.1,qq.take B r (off+1) n h.2⟩
def qq.get{K}(B):∀(c) (off),qq K B off c->∀(i) (a),c[i]?=some a->∃v,K.ro B (off+i)=some v/\qi K a v
 |[],_,_,i,a,e=>by simp at e
 | b::r,off,h,i,a,e=>by
  simp only[qq]at h
  cases i with
  |zero=>simp at e;subst e;simpa using h.1
  |succ i=>simp at e;have:=qq.get B r (off+1) h.2 i a e;rwa[show off+1+i=off+(i+1) by omega]at this
def qq.intro{K}(B):∀(c) (off),(∀(i) (a),c[i]?=some a->∃v,K.ro B (off+i)=some v/\qi K a v)->qq K B off c
 |[],_,_=>by simp[qq]
 | b::r,off,h=>by
  simp only[qq];exact⟨by simpa using h 0 b (by simp),qq.intro B r (off+1) fun i a e=>by have:=h (i+1) a (by simpa using e);rwa[show off+(i+1)=off+1+i by omega]at this⟩
def qF9:=@qq.intro
def qQ.get{K}(B sz):∀(c) (off),qQ K B off sz c->∀(i) (r),c[i]?=some r->r.length=sz/\r.all AV.atom=true/\qq K B (off+i*sz) r
 |[],_,_,i,a,e=>by simp at e
 | b::c,off,h,i,r,e=>by
  simp only[qQ]at h
  cases i with
  |zero=>simp at e;subst e;simpa using h.1
  |succ i=>simp at e;have:=qQ.get B sz c (off+sz) h.2 i r e;rwa[show off+sz+i*sz=off+(i+1)*sz by rw[qCx];omega]at this
def qQ.intro{K}(B sz):∀(a) (off),(∀(i) (r),a[i]?=some r->r.length=sz/\r.all AV.atom=true/\qq K B (off+i*sz) r)->qQ K B off sz a
 |[],_,_=>by simp[qQ]
 | b::a,off,h=>by
  simp only[qQ];exact⟨by simpa using h 0 b (by simp),qQ.intro B sz a (off+sz) fun i r e=>by have:=h (i+1) r (by simpa using e);rwa[show off+(i+1)*sz=off+sz+i*sz by rw[qCx];omega]at this⟩
def qGa:=@qQ.intro
def qQ.flat{K}(B sz):∀(b) (off),qQ K B off sz b->qq K B off b.flatten/\b.flatten.length=b.length*sz/\b.flatten.all AV.atom=true
 |[],_,_=>by simp[qq]
 | r::b,off,h=>by
  simp only[qQ]at h;obtain⟨⟨h1,h2,c⟩,g⟩:=h;obtain⟨d,f,j⟩:=qQ.flat B sz b (off+sz) g;refine⟨?_,by simp[h1,qCx];rw[<- List.length_flatten,f];omega,by simp[qCU,h2];simpa using j⟩;simp only[qB7];refine qF9 B _ off fun i a e=>?_
  rw[qCn]at e;split at e
  . exact qq.get B _ _ c i a e
  rename_i l;have:=qq.get B _ _ d (i-r.length) a e
  rwa[show off+sz+(i-r.length)=off+i by omega]at this
def jz(B off j):(⟨B,off,none⟩:Addr).add j=⟨B,off+j,none⟩:=by
 unfold Addr.add;split<;>simp_all
def Kn.addM(K:Kn)(i B n:Nat):Kn:={K with m:=fun j=>if j=i then some B else K.m j,bs:=fun j=>if j=i then n else K.bs j}
def yc:Obj->Nat
 |.cells cs _ _=>cs.size
 |_=>0
def Kn.addRo(K:Kn)(B lo:Nat)(vs:List Value):Kn :=
 {K with ro:=fun b o=>if b=B/\lo<=o/\o<lo+vs.length then vs[o-lo]? else K.ro b o}
def Kn.setCh(K:Kn)(t:Nat)(C:Chn)(n:Nat):Kn:={K with ch:=fun u=>if u=t then some C else K.ch u,nch:=n}
section
variable {P:Program}{G:Nat->AV}{w0:World}{ro0:Nat->Nat->Option Value}{K:Kn}{σ:St}{w:World}
def WRel.ro_lt(h:WRel G w0 ro0 K σ w){b o v}(e:K.ro b o=some v):b<w.heap.size :=
 World.block_lt_of_cell? w ⟨b,o,none⟩ (h.ro b o v e)
def WRel.ro_new(h:WRel G w0 ro0 K σ w)(o):K.ro w.heap.size o=none:=by
 cases e:K.ro w.heap.size o with
 |none=>rfl
 |some v=>have:=h.ro_lt e;omega
def WRel.m_lt(h:WRel G w0 ro0 K σ w){i B}(e:K.m i=some B):B<w.heap.size/\w0.heap.size<=B:=by
 have hi:=h.mlt i B e;obtain⟨B',h1,h2,a,_⟩:=h.blk i σ.H[i] (by simp[hi]);rw[e]at h1;cases h1;exact⟨a,h2⟩
def WRel.ch_lt(h:WRel G w0 ro0 K σ w){t C}(e:K.ch t=some C):C.B<w.heap.size/\w0.heap.size<=C.B/\t<K.nch:=by
 obtain⟨k,a⟩:=h.chd t C e;obtain⟨C',h1,_,c,_,⟨cs,el,b,_⟩,_⟩:=h.ch t k a;rw[e]at h1;cases h1;have:=(qBk.1 a).1;exact⟨(qCp.1 b).1,c,by rw[h.nch];exact this⟩
def WRel.size_le(h:WRel G w0 ro0 K σ w):w0.heap.size<=w.heap.size:=h.below.size
def WRel.drew(h:WRel G w0 ro0 K σ w):WRel G w0 ro0 K σ w.drew :=
 ⟨h.below.drew,h.glob,h.ro,h.new,h.blk,h.inj,h.mlt,h.ch,h.chd,h.chinj,h.nch,h.bsz,h.fx,h.rwl⟩
def Kn.withFx(K:Kn)(f:Nat->Option Obj):Kn:={K with fx:=f}
def Kn.le0_fx(K:Kn)(f g):(K.withFx f).le0 (K.withFx g):=⟨fun _ _ _ e=>e,fun _ _ e=>e,qBs _,fun t C _ e=>⟨C,e,.inl rfl⟩,fun _ _ _=>rfl⟩
def qi.refx{K a v}(f)(h:qi K a v):qi (K.withFx f) a v:=qi.mono0 (Kn.le0_fx K K.fx f) a h
def ERel.refx{K N env a}(f)(h:ERel K N env a):ERel (K.withFx f) N env a:=⟨h.size,fun t=>(h.val t).refx f⟩
def yv.refx{K b o}(f)(x:yv K b o):yv (K.withFx f) b o:=by
 cases b with
 | cells c=>
  obtain⟨cs,el,h1,h0,h2,g⟩:=x;exact⟨cs,el,h1,h0,h2,fun i a e=>by obtain⟨v,h,d⟩:=g i a e;exact⟨v,h,d.refx f⟩⟩
 | map es clock=>
  obtain⟨m,h1,h2,g⟩:=x;exact⟨m,h1,h2,fun i k v b e=>by obtain⟨r,h,d,l,j⟩:=g i k v b e;exact⟨r,h,d.refx f,l.refx f,j⟩⟩
 |siter s pos=>simpa[yv] using x
 |miter mb since seen st=>exact x
 |dead=>simp[yv]
 |raw n=>exact x
def WRel.unfix(h:WRel G w0 ro0 K σ w){f}(g:∀B o,f B=some o->K.fx B=some o):WRel G w0 ro0 (K.withFx f) σ w :=
 ⟨h.below,h.glob,h.ro,h.new,fun i b e=>by obtain⟨B,h1,h2,d,c,a⟩:=h.blk i b e;exact⟨B,h1,h2,d,c.refx f,a⟩,h.inj,h.mlt,h.ch,h.chd,h.chinj,h.nch,h.bsz,fun B o e=>h.fx B o (g B o e),h.rwl⟩
def WRel.refix(h:WRel G w0 ro0 K σ w){B o}(z:K.fx B=some o)(F:∀c el fr,o≠.cells c el fr)(g):
 WRel G w0 ro0 (K.withFx fun b=>if b=B then some g else K.fx b) σ {w with heap:=w.heap.setIfInBounds B g}:=by
 obtain⟨b1,b2,b3,b4⟩:=h.fx B o z;have a:∀k,k≠B->(w.heap.setIfInBounds B g)[k]?=w.heap[k]?:=fun k m=>by simp[qDO (Ne.symm m)]
 have A:∀b o v,K.ro b o=some v->b≠B:=by
  intro b d v e E;subst E;have:=h.ro _ _ _ e;unfold World.cell? at this;rw[b1]at this;cases o<;>first|exact F _ _ _ rfl|simp at this
 refine⟨h.below.trans ⟨rfl,rfl,rfl,by simp,fun k m=>a k (by omega)⟩,h.glob,?_,h.new,?_,h.inj,h.mlt,?_,h.chd,h.chinj,h.nch,?_,?_,h.rwl⟩
 . intro b d v e;rw[World.cell?_of_block (w:=w) (a b (A b d v e))];exact h.ro b d v e
 . intro i b e;obtain⟨B',h1,h2,u,D,r⟩:=h.blk i b e;refine⟨B',h1,h2,by simpa using u,?_,r⟩;rw[a B' (fun e=>b3 i (e▸h1))];exact D.refx _
 . intro t k e;obtain⟨C,c1,c2,c3,c4,⟨cs,el,J,I⟩,y,x⟩:=h.ch t k e;refine⟨C,c1,c2,c3,c4,⟨cs,el,?_,I⟩,y,x⟩
   rwa[a C.B (b4 t C c1)]
 . intro i B' cs el fr j s;have l:=s;rw[a B' (fun e=>b3 i (e▸j))]at l;exact h.bsz i B' cs el fr j l
 intro B' d e;by_cases f:B'=B
 . subst f;simp only[Kn.withFx,if_pos]at e;cases e;exact⟨by simp[(qCp.1 b1).1],b2,b3,b4⟩
 simp only[Kn.withFx,if_neg f]at e;rw[a B' f];exact h.fx B' d e
def WRel.allocFix(h:WRel G w0 ro0 K σ w)(o):WRel G w0 ro0 (K.withFx fun b=>if b=w.heap.size then some o else K.fx b) σ (w.alloc o):=by
 have m:=h.size_le;have a:∀k,k<w.heap.size->(w.alloc o).heap[k]?=w.heap[k]?:=fun k E=>Below.heap_alloc w o k E
 have f:∀k x,w.heap[k]?=some x->k<w.heap.size:=fun k x e=>(qCp.1 e).1
 have N:(w.alloc o).heap.size=w.heap.size+1:=by show(w.heap.push o).size=_;simp
 refine⟨h.below.alloc m o,h.glob,?_,h.new,?_,h.inj,h.mlt,?_,h.chd,h.chinj,h.nch,?_,?_,h.rwl⟩
 . intro b u v e;rw[World.cell?_of_block (w:=w) (a b (h.ro_lt e))];exact h.ro b u v e
 . intro i b e;obtain⟨B',h1,h2,s,A,r⟩:=h.blk i b e;refine⟨B',h1,h2,by omega,?_,r⟩;rw[a B' s];exact A.refx _
 . intro t k e;obtain⟨C,c1,c2,c3,c4,⟨cs,el,l,I⟩,z,y⟩:=h.ch t k e;exact⟨C,c1,c2,c3,c4,⟨cs,el,by rw[a C.B (f _ _ l)];exact l,I⟩,z,y⟩
 . intro i B' cs el fr c d;rw[a B' (h.m_lt c).1]at d;exact h.bsz i B' cs el fr c d
 intro B' F e;by_cases g:B'=w.heap.size
 . subst g;simp only[Kn.withFx,if_pos]at e;cases e;refine⟨(by show(w.heap.push o)[w.heap.size]?=some o;simp),m,fun i e=>?_,fun t C e M=>?_⟩
   . have:=(h.m_lt e).1;omega
   have:=(h.ch_lt e).1;omega
 simp only[Kn.withFx,if_neg g]at e;obtain⟨j,J,L,D⟩:=h.fx B' F e;exact⟨by rw[a B' (f _ _ j)];exact j,J,L,D⟩
def WRel.fx_lt(h:WRel G w0 ro0 K σ w){B o}(e:K.fx B=some o):B<w.heap.size:=(qCp.1 (h.fx B o e).1).1
def Kn.le_fx{K:Kn}{f:Nat->Option Obj}(a:∀B o,K.fx B=some o->f B=some o):K.le (K.withFx f) :=
 ⟨fun _ _ _ e=>e,fun _ _ e=>e,qBs _,fun t C _ e=>⟨C,e,.inl rfl⟩,fun _ _ _=>rfl,a,fun _ _ e=>e⟩
def Kn.le_swap{K K':Kn}{f g:Nat->Option Obj}(h:(K.withFx f).le K')(a:∀B o,K.fx B=some o->g B=some o):K.le (K'.withFx g) :=
 ⟨h.ro,h.m,h.nch,h.ch,h.bs,a,h.rw⟩
def qFS:=@Kn.le_swap
def Kn.le_addM(h:WRel G w0 ro0 K σ w)(B n):K.le (K.addM σ.H.length B n) :=
 ⟨fun _ _ _ e=>e,fun i B' e=>by
  have:=h.mlt i B' e;have a:¬i=σ.H.length:=by omega
  simp[*,Kn.addM],qBs _,fun t C _ e=>⟨C,e,.inl rfl⟩,fun i B' e=>by
  have:=h.mlt i B' e;simp[Kn.addM,show ¬i=σ.H.length by omega],fun _ _ e=>e,fun _ _ e=>e⟩
def qFT:=@Kn.le_addM
def WRel.push(h:WRel G w0 ro0 K σ w){b o}(hb:yv K b (some o)):
 WRel G w0 ro0 (K.addM σ.H.length w.heap.size (yc o)) (σ.push b) (w.alloc o):=by
 have r:=qFT h w.heap.size (yc o);have y:=h.size_le;refine⟨h.below.alloc y o,fun g=>(h.glob g).mono (J8 r),?_,h.new,?_,?_,?_,?_,h.chd,h.chinj,h.nch,?_,?_,?_⟩
 . intro b E v e;have u:=h.ro_lt e;rw[World.cell?_of_block (w:=w) (Below.heap_alloc w o b u)];exact h.ro b E v e
 . intro i b' e;simp only[St.push,qCn]at e;split at e
   . rename_i hi;obtain⟨B,h1,h2,d,f,s⟩:=h.blk i b' e;refine⟨B,r.m _ _ h1,h2,by simp;omega,?_,s⟩;rw[Below.heap_alloc w o B d];exact f.mono r
   rename_i hi;have J:i=σ.H.length:=by
    rcases qET (i-σ.H.length) 1 with h1|h1
    . omega
    simp[qBW (l:=[b]) (by simpa using h1)]at e
   subst J;simp at e;subst e;refine⟨w.heap.size,by simp[Kn.addM],y,by simp,?_,h.ro_new⟩;rw[heap_alloc_new];exact hb.mono r
 . intro i j B c a;simp only[Kn.addM]at c a;split at c<;>split at a
   . left;omega
   . simp at c;subst c;have:=(h.m_lt a).1;omega
   . simp at a;subst a;have:=(h.m_lt c).1;omega
   have A:=h.mlt i B c;have I:=h.mlt j B a;simp only[St.push,qBv A,qBv I];exact h.inj i j B c a
 . intro i B e;simp only[Kn.addM]at e;simp only[St.push,qBp,qBR];split at e
   . omega
   have:=h.mlt i B e;omega
 . intro t k e;obtain⟨C,h1,h2,d,f,⟨cs,el,s,D⟩,z,F⟩:=h.ch t k e;refine⟨C,h1,h2,d,f,⟨cs,el,?_,D⟩,z,?_⟩
   . rw[Below.heap_alloc w o C.B (h.ch_lt h1).1];exact s
   intro i a;simp only[Kn.addM]at a;split at a
   . simp at a;have:=(h.ch_lt h1).1;omega
   exact F i a
 . intro i B cs el fr c a;simp only[Kn.addM]at c⊢;split at c
   . rename_i hi;simp at c;subst c;rw[heap_alloc_new]at a;cases a;simp[hi,yc]
   rename_i hi;rw[Below.heap_alloc w o B (h.m_lt c).1]at a;simp only[hi,if_false];exact h.bsz i B cs el fr c a
 . intro B x e;obtain⟨h1,h2,d,f⟩:=h.fx B x e;have u:=(qCp.1 h1).1;refine⟨by rw[Below.heap_alloc w o B u];exact h1,h2,fun i a=>?_,f⟩;simp only[Kn.addM]at a;split at a
   . simp at a;omega
   exact d i a
 intro n x e;have:=h.rwl n x e;simp only[St.push,qBp,qBR];omega
def Kn.le_addRo(B lo vs)(a:∀o,lo<=o->o<lo+vs.length->K.ro B o=none):K.le (K.addRo B lo vs) :=
 ⟨fun b o v e=>by
  simp only[Kn.addRo];split
  . rename_i c;obtain⟨rfl,h1,h2⟩:=c;rw[a o h1 h2]at e;cases e
  exact e,fun _ _ e=>e,qBs _,fun t C _ e=>⟨C,e,.inl rfl⟩,fun _ _ _=>rfl,fun _ _ e=>e,fun _ _ e=>e⟩
def WRel.newRo(h:WRel G w0 ro0 K σ w)(vs:List Value)(cs)(el:TypeId)(I:∀(j:Nat) (v:Value),vs[j]?=some v->cs[j]?=some v):
 WRel G w0 ro0 (K.addRo w.heap.size 0 vs) σ (w.alloc (.cells cs el))/\K.le (K.addRo w.heap.size 0 vs):=by
 have f:K.le (K.addRo w.heap.size 0 vs):=Kn.le_addRo _ _ _ (fun o _ _=>h.ro_new o);have F:=h.size_le;refine⟨⟨h.below.alloc F _,fun g=>(h.glob g).mono (J8 f),?_,?_,?_,h.inj,h.mlt,?_,h.chd,h.chinj,h.nch,fun i B cs el fr m r=>by
  rw[Below.heap_alloc w _ B (h.m_lt m).1]at r;exact h.bsz i B cs el fr m r,fun B x e=>by
  obtain⟨h1,h2,a,c⟩:=h.fx B x e;exact⟨by rw[Below.heap_alloc w _ B (qCp.1 h1).1];exact h1,h2,a,c⟩,h.rwl⟩,f⟩
 . intro b o v e;simp only[Kn.addRo]at e;split at e
   . rename_i l;obtain⟨rfl,h1,h2⟩:=l;have:=I _ _ e;simp;simpa using this
   have z:=h.ro_lt e;rw[World.cell?_of_block (w:=w) (Below.heap_alloc w _ b z)];exact h.ro b o v e
 . intro b o v e hb;simp only[Kn.addRo]at e;split at e
   . rename_i l;obtain⟨rfl,_⟩:=l;omega
   exact h.new b o v e hb
 . intro i b e;obtain⟨B,h1,h2,a,c,d⟩:=h.blk i b e;refine⟨B,h1,h2,by simp;omega,by rw[Below.heap_alloc w _ B a];exact c.mono f,fun o=>?_⟩;simp only[Kn.addRo];rw[if_neg (by omega)];exact d o
 intro t k e;obtain⟨C,h1,h2,a,c,⟨s,A,d,y⟩,u,D⟩:=h.ch t k e;refine⟨C,h1,h2,a,c,⟨s,A,?_,y⟩,fun o E=>?_,D⟩
 . rw[Below.heap_alloc w _ C.B (h.ch_lt h1).1];exact d
 simp only[Kn.addRo];have:=(h.ch_lt h1).1;rw[if_neg (by omega)];exact u o E
def qq.addRo{B lo vs c}(h:qj K c vs)(b:K.le (K.addRo B lo vs)):qq (K.addRo B lo vs) B lo c:=by
 refine qF9 B c lo fun i a e=>?_
 obtain⟨v,h1,h2⟩:=h.get i a e;refine⟨v,?_,h2.mono b⟩;have d:=(qBk.1 h1).1;show(if B=B/\lo<=lo+i/\lo+i<lo+vs.length then vs[lo+i-lo]? else K.ro B (lo+i))=some v
 rwa[if_pos ⟨rfl,by omega,by omega⟩,show lo+i-lo=i by omega]
end
def Qj:∀(new c) (off),(zC c off new).length=c.length
 |[],c,off=>by simp[zC]
 |v::r,c,off=>by simp[zC,Qj r]
def wV:∀(new c) (off i),off+new.length<=c.length->(zC c off new)[i]?=if off<=i/\i<off+new.length then new[i-off]? else c[i]?
 |[],c,off,i,_=>by simp[zC];intro h1 h2;omega
 | v::r,c,off,i,h=>by
  simp only[qBB]at h;simp only[zC];rw[wV r _ _ _ (by simp;omega)];by_cases h1:i=off
  . subst h1;have:i<c.length:=by omega
    rw[if_neg (by omega),if_pos ⟨qBs _,by simp⟩];simp[this]
  by_cases h2:off+1<=i/\i<off+1+r.length
  . rw[if_pos h2,if_pos ⟨by omega,by simp;omega⟩];have:i-off=(i-(off+1))+1:=by omega
    rw[this];simp
  rw[if_neg h2,if_neg (by simp;omega)];rw[qBn (by omega)]
def putAt_all:∀(new c) (off),c.all AV.atom=true->new.all AV.atom=true->(zC c off new).all AV.atom=true
 |[],c,off,h,_=>by simpa[zC] using h
 | v::r,c,off,h,k=>by
  simp only[qCH,qBq]at k;refine putAt_all r _ _ ?_ k.2;rw[qBx]at h⊢;intro x a;rcases qDm a with h1|h1
  . exact h x h1
  rw[h1];exact k.1
section
variable {P:Program}{G:Nat->AV}{w0:World}{ro0:Nat->Nat->Option Value}{K:Kn}{σ:St}{w w':World}
def WRel.setBlk(h:WRel G w0 ro0 K σ w){i B b'}(hi:i<σ.H.length)(d:K.m i=some B)(T:w'.os=w.os)(V:w'.tape=w.tape)(U:w'.output=w.output)
 (a0:w'.heap.size=w.heap.size) (l:∀k,k≠B->w'.heap[k]?=w.heap[k]?) (hb:yv K b' w'.heap[B]?)
 (J:σ.H[i]?≠some .dead) (Q:∀cs el fr,w'.heap[B]?=some (.cells cs el fr)->cs.size=K.bs i)
 (X:∀cs el fr,w'.heap[B]?=some (.cells cs el fr)->∃u z A,w.heap[B]?=some (.cells u z A)):WRel G w0 ro0 K {σ with H:=σ.H.set i b'} w':=by
 have Z:=h.m_lt d;have keep:∀j,σ.H[j]?=some Blk.dead->(σ.H.set i b')[j]?=some Blk.dead:=fun j r=>by
  have E:i≠j:=by rintro rfl;exact J r
  rwa[qBn E]
 refine⟨h.below.trans ⟨T,V,U,by omega,fun k hk=>l k (by omega)⟩,h.glob,?_,h.new,?_,fun I j B' s a=>(h.inj I j B' s a).imp_right (Or.imp (keep _) (keep _)),fun I B' e=>by simpa using h.mlt I B' e,?_,h.chd,h.chinj,h.nch,?_,?_,fun n o e=>by simpa using h.rwl n o e⟩
 . intro b o v e;have E:b≠B:=by
    rintro rfl;obtain⟨B',h1,_,_,_,f⟩:=h.blk i σ.H[i] (by simp[hi]);rw[d]at h1;cases h1;rw[f o]at e;cases e
   rw[World.cell?_of_block (w:=w) (l b E)];exact h.ro b o v e
 . intro j b e;by_cases r:j=i
   . subst r;simp[hi]at e;subst e;obtain⟨B',h1,h2,D,_,f⟩:=h.blk j σ.H[j] (by simp[hi]);rw[d]at h1;cases h1;exact⟨B,d,h2,by omega,hb,f⟩
   simp[qBn (Ne.symm r)]at e;obtain⟨B',h1,h2,D,L,f⟩:=h.blk j b e;refine⟨B',h1,h2,by omega,?_,f⟩;by_cases g:B'=B
   . subst g;rcases h.inj _ _ _ h1 d with c|c|c
     . exact absurd c r
     . rw[e]at c;cases c;simp[yv]
     exact absurd c J
   rwa[l B' g]
 . intro t k e;obtain⟨C,h1,h2,D,L,⟨cs,el,f,c⟩,R,P⟩:=h.ch t k e;exact⟨C,h1,h2,D,L,⟨cs,el,by rw[l C.B (fun e=>P i (by rw[d,e]))];exact f,c⟩,R,P⟩
 . intro j B' cs el fr s a;by_cases g:B'=B
   . subst g;obtain⟨Y,y,M,F,N,g5⟩:=h.blk i σ.H[i] (by simp[hi]);rw[d]at y;cases y;by_cases S:j=i
     . subst S;exact Q cs el fr a
     have W:=Q cs el fr a;obtain⟨u,z,A,O⟩:=X cs el fr a;rw[W,<- h.bsz i B' u z A d O,h.bsz j B' u z A s O]
   rw[l B' g]at a;exact h.bsz j B' cs el fr s a
 intro B' x e;obtain⟨y,M,F,N⟩:=h.fx B' x e;have g:B'≠B:=fun a=>F i (by rwa[a])
 exact⟨by rw[l B' g];exact y,M,F,N⟩
def Kn.le_chain{t n C' B lo vs}(i:∀o,lo<=o->o<lo+vs.length->K.ro B o=none)
 (f:K.nch<=n) (a:t<K.nch->∃C,K.ch t=some C/\C.k<C'.k):K.le ((K.addRo B lo vs).setCh t C' n):=by
 have h1:=Kn.le_addRo B lo vs i;refine⟨h1.ro,h1.m,f,fun u h g e=>?_,fun _ _ _=>rfl,fun _ _ e=>e,fun _ _ e=>e⟩;simp only[Kn.setCh]at e;split at e
 . rename_i d;subst d;cases e;obtain⟨C,b,c⟩:=a g;exact⟨C,b,.inr c⟩
 exact⟨h,e,.inl rfl⟩
def WRel.chainNew(h:WRel G w0 ro0 K σ w)(vs:List Value)(cs)(el:TypeId)(X:∀(j:Nat) (v:Value),vs[j]?=some v->cs[j]?=some v)
 (t k n:Nat) (T') (hT:∀u k',T'[u]?=some (some k')->(u=t/\k'=k)\/(u≠t/\σ.T[u]?=some (some k'))) (U:T'[t]?=some (some k))
 (Y:∀u C,u≠t->K.ch u=some C->∃k',T'[u]?=some (some k')) (Z:n=T'.length) (W:K.nch<=n) (R:t<K.nch->∃C,K.ch t=some C/\C.k<k) (sz) (P:vs.length<=cs.size):
 WRel G w0 ro0 ((K.addRo w.heap.size 0 vs).setCh t ⟨k,w.heap.size,vs.length,cs.size,sz⟩ n) {σ with T:=T'} (w.alloc (.cells cs el)) /\
  K.le ((K.addRo w.heap.size 0 vs).setCh t ⟨k,w.heap.size,vs.length,cs.size,sz⟩ n):=by
 have l:K.le ((K.addRo w.heap.size 0 vs).setCh t ⟨k,w.heap.size,vs.length,cs.size,sz⟩ n):=Kn.le_chain (fun o _ _=>h.ro_new o) W R;obtain⟨h1,_⟩:=h.newRo vs cs el X;refine⟨⟨h1.below,fun g=>(h.glob g).mono (J8 l),h1.ro,h1.new,?_,h1.inj,h1.mlt,?_,?_,?_,?_,h1.bsz,?_,h1.rwl⟩,l⟩
 . intro i b e;obtain⟨B,d,z,f,A,y⟩:=h.blk i b e;refine⟨B,d,z,by simp;omega,by rw[Below.heap_alloc w _ B f];exact A.mono l,fun o=>?_⟩;simp only[Kn.setCh,Kn.addRo];rw[if_neg (by omega)];exact y o
 . intro u k' e;rcases hT u k' e with⟨rfl,rfl⟩|⟨a0,a⟩
   . refine⟨⟨k',w.heap.size,vs.length,cs.size,sz⟩,by simp[Kn.setCh],rfl,h.size_le,P,⟨cs,el,heap_alloc_new w _,rfl⟩,fun o D=>?_,fun i c=>?_⟩
     . simp only[Kn.setCh,Kn.addRo];rw[if_neg (by simp only at D;omega)];exact h.ro_new o
     . have:=(h.m_lt (show K.m i=some _ from c)).1;simp only at this;omega
   obtain⟨C,d,z,f,A,⟨I,M,y,V⟩,Q,N⟩:=h.ch u k' a;refine⟨C,by simp[*,Kn.setCh,Kn.addRo],z,f,A,⟨I,M,?_,V⟩,fun o D=>?_,N⟩
   . rw[Below.heap_alloc w _ C.B (h.ch_lt d).1];exact y
   simp only[Kn.setCh,Kn.addRo];have:=(h.ch_lt d).1;rw[if_neg (by omega)];exact Q o D
 . intro u C e;simp only[Kn.setCh]at e;split at e
   . rename_i r;subst r;exact⟨k,U⟩
   rename_i r;exact Y u C r e
 . intro u E C C' e a s;simp only[Kn.setCh]at e a;split at e<;>split at a
   . omega
   . cases e;have:=(h.ch_lt (show K.ch E=some C' from a)).1;simp only at s;omega
   . cases a;have:=(h.ch_lt (show K.ch u=some C from e)).1;simp only at s;omega
   exact h.chinj u E C C' e a s
 . simp[Kn.setCh,Z]
 intro B x e;obtain⟨F,L,S,O⟩:=h.fx B x e;have J:=(qCp.1 F).1;refine⟨by rw[Below.heap_alloc w _ B J];exact F,L,S,fun u C c=>?_⟩;simp only[Kn.setCh]at c;split at c
 . cases c;simp only;omega
 exact O u C c
def WRel.chainIn(h:WRel G w0 ro0 K σ w){t k C}(s:K.ch t=some C)(W:σ.T[t]?=some (some k))(vs y el k')(b9:k<k')
 (b2:w'.os=w.os) (b4:w'.tape=w.tape) (a9:w'.output=w.output) (c0:w'.heap.size=w.heap.size) (r:∀j,j≠C.B->w'.heap[j]?=w.heap[j]?)
 (O:w'.heap[C.B]?=some (.cells y el (0,0))) (b5:y.size=C.cap) (b7:C.fin+vs.length<=C.cap)
 (b0:∀(j) (v),vs[j]?=some v->y[C.fin+j]?=some v) (hold:∀(cs) (el),w.heap[C.B]?=some (.cells cs el (0,0))->∀j,j<C.fin->y[j]?=cs[j]?):
 WRel G w0 ro0 ((K.addRo C.B C.fin vs).setCh t ⟨k',C.B,C.fin+vs.length,C.cap,C.sz⟩ K.nch) {σ with T:=σ.T.set t (some k')} w' /\
  K.le ((K.addRo C.B C.fin vs).setCh t ⟨k',C.B,C.fin+vs.length,C.cap,C.sz⟩ K.nch):=by
 obtain⟨A,c1,c2,c3,c4,⟨cs,b6,X,c6⟩,F,N⟩:=h.ch t k W;rw[s]at c1;cases c1;have I:K.le ((K.addRo C.B C.fin vs).setCh t ⟨k',C.B,C.fin+vs.length,C.cap,C.sz⟩ K.nch):=Kn.le_chain (fun o l _=>F o l) (qBs _) (fun _=>⟨C,s,by simp only;omega⟩);have U:=(qBk.1 W).1;refine⟨⟨h.below.trans ⟨b2,b4,a9,by omega,fun j hj=>r j (by omega)⟩,fun g=>(h.glob g).mono (J8 I),?_,?_,?_,h.inj,h.mlt,?_,?_,?_,?_,?_,?_,h.rwl⟩,I⟩
 . intro b o v e;simp only[Kn.setCh,Kn.addRo]at e;split at e
   . rename_i P;obtain⟨rfl,D,a⟩:=P;have:=b0 _ _ e;simp only[World.cell?,O];rw[show C.fin+(o-C.fin)=o by omega]at this;simpa using this
   have Z:=h.ro b o v e;by_cases hb:b=C.B
   . subst hb;have l:o<C.fin:=by
      rcases qET o C.fin with h1|h1
      . exact h1
      rw[F o h1]at e;cases e
     simp only[World.cell?,O];simp only[World.cell?,X]at Z;simp at Z⊢
     rwa[hold cs b6 X o l]
   rwa[World.cell?_of_block (w:=w) (r b hb)]
 . intro b o v e hb;simp only[Kn.setCh,Kn.addRo]at e;split at e
   . rename_i P;obtain⟨rfl,_⟩:=P;omega
   exact h.new b o v e hb
 . intro i b e;obtain⟨B,E,L,S,M,Q⟩:=h.blk i b e;have f:B≠C.B:=fun e=>N i (by rw[E,e])
   refine⟨B,E,L,by omega,by rw[r B f];exact M.mono I,fun o=>?_⟩;simp only[Kn.setCh,Kn.addRo];rw[if_neg (by simp[f])];exact Q o
 . intro u k1 e;by_cases c:u=t
   . subst c;simp[U]at e;subst e;refine⟨⟨k',C.B,C.fin+vs.length,C.cap,C.sz⟩,by simp[Kn.setCh],rfl,c3,b7,⟨y,el,O,b5⟩,fun o l=>?_,N⟩;simp only[Kn.setCh,Kn.addRo];simp only at l;rw[if_neg (by omega)];exact F o (by omega)
   rw[qBn (Ne.symm c)]at e;obtain⟨d,E,L,S,M,⟨b1,b8,Q,a6⟩,a7,a8⟩:=h.ch u k1 e;have f:d.B≠C.B:=fun e=>c (h.chinj u t d C E s e)
   refine⟨d,by simp[*,Kn.setCh,Kn.addRo],L,S,M,⟨b1,b8,by rw[r _ f];exact Q,a6⟩,fun o l=>?_,a8⟩;simp only[Kn.setCh,Kn.addRo];rw[if_neg (by simp[f])];exact a7 o l
 . intro u A e;simp only[Kn.setCh]at e;split at e
   . rename_i c;subst c;exact⟨k',by simp[U]⟩
   rename_i c;obtain⟨k1,D⟩:=h.chd u A e;exact⟨k1,by rw[qBn (Ne.symm c)];exact D⟩
 . intro u R A d e z J;simp only[Kn.setCh]at e z;split at e<;>split at z
   . omega
   . rename_i c a0;cases e;exact absurd (h.chinj t R C d s z J).symm a0
   . rename_i c a0;cases z;exact absurd (h.chinj u t A C e s J) c
   exact h.chinj u R A d e z J
 . simp[Kn.setCh,h.nch]
 . intro i B cs el fr D a;have f:B≠C.B:=fun e=>N i (by rw[show K.m i=some B from D,e])
   rw[r B f]at a;exact h.bsz i B cs el fr D a
 intro B x e;obtain⟨g1,g2,g3,V⟩:=h.fx B x e;have Y:B≠C.B:=fun a=>V t C s a.symm
 refine⟨by rw[r B Y];exact g1,g2,g3,fun u d a=>?_⟩;simp only[Kn.setCh]at a;split at a
 . cases a;exact fun e3=>Y e3.symm
 exact V u d a
end
def qH{P t i}(h:Dof P t=some i):
 ∃inf d z,P.info? t=some inf/\P.underlying t=some d/\inf.zero=some z/\i=⟨inf.size,inf.bytes,z.cells.toList.map ofAtom,ofV z,QK P d,!P.stoodInHeld t⟩:=by
 unfold Dof at h;split at h
 . rename_i inf d h1 h2;split at h
   . rename_i z a;simp at h;exact⟨inf,d,z,h1,h2,a,h.symm⟩
   cases h
 cases h
def Zd{P}{d:TypeDesc}{e}(h:QK P d=.sl e):d=.slice e:=by
 cases d<;>simp[QK]at h
 . simp[h]
 split at h<;>cases h
def qb5{P}{d:TypeDesc}{n e}(h:QK P d=.arr n e):d=.array n e:=by
 cases d<;>simp[QK]at h
 . simp[h]
 split at h<;>cases h
def Qd{P}{d:TypeDesc}(h:QK P d=.str):d=.string:=by
 cases d<;>simp[QK]at h
 . rfl
 split at h<;>cases h
def qar{P}{d:TypeDesc}(h:QK P d=.bool):d=.bool:=by
 cases d<;>simp[QK]at h
 . rfl
 split at h<;>cases h
def Yc{P}{d:TypeDesc}{k}(h:QK P d=.int k):d=.int k:=by
 cases d<;>simp[QK]at h
 . simp[h]
 split at h<;>cases h
def qb4{P}{d:TypeDesc}{k e}(h:QK P d=.map k e):d=.map k e:=by
 cases d<;>simp[QK]at h
 . simp[h]
 split at h<;>cases h
def qm2{P}{d:TypeDesc}{fs}(h:QK P d=.st fs):
 ∃ fields:Array Field,d = .struct fields∧fs=fields.toList.map (fun f=>(f.offset,f.type))∧(∀ f ∈ fields.toList,P.cellsOf f.type≠0) ∧ ∀ f ∈ fields.toList,f.name ≠ "_" := by
 cases d with
 | struct fields=>
  simp only[QK]at h;split at h
  . rename_i h1;simp at h;rw[qBx]at h1;exact⟨fields,rfl,h.symm,fun f hf=>by have:=h1 f hf;simp at this;exact this.1,fun f hf=>by have:=h1 f hf;simp at this;exact this.2⟩
  cases h
 |_=>simp[QK]at h
section
variable {P:Program}{G:Nat->AV}{w0:World}{ro0:Nat->Nat->Option Value}{K:Kn}{σ:St}{w w':World}
def Ran(P:Program)(G:Nat->AV)(w0:World)(ro0:Nat->Nat->Option Value)(K:Kn)(w:World)(s:Sem Value)(v:AV)(σ':St):Prop :=
 ∃v' w' K',s.run P w=.ok v' w'/\K.le K'/\WRel G w0 ro0 K' σ' w'/\qi K' v v'
def Ran.same(h:WRel G w0 ro0 K σ w){s:Sem Value}{v v'}(a:s.run P w=.ok v' w)(b:qi K v v'):Ran P G w0 ro0 K w s v σ :=
 ⟨v',w,K,a,qFX K,h,b⟩
def qF0:=@Ran.same
def qcp{t:Nat}{d:TypeDesc}(a:P.underlying t=some d)(hd:QK P d≠.other):(isAgg t).run P w=.ok ((QK P d).agg==some true) w:=by
 simp only[isAgg,Sem.run_bind,run_underlying a,Result.andThen_ok]
 cases d with
 | struct fields=>
  simp only[QK]at hd⊢;split at hd
  . rename_i h1;rw[if_pos h1];rfl
  exact absurd rfl hd
 |_=>first|rfl|exact absurd rfl hd
def qbk{c a off n}(h:cut c off n=some a):off+n<=c.length/\a=(c.drop off).take n/\a.length=n:=by
 unfold cut at h;split at h
 . rename_i b;simp at h;subst h;refine⟨b,rfl,?_⟩;simp;omega
 cases h
def qiR.of_blk(h:WRel G w0 ro0 K σ w){b B c}(hb:σ.H[b]?=some (.cells c))(r:K.m b=some B)(off n)(x:off+n<=c.length):
 qiR K w B off ((c.drop off).take n):=by
 obtain⟨B',h1,h2,u,o,s⟩:=h.blk b _ hb;rw[r]at h1;cases h1;obtain⟨cs,el,g,h0,t,l⟩:=o;refine⟨(cs.toList.drop off).take n,qj.intro (by simp;omega) fun i a e=>?_,fun j v e=>?_⟩
 . rw[qCi,qCm]at e;split at e
   . rename_i hi;obtain⟨v,d,f⟩:=l (off+i) a e;refine⟨v,?_,f⟩;rw[qCi,if_pos hi,qCm];simpa using d
   cases e
 rw[qCi,qCm]at e;split at e
 . simp only[World.cell?,g];simpa using e
 cases e
def KG{t B off:Nat}{inf:TypeInfo}{d:TypeDesc}(hi:P.info? t=some inf)(m:P.underlying t=some d){c:List AV}(s:qiR K w B off c)(o:c.length=inf.size)
 {v:AV} (b:ZI (QK P d).agg c=some v):∃v',(loadVar t ⟨B,off,none⟩).run P w=.ok v' w/\qi K v v':=by
 obtain⟨vs,h1,h2⟩:=s;have f:=qcp (w:=w) m (by intro e;rw[e]at b;simp[TD.agg,ZI]at b)
 cases hg:(QK P d).agg with
 |none=>rw[hg]at b;simp[ZI]at b
 | some g=>
  rw[hg]at b f
  cases g with
  | true=>
   simp[ZI]at b;subst b;have h:=run_loadCells_list (P:=P) w ⟨B,off,none⟩ vs (fun j v e=>by rw[jz];exact h2 j v e);rw[h1.length,o]at h;refine⟨.agg vs.toArray,?_,by simp only[qi];exact⟨_,rfl,by simpa using h1⟩⟩;simp only[loadVar,Sem.run_bind,f,Result.andThen_ok];simp[sizeOf,typeInfo,hi,h]
  | false=>
   simp only[ZI]at b
   cases c with
   |nil=>simp at b
   | cons a r=>
    simp at b;subst b;simp only[qj]at h1;obtain⟨v',u,rfl,l,_⟩:=h1;have i:=h2 0 v' (by simp);refine⟨v',?_,l⟩;simp only[loadVar,Sem.run_bind,f,Result.andThen_ok];simp at i;simp[run_load,i]
def qcR(h:WRel G w0 ro0 K σ w){t a v u}(f:qi K a u)(e:wZ (Dof P) σ t a=some v):
 ∃v',(Instr.loadAt t u).run P w=.ok v' w/\qi K v v':=by
 unfold wZ at e;split at e
 . rename_i i b off m;obtain⟨inf,d,z,hi,l,x,rfl⟩:=qH m;split at e
   . rename_i c hb;obtain⟨y,o,s⟩:=qCY.1 e;obtain⟨h1,rfl,j⟩:=qbk o;simp only[qi]at f;obtain⟨B,C,rfl⟩:=f;obtain⟨v',g,r⟩:=KG hi l (qiR.of_blk h hb C off _ h1) j s;exact⟨v',by simpa[Instr.loadAt,Instr.sureAddr] using g,r⟩
   cases e
 . rename_i i c m;obtain⟨inf,d,z,hi,l,x,rfl⟩:=qH m;obtain⟨y,o,s⟩:=qCY.1 e;obtain⟨h1,rfl,j⟩:=qbk o;simp only[qi]at f;obtain⟨B,off,rfl,A⟩:=f;obtain⟨v',g,r⟩:=KG hi l (qF8 h.ro B _ off (qq.take B _ off _ (by simpa using A))) (by simpa using j) s;exact⟨v',by simpa[Instr.loadAt,Instr.sureAddr] using g,r⟩
 cases e
def qh9(h:WRel G w0 ro0 K σ w){t a v b}(c:qi K a b)(d:wZ (Dof P) σ t a=some v):
 Ran P G w0 ro0 K w (Instr.loadAt t b) v σ:=by
 obtain⟨v',h1,h2⟩:=qcR h c d;exact qF0 h h1 h2
def qco{t:Nat}{inf:TypeInfo}(hi:P.info? t=some inf)(a:Addr)(v:Value)(b:v.cells.size=inf.size)(w:World):
 (storeVar t a v).run P w=(storeCells a v.cells.toList).run P w:=by
 simp[storeVar,sizeOf,typeInfo,hi,b]
def Zt(h:WRel G w0 ro0 K σ w){t a x y x'}(u:qi K a y)(D:qi K x x'){σ'}(f:Vq (Dof P) σ t a x=some σ'):
 ∃w',(Instr.storeAt t y x').run P w=.ok () w'/\WRel G w0 ro0 K σ' w':=by
 unfold Vq at f;split at f
 . rename_i i b off new S J;obtain⟨inf,d,z,hi,Y,X,rfl⟩:=qH S;split at f
   . rename_i c hb;split at f
     . rename_i I;simp at f;subst f;obtain⟨O,E⟩:=I;simp only at O E;simp only[qi]at u;obtain⟨B,r,rfl⟩:=u;obtain⟨l,A⟩:=J5 D J;obtain⟨B',h1,h2,V,F,T⟩:=h.blk b _ hb;rw[r]at h1;cases h1;obtain⟨cs,el,j,h0,U,N⟩:=F;have m:=l.length;have C:=run_storeCells_at P B off el x'.cells.toList 0 cs w j (by simp only[qCV];omega) (l.oneCells A);simp only[qCV]at C;have W:x'.cells.size=new.length:=(by simpa using m);refine⟨w.setRow B (cs.toList.take off++x'.cells.toList++cs.toList.drop (off+x'.cells.toList.length)).toArray,?_,h.setBlk (B:=B) (b':=.cells (zC c off new)) (w':=w.setRow B (cs.toList.take off++x'.cells.toList++cs.toList.drop (off+x'.cells.toList.length)).toArray) ((qBk.1 hb).1) r rfl rfl rfl (by simp[World.setRow]) (fun k L=>setRow_other w B k _ L) ?_ (by rw[hb];simp)
        (fun Z a0 a1 g=>by
          rw[setRow_heap w B cs _ el _ j]at g;cases g;rw[<- h.bsz b B cs el _ r j];simp;omega) (fun _ _ _ _=>⟨cs,el,_,j⟩)⟩
       . have R:x'.cells.size=inf.size:=(by have:=l.length;simp at this;omega);have s:=qco (P:=P) hi ⟨B,off,none⟩ x' R w;rw[C]at s;simpa only[Instr.storeAt,Instr.sureAddr,Sem.run_bind,pure,Sem.run,Result.andThen_ok] using s
       refine⟨(cs.toList.take off++x'.cells.toList++cs.toList.drop (off+x'.cells.toList.length)).toArray,el,setRow_heap w B cs _ el _ j,putAt_all _ _ _ h0 A,by simp[Qj];omega,fun i a e=>?_⟩;rw[wV _ _ _ _ (by omega)]at e;simp only[qDC];split at e
       . rename_i Q;obtain⟨v,o,g⟩:=l.get _ _ e;refine⟨v,?_,g⟩;rw[qBX,qBt (by simp;omega),qBv (by simp;simp at m;omega)];simp only[qBY,qCW]
         rwa[show min off cs.size=off by omega]
       rename_i Q;obtain⟨v,o,g⟩:=N i a e;refine⟨v,?_,g⟩;by_cases M:i<off
       . rw[qBX,qBv (by simp;omega),qCi,if_pos M];simpa using o
       have:off+new.length<=i:=by omega
       rw[qBt (by simp at m⊢;omega),qCm];simp;simp at m;rw[show off+x'.cells.size+(i-(min off cs.size+x'.cells.size))=i by omega];simpa using o
     cases f
   cases f
 cases f
end
def qrU:List Value->Nat->List Value->List Value
 |c,_,[]=>c
 |c,off,v::r=>qrU (c.set off v) (off+1) r
def qfV{K}:∀(new) (news) (c) (cs) (off),qj K new news->qj K c cs->qj K (zC c off new) (qrU cs off news)
 |[],_,c,cs,off,h,k=>by simp only[qj]at h;subst h;simpa[zC,qrU] using k
 | a::r,_,c,cs,off,h,k=>by
  simp only[qj]at h;obtain⟨v,j,rfl,h1,h2⟩:=h;simp only[zC,qrU];refine qfV r j _ _ _ h2 (qj.intro (by simp[k.length]) fun i b e=>?_);have l:=k.length;by_cases hi:i=off
  . subst hi;have d:i<c.length:=(by have:=(qBk.1 e).1;simpa using this);simp[d]at e;subst e;exact⟨v,by simp[l,d],h1⟩
  rw[qBn (Ne.symm hi)]at e;obtain⟨u,f,g⟩:=k.get i b e;exact⟨u,by rw[qBn (Ne.symm hi)];exact f,g⟩
def qdf(off):∀(l) (k) (cells:Array Value),((l.zipIdx k).foldl (fun cs x=>cs.setIfInBounds (off+x.2) x.1) cells).toList=qrU cells.toList (off+k) l
 |[],k,cells=>by simp[qrU]
 | v::r,k,cells=>by
  simp only[List.zipIdx_cons,qB2,qrU];rw[qdf off r (k+1)];simp[qDu]
def Y2{K place placeC}(l:∀i p,place i=some p->placeC i=some p):
 ∀ (zR:List (Nat×AV)) (d:List (Nat×Value)) (c b:List AV) (cells:Array Value),qj K c cells.toList->d.map (·.1)=zR.map (·.1)->qj K (zR.map (·.2)) (d.map (·.2)) ->
  zt place c zR=some b->∃e,Instr.fill placeC cells d=some e/\qj K b e.toList/\(c.all AV.atom=true->b.all AV.atom=true)
 | [],d,c,b,cells,h,h1,h2,a=>by
  have:d=[]:=by simpa using h1
  subst this;simp[zt]at a;subst a;exact⟨cells,rfl,h,id⟩
 |(i,x)::r,[],c,b,cells,h,h1,h2,a=>by simp at h1
 | (i,x)::r,(j,y)::I,c,b,cells,h,h1,h2,a=>by
  simp only[qBz,qDR]at h1;obtain⟨rfl,h1⟩:=h1;simp only[qBz,qj]at h2;obtain⟨v,J,f,t,u⟩:=h2;simp only[qDR]at f;obtain⟨rfl,rfl⟩:=f;simp only[zt]at a;split at a
  . rename_i off n new z E;split at a
    . rename_i C;obtain⟨M,L⟩:=C;obtain⟨g,G⟩:=J5 t E;have m:=g.length;have o:=h.length;simp only[qCW]at m o;have B:=qdf off y.cells.toList 0 cells;have s:=qfV new y.cells.toList c cells.toList off g h;obtain⟨e,A,w,F⟩:=Y2 l r I _ b (y.cells.zipIdx.foldl (fun cs (c,j)=>cs.setIfInBounds (off+j) c) cells) (by
       rw[<- Array.foldl_toList,Array.toList_zipIdx];rw[B];simpa using s) h1 u a
      refine⟨e,?_,w,fun D=>F (putAt_all _ _ _ D G)⟩;simp only[Instr.fill,l _ _ z];rw[if_neg (by simp only[ne_eq,qDo,decide_eq_true_eq];omega)];exact A
    cases a
  cases a
section
variable {P:Program}{G:Nat->AV}{w0:World}{ro0:Nat->Nat->Option Value}{K:Kn}{σ:St}{w w':World}
def qfi(h:WRel G w0 ro0 K σ w){e i}(g:Dof P e=some i)(b:i.zero.all AV.atom=true):
 Ran P G w0 ro0 K w (Instr.alloc e true (.tuple #[])) (.ptr σ.H.length 0) (σ.push (.cells i.zero)):=by
 obtain⟨inf,d,z,hi,l,f,rfl⟩:=qH g;refine⟨.pointer (some ⟨w.heap.size,0,none⟩),w.alloc (.cells z.cells e),K.addM σ.H.length w.heap.size (yc _),?_,qFT h _ _,h.push ?_,?_⟩
 . simp[Instr.alloc,zeroValue,typeInfo,hi,f,newVar,newRow]
 . refine⟨z.cells,e,rfl,b,by simp,fun j a c=>?_⟩;have:=(qF7 K z.cells.toList).get j a c;simpa using this
 exact⟨w.heap.size,by simp[Kn.addM],rfl⟩
def qlY(h:WRel G w0 ro0 K σ w){e:Nat}{x:AV}{x':Value}(d:qi K x x'){c:List AV}(f:qL x=some c):
 Ran P G w0 ro0 K w (Instr.box e x') (.ptr σ.H.length 0) (σ.push (.cells c)):=by
 obtain⟨h1,h2⟩:=J5 d f;refine⟨.pointer (some ⟨w.heap.size,0,none⟩),w.alloc (.cells x'.cells e),K.addM σ.H.length w.heap.size (yc _),?_,qFT h _ _,h.push ?_,?_⟩
 . simp[Instr.box,newVar,newRow]
 . refine⟨x'.cells,e,rfl,h2,by have:=h1.length;simp at this;omega,fun j a b=>?_⟩;have:=h1.get j a b;simpa using this
 exact⟨w.heap.size,by simp[Kn.addM],rfl⟩
def qkj(fs:List Field)(h:∀f∈fs,P.cellsOf f.type≠0):
 fs.mapM (fun f=>(P.info? f.type).map fun i=>(f.offset,i.size))=some (fs.map fun f=>(f.offset,P.cellsOf f.type)):=by
 induction fs with
 |nil=>rfl
 | cons f r ih=>
  have h1:=h f (by simp);simp only[Program.cellsOf]at h1
  cases hi:P.info? f.type with
  |none=>simp[hi]at h1
  | some i=>
   simp[qFh,hi,ih (fun g a=>h g (by simp[a])),Program.cellsOf]
def qe9(h:WRel G w0 ro0 K σ w){t zR a}(u:a.toList.map (·.1)=zR.map (·.1))(A:qj K (zR.map (·.2)) (a.toList.map (·.2)))
 {v} (hb:qV (Dof P) t zR=some v):Ran P G w0 ro0 K w (Instr.build t a) v σ:=by
 unfold qV at hb;split at hb
 . rename_i i F;obtain⟨inf,d,z,hi,x,y,rfl⟩:=qH F;simp only at hb;split at hb
   . rename_i fs hd;obtain⟨fields,rfl,rfl,C,_⟩:=qm2 hd;obtain⟨l,r,rfl⟩:=qBu.1 hb;have B:=qkj (P:=P) fields.toList C;obtain⟨b,o,m,_⟩:=Y2 (K:=K) (place:=qx (Dof P) (fields.toList.map fun f=>(f.offset,f.type))) (placeC:=((fields.toList.map fun f=>(f.offset,P.cellsOf f.type)).toArray[·]?)) (fun i p e=>by
      simp only[qx,qBO]at e
      cases hf:fields.toList[i]? with
      |none=>simp[hf]at e
      | some f=>
       simp only[hf,qEt]at e;obtain⟨j,g,rfl⟩:=qBu.1 e;obtain⟨c,d',E,s,_,_,rfl⟩:=qH g;simp[show fields[i]?=some f by simpa using hf,Program.cellsOf,s]) zR a.toList _ l z.cells (qF7 K _) u A r
     refine qF0 h (run_build w t a b ?_) (by simp only[qi];exact⟨b,rfl,m⟩);simp only[Program.built,hi,x,y,B];exact o
   . rename_i n e hd;have D:=qb5 hd;subst D;split at hb
     . rename_i j g;obtain⟨c,d',E,s,_,_,rfl⟩:=qH g;obtain⟨l,r,rfl⟩:=qBu.1 hb;obtain⟨b,o,m,_⟩:=Y2 (K:=K) (place:=fun i=>some (i*c.size,c.size)) (placeC:=fun i=>some (i*c.size,c.size)) (fun i p e=>e) zR a.toList _ l z.cells (qF7 K _) u A r;refine qF0 h (run_build w t a b ?_) (by simp only[qi];exact⟨b,rfl,m⟩);simp only[Program.built,hi,x,y,s];exact o
     cases hb
   cases hb
 cases hb
def Wq(sz new)(d:new.length=sz):∀(rows:List (List AV)) (i),(∀r∈rows,r.length=sz)->i<rows.length->zC rows.flatten (i*sz) new=(rows.set i new).flatten
 |[],i,_,hi=>by simp at hi
 | r::f,0,h,_=>by
  have c:=h r (by simp);apply qCg;intro j;rw[wV _ _ _ _ (by simp[c,d])];simp only[qEH,qB7,qCn,qDa,qDb,qDj,true_and,qEu];by_cases b:j<new.length
  . simp[b]
  rw[if_neg b,if_neg (by omega),if_neg b,c,d]
 | r::f,i+1,h,hi=>by
  have c:=h r (by simp);have ih:=Wq sz new d f i (fun x e=>h x (by simp[e])) (by simpa using hi);have o:∀l:List (List AV),(∀r∈l,r.length=sz)->l.flatten.length=l.length*sz:=by
   intro l
   induction l with
   |nil=>intro _;simp
   |cons a l ih=>intro h';simp only[qB7,qBp,qBB,h' a (by simp),ih (fun x e=>h' x (by simp[e]))];rw[qCx];omega
  have s:(i+1)*sz<=f.length*sz:=qCz _ (by have:=hi;simp at this;omega);have m:=o f (fun x e=>h x (by simp[e]));have t:(i+1)*sz=i*sz+sz:=by rw[qCx];omega
  simp only[qEc,qB7];rw[<- ih];apply qCg;intro j;rw[wV _ _ _ _ (by simp only[qBp,m,c,d];omega)];simp only[qCn,c];by_cases b:j<sz
  . rw[if_neg (by omega),if_pos b,if_pos b]
  rw[if_neg b,if_neg b,wV _ _ _ _ (by rw[m,d];omega)];by_cases g:(i+1)*sz<=j/\j<(i+1)*sz+new.length
  . rw[if_pos g,if_pos (by omega)];congr 1;omega
  rw[if_neg g,if_neg (by omega)]
def Z2(sz):∀(zR:List (Nat×AV)) (rows c:List (List AV)),(∀r∈rows,r.length=sz)->qp sz rows zR=some c ->
 zt (fun i=>some (i*sz,sz)) rows.flatten zR=some c.flatten/\c.length=rows.length/\(∀r∈c,r.length=sz)
 |[],rows,c,h,b=>by simp[qp]at b;subst b;exact⟨rfl,rfl,h⟩
 | (i,x)::r,rows,c,h,b=>by
  simp only[qp]at b;split at b
  . rename_i new t;split at b
    . rename_i d;have f:∀r∈rows.set i new,r.length=sz:=fun y s=>by
       rcases qDm s with h1|h1
       . exact h y h1
       rw[h1];exact d.1
      obtain⟨j,g,e⟩:=Z2 sz r _ c f b;refine⟨?_,by simpa using g,e⟩;have o:rows.flatten.length=rows.length*sz:=by
       clear b j g e f d
       induction rows with
       |nil=>simp
       |cons a l ih=>simp only[qB7,qBp,qBB,h a (by simp),ih (fun x m=>h x (by simp[m]))];rw[qCx];omega
      have u:(i+1)*sz<=rows.length*sz:=qCz _ d.2;have v:(i+1)*sz=i*sz+sz:=(by rw[qCx];omega);simp only[zt,t];rw[if_pos ⟨d.1,by rw[o];omega⟩,Wq sz new d.1 rows i h d.2];exact j
    cases b
  cases b
def jT(z:List AV):∀(n i),i<n*z.length->(List.replicate n z).flatten[i]?=z[i%z.length]?
 |0,i,h=>by simp at h
 | n+1,i,h=>by
  simp only[qCK,qB7,qCn];split
  . rename_i h1;rw[qDw h1]
  rename_i h1;have h2:z.length<=i:=by omega
  rw[jT z n (i-z.length) (by rw[qCx]at h;omega),Nat.mod_eq_sub_mod h2]
def Kd{z:Value}{n}(c:0<z.cells.size):qj K ((List.replicate n (z.cells.toList.map ofAtom)).flatten) ((Array.range (n*z.cells.size)).map (z.cells[· % z.cells.size]!)).toList:=by
 have b:(z.cells.toList.map ofAtom).length=z.cells.size:=by simp
 refine qj.intro (by simp) fun i a e=>?_
 have h:i<n*z.cells.size:=by
  have:=(qBk.1 e).1;simpa using this
 rw[jT _ n i (by rwa[b]),b]at e;obtain⟨v,d,f⟩:=(qF7 K z.cells.toList).get _ _ e;refine⟨v,?_,f⟩;simp;have g:i%z.cells.size<z.cells.size:=qEi _ c;simp[g]at d;simp[*]
def Qh{K' B sz}:∀(rows) (off),(∀r∈rows,r.length=sz)->rows.flatten.all AV.atom=true->qq K' B off rows.flatten->qQ K' B off sz rows
 |[],off,_,_,_=>by simp[qQ]
 | r::d,off,h,b,c=>by
  have a:=h r (by simp);simp only[qB7,qCU,qBq]at b c;simp only[qQ];refine⟨⟨a,b.1,?_⟩,Qh d _ (fun x e=>h x (by simp[e])) b.2 ?_⟩
  . have:=qq.take B _ off r.length c;simpa using this
  have:=qq.drop B _ off r.length c;rw[a]at this;simpa[a.symm] using this
def YK(h:WRel G w0 ro0 K σ w){t n zR b}(u:b.toList.map (·.1)=zR.map (·.1))(U:qj K (zR.map (·.2)) (b.toList.map (·.2)))
 {v} (hb:qe (Dof P) t n zR=some v):Ran P G w0 ro0 K w (Instr.buildSlice t n b) v σ:=by
 unfold qe at hb;split at hb
 . rename_i i V;obtain⟨inf,d,z,hi,A,a4,rfl⟩:=qH V;simp only at hb;split at hb
   . rename_i e hd;have a1:=Zd hd;subst a1;split at hb
     . rename_i j N;obtain⟨a,d',g,M,_,Q,rfl⟩:=qH N;simp only at hb;split at hb
       . rename_i hc;obtain⟨I,D,a5,a3⟩:=hc;obtain⟨rows,c,rfl⟩:=qBu.1 hb;have C:g.cells.size=a.size:=(by simpa using I);have Y:∀r∈List.replicate n (g.cells.toList.map ofAtom),r.length=a.size:=fun r X=>by rw[(qDc.1 X).2];exact I
         obtain⟨f1,J,R⟩:=Z2 a.size zR _ rows Y c;have F:=Kd (K:=K) (z:=g) (n:=n) (by omega);rw[C]at F;obtain⟨f,g1,B,g3⟩:=Y2 (K:=K) (place:=fun i=>some (i*a.size,a.size)) (placeC:=fun i=>some (i*a.size,a.size)) (fun i p e=>e) zR b.toList _ _ ((Array.range (n*a.size)).map (g.cells[· % a.size]!)) F u U f1;have S:=g3 (by
          rw[qBx];intro x o;obtain⟨l,a0,y⟩:=qB3.1 o;rw[(qDc.1 a0).2]at y;rw[qBx]at D;exact D x y)
         by_cases hn:n=0
         . subst hn;have a2:=qBy (by simpa using J);subst a2;obtain⟨k1,m⟩:=h.newRo [] f e (by simp);have O:b.toList=[]:=by
            cases zR with
            |nil=>simpa using u
            | cons p r=>
             simp only[qp]at c;split at c
             . split at c
               . rename_i o;simp at o
               . cases c
             cases c
           have T:f = #[]:=by
            have L:=B.length;simp at L;exact L
           subst T;refine⟨.slice (some ⟨w.heap.size,0,none⟩) 0 0,_,_,?_,m,k1,?_⟩
           . have W:b = #[]:=(by simpa using O);subst W;simp[Instr.buildSlice,run_underlying A,sizeOf,typeInfo,M,Instr.fill,newRow];rw[show Array.range 0 = #[] from by apply Array.ext';simp];simp
           simp only[qi];exact .inr ⟨w.heap.size,0,0,by simp,by simp,by simp[qQ],by simp[wo]⟩
         have Z:¬n*a.size=0:=by
          intro s;rcases Nat.mul_eq_zero.1 s with s|s<;>omega
         obtain⟨k1,m⟩:=h.newRo f.toList f e (fun j v e=>by simpa using e);refine⟨_,_,_,run_buildSlice w t e n b f a g A M Q (by omega) Z (by rwa[C]),m,k1,?_⟩;simp only[qi];have E:rows.length=n:=(by simpa using J);refine .inr ⟨w.heap.size,0,n,by rw[E],by omega,Qh rows 0 R S (qq.addRo B m),?_⟩;simp[wo,E]
       cases hb
     cases hb
   cases hb
 cases hb
end
def y9(a:List UInt8):(⟨a.toArray⟩:ByteArray).toList=a:=by rw[ByteArray.toList_eq]
def ZT(a:List UInt8):(⟨a.toArray⟩:ByteArray).size=a.length:=by simp[ByteArray.size]
def qhF(a b:List UInt8):(⟨a.toArray⟩:ByteArray)++⟨b.toArray⟩=⟨(a++b).toArray⟩:=by
 apply ByteArray.ext;simp
def qec(a:List UInt8)(l h):(⟨a.toArray⟩:ByteArray).extract l h=⟨((a.take h).drop l).toArray⟩:=by
 apply ByteArray.ext;rw[ByteArray.data_extract];simp[qEP,qFi]
section
variable {P:Program}{G:Nat->AV}{w0:World}{ro0:Nat->Nat->Option Value}{K:Kn}{σ:St}{w w':World}
def qdx{t:Nat}(h:P.cellsOf t≠0):∃inf,P.info? t=some inf/\inf.size≠0:=by
 simp only[Program.cellsOf]at h
 cases hi:P.info? t with
 |none=>simp[hi]at h
 |some inf=>exact⟨inf,rfl,by simpa[hi] using h⟩
def Wz(h:WRel G w0 ro0 K σ w){s f x v x'}(b:qi K x x')(a:Q5 (Dof P) s x f=some v):
 ∃v',(Instr.fieldAt s x' f).run P w=.ok v' w/\qi K v v':=by
 unfold Q5 at a;split at a
 . rename_i i C;obtain⟨inf,d,z,hi,t,D,rfl⟩:=qH C;simp only at a;split at a
   . rename_i fs hd;obtain⟨fields,rfl,rfl,A,_⟩:=qm2 hd;split at a
     . rename_i off ty j;simp only[qBO,qBu]at j;obtain⟨fl,l,e⟩:=j;simp only[qBK]at e;obtain⟨rfl,rfl⟩:=e;obtain⟨E,r,m⟩:=qdx (A fl (qBl l));have g:∀c:Addr,(Instr.fieldAt s (.pointer (some c)) f).run P w=.ok (.pointer (some (c.add fl.offset))) w:=by
        intro c;simp[Instr.fieldAt,run_underlying t,show fields[f]?=some fl by simpa using l,Instr.sureAddr,fieldPlace,sizeOf,typeInfo,r,m]
       split at a
       . simp at a;subst a;simp only[qi]at b;obtain⟨B,y,rfl⟩:=b;exact⟨_,g _,by rw[jz];exact⟨B,y,rfl⟩⟩
       . simp at a;subst a;simp only[qi]at b;obtain⟨B,o,rfl,u⟩:=b;exact⟨_,g _,by rw[jz];simp only[qi];exact⟨B,_,rfl,qq.drop B _ _ _ u⟩⟩
       cases a
     cases a
   cases a
 cases a
def qj.sub{c vs}(h:qj K c vs)(off n):qj K ((c.drop off).take n) ((vs.drop off).take n):=by
 refine qj.intro (by simp[h.length]) fun i a e=>?_
 rw[qCi,qCm]at e;split at e
 . rename_i hi;obtain⟨v,b,d⟩:=h.get _ _ e;exact⟨v,by rw[qCi,if_pos hi,qCm];exact b,d⟩
 cases e
def VL{t:Nat}{inf:TypeInfo}{d:TypeDesc}(hi:P.info? t=some inf)(o:P.underlying t=some d){c f:List AV}{vs:Array Value}(i:qj K c vs.toList){off:Nat}
 (h1:cut c off (if(QK P d).agg=some true then inf.size else 1)=some f) {v:AV} (h2:ZI (QK P d).agg f=some v):∃v',(part t vs off).run P w=.ok v' w/\qi K v v':=by
 obtain⟨h,a,r⟩:=qbk h1;have b:=qcp (w:=w) o (by intro e;rw[e]at h2;simp[TD.agg,ZI]at h2)
 cases hg:(QK P d).agg with
 |none=>rw[hg]at h2;simp[ZI]at h2
 | some g=>
  rw[hg]at h2 b
  cases g with
  | true=>
   simp[ZI]at h2;subst h2;rw[hg]at a;simp at a;refine⟨.agg (vs.extract off (off+inf.size)),?_,?_⟩
   . simp only[part,Sem.run_bind,b,Result.andThen_ok];simp[sizeOf,typeInfo,hi]
   simp only[qi];refine⟨_,rfl,?_⟩;rw[a];have:=i.sub off inf.size;simpa[qEP] using this
  | false=>
   simp only[ZI]at h2;rw[hg]at a h;simp at a h;have j:c[off]?=some v:=by
    rw[a,List.head?_take]at h2;simp[List.head?_drop]at h2;exact h2
   obtain⟨v',l,m⟩:=i.get off v j;refine⟨v',?_,m⟩;simp only[part,Sem.run_bind,b,Result.andThen_ok];have:vs[off]?=some v':=by simpa using l
   simp[this]
def qeU{s f x v x'}(e:qi K x x')(a:qgN (Dof P) s x f=some v):
 ∃v',(Instr.field s x' f).run P w=.ok v' w/\qi K v v':=by
 unfold qgN at a;split at a
 . rename_i i c B;obtain⟨inf,d,z,hi,t,I,rfl⟩:=qH B;simp only at a;split at a
   . rename_i fs hd;obtain⟨fields,rfl,rfl,F,_⟩:=qm2 hd;split at a
     . rename_i off ty g;simp only[qBO,qBu]at g;obtain⟨fl,C,b⟩:=g;simp only[qBK]at b;obtain⟨rfl,rfl⟩:=b;split at a
       . rename_i j m;obtain⟨J,D,G,r,o,_,rfl⟩:=qH m;obtain⟨E,A,y⟩:=qCY.1 a;simp only[qi]at e;obtain⟨vs,rfl,u⟩:=e;obtain⟨v',h,l⟩:=VL (w:=w) r o u A y;refine⟨v',?_,l⟩;simp[Instr.field,run_underlying t,show fields[f]?=some fl by simpa using C,asAgg,h]
       cases a
     cases a
   cases a
 cases a
def yI{i n}(h:vi i=some n){a}(hi:qi K i a):∃k,a=.int k n:=by
 cases i<;>simp[vi]at h;subst h;exact⟨_,by simpa only[qi] using hi⟩
def Wl(h:WRel G w0 ro0 K σ w){t x i v x' J}(c:qi K x x')(U:qi K i J)(a:zY (Dof P) t x i=some v):
 ∃v',(Instr.indexAt t x' J).run P w=.ok v' w/\qi K v v':=by
 unfold zY at a;split at a
 . rename_i X n T S;obtain⟨inf,d,z,hi,A,W,rfl⟩:=qH T;obtain⟨k,rfl⟩:=yI S U;simp only at a;split at a
   . rename_i e hd;have E:=Zd hd;subst E;split at a
     . rename_i j y;obtain⟨s,L,O,u,N,_,rfl⟩:=qH y;split at a
       . rename_i sz rows tok;split at a
         . rename_i f;obtain⟨h0,g⟩:=f;simp only at g;obtain⟨r,F,rfl⟩:=qBu.1 a;have l:=(qBk.1 F).1;simp only[qi]at c;rcases c with⟨_,rfl,_⟩|⟨B,off,cap,rfl,V,M,_⟩
           . simp at l
           have R:sz=s.size:=by
            rcases g with g|rfl
            . exact g
            simp at l
           subst R;obtain⟨_,_,Q⟩:=qQ.get B _ rows off M _ _ F;refine⟨.pointer (some ⟨B,off+n.toNat*s.size,none⟩),?_,by simp only[qi];exact⟨B,_,rfl,Q⟩⟩;simp[Instr.indexAt,asIntOf,run_underlying A,h0,show n<(rows.length:Int) by omega,sizeOf,typeInfo,u,jz]
         cases a
       . rename_i b off len sz;split at a
         . rename_i f;obtain⟨h0,l,g⟩:=f;simp only at g;subst g;simp at a;subst a;simp only[qi]at c;obtain⟨B,cap,C,rfl,_⟩:=c;refine⟨.pointer (some ⟨B,off+n.toNat*s.size,none⟩),?_,by simp only[qi];exact⟨B,C,rfl⟩⟩;simp[Instr.indexAt,asIntOf,run_underlying A,h0,l,sizeOf,typeInfo,u,jz]
         cases a
       cases a
     cases a
   . rename_i m e hd;have E:=qb5 hd;subst E;split at a
     . rename_i j y;obtain⟨s,L,O,u,N,_,rfl⟩:=qH y;split at a
       . rename_i f;obtain⟨h0,l⟩:=f;have I:∀D:Addr,(Instr.indexAt t (.pointer (some D)) (.int k n)).run P w=.ok (.pointer (some (D.add (n.toNat*s.size)))) w:=by
          intro D;simp[Instr.indexAt,asIntOf,run_underlying A,h0,l,sizeOf,typeInfo,u,Instr.sureAddr]
         split at a
         . simp at a;subst a;simp only[qi]at c;obtain⟨B,C,rfl⟩:=c;exact⟨_,I _,by rw[jz];exact⟨B,C,rfl⟩⟩
         . simp at a;subst a;simp only[qi]at c;obtain⟨B,o,rfl,f⟩:=c;exact⟨_,I _,by rw[jz];simp only[qi];exact⟨B,_,rfl,qq.drop B _ _ _ f⟩⟩
         cases a
       cases a
     cases a
   cases a
 cases a
def qeL{t x i v x' r}(f:qi K x x')(J:qi K i r)(a:qgy (Dof P) t x i=some v):
 ∃v',(Instr.index t x' r).run P w=.ok v' w/\qi K v v':=by
 unfold qgy at a;split at a
 . rename_i R n G F;obtain⟨inf,d,z,hi,o,O,rfl⟩:=qH G;obtain⟨k,rfl⟩:=yI F J;simp only at a;split at a
   . rename_i s hd;have h:=Qd hd;subst h;split at a
     . rename_i h0;obtain⟨b,hb,rfl⟩:=qBu.1 a;simp only[qi]at f;subst f;refine⟨.int .u8 b.toNat,?_,by simp[qi]⟩;have:(⟨s.toArray⟩:ByteArray)[n.toNat]?=some b:=by
        have g:=(qBk.1 hb);obtain⟨h1,h2⟩:=g;rw[getElem?_pos _ _ (by rwa[ZT])];congr 1
       simp[Instr.index,asIntOf,run_underlying o,h0,this]
     cases a
   . rename_i m e c hd;have h:=qb5 hd;subst h;split at a
     . rename_i j A;obtain⟨Q,L,N,l,B,_,rfl⟩:=qH A;split at a
       . rename_i D;obtain⟨h0,g⟩:=D;obtain⟨M,E,I⟩:=qCY.1 a;simp only[qi]at f;obtain⟨vs,rfl,C⟩:=f;obtain⟨v',u,y⟩:=VL (w:=w) l B C E I;refine⟨v',?_,y⟩;simp[Instr.index,asIntOf,run_underlying o,h0,g,sizeOf,typeInfo,l,u]
       cases a
     cases a
   cases a
 cases a
def qbe{x v x'}(a:qi K x x'){i}(b:Y3 x i=some v):∃v',(Instr.extract x' i).run P w=.ok v' w/\qi K v v':=by
 cases x<;>simp[Y3]at b;simp only[qi]at a;obtain⟨vs,rfl,e⟩:=a;obtain⟨v',c,d⟩:=e.get i v b;have:vs[i]?=some v':=by simpa using c
 exact⟨v',by simp[Instr.extract,this],d⟩
def qm0{op x v x'}(b:qi K x x')(a:unA op x=some v):∃v',(Op.unary op x').run P w=.ok v' w/\qi K v v':=by
 unfold unA at a;split at a
 . simp only[qi]at b;subst b;simp at a;subst a;exact⟨_,by simp only[Op.unary,pure,Sem.run];rfl,by simp[qi]⟩
 . simp only[qi]at b;subst b;cases a;exact⟨_,by simp only[Op.unary,Op.intArith,pure,Sem.run];rfl,by simp[qi]⟩
 . simp only[qi]at b;subst b;simp at a;subst a;exact⟨_,by simp[Op.unary,Op.intBits];rfl,by simp[qi]⟩
 cases a
def qeI{op:BinOp}{k:IntKind}{a b:Int}{v:AV}(c:zV op k a b=some v)(t:Nat)(e:op≠.shl/\op≠.shr):
 ∃v',(binOp op t (.int k a) (.int k b)).run P w=.ok v' w/\qi K v v':=by
 obtain⟨f,d⟩:=e;cases op<;>simp only[zV]at c<;>first
  |exact absurd rfl f
  |exact absurd rfl d
  |skip
 all_goals first
  | (split at c
     . cases c
     . rename_i hb;simp at c;subst c;exact⟨_,by simp[binOp,Op.intDiv,hb];rfl,by simp[qi]⟩)
  |(simp at c;subst c;exact⟨_,by simp[binOp,Op.intArith,Op.intBits,Op.intCmp];rfl,by simp[qi]⟩)
  |(cases c)
end
section
variable {P:Program}{G:Nat->AV}{w0:World}{ro0:Nat->Nat->Option Value}{K:Kn}{σ:St}{w w':World}
def vu{t}(h:kz (Dof P) t=true):∃inf,P.info? t=some inf/\(P.underlying t=some .bool\/P.underlying t=some .string\/∃k,P.underlying t=some (.int k)):=by
 unfold kz at h;split at h
 . rename_i i b;obtain⟨inf,d,z,hi,a,_,rfl⟩:=qH b;refine⟨inf,hi,?_⟩;simp only at h;split at h
   . rename_i k hd;exact .inr (.inr ⟨k,by rw[a,Yc hd]⟩)
   . rename_i hd;exact .inl (by rw[a,qar hd])
   . rename_i hd;exact .inr (.inl (by rw[a,Qd hd]))
   cases h
 cases h
def Yq (d xs ys) : ∀ (fs : List Field) (k : Nat) (as bs : List AV) (p : Bool), (∀ f ∈ fs, kz (Dof P) f.type = true ∧ f.name ≠ "_") →
 fs.map (·.offset)=List.range' k fs.length->as.length=fs.length->qj K as (xs.toList.drop k)->qj K bs (ys.toList.drop k)->jk as bs=some p ->
 (∀(j:Nat) (f:Field) (a:AV),fs[j]?=some f->as[j]?=some a->(match P.underlying f.type,a with|some .bool,.bool _=>True|some .string,.str _=>True|some (.int _),.int .. =>True|_,_=>False)) ->
 (Op.eqFields (d+1) xs ys fs).run P w=.ok p w
 | [],k,as,bs,p,_,_,hl,h1,h2,he,_=>by
  have:as=[]:=qBy (by simpa using hl);subst this
  cases bs with
  |nil=>simp[jk]at he;subst he;simp[Op.eqFields]
  |cons=>simp[jk]at he
 | f::fs,k,as,bs,p,hf,ho,hl,h1,h2,he,ht=>by
  cases as with
  |nil=>simp at hl
  | cons a as=>
   cases bs with
   |nil=>simp[jk]at he
   | cons b bs=>
    simp only[qBz,qBB,qC0,qDR]at ho;obtain⟨ho1,ho2⟩:=ho;simp only[qj]at h1 h2;obtain⟨va,ra,e1,g1,g2⟩:=h1;obtain⟨vb,rb,e2,g3,g4⟩:=h2;simp only[jk]at he;split at he
    . rename_i p1 q1 hp1 hq1;simp only[qBI]at he;subst he;obtain⟨hpl,hnm⟩:=hf f (by simp);have htk:=ht 0 f a (by simp) (by simp);have hxa:xs[f.offset]?=some va:=by
       have:(xs.toList.drop k)[0]?=some va:=by rw[e1];rfl
       rw[ho1];simpa using this
      have hyb:ys[f.offset]?=some vb:=by
       have:(ys.toList.drop k)[0]?=some vb:=by rw[e2];rfl
       rw[ho1];simpa using this
      have hdx:ra=xs.toList.drop (k+1):=by
       have:=congrArg List.tail e1;simpa using this.symm
      have hdy:rb=ys.toList.drop (k+1):=by
       have:=congrArg List.tail e2;simpa using this.symm
      have ih:=Yq d xs ys fs (k+1) as bs q1 (fun x hx=>hf x (by simp[hx])) ho2 (by simpa using hl) (hdx▸g2) (hdy▸g4) hq1
       (fun j f' a' h1 h2=>ht (j+1) f' a' (by simpa using h1) (by simpa using h2))
      obtain⟨inf,hi,hu⟩:=vu hpl;have hagg:(isAgg f.type).run P w=.ok false w:=by
       rcases hu with hu|hu|⟨k,hu⟩<;>simp[isAgg,run_underlying hu]
      have heq:(Op.equalIn (d+1) f.type va vb).run P w=.ok p1 w:=by
       rcases hu with hu|hu|⟨k',hu⟩
       . rw[hu]at htk;cases a<;>simp at htk;cases b<;>simp[wc]at hp1;subst hp1;simp only[qi]at g1 g3;subst g1;subst g3;simp[Op.equalIn,run_underlying hu]
       . rw[hu]at htk;cases a<;>simp at htk;cases b<;>simp[wc]at hp1;subst hp1;simp only[qi]at g1 g3;subst g1;subst g3;rw[run_equalIn_string w d f.type _ _ hu,y9,y9]
       rw[hu]at htk;cases a<;>simp at htk;cases b<;>simp only[wc]at hp1<;>try(cases hp1;done)
       split at hp1
       . rename_i hk;simp at hp1;subst hp1;subst hk;simp only[qi]at g1 g3;subst g1;subst g3;exact run_equalIn_int w d f.type _ k' _ _ hu
       cases hp1
      simp only[Op.eqFields,if_pos hnm];simp[part,hagg,hxa,hyb,heq];cases p1
      . simp
      simpa using ih
    cases he
def qbc:TD->AV->Prop
 |.bool,.bool _=>True
 |.str,.str _=>True
 |.int _,.int .. =>True
 |_,_=>False
def wG:∀(e) (as:List AV),z9 e as=true->as.length=e.length /\
 ∀(j:Nat) (b:TD) (a:AV),e[j]?=some b->as[j]?=some a->qbc b a
 |[],[],_=>⟨rfl,by simp⟩
 |[],a::r,h=>by simp[z9]at h
 |b::r,[],h=>by cases b<;>simp[z9]at h
 | b::r,a::s,h=>by
  have:z9 r s=true/\qbc b a:=by
   cases b<;>cases a<;>simp[z9]at h<;>exact⟨h,trivial⟩
  obtain⟨h1,h2⟩:=this;obtain⟨i,l⟩:=wG r s h1;refine⟨by simp[i],fun j g f c d=>?_⟩
  cases j with
  |zero=>simp at c d;rw[<- c,<- d];exact h2
  |succ j=>exact l j g f (by simpa using c) (by simpa using d)
def JT{t tds}(h:Ww (Dof P) t=some tds):
 ∃ fields : Array Field, P.underlying t = some (.struct fields) ∧ P.stoodInHeld t = false ∧ tds = fields.toList.map (fun f => qP (Dof P) f.type) ∧ (∀ f ∈ fields.toList, kz (Dof P) f.type = true ∧ f.name ≠ "_") ∧
  fields.toList.map (·.offset)=List.range fields.size:=by
 unfold Ww at h;split at h
 . rename_i i hD;obtain⟨inf,d,z,hi,hu,_,rfl⟩:=qH hD;simp only at h;split at h
   . rename_i fs hd;obtain⟨fields,rfl,rfl,_,hnm⟩:=qm2 hd;split at h
     . rename_i hc;simp at h;simp only[qBq,qC5,beq_iff_eq,qCN,qBT,qCW,qEs,qBx]at hc;obtain⟨⟨h1,h2⟩,h3⟩:=hc;refine⟨fields,hu,h1,by rw[<- h];simp,fun f hf=>⟨h2 f hf,hnm f hf⟩,?_⟩;rw[<- h3];rfl
     cases h
   cases h
 cases h
def ve{t}(h:kz (Dof P) t=true)(d):P.eqGuardType (d+1) t=false:=by
 obtain⟨inf,hi,a⟩:=vu h;rcases a with a|a|⟨k,a⟩<;>simp[Program.eqGuardType,a]
def WD(d){e}(s:kz (Dof P) e=true)(xs j):∀(n k) (as bs) (p),as.length=n ->
 qj K as (xs.toList.drop k)->qj K bs (j.toList.drop k)->jk as bs=some p ->
 (∀a∈as,(match P.underlying e,a with|some .bool,.bool _=>True|some .string,.str _=>True|some (.int _),.int .. =>True|_,_=>False)) ->
 (Op.eqItems (d+1) e 1 xs j (List.range' k n)).run P w=.ok p w
 | 0,k,as,bs,p,m,h1,h2,g,_=>by
  have:as=[]:=qBy m;subst this
  cases bs with
  |nil=>simp[jk]at g;subst g;simp[Op.eqItems]
  |cons=>simp[jk]at g
 | n+1,k,as,bs,p,m,h1,h2,g,v=>by
  cases as with
  |nil=>simp at m
  | cons a as=>
   cases bs with
   |nil=>simp[jk]at g
   | cons b bs=>
    simp only[qj]at h1 h2;obtain⟨r,D,t,h,A⟩:=h1;obtain⟨o,M,u,i,E⟩:=h2;simp only[jk]at g;split at g
    . rename_i p1 y f C;simp only[qBI]at g;subst g;have l:=v a (by simp);have B:xs[k]?=some r:=by
       have:(xs.toList.drop k)[0]?=some r:=by rw[t];rfl
       simpa using this
      have J:j[k]?=some o:=by
       have:(j.toList.drop k)[0]?=some o:=by rw[u];rfl
       simpa using this
      have I:D=xs.toList.drop (k+1):=by
       have:=congrArg List.tail t;simpa using this.symm
      have x:M=j.toList.drop (k+1):=by
       have:=congrArg List.tail u;simpa using this.symm
      have ih:=WD d s xs j n (k+1) as bs y (by simpa using m) (I▸A) (x▸E) C (fun F h'=>v F (by simp[h']));obtain⟨inf,hi,c⟩:=vu s;have L:(isAgg e).run P w=.ok false w:=by
       rcases c with c|c|⟨k,c⟩<;>simp[isAgg,run_underlying c]
      have z:(Op.equalIn (d+1) e r o).run P w=.ok p1 w:=by
       rcases c with c|c|⟨k',c⟩
       . rw[c]at l;cases a<;>simp at l;cases b<;>simp[wc]at f;subst f;simp only[qi]at h i;subst h;subst i;simp[Op.equalIn,run_underlying c]
       . rw[c]at l;cases a<;>simp at l;cases b<;>simp[wc]at f;subst f;simp only[qi]at h i;subst h;subst i;rw[run_equalIn_string w d e _ _ c,y9,y9]
       rw[c]at l;cases a<;>simp at l;cases b<;>simp only[wc]at f<;>try(cases f;done)
       split at f
       . rename_i G;simp at f;subst f;subst G;simp only[qi]at h i;subst h;subst i;exact run_equalIn_int w d e _ k' _ _ c
       cases f
      rw[qC0];simp only[Op.eqItems];simp[part,L,B,J,z];cases p1
      . simp
      simpa using ih
    cases g
def qmd{t c}(h:qxU (Dof P) t=some c):
 ∃n e inf f,P.underlying t=some (.array n e)/\P.info? e=some inf/\P.cellsOf e=1/\kz (Dof P) e=true/\c=List.replicate n (QK P f)/\P.underlying e=some f:=by
 unfold qxU at h;split at h
 . rename_i i s;obtain⟨inf,d,z,hi,r,_,rfl⟩:=qH s;simp only at h;split at h
   . rename_i n e hd;split at h
     . rename_i j l;obtain⟨o,g,u,b,m,_,rfl⟩:=qH l;split at h
       . rename_i a;simp at h;simp at a;exact⟨n,e,o,g,by rw[r,qb5 hd],b,by simp[Program.cellsOf,b,a.2],a.1,h.symm,m⟩
       cases h
     cases h
   cases h
 cases h
def qls{t i a b p}(A:qxU (Dof P) t=some i)(v:z9 i a=true)(h:jk a b=some p){as bs}(z:qj K a as.toList)(hb:qj K b bs.toList):
 P.eqGuardType P.depth t=false/\(Op.equalIn 10000 t (.agg as) (.agg bs)).run P w=.ok p w:=by
 obtain⟨n,e,inf,o,g,hi,r,l,rfl,B⟩:=qmd A;obtain⟨m,s⟩:=wG _ _ v;constructor
 . have:∃d,P.depth=d+2:=⟨2*(P.types.size+Made.depth),rfl⟩;obtain⟨d,hd⟩:=this;rw[hd,Program.eqGuardType];simp only[g];exact ve l d
 rw[run_equalIn_array w 9999 as bs g hi,r,qCF];refine WD 9998 l as bs n 0 a b p (by simpa using m) (by simpa using z) (by simpa using hb) h ?_;intro x u;obtain⟨j,f⟩:=List.mem_iff_getElem?.1 u;have y:j<n:=by
  obtain⟨h1,_⟩:=qBk.1 f;simpa[m] using h1
 have c:=s j (QK P o) x (by simp[y]) f;rw[B];cases hd:QK P o<;>simp only[hd]at c<;>cases x<;>simp only[qbc]at c
 . rw[qar hd];trivial
 . rw[Yc hd];trivial
 rw[Qd hd];trivial
def WE{t a b p}(h:qbh (Dof P) t a b=some p){as bs}(m:qj K a as.toList)(hb:qj K b bs.toList):
 P.eqGuardType P.depth t=false/\(Op.equalIn 10000 t (.agg as) (.agg bs)).run P w=.ok p w:=by
 unfold qbh at h;split at h
 . rename_i y g;split at h
   . rename_i e;obtain⟨fields,o,E,rfl,c,v⟩:=JT g;obtain⟨A,C⟩:=wG _ _ e;have r:P.fieldsOf t=fields:=(by simp[Program.fieldsOf,o]);constructor
     . have:∃d,P.depth=d+2:=⟨2*(P.types.size+Made.depth),rfl⟩;obtain⟨d,hd⟩:=this;rw[hd,Program.eqGuardType];simp only[o];rw[<- Array.any_toList,qCM];intro f D;have:=ve (c f D).1 d;simp[this]
     rw[run_equalIn_struct w 9999 t as bs (by rwa[r]) E,r];refine Yq 9998 as bs fields.toList 0 a b p c (by rw[v,qCF];simp) (by simpa using A) (by simpa using m) (by simpa using hb) h ?_;intro j f x l u;have:=C j (qP (Dof P) f.type) x (by simp[l]) u;have s:=(c f (qBl l)).1;unfold kz at s;unfold qP at this
     cases hD:Dof P f.type with
     |none=>simp[hD]at s
     | some i=>
      obtain⟨inf,d,z,hi,B,_,rfl⟩:=qH hD;simp only[hD]at this;rw[B];cases hd:QK P d<;>simp only[hd]at this<;>cases x<;>simp only[qbc]at this
      . rw[qar hd];trivial
      . rw[Yc hd];trivial
      rw[Qd hd];trivial
   cases h
 split at h
 . rename_i y g;split at h
   . rename_i e;exact qls g e h m hb
   cases h
 cases h
def ql3{op t x y v x' y'}(f:qi K x x')(g:qi K y y')(c:qpm (Dof P) op t x y=some v)(m l):
 ∃v',(do eqGuard op t m l x' y';binOp op t x' y':Sem Value).run P w=.ok v' w/\qi K v v':=by
 have guard:∀{a b:Value},(∀s,a≠.agg s)->a≠.nilIface->(eqGuard op t m l a b).run P w=.ok () w:=by
  intro a b h1 h2;cases op<;>simp[eqGuard]<;>cases a<;>first|exact absurd rfl (h1 _)|exact absurd rfl h2|rfl|simp
 unfold qpm at c;split at c
 . rename_i k a k' b;simp only[qi]at f g;subst f;subst g;split at c
   . split at c
     . cases c
     . rename_i hb;cases c;exact⟨.int k (k.wrap (a*2^(min b.toNat k.bits))),by rw[Sem.run_bind,guard (by simp) (by simp),Result.andThen_ok];simp[binOp,Op.shift,hb],by simp[qi]⟩
   . split at c
     . cases c
     . rename_i hb;cases c;exact⟨.int k (a.fdiv (2^(min b.toNat k.bits))),by rw[Sem.run_bind,guard (by simp) (by simp),Result.andThen_ok];simp[binOp,Op.shift,hb],by simp[qi]⟩
   rename_i h1 h2;split at c
   . rename_i D;subst D;obtain⟨v',h,j⟩:=qeI (P:=P) (K:=K) (w:=w) c t ⟨fun e=>h1 e,fun e=>h2 e⟩;exact⟨v',by rw[Sem.run_bind,guard (by simp) (by simp),Result.andThen_ok];exact h,j⟩
   cases c
 . rename_i a b;simp only[qi]at f g;subst f;subst g;have key:∀u:Value,(Op.stringOp op ⟨a.toArray⟩ ⟨b.toArray⟩).run P w=.ok u w->(do eqGuard op t m l (.string ⟨a.toArray⟩) (.string ⟨b.toArray⟩);binOp op t (.string ⟨a.toArray⟩) (.string ⟨b.toArray⟩):Sem Value).run P w=.ok u w:=by
    intro u o;rw[Sem.run_bind,guard (by simp) (by simp),Result.andThen_ok];cases op<;>simpa[binOp] using o
   cases op<;>simp only[qro]at c
   case add=>
    split at c
    . rename_i F;cases c;refine⟨.string ⟨(a++b).toArray⟩,key _ ?_,by simp[qi]⟩;have:¬(((⟨a.toArray⟩:ByteArray).size+(⟨b.toArray⟩:ByteArray).size:Nat):Int) > IntKind.i64.max:=by
       rw[ZT,ZT];simp[IntKind.max,IntKind.signed,IntKind.bits];omega
      simp only[Op.stringOp];rw[if_neg this,qhF];rfl
    cases c
   all_goals first
    |(cases c;done)
    | (cases c
       exact⟨.bool _,key _ (by simp only[Op.stringOp,y9,pure,Sem.run];rfl),by simp[qi]⟩)
 . rename_i a b;simp only[qi]at f g;subst f;subst g;have C:qP (Dof P) t=.bool->P.underlying t=some .bool:=by
    intro e;unfold qP at e;split at e
    . rename_i i E;obtain⟨inf,d,z,hi,o,_,rfl⟩:=qH E;rw[o,qar e]
    cases e
   split at c
   . rename_i r;cases c;exact⟨.bool (a==b),by rw[Sem.run_bind,guard (by simp) (by simp),Result.andThen_ok];simp[binOp,Op.equal,Op.maxDepth,run_equalIn_bool' w 9999 t a b (C r)],by simp[qi]⟩
   . rename_i r;cases c;exact⟨.bool (!(a==b)),by rw[Sem.run_bind,guard (by simp) (by simp),Result.andThen_ok];simp[binOp,Op.equal,Op.maxDepth,run_equalIn_bool' w 9999 t a b (C r)],by simp[qi]⟩
   cases c
 . rename_i a b;simp only[qi]at f g;obtain⟨as,rfl,B⟩:=f;obtain⟨bs,rfl,hb⟩:=g;split at c
   . obtain⟨p,A,rfl⟩:=qBu.1 c;obtain⟨h,j⟩:=WE (w:=w) A B hb;exact⟨.bool p,by simp only[Sem.run_bind,run_eqGuard_agg w _ t m l as bs h,Result.andThen_ok,run_eql_struct,j],by simp[qi]⟩
   . obtain⟨p,A,rfl⟩:=qBu.1 c;obtain⟨h,j⟩:=WE (w:=w) A B hb;exact⟨.bool (!p),by simp only[Sem.run_bind,run_eqGuard_agg w _ t m l as bs h,Result.andThen_ok,run_neq_struct,j],by simp[qi]⟩
   cases c
 cases c
def Wp(f:Value->ByteArray->Sem (ForInStep ByteArray))(c:∀n s,f (.int .u8 n) s=pure (ForInStep.yield (s.push (UInt8.ofNat n.toNat)))):
 ∀(rows) (vs) (l:List UInt8) (s),qj K rows.flatten vs->bytesOf rows=some l ->
 (forIn vs s f:Sem ByteArray).run P w=.ok ⟨(s.data.toList++l).toArray⟩ w
 | [],vs,l,s,h,a=>by
  simp[bytesOf]at a;subst a;simp only[List.flatten_nil,qj]at h;subst h;simp
 | r::rows,vs,l,s,h,a=>by
  unfold bytesOf at a;split at a
  . rename_i b;simp at b
  . rename_i n r' b;simp only[qDR]at b;obtain⟨rfl,rfl⟩:=b;obtain⟨e,d,rfl⟩:=qBu.1 a;simp only[qB7,qDD,qj,qi]at h;obtain⟨v,g,rfl,rfl,h2⟩:=h;have ih:=Wp f c rows g e (s.push (UInt8.ofNat n.toNat)) h2 d;simp only[List.forIn_cons,c];simp only[pure,Sem.run_bind,Sem.run,Result.andThen_ok];rw[ih];simp
  cases a
def qix(h:WRel G w0 ro0 K σ w){s d x v x'}(b:qi K x x')(a:ye (Dof P) s d x=some v):
 ∃v',(convert s d x').run P w=.ok v' w/\qi K v v':=by
 unfold ye at a;split at a
 . rename_i i j k n hi r;obtain⟨inf,D,z,I,f,_,rfl⟩:=qH hi;obtain⟨L,A,J,E,c,_,rfl⟩:=qH r;simp only at a;split at a
   . rename_i k1 M g o;cases a;simp only[qi]at b;subst b;refine⟨.int M (M.wrap n),?_,by simp[qi]⟩;have u:=Yc g;have t:=Yc o;subst u t;simp[convert,run_underlying f,run_underlying c,Conv.intToInt]
   cases a
 . rename_i i j l hi r;obtain⟨inf,D,z,I,f,_,rfl⟩:=qH hi;obtain⟨L,A,J,E,c,_,rfl⟩:=qH r;simp only at a;split at a
   . rename_i g o;cases a;simp only[qi]at b;subst b;refine⟨.string ⟨l.toArray⟩,?_,by simp[qi]⟩;have u:=Qd g;have t:=Qd o;subst u t;simp[convert,run_underlying f,run_underlying c]
   cases a
 . rename_i i j rows tok hi r;obtain⟨inf,D,z,I,f,_,rfl⟩:=qH hi;obtain⟨L,A,J,E,c,_,rfl⟩:=qH r;simp only at a;split at a
   . rename_i e g o;have u:=Zd g;have t:=Qd o;subst u t;split at a
     . rename_i m T;obtain⟨a1,W,z3,Y,N,_,rfl⟩:=qH T;simp only at a;split at a
       . rename_i Q;have U:=Yc Q;subst U;obtain⟨l,y,rfl⟩:=qBu.1 a;simp only[qi]at b;rcases b with⟨⟨V,rfl,_⟩,rfl,_⟩|⟨B,off,cap,rfl,X,O,_⟩
         . simp[bytesOf]at y;subst y;refine⟨.string .empty,?_,by simp[qi];rfl⟩;cases V<;>simp[convert,run_underlying f,run_underlying c,run_underlying N,Conv.bytesToString,loadCells,loadCellsFrom]
         obtain⟨f1,R,Z⟩:=qQ.flat B 1 rows off O;obtain⟨vs,F,S⟩:=qF8 h.ro B _ off f1;have C:=run_loadCells_list (P:=P) w ⟨B,off,none⟩ vs (fun j v e=>by rw[jz];exact S j v e);rw[show vs.length=rows.length by rw[F.length,R];omega]at C;refine⟨.string ⟨l.toArray⟩,?_,by simp[qi]⟩;simp only[convert,run_underlying f,run_underlying c,run_underlying N,Conv.bytesToString,Sem.run_bind,Result.andThen_ok,C];rw[<- Array.forIn_toList];simp;rw[Wp (P:=P) (w:=w) _ (fun n s=>rfl) rows _ l ByteArray.empty (by simpa using F) y];simp[ByteArray.empty,ByteArray.emptyWithCapacity];rfl
       cases a
     cases a
   cases a
 cases a
end
section
variable {P:Program}{G:Nat->AV}{w0:World}{ro0:Nat->Nat->Option Value}{K:Kn}{σ:St}{w w':World}
def kk{k:IntKind}{n:Int}{y:Nat}(h0:0<=n)(h1:n<=y)(c:BoundsCode):(Instr.sliceBound (.int k n) y c).run P w=.ok n.toNat w:=by
 simp[*,Instr.sliceBound,asIntOf]
def jZ{isS}{len cap:Nat}{lo hi mx d i mx'}(B:∀a,lo=some a->∃v,d=some v/\qi K a v)(D:lo=none->d=none)
 (j:∀a,hi=some a->∃v,i=some v/\qi K a v) (x:hi=none->i=none) (C:∀a,mx=some a->∃v,mx'=some v/\qi K a v) (z:mx=none->mx'=none)
 {l h} (el:zM lo 0=some l) (f:zM hi len=some h)
 (t:0<=l/\l<=h/\h<=len) (F:len<=cap) (r:∀a,mx=some a->vi a=some h/\hi.isSome):
 (Instr.sliceBounds isS len cap d i mx').run P w=.ok (l.toNat,h.toNat,if mx.isSome then h.toNat else cap) w:=by
 obtain⟨h1,h2,E⟩:=t;have g:∀c,(match d with|some v=>Instr.sliceBound v h.toNat c|none=>(pure 0:Sem Nat)).run P w=.ok l.toNat w:=by
  intro c
  cases lo with
  | none=>
   rw[D rfl];simp[zM]at el;subst el;simp
  | some a=>
   obtain⟨v,rfl,e⟩:=B a rfl;obtain⟨k,rfl⟩:=yI el e;exact kk h1 (by omega) c
 cases mx with
 | none=>
  rw[z rfl]
  cases hi with
  | none=>
   rw[x rfl];simp only[zM,qBI]at f;subst f;have:=g .sliceB
   cases hl':d with
   |none=>simp[hl']at this;simp[Instr.sliceBounds];omega
   |some v=>simp[hl']at this;simp[Instr.sliceBounds,this]
  | some a=>
   obtain⟨v,rfl,e⟩:=j a rfl;obtain⟨k,rfl⟩:=yI f e;have hb:=fun c=>kk (P:=P) (w:=w) (k:=k) (n:=h) (y:=cap) (by omega) (by omega) c
   have:=g .sliceB
   cases hl':d with
   |none=>simp[hl']at this;simp[Instr.sliceBounds,hb];omega
   |some v=>simp[hl']at this;simp[*,Instr.sliceBounds]
 | some a=>
  obtain⟨v,rfl,e⟩:=C a rfl;obtain⟨m,o⟩:=r a rfl;obtain⟨k,rfl⟩:=yI m e
  cases hi with
  |none=>simp at o
  | some b=>
   obtain⟨u,rfl,s⟩:=j b rfl;obtain⟨k',rfl⟩:=yI f s;have hb:=fun c=>kk (P:=P) (w:=w) (k:=k) (n:=h) (y:=cap) (by omega) (by omega) c
   have A:=fun c=>kk (P:=P) (w:=w) (k:=k') (n:=h) (y:=h.toNat) (by omega) (by omega) c
   have:=g .slice3C
   cases hl':d with
   |none=>simp[hl']at this;simp[Instr.sliceBounds,hb,A];omega
   |some v=>simp[hl']at this;simp[*,Instr.sliceBounds]
def qQ.sub{B sz rows off}(h:qQ K B off sz rows)(l n):qQ K B (off+l*sz) sz ((rows.take n).drop l):=by
 refine qGa B sz _ _ fun i r e=>?_
 rw[qCm,qCi]at e;split at e
 . obtain⟨h1,h2,a⟩:=qQ.get B sz rows off h _ _ e;exact⟨h1,h2,by rw[qCx]at a;rwa[qDu]⟩
 cases e
def qew{N env a}(c:WRel G w0 ro0 K σ w)(b:ERel K N env a)(o:Option Operand):
 (∀x,o.map (ev G env)=some x->∃v,o.map a.eval=some v/\qi K x v)/\(o.map (ev G env)=none->o.map a.eval=none):=by
 cases o with
 |none=>simp
 |some x=>exact⟨fun y e=>by simp at e;subst e;exact⟨_,rfl,Jn c b x⟩,by simp⟩
def qjJ{t:Nat}(j:P.underlying t=some .string){s:List UInt8}{lo hi mx:Option AV}{c d mx':Option Value}(e:∀a,lo=some a->∃v,c=some v/\qi K a v)(i:lo=none->c=none)
 (m:∀a,hi=some a->∃v,d=some v/\qi K a v) (g:hi=none->d=none) (o:mx=none->mx'=none)
 {v:AV} (b:zm (.str s) lo hi mx=some v):∃v',(Instr.sliceAt t (.string ⟨s.toArray⟩) c d mx').run P w=.ok v' w/\qi K v v':=by
 unfold zm at b;simp only at b;split at b
 . rename_i l h el f;split at b
   . rename_i r;cases b;rw[o rfl];have hb:=jZ (P:=P) (w:=w) (K:=K) (isS:=false) (len:=s.length) (cap:=s.length) e i m g (mx:=none) (mx':=none) (by simp) (by simp) el f r (qBs _) (by simp);refine⟨.string ⟨((s.take h.toNat).drop l.toNat).toArray⟩,?_,by simp[qi]⟩;simp at hb;simp only[Instr.sliceAt,Instr.slice,Sem.run_bind,run_underlying j,Result.andThen_ok,ZT];simp only[Option.isSome_none,qBP,if_false,Sem.run_bind,pure,Sem.run,Result.andThen_ok,hb];rw[qec]
   cases b
 cases b
def qni{t e:Nat}(y:P.underlying t=some (.slice e)){inf:TypeInfo}(x:P.info? e=some inf){sz:Nat}{rows:List (List AV)}{tok:Tok}(f:sz=inf.size\/rows=[])
 {x':Value} (u:qi K (.sl sz rows tok) x')
 {lo hi mx:Option AV} {j s mx':Option Value} (G:∀a,lo=some a->∃v,j=some v/\qi K a v) (A:lo=none->j=none)
 (J:∀a,hi=some a->∃v,s=some v/\qi K a v) (E:hi=none->s=none) (z:∀a,mx=some a->∃v,mx'=some v/\qi K a v) (F:mx=none->mx'=none)
 {v:AV} (b:zm (.sl sz rows tok) lo hi mx=some v):∃v',(Instr.sliceAt t x' j s mx').run P w=.ok v' w/\qi K v v':=by
 unfold zm at b;simp only at b;split at b
 . rename_i l h el D;split at b
   . rename_i W;obtain⟨c1,c2,c3,c4⟩:=W;cases b;have I:∀a,mx=some a->vi a=some h/\hi.isSome:=by
      intro a U;subst U;simpa[yp] using c4
     simp only[qi]at u;rcases u with⟨⟨r,rfl,V⟩,rfl,g⟩|⟨B,off,cap,rfl,Q,T,g⟩
     . have hb:=jZ (P:=P) (w:=w) (K:=K) (isS:=true) (len:=0) (cap:=0) G A J E z F el (by simpa using D) ⟨c1,c2,by simpa using c3⟩ (qBs _) I;have m:l.toNat=0:=(by simp at c3;omega);have o:h.toNat=0:=(by simp at c3;omega);rw[m,o]at hb;refine⟨.slice r 0 0,?_,?_⟩
       . simp only[Instr.sliceAt,Instr.slice,Sem.run_bind,run_underlying y,Result.andThen_ok,hb];cases r<;>simp[sizeOf,typeInfo,x]
       simp only[qi];refine .inl ⟨⟨r,rfl,?_⟩,by simp,?_⟩
       . rcases V with rfl|rfl
         . exact .inl rfl
         . refine .inr ?_;rw[m,o];cases mx<;>simp[zH,Tok.known]
       rw[m,o];cases mx<;>cases tok<;>simp[zH,Tok.known,Tok.plain]<;>exact g.elim
     have hb:=jZ (P:=P) (w:=w) (K:=K) (isS:=true) (len:=rows.length) (cap:=cap) G A J E z F el D ⟨c1,c2,c3⟩ Q I;have O:h.toNat<=(if mx.isSome then h.toNat else cap):=(by split<;>omega);have S:(if mx.isSome then h.toNat else cap)<=cap:=(by split<;>omega);generalize d:(if mx.isSome then h.toNat else cap)=M at hb O S;have i:((rows.take h.toNat).drop l.toNat).length=h.toNat-l.toNat:=(by simp;omega);refine⟨.slice (some ⟨B,if M=l.toNat then off else off+l.toNat*inf.size,none⟩) (h.toNat-l.toNat) (M-l.toNat),?_,?_⟩
     . simp only[Instr.sliceAt,Instr.slice,Sem.run_bind,run_underlying y,Result.andThen_ok,hb];simp[sizeOf,typeInfo,x,jz];split<;>rfl
     simp only[qi];refine .inr ⟨B,_,M-l.toNat,by rw[i],by rw[i];omega,?_,?_⟩
     . by_cases L:M=l.toNat
       . have:(rows.take h.toNat).drop l.toNat=[]:=qBy (by rw[i];omega);rw[this];simp[qQ]
       . rw[if_neg L];rcases f with f|f
         . rw[<- f];exact qQ.sub T _ _
         subst f;simp[qQ]
     rw[i]
     cases hms:mx.isSome with
     | true=>
      rw[hms]at d;simp only[if_true]at d;simp only[if_true,zH];by_cases C:True/\(0<rows.length\/tok.known=true)
      . rw[if_pos C];simp only[wo];omega
      rw[if_neg C];trivial
     | false=>
      rw[hms]at d;simp only[qBP,if_false]at d;simp only[qBP,if_false,zH]
      cases tok with
      |none=>trivial
      |nil=>trivial
      | tight=>
       by_cases c:h.toNat=rows.length
       . simp only[if_pos c,wo]at g⊢;omega
       simp only[if_neg c,wo]
      | chain ct X=>
       by_cases c:l.toNat=0/\h.toNat=rows.length
       . simp only[if_pos c];obtain⟨R,N⟩:=c;rw[R,N];simp only[qDa,qCV,qEu,ite_self,<- d];exact g
       simp only[if_neg c,wo]
   cases b
 cases b
def qnj{t e:Nat}(s:P.underlying t=some (.slice e)){inf:TypeInfo}(r:P.info? e=some inf){b off len:Nat}
 {x':Value} (f:qi K (.ms b off len inf.size) x')
 {lo hi mx:Option AV} {g m mx':Option Value} (z:∀a,lo=some a->∃v,g=some v/\qi K a v) (A:lo=none->g=none)
 (C:∀a,hi=some a->∃v,m=some v/\qi K a v) (u:hi=none->m=none) (x:mx=none->mx'=none)
 {v:AV} (c:zm (.ms b off len inf.size) lo hi mx=some v):∃v',(Instr.sliceAt t x' g m mx').run P w=.ok v' w/\qi K v v':=by
 unfold zm at c;simp only at c;split at c
 . rename_i l h el o;split at c
   . rename_i j;obtain⟨c1,c2,c3,c4⟩:=j;cases c;rw[x rfl];simp only[qi]at f;obtain⟨B,cap,y,rfl,i,E,F⟩:=f;have hb:=jZ (P:=P) (w:=w) (K:=K) (isS:=true) (len:=len) (cap:=cap) z A C u (mx:=none) (mx':=none) (by simp) (by simp) el o ⟨c1,c2,c3⟩ i (by simp);simp at hb;refine⟨.slice (some ⟨B,off+l.toNat*inf.size,none⟩) (h.toNat-l.toNat) (cap-l.toNat),?_,?_⟩
     . simp only[Instr.sliceAt,Instr.slice,Sem.run_bind,run_underlying s,Result.andThen_ok,hb];simp[sizeOf,typeInfo,r,jz,show ¬cap=l.toNat by omega]
     simp only[qi];refine⟨B,cap-l.toNat,y,rfl,by omega,by omega,?_⟩;have:cap*inf.size=l.toNat*inf.size+(cap-l.toNat)*inf.size:=by rw[<- qCx];congr 1;omega
     omega
   rename_i G;split at c
   . rename_i j;obtain⟨c1,c2⟩:=j;cases c;rw[x rfl];simp only[qi]at f;obtain⟨B,cap,y,rfl,i,E,F⟩:=f;have hb:=jZ (P:=P) (w:=w) (K:=K) (isS:=true) (len:=len) (cap:=cap) z A C u (mx:=none) (mx':=none) (by simp) (by simp) el o ⟨by omega,by omega,by omega⟩ i (by simp);simp at hb;refine⟨.slice (some (if cap=l.toNat then⟨B,off,none⟩ else⟨B,off+l.toNat*inf.size,none⟩)) (h.toNat-l.toNat) (cap-l.toNat),?_,?_⟩
     . simp only[Instr.sliceAt,Instr.slice,Sem.run_bind,run_underlying s,Result.andThen_ok,hb];by_cases d:cap=l.toNat<;>simp[sizeOf,typeInfo,r,jz,d]
     have D:h.toNat-l.toNat=0:=(by omega);simp only[qi];right;by_cases d:cap=l.toNat
     . exact⟨B,off,cap-l.toNat,by rw[if_pos d,D];rfl,by simp,by simp[qQ],by simp[wo]⟩
     exact⟨B,off+l.toNat*inf.size,cap-l.toNat,by rw[if_neg d,D];rfl,by simp,by simp[qQ],by simp[wo]⟩
   cases c
 cases c
def qkR(h:WRel G w0 ro0 K σ w){t:Nat}{x v:AV}{x':Value}(c:qi K x x')(ty:Nat)(a:Yk (Dof P) σ t x=some v):
 ∃v',(Builtin.len_ #[t] ty #[x']).run P w=.ok v' w/\qi K v v':=by
 unfold Yk at a;split at a
 . rename_i i m;obtain⟨inf,d,z,hi,f,_,rfl⟩:=qH m;simp only at a;split at a
   . rename_i s hd;have:=Qd hd;subst this;cases a;simp only[qi]at c;subst c;exact⟨.int .i64 s.length,by simp[Builtin.len_,run_underlying f,goInt,ZT],by simp[qi]⟩
   . rename_i e sz rows tok hd;have:=Zd hd;subst this;cases a;simp only[qi]at c;rcases c with⟨⟨r,rfl,_⟩,rfl,_⟩|⟨B,off,cap,rfl,_⟩
     . exact⟨.int .i64 0,by simp[Builtin.len_,run_underlying f,goInt],by simp[qi]⟩
     exact⟨.int .i64 rows.length,by simp[Builtin.len_,run_underlying f,goInt],by simp[qi]⟩
   . rename_i e b off len sz hd;have:=Zd hd;subst this;cases a;simp only[qi]at c;obtain⟨B,cap,g,rfl,_⟩:=c;exact⟨.int .i64 len,by simp[Builtin.len_,run_underlying f,goInt],by simp[qi]⟩
   . rename_i n e hd;have:=qb5 hd;subst this;cases a;exact⟨.int .i64 n,by simp[Builtin.len_,run_underlying f,goInt],by simp[qi]⟩
   . rename_i k e hd;have:=qb4 hd;subst this;cases a;simp only[qi]at c;subst c;exact⟨.int .i64 0,by simp[Builtin.len_,run_underlying f,goInt],by simp[qi]⟩
   . rename_i k e b hd;have:=qb4 hd;subst this;split at a
     . rename_i es clock hb;cases a;simp only[qi]at c;obtain⟨B,g,rfl⟩:=c;obtain⟨B',h1,_,_,⟨o,l,j,_⟩,_⟩:=h.blk b _ hb;rw[g]at h1;cases h1;exact⟨.int .i64 es.length,by simp[Builtin.len_,run_underlying f,goInt,getObj,Sem.run,l,j],by simp[qi]⟩
     cases a
   cases a
 cases a
def qkJ{x y v:AV}{x' y':Value}(d:qi K x x')(e:qi K y y')(f:Array Nat)(ty:Nat)(c:vR x y=some v):
 ∃v',(Builtin.min_ f ty #[x',y']).run P w=.ok v' w/\qi K v v':=by
 unfold vR at c;split at c
 . rename_i k a k' b;cases c;simp only[qi]at d e;subst d;subst e;exact⟨.int k (if b<a then b else a),by simp[Builtin.min_,Builtin.min2],by simp[qi]⟩
 cases c
def qh7{x y z v:AV}{x' y' h:Value}(e:qi K x x')(f:qi K y y')(g:qi K z h)(i:Array Nat)(ty:Nat)(d:qkK x y z=some v):
 ∃v',(Builtin.min_ i ty #[x',y',h]).run P w=.ok v' w/\qi K v v':=by
 unfold qkK at d;split at d
 . rename_i k a k' b j c;cases d;simp only[qi]at e f g;subst e;subst f;subst g;exact⟨.int k (if c<(if b<a then b else a) then c else if b<a then b else a),by simp[Builtin.min_,Builtin.min2],by simp[qi]⟩
 cases d
def qkN{x y v:AV}{x' y':Value}(d:qi K x x')(e:qi K y y')(f:Array Nat)(ty:Nat)(c:qoi x y=some v):
 ∃v',(Builtin.max_ f ty #[x',y']).run P w=.ok v' w/\qi K v v':=by
 unfold qoi at c;split at c
 . rename_i k a k' b;cases c;simp only[qi]at d e;subst d;subst e;exact⟨.int k (if b > a then b else a),by simp[Builtin.max_,Builtin.max2],by simp[qi]⟩
 cases c
end
def jl{α:Type}(f:α->Nat):List α->Nat
 |[]=>0
 |a::r=>f a+jl f r
section
variable {α β:Type}
def Zs(f):∀l m:List α,jl f (l++m)=jl f l+jl f m
 |[],m=>by simp[jl]
 |a::r,m=>by simp only[List.cons_append,jl,Zs f r m];omega
def Yd(f:β->Nat)(g:α->List β):∀l:List α,jl f (l.flatMap g)=jl (fun a=>jl f (g a)) l
 |[]=>rfl
 |a::r=>by simp only[List.flatMap_cons,Zs,jl,Yd f g r]
def yC{f g}:∀{l:List α},(∀a∈l,f a=g a)->jl f l=jl g l
 |[],_=>rfl
 |a::r,h=>by simp only[jl];rw[h a (by simp),yC fun x b=>h x (by simp[b])]
def qav(c f):∀l:List α,jl (fun a=>c*f a) l=c*jl f l
 |[]=>by simp[jl]
 |a::r=>by simp only[jl,qav c f r,Nat.mul_add]
def ZS{f}:∀{l:List α},(∀a∈l,f a=0)->jl f l=0
 |[],_=>rfl
 |a::r,h=>by simp only[jl];rw[h a (by simp),ZS fun x b=>h x (by simp[b])]
def qjB{f:α->Nat}{l:List α}{a:α}(h:a∈l):f a<=jl f l:=by
 induction l with
 |nil=>cases h
 | cons b r ih=>
  rcases List.mem_cons.1 h with rfl|h
  . simp only[jl];omega
  have:=ih h;simp only[jl];omega
end
section
variable {α:Type}
end
def lim:Nat:=1099511627777
def sat(n:Nat):Nat:=min n lim
def qcn(n):sat n<=lim:=Nat.min_le_right _ _
def qrB(a b):sat (sat a+sat b)=sat (a+b):=by unfold sat lim;omega
def qrA(a b):sat (sat a*sat b)=sat (a*b):=by
 have key:∀x y:Nat,lim<=x->0<y->lim<=x*y:=fun x y f i=>Nat.le_trans f (Nat.le_mul_of_pos_right x i)
 have c:∀x:Nat,lim<=x->sat x=lim:=fun x h=>Nat.min_eq_right h
 have low:∀x:Nat,x<=lim->sat x=x:=fun x h=>Nat.min_eq_left h
 have j:0<lim:=by unfold lim;omega
 rcases Nat.eq_zero_or_pos a with rfl|d
 . simp[sat]
 rcases Nat.eq_zero_or_pos b with rfl|g
 . simp[sat]
 by_cases e:a<=lim
 . rw[low a e];by_cases hb:b<=lim
   . rw[low b hb]
   rw[c b (by omega),c (a*lim) (by rw[Nat.mul_comm];exact key _ _ (Nat.le_refl _) d),c (a*b) (by rw[Nat.mul_comm];exact key _ _ (by omega) d)]
 rw[c a (by omega),c (a*b) (key _ _ (by omega) g)];refine c _ (key _ _ (Nat.le_refl _) ?_);unfold sat;omega
def Zw{n}:sat n=0↔n=0:=by unfold sat lim;omega
def quN{n}(h:sat n≠lim):sat n=n:=by unfold sat at *;omega
