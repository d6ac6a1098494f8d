import Derived.WalkKit
import Derived.Below
import Derived.Orders
import Derived.Deep.LoopGhost
set_option linter.all false
set_option linter.defProp false
namespace Go.Abs
open Go Go.RowKit
def qAU:=@List.getElem?_eq_some_iff
def qAV:=@List.mem_of_getElem?
def qAW:=@List.getElem?_eq_getElem
def qAX:=@List.getElem?_set_ne
def qAY:=@List.length_append
def qAZ:=@List.take_of_length_le
def qA0:=@List.getElem?_set_self
def qA1:=@Bool.and_eq_true
def qA2:=@Option.map_eq_some_iff
def qA3:=@List.all_eq_true
def qA4:=@List.getElem?_append_right
def qA5:=@Nat.le_refl
def qA6:=@List.eq_nil_of_length_eq_zero
def qA7:=@List.map_cons
def qA8:=@List.getD_eq_getElem?_getD
def qA9:=@List.drop_eq_getElem_cons
def qBa:=@List.getElem?_append_left
def qBb:=@List.mem_append
def qBc:=@List.length_cons
def qBd:=@Nat.lt_of_lt_of_le
def qBe:=@Int.eq_ofNat_of_zero_le
def qBf:=@List.length_pos_iff
def qBg:=@Option.some.injEq
def qBh:=@Prod.mk.injEq
def qBi:=@List.take_add_one
def qBj:=@List.mem_map
def qBk:=@List.nil_append
def qBl:=@List.cons_append
def qBm:=@List.flatMap_cons
def qBn:=@Nat.pow_le_pow_right
def qBo:=@List.length_singleton
def qBp:=@List.getElem?_map
def qBq:=@List.drop_of_length_le
def qBr:=@List.any_eq_true
def qBs:=@List.getElem?_eq_none
def qBt:=@List.mem_cons
def qBu:=@Int.toNat_natCast
def qBv:=@List.mem_flatten
def qBw:=@List.foldl_cons
def qBx:=@List.set_append
def qBy:=@List.map_nil
def qBz:=@Bool.false_eq_true
def qBA:=@List.length_map
def qBB:=@List.getElem?_of_mem
def qBC:=@List.append_nil
def qBD:=@List.mem_singleton
def qBE:=@List.append_assoc
def qBF:=@List.take_append_drop
def qBG:=@List.length_take
def qBH:=@List.mem_of_mem_take
def qBI:=@List.flatten_cons
def qBJ:=@List.mem_append_left
def qBK:=@List.set_append_right
def qBL:=@List.drop_length
def qBM:=@List.getElem?_drop
def qBN:=@Nat.le_trans
def qBO:=@List.getElem?_append
def qBP:=@Bool.eq_iff_iff
def qBQ:=@Nat.div_le_self
def qBR:=@Array.getElem?_eq_some_iff
def qBS:=@Nat.sub_self
def qBT:=@Int.tdiv_eq_ediv_of_nonneg
def qBU:=@Nat.mul_le_mul_right
def qBV:=@List.map_append
def qBW:=@Nat.add_mul
def qBX:=@List.foldl_append
def qBY:=@List.getElem?_take
def qBZ:=@List.drop_zero
def qB0:=@Nat.add_sub_cancel_left
def qB1:=@Classical.not_not
def qB2:=@List.ext_getElem?
def qB3:=@Nat.lt_of_le_of_lt
def qB4:=@Nat.gcd_pos_of_pos_right
def qB5:=@Nat.lt_succ_iff_lt_or_eq
def qB6:=@List.take_append_of_le_length
def qB7:=@Bool.true_and
def qB8:=@List.length_nil
def qB9:=@List.dropLast_concat_getLast
def qCa:=@List.map_congr_left
def qCb:=@Nat.mul_assoc
def qCc:=@List.mem_filter
def qCd:=@List.mem_range
def qCe:=@Bool.eq_false_iff
def qCf:=@Int.tmod_eq_emod_of_nonneg
def qCg:=@List.mem_cons_of_mem
def qCh:=@Nat.eq_zero_or_pos
def qCi:=@Nat.pow_succ
def qCj:=@List.length_set
def qCk:=@List.range_succ
def qCl:=@List.mem_append_right
def qCm:=@List.all_cons
def qCn:=@Bool.not_eq_true'
def qCo:=@List.map_map
def qCp:=@List.mem_of_mem_drop
def qCq:=@Nat.min_eq_left
def qCr:=@List.take_length
def qCs:=@Array.length_toList
def qCt:=@List.take_succ_cons
def qCu:=@List.nodup_append
def qCv:=@List.any_eq_false
def qCw:=@Option.bind_eq_some_iff
def qCx:=@List.all_append
def qCy:=@Nat.add_zero
def qCz:=@List.getElem_map
def qCA:=@List.getElem?_zip_eq_some
def qCB:=@List.drop_append_of_le_length
def qCC:=@Nat.zero_add
def qCD:=@List.flatMap_def
def qCE:=@Nat.gcd_dvd_right
def qCF:=@List.mem_or_eq_of_mem_set
def qCG:=@Array.eq_empty_of_size_eq_zero
def qCH:=@List.pairwise_iff_getElem
def qCI:=@List.eq_nil_iff_forall_not_mem
def qCJ:=@List.mem_cons_self
def qCK:=@Nat.zero_mul
def qCL:=@List.mem_replicate
def qCM:=@List.length_drop
def qCN:=@List.drop_append
def qCO:=@Nat.zero_le
def qCP:=@List.range_eq_range'
def qCQ:=@Nat.mul_le_mul
def qCR:=@List.getElem?_modify
def qCS:=@Nat.eq_of_testBit_eq
def qCT:=@Nat.mul_div_cancel_left
def qCU:=@List.getElem?_set
def qCV:=@List.replicate_succ
def qCW:=@List.flatten_append
def qCX:=@Nat.add_comm
def qCY:=@Nat.mul_add
def qCZ:=@Nat.mul_comm
def qC0:=@Nat.add_assoc
def qC1:=@List.any_cons
def qC2:=@Bool.and_true
def qC3:=@List.range'_succ
def qC4:=@Nat.gcd_dvd_left
def qC5:=@List.singleton_append
def qC6:=@List.length_filter_le
def qC7:=@Bool.or_eq_true
def qC8:=@List.cons.injEq
def qC9:=@Array.toArray_toList
def qDa:=@Bool.eq_false_or_eq_true
def qDb:=@Nat.and_two_pow_sub_one_eq_mod
def qDc:=@List.getElem?_take_of_lt
def qDd:=@List.eq_of_mem_replicate
def qDe:=@Nat.mod_eq_of_lt
def qDf:=@Bool.false_and
def qDg:=@List.not_mem_nil
def qDh:=@List.getElem_mem
def qDi:=@Nat.min_le_right
def qDj:=@Nat.pos_of_ne_zero
def qDk:=@List.getElem?_toArray
def qDl:=@List.sum_cons
def qDm:=@Int.fdiv_eq_ediv_of_nonneg
def qDn:=@Nat.le_of_dvd
def qDo:=@Nat.mod_lt
def qDp:=@Bool.or_eq_false_iff
def qDq:=@List.getLast?_eq_none_iff
def qDr:=@List.getLast?_eq_some_iff
def qDs:=@Nat.succ_mul
def qDt:=@Int.natCast_zero
def qDu:=@Nat.gcd_comm
def qDv:=@List.drop_succ_cons
def qDw:=@Array.getElem?_setIfInBounds_ne
def qDx:=@List.getElem?_cons_succ
def qDy:=@List.getElem?_replicate
def qDz:=@Bool.false_or
def qDA:=@List.nodup_cons
def qDB:=@List.set_cons_succ
def qDC:=@List.find?_cons
def qDD:=@List.find?_eq_none
def qDE:=@Nat.one_mul
def qDF:=@Nat.mul_pos
def qDG:=@Bool.and_false
def qDH:=@Nat.coprime_div_gcd_div_gcd
def qDI:=@Option.getD_some
def qDJ:=@List.getElem?_zipIdx
def qDK:=@List.flatMap_nil
def qDL:=@List.replicate_succ'
def qDM:=@Array.getElem?_append_left
def qDN:=@List.exists_cons_of_ne_nil
def qDO:=@List.replicate_zero
def qDP:=@List.reverse_append
def qDQ:=@Option.map_some
def qDR:=@Nat.div_add_mod
def qDS:=@Nat.two_pow_pos
def qDT:=@List.all_map
def qDU:=@List.set_cons_zero
def qDV:=@Option.isSome_iff_exists
def qDW:=@List.map_replicate
def qDX:=@List.zipIdx_append
def qDY:=@List.filter_append
def qDZ:=@Nat.div_dvd_of_dvd
def qD0:=@List.take_zero
def qD1:=@List.length_eq_zero_iff
def qD2:=@Nat.testBit_mod_two_pow
def qD3:=@Nat.le_mul_of_pos_right
def qD4:=@List.size_toArray
def qD5:=@List.pairwise_map
def qD6:=@List.all_eq_false
def qD7:=@Nat.div_one
def qD8:=@Nat.div_pos
def qD9:=@Nat.testBit_eq_decide_div_mod_eq
def qEa:=@Nat.min_eq_right
def qEb:=@List.mem_reverse
def qEc:=@Nat.div_lt_iff_lt_mul
def qEd:=@Nat.sub_zero
def qEe:=@Nat.le_of_lt
def qEf:=@List.map_set
def qEg:=@List.countP_map
def qEh:=@Nat.mul_mul_mul_comm
def qEi:=@List.pairwise_append
def qEj:=@List.dropLast_concat
def qEk:=@List.takeWhile_cons
def qEl:=@List.getElem?_range
def qEm:=@Nat.mul_le_mul_left
def qEn:=@List.length_reverse
def qEo:=@List.drop_drop
def qEp:=@Array.getElem?_setIfInBounds
def qEq:=@List.take_take
def qEr:=@Int.le_refl
def qEs:=@List.count_pos_iff
def qEt:=@List.prefix_append
def qEu:=@Array.getD_eq_getD_getElem?
def qEv:=@Nat.and_lt_two_pow
def qEw:=@Nat.xor_lt_two_pow
def qEx:=@List.zip_cons_cons
def qEy:=@Nat.add_sub_cancel
def qEz:=@List.pairwise_cons
def qEA:=@Nat.mod_two_eq_zero_or_one
def qEB:=@Nat.or_lt_two_pow
def qEC:=@List.find?_append
def qED:=@List.length_range
def qEE:=@Array.getElem?_eq_getElem
def qEF:=@List.extract_eq_take_drop
def qEG:=@List.mem_take_iff_getElem
def qEH:=@List.mem_of_find?_eq_some
def qEI:=@Nat.lt_or_ge
def qEJ:=@Array.setIfInBounds_comm
def qEK:=@Nat.lt_trans
def qEL:=@List.length_erase_of_mem
def qEM:=@Nat.mul_zero
def qEN:=@List.filter_cons
def qEO:=@List.mem_flatMap
def qEP:=@List.getElem?_cons_zero
def qEQ:=@Nat.testBit_div_two_pow
def qER:=@Nat.gcd_pos_of_pos_left
def qES:=@Int.natCast_add
def qET:=@Int.pow_pos
def qEU:=@Nat.testBit_lt_two_pow
def qEV:=@Nat.pow_pos
def qEW:=@Nat.gcd_rec
def qEX:=@Nat.pow_add
def qEY:=@List.length_pos_of_mem
def qEZ:=@Nat.mul_one
def qE0:=@List.map_id
def qE1:=@Nat.div_mul_right_comm
def qE2:=@List.getElem_cons_succ
def qE3:=@List.getElem_cons_zero
def qE4:=@List.mapM_cons
def qE5:=@List.drop_take
def qE6:=@Bool.not_false
def qE7:=@List.contains_iff_mem
def qE8:=@List.countP_singleton
def qE9:=@Int.mul_nonneg
def qFa:=@Nat.le_div_iff_mul_le
def qFb:=@Bool.and_self
def qFc:=@Bool.not_true
def qFd:=@List.sum_nil
def qFe:=@Int.zero_add
def qFf:=@Int.mul_emod
inductive Tok where
 |none
 |nil
 |tight
 |chain (t k:Nat)
inductive AV where
 |any
 |bool (b:Bool)
 |int (k:IntKind) (n:Int)
 |str (s:List UInt8)
 |nilp
 |ptr (b off:Nat)
 |rptr (cells:List AV)
 |sl (sz:Nat) (rows:List (List AV)) (tok:Tok)
 |ms (b off len sz:Nat)
 |nilm
 |map (b:Nat)
 |iter (b:Nat)
 |fn (f:FuncId) (first cap:List AV)
 |nilf
 |agg (cells:List AV)
 |tup (vs:List AV)
instance:Inhabited AV:=⟨.any⟩
inductive Blk where
 |cells (c:List AV)
 |map (es:List (AV×AV×Nat)) (clock:Nat)
 |siter (s:List UInt8) (pos:Nat)
 |miter (mb:Option Nat) (since:Nat) (seen:List Nat) (stepped:Nat)
 |dead
 |raw (n:Nat)
structure St where
 H:List Blk
 T:List (Option Nat)
abbrev Env:=Nat->AV
def upd(env:Env)(d:Option Nat)(v:AV):Env:=match d with
 |some d=>fun i=>if i=d then v else env i
 |none=>env
inductive TD where
 |bool|int (k:IntKind)|str|ptr (e:Nat)|sl (e:Nat)|arr (n e:Nat)|map (k e:Nat)
 |st (fs:List (Nat×Nat))|fn|other
structure TI where
 size:Nat
 bytes:Nat
 zero:List AV
 zv:AV
 d:TD
 cmp:Bool
def TD.agg:TD->Option Bool
 |.st _|.arr .. =>some true
 |.other=>none
 |_=>some false
def ofAtom:Value->AV
 |.bool b=>.bool b
 |.int k n=>.int k n
 |.string s=>.str s.data.toList
 |.pointer none=>.nilp
 |.slice none 0 0=>.sl 0 [] .nil
 |.map none=>.nilm
 |.nilFunc=>.nilf
 |.func (.func f) a b=>if a.size=0/\b.size=0 then .fn f [] [] else .any
 |_=>.any
def ofV:Value->AV
 |.agg cs=>.agg (cs.toList.map ofAtom)
 |.tuple vs=>if vs.size=0 then .tup [] else .any
 |v=>ofAtom v
def QG(P:Program):TypeDesc->TD
 |.bool=>.bool
 |.int k=>.int k
 |.string=>.str
 |.pointer e=>.ptr e
 |.slice e=>.sl e
 |.array n e=>.arr n e
 |.map k e=>.map k e
 |.func .. =>.fn
 | .struct fs=>if fs.toList.all (fun f=>P.cellsOf f.type != 0 && f.name != "_") then .st (fs.toList.map fun f=>(f.offset,f.type)) else .other
 |_=>.other
def Dof(P:Program)(t:Nat):Option TI :=
 match P.info? t,P.underlying t with
 | some i,some d=>match i.zero with
  |some z=>some ⟨i.size,i.bytes,z.cells.toList.map ofAtom,ofV z,QG P d,!P.stoodInHeld t⟩
  |none=>none
 |_,_=>none
def ev(G:Nat->AV)(env:Env):Operand->AV
 |.tmp t=>env t
 |.const v=>ofV v
 |.global g=>G g
 |.func f=>.fn f [] []
def AV.atom:AV->Bool
 |.any|.agg _|.tup _=>false
 |_=>true
def qZ:AV->Option (List AV)
 |.agg cs=>if cs.all AV.atom then some cs else none
 |.any=>none
 |.tup _=>none
 |v=>some [v]
def St.push(U:St)(b:Blk):St:={U with H:=U.H++[b]}
def cut(c:List AV)(off n:Nat):Option (List AV):=if off+n<=c.length then some ((c.drop off).take n) else none
def Zt(agg:Option Bool)(c:List AV):Option AV:=match agg with
 |some true=>some (.agg c)
 |some false=>c.head?
 |none=>none
def kD(D:Nat->Option TI)(U:St)(t:Nat)(a:AV):Option AV :=
 match D t,a with
 | some i,.ptr b off=>match U.H[b]? with
  |some (.cells c)=>(cut c off i.size).bind (Zt i.d.agg)
  |_=>none
 |some i,.rptr c=>(cut c 0 i.size).bind (Zt i.d.agg)
 |_,_=>none
def zA:List AV->Nat->List AV->List AV
 |c,_,[]=>c
 |c,off,v::r=>zA (c.set off v) (off+1) r
def Vk(D:Nat->Option TI)(U:St)(t:Nat)(a x:AV):Option St :=
 match D t,a,qZ x with
 | some i,.ptr b off,some new=>match U.H[b]? with
  |some (.cells c)=>if new.length=i.size/\off+i.size<=c.length then some {U with H:=U.H.set b (.cells (zA c off new))} else none
  |_=>none
 |_,_,_=>none
def zZ(place:Nat->Option (Nat×Nat))(c:List AV):List (Nat×AV)->Option (List AV)
 |[]=>some c
 | (i,v)::r=>match place i,qZ v with
  |some (off,n),some new=>if new.length=n/\off+n<=c.length then zZ place (zA c off new) r else none
  |_,_=>none
def qP(D:Nat->Option TI)(fs:List (Nat×Nat))(i:Nat):Option (Nat×Nat) :=
 match fs[i]? with
 |some (off,t)=>(D t).map fun j=>(off,j.size)
 |none=>none
def zu(D:Nat->Option TI)(t:Nat)(z6:List (Nat×AV)):Option AV :=
 match D t with
 | some i=>match i.d with
  |.st fs=>(zZ (qP D fs) i.zero z6).map .agg
  | .arr _ e=>match D e with
   |some j=>(zZ (fun i=>some (i*j.size,j.size)) i.zero z6).map .agg
   |none=>none
  |_=>none
 |none=>none
def qp(sz:Nat)(rows:List (List AV)):List (Nat×AV)->Option (List (List AV))
 |[]=>some rows
 | (i,v)::r=>match qZ v with
  |some new=>if new.length=sz/\i<rows.length then qp sz (rows.set i new) r else none
  |none=>none
def qi(D:Nat->Option TI)(t n:Nat)(z6:List (Nat×AV)):Option AV :=
 match D t with
 | some i=>match i.d with
  | .sl e=>match D e with
   |some j=>if j.zero.length=j.size/\j.zero.all AV.atom/\0<j.size/\n*j.size<=16777216 then(qp j.size (List.replicate n j.zero) z6).map fun rows=>.sl j.size rows .tight else none
   |none=>none
  |_=>none
 |none=>none
def kV:AV->AV->Option Bool
 |.bool a,.bool b=>some (a==b)
 |.int k a,.int k' b=>if k=k' then some (a==b) else none
 |.str a,.str b=>some (a==b)
 |_,_=>none
def jj:List AV->List AV->Option Bool
 |[],[]=>some true
 | a::x,b::y=>match kV a b,jj x y with
  |some p,some q=>some (p&&q)
  |_,_=>none
 |_,_=>none
def zz(op:BinOp)(k:IntKind)(a b:Int):Option AV :=
 match op with
 |.add=>some (.int k (k.wrap (a+b)))
 |.sub=>some (.int k (k.wrap (a-b)))
 |.mul=>some (.int k (k.wrap (a*b)))
 |.quo=>if b=0 then none else some (.int k (k.wrap (a.tdiv b)))
 |.rem=>if b=0 then none else some (.int k (a.tmod b))
 |.and=>some (.int k (k.wrap (BitVec.ofInt k.bits a &&& BitVec.ofInt k.bits b).toNat))
 |.or=>some (.int k (k.wrap (BitVec.ofInt k.bits a ||| BitVec.ofInt k.bits b).toNat))
 |.xor=>some (.int k (k.wrap (BitVec.ofInt k.bits a ^^^ BitVec.ofInt k.bits b).toNat))
 |.andNot=>some (.int k (k.wrap (BitVec.ofInt k.bits a &&& ~~~ BitVec.ofInt k.bits b).toNat))
 |.eql=>some (.bool (a==b))
 |.neq=>some (.bool (a != b))
 |.lss=>some (.bool (a<b))
 |.leq=>some (.bool (a<=b))
 |.gtr=>some (.bool (a > b))
 |.geq=>some (.bool (a≥b))
 |_=>none
def qq7(op:BinOp)(a b:List UInt8):Option AV :=
 match op with
 |.add=>if a.length+b.length<=4611686018427387904 then some (.str (a++b)) else none
 |.eql=>some (.bool (a==b))
 |.neq=>some (.bool (!(a==b)))
 |.lss=>some (.bool (Op.bytesLess a b))
 |.leq=>some (.bool (Op.bytesLess a b||a==b))
 |.gtr=>some (.bool (!(Op.bytesLess a b||a==b)))
 |.geq=>some (.bool (!Op.bytesLess a b))
 |_=>none
def kv(D:Nat->Option TI)(t:Nat):Bool :=
 match D t with
 |some i=>(match i.d with|.int _|.bool|.str=>true|_=>false)
 |none=>false
def qV(D:Nat->Option TI)(t:Nat):TD :=
 match D t with
 |some i=>i.d
 |none=>.other
def Wg(D:Nat->Option TI)(t:Nat):Option (List TD) :=
 match D t with
 | some i=>(match i.d with
  |.st fs=>if i.cmp&&fs.all (fun f=>kv D f.2)&&(fs.map (·.1)==List.range fs.length) then some (fs.map fun f=>qV D f.2) else none
  |_=>none)
 |none=>none
def z9:List TD->List AV->Bool
 |[],[]=>true
 |.bool::r,.bool _::s=>z9 r s
 |.str::r,.str _::s=>z9 r s
 |.int _::r,.int ..::s=>z9 r s
 |_,_=>false
def qxA(D:Nat->Option TI)(t:Nat):Option (List TD) :=
 match D t with
 | some i=>(match i.d with
  | .arr n e=>match D e with
   |some j=>if kv D e&&j.size==1 then some (List.replicate n j.d) else none
   |none=>none
  |_=>none)
 |none=>none
def qa2(D:Nat->Option TI)(t:Nat)(a b:List AV):Option Bool :=
 match Wg D t with
 |some tds=>if z9 tds a then jj a b else none
 | none=>match qxA D t with
  |some tds=>if z9 tds a then jj a b else none
  |none=>none
def qoY(D:Nat->Option TI)(op:BinOp)(t:Nat)(x y:AV):Option AV :=
 match x,y with
 | .int k a,.int k' b=>match op with
  |.shl=>if b<0 then none else some (.int k (k.wrap (a*2^(min b.toNat k.bits))))
  |.shr=>if b<0 then none else some (.int k (a.fdiv (2^(min b.toNat k.bits))))
  |op=>if k=k' then zz op k a b else none
 |.str a,.str b=>qq7 op a b
 | .bool a,.bool b=>match op,qV D t with
  |.eql,.bool=>some (.bool (a==b))
  |.neq,.bool=>some (.bool (!(a==b)))
  |_,_=>none
 | .agg a,.agg b=>match op with
  |.eql=>(qa2 D t a b).map .bool
  |.neq=>(qa2 D t a b).map fun p=>.bool (!p)
  |_=>none
 |_,_=>none
def unA(op:UnOp)(x:AV):Option AV :=
 match op,x with
 |.not,.bool b=>some (.bool (!b))
 |.neg,.int k n=>some (.int k (k.wrap (0-n)))
 |.xor,.int k n=>some (.int k (k.wrap (BitVec.ofInt k.bits (if k.signed then -1 else k.max) ^^^ BitVec.ofInt k.bits n).toNat))
 |_,_=>none
def bytesOf:List (List AV)->Option (List UInt8)
 |[]=>some []
 |[.int .u8 n]::r=>(bytesOf r).map (UInt8.ofNat n.toNat::·)
 |_=>none
def wK(D:Nat->Option TI)(s d:Nat)(x:AV):Option AV :=
 match D s,D d,x with
 | some i,some j,.int _ n=>match i.d,j.d with
  |.int _,.int k=>some (.int k (k.wrap n))
  |_,_=>none
 | some i,some j,.str l=>match i.d,j.d with
  |.str,.str=>some (.str l)
  |_,_=>none
 | some i,some j,.sl 1 rows _=>match i.d,j.d with
  | .sl e,.str=>match D e with
   |some m=>(match m.d with|.int .u8=>(bytesOf rows).map .str|_=>none)
   |none=>none
  |_,_=>none
 |_,_,_=>none
def w7:AV->Option Int
 |.int _ n=>some n
 |_=>none
def Tok.known:Tok->Bool
 |.none=>false
 |_=>true
def zT(n lo hi:Nat)(mx:Option Nat)(tok:Tok):Tok :=
 match mx with
 |some m=>if m=hi/\(0<n\/tok.known=true) then .tight else .none
 | none=>match tok with
  |.tight=>if hi=n then .tight else .none
  |.nil=>.nil
  |.none=>.none
  |.chain t k=>if lo=0/\hi=n then .chain t k else .none
def zR(o:Option AV)(n:Int):Option Int :=
 match o with
 |none=>some n
 |some v=>w7 v
def yT(o:Option AV)(hi:Option AV)(h:Int):Bool :=
 match o with
 |none=>true
 |some v=>decide (w7 v=some h)&&hi.isSome
def zk(x:AV)(lo hi mx:Option AV):Option AV :=
 match x with
 | .str s=>match zR lo 0,zR hi s.length,mx with
  |some l,some h,none=>if 0<=l/\l<=h/\h<=s.length then some (.str ((s.take h.toNat).drop l.toNat)) else none
  |_,_,_=>none
 | .sl sz rows tok=>match zR lo 0,zR hi rows.length with
  | some l,some h=>
   if 0<=l/\l<=h/\h<=rows.length/\yT mx hi h=true then
    some (.sl sz ((rows.take h.toNat).drop l.toNat) (zT rows.length l.toNat h.toNat (if mx.isSome then some h.toNat else none) tok))
   else none
  |_,_=>none
 | .ms b off len sz=>match zR lo 0,zR hi len,mx with
  |some l,some h,none=>if 0<=l/\l<=h/\h<=len/\(l=0\/l<len) then some (.ms b (off+l.toNat*sz) (h.toNat-l.toNat) sz) else if l=len/\h=len then some (.sl sz [] .none) else none
  |_,_,_=>none
 |_=>none
def QR(D:Nat->Option TI)(s:Nat)(x:AV)(f:Nat):Option AV :=
 match D s with
 | some i=>match i.d with
  | .st fs=>match fs[f]? with
   | some (off,_)=>match x with
    |.ptr b o=>some (.ptr b (o+off))
    |.rptr c=>some (.rptr (c.drop off))
    |_=>none
   |none=>none
  |_=>none
 |none=>none
def qgB(D:Nat->Option TI)(s:Nat)(x:AV)(f:Nat):Option AV :=
 match D s,x with
 | some i,.agg c=>match i.d with
  | .st fs=>match fs[f]? with
   | some (off,t)=>match D t with
    |some j=>(cut c off (if j.d.agg=some true then j.size else 1)).bind (Zt j.d.agg)
    |none=>none
   |none=>none
  |_=>none
 |_,_=>none
def zH(D:Nat->Option TI)(t:Nat)(x i:AV):Option AV :=
 match D t,w7 i with
 | some ti,some i=>match ti.d with
  | .sl e=>match D e with
   | some j=>match x with
    |.sl sz rows _=>if 0<=i/\(sz=j.size\/rows=[]) then(rows[i.toNat]?).map .rptr else none
    |.ms b off len sz=>if 0<=i/\i<len/\sz=j.size then some (.ptr b (off+i.toNat*sz)) else none
    |_=>none
   |none=>none
  | .arr n e=>match D e with
   | some j=>if 0<=i/\i<n then(match x with
    |.ptr b off=>some (.ptr b (off+i.toNat*j.size))
    |.rptr c=>some (.rptr (c.drop (i.toNat*j.size)))
    |_=>none) else none
   |none=>none
  |_=>none
 |_,_=>none
def qgm(D:Nat->Option TI)(t:Nat)(x i:AV):Option AV :=
 match D t,w7 i with
 | some ti,some i=>match ti.d,x with
  |.str,.str s=>if 0<=i then(s[i.toNat]?).map fun b=>.int .u8 b.toNat else none
  | .arr n e,.agg c=>match D e with
   |some j=>if 0<=i/\i<n then(cut c (i.toNat*j.size) (if j.d.agg=some true then j.size else 1)).bind (Zt j.d.agg) else none
   |none=>none
  |_,_=>none
 |_,_=>none
def YJ(x:AV)(i:Nat):Option AV :=
 match x with
 |.tup vs=>vs[i]?
 |_=>none
def za:AV->Option (Nat×List (List AV))
 |.sl sz rows _=>some (sz,rows)
 |_=>none
def YD(D:Nat->Option TI)(U:St)(t:Nat)(x:AV):Option AV :=
 match D t with
 | some i=>match i.d,x with
  |.str,.str s=>some (.int .i64 s.length)
  |.sl _,.sl _ rows _=>some (.int .i64 rows.length)
  |.sl _,.ms _ _ len _=>some (.int .i64 len)
  |.arr n _,_=>some (.int .i64 n)
  |.map ..,.nilm=>some (.int .i64 0)
  | .map ..,.map b=>match U.H[b]? with
   |some (.map es _)=>some (.int .i64 es.length)
   |_=>none
  |_,_=>none
 |none=>none
def qq(D:Nat->Option TI)(U:St)(t:Nat)(s x:AV):Option (AV×St) :=
 match D t,s,za x with
 | some i,.sl sz rows tok,some (sz2,rows2)=>match i.d with
  | .sl e=>match D e with
   | some j=>
    if (sz=j.size\/rows=[])/\(sz2=j.size\/rows2=[])/\0<j.size/\j.zero.length=j.size/\j.bytes<=256/\rows.length+rows2.length<=549755813888 then
     if rows2=[] then some (.sl sz rows tok,U) else
     match tok with
     |.none=>none
     |.nil|.tight=>some (.sl j.size (rows++rows2) (.chain U.T.length rows2.length),{U with T:=U.T++[some rows2.length]})
     |.chain t k=>if sz=j.size/\U.T[t]?=some (some k) then some (.sl j.size (rows++rows2) (.chain t (k+rows2.length)),{U with T:=U.T.set t (some (k+rows2.length))}) else none
    else none
   |none=>none
  |_=>none
 |_,_,_=>none
def wV:AV->AV->Option AV
 |.int k x,.int _ y=>some (.int k (if y<x then y else x))
 |_,_=>none
def qkm:AV->AV->AV->Option AV
 |.int k x,.int _ y,.int _ z=>some (.int k (if z<(if y<x then y else x) then z else if y<x then y else x))
 |_,_,_=>none
def qnS:AV->AV->Option AV
 |.int k x,.int _ y=>some (.int k (if y > x then y else x))
 |_,_=>none
def qG(D:Nat->Option TI)(U:St)(t:Nat)(l c:AV):Option (AV×St) :=
 match D t,w7 l,w7 c with
 | some i,some l,some c=>match i.d with
  | .sl e=>match D e with
   | some j=>
    if 0<=l/\l<=c/\c<=549755813888/\j.bytes<=256/\0<j.size/\j.zero.length=j.size/\j.zero.all AV.atom then
     if l=0 then some (.sl j.size [] (.chain U.T.length 0),{U with T:=U.T++[some 0]})
     else some (.ms U.H.length 0 l.toNat j.size,U.push (.cells ((List.replicate l.toNat j.zero).flatten)))
    else none
   |none=>none
  |_=>none
 |_,_,_=>none
def Q4:AV->AV->Option Bool
 |.int k a,.int k' b=>if k=k' then some (a==b) else none
 |.str a,.str b=>some (a==b)
 |.agg a,.agg b=>jj a b
 |_,_=>none
def jS(k:AV):List (AV×AV×Nat)->Nat->Option (Option (Nat×AV))
 |[],_=>some none
 | (k',v,_)::r,i=>match Q4 k k' with
  |some true=>some (some (i,v))
  |some false=>jS k r (i+1)
  |none=>none
def zI(D:Nat->Option TI)(k:Nat)(v:AV):Bool :=
 match D k with
 |some i=>(match i.d,v with|.int _,.int .. =>true|.str,.str _=>true|.st _,.agg c=>(Wg D k).any fun tds=>z9 tds c|_,_=>false)
 |none=>false
def qbx(D:Nat->Option TI)(t:Nat):Option AV:=match D t with
 |some i=>some i.zv
 |none=>none
def zD(D:Nat->Option TI)(U:St)(t:Nat)(m k:AV)(ok:Bool):Option AV :=
 match D t with
 | some i=>match i.d with
  | .map kt et=>
   if zI D kt k then
    match (match m with
     |.nilm=>some []
     |.map b=>(match U.H[b]? with|some (.map es _)=>some es|_=>none)
     |_=>none) with
    | some es=>match jS k es 0 with
     |some (some (_,v))=>some (if ok then .tup [v,.bool true] else v)
     |some none=>(qbx D et).map fun z=>if ok then .tup [z,.bool false] else z
     |none=>none
    |none=>none
   else none
  |_=>none
 |none=>none
def zj(D:Nat->Option TI)(U:St)(t:Nat)(m k v:AV):Option St :=
 match D t with
 | some i=>match i.d with
  | .map kt _=>
   if zI D kt k then
    match m with
    | .map b=>match U.H[b]? with
     | some (.map es clock)=>match jS k es 0 with
      |some (some (i,_))=>some {U with H:=U.H.set b (.map (es.modify i fun e=>(k,v,e.2.2)) clock)}
      |some none=>some {U with H:=U.H.set b (.map (es++[(k,v,clock)]) (clock+1))}
      |none=>none
     |_=>none
    |_=>none
   else none
  |_=>none
 |none=>none
def qaE(U:St):AV->Option (AV×St)
 | .iter b=>match U.H[b]? with
  | some (.siter s pos)=>
   if pos<s.length then
    some (.tup [.bool true,.int .i64 pos,.int .i32 (Utf8.decode ⟨s.toArray⟩ pos).1],{U with H:=U.H.set b (.siter s (pos+(Utf8.decode ⟨s.toArray⟩ pos).2))})
   else some (.tup [.bool false],U)
  |_=>none
 |_=>none
def qbs(G:Nat->AV)(env:Env)(l:List Operand):List AV:=l.map (ev G env)
def zL(D:Nat->Option TI)(U:St)(b:Builtin)(ts:List Nat)(vs:List AV):Option (AV×St) :=
 match b,ts,vs with
 |.len,[t],[x]=>(YD D U t x).map (·,U)
 |.append,[t,u],[s,x]=>if u=t then qq D U t s x else none
 |.min,_,[x,y]=>(wV x y).map (·,U)
 |.min,_,[x,y,z]=>(qkm x y z).map (·,U)
 |.max,_,[x,y]=>(qnS x y).map (·,U)
 |_,_,_=>none
def sem(D:Nat->Option TI)(G:Nat->AV)(env:Env)(U:St):Op->Option (AV×St)
 |.move x|.assign x=>some (ev G env x,U)
 | .pick c a b=>match ev G env c with
  |.bool c=>some (if c then ev G env a else ev G env b,U)
  |_=>none
 | .alloc e=>match D e with
  |some i=>if i.zero.all AV.atom then some (.ptr U.H.length 0,U.push (.cells i.zero)) else none
  |none=>none
 |.box _ x=>(qZ (ev G env x)).map fun c=>(.ptr U.H.length 0,U.push (.cells c))
 |.build t ps=>(zu D t (ps.toList.map fun p=>(p.1,ev G env p.2))).map (·,U)
 |.buildSlice t n ps=>(qi D t n (ps.toList.map fun p=>(p.1,ev G env p.2))).map (·,U)
 |.load t a=>(kD D U t (ev G env a)).map (·,U)
 |.store t a x=>(Vk D U t (ev G env a) (ev G env x)).map (.tup [],·)
 | .nilCheck x=>match ev G env x with
  |.ptr b o=>some (.ptr b o,U)
  |.rptr c=>some (.rptr c,U)
  |_=>none
 |.binOp op t x y _=>(qoY D op t (ev G env x) (ev G env y)).map (·,U)
 |.unOp op _ x=>(unA op (ev G env x)).map (·,U)
 |.convert s d x=>(wK D s d (ev G env x)).map (·,U)
 |.makeFunc (.func f) a b=>some (.fn f (qbs G env a.toList) (qbs G env b.toList),U)
 |.makeMap _ none=>some (.map U.H.length,U.push (.map [] 0))
 |.makeSlice t l c=>qG D U t (ev G env l) (ev G env c)
 | .slice t x lo hi mx=>match D t with
  | some i=>(match i.d,ev G env x with
   |.str,.str s=>(zk (.str s) (lo.map (ev G env)) (hi.map (ev G env)) (mx.map (ev G env))).map (·,U)
   | .sl e,x=>(match D e,x with
    |some j,.sl sz rows tok=>if sz=j.size\/rows=[] then(zk (.sl sz rows tok) (lo.map (ev G env)) (hi.map (ev G env)) (mx.map (ev G env))).map (·,U) else none
    |some j,.ms b off len sz=>if sz=j.size then(zk (.ms b off len sz) (lo.map (ev G env)) (hi.map (ev G env)) (mx.map (ev G env))).map (·,U) else none
    |_,_=>none)
   |_,_=>none)
  |none=>none
 |.fieldAddr s x f=>(QR D s (ev G env x) f).map (·,U)
 |.field s x f=>(qgB D s (ev G env x) f).map (·,U)
 |.indexAddr t x i=>(zH D t (ev G env x) (ev G env i)).map (·,U)
 |.index t x i=>(qgm D t (ev G env x) (ev G env i)).map (·,U)
 |.lookup t x i ok=>(zD D U t (ev G env x) (ev G env i) ok).map (·,U)
 |.mapUpdate t m k v=>(zj D U t (ev G env m) (ev G env k) (ev G env v)).map (.tup [],·)
 | .range t x=>match D t,ev G env x with
  |some i,.str s=>(match i.d with|.str=>some (.iter U.H.length,U.push (.siter s 0))|_=>none)
  |_,_=>none
 |.next it true=>qaE U (ev G env it)
 |.extract x i=>(YJ (ev G env x) i).map (·,U)
 |.call {callee:=.builtin b,args,argTypes}=>zL D U b argTypes.toList (qbs G env args.toList)
 |_=>none
structure Chn where
 k:Nat
 B:Nat
 fin:Nat
 cap:Nat
 sz:Nat
structure Kn where
 ro:Nat->Nat->Option Value
 m:Nat->Option Nat
 ch:Nat->Option Chn
 nch:Nat
 bs:Nat->Nat
 fx:Nat->Option Obj
 rw:Nat->Option Obj
def wn(K:Kn)(B off len cap sz:Nat):Tok->Prop
 |.none=>True
 |.nil=>False
 |.tight=>cap=len
 |.chain t k=>t<K.nch/\∀C,K.ch t=some C->k<=C.k/\(k=C.k->C.B=B/\C.sz=sz/\off=0/\len*sz=C.fin/\cap*sz=C.cap)
def Tok.plain:Tok->Prop
 |.chain .. =>False
 |_=>True
mutual
def qk(K:Kn):AV->Value->Prop
 |.any,_=>True
 |.bool b,v=>v=.bool b
 |.int k n,v=>v=.int k n
 |.str s,v=>v=.string ⟨s.toArray⟩
 |.nilp,v=>v=.pointer none
 |.ptr b off,v=>∃B,K.m b=some B/\v=.pointer (some ⟨B,off,none⟩)
 |.rptr c,v=>∃B off,v=.pointer (some ⟨B,off,none⟩)/\qr K B off c
 | .sl sz rows tok,v=>((∃a:Option Addr,v=.slice a 0 0/\(a=none\/tok=.none))/\rows=[]/\tok.plain) \/
  ∃B off cap,v=.slice (some ⟨B,off,none⟩) rows.length cap/\rows.length<=cap/\qT K B off sz rows/\wn K B off rows.length cap sz tok
 |.ms b off len sz,v=>∃B cap,K.m b=some B/\v=.slice (some ⟨B,off,none⟩) len cap/\len<=cap/\0<cap/\off+cap*sz<=K.bs b
 |.nilm,v=>v=.map none
 |.map b,v=>∃B,K.m b=some B/\v=.map (some B)
 |.iter b,v=>∃B,K.m b=some B/\v=.pointer (some ⟨B,0,none⟩)
 |.fn f a b,v=>∃va vb,v=.func (.func f) va vb/\ql K a va.toList/\ql K b vb.toList
 |.nilf,v=>v=.nilFunc
 |.agg c,v=>∃vs,v=.agg vs/\ql K c vs.toList
 |.tup c,v=>∃vs,v=.tuple vs/\ql K c vs.toList
def ql(K:Kn):List AV->List Value->Prop
 |[],vs=>vs=[]
 |a::r,vs=>∃v vr,vs=v::vr/\qk K a v/\ql K r vr
def qr(K:Kn):Nat->Nat->List AV->Prop
 |_,_,[]=>True
 |B,off,a::r=>(∃v,K.ro B off=some v/\qk K a v)/\qr K B (off+1) r
def qT(K:Kn):Nat->Nat->Nat->List (List AV)->Prop
 |_,_,_,[]=>True
 |B,off,sz,r::rs=>(r.length=sz/\r.all AV.atom=true/\qr K B off r)/\qT K B (off+sz) sz rs
end
structure Kn.le(K K':Kn):Prop where
 ro:∀b o v,K.ro b o=some v->K'.ro b o=some v
 m:∀i B,K.m i=some B->K'.m i=some B
 nch:K.nch<=K'.nch
 ch:∀t C',t<K.nch->K'.ch t=some C'->∃C,K.ch t=some C/\(C'=C\/C.k<C'.k)
 bs:∀i B,K.m i=some B->K'.bs i=K.bs i
 fx:∀B o,K.fx B=some o->K'.fx B=some o
 rw:∀n o,K.rw n=some o->K'.rw n=some o
def Kn.le_refl(K:Kn):K.le K:=⟨fun _ _ _ h=>h,fun _ _ h=>h,qA5 _,fun _ C' _ h=>⟨C',h,.inl rfl⟩,fun _ _ _=>rfl,fun _ _ h=>h,fun _ _ h=>h⟩
def qFG:=@Kn.le_refl
def Kn.le_trans{A B C:Kn}(h:A.le B)(k:B.le C):A.le C :=
 ⟨fun b o v x=>k.ro b o v (h.ro b o v x),fun i x y=>k.m i x (h.m i x y),qBN h.nch k.nch,fun t C' ht hc=>by
  obtain⟨C1,h1,e1⟩:=k.ch t C' (qBd ht h.nch) hc;obtain⟨C2,h2,e2⟩:=h.ch t C1 ht h1;refine⟨C2,h2,?_⟩;rcases e1 with rfl|e1<;>rcases e2 with rfl|e2
  . exact .inl rfl
  . exact .inr e2
  . exact .inr e1
  exact .inr (qEK e2 e1),fun i B e=>by rw[k.bs i B (h.m i B e),h.bs i B e],fun B o e=>k.fx B o (h.fx B o e),fun n o e=>k.rw n o (h.rw n o e)⟩
def qFH:=@Kn.le_trans
structure Kn.le0(K K':Kn):Prop where
 ro:∀b o v,K.ro b o=some v->K'.ro b o=some v
 m:∀i B,K.m i=some B->K'.m i=some B
 nch:K.nch<=K'.nch
 ch:∀t C',t<K.nch->K'.ch t=some C'->∃C,K.ch t=some C/\(C'=C\/C.k<C'.k)
 bs:∀i B,K.m i=some B->K'.bs i=K.bs i
def Kn.le.le0{K K':Kn}(h:K.le K'):K.le0 K':=⟨h.ro,h.m,h.nch,h.ch,h.bs⟩
def wn.mono{K K'}(h:K.le0 K'){B off len cap sz}:∀{tok:Tok},wn K B off len cap sz tok->wn K' B off len cap sz tok
 |.none,_=>trivial
 |.nil,x=>x
 |.tight,x=>x
 | .chain t k,⟨x,y⟩=>⟨qBd x h.nch,fun C' hC=>by
  obtain⟨C,hC0,e⟩:=h.ch t C' x hC;obtain⟨y1,y2⟩:=y C hC0;rcases e with rfl|e
  . exact⟨y1,y2⟩
  exact⟨by omega,fun e'=>by omega⟩⟩
def K0(ro:Nat->Nat->Option Value):Kn:=⟨ro,fun _=>none,fun _=>none,0,fun _=>0,fun _=>none,fun _=>none⟩
def qwi(K):(K0 K.ro).le K:=⟨fun _ _ _ e=>e,fun _ _ e=>by simp[K0]at e,qCO _,fun t _ ht _=>by simp[K0]at ht,fun _ _ e=>by simp[K0]at e,fun _ _ e=>by simp[K0]at e,fun _ _ e=>by simp[K0]at e⟩
def JT{K K':Kn}(h:K.le K'):(K0 K.ro).le (K0 K'.ro):=⟨h.ro,fun _ _ e=>by simp[K0]at e,qA5 _,fun t _ ht _=>by simp[K0]at ht,fun _ _ e=>by simp[K0]at e,fun _ _ e=>by simp[K0]at e,fun _ _ e=>by simp[K0]at e⟩
def qgW{ro ro'}(h:∀b o v,ro b o=some v->ro' b o=some v):(K0 ro).le (K0 ro'):=⟨h,fun _ _ e=>by simp[K0]at e,qA5 _,fun t _ ht _=>by simp[K0]at ht,fun _ _ e=>by simp[K0]at e,fun _ _ e=>by simp[K0]at e,fun _ _ e=>by simp[K0]at e⟩
mutual
def qk.mono0{K K'}(h:K.le0 K'):∀(a){v:Value},qk K a v->qk K' a v
 |.any,_,_=>by simp[qk]
 |.bool b,_,x=>by simpa[qk] using x
 |.int k n,_,x=>by simpa[qk] using x
 |.str s,_,x=>by simpa[qk] using x
 |.nilp,_,x=>by simpa[qk] using x
 | .ptr b off,_,x=>by
  simp only[qk]at x⊢;obtain⟨B,h1,h2⟩:=x;exact⟨B,h.m _ _ h1,h2⟩
 | .rptr c,_,x=>by
  simp only[qk]at x⊢;obtain⟨B,off,h1,h2⟩:=x;exact⟨B,off,h1,qr.mono0 h c B off h2⟩
 | .sl sz rows tok,_,x=>by
  simp only[qk]at x⊢;rcases x with x|⟨B,off,cap,h1,h2,h3,h4⟩
  . exact .inl x
  exact .inr ⟨B,off,cap,h1,h2,qT.mono0 h rows B off sz h3,h4.mono h⟩
 | .ms b off len sz,_,x=>by
  simp only[qk]at x⊢;obtain⟨B,cap,h1,h2,h3,h4,h5⟩:=x;exact⟨B,cap,h.m _ _ h1,h2,h3,h4,by rw[h.bs _ _ h1];exact h5⟩
 |.nilm,_,x=>by simpa[qk] using x
 | .map b,_,x=>by
  simp only[qk]at x⊢;obtain⟨B,h1,h2⟩:=x;exact⟨B,h.m _ _ h1,h2⟩
 | .iter b,_,x=>by
  simp only[qk]at x⊢;obtain⟨B,h1,h2⟩:=x;exact⟨B,h.m _ _ h1,h2⟩
 | .fn f a b,_,x=>by
  simp only[qk]at x⊢;obtain⟨va,vb,h1,h2,h3⟩:=x;exact⟨va,vb,h1,ql.mono0 h a h2,ql.mono0 h b h3⟩
 |.nilf,_,x=>by simpa[qk] using x
 | .agg c,_,x=>by
  simp only[qk]at x⊢;obtain⟨vs,h1,h2⟩:=x;exact⟨vs,h1,ql.mono0 h c h2⟩
 | .tup c,_,x=>by
  simp only[qk]at x⊢;obtain⟨vs,h1,h2⟩:=x;exact⟨vs,h1,ql.mono0 h c h2⟩
def ql.mono0{K K'}(h:K.le0 K'):∀(l){vs:List Value},ql K l vs->ql K' l vs
 |[],_,x=>by simpa[ql] using x
 | a::r,_,x=>by
  simp only[ql]at x⊢;obtain⟨v,vr,h1,h2,h3⟩:=x;exact⟨v,vr,h1,qk.mono0 h a h2,ql.mono0 h r h3⟩
def qr.mono0{K K'}(h:K.le0 K'):∀(l) (B off),qr K B off l->qr K' B off l
 |[],_,_,_=>by simp[qr]
 | a::r,B,off,x=>by
  simp only[qr]at x⊢;obtain⟨⟨v,h1,h2⟩,h3⟩:=x;exact⟨⟨v,h.ro _ _ _ h1,qk.mono0 h a h2⟩,qr.mono0 h r _ _ h3⟩
def qT.mono0{K K'}(h:K.le0 K'):∀(l) (B off sz),qT K B off sz l->qT K' B off sz l
 |[],_,_,_,_=>by simp[qT]
 | a::r,B,off,sz,x=>by
  simp only[qT]at x⊢;obtain⟨⟨h1,h0,h2⟩,h3⟩:=x;exact⟨⟨h1,h0,qr.mono0 h a _ _ h2⟩,qT.mono0 h r _ _ _ h3⟩
end
def qFI:=@ql.mono0
def qk.mono{K K'}(h:K.le K')(a){v}:qk K a v->qk K' a v:=qk.mono0 h.le0 a
def ql.mono{K K'}(h:K.le K')(l){vs}:ql K l vs->ql K' l vs:=qFI h.le0 l
def ym(K:Kn):Blk->Option Obj->Prop
 |.cells c,o=>∃cs el,o=some (.cells cs el (0,0))/\c.all AV.atom=true/\c.length<=cs.size/\∀(i:Nat) (a:AV),c[i]?=some a->∃v,cs[i]?=some v/\qk K a v
 | .map es clock,o=>∃es',o=some (.map es' clock)/\es'.size=es.length /\
  ∀(i:Nat) (k v:AV) (b:Nat),es[i]?=some (k,v,b)->∃e:MapEntry,es'[i]?=some e/\qk K k e.key/\qk K v e.val/\e.born=b
 |.siter s pos,o=>o=some (.stringIter ⟨s.toArray⟩ pos)
 | .miter mb since seen st,o=>∃mB,o=some (.mapIter mB since seen.toArray st) /\
  (match mb with|none=>mB=none|some b=>∃B,K.m b=some B/\mB=some B)
 |.dead,_=>True
 |.raw n,o=>∃x,K.rw n=some x/\o=some x
def ym.mono{K K'}(h:K.le K'){b o}(x:ym K b o):ym K' b o:=by
 cases b with
 | cells c=>
  obtain⟨cs,el,h1,h0,h2,h3⟩:=x;exact⟨cs,el,h1,h0,h2,fun i a e=>by obtain⟨v,h4,h5⟩:=h3 i a e;exact⟨v,h4,h5.mono h⟩⟩
 | map es clock=>
  obtain⟨es',h1,h2,h3⟩:=x;exact⟨es',h1,h2,fun i k v b e=>by obtain⟨e',h4,h5,h6,h7⟩:=h3 i k v b e;exact⟨e',h4,h5.mono h,h6.mono h,h7⟩⟩
 |siter s pos=>simpa[ym] using x
 | miter mb since seen st=>
  obtain⟨mB,h1,h2⟩:=x;refine⟨mB,h1,?_⟩
  cases mb with
  |none=>exact h2
  |some b=>obtain⟨B,h3,h4⟩:=h2;exact⟨B,h.m _ _ h3,h4⟩
 |dead=>simp[ym]
 |raw n=>obtain⟨y,h1,h2⟩:=x;exact⟨y,h.rw _ _ h1,h2⟩
structure WRel(G:Nat->AV)(w0)(ro0:Nat->Nat->Option Value)(K:Kn)(U:St)(w):Prop where
 below:Below w0.heap.size w0 w
 glob:∀g,qk (K0 K.ro) (G g) (.pointer (some ⟨g,0,none⟩))
 ro:∀b o v,K.ro b o=some v->w.cell? ⟨b,o,none⟩=some v
 new:∀b o v,K.ro b o=some v->b<w0.heap.size->ro0 b o=some v
 blk:∀i b,U.H[i]?=some b->∃B,K.m i=some B/\w0.heap.size<=B/\B<w.heap.size/\ym K b w.heap[B]?/\∀o,K.ro B o=none
 inj:∀i j B,K.m i=some B->K.m j=some B->i=j\/U.H[i]?=some .dead\/U.H[j]?=some .dead
 mlt:∀i B,K.m i=some B->i<U.H.length
 ch:∀t k,U.T[t]?=some (some k)->∃C,K.ch t=some C/\C.k=k/\w0.heap.size<=C.B/\C.fin<=C.cap /\
  (∃cs el,w.heap[C.B]?=some (.cells cs el (0,0))/\cs.size=C.cap)/\(∀o,C.fin<=o->K.ro C.B o=none)/\∀i,K.m i≠some C.B
 chd:∀t C,K.ch t=some C->∃k,U.T[t]?=some (some k)
 chinj:∀t u C C',K.ch t=some C->K.ch u=some C'->C.B=C'.B->t=u
 nch:K.nch=U.T.length
 bsz:∀i B cs el fr,K.m i=some B->w.heap[B]?=some (.cells cs el fr)->cs.size=K.bs i
 fx:∀B o,K.fx B=some o->w.heap[B]?=some o/\w0.heap.size<=B/\(∀i,K.m i≠some B)/\∀t C,K.ch t=some C->C.B≠B
 rwl:∀n o,K.rw n=some o->n<2*U.H.length
structure ERel(K N)(env:Env)(a:Act):Prop where
 size:a.tmps.size=N
 val:∀t,qk K (env t) (a.tmps.getD t undef)
def ERel.mono{K K'}(h:K.le K'){N env a}(x:ERel K N env a):ERel K' N env a :=
 ⟨x.size,fun t=>(x.val t).mono h⟩
def ERel.put{K N env a}(x:ERel K N env a){dst}(hd:∀d,dst=some d->d<N){v v'}(hv:qk K v v'):
 ERel K N (upd env dst v) (a.put dst v'):=by
 cases dst with
 |none=>exact x
 | some d=>
  refine⟨by simpa[Act.put] using x.size,fun t=>?_⟩;have hlt:=hd d rfl;simp only[Act.put,upd];by_cases ht:t=d
  . subst ht;have:t<a.tmps.size:=by rwa[x.size]
    simpa[qEp,this] using hv
  have:=x.val t;have hne:¬d=t:=fun e=>ht e.symm
  simpa[ht,qEp,hne] using this
def qk.ofAtom(K v):qk K (ofAtom v) v:=by
 cases v with
 |pointer a=>cases a<;>simp[Abs.ofAtom,qk]
 | slice a l c=>
  unfold Abs.ofAtom;split<;>first|(simp_all[qk,Tok.plain];done)|simp_all[qk]
 |map r=>cases r<;>simp[Abs.ofAtom,qk]
 | func f a b=>
  cases f<;>simp only[Abs.ofAtom]<;>first|(simp[qk];done)|skip
  split
  . rename_i h;obtain⟨h1,h2⟩:=h;refine⟨a,b,rfl,?_,?_⟩
    . have:a = #[]:=qCG h1;subst this;simp[ql]
    have:b = #[]:=qCG h2;subst this;simp[ql]
  simp[qk]
 |_=>simp[Abs.ofAtom,qk]
def ql.ofAtoms(K):∀l:List Value,ql K (l.map Abs.ofAtom) l
 |[]=>by simp[ql]
 |v::r=>by simp only[qA7,ql];exact⟨v,r,rfl,qk.ofAtom K v,ql.ofAtoms K r⟩
def qFQ:=@ql.ofAtoms
def qk.ofV(K v):qk K (ofV v) v:=by
 have h:=qk.ofAtom K v
 cases v with
 |agg cs=>simp only[Abs.ofV,qk];exact⟨cs,rfl,qFQ K _⟩
 | tuple vs=>
  simp only[Abs.ofV];split
  . rename_i h;have:=qCG h;subst this;exact⟨#[],rfl,by simp[ql]⟩
  simp[qk]
 |_=>simpa only[Abs.ofV] using h
section
variable {P:Program}{G:Nat->AV}{w0:World}{ro0:Nat->Nat->Option Value}{K:Kn}{U:St}{w:World}{N:Nat}{env:Env}{a:Act}
def Z4(hw:WRel G w0 ro0 K U w)(he:ERel K N env a)(x):qk K (ev G env x) (a.eval x):=by
 cases x with
 |tmp t=>exact he.val t
 |const v=>exact qk.ofV K v
 |global g=>exact(hw.glob g).mono (qwi K)
 |func f=>exact⟨#[],#[],rfl,by simp[ql],by simp[ql]⟩
def QK(hw:WRel G w0 ro0 K U w)(he:ERel K N env a):∀l:List Operand,ql K (qbs G env l) (l.map a.eval)
 |[]=>by simp[qbs,ql]
 | x::r=>by
  simp only[qbs,qA7,ql];exact⟨_,_,rfl,Z4 hw he x,QK hw he r⟩
end
def ql.length{K}:∀{l:List AV}{vs:List Value},ql K l vs->vs.length=l.length
 |[],_,h=>by simp only[ql]at h;simp[h]
 | a::r,_,h=>by
  simp only[ql]at h;obtain⟨v,vr,rfl,_,h2⟩:=h;simp[ql.length h2]
def ql.get{K}:∀{l:List AV}{vs:List Value},ql K l vs->∀(i:Nat) (a:AV),l[i]?=some a->∃v,vs[i]?=some v/\qk K a v
 |[],_,h,i,a,e=>by simp at e
 | a::r,_,h,i,b,e=>by
  simp only[ql]at h;obtain⟨v,vr,rfl,h1,h2⟩:=h
  cases i with
  |zero=>simp at e;subst e;exact⟨v,by simp,h1⟩
  |succ i=>simp at e⊢;exact ql.get h2 i b e
def ql.intro{K}:∀{l:List AV}{vs:List Value},vs.length=l.length->(∀(i:Nat) (a:AV),l[i]?=some a->∃v,vs[i]?=some v/\qk K a v)->ql K l vs
 |[],vs,h,_=>by simp only[ql];exact qA6 (by simpa using h)
 |a::r,[],h,_=>by simp at h
 | a::r,v::vr,h,k=>by
  simp only[ql];obtain⟨v',e,h1⟩:=k 0 a (by simp);simp at e;subst e;refine⟨v,vr,rfl,h1,ql.intro (by simpa using h) fun i b e=>?_⟩;simpa using k (i+1) b (by simpa using e)
def ql.append{K}:∀{l m:List AV}{vs us:List Value},ql K l vs->ql K m us->ql K (l++m) (vs++us)
 |[],_,_,_,h,k=>by simp only[ql]at h;subst h;simpa using k
 | a::r,_,_,_,h,k=>by
  simp only[ql]at h;obtain⟨v,vr,rfl,h1,h2⟩:=h;simp only[qBl,ql];exact⟨v,_,rfl,h1,ql.append h2 k⟩
def qk.oneCell{K a v}(h:qk K a v)(ha:a.atom=true):v.oneCell'=true:=by
 cases a<;>simp only[AV.atom,qk]at h ha
 case any=>cases ha
 case agg=>cases ha
 case tup=>cases ha
 case sl=>rcases h with⟨⟨_,rfl,_⟩,_⟩|⟨_,_,_,rfl,_⟩<;>rfl
 all_goals first
  |(subst h;rfl)
  |(obtain⟨_,_,rfl⟩:=h;rfl)
  |(obtain⟨_,_,rfl,_⟩:=h;rfl)
  |(obtain⟨_,_,_,rfl,_⟩:=h;rfl)
def ql.oneCells{K}:∀{l:List AV}{vs:List Value},ql K l vs->l.all AV.atom=true->∀v∈vs,v.oneCell'=true
 |[],_,h,_,v,hv=>by simp only[ql]at h;subst h;cases hv
 | a::r,_,h,ha,u,hu=>by
  simp only[ql]at h;obtain⟨v,vr,rfl,h1,h2⟩:=h;simp only[qCm,qA1]at ha;rcases qBt.1 hu with rfl|hu
  . exact h1.oneCell ha.1
  exact ql.oneCells h2 ha.2 u hu
def JQ{K x v c}(h:qk K x v)(hc:qZ x=some c):ql K c v.cells.toList/\c.all AV.atom=true:=by
 cases x with
 |any=>simp[qZ]at hc
 |tup vs=>simp[qZ]at hc
 | agg cs=>
  simp only[qZ]at hc;split at hc
  . rename_i ha;simp at hc;subst hc;simp only[qk]at h;obtain⟨vs,rfl,h2⟩:=h;exact⟨h2,ha⟩
  simp at hc
 | _=>
  simp only[qZ,qBg]at hc;subst hc;have h1:=h.oneCell rfl;refine⟨?_,rfl⟩;cases v<;>first|(simp[Value.oneCell']at h1;done)|exact⟨_,_,rfl,h,rfl⟩
def qiC(K:Kn)(w:World)(B off:Nat)(c:List AV):Prop :=
 ∃vs:List Value,ql K c vs/\∀(j) (v),vs[j]?=some v->w.cell? ⟨B,off+j,none⟩=some v
def qiC.of_cellsAt{K w}(hro:∀b o v,K.ro b o=some v->w.cell? ⟨b,o,none⟩=some v)(B):∀(c) (off),qr K B off c->qiC K w B off c
 |[],off,_=>⟨[],by simp[ql],by simp⟩
 | a::r,off,h=>by
  simp only[qr]at h;obtain⟨⟨v,h1,h2⟩,h3⟩:=h;obtain⟨vs,h4,h5⟩:=qiC.of_cellsAt hro B r (off+1) h3;refine⟨v::vs,by simp only[ql];exact⟨v,vs,rfl,h2,h4⟩,fun j u e=>?_⟩
  cases j with
  |zero=>simp at e;subst e;simpa using hro _ _ _ h1
  |succ j=>simp at e;have:=h5 j u e;rwa[show off+1+j=off+(j+1) by omega]at this
def qFR:=@qiC.of_cellsAt
def qr.drop{K}(B):∀(c) (off n),qr K B off c->qr K B (off+n) (c.drop n)
 |[],off,n,_=>by simp[qr]
 |a::r,off,0,h=>by simpa using h
 | a::r,off,n+1,h=>by
  simp only[qr]at h;have:=qr.drop B r (off+1) n h.2;rw[show off+1+n=off+(n+1) by omega]at this;simpa using this
def qr.take{K}(B):∀(c) (off n),qr K B off c->qr K B off (c.take n)
 |[],off,n,_=>by simp[qr]
 |a::r,off,0,h=>by simp[qr]
 | a::r,off,n+1,h=>by
  simp only[qr,qCt]at h⊢;exact⟨h.1,qr.take B r (off+1) n h.2⟩
def qr.get{K}(B):∀(c) (off),qr K B off c->∀(i) (a),c[i]?=some a->∃v,K.ro B (off+i)=some v/\qk K a v
 |[],_,_,i,a,e=>by simp at e
 | b::r,off,h,i,a,e=>by
  simp only[qr]at h
  cases i with
  |zero=>simp at e;subst e;simpa using h.1
  |succ i=>simp at e;have:=qr.get B r (off+1) h.2 i a e;rwa[show off+1+i=off+(i+1) by omega]at this
def qr.intro{K}(B):∀(c) (off),(∀(i) (a),c[i]?=some a->∃v,K.ro B (off+i)=some v/\qk K a v)->qr K B off c
 |[],_,_=>by simp[qr]
 | b::r,off,h=>by
  simp only[qr];exact⟨by simpa using h 0 b (by simp),qr.intro B r (off+1) fun i a e=>by have:=h (i+1) a (by simpa using e);rwa[show off+(i+1)=off+1+i by omega]at this⟩
def qFS:=@qr.intro
def qT.get{K}(B sz):∀(rs) (off),qT K B off sz rs->∀(i) (r),rs[i]?=some r->r.length=sz/\r.all AV.atom=true/\qr K B (off+i*sz) r
 |[],_,_,i,a,e=>by simp at e
 | b::rs,off,h,i,r,e=>by
  simp only[qT]at h
  cases i with
  |zero=>simp at e;subst e;simpa using h.1
  |succ i=>simp at e;have:=qT.get B sz rs (off+sz) h.2 i r e;rwa[show off+sz+i*sz=off+(i+1)*sz by rw[qBW];omega]at this
def qT.intro{K}(B sz):∀(rs) (off),(∀(i) (r),rs[i]?=some r->r.length=sz/\r.all AV.atom=true/\qr K B (off+i*sz) r)->qT K B off sz rs
 |[],_,_=>by simp[qT]
 | b::rs,off,h=>by
  simp only[qT];exact⟨by simpa using h 0 b (by simp),qT.intro B sz rs (off+sz) fun i r e=>by have:=h (i+1) r (by simpa using e);rwa[show off+(i+1)*sz=off+sz+i*sz by rw[qBW];omega]at this⟩
def qFT:=@qT.intro
def qT.flat{K}(B sz):∀(rs) (off),qT K B off sz rs->qr K B off rs.flatten/\rs.flatten.length=rs.length*sz/\rs.flatten.all AV.atom=true
 |[],_,_=>by simp[qr]
 | r::rs,off,h=>by
  simp only[qT]at h;obtain⟨⟨h1,h2,h3⟩,h4⟩:=h;obtain⟨i1,i2,i3⟩:=qT.flat B sz rs (off+sz) h4;refine⟨?_,by simp[h1,qBW];rw[<- List.length_flatten,i2];omega,by simp[qCx,h2];simpa using i3⟩;simp only[qBI];refine qFS B _ off fun i a e=>?_
  rw[qBO]at e;split at e
  . exact qr.get B _ _ h3 i a e
  rename_i hlt;have:=qr.get B _ _ i1 (i-r.length) a e
  rwa[show off+sz+(i-r.length)=off+i by omega]at this
def jx(B off j):(⟨B,off,none⟩:Addr).add j=⟨B,off+j,none⟩:=by
 unfold Addr.add;split<;>simp_all
def Kn.addM(K:Kn)(i B n:Nat):Kn:={K with m:=fun j=>if j=i then some B else K.m j,bs:=fun j=>if j=i then n else K.bs j}
def j9:Obj->Nat
 |.cells cs _ _=>cs.size
 |_=>0
def Kn.addRo(K:Kn)(B lo:Nat)(vs:List Value):Kn :=
 {K with ro:=fun b o=>if b=B/\lo<=o/\o<lo+vs.length then vs[o-lo]? else K.ro b o}
def Kn.setCh(K:Kn)(t:Nat)(C:Chn)(n:Nat):Kn:={K with ch:=fun u=>if u=t then some C else K.ch u,nch:=n}
section
variable {P:Program}{G:Nat->AV}{w0:World}{ro0:Nat->Nat->Option Value}{K:Kn}{U:St}{w:World}
def WRel.ro_lt(h:WRel G w0 ro0 K U w){b o v}(e:K.ro b o=some v):b<w.heap.size :=
 World.block_lt_of_cell? w ⟨b,o,none⟩ (h.ro b o v e)
def WRel.ro_new(h:WRel G w0 ro0 K U w)(o):K.ro w.heap.size o=none:=by
 cases e:K.ro w.heap.size o with
 |none=>rfl
 |some v=>have:=h.ro_lt e;omega
def WRel.m_lt(h:WRel G w0 ro0 K U w){i B}(e:K.m i=some B):B<w.heap.size/\w0.heap.size<=B:=by
 have hi:=h.mlt i B e;obtain⟨B',h1,h2,h3,_⟩:=h.blk i U.H[i] (by simp[hi]);rw[e]at h1;cases h1;exact⟨h3,h2⟩
def WRel.ch_lt(h:WRel G w0 ro0 K U w){t C}(e:K.ch t=some C):C.B<w.heap.size/\w0.heap.size<=C.B/\t<K.nch:=by
 obtain⟨k,hk⟩:=h.chd t C e;obtain⟨C',h1,_,h3,_,⟨cs,el,h5,_⟩,_⟩:=h.ch t k hk;rw[e]at h1;cases h1;have:=(qAU.1 hk).1;exact⟨(qBR.1 h5).1,h3,by rw[h.nch];exact this⟩
def WRel.size_le(h:WRel G w0 ro0 K U w):w0.heap.size<=w.heap.size:=h.below.size
def WRel.drew(h:WRel G w0 ro0 K U w):WRel G w0 ro0 K U w.drew :=
 ⟨h.below.drew,h.glob,h.ro,h.new,h.blk,h.inj,h.mlt,h.ch,h.chd,h.chinj,h.nch,h.bsz,h.fx,h.rwl⟩
def Kn.withFx(K:Kn)(f:Nat->Option Obj):Kn:={K with fx:=f}
def Kn.le0_fx(K:Kn)(f g):(K.withFx f).le0 (K.withFx g):=⟨fun _ _ _ e=>e,fun _ _ e=>e,qA5 _,fun t C _ e=>⟨C,e,.inl rfl⟩,fun _ _ _=>rfl⟩
def qk.refx{K a v}(f)(h:qk K a v):qk (K.withFx f) a v:=qk.mono0 (Kn.le0_fx K K.fx f) a h
def ERel.refx{K N env a}(f)(h:ERel K N env a):ERel (K.withFx f) N env a:=⟨h.size,fun t=>(h.val t).refx f⟩
def ym.refx{K b o}(f)(x:ym K b o):ym (K.withFx f) b o:=by
 cases b with
 | cells c=>
  obtain⟨cs,el,h1,h0,h2,h3⟩:=x;exact⟨cs,el,h1,h0,h2,fun i a e=>by obtain⟨v,h4,h5⟩:=h3 i a e;exact⟨v,h4,h5.refx f⟩⟩
 | map es clock=>
  obtain⟨es',h1,h2,h3⟩:=x;exact⟨es',h1,h2,fun i k v b e=>by obtain⟨e',h4,h5,h6,h7⟩:=h3 i k v b e;exact⟨e',h4,h5.refx f,h6.refx f,h7⟩⟩
 |siter s pos=>simpa[ym] using x
 |miter mb since seen st=>exact x
 |dead=>simp[ym]
 |raw n=>exact x
def WRel.unfix(h:WRel G w0 ro0 K U w){f}(hf:∀B o,f B=some o->K.fx B=some o):WRel G w0 ro0 (K.withFx f) U w :=
 ⟨h.below,h.glob,h.ro,h.new,fun i b e=>by obtain⟨B,h1,h2,h3,h4,h5⟩:=h.blk i b e;exact⟨B,h1,h2,h3,h4.refx f,h5⟩,h.inj,h.mlt,h.ch,h.chd,h.chinj,h.nch,h.bsz,fun B o e=>h.fx B o (hf B o e),h.rwl⟩
def WRel.refix(h:WRel G w0 ro0 K U w){B o}(hB:K.fx B=some o)(hc:∀c el fr,o≠.cells c el fr)(o'):
 WRel G w0 ro0 (K.withFx fun b=>if b=B then some o' else K.fx b) U {w with heap:=w.heap.setIfInBounds B o'}:=by
 obtain⟨b1,b2,b3,b4⟩:=h.fx B o hB;have oth:∀k,k≠B->(w.heap.setIfInBounds B o')[k]?=w.heap[k]?:=fun k hk=>by simp[qDw (Ne.symm hk)]
 have hro:∀b o v,K.ro b o=some v->b≠B:=by
  intro b o1 v e eb;subst eb;have:=h.ro _ _ _ e;unfold World.cell? at this;rw[b1]at this;cases o<;>first|exact hc _ _ _ rfl|simp at this
 refine⟨h.below.trans ⟨rfl,rfl,rfl,by simp,fun k hk=>oth k (by omega)⟩,h.glob,?_,h.new,?_,h.inj,h.mlt,?_,h.chd,h.chinj,h.nch,?_,?_,h.rwl⟩
 . intro b o1 v e;rw[World.cell?_of_block (w:=w) (oth b (hro b o1 v e))];exact h.ro b o1 v e
 . intro i b e;obtain⟨B',h1,h2,h3,h4,h5⟩:=h.blk i b e;refine⟨B',h1,h2,by simpa using h3,?_,h5⟩;rw[oth B' (fun e=>b3 i (e▸h1))];exact h4.refx _
 . intro t k e;obtain⟨C,c1,c2,c3,c4,⟨cs,el,c5,c6⟩,c7,c8⟩:=h.ch t k e;refine⟨C,c1,c2,c3,c4,⟨cs,el,?_,c6⟩,c7,c8⟩
   rwa[oth C.B (b4 t C c1)]
 . intro i B' cs el fr e1 e2;have e2':=e2;rw[oth B' (fun e=>b3 i (e▸e1))]at e2';exact h.bsz i B' cs el fr e1 e2'
 intro B' o1 e;by_cases hB':B'=B
 . subst hB';simp only[Kn.withFx,if_pos]at e;cases e;exact⟨by simp[(qBR.1 b1).1],b2,b3,b4⟩
 simp only[Kn.withFx,if_neg hB']at e;rw[oth B' hB'];exact h.fx B' o1 e
def WRel.allocFix(h:WRel G w0 ro0 K U w)(o):WRel G w0 ro0 (K.withFx fun b=>if b=w.heap.size then some o else K.fx b) U (w.alloc o):=by
 have hsz:=h.size_le;have oth:∀k,k<w.heap.size->(w.alloc o).heap[k]?=w.heap[k]?:=fun k hk=>Below.heap_alloc w o k hk
 have hlt:∀k x,w.heap[k]?=some x->k<w.heap.size:=fun k x e=>(qBR.1 e).1
 have hs:(w.alloc o).heap.size=w.heap.size+1:=by show(w.heap.push o).size=_;simp
 refine⟨h.below.alloc hsz o,h.glob,?_,h.new,?_,h.inj,h.mlt,?_,h.chd,h.chinj,h.nch,?_,?_,h.rwl⟩
 . intro b o' v e;rw[World.cell?_of_block (w:=w) (oth b (h.ro_lt e))];exact h.ro b o' v e
 . intro i b e;obtain⟨B',h1,h2,h3,h4,h5⟩:=h.blk i b e;refine⟨B',h1,h2,by omega,?_,h5⟩;rw[oth B' h3];exact h4.refx _
 . intro t k e;obtain⟨C,c1,c2,c3,c4,⟨cs,el,c5,c6⟩,c7,c8⟩:=h.ch t k e;exact⟨C,c1,c2,c3,c4,⟨cs,el,by rw[oth C.B (hlt _ _ c5)];exact c5,c6⟩,c7,c8⟩
 . intro i B' cs el fr e1 e2;rw[oth B' (h.m_lt e1).1]at e2;exact h.bsz i B' cs el fr e1 e2
 intro B' o1 e;by_cases hB':B'=w.heap.size
 . subst hB';simp only[Kn.withFx,if_pos]at e;cases e;refine⟨(by show(w.heap.push o)[w.heap.size]?=some o;simp),hsz,fun i e=>?_,fun t C e eB=>?_⟩
   . have:=(h.m_lt e).1;omega
   have:=(h.ch_lt e).1;omega
 simp only[Kn.withFx,if_neg hB']at e;obtain⟨x1,x2,x3,x4⟩:=h.fx B' o1 e;exact⟨by rw[oth B' (hlt _ _ x1)];exact x1,x2,x3,x4⟩
def WRel.fx_lt(h:WRel G w0 ro0 K U w){B o}(e:K.fx B=some o):B<w.heap.size:=(qBR.1 (h.fx B o e).1).1
def Kn.le_fx{K:Kn}{f:Nat->Option Obj}(hf:∀B o,K.fx B=some o->f B=some o):K.le (K.withFx f) :=
 ⟨fun _ _ _ e=>e,fun _ _ e=>e,qA5 _,fun t C _ e=>⟨C,e,.inl rfl⟩,fun _ _ _=>rfl,hf,fun _ _ e=>e⟩
def Kn.le_swap{K K':Kn}{f g:Nat->Option Obj}(h:(K.withFx f).le K')(hg:∀B o,K.fx B=some o->g B=some o):K.le (K'.withFx g) :=
 ⟨h.ro,h.m,h.nch,h.ch,h.bs,hg,h.rw⟩
def qFB:=@Kn.le_swap
def Kn.le_addM(h:WRel G w0 ro0 K U w)(B n):K.le (K.addM U.H.length B n) :=
 ⟨fun _ _ _ e=>e,fun i B' e=>by
  have:=h.mlt i B' e;have hne:¬i=U.H.length:=by omega
  simp[*,Kn.addM],qA5 _,fun t C _ e=>⟨C,e,.inl rfl⟩,fun i B' e=>by
  have:=h.mlt i B' e;simp[Kn.addM,show ¬i=U.H.length by omega],fun _ _ e=>e,fun _ _ e=>e⟩
def qFC:=@Kn.le_addM
def WRel.push(h:WRel G w0 ro0 K U w){b o}(hb:ym K b (some o)):
 WRel G w0 ro0 (K.addM U.H.length w.heap.size (j9 o)) (U.push b) (w.alloc o):=by
 have hle:=qFC h w.heap.size (j9 o);have hsz:=h.size_le;refine⟨h.below.alloc hsz o,fun g=>(h.glob g).mono (JT hle),?_,h.new,?_,?_,?_,?_,h.chd,h.chinj,h.nch,?_,?_,?_⟩
 . intro b o' v e;have hlt:=h.ro_lt e;rw[World.cell?_of_block (w:=w) (Below.heap_alloc w o b hlt)];exact h.ro b o' v e
 . intro i b' e;simp only[St.push,qBO]at e;split at e
   . rename_i hi;obtain⟨B,h1,h2,h3,h4,h5⟩:=h.blk i b' e;refine⟨B,hle.m _ _ h1,h2,by simp;omega,?_,h5⟩;rw[Below.heap_alloc w o B h3];exact h4.mono hle
   rename_i hi;have hi':i=U.H.length:=by
    rcases qEI (i-U.H.length) 1 with h1|h1
    . omega
    simp[qBs (l:=[b]) (by simpa using h1)]at e
   subst hi';simp at e;subst e;refine⟨w.heap.size,by simp[Kn.addM],hsz,by simp,?_,h.ro_new⟩;rw[heap_alloc_new];exact hb.mono hle
 . intro i j B e1 e2;simp only[Kn.addM]at e1 e2;split at e1<;>split at e2
   . left;omega
   . simp at e1;subst e1;have:=(h.m_lt e2).1;omega
   . simp at e2;subst e2;have:=(h.m_lt e1).1;omega
   have li:=h.mlt i B e1;have lj:=h.mlt j B e2;simp only[St.push,qBa li,qBa lj];exact h.inj i j B e1 e2
 . intro i B e;simp only[Kn.addM]at e;simp only[St.push,qAY,qBo];split at e
   . omega
   have:=h.mlt i B e;omega
 . intro t k e;obtain⟨C,h1,h2,h3,h4,⟨cs,el,h5,h6⟩,h7,h8⟩:=h.ch t k e;refine⟨C,h1,h2,h3,h4,⟨cs,el,?_,h6⟩,h7,?_⟩
   . rw[Below.heap_alloc w o C.B (h.ch_lt h1).1];exact h5
   intro i e2;simp only[Kn.addM]at e2;split at e2
   . simp at e2;have:=(h.ch_lt h1).1;omega
   exact h8 i e2
 . intro i B cs el fr e1 e2;simp only[Kn.addM]at e1⊢;split at e1
   . rename_i hi;simp at e1;subst e1;rw[heap_alloc_new]at e2;cases e2;simp[hi,j9]
   rename_i hi;rw[Below.heap_alloc w o B (h.m_lt e1).1]at e2;simp only[hi,if_false];exact h.bsz i B cs el fr e1 e2
 . intro B x e;obtain⟨h1,h2,h3,h4⟩:=h.fx B x e;have hlt:=(qBR.1 h1).1;refine⟨by rw[Below.heap_alloc w o B hlt];exact h1,h2,fun i e2=>?_,h4⟩;simp only[Kn.addM]at e2;split at e2
   . simp at e2;omega
   exact h3 i e2
 intro n x e;have:=h.rwl n x e;simp only[St.push,qAY,qBo];omega
def Kn.le_addRo(B lo vs)(hn:∀o,lo<=o->o<lo+vs.length->K.ro B o=none):K.le (K.addRo B lo vs) :=
 ⟨fun b o v e=>by
  simp only[Kn.addRo];split
  . rename_i hc;obtain⟨rfl,h1,h2⟩:=hc;rw[hn o h1 h2]at e;cases e
  exact e,fun _ _ e=>e,qA5 _,fun t C _ e=>⟨C,e,.inl rfl⟩,fun _ _ _=>rfl,fun _ _ e=>e,fun _ _ e=>e⟩
def WRel.newRo(h:WRel G w0 ro0 K U w)(vs:List Value)(cs)(el:TypeId)(hp:∀(j:Nat) (v:Value),vs[j]?=some v->cs[j]?=some v):
 WRel G w0 ro0 (K.addRo w.heap.size 0 vs) U (w.alloc (.cells cs el))/\K.le (K.addRo w.heap.size 0 vs):=by
 have hle:K.le (K.addRo w.heap.size 0 vs):=Kn.le_addRo _ _ _ (fun o _ _=>h.ro_new o);have hsz:=h.size_le;refine⟨⟨h.below.alloc hsz _,fun g=>(h.glob g).mono (JT hle),?_,?_,?_,h.inj,h.mlt,?_,h.chd,h.chinj,h.nch,fun i B cs el fr e1 e2=>by
  rw[Below.heap_alloc w _ B (h.m_lt e1).1]at e2;exact h.bsz i B cs el fr e1 e2,fun B x e=>by
  obtain⟨h1,h2,h3,h4⟩:=h.fx B x e;exact⟨by rw[Below.heap_alloc w _ B (qBR.1 h1).1];exact h1,h2,h3,h4⟩,h.rwl⟩,hle⟩
 . intro b o v e;simp only[Kn.addRo]at e;split at e
   . rename_i hc;obtain⟨rfl,h1,h2⟩:=hc;have:=hp _ _ e;simp;simpa using this
   have hlt:=h.ro_lt e;rw[World.cell?_of_block (w:=w) (Below.heap_alloc w _ b hlt)];exact h.ro b o v e
 . intro b o v e hb;simp only[Kn.addRo]at e;split at e
   . rename_i hc;obtain⟨rfl,_⟩:=hc;omega
   exact h.new b o v e hb
 . intro i b e;obtain⟨B,h1,h2,h3,h4,h5⟩:=h.blk i b e;refine⟨B,h1,h2,by simp;omega,by rw[Below.heap_alloc w _ B h3];exact h4.mono hle,fun o=>?_⟩;simp only[Kn.addRo];rw[if_neg (by omega)];exact h5 o
 intro t k e;obtain⟨C,h1,h2,h3,h4,⟨cs',el',h5,h6⟩,h7,h8⟩:=h.ch t k e;refine⟨C,h1,h2,h3,h4,⟨cs',el',?_,h6⟩,fun o ho=>?_,h8⟩
 . rw[Below.heap_alloc w _ C.B (h.ch_lt h1).1];exact h5
 simp only[Kn.addRo];have:=(h.ch_lt h1).1;rw[if_neg (by omega)];exact h7 o ho
def qr.addRo{B lo vs c}(h:ql K c vs)(hle:K.le (K.addRo B lo vs)):qr (K.addRo B lo vs) B lo c:=by
 refine qFS B c lo fun i a e=>?_
 obtain⟨v,h1,h2⟩:=h.get i a e;refine⟨v,?_,h2.mono hle⟩;have hlt:=(qAU.1 h1).1;show(if B=B/\lo<=lo+i/\lo+i<lo+vs.length then vs[lo+i-lo]? else K.ro B (lo+i))=some v
 rwa[if_pos ⟨rfl,by omega,by omega⟩,show lo+i-lo=i by omega]
end
