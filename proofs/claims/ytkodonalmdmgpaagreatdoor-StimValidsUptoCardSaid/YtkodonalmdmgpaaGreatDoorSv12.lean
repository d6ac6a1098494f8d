import Derived.Test.YtkodonalmdmgpaaGreatDoorSv10
import Derived.Test.YtkodonalmdmgpaaGreatDoorSv11
import Derived.Laws.RangeAny
import Derived.Shelf.Lay
import Derived.Shelf.Strings.Search1
import Derived.WalkKit
set_option maxRecDepth 100000
set_option linter.all false
set_option linter.defProp false
section
namespace Go.Proofs.YtkodonalmdmgpaaGreatDoor
open Go Go.Abs
abbrev Str:=List UInt8
structure Var where
 name:Str
 width:Int
 mode:Int
 value:Int
structure Weight where
 lo:Int
 hi:Int
 weight:Int
 each:Bool
structure Dist where
 var:Int
 weights:List Weight
inductive Ex where
 | mk (op n:Int) (name:Str) (args:List Ex)
structure Problem where
 vars:List Var
 hard:List Ex
 soft:List Ex
 dists:List Dist
 groups:List (List Int)
structure Signal where
 name:Str
 value:Int
def Ex.op:Ex→Int | .mk o _ _ _=>o
def Ex.n:Ex→Int | .mk _ n _ _=>n
def Ex.name:Ex→Str | .mk _ _ s _=>s
def Ex.args:Ex→List Ex | .mk _ _ _ a=>a
@[simp] theorem Ex.op_mk {o n:Int} {s:Str} {a:List Ex}:(Ex.mk o n s a).op=o:=rfl
@[simp] theorem Ex.n_mk {o n:Int} {s:Str} {a:List Ex}:(Ex.mk o n s a).n=n:=rfl
@[simp] theorem Ex.name_mk {o n:Int} {s:Str} {a:List Ex}:(Ex.mk o n s a).name=s:=rfl
@[simp] theorem Ex.args_mk {o n:Int} {s:Str} {a:List Ex}:(Ex.mk o n s a).args=a:=rfl
@[simp] def encVar (v:Var):List AV:=[.str v.name,.int .i64 v.width,.int .i64 v.mode,.int .i64 v.value]
@[simp] def encWeight (w:Weight):List AV:=[.int .i64 w.lo,.int .i64 w.hi,.int .i64 w.weight,.bool w.each]
@[simp] def encDist (d:Dist):List AV:=[.int .i64 d.var,.sl 4 (d.weights.map encWeight) .none]
@[simp] def encInt (n:Int):List AV:=[.int .i64 n]
@[simp] def encStr (s:Str):List AV:=[.str s]
@[simp] def encSignal (s:Signal):List AV:=[.str s.name,.int .i64 s.value]
mutual
def encE:Ex→List AV
 | .mk o n s a=>[.int .i64 o,.int .i64 n,.str s,.sl 4 (encEs a) .none]
def encEs:List Ex→List (List AV)
 | []=>[]
 | a::r=>encE a::encEs r
end
@[simp] theorem encEs_eq:∀ l,encEs l=l.map encE
 | []=>rfl
 | a::r=>by simp [encEs,encEs_eq r]
theorem encE_eq (e:Ex):encE e=[.int .i64 e.op,.int .i64 e.n,.str e.name,.sl 4 (e.args.map encE) .none]:=by cases e;simp [encE]
@[simp] def encInts (l:List Int):List AV:=[.sl 1 (l.map encInt) .none]
@[simp] def encP (p:Problem):List AV:=[.sl 4 (p.vars.map encVar) .none,.sl 4 (p.hard.map encE) .none,.sl 4 (p.soft.map encE) .none,.sl 2 (p.dists.map encDist) .none,.sl 1 (p.groups.map encInts) .none]
@[simp] theorem nrVar (l:List Var):noRefss (l.map encVar)=true:=noRefss_map (fun x=>by simp) l
@[simp] theorem nrWeight (l:List Weight):noRefss (l.map encWeight)=true:=noRefss_map (fun x=>by simp) l
@[simp] theorem nrDist (l:List Dist):noRefss (l.map encDist)=true:=noRefss_map (fun x=>by simp) l
@[simp] theorem nrInt (l:List Int):noRefss (l.map encInt)=true:=noRefss_map (fun x=>by simp) l
@[simp] theorem nrStr (l:List Str):noRefss (l.map encStr)=true:=noRefss_map (fun x=>by simp) l
@[simp] theorem nrSignal (l:List Signal):noRefss (l.map encSignal)=true:=noRefss_map (fun x=>by simp) l
@[simp] theorem nrInts (l:List (List Int)):noRefss (l.map encInts)=true:=noRefss_map (fun x=>by simp) l
mutual
theorem nrE':∀ e,noRefs (encE e)=true
 | .mk o n s a=>by
  have:=nrEs' a
  simp [encE,this]
  simpa using this
theorem nrEs':∀ l,noRefss (encEs l)=true
 | []=>rfl
 | a::r=>by simp only [encEs,noRefss,nrE' a,nrEs' r,Bool.and_self]
end
@[simp] theorem nrE (e:Ex):noRefs (encE e)=true:=nrE' e
@[simp] theorem nrEs (l:List Ex):noRefss (l.map encE)=true:=noRefss_map (fun x=>nrE x) l
theorem mixed:Tryz.prog.follows .mixedOrders=true:=by kernel_rfl
/-- A length that no counter outgrows. -/
abbrev Fits {α:Type} (l:List α):Prop:=l.length<9223372036854775808
/-- The index of the first that fits, from i on. -/
def findI {α:Type} (p:α→Bool):List α→Int→Int
 | [],_=>-1
 | v::r,i=>if p v then i else findI p r (i+1)
theorem findI_ge {α:Type} {p:α→Bool}:∀ {l:List α} {i:Int},0≤i→(0≤findI p l i↔l.any p=true)
 | [],i,_=>by simp [findI]
 | v::r,i,h=>by
  simp only [findI,List.any_cons]
  split
  · rename_i hp;simp [hp,h]
  · rename_i hp;simp [hp,findI_ge (l:=r) (i:=i+1) (by omega)]
@[simp] theorem findI_dec {α:Type} (p:α→Bool) (l:List α):decide (0≤findI p l 0)=l.any p:=by
 rw [Bool.eq_iff_iff,decide_eq_true_iff]
 exact findI_ge (by omega)
end Go.Proofs.YtkodonalmdmgpaaGreatDoor
end
section
namespace Go.Proofs.YtkodonalmdmgpaaGreatDoor
open Go Go.Abs
def keyw:List Str:=[[99,108,97,115,115],[101,120,116,101,110,100,115],[114,97,110,100],[114,97,110,100,99],[115,116,97,116,101],[99,111,110,115,116,114,97,105,110,116],[115,111,102,116],[100,105,115,116],[105,102],[101,108,115,101],[101,97,99,104],[105,110],[115,111,108,118,101],[98,101,102,111,114,101],[105,110,115,105,100,101],[112,114,111,112,101,114,116,121],[115,101,113],[97,110,100],[111,114],[110,111,116],[115,101,116],[104,111,108,100],[112,108,97,105,110],[114,101,112,101,97,116]]
def lowerI (n:Int):Bool:=decide (97≤n)&&decide (n≤122)
def digitI (n:Int):Bool:=decide (48≤n)&&decide (n≤57)
def innerI (n:Int):Bool:=lowerI n||digitI n||(decide (65≤n)&&decide (n≤90))||decide (n=95)
def innerB (c:UInt8):Bool:=innerI c.toNat
def wordS:Str→Bool
 | []=>false
 | c::r=>lowerI c.toNat&&(c::r).all innerB
def nameS (s:Str):Bool:=wordS s&&decide (s.length≤16)&&!keyw.contains s
theorem nameS_inner {s:Str} (h:nameS s=true):∀ c∈s,innerB c=true:=by
 simp only [nameS,Bool.and_eq_true] at h
 obtain⟨⟨h,_⟩,_⟩:=h
 cases s with
 | nil=>simp
 | cons c r=>
  simp only [wordS,Bool.and_eq_true] at h
  exact fun x hx=>List.all_eq_true.1 h.2 x hx
theorem nameS_no91 {s:Str} (h:nameS s=true):∀ c∈s,c≠91:=by
 intro c hc e
 have:=nameS_inner h c hc
 subst e
 revert this
 decide
theorem nameS_ne {s:Str} (h:nameS s=true):s≠[]:=by
 rintro rfl
 simp [nameS,wordS] at h
/-- The name of an element of an array. -/
def elemS (a:Str) (i:Nat):Str:=a++[91,UInt8.ofNat (48+i),93]
@[simp] theorem elemS_length {a:Str} {i:Nat}:(elemS a i).length=a.length+3:=by simp [elemS]
theorem elemS_inj {a b:Str} {i j:Nat} (hi:i<8) (hj:j<8) (h:elemS a i=elemS b j):a=b∧i=j:=by
 obtain⟨h1,h2⟩:=List.append_inj' h rfl
 refine⟨h1,?_⟩
 simp only [List.cons.injEq,true_and,and_true] at h2
 have:=congrArg UInt8.toNat h2
 simp only [UInt8.toNat_ofNat'] at this
 omega
def IsElem (s a:Str) (i:Nat):Prop:=i<8∧nameS a=true∧s=elemS a i
theorem IsElem.unique {s a b:Str} {i j:Nat} (h:IsElem s a i) (h':IsElem s b j):a=b∧i=j:=elemS_inj h.1 h'.1 (h.2.2.symm.trans h'.2.2)
open Classical in
noncomputable def elemO (s:Str):Option (Str×Nat):=if h:∃ p:Str×Nat,IsElem s p.1 p.2 then some h.choose else none
theorem elemO_eq {s a:Str} {i:Nat} (h:IsElem s a i):elemO s=some (a,i):=by
 have hex:∃ p:Str×Nat,IsElem s p.1 p.2:=⟨(a,i),h⟩
 unfold elemO
 rw [dif_pos hex]
 obtain⟨h1,h2⟩:=hex.choose_spec.unique h
 rw [← h1,← h2]
theorem elemO_some {s a:Str} {i:Nat}:elemO s=some (a,i)↔IsElem s a i:=by
 constructor
 · intro h
   unfold elemO at h
   split at h
   · rename_i hex
     have:=hex.choose_spec
     rw [Option.some.inj h] at this
     exact this
   · cases h
 · exact elemO_eq
theorem elemO_none {s:Str}:elemO s=none↔∀ a i,¬ IsElem s a i:=by
 constructor
 · intro h a i hi
   rw [elemO_eq hi] at h;cases h
 · intro h
   cases e:elemO s with
   | none=>rfl
   | some p=>exact absurd (elemO_some.1 (show elemO s=some (p.1,p.2) from e)) (h _ _)
noncomputable def varS (s:Str):Bool:=nameS s||(elemO s).isSome
/-- Cut at the first opening bracket. -/
def headS (s:Str):Str:=s.takeWhile (· != 91)
def tailS (s:Str):Str:=(s.dropWhile (· != 91)).tail
theorem cut_eq {s:Str} (h:s.contains 91=true):s=headS s++91::tailS s:=by
 unfold headS tailS
 induction s with
 | nil=>simp at h
 | cons c r ih=>
  by_cases hc:c=91
  · subst hc;simp
  · have:r.contains 91=true:=by
     simp only [List.contains_cons,Bool.or_eq_true,beq_iff_eq] at h
     rcases h with h|h
     · exact absurd h.symm hc
     · exact h
    have hb:(c != 91)=true:=by simpa using hc
    rw [List.takeWhile_cons,List.dropWhile_cons,if_pos hb,if_pos hb,List.cons_append,← ih this]
theorem headS_elem {a:Str} {t:Str} (h:∀ c∈a,c≠91):headS (a++91::t)=a:=by
 unfold headS
 induction a with
 | nil=>simp
 | cons c r ih=>
  have hb:(c != 91)=true:=by simpa using h c (by simp)
  rw [List.cons_append,List.takeWhile_cons,if_pos hb,ih fun x hx=>h x (by simp [hx])]
theorem tailS_elem {a:Str} {t:Str} (h:∀ c∈a,c≠91):tailS (a++91::t)=t:=by
 unfold tailS
 induction a with
 | nil=>simp
 | cons c r ih=>
  have hb:(c != 91)=true:=by simpa using h c (by simp)
  rw [List.cons_append,List.dropWhile_cons,if_pos hb,ih fun x hx=>h x (by simp [hx])]
theorem headS_no (s:Str):∀ c∈headS s,c≠91:=by
 intro c hc
 have:=List.all_takeWhile (p:=fun x:UInt8=>x != 91) (l:=s)
 have:=List.all_eq_true.1 this c hc
 simpa using this
theorem elem_has {a:Str} {i:Nat}:(elemS a i).contains 91=true:=by simp [elemS]
theorem IsElem.has {s a:Str} {i:Nat} (h:IsElem s a i):s.contains 91=true∧headS s=a∧tailS s=[UInt8.ofNat (48+i),93]:=by
 obtain⟨h1,h2,rfl⟩:=h
 exact⟨elem_has,headS_elem (nameS_no91 h2),tailS_elem (nameS_no91 h2)⟩
theorem no_elem {s:Str} (h:s.contains 91=false):elemO s=none:=by
 rw [elemO_none]
 intro a i hi
 rw [hi.has.1] at h;cases h
/-! ### Errors one behind the other -/
def firstE {α:Type} (f:α→Int):List α→Int
 | []=>0
 | a::r=>if f a=0 then firstE f r else f a
theorem firstE_append {α:Type} {f:α→Int}:∀ {l m:List α},firstE f (l++m)=if firstE f l=0 then firstE f m else firstE f l
 | [],m=>by simp [firstE]
 | a::r,m=>by
  simp only [List.cons_append,firstE]
  split
  · exact firstE_append
  · rename_i h;simp
theorem firstE_congr {α:Type} {f g:α→Int}:∀ {l:List α},(∀ a∈l,f a=g a)→firstE f l=firstE g l
 | [],_=>rfl
 | a::r,h=>by simp only [firstE,h a (by simp)];rw [firstE_congr fun x hx=>h x (by simp [hx])]
theorem firstE_zero {α:Type} {f:α→Int}:∀ {l:List α},firstE f l=0↔∀ a∈l,f a=0
 | []=>by simp [firstE]
 | a::r=>by
  simp only [firstE,List.mem_cons,forall_eq_or_imp]
  split
  · rename_i h;simp [h,firstE_zero]
  · rename_i h;simp [h]
/-! ### Variables -/
noncomputable def varE (v:Var):Int :=
 if varS v.name=false then 7
 else if v.width<1∨8<v.width∨v.mode<0∨2<v.mode∨v.value<0∨(2:Int) ^ v.width.toNat≤v.value∨(v.mode≠0∧v.value≠0) then 1
 else 0
def hasV (l:List Var) (name:Str):Bool:=l.any fun v=>v.name==name
def dupAt (l:List Var) (i:Nat):Bool:=match l[i]? with
 | some v=>hasV (l.take i) v.name
 | none=>false
def dupS (l:List Var):Bool:=(List.range l.length).any (dupAt l)
open Classical in
noncomputable def gapS (l:List Var) (name:Str):Bool:=match elemO name with
 | some (a,i+1)=>!hasV l (elemS a i)
 | _=>false
def bitsV:List Var→Int
 | []=>0
 | v::r=>(if v.mode≠0 then v.width else 0)+bitsV r
noncomputable def varsS (l:List Var):Int :=
 if 16<l.length then 2
 else if firstE varE l≠0 then firstE varE l
 else if dupS l=true then 8
 else if l.any (fun v=>gapS l v.name)=true then 10
 else if 20<bitsV l then 2
 else 0
/-! ### Expressions -/
mutual
theorem Ex.ind {p:Ex→Prop} (h:∀ e,(∀ a∈e.args,p a)→p e):∀ e,p e
 | .mk o n s a=>h _ (by simpa using Ex.indL h a)
theorem Ex.indL {p:Ex→Prop} (h:∀ e,(∀ a∈e.args,p a)→p e):∀ (l:List Ex),∀ a∈l,p a
 | [],_,hm=>by cases hm
 | e::r,a,hm=>by
  rcases List.mem_cons.1 hm with hm|hm
  · rw [hm];exact Ex.ind h e
  · exact Ex.indL h r a hm
end
mutual
def pre:Ex→List Ex
 | .mk o n s a=>.mk o n s a::preL a
def preL:List Ex→List Ex
 | []=>[]
 | e::r=>pre e++preL r
end
theorem pre_eq (e:Ex):pre e=e::preL e.args:=by cases e;simp [pre]
@[simp] theorem preL_nil:preL []=[]:=by simp [preL]
@[simp] theorem preL_cons {e:Ex} {r:List Ex}:preL (e::r)=pre e++preL r:=by simp [preL]
theorem preL_append:∀ {l m:List Ex},preL (l++m)=preL l++preL m
 | [],m=>by simp
 | e::r,m=>by simp [preL_append (l:=r),List.append_assoc]
mutual
def hgt:Ex→Nat
 | .mk _ _ _ a=>hgtL a+1
def hgtL:List Ex→Nat
 | []=>0
 | e::r=>max (hgt e) (hgtL r)
end
theorem hgt_eq (e:Ex):hgt e=hgtL e.args+1:=by cases e;simp [hgt]
@[simp] theorem hgtL_nil:hgtL []=0:=by simp [hgtL]
@[simp] theorem hgtL_cons {e:Ex} {r:List Ex}:hgtL (e::r)=max (hgt e) (hgtL r):=by simp [hgtL]
theorem hgtL_mem {l:List Ex} {e:Ex} (h:e∈l):hgt e≤hgtL l:=by
 induction l with
 | nil=>cases h
 | cons a r ih=>
  rcases List.mem_cons.1 h with rfl|h
  · simp;omega
  · have:=ih h;simp;omega
theorem hgt_arg {e a:Ex} (h:a∈e.args):hgt a<hgt e:=by
 have:=hgtL_mem h
 rw [hgt_eq e];omega
/-- Lists of operands that no counter outgrows. -/
def Wee (e:Ex):Prop:=∀ x∈pre e,Fits x.args
theorem Wee.fits {e:Ex} (h:Wee e):Fits e.args:=h e (by rw [pre_eq];simp)
theorem mem_preL {l:List Ex} {x:Ex}:x∈preL l↔∃ a∈l,x∈pre a:=by
 induction l with
 | nil=>simp
 | cons e r ih=>simp [ih]
theorem Wee.arg {e a:Ex} (h:Wee e) (ha:a∈e.args):Wee a:=fun x hx=>h x (by rw [pre_eq];exact List.mem_cons_of_mem _ (mem_preL.2 ⟨a,ha,hx⟩))
def arityS (op:Int):Int :=
 if op=1∨op=2∨op=24 then 0
 else if op=3∨op=4∨op=5∨op=6∨op=25 then 1
 else if op=22 then 3
 else if op=23 then -1
 else if op<1∨25<op then -1
 else 2
def operandsS (e:Ex):Bool :=
 if e.op=23 then decide (e.args.length % 2=1∧3≤e.args.length∧e.args.length≤33)
 else decide ((e.args.length:Int)=arityS e.op)
noncomputable def nodeE (e:Ex):Int :=
 if e.op<1∨25<e.op then 1
 else if (e.op=1∧(e.n<0∨65535<e.n))∨(e.op≠1∧e.n≠0) then 1
 else if (¬ (e.op=2∨e.op=3∨e.op=24)∧e.name≠[])∨operandsS e=false then 1
 else if (e.op=2∧varS e.name=false)∨((e.op=3∨e.op=24)∧nameS e.name=false) then 7
 else 0
/-- The number of nodes, as a machine counts. -/
def sizeS (e:Ex):Int:=IntKind.i64.wrap (pre e).length
noncomputable def validE (e:Ex):Int :=
 if firstE nodeE (pre e)=0∧(24<hgt e∨400<sizeS e) then 2 else firstE nodeE (pre e)
def addN (ops:List Int) (out:List Str) (e:Ex):List Str:=if ops.contains e.op&&!out.contains e.name then out++[e.name] else out
def namesS (ops:List Int) (e:Ex):List Str:=(pre e).foldl (addN ops) []
theorem addN_mem {ops:List Int} {out:List Str} {e:Ex} {s:Str}:s∈addN ops out e↔s∈out∨(ops.contains e.op=true∧s=e.name):=by
 unfold addN
 by_cases h1:e.op∈ops
 · by_cases h2:e.name∈out
   · simp only [List.contains_iff_mem.2 h1,List.contains_iff_mem.2 h2,Bool.not_true,Bool.and_false,Bool.false_eq_true,if_false,true_and]
     constructor
     · exact .inl
     · rintro (h|rfl)
       · exact h
       · exact h2
   · simp [h1,h2]
 · simp [h1]
theorem foldN_mem {ops:List Int} {s:Str}:∀ {l:List Ex} {out:List Str},s∈l.foldl (addN ops) out↔s∈out∨∃ e∈l,ops.contains e.op=true∧s=e.name
 | [],out=>by simp
 | e::r,out=>by
  rw [List.foldl_cons,foldN_mem,addN_mem]
  simp only [List.mem_cons,exists_eq_or_imp]
  constructor
  · rintro ((h|h)|h)
    · exact .inl h
    · exact .inr (.inl h)
    · exact .inr (.inr h)
  · rintro (h|h|h)
    · exact .inl (.inl h)
    · exact .inl (.inr h)
    · exact .inr h
theorem namesS_mem {ops:List Int} {e:Ex} {s:Str}:s∈namesS ops e↔∃ x∈pre e,ops.contains x.op=true∧s=x.name:=by
 unfold namesS;rw [foldN_mem];simp
def arrB (e:Ex):Bool:=(pre e).any fun x=>decide (x.op=3∨x.op=24)
def forB (l:List Var) (e:Ex):Bool:=(pre e).any fun x=>decide (x.op=2)&&!hasV l x.name
theorem arrB_names {e:Ex}:decide (0<(namesS [3,24] e).length)=arrB e:=by
 rw [Bool.eq_iff_iff,decide_eq_true_iff,List.length_pos_iff_exists_mem,arrB,List.any_eq_true]
 constructor
 · rintro⟨s,hs⟩
   obtain⟨x,h1,h2,_⟩:=namesS_mem.1 hs
   exact⟨x,h1,by simpa using h2⟩
 · rintro⟨x,h1,h2⟩
   exact⟨x.name,namesS_mem.2 ⟨x,h1,by simpa using h2,rfl⟩⟩
theorem forB_names {l:List Var} {e:Ex}:(namesS [2] e).any (fun s=>!hasV l s)=forB l e:=by
 rw [Bool.eq_iff_iff,forB,List.any_eq_true,List.any_eq_true]
 constructor
 · rintro⟨s,hs,h⟩
   obtain⟨x,h1,h2,rfl⟩:=namesS_mem.1 hs
   exact⟨x,h1,by simp only [Bool.and_eq_true,decide_eq_true_eq];exact⟨by simpa using h2,h⟩⟩
 · rintro⟨x,h1,h2⟩
   simp only [Bool.and_eq_true,decide_eq_true_eq] at h2
   exact⟨x.name,namesS_mem.2 ⟨x,h1,by simpa using h2.1,rfl⟩,h2.2⟩
noncomputable def exprE (l:List Var) (e:Ex):Int :=
 if validE e≠0 then validE e else if arrB e=true then 9 else if forB l e=true then 7 else 0
/-! ### Distributions -/
def rndS (l:List Var) (i:Int):Bool:=decide (0≤i)&&(l[i.toNat]?).any fun v=>v.mode != 0
def weightB (w:Weight):Bool:=decide (w.lo<0)||decide (w.hi<w.lo)||decide (65535<w.hi)||decide (w.weight<0)||decide (1000<w.weight)
def distE (l:List Var) (d:List Dist) (i:Nat):Int:=match d[i]? with
 | some x=>if rndS l x.var=false then 1 else if (d.take i).any (fun y=>y.var==x.var)=true then 8 else if 16<x.weights.length then 2 else if x.weights.any weightB=true then 1 else 0
 | none=>0
def distsS (l:List Var) (d:List Dist):Int:=firstE (distE l d) (List.range d.length)
/-! ### Groups -/
def GroupsOk (l:List Var) (g:List (List Int)):Prop:=(∀ x∈g,x≠[])∧(∀ i∈g.flatten,rndS l i=true)∧g.flatten.Nodup∧∀ i:Nat,i<l.length→rndS l i=true→(i:Int)∈g.flatten
open Classical in
noncomputable def groupsS (l:List Var) (g:List (List Int)):Int:=if GroupsOk l g then 0 else 1
noncomputable def validP (p:Problem):Int :=
 if varsS p.vars≠0 then varsS p.vars
 else if firstE (exprE p.vars) (p.hard++p.soft)≠0 then firstE (exprE p.vars) (p.hard++p.soft)
 else if distsS p.vars p.dists≠0 then distsS p.vars p.dists
 else groupsS p.vars p.groups
noncomputable def randomS (p:Problem):List Nat:=if validP p≠0 then [] else (List.range p.vars.length).filter fun i=>rndS p.vars i
def widthAt (l:List Var) (i:Nat):Int:=match l[i]? with
 | some v=>v.width
 | none=>0
noncomputable def bitsS (p:Problem):Int:=(randomS p).foldl (fun n i=>IntKind.i64.wrap (n+widthAt p.vars i)) 0
end Go.Proofs.YtkodonalmdmgpaaGreatDoor
end
section
namespace Go.Abs
open Go Go.RowKit
/-- Where the body of a call that shares the state may end. -/
def acEnd (P:Program) (rs:List ResultVar) (Q:AV→St→Prop) (env:Env) (σ:St):Prop :=
 match resA (Dof P) rs env σ with
 | some l=>Q (tupA l) σ
 | none=>False
def acPost (P:Program) (rs:List ResultVar) (Q:AV→St→Prop):Exit→Env→St→Prop
 | .ret,env,σ=>acEnd P rs Q env σ
 | .normal,env,σ=>acEnd P rs Q env σ
 | _,_,_=>False
attribute [simp] acEnd acPost
section
variable {P:Program} {G:Glo} {σ:St} {f:FuncId} {args:List AV} {Q:AV→St→Prop}
theorem ACall.vcO {fn : Func} {c : Code} (o : Opts) (hm : P.follows .mixedOrders = true) (hf : P.funcs[f]? = some fn) (hb : fn.body = some c) (hk : (codeOk fn.ntmps o c && decide (args.length ≤ fn.ntmps) && fn.name != "runtime.NumGoroutine") = true)
 (h:vcC P G o c (envOf args) σ (acPost P fn.results.toList Q)):ACall P G f args σ Q:=by
 simp only [Bool.and_eq_true,decide_eq_true_eq,bne_iff_ne,ne_eq] at hk
 refine ACall.of_body hf hb hk.2 hk.1.2 (AWp.mono (vcC_sound hm c hk.1.1 h) fun e env σ hq=>?_)
 have key:acEnd P fn.results.toList Q env σ→∃ l,resA (Dof P) fn.results.toList env σ=some l∧Q (tupA l) σ:=fun h=>by
  unfold acEnd at h
  split at h
  · rename_i l hl
    exact⟨l,hl,h⟩
  · exact h.elim
 cases e with
 | ret=>exact⟨.inl rfl,key hq⟩
 | normal=>exact⟨.inr rfl,key hq⟩
 | _=>exact hq.elim
theorem ACall.vc {fn : Func} {c : Code} (hm : P.follows .mixedOrders = true) (hf : P.funcs[f]? = some fn) (hb : fn.body = some c) (hk : (codeOk fn.ntmps o0 c && decide (args.length ≤ fn.ntmps) && fn.name != "runtime.NumGoroutine") = true)
 (h:vcC P G o0 c (envOf args) σ (acPost P fn.results.toList Q)):ACall P G f args σ Q:=ACall.vcO o0 hm hf hb hk h
theorem vcCall.acall (h:ACall P G f args σ Q):vcCall P G false f args σ Q:=h
end
end Go.Abs
namespace Go.Proofs.YtkodonalmdmgpaaGreatDoor
open Go Go.Abs
/-! ### A machine that walks nodes -/
def runW {S:Type} (stp:S→Ex→S×Bool):S→List Ex→S×Bool
 | s,[]=>(s,true)
 | s,e::r=>if (stp s e).2=true then runW stp (stp s e).1 r else ((stp s e).1,false)
theorem runW_append {S:Type} {stp:S→Ex→S×Bool}:∀ {s:S} {l m:List Ex},runW stp s (l++m)=if (runW stp s l).2=true then runW stp (runW stp s l).1 m else runW stp s l
 | s,[],m=>by simp [runW]
 | s,e::r,m=>by
  simp only [List.cons_append,runW]
  split
  · exact runW_append
  · simp
theorem runW_true {S:Type} {stp:S→Ex→S×Bool} (h:∀ s e,(stp s e).2=true):∀ (s:S) (l:List Ex),runW stp s l=(l.foldl (fun s e=>(stp s e).1) s,true)
 | s,[]=>rfl
 | s,e::r=>by simp only [runW,h,if_true,List.foldl_cons];exact runW_true h _ r
theorem runW_first {f:Ex→Int}:∀ (s:Int) (l:List Ex),(runW (fun _ e=>(f e,f e==0)) s l).1=if l=[] then s else firstE f l
 | s,[]=>rfl
 | s,e::r=>by
  simp only [runW,firstE,beq_iff_eq,reduceCtorEq,if_false]
  by_cases h:f e=0
  · rw [if_pos h,if_pos h,runW_first]
    split
    · rename_i hr;subst hr;simp [firstE,h]
    · rfl
  · rw [if_neg h,if_neg h]
theorem wrap_add {m n:Int}:IntKind.i64.wrap (IntKind.i64.wrap m+n)=IntKind.i64.wrap (m+n):=by
 simp [IntKind.wrap,IntKind.bits,IntKind.signed]
 omega
theorem fold_count {n:Int}:∀ (l:List Ex),l.foldl (fun s _=>IntKind.i64.wrap (s+1)) (IntKind.i64.wrap n)=IntKind.i64.wrap (n+l.length)
 | []=>by simp
 | e::r=>by
  rw [List.foldl_cons,wrap_add,fold_count r]
  congr 1
  simp;omega
/-! ### Groups -/
theorem groups_empty {l:List Var} {g:List (List Int)} (h : []∈g):¬ GroupsOk l g:=fun ⟨h1,_⟩=>h1 _ h rfl
theorem groups_bad {l:List Var} {g:List (List Int)} {i:Int} (h:i∈g.flatten) (hr:rndS l i=false):¬ GroupsOk l g:=fun ⟨_,h2,_⟩=>by
 have:=h2 i h
 rw [hr] at this;cases this
theorem groups_dup {l:List Var} {g:List (List Int)} {i:Int} {done rest:List Int} (h:g.flatten=done++i::rest) (hi:i∈done):¬ GroupsOk l g:=fun ⟨_,_,h3,_⟩=>by
 rw [h,List.nodup_append] at h3
 exact h3.2.2 i hi i (by simp) rfl
theorem groups_left {l:List Var} {g:List (List Int)} {i:Nat} (hi:i<l.length) (hr:rndS l i=true) (h:(i:Int)∉g.flatten):¬ GroupsOk l g:=fun ⟨_,_,_,h4⟩=>h (h4 i hi hr)
theorem rndS_range {l:List Var} {i:Int} (h:rndS l i=true):0≤i∧i<l.length:=by
 simp only [rndS,Bool.and_eq_true,decide_eq_true_eq] at h
 obtain⟨h0,h1⟩:=h
 refine⟨h0,?_⟩
 apply Classical.byContradiction
 intro hn
 rw [List.getElem?_eq_none (by omega)] at h1
 simp at h1
/-- The counts tell whether groups are right. -/
theorem groups_count {l:List Var} {g:List (List Int)} (h1:∀ x∈g,x≠[]) (h2:∀ i∈g.flatten,0≤i∧i<(l.length:Int)) :
 GroupsOk l g↔∀ i:Nat,i<l.length→g.flatten.count (i:Int)=if rndS l i=true then 1 else 0:=by
 constructor
 · rintro⟨_,k2,k3,k4⟩ i hi
   split
   · rename_i hr
     have:=List.nodup_iff_count.1 k3 (i:Int)
     have:=List.count_pos_iff.2 (k4 i hi hr)
     omega
   · rename_i hr
     apply List.count_eq_zero.2
     intro hm
     exact hr (k2 _ hm)
 · intro h
   have cnt:∀ i∈g.flatten,g.flatten.count i=1∧rndS l i=true:=by
    intro i hi
    obtain⟨a,b⟩:=h2 i hi
    have hc:=h i.toNat (by omega)
    have e:((i.toNat:Nat):Int)=i:=by omega
    rw [e] at hc
    have:=List.count_pos_iff.2 hi
    split at hc
    · rename_i hr;exact⟨hc,hr⟩
    · omega
   refine⟨h1,fun i hi=>(cnt i hi).2,?_,?_⟩
   · rw [List.nodup_iff_count]
     intro i
     by_cases hi:i∈g.flatten
     · rw [(cnt i hi).1];exact Nat.le_refl _
     · rw [List.count_eq_zero.2 hi];omega
   · intro i hi hr
     have hc:=h i hi
     rw [if_pos hr] at hc
     exact List.count_pos_iff.1 (by omega)
end Go.Proofs.YtkodonalmdmgpaaGreatDoor
namespace Go.Proofs.YtkodonalmdmgpaaGreatDoor
open Go Go.Abs
/-! ### Bounds -/
mutual
def nodesS:Ex→Int→Int
 | .mk _ _ _ a,d=>nodesL a d 1
def nodesL:List Ex→Int→Int→Int
 | [],_,n=>n
 | x::r,d,n=>if n<100∧d<30 then nodesL r d (IntKind.i64.wrap (n+nodesS x (IntKind.i64.wrap (d+1)))) else n
end
theorem nodesS_eq (e:Ex) (d:Int):nodesS e d=nodesL e.args d 1:=by cases e;simp [nodesS]
@[simp] theorem nodesL_nil {d n:Int}:nodesL [] d n=n:=by simp [nodesL]
@[simp] theorem nodesL_cons {x:Ex} {r:List Ex} {d n:Int}:nodesL (x::r) d n=if n<100∧d<30 then nodesL r d (IntKind.i64.wrap (n+nodesS x (IntKind.i64.wrap (d+1)))) else n:=by simp [nodesL]
mutual
def briefS:Ex→Nat→Bool
 | .mk o n s a,d=>if 25<d∨(d=0∧60<nodesS (.mk o n s a) 0) then false else briefL a (d+1)
def briefL:List Ex→Nat→Bool
 | [],_=>true
 | x::r,d=>briefS x d&&briefL r d
end
theorem briefS_eq (e:Ex) (d:Nat):briefS e d=if 25<d∨(d=0∧60<nodesS e 0) then false else briefL e.args (d+1):=by cases e;simp [briefS]
@[simp] theorem briefL_nil {d:Nat}:briefL [] d=true:=by simp [briefL]
@[simp] theorem briefL_cons {x:Ex} {r:List Ex} {d:Nat}:briefL (x::r) d=(briefS x d&&briefL r d):=by simp [briefL]
theorem briefL_all {l:List Ex} {d:Nat}:briefL l d=l.all fun x=>briefS x d:=by
 induction l with
 | nil=>simp
 | cons x r ih=>simp [ih]
theorem brief_hgt:∀ (e:Ex) (d:Nat),briefS e d=true→hgt e+d≤26:=by
 refine Ex.ind fun e ih d h=>?_
 rw [briefS_eq] at h
 split at h
 · cases h
 · rename_i hd
   rw [hgt_eq]
   have:∀ (l:List Ex),(∀ x∈l,briefS x (d+1)=true)→(∀ x∈l,x∈e.args)→hgtL l+(d+1)≤26:=by
    intro l
    induction l with
    | nil=>intro _ _;simp;omega
    | cons x r ihl=>
     intro h1 h2
     have a1:=ih x (h2 x (by simp)) (d+1) (h1 x (by simp))
     have a2:=ihl (fun y hy=>h1 y (by simp [hy])) (fun y hy=>h2 y (by simp [hy]))
     simp;omega
   rw [briefL_all,List.all_eq_true] at h
   have:=this e.args h (fun _ h=>h)
   omega
def smallS (p:Problem):Bool :=
 !(decide (20<p.vars.length)||decide (20<p.hard.length)||decide (20<p.soft.length)||decide (20<p.dists.length)||decide (20<p.groups.length)) &&
 p.hard.all (briefS · 0)&&p.soft.all (briefS · 0)&&p.dists.all (fun d=>decide (d.weights.length≤20))&&p.groups.all (fun g=>decide (g.length≤20))
/-- What memory can hold. -/
structure Held (p:Problem):Prop where
 vars:Fits p.vars
 hard:Fits p.hard
 soft:Fits p.soft
 dists:Fits p.dists
 groups:Fits p.groups
 weights:∀ d∈p.dists,Fits d.weights
 group:∀ g∈p.groups,Fits g
 hards:∀ e∈p.hard,Wee e
 softs:∀ e∈p.soft,Wee e
/-- What is small, besides. -/
structure Sm (p:Problem):Prop extends Held p where
 vars20:p.vars.length≤20
 hard20:p.hard.length≤20
 soft20:p.soft.length≤20
 dists20:p.dists.length≤20
 groups20:p.groups.length≤20
 hgts:∀ e∈p.hard++p.soft,hgt e≤26
 gr20:∀ g∈p.groups,g.length≤20
theorem Sm.of {p:Problem} (h:Held p) (hs:smallS p=true):Sm p:=by
 simp only [smallS,Bool.and_eq_true,Bool.not_eq_true',Bool.or_eq_false_iff,decide_eq_false_iff_not,List.all_eq_true,decide_eq_true_eq] at hs
 obtain⟨⟨⟨⟨⟨⟨⟨⟨a1,a2⟩,a3⟩,a4⟩,a5⟩,b1⟩,b2⟩,b3⟩,b4⟩:=hs
 have k1:∀ e∈p.hard++p.soft,hgt e≤26:=by
  intro e he
  rcases List.mem_append.1 he with he|he
  · have:=brief_hgt e 0 (b1 e he);omega
  · have:=brief_hgt e 0 (b2 e he);omega
 exact⟨h,by omega,by omega,by omega,by omega,by omega,k1,b4⟩
end Go.Proofs.YtkodonalmdmgpaaGreatDoor
end
section
namespace Go.Proofs.YtkodonalmdmgpaaGreatDoor
open Go Go.Abs
def GG (g:Nat):AV:=match g with
 | 0=>.rptr [.sl 1 (keyw.map encStr) .none]
 | _=>.any
section
section
variable (G:Nat→AV)
theorem has325 (l:List Str) (s:Str) (hl:Fits l):Pure Tryz.prog G 93 [.sl 1 (l.map encStr) .none,.str s] (.bool (l.any (· == s))):=by
 refine Pure.vc mixed Tryz.func93 rfl (by kernel_rfl) ?_
 simp
 refine vcLoop.intro (fun n env σ=>∃ i,i≤l.length∧n=l.length-i∧env 0=.sl 1 (l.map encStr) .none∧env 1=.str s∧env 5=.int .i64 i∧σ=⟨[],[]⟩∧l.any (· == s)=(l.drop i).any (· == s)) l.length ⟨0,by simp⟩ ?_
 rintro n env σ ⟨i,hi,rfl,h0,h1,h5,rfl,hf⟩
 cases hv:l[i]? with
 | some v=>
  obtain⟨hc,hv'⟩:=List.getElem?_eq_some_iff.1 hv
  rw [drop_cons hv] at hf
  by_cases he:v=s
  · subst he
    simp [h0,h1,h5,hc,hv',hf]
  · have he':(v==s)=false:=by simpa using he
    simp [h0,h1,h5,hc,hv',he]
    refine⟨_,by omega,i+1,by omega,rfl,wr (by omega) (by omega),?_⟩
    rw [hf,List.any_cons,he',Bool.false_or]
 | none=>
  have hc:¬ i<l.length:=by simp at hv;omega
  have hd:l.drop i=[]:=by simp;omega
  have hz:∀ x∈l,¬ x=s:=by
   intro x hx e
   have:l.any (· == s)=true:=List.any_eq_true.2 ⟨x,hx,by simp [e]⟩
   rw [hf,hd] at this
   cases this
  simp [h0,h1,h5,hc]
  exact hz
theorem has292 (l:List Str) (s:Str) (hl:Fits l):Pure Tryz.prog G 302 [.sl 1 (l.map encStr) .none,.str s] (.bool (l.any (· == s))):=by
 refine Pure.vc mixed Tryz.func302 rfl (by kernel_rfl) ?_
 simp
 refine vcLoop.intro (fun n env σ=>∃ i,i≤l.length∧n=l.length-i∧env 0=.sl 1 (l.map encStr) .none∧env 1=.str s∧env 5=.int .i64 i∧σ=⟨[],[]⟩∧l.any (· == s)=(l.drop i).any (· == s)) l.length ⟨0,by simp⟩ ?_
 rintro n env σ ⟨i,hi,rfl,h0,h1,h5,rfl,hf⟩
 cases hv:l[i]? with
 | some v=>
  obtain⟨hc,hv'⟩:=List.getElem?_eq_some_iff.1 hv
  rw [drop_cons hv] at hf
  by_cases he:v=s
  · subst he
    simp [h0,h1,h5,hc,hv',hf]
  · have he':(v==s)=false:=by simpa using he
    simp [h0,h1,h5,hc,hv',he]
    refine⟨_,by omega,i+1,by omega,rfl,wr (by omega) (by omega),?_⟩
    rw [hf,List.any_cons,he',Bool.false_or]
 | none=>
  have hc:¬ i<l.length:=by simp at hv;omega
  have hd:l.drop i=[]:=by simp;omega
  have hz:∀ x∈l,¬ x=s:=by
   intro x hx e
   have:l.any (· == s)=true:=List.any_eq_true.2 ⟨x,hx,by simp [e]⟩
   rw [hf,hd] at this
   cases this
  simp [h0,h1,h5,hc]
  exact hz
theorem index176 (l:List Str) (s:Str) (hl:Fits l):Pure Tryz.prog G 133 [.sl 1 (l.map encStr) .none,.str s] (.int .i64 (findI (fun v=>s==v) l 0)):=by
 refine Pure.vc mixed Tryz.func133 rfl (by kernel_rfl) ?_
 simp
 refine vcLoop.intro (fun n env σ=>∃ i,i≤l.length∧n=l.length-i∧env 0=.sl 1 (l.map encStr) .none∧env 1=.str s∧env 7=.int .i64 l.length∧env 8=.int .i64 i∧σ=⟨[],[]⟩∧findI (fun v=>s==v) l 0=findI (fun v=>s==v) (l.drop i) i) l.length ⟨0,by simp⟩ ?_
 rintro n env σ ⟨i,hi,rfl,h0,h1,h7,h8,rfl,hf⟩
 cases hv:l[i]? with
 | some v=>
  obtain⟨hc,hv'⟩:=List.getElem?_eq_some_iff.1 hv
  rw [drop_cons hv] at hf
  by_cases he:s=v
  · subst he
    simp [h0,h1,h7,h8,hc,hv',hf,findI]
  · have he':(s==v)=false:=by simpa using he
    simp [h0,h1,h7,h8,hc,hv',he]
    refine⟨_,by omega,i+1,by omega,rfl,wr (by omega) (by omega),?_⟩
    rw [hf,findI,he']
    simp
 | none=>
  have hc:¬ i<l.length:=by simp at hv;omega
  have hd:l.drop i=[]:=by simp;omega
  simp [h0,h1,h7,h8,hc,hf,hd,findI]
theorem contains101 (l:List Str) (s:Str) (hl:Fits l):Pure Tryz.prog G 85 [.sl 1 (l.map encStr) .none,.str s] (.bool (l.any (fun v=>s==v))):=by
 refine Pure.vc mixed Tryz.func85 rfl (by kernel_rfl) ?_
 simp
 refine vcCall.call (index176 G l s hl) (by simp) ?_
 simp
theorem index318 (l:List Int) (s:Int) (hl:Fits l):Pure Tryz.prog G 177 [.sl 1 (l.map encInt) .none,.int .i64 s] (.int .i64 (findI (fun v=>s==v) l 0)):=by
 refine Pure.vc mixed Tryz.func177 rfl (by kernel_rfl) ?_
 simp
 refine vcLoop.intro (fun n env σ=>∃ i,i≤l.length∧n=l.length-i∧env 0=.sl 1 (l.map encInt) .none∧env 1=.int .i64 s∧env 7=.int .i64 l.length∧env 8=.int .i64 i∧σ=⟨[],[]⟩∧findI (fun v=>s==v) l 0=findI (fun v=>s==v) (l.drop i) i) l.length ⟨0,by simp⟩ ?_
 rintro n env σ ⟨i,hi,rfl,h0,h1,h7,h8,rfl,hf⟩
 cases hv:l[i]? with
 | some v=>
  obtain⟨hc,hv'⟩:=List.getElem?_eq_some_iff.1 hv
  rw [drop_cons hv] at hf
  by_cases he:s=v
  · subst he
    simp [h0,h1,h7,h8,hc,hv',hf,findI]
  · have he':(s==v)=false:=by simpa using he
    simp [h0,h1,h7,h8,hc,hv',he]
    refine⟨_,by omega,i+1,by omega,rfl,wr (by omega) (by omega),?_⟩
    rw [hf,findI,he']
    simp
 | none=>
  have hc:¬ i<l.length:=by simp at hv;omega
  have hd:l.drop i=[]:=by simp;omega
  simp [h0,h1,h7,h8,hc,hf,hd,findI]
theorem contains264 (l:List Int) (s:Int) (hl:Fits l):Pure Tryz.prog G 122 [.sl 1 (l.map encInt) .none,.int .i64 s] (.bool (l.any (fun v=>s==v))):=by
 refine Pure.vc mixed Tryz.func122 rfl (by kernel_rfl) ?_
 simp
 refine vcCall.call (index318 G l s hl) (by simp) ?_
 simp
end
end
theorem indexFuncVar (G:Nat→AV) (l:List Var) (p:Var→Bool) (f:FuncId) (first cap:List AV) (hl:Fits l) (h1:noRefs first=true) (h2:noRefs cap=true)
 (hp:∀ v∈l,Pure Tryz.prog G f (first++[.agg (encVar v)]++cap) (.bool (p v))):Pure Tryz.prog G 214 [.sl 4 (l.map encVar) .none,.fn f first cap] (.int .i64 (findI p l 0)):=by
 refine Pure.vc mixed Tryz.func214 rfl (by kernel_rfl) ?_
 simp
 refine vcLoop.intro (fun n env σ=>∃ i,i≤l.length∧n=l.length-i∧env 0=.sl 4 (l.map encVar) .none∧env 1=.fn f first cap∧env 7=.int .i64 l.length∧env 8=.int .i64 i∧σ=⟨[],[]⟩∧findI p l 0=findI p (l.drop i) i) l.length ⟨0,by simp⟩ ?_
 rintro n env σ ⟨i,hi,rfl,h0,h1',h7,h8,rfl,hf⟩
 cases hv:l[i]? with
 | some v=>
  obtain⟨hc,hv'⟩:=List.getElem?_eq_some_iff.1 hv
  rw [drop_cons hv] at hf
  simp [h0,h1',h7,h8,hc,hv',hf]
  refine vcCall.call (r:=.bool (p v)) (by simpa using hp v (List.mem_of_getElem? hv)) (by simp [noRefs_append,h1,h2]) ?_
  simp [h0,h1',h7,h8,findI]
  refine⟨fun e=>by simp [e],fun e=>⟨_,by omega,i+1,by omega,rfl,wr (by omega) (by omega),by simp [hf,findI,e]⟩⟩
 | none=>
  have hc:¬ i<l.length:=by simp at hv;omega
  have hd:l.drop i=[]:=by simp;omega
  simp [h0,h1',h7,h8,hc,hf,hd,findI]
theorem containsFuncVar (G:Nat→AV) (l:List Var) (p:Var→Bool) (f:FuncId) (first cap:List AV) (hl:Fits l) (h1:noRefs first=true) (h2:noRefs cap=true)
 (hp:∀ v∈l,Pure Tryz.prog G f (first++[.agg (encVar v)]++cap) (.bool (p v))):Pure Tryz.prog G 167 [.sl 4 (l.map encVar) .none,.fn f first cap] (.bool (l.any p)):=by
 refine Pure.vc mixed Tryz.func167 rfl (by kernel_rfl) ?_
 simp
 refine vcCall.call (indexFuncVar G l p f first cap hl h1 h2 hp) (by simp [h1,h2]) ?_
 simp
theorem indexFuncDist (G:Nat→AV) (l:List Dist) (p:Dist→Bool) (f:FuncId) (first cap:List AV) (hl:Fits l) (h1:noRefs first=true) (h2:noRefs cap=true)
 (hp:∀ v∈l,Pure Tryz.prog G f (first++[.agg (encDist v)]++cap) (.bool (p v))):Pure Tryz.prog G 217 [.sl 2 (l.map encDist) .none,.fn f first cap] (.int .i64 (findI p l 0)):=by
 refine Pure.vc mixed Tryz.func217 rfl (by kernel_rfl) ?_
 simp
 refine vcLoop.intro (fun n env σ=>∃ i,i≤l.length∧n=l.length-i∧env 0=.sl 2 (l.map encDist) .none∧env 1=.fn f first cap∧env 7=.int .i64 l.length∧env 8=.int .i64 i∧σ=⟨[],[]⟩∧findI p l 0=findI p (l.drop i) i) l.length ⟨0,by simp⟩ ?_
 rintro n env σ ⟨i,hi,rfl,h0,h1',h7,h8,rfl,hf⟩
 cases hv:l[i]? with
 | some v=>
  obtain⟨hc,hv'⟩:=List.getElem?_eq_some_iff.1 hv
  rw [drop_cons hv] at hf
  simp [h0,h1',h7,h8,hc,hv',hf]
  refine vcCall.call (r:=.bool (p v)) (by simpa using hp v (List.mem_of_getElem? hv)) (by simp [noRefs_append,h1,h2]) ?_
  simp [h0,h1',h7,h8,findI]
  refine⟨fun e=>by simp [e],fun e=>⟨_,by omega,i+1,by omega,rfl,wr (by omega) (by omega),by simp [hf,findI,e]⟩⟩
 | none=>
  have hc:¬ i<l.length:=by simp at hv;omega
  have hd:l.drop i=[]:=by simp;omega
  simp [h0,h1',h7,h8,hc,hf,hd,findI]
theorem containsFuncDist (G:Nat→AV) (l:List Dist) (p:Dist→Bool) (f:FuncId) (first cap:List AV) (hl:Fits l) (h1:noRefs first=true) (h2:noRefs cap=true)
 (hp:∀ v∈l,Pure Tryz.prog G f (first++[.agg (encDist v)]++cap) (.bool (p v))):Pure Tryz.prog G 158 [.sl 2 (l.map encDist) .none,.fn f first cap] (.bool (l.any p)):=by
 refine Pure.vc mixed Tryz.func158 rfl (by kernel_rfl) ?_
 simp
 refine vcCall.call (indexFuncDist G l p f first cap hl h1 h2 hp) (by simp [h1,h2]) ?_
 simp
theorem indexFuncStr (G:Nat→AV) (l:List Str) (p:Str→Bool) (f:FuncId) (first cap:List AV) (hl:Fits l) (h1:noRefs first=true) (h2:noRefs cap=true)
 (hp:∀ v∈l,Pure Tryz.prog G f (first++[.str v]++cap) (.bool (p v))):Pure Tryz.prog G 225 [.sl 1 (l.map encStr) .none,.fn f first cap] (.int .i64 (findI p l 0)):=by
 refine Pure.vc mixed Tryz.func225 rfl (by kernel_rfl) ?_
 simp
 refine vcLoop.intro (fun n env σ=>∃ i,i≤l.length∧n=l.length-i∧env 0=.sl 1 (l.map encStr) .none∧env 1=.fn f first cap∧env 7=.int .i64 l.length∧env 8=.int .i64 i∧σ=⟨[],[]⟩∧findI p l 0=findI p (l.drop i) i) l.length ⟨0,by simp⟩ ?_
 rintro n env σ ⟨i,hi,rfl,h0,h1',h7,h8,rfl,hf⟩
 cases hv:l[i]? with
 | some v=>
  obtain⟨hc,hv'⟩:=List.getElem?_eq_some_iff.1 hv
  rw [drop_cons hv] at hf
  simp [h0,h1',h7,h8,hc,hv',hf]
  refine vcCall.call (r:=.bool (p v)) (by simpa using hp v (List.mem_of_getElem? hv)) (by simp [noRefs_append,h1,h2]) ?_
  simp [h0,h1',h7,h8,findI]
  refine⟨fun e=>by simp [e],fun e=>⟨_,by omega,i+1,by omega,rfl,wr (by omega) (by omega),by simp [hf,findI,e]⟩⟩
 | none=>
  have hc:¬ i<l.length:=by simp at hv;omega
  have hd:l.drop i=[]:=by simp;omega
  simp [h0,h1',h7,h8,hc,hf,hd,findI]
theorem containsFuncStr (G:Nat→AV) (l:List Str) (p:Str→Bool) (f:FuncId) (first cap:List AV) (hl:Fits l) (h1:noRefs first=true) (h2:noRefs cap=true)
 (hp:∀ v∈l,Pure Tryz.prog G f (first++[.str v]++cap) (.bool (p v))):Pure Tryz.prog G 172 [.sl 1 (l.map encStr) .none,.fn f first cap] (.bool (l.any p)):=by
 refine Pure.vc mixed Tryz.func172 rfl (by kernel_rfl) ?_
 simp
 refine vcCall.call (indexFuncStr G l p f first cap hl h1 h2 hp) (by simp [h1,h2]) ?_
 simp
theorem indexFuncWeight (G:Nat→AV) (l:List Weight) (p:Weight→Bool) (f:FuncId) (first cap:List AV) (hl:Fits l) (h1:noRefs first=true) (h2:noRefs cap=true)
 (hp:∀ v∈l,Pure Tryz.prog G f (first++[.agg (encWeight v)]++cap) (.bool (p v))):Pure Tryz.prog G 274 [.sl 4 (l.map encWeight) .none,.fn f first cap] (.int .i64 (findI p l 0)):=by
 refine Pure.vc mixed Tryz.func274 rfl (by kernel_rfl) ?_
 simp
 refine vcLoop.intro (fun n env σ=>∃ i,i≤l.length∧n=l.length-i∧env 0=.sl 4 (l.map encWeight) .none∧env 1=.fn f first cap∧env 7=.int .i64 l.length∧env 8=.int .i64 i∧σ=⟨[],[]⟩∧findI p l 0=findI p (l.drop i) i) l.length ⟨0,by simp⟩ ?_
 rintro n env σ ⟨i,hi,rfl,h0,h1',h7,h8,rfl,hf⟩
 cases hv:l[i]? with
 | some v=>
  obtain⟨hc,hv'⟩:=List.getElem?_eq_some_iff.1 hv
  rw [drop_cons hv] at hf
  simp [h0,h1',h7,h8,hc,hv',hf]
  refine vcCall.call (r:=.bool (p v)) (by simpa using hp v (List.mem_of_getElem? hv)) (by simp [noRefs_append,h1,h2]) ?_
  simp [h0,h1',h7,h8,findI]
  refine⟨fun e=>by simp [e],fun e=>⟨_,by omega,i+1,by omega,rfl,wr (by omega) (by omega),by simp [hf,findI,e]⟩⟩
 | none=>
  have hc:¬ i<l.length:=by simp at hv;omega
  have hd:l.drop i=[]:=by simp;omega
  simp [h0,h1',h7,h8,hc,hf,hd,findI]
theorem containsFuncWeight (G:Nat→AV) (l:List Weight) (p:Weight→Bool) (f:FuncId) (first cap:List AV) (hl:Fits l) (h1:noRefs first=true) (h2:noRefs cap=true)
 (hp:∀ v∈l,Pure Tryz.prog G f (first++[.agg (encWeight v)]++cap) (.bool (p v))):Pure Tryz.prog G 226 [.sl 4 (l.map encWeight) .none,.fn f first cap] (.bool (l.any p)):=by
 refine Pure.vc mixed Tryz.func226 rfl (by kernel_rfl) ?_
 simp
 refine vcCall.call (indexFuncWeight G l p f first cap hl h1 h2 hp) (by simp [h1,h2]) ?_
 simp
section
section
variable (G:Nat→AV)
theorem lower305 (n:Int):Pure Tryz.prog G 83 [.int .i32 n] (.bool (lowerI n)):=by
 refine Pure.vc mixed Tryz.func83 rfl (by kernel_rfl) ?_
 by_cases h1:97≤n<;>by_cases h2:n≤122<;>simp [lowerI,h1,h2]
theorem digit357 (n:Int):Pure Tryz.prog G 132 [.int .i32 n] (.bool (digitI n)):=by
 refine Pure.vc mixed Tryz.func132 rfl (by kernel_rfl) ?_
 by_cases h1:48≤n<;>by_cases h2:n≤57<;>simp [digitI,h1,h2]
theorem small275 (n:Int):Pure Tryz.prog G 57 [.int .u8 n] (.bool (lowerI n)):=by
 refine Pure.vc mixed Tryz.func57 rfl (by kernel_rfl) ?_
 by_cases h1:97≤n<;>by_cases h2:n≤122<;>simp [lowerI,h1,h2]
theorem digit327 (n:Int):Pure Tryz.prog G 95 [.int .u8 n] (.bool (digitI n)):=by
 refine Pure.vc mixed Tryz.func95 rfl (by kernel_rfl) ?_
 by_cases h1:48≤n<;>by_cases h2:n≤57<;>simp [digitI,h1,h2]
theorem follows306 (n:Int):Pure Tryz.prog G 84 [.int .i32 n] (.bool (innerI n)):=by
 refine Pure.vc mixed Tryz.func84 rfl (by kernel_rfl) ?_
 simp
 refine vcCall.call (lower305 G n) rfl ?_
 cases hl:lowerI n
 · simp
   refine vcCall.call (digit357 G n) rfl ?_
   cases hd:digitI n
   · by_cases h1:65≤n<;>by_cases h2:n≤90<;>by_cases h3:n=95<;>simp [innerI,hl,hd,h1,h2,h3]
   · simp [innerI,hl,hd]
 · simp [innerI,hl]
theorem inner277 (n:Int):Pure Tryz.prog G 59 [.int .u8 n] (.bool (innerI n)):=by
 refine Pure.vc mixed Tryz.func59 rfl (by kernel_rfl) ?_
 simp
 refine vcCall.call (small275 G n) rfl ?_
 cases hl:lowerI n
 · simp
   refine vcCall.call (digit327 G n) rfl ?_
   cases hd:digitI n
   · by_cases h1:65≤n<;>by_cases h2:n≤90<;>by_cases h3:n=95<;>simp [innerI,hl,hd,h1,h2,h3]
   · simp [innerI,hl,hd]
 · simp [innerI,hl]
end
end
section
section
variable (G:Nat→AV)
theorem dec_lo {s:Str} {pos:Nat} (h:pos<s.length) (hl:(s[pos]).toNat<128):Utf8.decode ⟨s.toArray⟩ pos=((s[pos]).toNat,1):=by
 have:=Go.decode_ascii ⟨s.toArray⟩ pos (by simpa [ByteArray.size] using h) hl
 exact this
theorem dec_hi {s:Str} {pos:Nat} (h:pos<s.length) (hl:128≤(s[pos]).toNat):128≤(Utf8.decode ⟨s.toArray⟩ pos).1:=by
 have:=Go.decode_high ⟨s.toArray⟩ pos (by simpa [ByteArray.size] using h) hl
 exact this.1
theorem innerI_hi {n:Int} (h:128≤n):innerI n=false:=by
 simp [innerI,lowerI,digitI];omega
theorem wordS_bad {s:Str} {c:UInt8} (h:c∈s) (hc:innerB c=false):wordS s=false:=by
 cases s with
 | nil=>cases h
 | cons a r=>
  have:(a::r).all innerB=false:=by
   rw [Bool.eq_false_iff]
   intro e
   rw [List.all_eq_true.1 e c h] at hc;cases hc
  simp only [wordS,this,Bool.and_false]
theorem wordS_head {c:UInt8} {r:Str} (h:lowerI c.toNat=false):wordS (c::r)=false:=by simp [wordS,h]
theorem word240 (s:Str):Pure Tryz.prog G 52 [.str s] (.bool (wordS s)):=by
 refine Pure.vc mixed Tryz.func52 rfl (by kernel_rfl) ?_
 simp
 refine vcLoop.intro (fun n env σ=>∃ pos,pos≤s.length∧n=s.length-pos∧env 0=.str s∧env 6=.iter 0∧σ=⟨[.siter s pos],[]⟩∧(∀ c∈s.take pos,innerB c=true)∧(0<pos→∀ c r,s=c::r→lowerI c.toNat=true)) s.length ⟨0,by simp⟩ ?_
 rintro n env σ ⟨pos,hp,rfl,h0,h6,rfl,hall,hlow⟩
 by_cases hlt:pos<s.length
 · have hmem:s[pos]∈s:=List.getElem_mem hlt
   by_cases hc:(s[pos]).toNat<128
   · have hd:=dec_lo hlt hc
     have htake:s.take (pos+1)=s.take pos++[s[pos]]:=by rw [List.take_add_one,List.getElem?_eq_getElem hlt];rfl
     have more:innerB s[pos]=true→∀ c∈s.take (pos+1),innerB c=true:=by
      intro hi c hcm
      rw [htake,List.mem_append] at hcm
      rcases hcm with hcm|hcm
      · exact hall c hcm
      · rw [List.mem_singleton.1 hcm];exact hi
     rcases Nat.eq_zero_or_pos pos with rfl|hpos
     · simp [h0,h6,nextA,hlt,hd]
       refine vcCall.call (lower305 G _) rfl ?_
       cases hl:lowerI (s[0].toNat:Int)
       · cases s with
         | nil=>simp at hlt
         | cons c r=>simpa using wordS_head hl
       · simp
         refine vcCall.call (follows306 G _) rfl ?_
         cases hi:innerI (s[0].toNat:Int)
         · simpa using wordS_bad hmem hi
         · simp [h0,h6]
           refine⟨_,by omega,1,by omega,rfl,rfl,more hi,fun _ c r e=>by subst e;exact hl⟩
     · have hne:¬ pos=0:=by omega
       simp [h0,h6,nextA,hlt,hd,hne]
       refine vcCall.call (follows306 G _) rfl ?_
       cases hi:innerI (s[pos].toNat:Int)
       · simpa using wordS_bad hmem hi
       · simp [h0,h6]
         refine⟨_,by omega,pos+1,by omega,rfl,rfl,more hi,fun _=>hlow hpos⟩
   · have hd:=dec_hi hlt (by omega)
     have hi:=innerI_hi (n:=((Utf8.decode ⟨s.toArray⟩ pos).1:Int)) (by omega)
     have hl:lowerI ((Utf8.decode ⟨s.toArray⟩ pos).1:Int)=false:=by
      simp only [innerI,Bool.or_eq_false_iff] at hi;exact hi.1.1.1
     have hb:=wordS_bad hmem (innerI_hi (n:=(s[pos].toNat:Int)) (by omega))
     rcases Nat.eq_zero_or_pos pos with rfl|hpos
     · simp [h0,h6,nextA,hlt]
       refine vcCall.call (lower305 G _) rfl ?_
       simpa [hl] using hb
     · have hne:¬ pos=0:=by omega
       simp [h0,h6,nextA,hlt,hne]
       refine vcCall.call (follows306 G _) rfl ?_
       simpa [hi] using hb
 · have he:pos=s.length:=by omega
   subst he
   cases s with
   | nil=>simp [h0,h6,nextA,wordS]
   | cons c r=>
    have h1:wordS (c::r)=true:=by
     simp only [wordS,Bool.and_eq_true]
     exact⟨hlow (by simp) c r rfl,List.all_eq_true.2 fun x hx=>hall x (by simpa using hx)⟩
    simp [h0,h6,nextA,h1]
end
end
end Go.Proofs.YtkodonalmdmgpaaGreatDoor
end
section
namespace Go.Proofs.YtkodonalmdmgpaaGreatDoor
open Go Go.Abs Go.RowKit
theorem calls368 (s:ByteArray) (c:Int) (w:World) :
 Calls Tryz.prog 357 #[.string s,.int .u8 c] w fun e w'=>e=.returned (.int .i64 (Lib.indexByte s.data.toList c.toNat.toUInt8))∧w'=w:=by
 have t3:=Tryz.underlying3;have t5:=Tryz.underlying5;have t9:=Tryz.underlying9
 have a3:∀ w,(isAgg 3).run Tryz.prog w=.ok false w:=run_isAgg_plain t3 rfl;have a5:∀ w,(isAgg 5).run Tryz.prog w=.ok false w:=run_isAgg_plain t5 rfl;have a9:∀ w,(isAgg 9).run Tryz.prog w=.ok false w:=run_isAgg_plain t9 rfl
 go_enter Tryz.func357,Tryz.ntmps357
 go_wp2
 rw [run_callFunc_extern Tryz.func392 (by kernel_rfl) (by kernel_rfl) (by kernel_rfl) (e:=Extern.BytealgIndexByte.indexByte) (by kernel_rfl),Lib.run_indexByteString]
 simp only [Result.andThen]
 rw [Oper.upon_value]
 go_wp2
 go_ret
 exact⟨rfl,rfl⟩
theorem indexByte368 (G:Nat→AV) (s:Str) (c:Int):Pure Tryz.prog G 357 [.str s,.int .u8 c] (.int .i64 (Lib.indexByte s c.toNat.toUInt8)):=by
 refine⟨by kernel_rfl,fun w0 ro vs hg hro hvs=>?_⟩
 simp only [VRels,VRel] at hvs
 obtain⟨v,vr,e1,rfl,v2,vr2,rfl,rfl,rfl⟩:=hvs
 have:vs = #[.string ⟨s.toArray⟩,.int .u8 c]:=by rw [← Array.toArray_toList (xs:=vs),e1]
 subst this
 refine (calls368 _ _ _).mono ?_
 rintro e w' ⟨rfl,rfl⟩
 exact⟨_,ro,rfl,.refl _ _,fun _ _ _ h=>h,hro,fun _ _ _ h _=>h,by simp [VRel]⟩
end Go.Proofs.YtkodonalmdmgpaaGreatDoor
end
section
namespace Go.Proofs.YtkodonalmdmgpaaGreatDoor
open Go Go.Abs
theorem keyw_any (s:Str):keyw.any (fun v=>s==v)=keyw.contains s:=by
 rw [List.any_beq]
theorem keyw_any' (s:Str):keyw.any (fun v=>v==s)=keyw.contains s:=by
 rw [List.any_beq']
theorem iskw241 (s:Str):Pure Tryz.prog GG 53 [.str s] (.bool (keyw.contains s)):=by
 refine Pure.vc mixed Tryz.func53 rfl (by kernel_rfl) ?_
 simp [GG]
 refine vcCall.call (contains101 GG keyw s (by decide)) (by simp) ?_
 rw [keyw_any]
 simp
theorem isName168 (s:Str):Pure Tryz.prog GG 36 [.str s] (.bool (nameS s)):=by
 refine Pure.vc mixed Tryz.func36 rfl (by kernel_rfl) ?_
 simp
 refine vcCall.call (word240 GG s) rfl ?_
 cases h1:wordS s
 · simp [nameS,h1]
 · by_cases h2:s.length≤16
   · have h2':(s.length:Int)≤16:=by omega
     simp [h2']
     refine vcCall.call (iskw241 s) rfl ?_
     simp [nameS,h1,h2]
   · have h2':¬ (s.length:Int)≤16:=by omega
     simp [nameS,h1,h2,h2']
theorem keywords326:Pure Tryz.prog GG 94 [] (.sl 1 (keyw.map encStr) .none):=by
 refine Pure.vc mixed Tryz.func94 rfl (by kernel_rfl) ?_
 simp [buildSliceA,rowsFill,keyw]
theorem iskw276 (s:Str):Pure Tryz.prog GG 58 [.str s] (.bool (keyw.contains s)):=by
 refine Pure.vc mixed Tryz.func58 rfl (by kernel_rfl) ?_
 simp
 refine vcCall.call keywords326 rfl ?_
 refine vcCall.call (has325 GG keyw s (by decide)) (by simp) ?_
 rw [keyw_any']
 simp
theorem isName210 (s:Str) (hs:Fits s):Pure Tryz.prog GG 38 [.str s] (.bool (nameS s)):=by
 refine Pure.vc mixed Tryz.func38 rfl (by kernel_rfl) ?_
 cases s with
 | nil=>simp [nameS,wordS]
 | cons c r=>
  by_cases h16:(c::r).length≤16
  · have h16':¬ (16:Int)<(r.length:Int)+1:=by simp at h16;omega
    simp [h16']
    refine vcCall.call (small275 GG c.toNat) rfl ?_
    cases hl:lowerI (c.toNat:Int)
    · simp [nameS,wordS,hl]
    · simp
      refine vcCall.call (iskw276 (c::r)) rfl ?_
      cases hk:keyw.contains (c::r)
      · simp
        refine vcLoop.intro (fun n env σ=>∃ i,i≤(c::r).length∧n=(c::r).length-i∧env 0=.str (c::r)∧env 3=.int .i64 i∧σ=⟨[],[]⟩∧∀ x∈(c::r).take i,innerB x=true) (c::r).length ⟨0,by simp⟩ ?_
        rintro n env σ ⟨i,hi,rfl,h0,h3,rfl,hall⟩
        cases hv:(c::r)[i]? with
        | some v=>
         obtain⟨hc,hv'⟩:=List.getElem?_eq_some_iff.1 hv
         have htake:(c::r).take (i+1)=(c::r).take i++[v]:=by rw [List.take_add_one,hv];rfl
         have hc1:(i:Int)<r.length+1:=by simp at hc;omega
         simp [h0,h3,hc1,hv,hv']
         refine vcCall.call (inner277 GG v.toNat) rfl ?_
         cases hin:innerI (v.toNat:Int)
         · have:=wordS_bad (List.mem_of_getElem? hv) (show innerB v=false from hin)
           simp [nameS,this]
         · simp [h0,h3]
           refine⟨_,by simp at hc;omega,i+1,by simp at hc;omega,rfl,wr (by omega) (by simp at hc hs;omega),?_⟩
           intro x hx
           rw [htake,List.mem_append] at hx
           rcases hx with hx|hx
           · exact hall x hx
           · rw [List.mem_singleton.1 hx];exact hin
        | none=>
         have he:i=(c::r).length:=by simp at hv hi;simp;omega
         subst he
         have h1:wordS (c::r)=true:=by
          simp only [wordS,Bool.and_eq_true]
          exact⟨hl,List.all_eq_true.2 fun x hx=>hall x (by simpa using hx)⟩
         have hn:nameS (c::r)=true:=by simp only [nameS,h1,hk,decide_eq_true h16];rfl
         simp [h0,h3,hn]
      · have hn:nameS (c::r)=false:=by simp only [nameS,hk,Bool.not_true,Bool.and_false]
        simp [hn]
  · have h16':(16:Int)<(r.length:Int)+1:=by simp at h16;omega
    have:nameS (c::r)=false:=by
     have:decide ((c::r).length≤16)=false:=by simpa using h16
     simp only [nameS,this,Bool.and_false,Bool.false_and]
    simp [h16',this]
theorem indexByte_head {s:Str}:Lib.indexByte s 91=if s.contains 91=true then ((headS s).length:Int) else -1:=by
 unfold headS
 induction s with
 | nil=>simp [Lib.indexByte]
 | cons c r ih=>
  by_cases hc:c=91
  · subst hc;simp [Lib.indexByte]
  · have h1:(c==91)=false:=by simpa using hc
    have h2:¬ (91:UInt8)=c:=fun e=>hc e.symm
    simp only [Lib.indexByte,h1,Bool.false_eq_true,if_false,ih,List.contains_cons]
    have h3:((91:UInt8)==c)=false:=by simpa using h2
    have h4:(c != 91)=true:=by simpa using hc
    rw [h3,Bool.false_or,List.takeWhile_cons,if_pos h4]
    by_cases h5:r.contains 91=true
    · rw [if_pos h5,if_pos h5]
      have:¬ (((r.takeWhile (· != 91)).length:Int) == -1)=true:=by simp
      rw [if_neg this]
      simp
    · rw [if_neg h5,if_neg h5];simp
theorem index317 (G:Nat→AV) (s:Str):Pure Tryz.prog G 308 [.str s,.str [91]] (.int .i64 (Lib.indexByte s 91)):=by
 refine Pure.vc mixed Tryz.func308 rfl (by kernel_rfl) ?_
 by_cases h : [91]=s
 · subst h
   simp [Lib.indexByte]
 · simp [h]
   refine vcCall.call (indexByte368 G s 91) rfl ?_
   simp
theorem cut262 (G:Nat→AV) (s:Str) (hs:Fits s) (h:s.contains 91=true):Pure Tryz.prog G 272 [.str s,.str [91]] (.tup [.str (headS s),.str (tailS s),.bool true]):=by
 refine Pure.vc mixed Tryz.func272 rfl (by kernel_rfl) ?_
 simp
 refine vcCall.call (index317 G s) rfl ?_
 have e:=cut_eq h
 have hl:s.length=(headS s).length+1+(tailS s).length:=by
  have:=congrArg List.length e
  rw [List.length_append,List.length_cons] at this
  omega
 have hlt:(headS s).length<s.length:=by omega
 have t1:s.take (headS s).length=headS s:=by
  conv=>lhs;arg 2;rw [e]
  simp
 have t2:s.drop ((headS s).length+1)=tailS s:=by
  conv=>lhs;arg 2;rw [e]
  simp
 rw [indexByte_head,if_pos h]
 have hw:IntKind.i64.wrap (((headS s).length:Int)+1)=(headS s).length+1:=wr (by omega) (by omega)
 have h1:((headS s).length:Int)≤s.length:=by omega
 have h2:((headS s).length:Int)+1≤s.length:=by omega
 have h3:(0:Int)≤(headS s).length+1:=by omega
 have h4:(((headS s).length:Int)+1).toNat=(headS s).length+1:=by omega
 have h5:(headS s).length≤s.length:=by omega
 simp [sliceA,boundA,hw,h1,h2,h3,h4,h5,t1,t2]
theorem cut262n (G:Nat→AV) (s:Str) (hs:Fits s) (h:s.contains 91=false):Pure Tryz.prog G 272 [.str s,.str [91]] (.tup [.str s,.str [],.bool false]):=by
 refine Pure.vc mixed Tryz.func272 rfl (by kernel_rfl) ?_
 simp
 refine vcCall.call (index317 G s) rfl ?_
 rw [indexByte_head,if_neg (by rw [h];decide)]
 simp
theorem cut196 (G:Nat→AV) (s:Str) (hs:Fits s) (h:s.contains 91=true):Pure Tryz.prog G 222 [.str s,.str [91]] (.tup [.str (headS s),.str (tailS s),.bool true]):=by
 refine Pure.vc mixed Tryz.func222 rfl (by kernel_rfl) ?_
 simp
 refine vcCall.call (cut262 G s hs h) rfl ?_
 simp
theorem cut196n (G:Nat→AV) (s:Str) (hs:Fits s) (h:s.contains 91=false):Pure Tryz.prog G 222 [.str s,.str [91]] (.tup [.str s,.str [],.bool false]):=by
 refine Pure.vc mixed Tryz.func222 rfl (by kernel_rfl) ?_
 simp
 refine vcCall.call (cut262n G s hs h) rfl ?_
 simp
theorem small307 (i:Nat) (h:i<9):Pure Tryz.prog GG 188 [.int .i64 i] (.str [UInt8.ofNat (48+i)]):=by
 refine Pure.vc mixed Tryz.func188 rfl (by kernel_rfl) ?_
 have hw:IntKind.i64.wrap ((i:Int)+1)=(i:Int)+1:=wr (by omega) (by omega)
 have h10:(i:Int)<10:=by omega
 have h11:i<10:=by omega
 have h36:(i:Int)+1≤36:=by omega
 have h37:(0:Int)≤(i:Int)+1:=by omega
 have h38:(i:Int)≤(i:Int)+1:=by omega
 simp [h10,h11,hw,sliceA,boundA,h36,h37,h38]
 have:i=0∨i=1∨i=2∨i=3∨i=4∨i=5∨i=6∨i=7∨i=8:=by omega
 rcases this with rfl|rfl|rfl|rfl|rfl|rfl|rfl|rfl|rfl<;>rfl
theorem itoa9 (i:Nat) (h:i<9):Pure Tryz.prog GG 50 [.int .i64 i] (.str [UInt8.ofNat (48+i)]):=by
 refine Pure.vc mixed Tryz.func50 rfl (by kernel_rfl) ?_
 simp
 refine vcCall.call (r:=.str [UInt8.ofNat (48+i)]) ?_ rfl ?_
 · refine Pure.vc mixed Tryz.func82 rfl (by kernel_rfl) ?_
   simp
   refine vcCall.call (r:=.str [UInt8.ofNat (48+i)]) ?_ rfl ?_
   · refine Pure.vc mixed Tryz.func131 rfl (by kernel_rfl) ?_
     have h1:(0:Int)≤i:=by omega
     have h2:(i:Int)<100:=by omega
     have h3:i<100:=by omega
     simp [h1,h2,h3]
     exact vcCall.call (small307 i h) rfl (by simp)
   · simp
 · simp
theorem itoa100 (i:Nat) (h:i<8):Pure Tryz.prog GG 50 [.int .i64 i] (.str [UInt8.ofNat (48+i)]):=itoa9 i (by omega)
theorem element181 (a:Str) (i:Nat) (hi:i<8) (ha:a.length≤1000):Pure Tryz.prog GG 213 [.str a,.int .i64 i] (.str (elemS a i)):=by
 refine Pure.vc mixed Tryz.func213 rfl (by kernel_rfl) ?_
 have h1:a.length+1≤4611686018427387904:=by omega
 have h2:a.length+(1+1)≤4611686018427387904:=by omega
 have h3:a.length+(1+(1+1))≤4611686018427387904:=by omega
 have h4:a.length+1+1≤4611686018427387904:=by omega
 have h5:a.length+1+1+1≤4611686018427387904:=by omega
 simp [h1]
 refine vcCall.call (itoa100 i hi) rfl ?_
 simp [h2,h3,h4,h5,elemS]
theorem name_len {s:Str} (h:nameS s=true):s.length≤16:=by
 simp only [nameS,Bool.and_eq_true,decide_eq_true_eq] at h
 exact h.1.2
theorem elemB_of {s:Str} {i:Nat} (hi:i<8) (hn:nameS (headS s)=true) (h:s=elemS (headS s) i):(elemO s).isSome=true:=by
 rw [elemO_eq (a:=headS s) (i:=i) ⟨hi,hn,h⟩];rfl
theorem elemB_no {s:Str} (h:∀ i,i<8→s≠elemS (headS s) i):elemO s=none:=by
 rw [elemO_none]
 rintro a i hi
 have:=hi.has.2.1
 exact h i hi.1 (by rw [this];exact hi.2.2)
theorem elemB_no' {s:Str} (h:nameS (headS s)=false):elemO s=none:=by
 rw [elemO_none]
 rintro a i hi
 have:=hi.has.2.1
 rw [this,hi.2.1] at h;cases h
theorem named123 (s:Str) (hs:Fits s):Pure Tryz.prog GG 166 [.str s] (.bool (varS s)):=by
 refine Pure.vc mixed Tryz.func166 rfl (by kernel_rfl) ?_
 simp
 refine vcCall.call (isName168 s) rfl ?_
 cases hn:nameS s
 · simp
   by_cases hc:s.contains 91=true
   · refine vcCall.call (cut196 GG s hs hc) rfl ?_
     simp
     refine vcCall.call (isName168 (headS s)) rfl ?_
     cases hh:nameS (headS s)
     · simp [varS,hn,elemB_no' hh]
     · simp
       refine vcLoop.intro (fun n env σ=>∃ i:Nat,i≤8∧n=8-i∧env 0=.str s∧env 3=.str (headS s)∧env 22=.int .i64 i∧σ=⟨[],[]⟩∧∀ j,j<i→s≠elemS (headS s) j) 8 ⟨0,by simp⟩ ?_
       rintro n env σ ⟨i,hi,rfl,h0,h3,h22,rfl,hall⟩
       by_cases h8:i<8
       · have h8':(i:Int)<8:=by omega
         simp [h0,h3,h22,h8']
         refine vcCall.call (element181 (headS s) i h8 (by have:=name_len hh;omega)) rfl ?_
         by_cases he:s=elemS (headS s) i
         · have hv:varS s=true:=by simp [varS,elemB_of h8 hh he]
           rw [← he]
           simp [h0,hv]
         · simp [h0,h3,h22,he]
           refine⟨_,by omega,i+1,by omega,rfl,wr (by omega) (by omega),?_⟩
           intro j hj e
           rcases Nat.lt_succ_iff_lt_or_eq.1 hj with hj|rfl
           · exact hall j hj e
           · exact he e
       · have h8':¬ (i:Int)<8:=by omega
         have hv:varS s=false:=by
          have:elemO s=none:=elemB_no fun j hj=>hall j (by omega)
          simp [varS,hn,this]
         simp [h0,h3,h22,h8',hv]
   · have hc':s.contains 91=false:=by simpa using hc
     refine vcCall.call (cut196n GG s hs hc') rfl ?_
     simp [varS,hn,no_elem hc']
 · simp [varS,hn]
end Go.Proofs.YtkodonalmdmgpaaGreatDoor
end
