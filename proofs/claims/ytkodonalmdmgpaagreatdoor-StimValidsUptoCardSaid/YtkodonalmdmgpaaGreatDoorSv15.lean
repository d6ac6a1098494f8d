import Derived.Test.YtkodonalmdmgpaaGreatDoorSv13
import Derived.Test.YtkodonalmdmgpaaGreatDoorSv14
set_option maxRecDepth 100000
set_option linter.all false
set_option linter.defProp false
section
namespace Go.Proofs.YtkodonalmdmgpaaGreatDoor
open Go Go.Abs
mutual
def preI:It→List It
 | .mk k e n i w l m b a=>.mk k e n i w l m b a::(preIL l++preIL m)
def preIL:List It→List It
 | []=>[]
 | x::r=>preI x++preIL r
end
theorem preI_eq (x:It):preI x=x::(preIL x.items++preIL x.els):=by cases x;simp [preI,It.items,It.els]
theorem mem_preIL {l:List It} {x:It}:x∈preIL l↔∃ a∈l,x∈preI a:=by
 induction l with
 | nil=>simp [preIL]
 | cons e r ih=>simp [preIL,ih]
/-- What memory can hold of one constraint. -/
structure Hold1 (x:It):Prop where
 expr:Wen x.expr
 name:Fits x.name
 index:Fits x.index
 ws:Fits x.ws
 items:Fits x.items
 els:Fits x.els
 before:Fits x.before
 after:Fits x.after
 names:∀ s∈x.before++x.after,Fits s
def HoldI (x:It):Prop:=∀ y∈preI x,Hold1 y
def sizeIS (l:List It):Int:=IntKind.i64.wrap (preIL l).length
def blankE (e:Ex):Bool:=decide (e.op=0)&&decide (e.n=0)&&decide (e.name=[])&&decide (e.args=[])
def knownK (k:Int):Bool:=decide (1≤k)&&decide (k≤6)
def exprK (k:Int):Bool:=decide (k=1∨k=2∨k=4)
def nameK (k:Int):Bool:=decide (k=3∨k=5)
def plainI (x:It):Bool :=
 (exprK x.kind||blankE x.expr)&&(nameK x.kind||decide (x.name=[]))&&(decide (x.kind=5)||decide (x.index=[]))&&(decide (x.kind=3)||decide (x.ws=[])) &&
 (decide (x.kind=4∨x.kind=5)||decide (x.items=[]))&&(decide (x.kind=4)||decide (x.els=[]))&&(decide (x.kind=6)||(decide (x.before=[])&&decide (x.after=[])))
def weightsE (l:List Weight):Int:=if 16<l.length then 2 else if l=[] then 1 else if l.any weightB=true then 1 else 0
noncomputable def shapeE (x:It) (d:Nat):Int :=
 if knownK x.kind=false∨plainI x=false∨4<d∨(0<d∧(x.kind=3∨x.kind=6)) then 1
 else if x.kind=3 then (if weightsE x.ws≠0 then weightsE x.ws else if varS x.name=false then 7 else 0)
 else if x.kind=6 then (if x.before=[]∨x.after=[] then 1 else if (x.before++x.after).any (fun s=>!varS s)=true then 7 else 0)
 else if x.kind=5 then (if nameS x.name=false∨nameS x.index=false then 7 else 0)
 else validE x.expr
/-- Where a constraint stands: how deep, and which indices are bound. -/
structure Place where
 depth:Nat
 bound:List Str
def innerD (x:It) (p:Place):Place:=if x.kind=4∨x.kind=5 then ⟨p.depth+1,p.bound⟩ else p
def innerP (x:It) (p:Place):Place:=if x.kind=5 then ⟨p.depth+1,p.bound++[x.index]⟩ else innerD x p
def visL (f:Place→It→List (It×Place)) (p:Place) (l:List It):List (It×Place):=l.flatMap (f p)
mutual
def visI:Place→It→List (It×Place)
 | p,.mk k e n i w l m b a=>(.mk k e n i w l m b a,p)::(visIs (innerP (.mk k e n i w l m b a) p) l++visIs (innerD (.mk k e n i w l m b a) p) m)
def visIs:Place→List It→List (It×Place)
 | _,[]=>[]
 | p,x::r=>visI p x++visIs p r
end
theorem visI_eq (p:Place) (x:It):visI p x=(x,p)::(visIs (innerP x p) x.items++visIs (innerD x p) x.els):=by cases x;simp [visI,It.items,It.els]
@[simp] theorem visIs_nil {p:Place}:visIs p []=[]:=by simp [visIs]
@[simp] theorem visIs_cons {p:Place} {x:It} {r:List It}:visIs p (x::r)=visI p x++visIs p r:=by simp [visIs]
theorem visIs_append {p:Place}:∀ {l m:List It},visIs p (l++m)=visIs p l++visIs p m
 | [],m=>by simp
 | x::r,m=>by simp [visIs_append (l:=r),List.append_assoc]
theorem mem_visIs {p:Place} {l:List It} {y:It×Place}:y∈visIs p l↔∃ x∈l,y∈visI p x:=by
 induction l with
 | nil=>simp
 | cons x r ih=>simp [ih]
theorem visI_self (p:Place) (x:It):(x,p)∈visI p x:=by rw [visI_eq];simp
noncomputable def validI (l:List It):Int:=if 64<sizeIS l then 2 else firstE (fun y=>shapeE y.1 y.2.depth) (visIs ⟨0,[]⟩ l)
/-! ### Names and fields -/
abbrev Flds:=Str→Option Int
def fldsOf (c:Cls):Flds:=fun s=>(c.fields.find? fun f=>f.name==s).map Fld.size
noncomputable def varF (F:Flds) (s:Str):Int:=match F s with
 | some n=>if 0<n then 9 else 0
 | none=>match elemO s with
  | some (a,i)=>(match F a with | some n=>if n=0 then 9 else if n≤i then 7 else 0 | none=>7)
  | none=>7
def arrF (F:Flds) (s:Str):Int:=match F s with
 | some n=>if n=0 then 9 else 0
 | none=>7
noncomputable def eitherF (F:Flds) (s:Str):Int:=if (F s).isSome=true∨varF F s=0 then 0 else 7
noncomputable def nodeF (F:Flds) (b:List Str) (e:Ex):Int :=
 if e.op=2 then (if b.contains e.name=true then 0 else varF F e.name) else if e.op=3∨e.op=24 then arrF F e.name else 0
noncomputable def exprF (F:Flds) (b:List Str) (e:Ex):Int:=firstE (nodeF F b) (pre e)
noncomputable def consE (F:Flds) (x:It) (b:List Str):Int :=
 if x.kind=3 then eitherF F x.name
 else if x.kind=6 then firstE (eitherF F) (x.before++x.after)
 else if x.kind=5 then (if arrF F x.name≠0 then arrF F x.name else if (F x.index).isSome=true∨b.contains x.index=true then 8 else 0)
 else exprF F b x.expr
noncomputable def checkI (F:Flds) (l:List It):Int:=if validI l≠0 then validI l else firstE (fun y=>consE F y.1 y.2.bound) (visIs ⟨0,[]⟩ l)
/-! ### Replaced names -/
mutual
def substE (s:Str) (by':Ex):Ex→Ex
 | .mk o n t a=>if o=2∧t=s then by' else .mk o n t (substEs s by' a)
def substEs (s:Str) (by':Ex):List Ex→List Ex
 | []=>[]
 | e::r=>substE s by' e::substEs s by' r
end
@[simp] theorem substEs_eq (s:Str) (b:Ex):∀ l,substEs s b l=l.map (substE s b)
 | []=>by simp [substEs]
 | e::r=>by simp [substEs,substEs_eq s b r]
theorem substE_eq (s:Str) (b e:Ex):substE s b e=if e.op=2∧e.name=s then b else .mk e.op e.n e.name (e.args.map (substE s b)):=by
 cases e;simp only [substE,substEs_eq];rfl
mutual
def substI (s:Str) (b:Ex):It→It
 | .mk k e n i w l m x y=>.mk k (substE s b e) n i w (substIs s b l) (substIs s b m) x y
def substIs (s:Str) (b:Ex):List It→List It
 | []=>[]
 | x::r=>substI s b x::substIs s b r
end
@[simp] theorem substIs_eq (s:Str) (b:Ex):∀ l,substIs s b l=l.map (substI s b)
 | []=>by simp [substIs]
 | e::r=>by simp [substIs,substIs_eq s b r]
theorem substI_eq (s:Str) (b:Ex) (x:It):substI s b x=.mk x.kind (substE s b x.expr) x.name x.index x.ws (x.items.map (substI s b)) (x.els.map (substI s b)) x.before x.after:=by
 cases x;simp only [substI,substIs_eq];rfl
/-! ### Expansion -/
def zEx:Ex:=.mk 0 0 [] []
def underE (c:Option Ex) (op:Int) (e:Ex):Ex:=match c with
 | none=>e
 | some q=>.mk op 0 [] [q,e]
def notE (e:Ex):Ex:=.mk 4 0 [] [e]
def exprI (k:Int) (e:Ex):It:=.mk k e [] [] [] [] [] [] []
/-- Constraints without conditions and repetitions; 'h': how deep they are nested at most. -/
def expandI (F:Flds):Nat→Option Ex→It→List It
 | 0,_,_=>[]
 | h+1,c,x=>
  if x.kind=1∨x.kind=2 then [exprI x.kind (substE [] zEx (underE c 21 x.expr))]
  else if x.kind=4 then x.items.flatMap (expandI F h (some (underE c 19 x.expr)))++x.els.flatMap (expandI F h (some (underE c 19 (notE x.expr))))
  else if x.kind=5 then (List.range ((F x.name).getD 0).toNat).flatMap fun (k:Nat)=>(x.items.map (substI x.index (.mk 1 (k:Int) [] []))).flatMap (expandI F h c)
  else if x.kind=3 then [.mk 3 zEx x.name [] x.ws [] [] [] []]
  else if x.kind=6 then [.mk 6 zEx [] [] [] [] [] x.before x.after]
  else []
def expandL (F:Flds) (h:Nat) (c:Option Ex) (l:List It):List It:=l.flatMap (expandI F h c)
def asksK (k:Int):Bool:=decide (k=1∨k=2)
noncomputable def expandE (F:Flds) (l:List It):Int :=
 if checkI F l≠0 then checkI F l
 else if 400<(expandL F 6 none l).length then 2
 else if (expandL F 6 none l).any (fun x=>asksK x.kind&&!decide (validE x.expr=0))=true then 2
 else 0
noncomputable def expandS (F:Flds) (l:List It):List It:=if expandE F l≠0 then [] else expandL F 6 none l
end Go.Proofs.YtkodonalmdmgpaaGreatDoor
end
