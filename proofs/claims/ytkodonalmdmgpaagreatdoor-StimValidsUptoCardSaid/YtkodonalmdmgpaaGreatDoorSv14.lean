import Derived.Test.YtkodonalmdmgpaaGreatDoorSv12
set_option linter.all false
set_option linter.defProp false
section
namespace Go.Proofs.YtkodonalmdmgpaaGreatDoor
open Go Go.Abs
/-- A number as a word. -/
def wrapW (n:Int):Int:=n % 65536
theorem wrapW_range (n:Int):0≤wrapW n∧wrapW n≤65535:=by unfold wrapW;omega
theorem wrapW_id {n:Int} (h0:0≤n) (h1:n≤65535):wrapW n=n:=by unfold wrapW;omega
def b2i (b:Bool):Int:=if b=true then 1 else 0
theorem b2i_range (b:Bool):0≤b2i b∧b2i b≤65535:=by cases b<;>simp [b2i]
def findV (env:List Signal) (name:Str):Option Int:=(env.find? fun s=>s.name==name).map fun s=>wrapW s.value
def atV (env:List Signal) (a:Str) (i:Int):Int:=if 0≤i∧i<8 then (findV env (elemS a i.toNat)).getD 0 else 0
def sumV (env:List Signal) (a:Str):Nat→Int
 | 0=>0
 | i+1=>wrapW (sumV env a i+atV env a i)
def onesN (a:Nat):Nat→Nat
 | 0=>0
 | i+1=>onesN a i+(if a.testBit i=true then 1 else 0)
def unW (op a:Int):Int :=
 if op=4 then b2i (decide (a=0)) else if op=5 then 65535-wrapW a else if op=6 then wrapW (0-a) else (onesN (wrapW a).toNat 16:Int)
def binW (op a b:Int):Int :=
 if op=7 then wrapW (a+b) else if op=8 then wrapW (a-b) else if op=9 then wrapW (a*b)
 else if op=10 then ((a.toNat &&& b.toNat:Nat):Int) else if op=11 then ((a.toNat ||| b.toNat:Nat):Int) else if op=12 then ((a.toNat ^^^ b.toNat:Nat):Int)
 else if op=13 then (if 0≤b∧b<16 then wrapW (a*2 ^ b.toNat) else 0)
 else if op=14 then (if 0≤b∧b<16 then wrapW a / 2 ^ b.toNat else 0)
 else if op=15 then b2i (decide (a=b)) else if op=16 then b2i (!decide (a=b)) else if op=17 then b2i (decide (a<b)) else if op=18 then b2i (decide (a≤b))
 else if op=19 then b2i (!decide (a=0)&&!decide (b=0)) else if op=20 then b2i (!decide (a=0)||!decide (b=0))
 else b2i (decide (a=0)||!decide (b=0))
def insideW (a:Int):List Int→Bool
 | x::y::r=>(decide (x≤a)&&decide (a≤y))||insideW a r
 | _=>false
def opW (op:Int) (l:List Int):Int :=
 if op=22 then (if l.getD 0 0≠0 then l.getD 1 0 else l.getD 2 0)
 else if op=23 then b2i (insideW (l.getD 0 0) l.tail)
 else match l with
  | []=>0
  | [a]=>unW op a
  | a::b::_=>binW op a b
def nodeV (env:List Signal) (op n:Int) (name:Str) (l:List Int):Int :=
 if op=1 then n else if op=2 then (findV env name).getD 0 else if op=3 then atV env name (l.getD 0 0) else if op=24 then sumV env name 8 else opW op l
mutual
def valV (env:List Signal):Ex→Int
 | .mk op n name args=>nodeV env op n name (valsV env args)
def valsV (env:List Signal):List Ex→List Int
 | []=>[]
 | e::r=>valV env e::valsV env r
end
@[simp] theorem valsV_eq (env:List Signal):∀ l,valsV env l=l.map (valV env)
 | []=>by simp [valsV]
 | e::r=>by simp [valsV,valsV_eq env r]
theorem valV_eq (env:List Signal) (e:Ex):valV env e=nodeV env e.op e.n e.name (e.args.map (valV env)):=by cases e;simp [valV]
/-- Is what a node asks for there? -/
def askV (env:List Signal) (e:Ex):Bool :=
 if e.op=2 then (findV env e.name).isSome else if e.op=3∨e.op=24 then (findV env (elemS e.name 0)).isSome else true
def knownV (env:List Signal) (e:Ex):Bool:=(pre e).all (askV env)
theorem knownV_eq (env:List Signal) (e:Ex):knownV env e=(askV env e&&e.args.all (knownV env)):=by
 unfold knownV
 rw [pre_eq,List.all_cons]
 congr 1
 generalize e.args=l
 induction l with
 | nil=>simp
 | cons a r ih=>simp [ih,List.all_append]
noncomputable def evalE (env:List Signal) (e:Ex):Int:=if validE e≠0 then 1 else if knownV env e=true then 0 else 7
noncomputable def evalV (env:List Signal) (e:Ex):Int:=if validE e=0∧knownV env e=true then valV env e else 0
/-! ### What valid nodes are -/
/-- All nodes of an expression are right. -/
def NodesOk (e:Ex):Prop:=∀ x∈pre e,nodeE x=0
theorem NodesOk.self {e:Ex} (h:NodesOk e):nodeE e=0:=h e (by rw [pre_eq];simp)
theorem NodesOk.arg {e a:Ex} (h:NodesOk e) (ha:a∈e.args):NodesOk a:=fun x hx=>h x (by rw [pre_eq];exact List.mem_cons_of_mem _ (mem_preL.2 ⟨a,ha,hx⟩))
theorem validE_nodes {e:Ex} (h:validE e=0):NodesOk e:=by
 unfold validE at h
 split at h
 · cases h
 · exact firstE_zero.1 h
theorem nodeE_zero {e:Ex} (h:nodeE e=0):1≤e.op∧e.op≤25∧(e.op=1→0≤e.n∧e.n≤65535)∧(e.op≠1→e.n=0)∧operandsS e=true∧(e.op=2→varS e.name=true)∧(e.op=3∨e.op=24→nameS e.name=true)∧(¬ (e.op=2∨e.op=3∨e.op=24)→e.name=[]):=by
 unfold nodeE at h
 split at h
 · cases h
 rename_i h1
 split at h
 · cases h
 rename_i h2
 split at h
 · cases h
 rename_i h3
 split at h
 · cases h
 rename_i h4
 refine⟨by omega,by omega,fun h=>?_,fun h=>?_,?_,fun h=>?_,fun h=>?_,fun h=>?_⟩
 · apply Classical.byContradiction
   intro hn
   exact h2 (.inl ⟨h,by omega⟩)
 · apply Classical.byContradiction
   intro hn
   exact h2 (.inr ⟨h,hn⟩)
 · cases ho:operandsS e with
   | true=>rfl
   | false=>exact absurd (.inr ho) h3
 · cases ho:varS e.name with
   | true=>rfl
   | false=>exact absurd (.inl ⟨h,ho⟩) h4
 · cases ho:nameS e.name with
   | true=>rfl
   | false=>exact absurd (.inr ⟨h,ho⟩) h4
 · apply Classical.byContradiction
   intro hn
   exact h3 (.inl ⟨h,hn⟩)
theorem operands_args {e:Ex} (h:operandsS e=true) (h23:e.op≠23):(e.args.length:Int)=arityS e.op:=by
 unfold operandsS at h
 rw [if_neg h23] at h
 simpa using h
theorem operands_in {e:Ex} (h:operandsS e=true) (h23:e.op=23):e.args.length % 2=1∧3≤e.args.length∧e.args.length≤33:=by
 unfold operandsS at h
 rw [if_pos h23] at h
 simpa using h
/-! ### Ranges -/
theorem onesN_le (a:Nat):∀ i,onesN a i≤i
 | 0=>Nat.le_refl _
 | i+1=>by
  have:=onesN_le a i
  simp only [onesN]
  split<;>omega
theorem findV_range {env:List Signal} {name:Str} {v:Int} (h:findV env name=some v):0≤v∧v≤65535:=by
 unfold findV at h
 obtain⟨s,_,rfl⟩:=Option.map_eq_some_iff.1 h
 exact wrapW_range _
theorem getD_range {o:Option Int} (h:∀ v,o=some v→0≤v∧v≤65535):0≤o.getD 0∧o.getD 0≤65535:=by
 cases o with
 | none=>simp
 | some v=>exact h v rfl
theorem atV_range (env:List Signal) (a:Str) (i:Int):0≤atV env a i∧atV env a i≤65535:=by
 unfold atV
 split
 · exact getD_range fun v h=>findV_range h
 · omega
theorem sumV_range (env:List Signal) (a:Str):∀ i,0≤sumV env a i∧sumV env a i≤65535
 | 0=>by simp [sumV]
 | i+1=>wrapW_range _
theorem unW_range (op a:Int):0≤unW op a∧unW op a≤65535:=by
 unfold unW
 split
 · exact b2i_range _
 split
 · have:=wrapW_range a;omega
 split
 · exact wrapW_range _
 · have:=onesN_le (wrapW a).toNat 16;omega
theorem shr_range {a:Int} (n:Nat) (h0:0≤a) (h1:a≤65535):0≤a / 2 ^ n∧a / 2 ^ n≤65535:=by
 have hp:(0:Int)<2 ^ n:=Int.pow_pos (by omega)
 refine⟨Int.ediv_nonneg h0 (by omega),?_⟩
 have:=Int.ediv_le_self (2 ^ n) h0
 omega
def InW (n:Int):Prop:=0≤n∧n≤65535
theorem InW.ite {c:Prop} [Decidable c] {a b:Int} (ha:InW a) (hb:InW b):InW (if c then a else b):=by
 split
 · exact ha
 · exact hb
theorem binW_range (op:Int) {a b:Int} (ha0:0≤a) (ha1:a≤65535) (hb0:0≤b) (hb1:b≤65535):0≤binW op a b∧binW op a b≤65535:=by
 obtain⟨x,rfl⟩:=Int.eq_ofNat_of_zero_le ha0
 obtain⟨y,rfl⟩:=Int.eq_ofNat_of_zero_le hb0
 have hx:x<2 ^ 16:=by omega
 have hy:y<2 ^ 16:=by omega
 have o1:=Nat.and_lt_two_pow (n:=16) x hy
 have o2:=Nat.or_lt_two_pow (n:=16) hx hy
 have o3:=Nat.xor_lt_two_pow (n:=16) hx hy
 show InW (binW op x y)
 unfold binW
 simp only [Int.toNat_natCast]
 repeat' apply InW.ite
 all_goals first | exact wrapW_range _ | exact b2i_range _ | exact shr_range _ (wrapW_range _).1 (wrapW_range _).2 | (unfold InW;omega)
theorem valV_range (env:List Signal):∀ e,NodesOk e→0≤valV env e∧valV env e≤65535:=by
 refine Ex.ind fun e ih hn=>?_
 have hm:∀ x∈e.args.map (valV env),0≤x∧x≤65535:=by
  intro x hx
  obtain⟨a,ha,rfl⟩:=List.mem_map.1 hx
  exact ih a ha (hn.arg ha)
 have hg:∀ i,0≤(e.args.map (valV env)).getD i 0∧(e.args.map (valV env)).getD i 0≤65535:=by
  intro i
  rw [List.getD_eq_getElem?_getD]
  exact getD_range fun v h=>hm v (List.mem_of_getElem? h)
 obtain⟨h1,h2,h3,_⟩:=nodeE_zero hn.self
 rw [valV_eq]
 unfold nodeV
 split
 · rename_i h;exact h3 h
 split
 · exact getD_range fun v h=>findV_range h
 split
 · exact atV_range _ _ _
 split
 · exact sumV_range _ _ _
 unfold opW
 split
 · split
   · exact hg 1
   · exact hg 2
 split
 · exact b2i_range _
 split
 · omega
 · exact unW_range _ _
 · rename_i a b r hl
   rw [hl] at hm
   exact binW_range _ (hm a (by simp)).1 (hm a (by simp)).2 (hm b (by simp)).1 (hm b (by simp)).2
/-! ### Assignments -/
def envS (l:List Var) (a:List Int):List Signal:=if a.length=l.length then (l.zip a).map fun q=>⟨q.1.name,q.2⟩ else []
def assign1 (q:Var×Int):Bool:=decide (0≤q.2)&&decide (q.2<2 ^ q.1.width.toNat)&&(!decide (q.1.mode=0)||decide (q.2=q.1.value))
def assignsS (l:List Var) (a:List Int):Bool:=decide (a.length=l.length)&&(l.zip a).all assign1
noncomputable def holdsS (p:Problem) (a:List Int) (e:Ex):Bool :=
 decide (validP p=0)&&assignsS p.vars a&&decide (evalE (envS p.vars a) e=0)&&!decide (evalV (envS p.vars a) e=0)
theorem validP_vars {p:Problem} (h:validP p=0):∀ v∈p.vars,varE v=0:=by
 unfold validP at h
 split at h
 · rename_i hn;exact absurd h hn
 rename_i hv
 have hv:varsS p.vars=0:=Classical.not_not.1 hv
 unfold varsS at hv
 split at hv
 · cases hv
 split at hv
 · rename_i hn;exact absurd hv hn
 rename_i hz
 exact firstE_zero.1 (Classical.not_not.1 hz)
def sizeFrom (l:List Var) (a:Str):Nat→Nat→Nat
 | 0,i=>i
 | f+1,i=>if hasV l (elemS a i)=true then sizeFrom l a f (i+1) else i
/-- The number of elements of an array among variables. -/
def sizeA (l:List Var) (a:Str):Nat:=sizeFrom l a 8 0
theorem sizeFrom_spec (l:List Var) (a:Str):∀ (f i:Nat),i≤sizeFrom l a f i∧sizeFrom l a f i≤i+f∧(∀ j,i≤j→j<sizeFrom l a f i→hasV l (elemS a j)=true)∧(sizeFrom l a f i<i+f→hasV l (elemS a (sizeFrom l a f i))=false)
 | 0,i=>by simp [sizeFrom];omega
 | f+1,i=>by
  simp only [sizeFrom]
  split
  · rename_i h
    obtain⟨a1,a2,a3,a4⟩:=sizeFrom_spec l a f (i+1)
    refine⟨by omega,by omega,fun j h1 h2=>?_,fun h1=>a4 (by omega)⟩
    rcases Nat.eq_or_lt_of_le h1 with h3|h3
    · subst h3;exact h
    · exact a3 j (by omega) h2
  · rename_i h
    exact⟨Nat.le_refl _,by omega,fun j h1 h2=>by omega,fun _=>by simpa using h⟩
theorem sizeA_le (l:List Var) (a:Str):sizeA l a≤8:=by
 have:=(sizeFrom_spec l a 8 0).2.1
 unfold sizeA;omega
theorem sizeA_has {l:List Var} {a:Str} {j:Nat} (h:j<sizeA l a):hasV l (elemS a j)=true:=(sizeFrom_spec l a 8 0).2.2.1 j (by omega) h
theorem sizeA_not {l:List Var} {a:Str} (h:sizeA l a<8):hasV l (elemS a (sizeA l a))=false:=(sizeFrom_spec l a 8 0).2.2.2 (by unfold sizeA at h;omega)
/-- Counting comes to the size. -/
theorem sizeA_of {l:List Var} {a:Str} {n:Nat} (h8:n≤8) (hall:∀ j,j<n→hasV l (elemS a j)=true) (hn:n<8→hasV l (elemS a n)=false):sizeA l a=n:=by
 have h1:=sizeA_le l a
 rcases Nat.lt_trichotomy (sizeA l a) n with h|h|h
 · have:=sizeA_not (l:=l) (a:=a) (by omega)
   rw [hall _ h] at this;cases this
 · exact h
 · have:=sizeA_has (l:=l) (a:=a) h
   rw [hn (by omega)] at this;cases this
theorem name_no91 {a:Str} {i:Nat}:nameS (elemS a i)=false:=by
 rw [Bool.eq_false_iff]
 intro h
 exact nameS_no91 h 91 (by simp [elemS]) rfl
theorem elem8_not {a:Str}:varS (elemS a 8)=false:=by
 have:elemO (elemS a 8)=none:=by
  rw [elemO_none]
  rintro b i ⟨h1,h2,h3⟩
  have h:=congrArg List.getLast? (congrArg List.dropLast h3)
  simp only [elemS] at h3
  obtain⟨h4,h5⟩:=List.append_inj' h3 rfl
  simp only [List.cons.injEq,true_and,and_true] at h5
  have:=congrArg UInt8.toNat h5
  simp at this
  omega
 simp [varS,name_no91,this]
theorem hasV_8 {l:List Var} {a:Str} (hv:∀ v∈l,varS v.name=true):hasV l (elemS a 8)=false:=by
 unfold hasV
 rw [Bool.eq_false_iff]
 intro h
 obtain⟨v,hm,he⟩:=List.any_eq_true.1 h
 have:=hv v hm
 rw [eq_of_beq he,elem8_not] at this;cases this
/-! ### The scalar form -/
def constE (n:Int):Ex:=.mk 1 n [] []
def itemE (a:Str) (i:Nat):Ex:=.mk 2 0 (elemS a i) []
def sumE (a:Str):Nat→Ex
 | 0=>itemE a 0
 | k+1=>.mk 7 0 [] [sumE a k,itemE a (k+1)]
def ifsE (a:Str) (idx:Ex) (n:Nat):Nat→Ex
 | 0=>constE 0
 | k+1=>.mk 22 0 [] [.mk 15 0 [] [idx,constE ((n-1-k:Nat):Int)],itemE a (n-1-k),ifsE a idx n k]
def chainE (a:Str) (idx:Ex) (n:Nat):Ex:=if idx.op=1 then (if idx.n<n then itemE a idx.n.toNat else constE 0) else ifsE a idx n n
def headE (l:List Ex):Ex:=match l with
 | []=>constE 0
 | a::_=>a
mutual
def scE (l:List Var):Ex→Ex
 | .mk op n s args=>if op=24 then sumE s (sizeA l s-1) else if op=3 then chainE s (headE (scEs l args)) (sizeA l s) else .mk op n s (scEs l args)
def scEs (l:List Var):List Ex→List Ex
 | []=>[]
 | e::r=>scE l e::scEs l r
end
@[simp] theorem scEs_eq (l:List Var):∀ x,scEs l x=x.map (scE l)
 | []=>by simp [scEs]
 | e::r=>by simp [scEs,scEs_eq l r]
theorem scE_eq (l:List Var) (e:Ex):scE l e=if e.op=24 then sumE e.name (sizeA l e.name-1) else if e.op=3 then chainE e.name (headE (e.args.map (scE l))) (sizeA l e.name) else .mk e.op e.n e.name (e.args.map (scE l)):=by
 cases e
 rw [scE,scEs_eq]
 rfl
/-! ### Unknown names -/
def unk1 (l:List Var) (x:Ex):Bool:=(decide (x.op=2)&&!hasV l x.name)||(decide (x.op=3∨x.op=24)&&decide (sizeA l x.name=0))
def unkB (l:List Var) (e:Ex):Bool:=(pre e).any (unk1 l)
theorem unkB_eq (l:List Var) (e:Ex):unkB l e=(unk1 l e||e.args.any (unkB l)):=by
 unfold unkB
 rw [pre_eq,List.any_cons]
 congr 1
 generalize e.args=m
 induction m with
 | nil=>simp
 | cons a r ih=>simp [ih,List.any_append]
theorem unkB_self {l:List Var} {e:Ex} (h:unkB l e=false):unk1 l e=false:=by
 rw [unkB_eq,Bool.or_eq_false_iff] at h;exact h.1
theorem unkB_arg {l:List Var} {e a:Ex} (h:unkB l e=false) (ha:a∈e.args):unkB l a=false:=by
 rw [unkB_eq,Bool.or_eq_false_iff] at h
 rw [Bool.eq_false_iff]
 intro h'
 have:=List.any_eq_true.2 ⟨a,ha,h'⟩
 rw [this] at h;cases h.2
theorem unk1_size {l:List Var} {e:Ex} (h:unk1 l e=false) (ho:e.op=3∨e.op=24):1≤sizeA l e.name:=by
 unfold unk1 at h
 rw [Bool.or_eq_false_iff] at h
 have h2:=h.2
 rw [decide_eq_true ho,Bool.true_and] at h2
 have:¬ sizeA l e.name=0:=by simpa using h2
 omega
theorem unk1_var {l:List Var} {e:Ex} (h:unk1 l e=false) (ho:e.op=2):hasV l e.name=true:=by
 unfold unk1 at h
 rw [Bool.or_eq_false_iff] at h
 have h2:=h.1
 rw [decide_eq_true ho,Bool.true_and] at h2
 simpa using h2
/-! ### How large it is -/
/-- A sum that stops above the limit. -/
def capS (s:Int):List (Int×Int)→Int
 | []=>s
 | m::r=>capS (if 401<s+m.1 then 401 else s+m.1) r
def lastX (x:Int×Int):List (Int×Int)→Int×Int
 | []=>x
 | m::r=>lastX m r
def extN (l:List Var) (op n:Int) (s:Str) (xs:List (Int×Int)):Int×Int :=
 if op=1 then (1,n) else if op=24 then (2*(sizeA l s:Int)-1,-1) else
 if op≠3 then (capS 1 xs,-1) else
 if (sizeA l s:Int)≤(lastX (0,-1) xs).2 then (1,0) else if 0≤(lastX (0,-1) xs).2 then (1,-1) else
 (if 401<(sizeA l s:Int)*((lastX (0,-1) xs).1+4)+1 then 401 else (sizeA l s:Int)*((lastX (0,-1) xs).1+4)+1,-1)
mutual
def extE (l:List Var):Ex→Int×Int
 | .mk op n s args=>extN l op n s (extEs l args)
def extEs (l:List Var):List Ex→List (Int×Int)
 | []=>[]
 | e::r=>extE l e::extEs l r
end
@[simp] theorem extEs_eq (l:List Var):∀ x,extEs l x=x.map (extE l)
 | []=>by simp [extEs]
 | e::r=>by simp [extEs,extEs_eq l r]
theorem extE_eq (l:List Var) (e:Ex):extE l e=extN l e.op e.n e.name (e.args.map (extE l)):=by cases e;simp [extE]
theorem capS_mono:∀ {xs:List (Int×Int)} {s:Int},s≤401→(∀ x∈xs,0≤x.1)→s≤capS s xs∧capS s xs≤401
 | [],s,h,_=>⟨Int.le_refl _,h⟩
 | m::r,s,h,hx=>by
  have h0:=hx m (by simp)
  have:=capS_mono (xs:=r) (s:=if 401<s+m.1 then 401 else s+m.1) (by split<;>omega) fun x h=>hx x (by simp [h])
  simp only [capS]
  split at this<;>(rename_i hc;simp only [hc,if_true,if_false];omega)
def sumX:List (Int×Int)→Int
 | []=>0
 | m::r=>m.1+sumX r
theorem sumX_nn:∀ {xs:List (Int×Int)},(∀ x∈xs,0≤x.1)→0≤sumX xs
 | [],_=>Int.le_refl _
 | m::r,h=>by
  have:=h m (by simp)
  have:=sumX_nn (xs:=r) fun x hx=>h x (by simp [hx])
  simp only [sumX];omega
theorem capS_sum:∀ {xs:List (Int×Int)} {s:Int},s≤401→(∀ x∈xs,0≤x.1)→capS s xs≤400→capS s xs=s+sumX xs
 | [],s,h,_,_=>by simp [capS,sumX]
 | m::r,s,h,hx,hc=>by
  have h0:=hx m (by simp)
  have hr:∀ x∈r,0≤x.1:=fun x h=>hx x (by simp [h])
  simp only [capS] at hc ⊢
  by_cases h4:401<s+m.1
  · rw [if_pos h4] at hc
    have:=(capS_mono (xs:=r) (s:=401) (by omega) hr).1
    omega
  · rw [if_neg h4] at hc ⊢
    rw [capS_sum (by omega) hr hc]
    simp only [sumX];omega
theorem sumX_mem:∀ {xs:List (Int×Int)} {x:Int×Int},(∀ x∈xs,0≤x.1)→x∈xs→x.1≤sumX xs
 | m::r,x,h,hx=>by
  have h0:=h m (by simp)
  have hr:∀ x∈r,0≤x.1:=fun x hx=>h x (by simp [hx])
  have:=sumX_nn hr
  simp only [sumX]
  rcases List.mem_cons.1 hx with rfl|hx
  · omega
  · have:=sumX_mem hr hx;omega
theorem pre_item (a:Str) (i:Nat):pre (itemE a i)=[itemE a i]:=by simp [itemE,pre_eq]
theorem pre_const (n:Int):pre (constE n)=[constE n]:=by simp [constE,pre_eq]
theorem sumE_len (a:Str):∀ k,(pre (sumE a k)).length=2*k+1
 | 0=>by simp [sumE,pre_item]
 | k+1=>by
  have:=sumE_len a k
  rw [sumE,pre_eq]
  simp [pre_item,this];omega
theorem ifsE_len (a:Str) (idx:Ex) (n:Nat):∀ k,(pre (ifsE a idx n k)).length=k*((pre idx).length+4)+1
 | 0=>by simp [ifsE,pre_const]
 | k+1=>by
  have:=ifsE_len a idx n k
  rw [ifsE,pre_eq]
  simp [pre_item,pre_const,pre_eq (Ex.mk 15 0 [] _),this,Nat.succ_mul];omega
theorem preL_len:∀ (l:List Ex),(preL l).length=(l.map fun e=>(pre e).length).sum
 | []=>by simp
 | e::r=>by simp [preL_len r]
/-- What is said of a scalar form and its extent. -/
structure ExtOk (l:List Var) (e:Ex):Prop where
 nn:1≤(extE l e).1∧(extE l e).1≤401
 val:(0≤(extE l e).2∧(scE l e).op=1∧(scE l e).n=(extE l e).2)∨((extE l e).2 = -1∧(scE l e).op≠1)
 len:(extE l e).1≤400→((pre (scE l e)).length:Int)=(extE l e).1
theorem args1 {e:Ex} (hn:NodesOk e) (h3:e.op=3):∃ a,e.args=[a]:=by
 obtain⟨_,_,_,_,ho,_⟩:=nodeE_zero hn.self
 have h:=operands_args ho (by omega)
 have h1:arityS e.op=1:=by rw [h3];decide
 rw [h1] at h
 match hx:e.args,h with
 | [a],_=>exact⟨a,rfl⟩
theorem extOk (l:List Var):∀ e,NodesOk e→unkB l e=false→ExtOk l e:=by
 refine Ex.ind fun e ih hn hu=>?_
 have ih':∀ a∈e.args,ExtOk l a:=fun a ha=>ih a ha (hn.arg ha) (unkB_arg hu ha)
 obtain⟨k1,k2,k3,k4,k5,_⟩:=nodeE_zero hn.self
 have h8:=sizeA_le l e.name
 by_cases c1:e.op=1
 · have x1:extE l e=(1,e.n):=by rw [extE_eq];unfold extN;rw [if_pos c1]
   have ha:e.args=[]:=by
    have h:=operands_args k5 (by omega)
    have h1:arityS e.op=0:=by rw [c1];decide
    rw [h1] at h
    exact List.length_eq_zero_iff.1 (by omega)
   have x2:scE l e=.mk e.op e.n e.name []:=by rw [scE_eq,if_neg (by omega),if_neg (by omega),ha];rfl
   have:=k3 c1
   refine⟨?_,?_,fun _=>?_⟩
   · rw [x1];simp
   · left;rw [x1,x2];exact⟨this.1,c1,rfl⟩
   · rw [x1,x2,pre_eq];simp
 by_cases c24:e.op=24
 · have hs:=unk1_size (unkB_self hu) (.inr c24)
   have x1:extE l e=(2*(sizeA l e.name:Int)-1,-1):=by rw [extE_eq];unfold extN;rw [if_neg c1,if_pos c24]
   have x2:scE l e=sumE e.name (sizeA l e.name-1):=by rw [scE_eq,if_pos c24]
   refine⟨?_,?_,fun _=>?_⟩
   · rw [x1];constructor<;>(show _≤_;omega)
   · right;rw [x1,x2]
     refine⟨rfl,?_⟩
     cases sizeA l e.name-1<;>simp [sumE,itemE]
   · rw [x1,x2,sumE_len];show _=_;omega
 have hxs:∀ x∈e.args.map (extE l),0≤x.1:=by
  intro x hx
  obtain⟨a,ha,rfl⟩:=List.mem_map.1 hx
  have:=(ih' a ha).nn;omega
 by_cases c3:e.op=3
 · have hs:=unk1_size (unkB_self hu) (.inl c3)
   obtain⟨a,ha⟩:=args1 hn c3
   have ia:=ih' a (by rw [ha];simp)
   have xl:lastX (0,-1) (e.args.map (extE l))=extE l a:=by rw [ha];rfl
   have xh:headE (e.args.map (scE l))=scE l a:=by rw [ha];rfl
   have x2:scE l e=chainE e.name (scE l a) (sizeA l e.name):=by rw [scE_eq,if_neg c24,if_pos c3,xh]
   have x1:extE l e=if (sizeA l e.name:Int)≤(extE l a).2 then (1,0) else if 0≤(extE l a).2 then (1,-1) else
    (if 401<(sizeA l e.name:Int)*((extE l a).1+4)+1 then 401 else (sizeA l e.name:Int)*((extE l a).1+4)+1,-1):=by
    rw [extE_eq];unfold extN;rw [if_neg c1,if_neg c24,if_neg (by simp [c3]),xl]
   obtain⟨n1,n2⟩:=ia.nn
   rcases ia.val with ⟨v0,vo,vn⟩|⟨v0,vo⟩
   · have x3:scE l e=if (extE l a).2<(sizeA l e.name:Int) then itemE e.name (extE l a).2.toNat else constE 0:=by
      rw [x2];unfold chainE;rw [if_pos vo,vn]
     by_cases hc:(sizeA l e.name:Int)≤(extE l a).2
     · rw [if_pos hc] at x1
       rw [if_neg (by omega)] at x3
       refine⟨by rw [x1];simp,?_,fun _=>by rw [x1,x3,pre_const];simp⟩
       left;rw [x1,x3];exact⟨by simp,rfl,rfl⟩
     · rw [if_neg hc,if_pos v0] at x1
       rw [if_pos (by omega)] at x3
       refine⟨by rw [x1];simp,?_,fun _=>by rw [x1,x3,pre_item];simp⟩
       right;rw [x1,x3];exact⟨rfl,by simp [itemE]⟩
   · have x3:scE l e=ifsE e.name (scE l a) (sizeA l e.name) (sizeA l e.name):=by
      rw [x2];unfold chainE;rw [if_neg vo]
     rw [v0,if_neg (by omega),if_neg (by omega)] at x1
     have hp:(sizeA l e.name:Int)*((extE l a).1+4)=(extE l a).1*(sizeA l e.name:Int)+4*(sizeA l e.name:Int):=by
      rw [Int.mul_add,Int.mul_comm];omega
     have hge:(extE l a).1≤(extE l a).1*(sizeA l e.name:Int):=by
      have:=Int.mul_le_mul_of_nonneg_left (show (1:Int)≤(sizeA l e.name:Int) by omega) (show 0≤(extE l a).1 by omega)
      omega
     refine⟨?_,?_,fun h4=>?_⟩
     · rw [x1]
       have:∀ z:Int,1≤z→1≤(if 401<z then 401 else z)∧(if 401<z then 401 else z)≤401:=fun z hz=>by split<;>omega
       exact this _ (by omega)
     · right;rw [x1,x3]
       refine⟨rfl,?_⟩
       obtain⟨k,hk⟩:∃ k,sizeA l e.name=k+1:=⟨sizeA l e.name-1,by omega⟩
       rw [hk,ifsE];simp
     · rw [x1] at h4 ⊢
       simp only at h4 ⊢
       split at h4
       · omega
       · rename_i hc
         rw [if_neg hc,x3,ifsE_len]
         have hl:=ia.len (by omega)
         rw [← hl]
         simp [Int.natCast_mul]
 · have x1:extE l e=(capS 1 (e.args.map (extE l)),-1):=by rw [extE_eq];unfold extN;rw [if_neg c1,if_neg c24,if_pos c3]
   have x2:scE l e=.mk e.op e.n e.name (e.args.map (scE l)):=by rw [scE_eq,if_neg c24,if_neg c3]
   have hm:=capS_mono (xs:=e.args.map (extE l)) (s:=1) (by omega) hxs
   refine⟨by rw [x1];exact hm,by right;rw [x1,x2];exact⟨rfl,c1⟩,fun h4=>?_⟩
   rw [x1] at h4 ⊢
   simp only at h4 ⊢
   have hs:=capS_sum (by omega) hxs h4
   rw [hs,x2,pre_eq]
   have hall:∀ a∈e.args,(extE l a).1≤400:=fun a ha=>by
    have:=sumX_mem hxs (List.mem_map.2 ⟨a,ha,rfl⟩)
    omega
   have key:∀ (m:List Ex),(∀ a∈m,((pre (scE l a)).length:Int)=(extE l a).1)→((preL (m.map (scE l))).length:Int)=sumX (m.map (extE l)):=by
    intro m
    induction m with
    | nil=>intro _;simp [sumX]
    | cons a r ihr=>
     intro h
     have h1:=h a (by simp)
     have h2:=ihr fun x hx=>h x (by simp [hx])
     simp only [List.map_cons,preL_cons,List.length_append,sumX]
     omega
   have:=key e.args fun a ha=>(ih' a ha).len (hall a ha)
   simp only [Ex.args_mk,List.length_cons]
   omega
theorem encE_len (e:Ex):(encE e).length=4:=by rw [encE_eq];rfl
theorem acells_encE (e:Ex):acells (.agg (encE e))=some (encE e):=by rw [encE_eq];simp [acells,AV.atom]
theorem encE_atoms (e:Ex):(encE e).all AV.atom=true:=by
 rw [encE_eq]
 simp
theorem acells_int (k:IntKind) (n:Int):acells (.int k n)=some [.int k n]:=rfl
theorem acells_str (t:List UInt8):acells (.str t)=some [.str t]:=rfl
theorem acells_bool (b:Bool):acells (.bool b)=some [.bool b]:=rfl
theorem acells_sl (sz:Nat) (rows:List (List AV)) (tok:Tok):acells (.sl sz rows tok)=some [.sl sz rows tok]:=rfl
theorem acells_agg {cs:List AV} (h:cs.all AV.atom=true):acells (.agg cs)=some cs:=by simp only [acells,h,if_true]
theorem putAt_whole:∀ (c new:List AV),c.length=new.length→putAt c 0 new=new:=by
 have gen:∀ (new pre c:List AV),c.length=new.length→putAt (pre++c) pre.length new=pre++new:=by
  intro new
  induction new with
  | nil=>intro pre c h;have:c=[]:=List.length_eq_zero_iff.1 h;subst this;simp [putAt]
  | cons v r ih=>
   intro pre c h
   cases c with
   | nil=>simp at h
   | cons x c=>
    have h':c.length=r.length:=by simpa using h
    have:=ih (pre++[v]) c h'
    simp only [List.append_assoc,List.singleton_append,List.length_append,List.length_singleton] at this
    rw [putAt]
    have e:(pre++x::c).set pre.length v=pre++v::c:=by simp
    rw [e]
    exact this
 intro c new h
 simpa using gen new [] c h
theorem putAt_encE (a b c d:AV) (e:Ex):putAt [a,b,c,d] 0 (encE e)=encE e:=putAt_whole _ _ (by rw [encE_len];rfl)
theorem putAt_encE2 (x e:Ex):putAt (encE x) 0 (encE e)=encE e:=putAt_whole _ _ (by rw [encE_len,encE_len])
theorem take_encE (e:Ex):(encE e).take 4=encE e:=List.take_of_length_le (by rw [encE_len];omega)
theorem fin1_encE (H:List Blk) (e:Ex):(encE e).map (fin1 H)=encE e:=by
 have:=nrE' e
 exact fin1s_noRef this
/-- What an appended list looks like. -/
def outK {α:Type} (sz:Nat) (en:α→List AV) (s:List α):AV:=match s with
 | []=>.sl 0 [] .nil
 | a::r=>.sl sz ((a::r).map en) (.chain 0 (r.length+1))
def outTK {α:Type} (s:List α):List (Option Nat):=match s with
 | []=>[]
 | _::r=>[some (r.length+1)]
@[simp] theorem outK_nil {α:Type} {sz:Nat} {en:α→List AV}:outK sz en ([]:List α)=.sl 0 [] .nil:=rfl
@[simp] theorem outTK_nil {α:Type}:outTK ([]:List α)=[]:=rfl
theorem outK_atom {α:Type} {sz:Nat} {en:α→List AV} (s:List α):acells (outK sz en s)=some [outK sz en s]:=by cases s<;>rfl
theorem outK_atomB {α:Type} {sz:Nat} {en:α→List AV} (s:List α):AV.atom (outK sz en s)=true:=by cases s<;>rfl
theorem acells_ex {α:Type} {sz:Nat} {en:α→List AV} (o n:Int) (t:Str) (s:List α):acells (.agg [.int .i64 o,.int .i64 n,.str t,outK sz en s])=some [.int .i64 o,.int .i64 n,.str t,outK sz en s] :=
 acells_agg (by simp only [List.all_cons,List.all_nil,outK_atomB];rfl)
theorem outK_fin {α:Type} {sz:Nat} {en:α→List AV} (s:List α) (H:List Blk) (hn:∀ x,noRefs (en x)=true):noRef (fin1 H (outK sz en s))=true∧Leq (fin1 H (outK sz en s)) (.sl sz (s.map en) .none):=by
 cases s with
 | nil=>simp [outK,Leq]
 | cons a r=>
  have h:=noRefss_map hn (a::r)
  refine⟨?_,Leq.sl rfl⟩
  simpa [outK] using h
theorem outK_ref {α:Type} {sz:Nat} {en:α→List AV} (s:List α) (hn:∀ x,noRefs (en x)=true):noRef (plain (outK sz en s))=true∧Leq (plain (outK sz en s)) (.sl sz (s.map en) .none):=by
 cases s with
 | nil=>simp [outK,Leq]
 | cons a r=>
  have h:=noRefss_map hn (a::r)
  refine⟨?_,Leq.sl rfl⟩
  simpa [outK] using h
/-- No node has more operands than this. -/
def Slim (e:Ex):Prop:=∀ x∈pre e,x.args.length≤2000000
theorem Slim.self {e:Ex} (h:Slim e):e.args.length≤2000000:=h e (by rw [pre_eq];simp)
theorem Slim.arg {e a:Ex} (h:Slim e) (ha:a∈e.args):Slim a:=fun x hx=>h x (by rw [pre_eq];exact List.mem_cons_of_mem _ (mem_preL.2 ⟨a,ha,hx⟩))
abbrev I_ (n:Int):AV:=.int .i64 n
theorem wq {n:Nat} (h:n≤4611686018427387904):IntKind.i64.wrap ((n:Int)+1)=(n+1:Nat):=by rw [wr (by omega) (by omega)];omega
abbrev sV (l:List Var):AV:=.sl 4 (l.map encVar) .none
abbrev sE (l:List Ex):AV:=.sl 4 (l.map encE) .none
abbrev sN (l:List Int):AV:=.sl 1 (l.map encInt) .none
abbrev sS (l:List Str):AV:=.sl 1 (l.map encStr) .none
abbrev sW (l:List Weight):AV:=.sl 4 (l.map encWeight) .none
structure Fld where
 name:Str
 width:Int
 size:Int
 mode:Int
 init:Int
inductive It where
 | mk (kind:Int) (expr:Ex) (name index:Str) (ws:List Weight) (items els:List It) (before after:List Str)
structure Blc where
 name:Str
 items:List It
structure Cls where
 name:Str
 parent:Str
 fields:List Fld
 blocks:List Blc
structure Ask where
 src:List Cls
 name:Str
 off:List Str
 more:List It
 state:List Signal
def It.kind:It→Int | .mk k _ _ _ _ _ _ _ _=>k
def It.expr:It→Ex | .mk _ e _ _ _ _ _ _ _=>e
def It.name:It→Str | .mk _ _ n _ _ _ _ _ _=>n
def It.index:It→Str | .mk _ _ _ i _ _ _ _ _=>i
def It.ws:It→List Weight | .mk _ _ _ _ w _ _ _ _=>w
def It.items:It→List It | .mk _ _ _ _ _ l _ _ _=>l
def It.els:It→List It | .mk _ _ _ _ _ _ l _ _=>l
def It.before:It→List Str | .mk _ _ _ _ _ _ _ b _=>b
def It.after:It→List Str | .mk _ _ _ _ _ _ _ _ a=>a
@[simp] def encFld (f:Fld):List AV:=[.str f.name,.int .i64 f.width,.int .i64 f.size,.int .i64 f.mode,.int .i64 f.init]
mutual
def encI:It→List AV
 | .mk k e n i w l m b a=>.int .i64 k::(encE e++[.str n,.str i,.sl 4 (w.map encWeight) .none,.sl 12 (encIs l) .none,.sl 12 (encIs m) .none,.sl 1 (b.map encStr) .none,.sl 1 (a.map encStr) .none])
def encIs:List It→List (List AV)
 | []=>[]
 | a::r=>encI a::encIs r
end
@[simp] theorem encIs_eq:∀ l,encIs l=l.map encI
 | []=>rfl
 | a::r=>by simp [encIs,encIs_eq r]
theorem encI_eq (x:It):encI x=.int .i64 x.kind::(encE x.expr++[.str x.name,.str x.index,.sl 4 (x.ws.map encWeight) .none,.sl 12 (x.items.map encI) .none,.sl 12 (x.els.map encI) .none,.sl 1 (x.before.map encStr) .none,.sl 1 (x.after.map encStr) .none]):=by
 cases x
 simp only [encI,encIs_eq]
 rfl
@[simp] def encBlc (b:Blc):List AV:=[.str b.name,.sl 12 (b.items.map encI) .none]
@[simp] def encCls (c:Cls):List AV:=[.str c.name,.str c.parent,.sl 5 (c.fields.map encFld) .none,.sl 2 (c.blocks.map encBlc) .none]
@[simp] def encAsk (x:Ask):List AV:=[.sl 4 (x.src.map encCls) .none,.str x.name,.sl 1 (x.off.map encStr) .none,.sl 12 (x.more.map encI) .none,.sl 2 (x.state.map encSignal) .none]
@[simp] theorem nrFld (l:List Fld):noRefss (l.map encFld)=true:=noRefss_map (fun x=>by simp) l
theorem noRefs_app:∀ {a b:List AV},noRefs a=true→noRefs b=true→noRefs (a++b)=true
 | [],b,_,h=>h
 | x::r,b,h,h'=>by
  simp only [noRefs,List.cons_append,Bool.and_eq_true] at h ⊢
  exact⟨h.1,noRefs_app h.2 h'⟩
mutual
theorem nrI':∀ x,noRefs (encI x)=true
 | .mk k e n i w l m b a=>by
  have h1:=nrIs' l
  have h2:=nrIs' m
  simp only [encI,noRefs,Bool.and_eq_true]
  refine⟨by simp,noRefs_app (nrE' e) ?_⟩
  rw [encIs_eq] at h1 h2 ⊢
  rw [encIs_eq]
  simp [h1,h2]
theorem nrIs':∀ l,noRefss (encIs l)=true
 | []=>rfl
 | a::r=>by simp only [encIs,noRefss,nrI' a,nrIs' r,Bool.and_self]
end
@[simp] theorem nrI (x:It):noRefs (encI x)=true:=nrI' x
@[simp] theorem nrIs (l:List It):noRefss (l.map encI)=true:=noRefss_map (fun x=>nrI' x) l
@[simp] theorem nrBlc (l:List Blc):noRefss (l.map encBlc)=true:=noRefss_map (fun x=>by simp) l
@[simp] theorem nrCls (l:List Cls):noRefss (l.map encCls)=true:=noRefss_map (fun x=>by simp) l
theorem encI_len (x:It):(encI x).length=12:=by rw [encI_eq];simp [encE_len]
theorem encI_atoms (x:It):(encI x).all AV.atom=true:=by
 rw [encI_eq,List.all_cons,List.all_append,encE_atoms]
 rfl
theorem acells_encI (x:It):acells (.agg (encI x))=some (encI x):=acells_agg (encI_atoms x)
theorem take_encI (x:It):(encI x).take 12=encI x:=List.take_of_length_le (by rw [encI_len];omega)
mutual
theorem It.ind {p:It→Prop} (h:∀ x,(∀ a∈x.items,p a)→(∀ a∈x.els,p a)→p x):∀ x,p x
 | .mk k e n i w l m b a=>h _ (It.indL h l) (It.indL h m)
theorem It.indL {p:It→Prop} (h:∀ x,(∀ a∈x.items,p a)→(∀ a∈x.els,p a)→p x):∀ (l:List It),∀ a∈l,p a
 | [],_,hm=>by cases hm
 | e::r,a,hm=>by
  rcases List.mem_cons.1 hm with hm|hm
  · rw [hm];exact It.ind h e
  · exact It.indL h r a hm
end
abbrev sI (l:List It):AV:=.sl 12 (l.map encI) .none
def topF (f:Fld):Int:=if f.mode=0 then 2 ^ f.width.toNat-1 else 0
def fieldE (f:Fld):Int :=
 if nameS f.name=false then 7
 else if f.width<1∨8<f.width∨f.size<0∨8<f.size then 1
 else if f.mode≠0∧f.mode≠1∧f.mode≠2 then 1
 else if f.size≠0∧f.mode=2 then 1
 else if f.init<0∨topF f<f.init then 1
 else 0
/-- Does the element with index i have the name of one before it? -/
def repAt {α:Type} (nm:α→Str) (l:List α) (i:Nat):Bool:=match l[i]? with
 | some x=>(l.take i).any fun y=>nm x==nm y
 | none=>false
def repS {α:Type} (nm:α→Str) (l:List α):Bool:=(List.range l.length).any (repAt nm l)
def clsE (c:Cls):Int :=
 if nameS c.name=false∨(c.parent≠[]∧nameS c.parent=false) then 7
 else if 16<c.fields.length∨16<c.blocks.length then 2
 else if firstE fieldE c.fields≠0 then firstE fieldE c.fields
 else if c.blocks.any (fun b=>!nameS b.name)=true then 7
 else if repS Fld.name c.fields=true∨repS Blc.name c.blocks=true then 8
 else 0
def zCls:Cls:=⟨[],[],[],[]⟩
def findC (src:List Cls) (name:Str):Option Cls:=src.find? fun c=>c.name==name
def findD (src:List Cls) (name:Str):Cls:=(findC src name).getD zCls
def namesE (src:List Cls):Int :=
 if repS Cls.name src=true then 8
 else if src.any (fun c=>!decide (c.parent=[])&&(findC src c.parent).isNone)=true then 7
 else 0
/-- A class, its parent, and so on; nothing if the line is longer than allowed. -/
def ancS (src:List Cls):Nat→Cls→Option (List Cls)
 | 0,c=>if c.parent=[] then some [c] else none
 | f+1,c=>if c.parent=[] then some [c] else (ancS src f (findD src c.parent)).map (c::·)
def putB (l:List Blc) (b:Blc):List Blc :=
 if 0≤findI (fun y:Blc=>y.name==b.name) l 0 then l.set (findI (fun y:Blc=>y.name==b.name) l 0).toNat b else l++[b]
def clashB (l m:List Fld):Bool:=m.any fun x=>l.any fun y=>y.name==x.name
def extS (c:Cls) (s:Cls×Bool):Cls×Bool:=(⟨c.name,s.1.parent,s.1.fields++c.fields,c.blocks.foldl putB s.1.blocks⟩,s.2||clashB s.1.fields c.fields)
def flatS (line:List Cls):Cls×Bool:=line.foldr extS (zCls,false)
def largeB (c:Cls):Bool:=decide (16<c.fields.length)||decide (16<c.blocks.length)
def lineD (src:List Cls) (c:Cls):List Cls:=(ancS src src.length c).getD []
def checkS (src:List Cls):Int :=
 if 32<src.length then 2
 else if firstE clsE src≠0 then firstE clsE src
 else if namesE src≠0 then namesE src
 else if src.any (fun c=>(ancS src src.length c).isNone)=true then 10
 else if src.any (fun c=>(flatS (lineD src c)).2)=true then 8
 else if src.any (fun c=>largeB (flatS (lineD src c)).1)=true then 2
 else 0
def lineE (src:List Cls) (name:Str):Int:=if checkS src≠0 then checkS src else if (findC src name).isNone=true then 12 else 0
def lineS (src:List Cls) (name:Str):List Cls:=if lineE src name≠0 then [] else lineD src (findD src name)
def flattenS (src:List Cls) (name:Str):Cls:=if lineE src name≠0 then zCls else (flatS (lineS src name)).1
def varsF (f:Fld):List Var:=(if f.size=0 then [⟨f.name,f.width,f.mode,f.init⟩] else [])++(List.range f.size.toNat).map fun i=>⟨elemS f.name i,f.width,f.mode,f.init⟩
def varsC (c:Cls):List Var:=if clsE c≠0 then [] else c.fields.flatMap varsF
/-! ### What follows from a check -/
theorem repS_nodup {α:Type} {nm:α→Str} {l:List α} (h:repS nm l=false):(l.map nm).Nodup:=by
 unfold repS at h
 rw [List.any_eq_false] at h
 rw [List.Nodup,List.pairwise_iff_getElem]
 intro i j hi hj hij e
 have hj':j<l.length:=by simpa using hj
 have hi':i<l.length:=by simpa using hi
 refine h j (List.mem_range.2 hj') ?_
 unfold repAt
 rw [List.getElem?_eq_getElem hj',List.any_eq_true]
 refine⟨l[i],?_,?_⟩
 · rw [List.mem_take_iff_getElem]
   exact⟨i,by omega,rfl⟩
 · simp only [List.getElem_map] at e
   simp [e]
structure ClsOk (c:Cls):Prop where
 name:nameS c.name=true
 parent:c.parent=[]∨nameS c.parent=true
 nf:c.fields.length≤16
 nb:c.blocks.length≤16
 fields:∀ f∈c.fields,fieldE f=0
 blocks:∀ b∈c.blocks,nameS b.name=true
 fnd:(c.fields.map Fld.name).Nodup
 bnd:(c.blocks.map Blc.name).Nodup
theorem clsE_zero {c:Cls} (h:clsE c=0):ClsOk c:=by
 unfold clsE at h
 split at h
 · cases h
 rename_i h1
 split at h
 · cases h
 rename_i h2
 split at h
 · rename_i h3;exact absurd h h3
 rename_i h3
 split at h
 · cases h
 rename_i h4
 split at h
 · cases h
 rename_i h5
 refine⟨by simpa using fun e=>h1 (.inl e),?_,by omega,by omega,firstE_zero.1 (Classical.not_not.1 h3),?_,repS_nodup ?_,repS_nodup ?_⟩
 · by_cases hp:c.parent=[]
   · exact .inl hp
   · right
     cases e:nameS c.parent with
     | true=>rfl
     | false=>exact absurd (.inr ⟨hp,e⟩) h1
 · intro b hb
   cases e:nameS b.name with
   | true=>rfl
   | false=>exact absurd (List.any_eq_true.2 ⟨b,hb,by simp [e]⟩) h4
 · cases e:repS Fld.name c.fields with
   | false=>rfl
   | true=>exact absurd (.inl e) h5
 · cases e:repS Blc.name c.blocks with
   | false=>rfl
   | true=>exact absurd (.inr e) h5
structure FldOk (f:Fld):Prop where
 name:nameS f.name=true
 w1:1≤f.width
 w8:f.width≤8
 s0:0≤f.size
 s8:f.size≤8
 mode:f.mode=0∨f.mode=1∨f.mode=2
 cyc:f.mode=2→f.size=0
 i0:0≤f.init
 i1:f.init≤topF f
theorem fieldE_zero {f:Fld} (h:fieldE f=0):FldOk f:=by
 unfold fieldE at h
 split at h
 · cases h
 rename_i h1
 split at h
 · cases h
 rename_i h2
 split at h
 · cases h
 rename_i h3
 split at h
 · cases h
 rename_i h4
 split at h
 · cases h
 rename_i h5
 exact⟨by simpa using h1,by omega,by omega,by omega,by omega,by omega,by omega,by omega,by omega⟩
/-- How long a line is. -/
theorem ancS_len {src:List Cls}:∀ {f:Nat} {c:Cls} {l:List Cls},ancS src f c=some l→1≤l.length∧l.length≤f+1
 | 0,c,l,h=>by
  simp only [ancS] at h
  split at h
  · cases h;simp
  · cases h
 | f+1,c,l,h=>by
  simp only [ancS] at h
  split at h
  · cases h;simp
  · obtain⟨m,hm,rfl⟩:=Option.map_eq_some_iff.1 h
    have:=ancS_len hm
    simp;omega
theorem findD_mem {src:List Cls} {name:Str}:findD src name∈src∨findD src name=zCls:=by
 unfold findD
 cases h:findC src name with
 | none=>exact .inr rfl
 | some c=>exact .inl (List.mem_of_find?_eq_some h)
/-- Where the classes of a line come from. -/
theorem ancS_mem {src:List Cls}:∀ {f:Nat} {c:Cls} {l:List Cls},ancS src f c=some l→∀ x∈l,x=c∨x∈src∨x=zCls
 | 0,c,l,h,x,hx=>by
  simp only [ancS] at h
  split at h
  · cases h;simp at hx;exact .inl hx
  · cases h
 | f+1,c,l,h,x,hx=>by
  simp only [ancS] at h
  split at h
  · cases h;simp at hx;exact .inl hx
  · obtain⟨m,hm,rfl⟩:=Option.map_eq_some_iff.1 h
    rcases List.mem_cons.1 hx with rfl|hx
    · exact .inl rfl
    · rcases ancS_mem hm x hx with rfl|h
      · exact .inr findD_mem
      · exact .inr h
theorem findI_range {α:Type} {p:α→Bool}:∀ {l:List α} {i:Int},0≤i→0≤findI p l i→i≤findI p l i∧findI p l i<i+l.length
 | [],i,_,h=>by simp [findI] at h
 | v::r,i,hi,h=>by
  simp only [findI,List.length_cons] at h ⊢
  split
  · omega
  · rename_i hp
    rw [if_neg hp] at h
    have:=findI_range (l:=r) (i:=i+1) (by omega) h
    omega
theorem putB_len {l:List Blc} {b:Blc}:(putB l b).length≤l.length+1:=by
 unfold putB
 split<;>simp
theorem foldB_len:∀ {m:List Blc} {l:List Blc},(m.foldl putB l).length≤l.length+m.length
 | [],l=>by simp
 | b::r,l=>by
  have:=foldB_len (m:=r) (l:=putB l b)
  have:=putB_len (l:=l) (b:=b)
  simp only [List.foldl_cons,List.length_cons];omega
theorem putB_mem {l:List Blc} {b x:Blc} (h:x∈putB l b):x∈l∨x=b:=by
 unfold putB at h
 split at h
 · rcases List.mem_or_eq_of_mem_set h with h|h
   · exact .inl h
   · exact .inr h
 · simpa using h
theorem foldB_mem:∀ {m:List Blc} {l:List Blc} {x:Blc},x∈m.foldl putB l→x∈l∨x∈m
 | [],l,x,h=>.inl h
 | b::r,l,x,h=>by
  rcases foldB_mem (m:=r) h with h|h
  · rcases putB_mem h with h|rfl
    · exact .inl h
    · exact .inr (by simp)
  · exact .inr (by simp [h])
theorem flatS_len {k:Nat}:∀ {l:List Cls},(∀ c∈l,c.fields.length≤k∧c.blocks.length≤k)→(flatS l).1.fields.length≤k*l.length∧(flatS l).1.blocks.length≤k*l.length
 | [],_=>by simp [flatS,zCls]
 | c::r,h=>by
  have ih:=flatS_len (l:=r) fun x hx=>h x (by simp [hx])
  have hc:=h c (by simp)
  have hb:=foldB_len (m:=c.blocks) (l:=(flatS r).1.blocks)
  have e:flatS (c::r)=extS c (flatS r):=rfl
  rw [e]
  simp only [extS,List.length_append,List.length_cons]
  rw [Nat.mul_succ]
  omega
theorem flatS_fields {l:List Cls} {f:Fld}:f∈(flatS l).1.fields→∃ c∈l,f∈c.fields:=by
 induction l with
 | nil=>simp [flatS,zCls]
 | cons c r ih=>
  intro h
  have e:flatS (c::r)=extS c (flatS r):=rfl
  rw [e] at h
  simp only [extS,List.mem_append] at h
  rcases h with h|h
  · obtain⟨d,h1,h2⟩:=ih h;exact⟨d,by simp [h1],h2⟩
  · exact⟨c,by simp,h⟩
theorem flatS_blocks {l:List Cls} {b:Blc}:b∈(flatS l).1.blocks→∃ c∈l,b∈c.blocks:=by
 induction l with
 | nil=>simp [flatS,zCls]
 | cons c r ih=>
  intro h
  have e:flatS (c::r)=extS c (flatS r):=rfl
  rw [e] at h
  simp only [extS] at h
  rcases foldB_mem h with h|h
  · obtain⟨d,h1,h2⟩:=ih h;exact⟨d,by simp [h1],h2⟩
  · exact⟨c,by simp,h⟩
theorem flatS_parent (l:List Cls):(flatS l).1.parent=[]:=by
 induction l with
 | nil=>rfl
 | cons c r ih=>exact ih
end Go.Proofs.YtkodonalmdmgpaaGreatDoor
end
