/- A part of the proof: Walk11 Walk1 Walk13a Works1 AbsScal AbsOut AbsClass. -/
import Derived.Test.YtpgcmnabljandaaGreatDoorGa16
import Derived.Test.YtpgcmnabljandaaGreatDoorGa15
set_option linter.unusedVariables false
set_option linter.unusedSimpArgs false
set_option maxRecDepth 1000000
section
namespace Go.Proofs.YtpgcmnabljandaaGreatDoor
open Go Go.Abs
set_option maxHeartbeats 4000000 in
theorem arity289 (op:Int):Pure Tryz.prog GG 289 [.int .i64 op] (.int .i64 (arityS op)):=by
 refine Pure.vc mixed Tryz.func289 rfl (by kernel_rfl) ?_
 by_cases o1:op=1
 · subst o1;simp [arityS]
 by_cases o2:op=2
 · subst o2;simp [arityS]
 by_cases o24:op=24
 · subst o24;simp [arityS]
 by_cases o3:op=3
 · subst o3;simp [arityS]
 by_cases o4:op=4
 · subst o4;simp [arityS]
 by_cases o5:op=5
 · subst o5;simp [arityS]
 by_cases o6:op=6
 · subst o6;simp [arityS]
 by_cases o25:op=25
 · subst o25;simp [arityS]
 by_cases o22:op=22
 · subst o22;simp [arityS]
 by_cases o23:op=23
 · subst o23;simp [arityS]
 by_cases c1:op<1
 · have e:arityS op = -1:=by simp [arityS,o1,o2,o24,o3,o4,o5,o6,o25,o22,o23,c1]
   rw [e]
   simp [o1,o2,o24,o3,o4,o5,o6,o25,o22,o23,c1]
 by_cases c2:25<op
 · have e:arityS op = -1:=by simp [arityS,o1,o2,o24,o3,o4,o5,o6,o25,o22,o23,c2]
   rw [e]
   simp [o1,o2,o24,o3,o4,o5,o6,o25,o22,o23,c1,c2]
 have e:arityS op=2:=by simp [arityS,o1,o2,o24,o3,o4,o5,o6,o25,o22,o23,c1,c2]
 rw [e]
 simp [o1,o2,o24,o3,o4,o5,o6,o25,o22,o23,c1,c2]
theorem operands228 (e:Ex):Pure Tryz.prog GG 228 [.agg (encE e)] (.bool (operandsS e)):=by
 refine Pure.vc mixed Tryz.func228 rfl (by kernel_rfl) ?_
 have ht:(e.args.length:Int).tmod 2=((e.args.length % 2:Nat):Int):=rfl
 by_cases o23:e.op=23
 · by_cases c1:e.args.length % 2=1
   · have c1':((e.args.length % 2:Nat):Int)=1:=by omega
     by_cases c2:3≤e.args.length
     · have c2':(3:Int)≤e.args.length:=by omega
       by_cases c3:e.args.length≤33
       · have c3':(e.args.length:Int)≤33:=by omega
         have x:operandsS e=true:=by simp [operandsS,o23,c1,c2,c3]
         rw [x]
         simp only [encE_eq,o23]
         simp [ht,c1',c2',c3']
       · have c3':¬ (e.args.length:Int)≤33:=by omega
         have x:operandsS e=false:=by simp [operandsS,o23,c3]
         rw [x]
         simp only [encE_eq,o23]
         simp [ht,c1',c2',c3']
     · have c2':¬ (3:Int)≤e.args.length:=by omega
       have x:operandsS e=false:=by simp [operandsS,o23,c2]
       rw [x]
       simp only [encE_eq,o23]
       simp [ht,c1',c2']
   · have c1':¬ ((e.args.length % 2:Nat):Int)=1:=by omega
     have c1'':¬ (e.args.length:Int) % 2=1:=by omega
     have x:operandsS e=false:=by simp [operandsS,o23,c1]
     rw [x]
     simp only [encE_eq,o23]
     simp [ht,c1',c1'']
 · have x:operandsS e=decide ((e.args.length:Int)=arityS e.op):=by simp [operandsS,o23]
   rw [x]
   simp only [encE_eq]
   simp [o23]
   refine vcCall.call (arity289 e.op) (by simp) ?_
   simp
   try (rw [Bool.eq_iff_iff];simp)
section
variable (G:Nat→AV)
theorem index1 (v:Var) (name:Str):Pure Tryz.prog G 183 [.agg (encVar v),.rptr [.str name]] (.bool (v.name==name)):=by
 refine Pure.vc mixed Tryz.func183 rfl (by kernel_rfl) ?_
 simp
theorem index (l:List Var) (name:Str) (hl:Fits l):Pure Tryz.prog G 107 [.sl 4 (l.map encVar) .none,.str name] (.int .i64 (findI (fun v=>v.name==name) l 0)):=by
 refine Pure.vc mixed Tryz.func107 rfl (by kernel_rfl) ?_
 simp
 refine vcCall.lent (indexFuncVar G l (fun v=>v.name==name) 183 [] [.rptr [.str name]] hl rfl rfl fun v _=>index1 G v name) rfl ?_ ?_
 · simp [frz]
 · simp
theorem random (p:Problem) (i:Int):Pure Tryz.prog G 83 [.agg (encP p),.int .i64 i] (.bool (decide (0≤i)&&(p.vars[i.toNat]?).any (fun v=>v.mode != 0))):=by
 refine Pure.vc mixed Tryz.func83 rfl (by kernel_rfl) ?_
 by_cases h0:0≤i
 · cases hv:p.vars[i.toNat]? with
   | none=>
    have h1:¬ i<p.vars.length:=by simp at hv;omega
    simp [h0,h1]
   | some v=>
    obtain⟨hc,hv'⟩:=List.getElem?_eq_some_iff.1 hv
    have h1:i<p.vars.length:=by omega
    simp [h0,h1,hv']
 · simp [h0]
end
def pairE:Ex:=.mk 17 0 [] [.mk 2 0 [97] [],.mk 2 0 [98] []]
def softE:Ex:=.mk 15 0 [] [.mk 2 0 [98] [],.mk 1 3 [] []]
def pairP:Problem:=⟨[⟨[97],2,1,0⟩,⟨[98],2,1,0⟩],[pairE],[softE],[],[[0],[1]]⟩
theorem valid14:Pure Tryz.prog GG 14 [.agg (encP pairP)] (.int .i64 0):=Pure.closed1 1000 40 (by kernel_rfl)
def sizeFrom (l:List Var) (a:Str):Nat→Nat→Nat
 | 0,i=>i
 | f+1,i=>if hasV l (elemS a i)=true then sizeFrom l a f (i+1) else i
def sizeA (l:List Var) (a:Str):Nat:=sizeFrom l a 8 0
theorem sizeFrom_spec (l:List Var) (a:Str):∀ (f i:Nat),i≤sizeFrom l a f i∧sizeFrom l a f i≤i+f∧(∀ j,i≤j→j<sizeFrom l a f i→hasV l (elemS a j)=true)∧(sizeFrom l a f i<i+f→hasV l (elemS a (sizeFrom l a f i))=false)
 | 0,i=>by simp [sizeFrom];omega
 | f+1,i=>by
  simp only [sizeFrom]
  split
  · rename_i h
    obtain⟨a1,a2,a3,a4⟩:=sizeFrom_spec l a f (i+1)
    refine⟨by omega,by omega,fun j h1 h2=>?_,fun h1=>a4 (by omega)⟩
    rcases Nat.eq_or_lt_of_le h1 with h3|h3
    · subst h3;exact h
    · exact a3 j (by omega) h2
  · rename_i h
    exact⟨Nat.le_refl _,by omega,fun j h1 h2=>by omega,fun _=>by simpa using h⟩
theorem sizeA_le (l:List Var) (a:Str):sizeA l a≤8:=by
 have:=(sizeFrom_spec l a 8 0).2.1
 unfold sizeA;omega
theorem sizeA_has {l:List Var} {a:Str} {j:Nat} (h:j<sizeA l a):hasV l (elemS a j)=true:=(sizeFrom_spec l a 8 0).2.2.1 j (by omega) h
theorem sizeA_not {l:List Var} {a:Str} (h:sizeA l a<8):hasV l (elemS a (sizeA l a))=false:=(sizeFrom_spec l a 8 0).2.2.2 (by unfold sizeA at h;omega)
theorem sizeA_of {l:List Var} {a:Str} {n:Nat} (h8:n≤8) (hall:∀ j,j<n→hasV l (elemS a j)=true) (hn:n<8→hasV l (elemS a n)=false):sizeA l a=n:=by
 have h1:=sizeA_le l a
 rcases Nat.lt_trichotomy (sizeA l a) n with h|h|h
 · have:=sizeA_not (l:=l) (a:=a) (by omega)
   rw [hall _ h] at this;cases this
 · exact h
 · have:=sizeA_has (l:=l) (a:=a) h
   rw [hn (by omega)] at this;cases this
theorem name_no91 {a:Str} {i:Nat}:nameS (elemS a i)=false:=by
 rw [Bool.eq_false_iff]
 intro h
 exact nameS_no91 h 91 (by simp [elemS]) rfl
theorem elem8_not {a:Str}:varS (elemS a 8)=false:=by
 have:elemO (elemS a 8)=none:=by
  rw [elemO_none]
  rintro b i ⟨h1,h2,h3⟩
  have h:=congrArg List.getLast? (congrArg List.dropLast h3)
  simp only [elemS] at h3
  obtain⟨h4,h5⟩:=List.append_inj' h3 rfl
  simp only [List.cons.injEq,true_and,and_true] at h5
  have:=congrArg UInt8.toNat h5
  simp at this
  omega
 simp [varS,name_no91,this]
theorem hasV_8 {l:List Var} {a:Str} (hv:∀ v∈l,varS v.name=true):hasV l (elemS a 8)=false:=by
 unfold hasV
 rw [Bool.eq_false_iff]
 intro h
 obtain⟨v,hm,he⟩:=List.any_eq_true.1 h
 have:=hv v hm
 rw [eq_of_beq he,elem8_not] at this;cases this
def constE (n:Int):Ex:=.mk 1 n [] []
def itemE (a:Str) (i:Nat):Ex:=.mk 2 0 (elemS a i) []
def sumE (a:Str):Nat→Ex
 | 0=>itemE a 0
 | k+1=>.mk 7 0 [] [sumE a k,itemE a (k+1)]
def ifsE (a:Str) (idx:Ex) (n:Nat):Nat→Ex
 | 0=>constE 0
 | k+1=>.mk 22 0 [] [.mk 15 0 [] [idx,constE ((n-1-k:Nat):Int)],itemE a (n-1-k),ifsE a idx n k]
def chainE (a:Str) (idx:Ex) (n:Nat):Ex:=if idx.op=1 then (if idx.n<n then itemE a idx.n.toNat else constE 0) else ifsE a idx n n
def headE (l:List Ex):Ex:=match l with
 | []=>constE 0
 | a::_=>a
mutual
def scE (l:List Var):Ex→Ex
 | .mk op n s args=>if op=24 then sumE s (sizeA l s-1) else if op=3 then chainE s (headE (scEs l args)) (sizeA l s) else .mk op n s (scEs l args)
def scEs (l:List Var):List Ex→List Ex
 | []=>[]
 | e::r=>scE l e::scEs l r
end
@[simp] theorem scEs_eq (l:List Var):∀ x,scEs l x=x.map (scE l)
 | []=>by simp [scEs]
 | e::r=>by simp [scEs,scEs_eq l r]
theorem scE_eq (l:List Var) (e:Ex):scE l e=if e.op=24 then sumE e.name (sizeA l e.name-1) else if e.op=3 then chainE e.name (headE (e.args.map (scE l))) (sizeA l e.name) else .mk e.op e.n e.name (e.args.map (scE l)):=by
 cases e
 rw [scE,scEs_eq]
 rfl
def unk1 (l:List Var) (x:Ex):Bool:=(decide (x.op=2)&&!hasV l x.name)||(decide (x.op=3∨x.op=24)&&decide (sizeA l x.name=0))
def unkB (l:List Var) (e:Ex):Bool:=(pre e).any (unk1 l)
theorem unkB_eq (l:List Var) (e:Ex):unkB l e=(unk1 l e||e.args.any (unkB l)):=by
 unfold unkB
 rw [pre_eq,List.any_cons]
 congr 1
 generalize e.args=m
 induction m with
 | nil=>simp
 | cons a r ih=>simp [ih,List.any_append]
theorem unkB_self {l:List Var} {e:Ex} (h:unkB l e=false):unk1 l e=false:=by
 rw [unkB_eq,Bool.or_eq_false_iff] at h;exact h.1
theorem unkB_arg {l:List Var} {e a:Ex} (h:unkB l e=false) (ha:a∈e.args):unkB l a=false:=by
 rw [unkB_eq,Bool.or_eq_false_iff] at h
 rw [Bool.eq_false_iff]
 intro h'
 have:=List.any_eq_true.2 ⟨a,ha,h'⟩
 rw [this] at h;cases h.2
theorem unk1_size {l:List Var} {e:Ex} (h:unk1 l e=false) (ho:e.op=3∨e.op=24):1≤sizeA l e.name:=by
 unfold unk1 at h
 rw [Bool.or_eq_false_iff] at h
 have h2:=h.2
 rw [decide_eq_true ho,Bool.true_and] at h2
 have:¬ sizeA l e.name=0:=by simpa using h2
 omega
theorem unk1_var {l:List Var} {e:Ex} (h:unk1 l e=false) (ho:e.op=2):hasV l e.name=true:=by
 unfold unk1 at h
 rw [Bool.or_eq_false_iff] at h
 have h2:=h.1
 rw [decide_eq_true ho,Bool.true_and] at h2
 simpa using h2
def capS (s:Int):List (Int×Int)→Int
 | []=>s
 | m::r=>capS (if 401<s+m.1 then 401 else s+m.1) r
def lastX (x:Int×Int):List (Int×Int)→Int×Int
 | []=>x
 | m::r=>lastX m r
def extN (l:List Var) (op n:Int) (s:Str) (xs:List (Int×Int)):Int×Int :=
 if op=1 then (1,n) else if op=24 then (2*(sizeA l s:Int)-1,-1) else
 if op≠3 then (capS 1 xs,-1) else
 if (sizeA l s:Int)≤(lastX (0,-1) xs).2 then (1,0) else if 0≤(lastX (0,-1) xs).2 then (1,-1) else
 (if 401<(sizeA l s:Int)*((lastX (0,-1) xs).1+4)+1 then 401 else (sizeA l s:Int)*((lastX (0,-1) xs).1+4)+1,-1)
mutual
def extE (l:List Var):Ex→Int×Int
 | .mk op n s args=>extN l op n s (extEs l args)
def extEs (l:List Var):List Ex→List (Int×Int)
 | []=>[]
 | e::r=>extE l e::extEs l r
end
@[simp] theorem extEs_eq (l:List Var):∀ x,extEs l x=x.map (extE l)
 | []=>by simp [extEs]
 | e::r=>by simp [extEs,extEs_eq l r]
theorem extE_eq (l:List Var) (e:Ex):extE l e=extN l e.op e.n e.name (e.args.map (extE l)):=by cases e;simp [extE]
theorem capS_mono:∀ {xs:List (Int×Int)} {s:Int},s≤401→(∀ x∈xs,0≤x.1)→s≤capS s xs∧capS s xs≤401
 | [],s,h,_=>⟨Int.le_refl _,h⟩
 | m::r,s,h,hx=>by
  have h0:=hx m (by simp)
  have:=capS_mono (xs:=r) (s:=if 401<s+m.1 then 401 else s+m.1) (by split<;>omega) fun x h=>hx x (by simp [h])
  simp only [capS]
  split at this<;>(rename_i hc;simp only [hc,if_true,if_false];omega)
def sumX:List (Int×Int)→Int
 | []=>0
 | m::r=>m.1+sumX r
theorem sumX_nn:∀ {xs:List (Int×Int)},(∀ x∈xs,0≤x.1)→0≤sumX xs
 | [],_=>Int.le_refl _
 | m::r,h=>by
  have:=h m (by simp)
  have:=sumX_nn (xs:=r) fun x hx=>h x (by simp [hx])
  simp only [sumX];omega
theorem capS_sum:∀ {xs:List (Int×Int)} {s:Int},s≤401→(∀ x∈xs,0≤x.1)→capS s xs≤400→capS s xs=s+sumX xs
 | [],s,h,_,_=>by simp [capS,sumX]
 | m::r,s,h,hx,hc=>by
  have h0:=hx m (by simp)
  have hr:∀ x∈r,0≤x.1:=fun x h=>hx x (by simp [h])
  simp only [capS] at hc ⊢
  by_cases h4:401<s+m.1
  · rw [if_pos h4] at hc
    have:=(capS_mono (xs:=r) (s:=401) (by omega) hr).1
    omega
  · rw [if_neg h4] at hc ⊢
    rw [capS_sum (by omega) hr hc]
    simp only [sumX];omega
theorem sumX_mem:∀ {xs:List (Int×Int)} {x:Int×Int},(∀ x∈xs,0≤x.1)→x∈xs→x.1≤sumX xs
 | m::r,x,h,hx=>by
  have h0:=h m (by simp)
  have hr:∀ x∈r,0≤x.1:=fun x hx=>h x (by simp [hx])
  have:=sumX_nn hr
  simp only [sumX]
  rcases List.mem_cons.1 hx with rfl|hx
  · omega
  · have:=sumX_mem hr hx;omega
theorem pre_item (a:Str) (i:Nat):pre (itemE a i)=[itemE a i]:=by simp [itemE,pre_eq]
theorem pre_const (n:Int):pre (constE n)=[constE n]:=by simp [constE,pre_eq]
theorem sumE_len (a:Str):∀ k,(pre (sumE a k)).length=2*k+1
 | 0=>by simp [sumE,pre_item]
 | k+1=>by
  have:=sumE_len a k
  rw [sumE,pre_eq]
  simp [pre_item,this];omega
theorem ifsE_len (a:Str) (idx:Ex) (n:Nat):∀ k,(pre (ifsE a idx n k)).length=k*((pre idx).length+4)+1
 | 0=>by simp [ifsE,pre_const]
 | k+1=>by
  have:=ifsE_len a idx n k
  rw [ifsE,pre_eq]
  simp [pre_item,pre_const,pre_eq (Ex.mk 15 0 [] _),this,Nat.succ_mul];omega
theorem preL_len:∀ (l:List Ex),(preL l).length=(l.map fun e=>(pre e).length).sum
 | []=>by simp
 | e::r=>by simp [preL_len r]
structure ExtOk (l:List Var) (e:Ex):Prop where
 nn:1≤(extE l e).1∧(extE l e).1≤401
 val:(0≤(extE l e).2∧(scE l e).op=1∧(scE l e).n=(extE l e).2)∨((extE l e).2 = -1∧(scE l e).op≠1)
 len:(extE l e).1≤400→((pre (scE l e)).length:Int)=(extE l e).1
theorem args1 {e:Ex} (hn:NodesOk e) (h3:e.op=3):∃ a,e.args=[a]:=by
 obtain⟨_,_,_,_,ho,_⟩:=nodeE_zero hn.self
 have h:=operands_args ho (by omega)
 have h1:arityS e.op=1:=by rw [h3];decide
 rw [h1] at h
 match hx:e.args,h with
 | [a],_=>exact⟨a,rfl⟩
theorem extOk (l:List Var):∀ e,NodesOk e→unkB l e=false→ExtOk l e:=by
 refine Ex.ind fun e ih hn hu=>?_
 have ih':∀ a∈e.args,ExtOk l a:=fun a ha=>ih a ha (hn.arg ha) (unkB_arg hu ha)
 obtain⟨k1,k2,k3,k4,k5,_⟩:=nodeE_zero hn.self
 have h8:=sizeA_le l e.name
 by_cases c1:e.op=1
 · have x1:extE l e=(1,e.n):=by rw [extE_eq];unfold extN;rw [if_pos c1]
   have ha:e.args=[]:=by
    have h:=operands_args k5 (by omega)
    have h1:arityS e.op=0:=by rw [c1];decide
    rw [h1] at h
    exact List.length_eq_zero_iff.1 (by omega)
   have x2:scE l e=.mk e.op e.n e.name []:=by rw [scE_eq,if_neg (by omega),if_neg (by omega),ha];rfl
   have:=k3 c1
   refine⟨?_,?_,fun _=>?_⟩
   · rw [x1];simp
   · left;rw [x1,x2];exact⟨this.1,c1,rfl⟩
   · rw [x1,x2,pre_eq];simp
 by_cases c24:e.op=24
 · have hs:=unk1_size (unkB_self hu) (.inr c24)
   have x1:extE l e=(2*(sizeA l e.name:Int)-1,-1):=by rw [extE_eq];unfold extN;rw [if_neg c1,if_pos c24]
   have x2:scE l e=sumE e.name (sizeA l e.name-1):=by rw [scE_eq,if_pos c24]
   refine⟨?_,?_,fun _=>?_⟩
   · rw [x1];constructor<;>(show _≤_;omega)
   · right;rw [x1,x2]
     refine⟨rfl,?_⟩
     cases sizeA l e.name-1<;>simp [sumE,itemE]
   · rw [x1,x2,sumE_len];show _=_;omega
 have hxs:∀ x∈e.args.map (extE l),0≤x.1:=by
  intro x hx
  obtain⟨a,ha,rfl⟩:=List.mem_map.1 hx
  have:=(ih' a ha).nn;omega
 by_cases c3:e.op=3
 · have hs:=unk1_size (unkB_self hu) (.inl c3)
   obtain⟨a,ha⟩:=args1 hn c3
   have ia:=ih' a (by rw [ha];simp)
   have xl:lastX (0,-1) (e.args.map (extE l))=extE l a:=by rw [ha];rfl
   have xh:headE (e.args.map (scE l))=scE l a:=by rw [ha];rfl
   have x2:scE l e=chainE e.name (scE l a) (sizeA l e.name):=by rw [scE_eq,if_neg c24,if_pos c3,xh]
   have x1:extE l e=if (sizeA l e.name:Int)≤(extE l a).2 then (1,0) else if 0≤(extE l a).2 then (1,-1) else
    (if 401<(sizeA l e.name:Int)*((extE l a).1+4)+1 then 401 else (sizeA l e.name:Int)*((extE l a).1+4)+1,-1):=by
    rw [extE_eq];unfold extN;rw [if_neg c1,if_neg c24,if_neg (by simp [c3]),xl]
   obtain⟨n1,n2⟩:=ia.nn
   rcases ia.val with ⟨v0,vo,vn⟩|⟨v0,vo⟩
   · have x3:scE l e=if (extE l a).2<(sizeA l e.name:Int) then itemE e.name (extE l a).2.toNat else constE 0:=by
      rw [x2];unfold chainE;rw [if_pos vo,vn]
     by_cases hc:(sizeA l e.name:Int)≤(extE l a).2
     · rw [if_pos hc] at x1
       rw [if_neg (by omega)] at x3
       refine⟨by rw [x1];simp,?_,fun _=>by rw [x1,x3,pre_const];simp⟩
       left;rw [x1,x3];exact⟨by simp,rfl,rfl⟩
     · rw [if_neg hc,if_pos v0] at x1
       rw [if_pos (by omega)] at x3
       refine⟨by rw [x1];simp,?_,fun _=>by rw [x1,x3,pre_item];simp⟩
       right;rw [x1,x3];exact⟨rfl,by simp [itemE]⟩
   · have x3:scE l e=ifsE e.name (scE l a) (sizeA l e.name) (sizeA l e.name):=by
      rw [x2];unfold chainE;rw [if_neg vo]
     rw [v0,if_neg (by omega),if_neg (by omega)] at x1
     have hp:(sizeA l e.name:Int)*((extE l a).1+4)=(extE l a).1*(sizeA l e.name:Int)+4*(sizeA l e.name:Int):=by
      rw [Int.mul_add,Int.mul_comm];omega
     have hge:(extE l a).1≤(extE l a).1*(sizeA l e.name:Int):=by
      have:=Int.mul_le_mul_of_nonneg_left (show (1:Int)≤(sizeA l e.name:Int) by omega) (show 0≤(extE l a).1 by omega)
      omega
     refine⟨?_,?_,fun h4=>?_⟩
     · rw [x1]
       have:∀ z:Int,1≤z→1≤(if 401<z then 401 else z)∧(if 401<z then 401 else z)≤401:=fun z hz=>by split<;>omega
       exact this _ (by omega)
     · right;rw [x1,x3]
       refine⟨rfl,?_⟩
       obtain⟨k,hk⟩:∃ k,sizeA l e.name=k+1:=⟨sizeA l e.name-1,by omega⟩
       rw [hk,ifsE];simp
     · rw [x1] at h4 ⊢
       simp only at h4 ⊢
       split at h4
       · omega
       · rename_i hc
         rw [if_neg hc,x3,ifsE_len]
         have hl:=ia.len (by omega)
         rw [← hl]
         simp [Int.natCast_mul]
 · have x1:extE l e=(capS 1 (e.args.map (extE l)),-1):=by rw [extE_eq];unfold extN;rw [if_neg c1,if_neg c24,if_pos c3]
   have x2:scE l e=.mk e.op e.n e.name (e.args.map (scE l)):=by rw [scE_eq,if_neg c24,if_neg c3]
   have hm:=capS_mono (xs:=e.args.map (extE l)) (s:=1) (by omega) hxs
   refine⟨by rw [x1];exact hm,by right;rw [x1,x2];exact⟨rfl,c1⟩,fun h4=>?_⟩
   rw [x1] at h4 ⊢
   simp only at h4 ⊢
   have hs:=capS_sum (by omega) hxs h4
   rw [hs,x2,pre_eq]
   have hall:∀ a∈e.args,(extE l a).1≤400:=fun a ha=>by
    have:=sumX_mem hxs (List.mem_map.2 ⟨a,ha,rfl⟩)
    omega
   have key:∀ (m:List Ex),(∀ a∈m,((pre (scE l a)).length:Int)=(extE l a).1)→((preL (m.map (scE l))).length:Int)=sumX (m.map (extE l)):=by
    intro m
    induction m with
    | nil=>intro _;simp [sumX]
    | cons a r ihr=>
     intro h
     have h1:=h a (by simp)
     have h2:=ihr fun x hx=>h x (by simp [hx])
     simp only [List.map_cons,preL_cons,List.length_append,sumX]
     omega
   have:=key e.args fun a ha=>(ih' a ha).len (hall a ha)
   simp only [Ex.args_mk,List.length_cons]
   omega
theorem encE_len (e:Ex):(encE e).length=4:=by rw [encE_eq];rfl
theorem acells_encE (e:Ex):acells (.agg (encE e))=some (encE e):=by rw [encE_eq];simp [acells,AV.atom]
theorem encE_atoms (e:Ex):(encE e).all AV.atom=true:=by
 rw [encE_eq]
 simp
theorem acells_int (k:IntKind) (n:Int):acells (.int k n)=some [.int k n]:=rfl
theorem acells_str (t:List UInt8):acells (.str t)=some [.str t]:=rfl
theorem acells_bool (b:Bool):acells (.bool b)=some [.bool b]:=rfl
theorem acells_sl (sz:Nat) (rows:List (List AV)) (tok:Tok):acells (.sl sz rows tok)=some [.sl sz rows tok]:=rfl
theorem acells_agg {cs:List AV} (h:cs.all AV.atom=true):acells (.agg cs)=some cs:=by simp only [acells,h,if_true]
theorem putAt_whole:∀ (c new:List AV),c.length=new.length→putAt c 0 new=new:=by
 have gen:∀ (new pre c:List AV),c.length=new.length→putAt (pre++c) pre.length new=pre++new:=by
  intro new
  induction new with
  | nil=>intro pre c h;have:c=[]:=List.length_eq_zero_iff.1 h;subst this;simp [putAt]
  | cons v r ih=>
   intro pre c h
   cases c with
   | nil=>simp at h
   | cons x c=>
    have h':c.length=r.length:=by simpa using h
    have:=ih (pre++[v]) c h'
    simp only [List.append_assoc,List.singleton_append,List.length_append,List.length_singleton] at this
    rw [putAt]
    have e:(pre++x::c).set pre.length v=pre++v::c:=by simp
    rw [e]
    exact this
 intro c new h
 simpa using gen new [] c h
theorem putAt_encE (a b c d:AV) (e:Ex):putAt [a,b,c,d] 0 (encE e)=encE e:=putAt_whole _ _ (by rw [encE_len];rfl)
theorem putAt_encE2 (x e:Ex):putAt (encE x) 0 (encE e)=encE e:=putAt_whole _ _ (by rw [encE_len,encE_len])
theorem take_encE (e:Ex):(encE e).take 4=encE e:=List.take_of_length_le (by rw [encE_len];omega)
def outK {α:Type} (sz:Nat) (en:α→List AV) (s:List α):AV:=match s with
 | []=>.sl 0 [] .nil
 | a::r=>.sl sz ((a::r).map en) (.chain 0 (r.length+1))
def outTK {α:Type} (s:List α):List (Option Nat):=match s with
 | []=>[]
 | _::r=>[some (r.length+1)]
@[simp] theorem outK_nil {α:Type} {sz:Nat} {en:α→List AV}:outK sz en ([]:List α)=.sl 0 [] .nil:=rfl
@[simp] theorem outTK_nil {α:Type}:outTK ([]:List α)=[]:=rfl
theorem outK_atom {α:Type} {sz:Nat} {en:α→List AV} (s:List α):acells (outK sz en s)=some [outK sz en s]:=by cases s<;>rfl
theorem outK_atomB {α:Type} {sz:Nat} {en:α→List AV} (s:List α):AV.atom (outK sz en s)=true:=by cases s<;>rfl
theorem acells_ex {α:Type} {sz:Nat} {en:α→List AV} (o n:Int) (t:Str) (s:List α):acells (.agg [.int .i64 o,.int .i64 n,.str t,outK sz en s])=some [.int .i64 o,.int .i64 n,.str t,outK sz en s] :=
 acells_agg (by simp only [List.all_cons,List.all_nil,outK_atomB];rfl)
theorem outK_fin {α:Type} {sz:Nat} {en:α→List AV} (s:List α) (H:List Blk) (hn:∀ x,noRefs (en x)=true):noRef (fin1 H (outK sz en s))=true∧Leq (fin1 H (outK sz en s)) (.sl sz (s.map en) .none):=by
 cases s with
 | nil=>simp [outK,Leq]
 | cons a r=>
  have h:=noRefss_map hn (a::r)
  refine⟨?_,Leq.sl rfl⟩
  simpa [outK] using h
def Slim (e:Ex):Prop:=∀ x∈pre e,x.args.length≤1000
theorem Slim.self {e:Ex} (h:Slim e):e.args.length≤1000:=h e (by rw [pre_eq];simp)
theorem Slim.arg {e a:Ex} (h:Slim e) (ha:a∈e.args):Slim a:=fun x hx=>h x (by rw [pre_eq];exact List.mem_cons_of_mem _ (mem_preL.2 ⟨a,ha,hx⟩))
structure Fld where
 name:Str
 width:Int
 size:Int
 mode:Int
 init:Int
inductive It where
 | mk (kind:Int) (expr:Ex) (name index:Str) (ws:List Weight) (items els:List It) (before after:List Str)
structure Blc where
 name:Str
 items:List It
structure Cls where
 name:Str
 parent:Str
 fields:List Fld
 blocks:List Blc
structure Ask where
 src:List Cls
 name:Str
 off:List Str
 more:List It
 state:List Signal
def It.kind:It→Int | .mk k _ _ _ _ _ _ _ _=>k
def It.expr:It→Ex | .mk _ e _ _ _ _ _ _ _=>e
def It.name:It→Str | .mk _ _ n _ _ _ _ _ _=>n
def It.index:It→Str | .mk _ _ _ i _ _ _ _ _=>i
def It.ws:It→List Weight | .mk _ _ _ _ w _ _ _ _=>w
def It.items:It→List It | .mk _ _ _ _ _ l _ _ _=>l
def It.els:It→List It | .mk _ _ _ _ _ _ l _ _=>l
def It.before:It→List Str | .mk _ _ _ _ _ _ _ b _=>b
def It.after:It→List Str | .mk _ _ _ _ _ _ _ _ a=>a
@[simp] def encFld (f:Fld):List AV:=[.str f.name,.int .i64 f.width,.int .i64 f.size,.int .i64 f.mode,.int .i64 f.init]
mutual
def encI:It→List AV
 | .mk k e n i w l m b a=>.int .i64 k::(encE e++[.str n,.str i,.sl 4 (w.map encWeight) .none,.sl 12 (encIs l) .none,.sl 12 (encIs m) .none,.sl 1 (b.map encStr) .none,.sl 1 (a.map encStr) .none])
def encIs:List It→List (List AV)
 | []=>[]
 | a::r=>encI a::encIs r
end
@[simp] theorem encIs_eq:∀ l,encIs l=l.map encI
 | []=>rfl
 | a::r=>by simp [encIs,encIs_eq r]
theorem encI_eq (x:It):encI x=.int .i64 x.kind::(encE x.expr++[.str x.name,.str x.index,.sl 4 (x.ws.map encWeight) .none,.sl 12 (x.items.map encI) .none,.sl 12 (x.els.map encI) .none,.sl 1 (x.before.map encStr) .none,.sl 1 (x.after.map encStr) .none]):=by
 cases x
 simp only [encI,encIs_eq]
 rfl
@[simp] def encBlc (b:Blc):List AV:=[.str b.name,.sl 12 (b.items.map encI) .none]
@[simp] def encCls (c:Cls):List AV:=[.str c.name,.str c.parent,.sl 5 (c.fields.map encFld) .none,.sl 2 (c.blocks.map encBlc) .none]
@[simp] def encAsk (x:Ask):List AV:=[.sl 4 (x.src.map encCls) .none,.str x.name,.sl 1 (x.off.map encStr) .none,.sl 12 (x.more.map encI) .none,.sl 2 (x.state.map encSignal) .none]
@[simp] theorem nrFld (l:List Fld):noRefss (l.map encFld)=true:=noRefss_map (fun x=>by simp) l
theorem noRefs_app:∀ {a b:List AV},noRefs a=true→noRefs b=true→noRefs (a++b)=true
 | [],b,_,h=>h
 | x::r,b,h,h'=>by
  simp only [noRefs,List.cons_append,Bool.and_eq_true] at h ⊢
  exact⟨h.1,noRefs_app h.2 h'⟩
mutual
theorem nrI':∀ x,noRefs (encI x)=true
 | .mk k e n i w l m b a=>by
  have h1:=nrIs' l
  have h2:=nrIs' m
  simp only [encI,noRefs,Bool.and_eq_true]
  refine⟨by simp,noRefs_app (nrE' e) ?_⟩
  rw [encIs_eq] at h1 h2 ⊢
  rw [encIs_eq]
  simp [h1,h2]
theorem nrIs':∀ l,noRefss (encIs l)=true
 | []=>rfl
 | a::r=>by simp only [encIs,noRefss,nrI' a,nrIs' r,Bool.and_self]
end
@[simp] theorem nrI (x:It):noRefs (encI x)=true:=nrI' x
@[simp] theorem nrIs (l:List It):noRefss (l.map encI)=true:=noRefss_map (fun x=>nrI' x) l
@[simp] theorem nrBlc (l:List Blc):noRefss (l.map encBlc)=true:=noRefss_map (fun x=>by simp) l
@[simp] theorem nrCls (l:List Cls):noRefss (l.map encCls)=true:=noRefss_map (fun x=>by simp) l
theorem encI_len (x:It):(encI x).length=12:=by rw [encI_eq];simp [encE_len]
theorem encI_atoms (x:It):(encI x).all AV.atom=true:=by
 rw [encI_eq,List.all_cons,List.all_append,encE_atoms]
 rfl
theorem acells_encI (x:It):acells (.agg (encI x))=some (encI x):=acells_agg (encI_atoms x)
theorem take_encI (x:It):(encI x).take 12=encI x:=List.take_of_length_le (by rw [encI_len];omega)
mutual
theorem It.ind {p:It→Prop} (h:∀ x,(∀ a∈x.items,p a)→(∀ a∈x.els,p a)→p x):∀ x,p x
 | .mk k e n i w l m b a=>h _ (It.indL h l) (It.indL h m)
theorem It.indL {p:It→Prop} (h:∀ x,(∀ a∈x.items,p a)→(∀ a∈x.els,p a)→p x):∀ (l:List It),∀ a∈l,p a
 | [],_,hm=>by cases hm
 | e::r,a,hm=>by
  rcases List.mem_cons.1 hm with hm|hm
  · rw [hm];exact It.ind h e
  · exact It.indL h r a hm
end
end Go.Proofs.YtpgcmnabljandaaGreatDoor
end
