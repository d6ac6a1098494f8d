/- A part of the proof. -/
import Derived.Test.YtkpkjbchlabaaaaGreatDoorEa07
set_option linter.unusedVariables false
set_option linter.unusedSimpArgs false
set_option linter.defProp false
section
namespace Go.Proofs.YtkpkjbchlabaaaaGreatDoor
open Go Go.Abs
def qK (n:Int):Int:=n % 65536
theorem qF (n:Int):0<=qK n/\qK n<=65535:=by unfold qK;omega
theorem QN {n:Int}(h0:0<=n)(h1:n<=65535):qK n=n:=by unfold qK;omega
def b2i (b:Bool):Int:=if b=true then 1 else 0
theorem Kt (b:Bool):0<=b2i b/\b2i b<=65535:=by cases b<;>simp[b2i]
def jI (env:List Signal)(name:Str):Option Int:=(env.find? fun s=>s.name==name).map fun s=>qK s.value
def atV (env:List Signal)(a:Str)(i:Int):Int:=if 0<=i/\i<8 then (jI env (z4 a i.toNat)).getD 0 else 0
def qmQ (env:List Signal)(a:Str):Nat->Int
 | 0=>0
 | i+1=>qK (qmQ env a i+atV env a i)
def km (a:Nat):Nat->Nat
 | 0=>0
 | i+1=>km a i+(if a.testBit i=true then 1 else 0)
def unW (op a:Int):Int :=
 if op=4 then b2i (decide (a=0)) else if op=5 then 65535-qK a else if op=6 then qK (0-a) else (km (qK a).toNat 16:Int)
def yL (op a b:Int):Int :=
 if op=7 then qK (a+b) else if op=8 then qK (a-b) else if op=9 then qK (a*b)
 else if op=10 then ((a.toNat &&& b.toNat:Nat):Int) else if op=11 then ((a.toNat ||| b.toNat:Nat):Int) else if op=12 then ((a.toNat ^^^ b.toNat:Nat):Int)
 else if op=13 then (if 0<=b/\b<16 then qK (a*2 ^ b.toNat) else 0)
 else if op=14 then (if 0<=b/\b<16 then qK a / 2 ^ b.toNat else 0)
 else if op=15 then b2i (decide (a=b)) else if op=16 then b2i (!decide (a=b)) else if op=17 then b2i (decide (a<b)) else if op=18 then b2i (decide (a<=b))
 else if op=19 then b2i (!decide (a=0)&&!decide (b=0)) else if op=20 then b2i (!decide (a=0)||!decide (b=0))
 else b2i (decide (a=0)||!decide (b=0))
def jM (a:Int):List Int->Bool
 | x::y::r=>(decide (x<=a)&&decide (a<=y))||jM a r
 | _=>false
def opW (op:Int)(l:List Int):Int :=
 if op=22 then (if l.getD 0 0≠0 then l.getD 1 0 else l.getD 2 0)
 else if op=23 then b2i (jM (l.getD 0 0) l.tail)
 else match l with
  | []=>0
  | [a]=>unW op a
  | a::b::_=>yL op a b
def QA (env:List Signal)(op n:Int)(name:Str)(l:List Int):Int :=
 if op=1 then n else if op=2 then (jI env name).getD 0 else if op=3 then atV env name (l.getD 0 0) else if op=24 then qmQ env name 8 else opW op l
mutual
def yD (env:List Signal):Ex->Int
 | .mk op n name args=>QA env op n name (qgS env args)
def qgS (env:List Signal):List Ex->List Int
 | []=>[]
 | e::r=>yD env e::qgS env r
end
@[simp]theorem qkb (env:List Signal):∀ l,qgS env l=l.map (yD env)
 | []=>by simp[qgS]
 | e::r=>by simp[qgS,qkb env r]
theorem yF (env:List Signal)(e:Ex):yD env e=QA env e.op e.n e.name (e.args.map (yD env)):=by cases e;simp[yD]
def askV (env:List Signal)(e:Ex):Bool :=
 if e.op=2 then (jI env e.name).isSome else if e.op=3\/e.op=24 then (jI env (z4 e.name 0)).isSome else true
def wg (env:List Signal)(e:Ex):Bool:=(pre e).all (askV env)
noncomputable def KO (env:List Signal)(e:Ex):Int:=if zl e≠0 then 1 else if wg env e=true then 0 else 7
noncomputable def yo (env:List Signal)(e:Ex):Int:=if zl e=0/\wg env e=true then yD env e else 0
def yM (e:Ex):Prop:=∀ x∈pre e,qq x=0
theorem yM.self {e:Ex}(h:yM e):qq e=0:=h e (by rw[jw];simp)
theorem yM.arg {e a:Ex}(h:yM e)(ha:a∈e.args):yM a:=fun x hx=>h x (by rw[jw];exact qrY _ (Q9.2 ⟨a,ha,hx⟩))
theorem Jd {e:Ex}(h:zl e=0):yM e:=by
 unfold zl at h;split at h
 . cases h
 . exact zx.1 h
theorem jm {e:Ex}(h:qq e=0):1<=e.op/\e.op<=25/\(e.op=1->0<=e.n/\e.n<=65535)/\(e.op≠1->e.n=0)/\qi e=true/\(e.op=2->y8 e.name=true)/\(e.op=3\/e.op=24->zV e.name=true)/\(¬ (e.op=2\/e.op=3\/e.op=24)->e.name=[]):=by
 unfold qq at h;split at h
 . cases h
 rename_i h1;split at h
 . cases h
 rename_i h2;split at h
 . cases h
 rename_i h3;split at h
 . cases h
 rename_i h4;refine⟨by omega,by omega,fun h=>?_,fun h=>?_,?_,fun h=>?_,fun h=>?_,fun h=>?_⟩
 . apply Classical.byContradiction;intro hn;exact h2 (.inl ⟨h,by omega⟩)
 . apply Classical.byContradiction;intro hn;exact h2 (.inr ⟨h,hn⟩)
 . cases ho:qi e with
   | true=>rfl
   | false=>exact absurd (.inr ho) h3
 . cases ho:y8 e.name with
   | true=>rfl
   | false=>exact absurd (.inl ⟨h,ho⟩) h4
 . cases ho:zV e.name with
   | true=>rfl
   | false=>exact absurd (.inr ⟨h,ho⟩) h4
 . apply Classical.byContradiction;intro hn;exact h3 (.inl ⟨h,hn⟩)
theorem wF {e:Ex}(h:qi e=true)(h23:e.op≠23):(e.args.length:Int)=zu e.op:=by
 unfold qi at h;rw[if_neg h23]at h;simpa using h
theorem YE {e:Ex}(h:qi e=true)(h23:e.op=23):e.args.length % 2=1/\3<=e.args.length/\e.args.length<=33:=by
 unfold qi at h;rw[if_pos h23]at h;simpa using h
theorem JO (a:Nat):∀ i,km a i<=i
 | 0=>qqB _
 | i+1=>by
  have:=JO a i;simp only[km];split<;>omega
theorem Y8 {env:List Signal}{name:Str}{v:Int}(h:jI env name=some v):0<=v/\v<=65535:=by
 unfold jI at h;obtain⟨s,_,rfl⟩:=qqw.1 h;exact qF _
theorem ZO {o:Option Int}(h:∀ v,o=some v->0<=v/\v<=65535):0<=o.getD 0/\o.getD 0<=65535:=by
 cases o with
 | none=>simp
 | some v=>exact h v rfl
theorem qjp (env:List Signal)(a:Str)(i:Int):0<=atV env a i/\atV env a i<=65535:=by
 unfold atV;split
 . exact ZO fun v h=>Y8 h
 . omega
theorem qfp (env:List Signal)(a:Str):∀ i,0<=qmQ env a i/\qmQ env a i<=65535
 | 0=>by simp[qmQ]
 | i+1=>qF _
theorem qg1 (op a:Int):0<=unW op a/\unW op a<=65535:=by
 unfold unW;split
 . exact Kt _
 split
 . have:=qF a;omega
 split
 . exact qF _
 . have:=JO (qK a).toNat 16;omega
theorem qaI {a:Int}(n:Nat)(h0:0<=a)(h1:a<=65535):0<=a / 2 ^ n/\a / 2 ^ n<=65535:=by
 have hp:(0:Int)<2 ^ n:=qt0 (by omega);refine⟨Int.ediv_nonneg h0 (by omega),?_⟩;have:=Int.ediv_le_self (2 ^ n) h0;omega
def InW (n:Int):Prop:=0<=n/\n<=65535
theorem InW.ite {c:Prop}[Decidable c]{a b:Int}(ha:InW a)(hb:InW b):InW (if c then a else b):=by
 split
 . exact ha
 . exact hb
theorem qgq (op:Int){a b:Int}(ha0:0<=a)(ha1:a<=65535)(hb0:0<=b)(hb1:b<=65535):0<=yL op a b/\yL op a b<=65535:=by
 obtain⟨x,rfl⟩:=qq0 ha0;obtain⟨y,rfl⟩:=qq0 hb0;have hx:x<2 ^ 16:=by omega
 have hy:y<2 ^ 16:=by omega
 have o1:=Nat.and_lt_two_pow (n:=16) x hy;have o2:=Nat.or_lt_two_pow (n:=16) hx hy;have o3:=Nat.xor_lt_two_pow (n:=16) hx hy;show InW (yL op x y);unfold yL;simp only[qq1]
 repeat' apply InW.ite
 all_goals first | exact qF _ | exact Kt _ | exact qaI _ (qF _).1 (qF _).2 | (unfold InW;omega)
theorem qfj (env:List Signal):∀ e,yM e->0<=yD env e/\yD env e<=65535:=by
 refine Ex.ind fun e ih hn=>?_
 have hm:∀ x∈e.args.map (yD env),0<=x/\x<=65535:=by
  intro x hx;obtain⟨a,ha,rfl⟩:=qqT.1 hx;exact ih a ha (hn.arg ha)
 have hg:∀ i,0<=(e.args.map (yD env)).getD i 0/\(e.args.map (yD env)).getD i 0<=65535:=by
  intro i;rw[qqz];exact ZO fun v h=>hm v (qqq h)
 obtain⟨h1,h2,h3,_⟩:=jm hn.self;rw[yF];unfold QA;split
 . rename_i h;exact h3 h
 split
 . exact ZO fun v h=>Y8 h
 split
 . exact qjp _ _ _
 split
 . exact qfp _ _ _
 unfold opW;split
 . split
   . exact hg 1
   . exact hg 2
 split
 . exact Kt _
 split
 . omega
 . exact qg1 _ _
 . rename_i a b r hl;rw[hl]at hm;exact qgq _ (hm a (by simp)).1 (hm a (by simp)).2 (hm b (by simp)).1 (hm b (by simp)).2
def yY (l:List Var)(a:List Int):List Signal:=if a.length=l.length then (l.zip a).map fun q=>⟨q.1.name,q.2⟩ else []
def z7 (q:Var×Int):Bool:=decide (0<=q.2)&&decide (q.2<2 ^ q.1.width.toNat)&&(!decide (q.1.mode=0)||decide (q.2=q.1.value))
def qH (l:List Var)(a:List Int):Bool:=decide (a.length=l.length)&&(l.zip a).all z7
noncomputable def j4 (p:Problem)(a:List Int)(e:Ex):Bool :=
 decide (qk p=0)&&qH p.vars a&&decide (KO (yY p.vars a) e=0)&&!decide (yo (yY p.vars a) e=0)
theorem qcp {p:Problem}(h:qk p=0):∀ v∈p.vars,jO v=0:=by
 unfold qk at h;split at h
 . rename_i hn;exact absurd h hn
 rename_i hv;have hv:z0 p.vars=0:=qrl.1 hv;unfold z0 at hv;split at hv
 . cases hv
 split at hv
 . rename_i hn;exact absurd hv hn
 rename_i hz;exact zx.1 (qrl.1 hz)
section
theorem qa1 (f:Nat->Bool):zm f 16<65536:=ka f 16
theorem Wu (f:Nat->Bool):∀ k,k<=16->km (zm f 16) k=Vf f k
 | 0,_=>rfl
 | k+1,h=>by
  simp only[km,Vf,Wu f k (by omega),qQ,b2n];have:decide (k<16)=true:=by simp;omega
  rw[this,qrp];cases f k<;>rfl
theorem vn (f:Nat->Bool):Zt f 16 = !decide ((zm f 16:Int)=0):=by
 rw[Zs];simp
theorem qhM (t:Bool):(zm (fun k=>decide (k=0)&&t) 16:Int)=b2i t:=by
 rw[W0 t 15];cases t<;>rfl
section
variable {x y z:Nat->Bool}
theorem w_add:(zm (fun k=>(x k ^^ y k) ^^ qag x y false k) 16:Int)=qK (zm x 16+zm y 16):=by
 rw[kw];unfold qK b2n;simp
theorem w_sub:(zm (fun k=>(x k ^^ !y k) ^^ qag x (fun k=>!y k) true k) 16:Int)=qK (zm x 16-zm y 16):=by
 rw[kw,W2];have:=qa1 x;have:=qa1 y;unfold qK b2n;simp;omega
theorem w_inv:(zm (fun k=>!x k) 16:Int)=65535-qK (zm x 16):=by
 rw[W2];have:=qa1 x;unfold qK;omega
theorem w_mul:((zm x 16*zm y 16 % 2 ^ 16:Nat):Int)=qK (zm x 16*zm y 16):=by unfold qK;simp
theorem w_shl (n:Nat):((zm x 16*2 ^ n % 2 ^ 16:Nat):Int)=qK (zm x 16*2 ^ n):=by unfold qK;simp
theorem w_shr (n:Nat):((zm x 16 / 2 ^ n:Nat):Int)=qK (zm x 16) / 2 ^ n:=by
 have:=qa1 x;have e:qK (zm x 16)=zm x 16:=QN (by omega) (by omega);rw[e];simp
end
def qp (d:List Nd)(b:Nat->Bool)(w:List Nat)(k:Nat):Bool:=evD d b (w.getD k 0)
def zU (d:List Nd)(b:Nat->Bool)(w:List Nat):Int:=(zm (qp d b w) 16:Nat)
def qT (d:List Nd)(w:List Nat):Prop:=w.length=16/\∀ i∈w,i<d.length
theorem qT.at {d:List Nd}{w:List Nat}(h:qT d w){k:Nat}(hk:k<16):w.getD k 0<d.length:=by
 have hl:k<w.length:=by rw[h.1];exact hk
 rw[qqz,qqr hl];exact h.2 _ (qsF hl)
theorem qT.grown {d d':List Nd}{w:List Nat}(h:qT d w)(hg:qU d d'):qT d' w:=⟨h.1,fun i hi=>qqE (h.2 i hi) hg.len⟩
theorem zI {d d':List Nd}(hd:DagOk d)(hg:qU d d'){w:List Nat}(h:qT d w)(b:Nat->Bool){k:Nat}(hk:k<16):qp d' b w k=qp d b w k:=hg.ev hd b (h.at hk)
theorem qfK {d d':List Nd}(hd:DagOk d)(hg:qU d d'){w:List Nat}(h:qT d w)(b:Nat->Bool):zU d' b w=zU d b w:=by
 unfold zU;rw[zn fun k hk=>zI hd hg h b hk]
theorem qfJ (d:List Nd)(b:Nat->Bool)(w:List Nat):0<=zU d b w/\zU d b w<=65535:=by
 unfold zU;have:=qa1 (qp d b w);omega
end
def jr (v:Var):Nat:=2 ^ v.width.toNat
def qR:List Var->List Int->List Int×Bool
 | v::vs,x::xs=>
  if (qR vs xs).2=false then (x::(qR vs xs).1,false)
  else if v.mode=0 then (x::(qR vs xs).1,true)
  else if x+1<(jr v:Nat) then ((x+1)::(qR vs xs).1,false)
  else (0::(qR vs xs).1,true)
 | _,_=>([],true)
def zg (vs:List Var):List Int:=vs.map fun v=>if v.mode=0 then v.value else 0
def yC:List Var->List (List Int)
 | []=>[[]]
 | v::vs=>if v.mode=0 then (yC vs).map (v.value::·) else (List.range (jr v)).flatMap fun n:Nat=>(yC vs).map ((n:Int)::·)
def Zh:List Var->List Int->List (List Int)
 | v::vs,x::xs=>if v.mode=0 then (Zh vs xs).map (x::·) else (Zh vs xs).map (x::·)++(List.range' (x.toNat+1) (jr v-1-x.toNat)).flatMap fun n:Nat=>(yC vs).map ((n:Int)::·)
 | _,_=>[[]]
theorem Kw {v:Var}{vs:List Var}(h:v.mode=0):yC (v::vs)=(yC vs).map (v.value::·):=by rw[yC,if_pos h]
theorem Kx {v:Var}{vs:List Var}(h:¬ v.mode=0):yC (v::vs)=(List.range (jr v)).flatMap fun n:Nat=>(yC vs).map ((n:Int)::·):=by rw[yC,if_neg h]
theorem JQ {v:Var}{vs:List Var}{x:Int}{xs:List Int}(h:v.mode=0):Zh (v::vs) (x::xs)=(Zh vs xs).map (x::·):=by rw[Zh,if_pos h]
theorem vT {v:Var}{vs:List Var}{x:Int}{xs:List Int}(h:¬ v.mode=0):Zh (v::vs) (x::xs)=(Zh vs xs).map (x::·)++(List.range' (x.toNat+1) (jr v-1-x.toNat)).flatMap fun n:Nat=>(yC vs).map ((n:Int)::·):=by rw[Zh,if_neg h]
def okA:List Var->List Int->Prop
 | [],[]=>True
 | v::vs,x::xs=>(if v.mode=0 then x=v.value else 0<=x/\x<(jr v:Nat))/\okA vs xs
 | _,_=>False
theorem Yi (v:Var):0<jr v:=qsy _
theorem okA.len:∀ {vs:List Var} {a:List Int},okA vs a->a.length=vs.length
 | [],[],_=>rfl
 | _::vs,_::xs,h=>by simp[okA.len h.2]
 | [],_::_,h=>h.elim
 | _::_,[],h=>h.elim
theorem YH:∀ (vs:List Var),okA vs (zg vs)
 | []=>trivial
 | v::vs=>by
  have:=Yi v;show okA (v::vs) ((if v.mode=0 then v.value else 0)::zg vs);refine⟨?_,YH vs⟩;by_cases h:v.mode=0
  . rw[if_pos h,if_pos h]
  . rw[if_neg h,if_neg h];omega
theorem Vi:∀ {vs:List Var} {a:List Int},okA vs a->okA vs (qR vs a).1
 | [],[],_=>trivial
 | v::vs,x::xs,h=>by
  have h1:=Vi h.2;have h2:=h.1;have:=Yi v;unfold qR;split
  . exact⟨h2,h1⟩
  . split
    . exact⟨h2,h1⟩
    . rename_i hm;rw[if_neg hm]at h2;split
      . refine⟨?_,h1⟩;rw[if_neg hm];omega
      . refine⟨?_,h1⟩;rw[if_neg hm];omega
 | [],_::_,h=>h.elim
 | _::_,[],h=>h.elim
theorem qaE:∀ {vs:List Var} {a:List Int},okA vs a->(qR vs a).2=true->(qR vs a).1=zg vs
 | [],[],_,_=>rfl
 | v::vs,x::xs,h,ho=>by
  have h2:=h.1;unfold qR at ho ⊢;by_cases h1:(qR vs xs).2=false
  . rw[if_pos h1]at ho;cases ho
  . have h1':(qR vs xs).2=true:=(by simpa using h1);have ih:=qaE h.2 h1';rw[if_neg h1]at ho ⊢;show _=(if v.mode=0 then v.value else 0)::zg vs;by_cases hm:v.mode=0
    . rw[if_pos hm]at h2 ⊢;rw[if_pos hm,ih,h2]
    . rw[if_neg hm]at ho ⊢;rw[if_neg hm];by_cases hx:x+1<(jr v:Nat)
      . rw[if_pos hx]at ho;cases ho
      . rw[if_neg hx,ih]
 | [],_::_,h,_=>h.elim
 | _::_,[],h,_=>h.elim
theorem qfC {n:Nat}(h:0<n):List.range n=0::List.range' 1 (n-1):=by
 cases n with
 | zero=>omega
 | succ n=>rw[qrD,qr7];simp
theorem wk:∀ (vs:List Var),Zh vs (zg vs)=yC vs
 | []=>rfl
 | v::vs=>by
  show Zh (v::vs) ((if v.mode=0 then v.value else 0)::zg vs)=_;by_cases h:v.mode=0
  . rw[if_pos h,JQ h,Kw h,wk vs]
  . rw[if_neg h,vT h,Kx h,wk vs,qfC (Yi v),qqP];rfl
theorem Y1:∀ {vs:List Var} {a:List Int},okA vs a->Zh vs a=a::if (qR vs a).2=true then [] else Zh vs (qR vs a).1
 | [],[],_=>rfl
 | v::vs,x::xs,h=>by
  have ih:=Y1 h.2;have h2:=h.1;by_cases h1:(qR vs xs).2=false
  . have e:qR (v::vs) (x::xs)=(x::(qR vs xs).1,false):=(by rw[qR,if_pos h1]);rw[h1,if_neg (by simp)]at ih;rw[e,if_neg (by simp)];by_cases hm:v.mode=0
    . rw[JQ hm,JQ hm,ih];rfl
    . rw[vT hm,vT hm,ih];rfl
  . have h1':(qR vs xs).2=true:=(by simpa using h1);rw[h1',if_pos rfl]at ih;by_cases hm:v.mode=0
    . have e:qR (v::vs) (x::xs)=(x::(qR vs xs).1,true):=(by rw[qR,if_neg h1,if_pos hm]);rw[e,if_pos rfl,JQ hm,ih];rfl
    . rw[if_neg hm]at h2;by_cases hx:x+1<(jr v:Nat)
      . have e:qR (v::vs) (x::xs)=((x+1)::(qR vs xs).1,false):=(by rw[qR,if_neg h1,if_neg hm,if_pos hx]);have e1:(x+1).toNat=x.toNat+1:=(by omega);have e2:jr v-1-x.toNat=(jr v-1-(x.toNat+1))+1:=(by omega);have e3:((x.toNat+1:Nat):Int)=x+1:=(by omega);rw[e,if_neg (by simp),vT hm,ih,vT hm,qaE h.2 h1',wk,e1,e2,qr7,qqP,e3];rfl
      . have e:qR (v::vs) (x::xs)=(0::(qR vs xs).1,true):=(by rw[qR,if_neg h1,if_neg hm,if_neg hx]);have e2:jr v-1-x.toNat=0:=(by omega);rw[e,if_pos rfl,vT hm,ih,e2];rfl
 | [],_::_,h=>h.elim
 | _::_,[],h=>h.elim
theorem QI:∀ (vs:List Var),(yC vs).length=2 ^ ((vs.map fun v=>if v.mode=0 then 0 else v.width.toNat).sum)
 | []=>rfl
 | v::vs=>by
  by_cases h:v.mode=0
  . rw[Kw h,qq7,QI vs];simp[h]
  . rw[Kx h];have:∀ (l:List Nat),(l.flatMap fun n:Nat=>(yC vs).map ((n:Int)::·)).length=l.length*(yC vs).length:=by
     intro l
     induction l with
     | nil=>simp
     | cons a r ih=>rw[qqP,qqu,ih,qq7,qqH,qsE,qsc]
    rw[this,qtH,QI vs];simp only[qqC,if_neg h,qsz,Nat.pow_add,jr]
theorem wX:∀ {vs:List Var} {a:List Int},a∈yC vs↔okA vs a
 | [],a=>by
  cases a with
  | nil=>simp[yC,okA]
  | cons x xs=>simp[yC,okA]
 | v::vs,a=>by
  by_cases h:v.mode=0
  . rw[Kw h,qqT];constructor
    . rintro⟨b,hb,rfl⟩;exact⟨by rw[if_pos h],wX.1 hb⟩
    . intro hk
      cases a with
      | nil=>exact hk.elim
      | cons x xs=>
       have h1:=hk.1;rw[if_pos h]at h1;exact⟨xs,wX.2 hk.2,by rw[h1]⟩
  . rw[Kx h,List.mem_flatMap];constructor
    . rintro⟨n,hn,hb'⟩;obtain⟨b,hb,rfl⟩:=qqT.1 hb';have:=qrr.1 hn;exact⟨by rw[if_neg h];omega,wX.1 hb⟩
    . intro hk
      cases a with
      | nil=>exact hk.elim
      | cons x xs=>
       have h1:=hk.1;rw[if_neg h]at h1;refine⟨x.toNat,qrr.2 (by omega),qqT.2 ⟨xs,wX.2 hk.2,?_⟩⟩;rw[Int.toNat_of_nonneg h1.1]
noncomputable def w7 (vs:List Var)(l:List Ex)(a:List Int):Bool:=l.all fun e=>decide (yo (yY vs a) e≠0)
noncomputable def qcc (vs:List Var)(l:List Ex):Nat->List Int->Option (List Int)×Bool
 | 0,_=>(none,false)
 | k+1,a=>if w7 vs l a then (some a,(qR vs a).2) else if (qR vs a).2 then (none,true) else qcc vs l k (qR vs a).1
theorem qeA {vs:List Var}{l:List Ex}:∀ (k:Nat) {a:List Int},okA vs a->(Zh vs a).length<=k->(qcc vs l k a).1=(Zh vs a).find? (w7 vs l)/\((qcc vs l k a).1=none->(qcc vs l k a).2=true)
 | 0,a,h,hk=>by rw[Y1 h]at hk;simp at hk
 | k+1,a,h,hk=>by
  rw[Y1 h]at hk ⊢;unfold qcc;rw[qs1];by_cases hs:w7 vs l a=true
  . rw[if_pos hs,hs];exact⟨rfl,fun e=>by cases e⟩
  . rw[if_neg hs];have hs':w7 vs l a=false:=(by simpa using hs);rw[hs'];by_cases ho:(qR vs a).2=true
    . rw[if_pos ho,if_pos ho];exact⟨rfl,fun _=>rfl⟩
    . rw[if_neg ho,if_neg ho];rw[if_neg ho]at hk;exact qeA k (Vi h) (by simp at hk;omega)
noncomputable def jY (vs:List Var)(l:List Ex):Bool:=(yC vs).any (w7 vs l)
theorem qlF {vs:List Var}{l:List Ex}{k:Nat}(hk:(yC vs).length<=k):((qcc vs l k (zg vs)).1.isSome=jY vs l)/\((qcc vs l k (zg vs)).1=none->(qcc vs l k (zg vs)).2=true):=by
 have:=qeA (l:=l) k (YH vs) (by rw[wk];exact hk);rw[wk]at this;refine⟨?_,this.2⟩;rw[this.1,jY];generalize yC vs=L
 induction L with
 | nil=>rfl
 | cons a r ih=>rw[qs1,qsp];cases w7 vs l a<;>simp[ih]
def wV (l:List Var)(a:List Int):List Signal:=(l.zip a).map fun q=>⟨q.1.name,q.2⟩
theorem ZV (l:List Var)(a:List Int):yY l a=if a.length=l.length then wV l a else []:=rfl
theorem vY {l:List Var}{a:List Int}{i:Nat}{v:Var}{x:Int}(h:l[i]?=some v)(h':a[i]?=some x):(wV l a)[i]?=some ⟨v.name,x⟩:=by
 unfold wV;rw[qqO,(qrR (z:=(v,x))).2 ⟨h,h'⟩];rfl
theorem yy {l:List Var}{a:List Int}(h:a.length=l.length):(wV l a).length=l.length:=by simp[wV,h]
theorem qlX {l:List Var}{a:List Int}:(yY l a).length<=l.length:=by
 rw[ZV];split
 . rename_i h;rw[yy h];exact qqB _
 . simp
end Go.Proofs.YtkpkjbchlabaaaaGreatDoor
end
