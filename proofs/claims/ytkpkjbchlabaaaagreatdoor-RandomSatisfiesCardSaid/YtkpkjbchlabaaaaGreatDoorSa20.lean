/- A part of the proof. -/
import Derived.Test.YtkpkjbchlabaaaaGreatDoorSa07
set_option linter.unusedVariables false
set_option linter.unusedSimpArgs false
set_option linter.defProp false
section
namespace Go.Proofs.YtkpkjbchlabaaaaGreatDoor
open Go Go.Abs
def qK (n:Int):Int:=n % 65536
theorem qD (n:Int):0<=qK n/\qK n<=65535:=by unfold qK;omega
theorem Jy {n:Int}(h0:0<=n)(h1:n<=65535):qK n=n:=by unfold qK;omega
def b2i (b:Bool):Int:=if b=true then 1 else 0
theorem Ki (b:Bool):0<=b2i b/\b2i b<=65535:=by cases b<;>simp[b2i]
def ye (env:List Signal)(name:Str):Option Int:=(env.find? fun s=>s.name==name).map fun s=>qK s.value
def atV (env:List Signal)(a:Str)(i:Int):Int:=if 0<=i/\i<8 then (ye env (zW a i.toNat)).getD 0 else 0
def qmH (env:List Signal)(a:Str):Nat->Int
 | 0=>0
 | i+1=>qK (qmH env a i+atV env a i)
def ki (a:Nat):Nat->Nat
 | 0=>0
 | i+1=>ki a i+(if a.testBit i=true then 1 else 0)
def unW (op a:Int):Int :=
 if op=4 then b2i (decide (a=0)) else if op=5 then 65535-qK a else if op=6 then qK (0-a) else (ki (qK a).toNat 16:Int)
def yN (op a b:Int):Int :=
 if op=7 then qK (a+b) else if op=8 then qK (a-b) else if op=9 then qK (a*b)
 else if op=10 then ((a.toNat &&& b.toNat:Nat):Int) else if op=11 then ((a.toNat ||| b.toNat:Nat):Int) else if op=12 then ((a.toNat ^^^ b.toNat:Nat):Int)
 else if op=13 then (if 0<=b/\b<16 then qK (a*2 ^ b.toNat) else 0)
 else if op=14 then (if 0<=b/\b<16 then qK a / 2 ^ b.toNat else 0)
 else if op=15 then b2i (decide (a=b)) else if op=16 then b2i (!decide (a=b)) else if op=17 then b2i (decide (a<b)) else if op=18 then b2i (decide (a<=b))
 else if op=19 then b2i (!decide (a=0)&&!decide (b=0)) else if op=20 then b2i (!decide (a=0)||!decide (b=0))
 else b2i (decide (a=0)||!decide (b=0))
def jV (a:Int):List Int->Bool
 | x::y::r=>(decide (x<=a)&&decide (a<=y))||jV a r
 | _=>false
def opW (op:Int)(l:List Int):Int :=
 if op=22 then (if l.getD 0 0≠0 then l.getD 1 0 else l.getD 2 0)
 else if op=23 then b2i (jV (l.getD 0 0) l.tail)
 else match l with
  | []=>0
  | [a]=>unW op a
  | a::b::_=>yN op a b
def Vb (env:List Signal)(op n:Int)(name:Str)(l:List Int):Int :=
 if op=1 then n else if op=2 then (ye env name).getD 0 else if op=3 then atV env name (l.getD 0 0) else if op=24 then qmH env name 8 else opW op l
mutual
def vd (env:List Signal):Ex->Int
 | .mk op n name args=>Vb env op n name (qgH env args)
def qgH (env:List Signal):List Ex->List Int
 | []=>[]
 | e::r=>vd env e::qgH env r
end
@[simp]theorem qjX (env:List Signal):∀ l,qgH env l=l.map (vd env)
 | []=>by simp[qgH]
 | e::r=>by simp[qgH,qjX env r]
theorem vm (env:List Signal)(e:Ex):vd env e=Vb env e.op e.n e.name (e.args.map (vd env)):=by cases e;simp[vd]
def askV (env:List Signal)(e:Ex):Bool :=
 if e.op=2 then (ye env e.name).isSome else if e.op=3\/e.op=24 then (ye env (zW e.name 0)).isSome else true
def wc (env:List Signal)(e:Ex):Bool:=(pre e).all (askV env)
noncomputable def KB (env:List Signal)(e:Ex):Int:=if zf e≠0 then 1 else if wc env e=true then 0 else 7
noncomputable def yD (env:List Signal)(e:Ex):Int:=if zf e=0/\wc env e=true then vd env e else 0
def yL (e:Ex):Prop:=∀ x∈pre e,qo x=0
theorem yL.self {e:Ex}(h:yL e):qo e=0:=h e (by rw[jr];simp)
theorem yL.arg {e a:Ex}(h:yL e)(ha:a∈e.args):yL a:=fun x hx=>h x (by rw[jr];exact qrJ _ (QX.2 ⟨a,ha,hx⟩))
theorem ZX {e:Ex}(h:zf e=0):yL e:=by
 unfold zf at h;split at h
 . cases h
 . exact zr.1 h
theorem je {e:Ex}(h:qo e=0):1<=e.op/\e.op<=25/\(e.op=1->0<=e.n/\e.n<=65535)/\(e.op≠1->e.n=0)/\qi e=true/\(e.op=2->yX e.name=true)/\(e.op=3\/e.op=24->zQ e.name=true)/\(¬ (e.op=2\/e.op=3\/e.op=24)->e.name=[]):=by
 unfold qo at h;split at h
 . cases h
 rename_i h1;split at h
 . cases h
 rename_i h2;split at h
 . cases h
 rename_i h3;split at h
 . cases h
 rename_i h4;refine⟨by omega,by omega,fun h=>?_,fun h=>?_,?_,fun h=>?_,fun h=>?_,fun h=>?_⟩
 . apply Classical.byContradiction;intro hn;exact h2 (.inl ⟨h,by omega⟩)
 . apply Classical.byContradiction;intro hn;exact h2 (.inr ⟨h,hn⟩)
 . cases ho:qi e with
   | true=>rfl
   | false=>exact absurd (.inr ho) h3
 . cases ho:yX e.name with
   | true=>rfl
   | false=>exact absurd (.inl ⟨h,ho⟩) h4
 . cases ho:zQ e.name with
   | true=>rfl
   | false=>exact absurd (.inr ⟨h,ho⟩) h4
 . apply Classical.byContradiction;intro hn;exact h3 (.inl ⟨h,hn⟩)
theorem wD {e:Ex}(h:qi e=true)(h23:e.op≠23):(e.args.length:Int)=zo e.op:=by
 unfold qi at h;rw[if_neg h23]at h;simpa using h
theorem Yx {e:Ex}(h:qi e=true)(h23:e.op=23):e.args.length % 2=1/\3<=e.args.length/\e.args.length<=33:=by
 unfold qi at h;rw[if_pos h23]at h;simpa using h
theorem JF (a:Nat):∀ i,ki a i<=i
 | 0=>qqn _
 | i+1=>by
  have:=JF a i;simp only[ki];split<;>omega
theorem YY {env:List Signal}{name:Str}{v:Int}(h:ye env name=some v):0<=v/\v<=65535:=by
 unfold ye at h;obtain⟨s,_,rfl⟩:=qqj.1 h;exact qD _
theorem Zz {o:Option Int}(h:∀ v,o=some v->0<=v/\v<=65535):0<=o.getD 0/\o.getD 0<=65535:=by
 cases o with
 | none=>simp
 | some v=>exact h v rfl
theorem qjf (env:List Signal)(a:Str)(i:Int):0<=atV env a i/\atV env a i<=65535:=by
 unfold atV;split
 . exact Zz fun v h=>YY h
 . omega
theorem qfj (env:List Signal)(a:Str):∀ i,0<=qmH env a i/\qmH env a i<=65535
 | 0=>by simp[qmH]
 | i+1=>qD _
theorem qgO (op a:Int):0<=unW op a/\unW op a<=65535:=by
 unfold unW;split
 . exact Ki _
 split
 . have:=qD a;omega
 split
 . exact qD _
 . have:=JF (qK a).toNat 16;omega
theorem qaw {a:Int}(n:Nat)(h0:0<=a)(h1:a<=65535):0<=a / 2 ^ n/\a / 2 ^ n<=65535:=by
 have hp:(0:Int)<2 ^ n:=qtG (by omega);refine⟨Int.ediv_nonneg h0 (by omega),?_⟩;have:=Int.ediv_le_self (2 ^ n) h0;omega
def InW (n:Int):Prop:=0<=n/\n<=65535
theorem InW.ite {c:Prop}[Decidable c]{a b:Int}(ha:InW a)(hb:InW b):InW (if c then a else b):=by
 split
 . exact ha
 . exact hb
theorem qgf (op:Int){a b:Int}(ha0:0<=a)(ha1:a<=65535)(hb0:0<=b)(hb1:b<=65535):0<=yN op a b/\yN op a b<=65535:=by
 obtain⟨x,rfl⟩:=qqL ha0;obtain⟨y,rfl⟩:=qqL hb0;have hx:x<2 ^ 16:=by omega
 have hy:y<2 ^ 16:=by omega
 have o1:=Nat.and_lt_two_pow (n:=16) x hy;have o2:=Nat.or_lt_two_pow (n:=16) hx hy;have o3:=Nat.xor_lt_two_pow (n:=16) hx hy;show InW (yN op x y);unfold yN;simp only[qqT]
 repeat' apply InW.ite
 all_goals first | exact qD _ | exact Ki _ | exact qaw _ (qD _).1 (qD _).2 | (unfold InW;omega)
theorem qfd (env:List Signal):∀ e,yL e->0<=vd env e/\vd env e<=65535:=by
 refine Ex.ind fun e ih hn=>?_
 have hm:∀ x∈e.args.map (vd env),0<=x/\x<=65535:=by
  intro x hx;obtain⟨a,ha,rfl⟩:=qqG.1 hx;exact ih a ha (hn.arg ha)
 have hg:∀ i,0<=(e.args.map (vd env)).getD i 0/\(e.args.map (vd env)).getD i 0<=65535:=by
  intro i;rw[qqm];exact Zz fun v h=>hm v (qqd h)
 obtain⟨h1,h2,h3,_⟩:=je hn.self;rw[vm];unfold Vb;split
 . rename_i h;exact h3 h
 split
 . exact Zz fun v h=>YY h
 split
 . exact qjf _ _ _
 split
 . exact qfj _ _ _
 unfold opW;split
 . split
   . exact hg 1
   . exact hg 2
 split
 . exact Ki _
 split
 . omega
 . exact qgO _ _
 . rename_i a b r hl;rw[hl]at hm;exact qgf _ (hm a (by simp)).1 (hm a (by simp)).2 (hm b (by simp)).1 (hm b (by simp)).2
def kQ (l:List Var)(a:List Int):List Signal:=if a.length=l.length then (l.zip a).map fun q=>⟨q.1.name,q.2⟩ else []
def z5 (q:Var×Int):Bool:=decide (0<=q.2)&&decide (q.2<2 ^ q.1.width.toNat)&&(!decide (q.1.mode=0)||decide (q.2=q.1.value))
def qH (l:List Var)(a:List Int):Bool:=decide (a.length=l.length)&&(l.zip a).all z5
noncomputable def jM (p:Problem)(a:List Int)(e:Ex):Bool :=
 decide (qj p=0)&&qH p.vars a&&decide (KB (kQ p.vars a) e=0)&&!decide (yD (kQ p.vars a) e=0)
theorem qce {p:Problem}(h:qj p=0):∀ v∈p.vars,jH v=0:=by
 unfold qj at h;split at h
 . rename_i hn;exact absurd h hn
 rename_i hv;have hv:zV p.vars=0:=qqY.1 hv;unfold zV at hv;split at hv
 . cases hv
 split at hv
 . rename_i hn;exact absurd hv hn
 rename_i hz;exact zr.1 (qqY.1 hz)
section
theorem qaS (f:Nat->Bool):zg f 16<65536:=y8 f 16
theorem Wd (f:Nat->Bool):∀ k,k<=16->ki (zg f 16) k=W5 f k
 | 0,_=>rfl
 | k+1,h=>by
  simp only[ki,W5,Wd f k (by omega),qS,b2n];have:decide (k<16)=true:=by simp;omega
  rw[this,qrg];cases f k<;>rfl
theorem vn (f:Nat->Bool):Zi f 16 = !decide ((zg f 16:Int)=0):=by
 rw[Zh];simp
theorem qhD (t:Bool):(zg (fun k=>decide (k=0)&&t) 16:Int)=b2i t:=by
 rw[WN t 15];cases t<;>rfl
section
variable {x y z:Nat->Bool}
theorem w_add:(zg (fun k=>(x k ^^ y k) ^^ V6 x y false k) 16:Int)=qK (zg x 16+zg y 16):=by
 rw[kq];unfold qK b2n;simp
theorem w_sub:(zg (fun k=>(x k ^^ !y k) ^^ V6 x (fun k=>!y k) true k) 16:Int)=qK (zg x 16-zg y 16):=by
 rw[kq,WO];have:=qaS x;have:=qaS y;unfold qK b2n;simp;omega
theorem w_inv:(zg (fun k=>!x k) 16:Int)=65535-qK (zg x 16):=by
 rw[WO];have:=qaS x;unfold qK;omega
theorem w_mul:((zg x 16*zg y 16 % 2 ^ 16:Nat):Int)=qK (zg x 16*zg y 16):=by unfold qK;simp
theorem w_shl (n:Nat):((zg x 16*2 ^ n % 2 ^ 16:Nat):Int)=qK (zg x 16*2 ^ n):=by unfold qK;simp
theorem w_shr (n:Nat):((zg x 16 / 2 ^ n:Nat):Int)=qK (zg x 16) / 2 ^ n:=by
 have:=qaS x;have e:qK (zg x 16)=zg x 16:=Jy (by omega) (by omega);rw[e];simp
end
def qn (d:List Nd)(b:Nat->Bool)(w:List Nat)(k:Nat):Bool:=evD d b (w.getD k 0)
def zP (d:List Nd)(b:Nat->Bool)(w:List Nat):Int:=(zg (qn d b w) 16:Nat)
def qV (d:List Nd)(w:List Nat):Prop:=w.length=16/\∀ i∈w,i<d.length
theorem qV.at {d:List Nd}{w:List Nat}(h:qV d w){k:Nat}(hk:k<16):w.getD k 0<d.length:=by
 have hl:k<w.length:=by rw[h.1];exact hk
 rw[qqm,qqe hl];exact h.2 _ (qrQ hl)
theorem qV.grown {d d':List Nd}{w:List Nat}(h:qV d w)(hg:qW d d'):qV d' w:=⟨h.1,fun i hi=>qqr (h.2 i hi) hg.len⟩
theorem zC {d d':List Nd}(hd:DagOk d)(hg:qW d d'){w:List Nat}(h:qV d w)(b:Nat->Bool){k:Nat}(hk:k<16):qn d' b w k=qn d b w k:=hg.ev hd b (h.at hk)
theorem qfB {d d':List Nd}(hd:DagOk d)(hg:qW d d'){w:List Nat}(h:qV d w)(b:Nat->Bool):zP d' b w=zP d b w:=by
 unfold zP;rw[zh fun k hk=>zC hd hg h b hk]
theorem qfA (d:List Nd)(b:Nat->Bool)(w:List Nat):0<=zP d b w/\zP d b w<=65535:=by
 unfold zP;have:=qaS (qn d b w);omega
end
def jx (v:Var):Nat:=2 ^ v.width.toNat
def qT:List Var->List Int->List Int×Bool
 | v::vs,x::xs=>
  if (qT vs xs).2=false then (x::(qT vs xs).1,false)
  else if v.mode=0 then (x::(qT vs xs).1,true)
  else if x+1<(jx v:Nat) then ((x+1)::(qT vs xs).1,false)
  else (0::(qT vs xs).1,true)
 | _,_=>([],true)
def qP (vs:List Var):List Int:=vs.map fun v=>if v.mode=0 then v.value else 0
def yl:List Var->List (List Int)
 | []=>[[]]
 | v::vs=>if v.mode=0 then (yl vs).map (v.value::·) else (List.range (jx v)).flatMap fun n:Nat=>(yl vs).map ((n:Int)::·)
def Q6:List Var->List Int->List (List Int)
 | v::vs,x::xs=>if v.mode=0 then (Q6 vs xs).map (x::·) else (Q6 vs xs).map (x::·)++(List.range' (x.toNat+1) (jx v-1-x.toNat)).flatMap fun n:Nat=>(yl vs).map ((n:Int)::·)
 | _,_=>[[]]
theorem Kj {v:Var}{vs:List Var}(h:v.mode=0):yl (v::vs)=(yl vs).map (v.value::·):=by rw[yl,if_pos h]
theorem Kk {v:Var}{vs:List Var}(h:¬ v.mode=0):yl (v::vs)=(List.range (jx v)).flatMap fun n:Nat=>(yl vs).map ((n:Int)::·):=by rw[yl,if_neg h]
theorem JH {v:Var}{vs:List Var}{x:Int}{xs:List Int}(h:v.mode=0):Q6 (v::vs) (x::xs)=(Q6 vs xs).map (x::·):=by rw[Q6,if_pos h]
theorem vV {v:Var}{vs:List Var}{x:Int}{xs:List Int}(h:¬ v.mode=0):Q6 (v::vs) (x::xs)=(Q6 vs xs).map (x::·)++(List.range' (x.toNat+1) (jx v-1-x.toNat)).flatMap fun n:Nat=>(yl vs).map ((n:Int)::·):=by rw[Q6,if_neg h]
def okA:List Var->List Int->Prop
 | [],[]=>True
 | v::vs,x::xs=>(if v.mode=0 then x=v.value else 0<=x/\x<(jx v:Nat))/\okA vs xs
 | _,_=>False
theorem Yd (v:Var):0<jx v:=qsx _
theorem okA.len:∀ {vs:List Var} {a:List Int},okA vs a->a.length=vs.length
 | [],[],_=>rfl
 | _::vs,_::xs,h=>by simp[okA.len h.2]
 | [],_::_,h=>h.elim
 | _::_,[],h=>h.elim
theorem Yz:∀ (vs:List Var),okA vs (qP vs)
 | []=>trivial
 | v::vs=>by
  have:=Yd v;show okA (v::vs) ((if v.mode=0 then v.value else 0)::qP vs);refine⟨?_,Yz vs⟩;by_cases h:v.mode=0
  . rw[if_pos h,if_pos h]
  . rw[if_neg h,if_neg h];omega
theorem W8:∀ {vs:List Var} {a:List Int},okA vs a->okA vs (qT vs a).1
 | [],[],_=>trivial
 | v::vs,x::xs,h=>by
  have h1:=W8 h.2;have h2:=h.1;have:=Yd v;unfold qT;split
  . exact⟨h2,h1⟩
  . split
    . exact⟨h2,h1⟩
    . rename_i hm;rw[if_neg hm]at h2;split
      . refine⟨?_,h1⟩;rw[if_neg hm];omega
      . refine⟨?_,h1⟩;rw[if_neg hm];omega
 | [],_::_,h=>h.elim
 | _::_,[],h=>h.elim
theorem qas:∀ {vs:List Var} {a:List Int},okA vs a->(qT vs a).2=true->(qT vs a).1=qP vs
 | [],[],_,_=>rfl
 | v::vs,x::xs,h,ho=>by
  have h2:=h.1;unfold qT at ho ⊢;by_cases h1:(qT vs xs).2=false
  . rw[if_pos h1]at ho;cases ho
  . have h1':(qT vs xs).2=true:=(by simpa using h1);have ih:=qas h.2 h1';rw[if_neg h1]at ho ⊢;show _=(if v.mode=0 then v.value else 0)::qP vs;by_cases hm:v.mode=0
    . rw[if_pos hm]at h2 ⊢;rw[if_pos hm,ih,h2]
    . rw[if_neg hm]at ho ⊢;rw[if_neg hm];by_cases hx:x+1<(jx v:Nat)
      . rw[if_pos hx]at ho;cases ho
      . rw[if_neg hx,ih]
 | [],_::_,h,_=>h.elim
 | _::_,[],h,_=>h.elim
theorem qfu {n:Nat}(h:0<n):List.range n=0::List.range' 1 (n-1):=by
 cases n with
 | zero=>omega
 | succ n=>rw[qrr,qrt];simp
theorem wh:∀ (vs:List Var),Q6 vs (qP vs)=yl vs
 | []=>rfl
 | v::vs=>by
  show Q6 (v::vs) ((if v.mode=0 then v.value else 0)::qP vs)=_;by_cases h:v.mode=0
  . rw[if_pos h,JH h,Kj h,wh vs]
  . rw[if_neg h,vV h,Kk h,wh vs,qfu (Yd v),qqD];rfl
theorem YR:∀ {vs:List Var} {a:List Int},okA vs a->Q6 vs a=a::if (qT vs a).2=true then [] else Q6 vs (qT vs a).1
 | [],[],_=>rfl
 | v::vs,x::xs,h=>by
  have ih:=YR h.2;have h2:=h.1;by_cases h1:(qT vs xs).2=false
  . have e:qT (v::vs) (x::xs)=(x::(qT vs xs).1,false):=(by rw[qT,if_pos h1]);rw[h1,if_neg (by simp)]at ih;rw[e,if_neg (by simp)];by_cases hm:v.mode=0
    . rw[JH hm,JH hm,ih];rfl
    . rw[vV hm,vV hm,ih];rfl
  . have h1':(qT vs xs).2=true:=(by simpa using h1);rw[h1',if_pos rfl]at ih;by_cases hm:v.mode=0
    . have e:qT (v::vs) (x::xs)=(x::(qT vs xs).1,true):=(by rw[qT,if_neg h1,if_pos hm]);rw[e,if_pos rfl,JH hm,ih];rfl
    . rw[if_neg hm]at h2;by_cases hx:x+1<(jx v:Nat)
      . have e:qT (v::vs) (x::xs)=((x+1)::(qT vs xs).1,false):=(by rw[qT,if_neg h1,if_neg hm,if_pos hx]);have e1:(x+1).toNat=x.toNat+1:=(by omega);have e2:jx v-1-x.toNat=(jx v-1-(x.toNat+1))+1:=(by omega);have e3:((x.toNat+1:Nat):Int)=x+1:=(by omega);rw[e,if_neg (by simp),vV hm,ih,vV hm,qas h.2 h1',wh,e1,e2,qrt,qqD,e3];rfl
      . have e:qT (v::vs) (x::xs)=(0::(qT vs xs).1,true):=(by rw[qT,if_neg h1,if_neg hm,if_neg hx]);have e2:jx v-1-x.toNat=0:=(by omega);rw[e,if_pos rfl,vV hm,ih,e2];rfl
 | [],_::_,h=>h.elim
 | _::_,[],h=>h.elim
theorem QD:∀ (vs:List Var),(yl vs).length=2 ^ ((vs.map fun v=>if v.mode=0 then 0 else v.width.toNat).sum)
 | []=>rfl
 | v::vs=>by
  by_cases h:v.mode=0
  . rw[Kj h,qqS,QD vs];simp[h]
  . rw[Kk h];have:∀ (l:List Nat),(l.flatMap fun n:Nat=>(yl vs).map ((n:Int)::·)).length=l.length*(yl vs).length:=by
     intro l
     induction l with
     | nil=>simp
     | cons a r ih=>rw[qqD,qqg,ih,qqS,qqs,qso,qrZ]
    rw[this,qtn,QD vs];simp only[qqp,if_neg h,qsj,Nat.pow_add,jx]
theorem wY:∀ {vs:List Var} {a:List Int},a∈yl vs↔okA vs a
 | [],a=>by
  cases a with
  | nil=>simp[yl,okA]
  | cons x xs=>simp[yl,okA]
 | v::vs,a=>by
  by_cases h:v.mode=0
  . rw[Kj h,qqG];constructor
    . rintro⟨b,hb,rfl⟩;exact⟨by rw[if_pos h],wY.1 hb⟩
    . intro hk
      cases a with
      | nil=>exact hk.elim
      | cons x xs=>
       have h1:=hk.1;rw[if_pos h]at h1;exact⟨xs,wY.2 hk.2,by rw[h1]⟩
  . rw[Kk h,List.mem_flatMap];constructor
    . rintro⟨n,hn,hb'⟩;obtain⟨b,hb,rfl⟩:=qqG.1 hb';have:=qri.1 hn;exact⟨by rw[if_neg h];omega,wY.1 hb⟩
    . intro hk
      cases a with
      | nil=>exact hk.elim
      | cons x xs=>
       have h1:=hk.1;rw[if_neg h]at h1;refine⟨x.toNat,qri.2 (by omega),qqG.2 ⟨xs,wY.2 hk.2,?_⟩⟩;rw[Int.toNat_of_nonneg h1.1]
noncomputable def wu (vs:List Var)(l:List Ex)(a:List Int):Bool:=l.all fun e=>decide (yD (kQ vs a) e≠0)
noncomputable def qb0 (vs:List Var)(l:List Ex):Nat->List Int->Option (List Int)×Bool
 | 0,_=>(none,false)
 | k+1,a=>if wu vs l a then (some a,(qT vs a).2) else if (qT vs a).2 then (none,true) else qb0 vs l k (qT vs a).1
theorem qes {vs:List Var}{l:List Ex}:∀ (k:Nat) {a:List Int},okA vs a->(Q6 vs a).length<=k->(qb0 vs l k a).1=(Q6 vs a).find? (wu vs l)/\((qb0 vs l k a).1=none->(qb0 vs l k a).2=true)
 | 0,a,h,hk=>by rw[YR h]at hk;simp at hk
 | k+1,a,h,hk=>by
  rw[YR h]at hk ⊢;unfold qb0;rw[qsP];by_cases hs:wu vs l a=true
  . rw[if_pos hs,hs];exact⟨rfl,fun e=>by cases e⟩
  . rw[if_neg hs];have hs':wu vs l a=false:=(by simpa using hs);rw[hs'];by_cases ho:(qT vs a).2=true
    . rw[if_pos ho,if_pos ho];exact⟨rfl,fun _=>rfl⟩
    . rw[if_neg ho,if_neg ho];rw[if_neg ho]at hk;exact qes k (W8 h) (by simp at hk;omega)
noncomputable def jO (vs:List Var)(l:List Ex):Bool:=(yl vs).any (wu vs l)
theorem qlv {vs:List Var}{l:List Ex}{k:Nat}(hk:(yl vs).length<=k):((qb0 vs l k (qP vs)).1.isSome=jO vs l)/\((qb0 vs l k (qP vs)).1=none->(qb0 vs l k (qP vs)).2=true):=by
 have:=qes (l:=l) k (Yz vs) (by rw[wh];exact hk);rw[wh]at this;refine⟨?_,this.2⟩;rw[this.1,jO];generalize yl vs=L
 induction L with
 | nil=>rfl
 | cons a r ih=>rw[qsP,qst];cases wu vs l a<;>simp[ih]
def wV (l:List Var)(a:List Int):List Signal:=(l.zip a).map fun q=>⟨q.1.name,q.2⟩
theorem ZG (l:List Var)(a:List Int):kQ l a=if a.length=l.length then wV l a else []:=rfl
theorem v7 {l:List Var}{a:List Int}{i:Nat}{v:Var}{x:Int}(h:l[i]?=some v)(h':a[i]?=some x):(wV l a)[i]?=some ⟨v.name,x⟩:=by
 unfold wV;rw[qqB,(qrO (z:=(v,x))).2 ⟨h,h'⟩];rfl
theorem yy {l:List Var}{a:List Int}(h:a.length=l.length):(wV l a).length=l.length:=by simp[wV,h]
theorem qlO {l:List Var}{a:List Int}:(kQ l a).length<=l.length:=by
 rw[ZG];split
 . rename_i h;rw[yy h];exact qqn _
 . simp
end Go.Proofs.YtkpkjbchlabaaaaGreatDoor
end
