/- A part of the proof. -/
import Derived.Test.YtkpkjbchlabaaaaGreatDoorUa07
set_option linter.unusedVariables false
set_option linter.unusedSimpArgs false
set_option linter.defProp false
section
namespace Go.Proofs.YtkpkjbchlabaaaaGreatDoor
open Go Go.Abs
def qJ (n:Int):Int:=n % 65536
theorem qD (n:Int):0<=qJ n/\qJ n<=65535:=by unfold qJ;omega
theorem Jp {n:Int}(h0:0<=n)(h1:n<=65535):qJ n=n:=by unfold qJ;omega
def b2i (b:Bool):Int:=if b=true then 1 else 0
theorem Y0 (b:Bool):0<=b2i b/\b2i b<=65535:=by cases b<;>simp[b2i]
def j6 (env:List Signal)(name:Str):Option Int:=(env.find? fun s=>s.name==name).map fun s=>qJ s.value
def atV (env:List Signal)(a:Str)(i:Int):Int:=if 0<=i/\i<8 then (j6 env (zW a i.toNat)).getD 0 else 0
def qmc (env:List Signal)(a:Str):Nat->Int
 | 0=>0
 | i+1=>qJ (qmc env a i+atV env a i)
def yY (a:Nat):Nat->Nat
 | 0=>0
 | i+1=>yY a i+(if a.testBit i=true then 1 else 0)
def unW (op a:Int):Int :=
 if op=4 then b2i (decide (a=0)) else if op=5 then 65535-qJ a else if op=6 then qJ (0-a) else (yY (qJ a).toNat 16:Int)
def yz (op a b:Int):Int :=
 if op=7 then qJ (a+b) else if op=8 then qJ (a-b) else if op=9 then qJ (a*b)
 else if op=10 then ((a.toNat &&& b.toNat:Nat):Int) else if op=11 then ((a.toNat ||| b.toNat:Nat):Int) else if op=12 then ((a.toNat ^^^ b.toNat:Nat):Int)
 else if op=13 then (if 0<=b/\b<16 then qJ (a*2 ^ b.toNat) else 0)
 else if op=14 then (if 0<=b/\b<16 then qJ a / 2 ^ b.toNat else 0)
 else if op=15 then b2i (decide (a=b)) else if op=16 then b2i (!decide (a=b)) else if op=17 then b2i (decide (a<b)) else if op=18 then b2i (decide (a<=b))
 else if op=19 then b2i (!decide (a=0)&&!decide (b=0)) else if op=20 then b2i (!decide (a=0)||!decide (b=0))
 else b2i (decide (a=0)||!decide (b=0))
def jR (a:Int):List Int->Bool
 | x::y::r=>(decide (x<=a)&&decide (a<=y))||jR a r
 | _=>false
def opW (op:Int)(l:List Int):Int :=
 if op=22 then (if l.getD 0 0≠0 then l.getD 1 0 else l.getD 2 0)
 else if op=23 then b2i (jR (l.getD 0 0) l.tail)
 else match l with
  | []=>0
  | [a]=>unW op a
  | a::b::_=>yz op a b
def WO (env:List Signal)(op n:Int)(name:Str)(l:List Int):Int :=
 if op=1 then n else if op=2 then (j6 env name).getD 0 else if op=3 then atV env name (l.getD 0 0) else if op=24 then qmc env name 8 else opW op l
mutual
def wP (env:List Signal):Ex->Int
 | .mk op n name args=>WO env op n name (qf9 env args)
def qf9 (env:List Signal):List Ex->List Int
 | []=>[]
 | e::r=>wP env e::qf9 env r
end
@[simp]theorem qjv (env:List Signal):∀ l,qf9 env l=l.map (wP env)
 | []=>by simp[qf9]
 | e::r=>by simp[qf9,qjv env r]
theorem wU (env:List Signal)(e:Ex):wP env e=WO env e.op e.n e.name (e.args.map (wP env)):=by cases e;simp[wP]
def askV (env:List Signal)(e:Ex):Bool :=
 if e.op=2 then (j6 env e.name).isSome else if e.op=3\/e.op=24 then (j6 env (zW e.name 0)).isSome else true
def kI (env:List Signal)(e:Ex):Bool:=(pre e).all (askV env)
noncomputable def Kk (env:List Signal)(e:Ex):Int:=if ze e≠0 then 1 else if kI env e=true then 0 else 7
noncomputable def yp (env:List Signal)(e:Ex):Int:=if ze e=0/\kI env e=true then wP env e else 0
def yw (e:Ex):Prop:=∀ x∈pre e,qo x=0
theorem yw.self {e:Ex}(h:yw e):qo e=0:=h e (by rw[jo];simp)
theorem yw.arg {e a:Ex}(h:yw e)(ha:a∈e.args):yw a:=fun x hx=>h x (by rw[jo];exact qq3 _ (QJ.2 ⟨a,ha,hx⟩))
theorem ZN {e:Ex}(h:ze e=0):yw e:=by
 unfold ze at h;split at h
 . cases h
 . exact zy.1 h
theorem jd {e:Ex}(h:qo e=0):1<=e.op/\e.op<=25/\(e.op=1->0<=e.n/\e.n<=65535)/\(e.op≠1->e.n=0)/\qi e=true/\(e.op=2->yM e.name=true)/\(e.op=3\/e.op=24->zQ e.name=true)/\(¬ (e.op=2\/e.op=3\/e.op=24)->e.name=[]):=by
 unfold qo at h;split at h
 . cases h
 rename_i h1;split at h
 . cases h
 rename_i h2;split at h
 . cases h
 rename_i h3;split at h
 . cases h
 rename_i h4;refine⟨by omega,by omega,fun h=>?_,fun h=>?_,?_,fun h=>?_,fun h=>?_,fun h=>?_⟩
 . apply Classical.byContradiction;intro hn;exact h2 (.inl ⟨h,by omega⟩)
 . apply Classical.byContradiction;intro hn;exact h2 (.inr ⟨h,hn⟩)
 . cases ho:qi e with
   | true=>rfl
   | false=>exact absurd (.inr ho) h3
 . cases ho:yM e.name with
   | true=>rfl
   | false=>exact absurd (.inl ⟨h,ho⟩) h4
 . cases ho:zQ e.name with
   | true=>rfl
   | false=>exact absurd (.inr ⟨h,ho⟩) h4
 . apply Classical.byContradiction;intro hn;exact h3 (.inl ⟨h,hn⟩)
theorem wn {e:Ex}(h:qi e=true)(h23:e.op≠23):(e.args.length:Int)=zo e.op:=by
 unfold qi at h;rw[if_neg h23]at h;simpa using h
theorem Yg {e:Ex}(h:qi e=true)(h23:e.op=23):e.args.length % 2=1/\3<=e.args.length/\e.args.length<=33:=by
 unfold qi at h;rw[if_pos h23]at h;simpa using h
theorem Jv (a:Nat):∀ i,yY a i<=i
 | 0=>qpI _
 | i+1=>by
  have:=Jv a i;simp only[yY];split<;>omega
theorem YH {env:List Signal}{name:Str}{v:Int}(h:j6 env name=some v):0<=v/\v<=65535:=by
 unfold j6 at h;obtain⟨s,_,rfl⟩:=qpE.1 h;exact qD _
theorem Zp {o:Option Int}(h:∀ v,o=some v->0<=v/\v<=65535):0<=o.getD 0/\o.getD 0<=65535:=by
 cases o with
 | none=>simp
 | some v=>exact h v rfl
theorem qiH (env:List Signal)(a:Str)(i:Int):0<=atV env a i/\atV env a i<=65535:=by
 unfold atV;split
 . exact Zp fun v h=>YH h
 . omega
theorem qeJ (env:List Signal)(a:Str):∀ i,0<=qmc env a i/\qmc env a i<=65535
 | 0=>by simp[qmc]
 | i+1=>qD _
theorem qgh (op a:Int):0<=unW op a/\unW op a<=65535:=by
 unfold unW;split
 . exact Y0 _
 split
 . have:=qD a;omega
 split
 . exact qD _
 . have:=Jv (qJ a).toNat 16;omega
theorem V8 {a:Int}(n:Nat)(h0:0<=a)(h1:a<=65535):0<=a / 2 ^ n/\a / 2 ^ n<=65535:=by
 have hp:(0:Int)<2 ^ n:=qsW (by omega);refine⟨Int.ediv_nonneg h0 (by omega),?_⟩;have:=Int.ediv_le_self (2 ^ n) h0;omega
def InW (n:Int):Prop:=0<=n/\n<=65535
theorem InW.ite {c:Prop}[Decidable c]{a b:Int}(ha:InW a)(hb:InW b):InW (if c then a else b):=by
 split
 . exact ha
 . exact hb
theorem qfD (op:Int){a b:Int}(ha0:0<=a)(ha1:a<=65535)(hb0:0<=b)(hb1:b<=65535):0<=yz op a b/\yz op a b<=65535:=by
 obtain⟨x,rfl⟩:=qp7 ha0;obtain⟨y,rfl⟩:=qp7 hb0;have hx:x<2 ^ 16:=by omega
 have hy:y<2 ^ 16:=by omega
 have o1:=Nat.and_lt_two_pow (n:=16) x hy;have o2:=Nat.or_lt_two_pow (n:=16) hx hy;have o3:=Nat.xor_lt_two_pow (n:=16) hx hy;show InW (yz op x y);unfold yz;simp only[qqi]
 repeat' apply InW.ite
 all_goals first | exact qD _ | exact Y0 _ | exact V8 _ (qD _).1 (qD _).2 | (unfold InW;omega)
theorem qeD (env:List Signal):∀ e,yw e->0<=wP env e/\wP env e<=65535:=by
 refine Ex.ind fun e ih hn=>?_
 have hm:∀ x∈e.args.map (wP env),0<=x/\x<=65535:=by
  intro x hx;obtain⟨a,ha,rfl⟩:=qp1.1 hx;exact ih a ha (hn.arg ha)
 have hg:∀ i,0<=(e.args.map (wP env)).getD i 0/\(e.args.map (wP env)).getD i 0<=65535:=by
  intro i;rw[qpM];exact Zp fun v h=>hm v (qpz h)
 obtain⟨h1,h2,h3,_⟩:=jd hn.self;rw[wU];unfold WO;split
 . rename_i h;exact h3 h
 split
 . exact Zp fun v h=>YH h
 split
 . exact qiH _ _ _
 split
 . exact qeJ _ _ _
 unfold opW;split
 . split
   . exact hg 1
   . exact hg 2
 split
 . exact Y0 _
 split
 . omega
 . exact qgh _ _
 . rename_i a b r hl;rw[hl]at hm;exact qfD _ (hm a (by simp)).1 (hm a (by simp)).2 (hm b (by simp)).1 (hm b (by simp)).2
def ky (l:List Var)(a:List Int):List Signal:=if a.length=l.length then (l.zip a).map fun q=>⟨q.1.name,q.2⟩ else []
def zM (q:Var×Int):Bool:=decide (0<=q.2)&&decide (q.2<2 ^ q.1.width.toNat)&&(!decide (q.1.mode=0)||decide (q.2=q.1.value))
def qC (l:List Var)(a:List Int):Bool:=decide (a.length=l.length)&&(l.zip a).all zM
noncomputable def jA (p:Problem)(a:List Int)(e:Ex):Bool :=
 decide (qk p=0)&&qC p.vars a&&decide (Kk (ky p.vars a) e=0)&&!decide (yp (ky p.vars a) e=0)
theorem JQ {p:Problem}(h:qk p=0):∀ v∈p.vars,jt v=0:=by
 unfold qk at h;split at h
 . rename_i hn;exact absurd h hn
 rename_i hv;have hv:zV p.vars=0:=qqI.1 hv;unfold zV at hv;split at hv
 . cases hv
 split at hv
 . rename_i hn;exact absurd hv hn
 rename_i hz;exact zy.1 (qqI.1 hz)
section
theorem qaq (f:Nat->Bool):zf f 16<65536:=yP f 16
theorem KU (f:Nat->Bool):∀ k,k<=16->yY (zf f 16) k=WI f k
 | 0,_=>rfl
 | k+1,h=>by
  simp only[yY,WI,KU f k (by omega),qP,b2n];have:decide (k<16)=true:=by simp;omega
  rw[this,qqx];cases f k<;>rfl
theorem wV (f:Nat->Bool):Q6 f 16 = !decide ((zf f 16:Int)=0):=by
 rw[Q5];simp
theorem qg4 (t:Bool):(zf (fun k=>decide (k=0)&&t) 16:Int)=b2i t:=by
 rw[Wv t 15];cases t<;>rfl
section
variable {x y z:Nat->Bool}
theorem w_add:(zf (fun k=>(x k ^^ y k) ^^ VC x y false k) 16:Int)=qJ (zf x 16+zf y 16):=by
 rw[kc];unfold qJ b2n;simp
theorem w_sub:(zf (fun k=>(x k ^^ !y k) ^^ VC x (fun k=>!y k) true k) 16:Int)=qJ (zf x 16-zf y 16):=by
 rw[kc,Ww];have:=qaq x;have:=qaq y;unfold qJ b2n;simp;omega
theorem w_inv:(zf (fun k=>!x k) 16:Int)=65535-qJ (zf x 16):=by
 rw[Ww];have:=qaq x;unfold qJ;omega
theorem w_mul:((zf x 16*zf y 16 % 2 ^ 16:Nat):Int)=qJ (zf x 16*zf y 16):=by unfold qJ;simp
theorem w_shl (n:Nat):((zf x 16*2 ^ n % 2 ^ 16:Nat):Int)=qJ (zf x 16*2 ^ n):=by unfold qJ;simp
theorem w_shr (n:Nat):((zf x 16 / 2 ^ n:Nat):Int)=qJ (zf x 16) / 2 ^ n:=by
 have:=qaq x;have e:qJ (zf x 16)=zf x 16:=Jp (by omega) (by omega);rw[e];simp
end
def qn (d:List Nd)(b:Nat->Bool)(w:List Nat)(k:Nat):Bool:=evD d b (w.getD k 0)
def zP (d:List Nd)(b:Nat->Bool)(w:List Nat):Int:=(zf (qn d b w) 16:Nat)
def qS (d:List Nd)(w:List Nat):Prop:=w.length=16/\∀ i∈w,i<d.length
theorem qS.at {d:List Nd}{w:List Nat}(h:qS d w){k:Nat}(hk:k<16):w.getD k 0<d.length:=by
 have hl:k<w.length:=by rw[h.1];exact hk
 rw[qpM,qpA hl];exact h.2 _ (qrI hl)
theorem qS.grown {d d':List Nd}{w:List Nat}(h:qS d w)(hg:qT d d'):qS d' w:=⟨h.1,fun i hi=>qpN (h.2 i hi) hg.len⟩
theorem zC {d d':List Nd}(hd:DagOk d)(hg:qT d d'){w:List Nat}(h:qS d w)(b:Nat->Bool){k:Nat}(hk:k<16):qn d' b w k=qn d b w k:=hg.ev hd b (h.at hk)
theorem qe0 {d d':List Nd}(hd:DagOk d)(hg:qT d d'){w:List Nat}(h:qS d w)(b:Nat->Bool):zP d' b w=zP d b w:=by
 unfold zP;rw[zg fun k hk=>zC hd hg h b hk]
theorem qeZ (d:List Nd)(b:Nat->Bool)(w:List Nat):0<=zP d b w/\zP d b w<=65535:=by
 unfold zP;have:=qaq (qn d b w);omega
end
def jm (v:Var):Nat:=2 ^ v.width.toNat
def qQ:List Var->List Int->List Int×Bool
 | v::vs,x::xs=>
  if (qQ vs xs).2=false then (x::(qQ vs xs).1,false)
  else if v.mode=0 then (x::(qQ vs xs).1,true)
  else if x+1<(jm v:Nat) then ((x+1)::(qQ vs xs).1,false)
  else (0::(qQ vs xs).1,true)
 | _,_=>([],true)
def zH (vs:List Var):List Int:=vs.map fun v=>if v.mode=0 then v.value else 0
def yg:List Var->List (List Int)
 | []=>[[]]
 | v::vs=>if v.mode=0 then (yg vs).map (v.value::·) else (List.range (jm v)).flatMap fun n:Nat=>(yg vs).map ((n:Int)::·)
def QR:List Var->List Int->List (List Int)
 | v::vs,x::xs=>if v.mode=0 then (QR vs xs).map (x::·) else (QR vs xs).map (x::·)++(List.range' (x.toNat+1) (jm v-1-x.toNat)).flatMap fun n:Nat=>(yg vs).map ((n:Int)::·)
 | _,_=>[[]]
theorem Y2 {v:Var}{vs:List Var}(h:v.mode=0):yg (v::vs)=(yg vs).map (v.value::·):=by rw[yg,if_pos h]
theorem Y3 {v:Var}{vs:List Var}(h:¬ v.mode=0):yg (v::vs)=(List.range (jm v)).flatMap fun n:Nat=>(yg vs).map ((n:Int)::·):=by rw[yg,if_neg h]
theorem Jx {v:Var}{vs:List Var}{x:Int}{xs:List Int}(h:v.mode=0):QR (v::vs) (x::xs)=(QR vs xs).map (x::·):=by rw[QR,if_pos h]
theorem vE {v:Var}{vs:List Var}{x:Int}{xs:List Int}(h:¬ v.mode=0):QR (v::vs) (x::xs)=(QR vs xs).map (x::·)++(List.range' (x.toNat+1) (jm v-1-x.toNat)).flatMap fun n:Nat=>(yg vs).map ((n:Int)::·):=by rw[QR,if_neg h]
def okA:List Var->List Int->Prop
 | [],[]=>True
 | v::vs,x::xs=>(if v.mode=0 then x=v.value else 0<=x/\x<(jm v:Nat))/\okA vs xs
 | _,_=>False
theorem JX (v:Var):0<jm v:=qrS _
theorem okA.len:∀ {vs:List Var} {a:List Int},okA vs a->a.length=vs.length
 | [],[],_=>rfl
 | _::vs,_::xs,h=>by simp[okA.len h.2]
 | [],_::_,h=>h.elim
 | _::_,[],h=>h.elim
theorem Yi:∀ (vs:List Var),okA vs (zH vs)
 | []=>trivial
 | v::vs=>by
  have:=JX v;show okA (v::vs) ((if v.mode=0 then v.value else 0)::zH vs);refine⟨?_,Yi vs⟩;by_cases h:v.mode=0
  . rw[if_pos h,if_pos h]
  . rw[if_neg h,if_neg h];omega
theorem WL:∀ {vs:List Var} {a:List Int},okA vs a->okA vs (qQ vs a).1
 | [],[],_=>trivial
 | v::vs,x::xs,h=>by
  have h1:=WL h.2;have h2:=h.1;have:=JX v;unfold qQ;split
  . exact⟨h2,h1⟩
  . split
    . exact⟨h2,h1⟩
    . rename_i hm;rw[if_neg hm]at h2;split
      . refine⟨?_,h1⟩;rw[if_neg hm];omega
      . refine⟨?_,h1⟩;rw[if_neg hm];omega
 | [],_::_,h=>h.elim
 | _::_,[],h=>h.elim
theorem V5:∀ {vs:List Var} {a:List Int},okA vs a->(qQ vs a).2=true->(qQ vs a).1=zH vs
 | [],[],_,_=>rfl
 | v::vs,x::xs,h,ho=>by
  have h2:=h.1;unfold qQ at ho ⊢;by_cases h1:(qQ vs xs).2=false
  . rw[if_pos h1]at ho;cases ho
  . have h1':(qQ vs xs).2=true:=(by simpa using h1);have ih:=V5 h.2 h1';rw[if_neg h1]at ho ⊢;show _=(if v.mode=0 then v.value else 0)::zH vs;by_cases hm:v.mode=0
    . rw[if_pos hm]at h2 ⊢;rw[if_pos hm,ih,h2]
    . rw[if_neg hm]at ho ⊢;rw[if_neg hm];by_cases hx:x+1<(jm v:Nat)
      . rw[if_pos hx]at ho;cases ho
      . rw[if_neg hx,ih]
 | [],_::_,h,_=>h.elim
 | _::_,[],h,_=>h.elim
theorem qeT {n:Nat}(h:0<n):List.range n=0::List.range' 1 (n-1):=by
 cases n with
 | zero=>omega
 | succ n=>rw[qrr,qry];simp
theorem kN:∀ (vs:List Var),QR vs (zH vs)=yg vs
 | []=>rfl
 | v::vs=>by
  show QR (v::vs) ((if v.mode=0 then v.value else 0)::zH vs)=_;by_cases h:v.mode=0
  . rw[if_pos h,Jx h,Y2 h,kN vs]
  . rw[if_neg h,vE h,Y3 h,kN vs,qeT (JX v),qpY];rfl
theorem YA:∀ {vs:List Var} {a:List Int},okA vs a->QR vs a=a::if (qQ vs a).2=true then [] else QR vs (qQ vs a).1
 | [],[],_=>rfl
 | v::vs,x::xs,h=>by
  have ih:=YA h.2;have h2:=h.1;by_cases h1:(qQ vs xs).2=false
  . have e:qQ (v::vs) (x::xs)=(x::(qQ vs xs).1,false):=(by rw[qQ,if_pos h1]);rw[h1,if_neg (by simp)]at ih;rw[e,if_neg (by simp)];by_cases hm:v.mode=0
    . rw[Jx hm,Jx hm,ih];rfl
    . rw[vE hm,vE hm,ih];rfl
  . have h1':(qQ vs xs).2=true:=(by simpa using h1);rw[h1',if_pos rfl]at ih;by_cases hm:v.mode=0
    . have e:qQ (v::vs) (x::xs)=(x::(qQ vs xs).1,true):=(by rw[qQ,if_neg h1,if_pos hm]);rw[e,if_pos rfl,Jx hm,ih];rfl
    . rw[if_neg hm]at h2;by_cases hx:x+1<(jm v:Nat)
      . have e:qQ (v::vs) (x::xs)=((x+1)::(qQ vs xs).1,false):=(by rw[qQ,if_neg h1,if_neg hm,if_pos hx]);have e1:(x+1).toNat=x.toNat+1:=(by omega);have e2:jm v-1-x.toNat=(jm v-1-(x.toNat+1))+1:=(by omega);have e3:((x.toNat+1:Nat):Int)=x+1:=(by omega);rw[e,if_neg (by simp),vE hm,ih,vE hm,V5 h.2 h1',kN,e1,e2,qry,qpY,e3];rfl
      . have e:qQ (v::vs) (x::xs)=(0::(qQ vs xs).1,true):=(by rw[qQ,if_neg h1,if_neg hm,if_neg hx]);have e2:jm v-1-x.toNat=0:=(by omega);rw[e,if_pos rfl,vE hm,ih,e2];rfl
 | [],_::_,h=>h.elim
 | _::_,[],h=>h.elim
theorem Qp:∀ (vs:List Var),(yg vs).length=2 ^ ((vs.map fun v=>if v.mode=0 then 0 else v.width.toNat).sum)
 | []=>rfl
 | v::vs=>by
  by_cases h:v.mode=0
  . rw[Y2 h,qqd,Qp vs];simp[h]
  . rw[Y3 h];have:∀ (l:List Nat),(l.flatMap fun n:Nat=>(yg vs).map ((n:Int)::·)).length=l.length*(yg vs).length:=by
     intro l
     induction l with
     | nil=>simp
     | cons a r ih=>rw[qpY,qpD,ih,qqd,qpQ,qrH,qrg]
    rw[this,qsF,Qp vs];simp only[qpK,if_neg h,qrD,Nat.pow_add,jm]
theorem k0:∀ {vs:List Var} {a:List Int},a∈yg vs↔okA vs a
 | [],a=>by
  cases a with
  | nil=>simp[yg,okA]
  | cons x xs=>simp[yg,okA]
 | v::vs,a=>by
  by_cases h:v.mode=0
  . rw[Y2 h,qp1];constructor
    . rintro⟨b,hb,rfl⟩;exact⟨by rw[if_pos h],k0.1 hb⟩
    . intro hk
      cases a with
      | nil=>exact hk.elim
      | cons x xs=>
       have h1:=hk.1;rw[if_pos h]at h1;exact⟨xs,k0.2 hk.2,by rw[h1]⟩
  . rw[Y3 h,List.mem_flatMap];constructor
    . rintro⟨n,hn,hb'⟩;obtain⟨b,hb,rfl⟩:=qp1.1 hb';have:=qqF.1 hn;exact⟨by rw[if_neg h];omega,k0.1 hb⟩
    . intro hk
      cases a with
      | nil=>exact hk.elim
      | cons x xs=>
       have h1:=hk.1;rw[if_neg h]at h1;refine⟨x.toNat,qqF.2 (by omega),qp1.2 ⟨xs,k0.2 hk.2,?_⟩⟩;rw[Int.toNat_of_nonneg h1.1]
noncomputable def vV (vs:List Var)(l:List Ex)(a:List Int):Bool:=l.all fun e=>decide (yp (ky vs a) e≠0)
noncomputable def qbz (vs:List Var)(l:List Ex):Nat->List Int->Option (List Int)×Bool
 | 0,_=>(none,false)
 | k+1,a=>if vV vs l a then (some a,(qQ vs a).2) else if (qQ vs a).2 then (none,true) else qbz vs l k (qQ vs a).1
theorem qdU {vs:List Var}{l:List Ex}:∀ (k:Nat) {a:List Int},okA vs a->(QR vs a).length<=k->(qbz vs l k a).1=(QR vs a).find? (vV vs l)/\((qbz vs l k a).1=none->(qbz vs l k a).2=true)
 | 0,a,h,hk=>by rw[YA h]at hk;simp at hk
 | k+1,a,h,hk=>by
  rw[YA h]at hk ⊢;unfold qbz;rw[qr8];by_cases hs:vV vs l a=true
  . rw[if_pos hs,hs];exact⟨rfl,fun e=>by cases e⟩
  . rw[if_neg hs];have hs':vV vs l a=false:=(by simpa using hs);rw[hs'];by_cases ho:(qQ vs a).2=true
    . rw[if_pos ho,if_pos ho];exact⟨rfl,fun _=>rfl⟩
    . rw[if_neg ho,if_neg ho];rw[if_neg ho]at hk;exact qdU k (WL h) (by simp at hk;omega)
noncomputable def yB (vs:List Var)(l:List Ex):Bool:=(yg vs).any (vV vs l)
theorem qkZ {vs:List Var}{l:List Ex}{k:Nat}(hk:(yg vs).length<=k):((qbz vs l k (zH vs)).1.isSome=yB vs l)/\((qbz vs l k (zH vs)).1=none->(qbz vs l k (zH vs)).2=true):=by
 have:=qdU (l:=l) k (Yi vs) (by rw[kN];exact hk);rw[kN]at this;refine⟨?_,this.2⟩;rw[this.1,yB];generalize yg vs=L
 induction L with
 | nil=>rfl
 | cons a r ih=>rw[qr8,qrC];cases vV vs l a<;>simp[ih]
def wH (l:List Var)(a:List Int):List Signal:=(l.zip a).map fun q=>⟨q.1.name,q.2⟩
theorem Zv (l:List Var)(a:List Int):ky l a=if a.length=l.length then wH l a else []:=rfl
theorem vJ {l:List Var}{a:List Int}{i:Nat}{v:Var}{x:Int}(h:l[i]?=some v)(h':a[i]?=some x):(wH l a)[i]?=some ⟨v.name,x⟩:=by
 unfold wH;rw[qpX,(qqW (z:=(v,x))).2 ⟨h,h'⟩];rfl
theorem yj {l:List Var}{a:List Int}(h:a.length=l.length):(wH l a).length=l.length:=by simp[wH,h]
theorem qlh {l:List Var}{a:List Int}:(ky l a).length<=l.length:=by
 rw[Zv];split
 . rename_i h;rw[yj h];exact qpI _
 . simp
end Go.Proofs.YtkpkjbchlabaaaaGreatDoor
end
