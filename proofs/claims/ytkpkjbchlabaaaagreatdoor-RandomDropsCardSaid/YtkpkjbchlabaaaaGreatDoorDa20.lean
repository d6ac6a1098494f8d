/- A part of the proof. -/
import Derived.Test.YtkpkjbchlabaaaaGreatDoorDa07
set_option linter.unusedVariables false
set_option linter.unusedSimpArgs false
set_option linter.defProp false
section
namespace Go.Proofs.YtkpkjbchlabaaaaGreatDoor
open Go Go.Abs
def qI (n:Int):Int:=n % 65536
theorem qB (n:Int):0<=qI n/\qI n<=65535:=by unfold qI;omega
theorem Jg {n:Int}(h0:0<=n)(h1:n<=65535):qI n=n:=by unfold qI;omega
def b2i (b:Bool):Int:=if b=true then 1 else 0
theorem YN (b:Bool):0<=b2i b/\b2i b<=65535:=by cases b<;>simp[b2i]
def j6 (env:List Signal)(name:Str):Option Int:=(env.find? fun s=>s.name==name).map fun s=>qI s.value
def atV (env:List Signal)(a:Str)(i:Int):Int:=if 0<=i/\i<8 then (j6 env (zX a i.toNat)).getD 0 else 0
def qlu (env:List Signal)(a:Str):Nat->Int
 | 0=>0
 | i+1=>qI (qlu env a i+atV env a i)
def yY (a:Nat):Nat->Nat
 | 0=>0
 | i+1=>yY a i+(if a.testBit i=true then 1 else 0)
def unW (op a:Int):Int :=
 if op=4 then b2i (decide (a=0)) else if op=5 then 65535-qI a else if op=6 then qI (0-a) else (yY (qI a).toNat 16:Int)
def yx (op a b:Int):Int :=
 if op=7 then qI (a+b) else if op=8 then qI (a-b) else if op=9 then qI (a*b)
 else if op=10 then ((a.toNat &&& b.toNat:Nat):Int) else if op=11 then ((a.toNat ||| b.toNat:Nat):Int) else if op=12 then ((a.toNat ^^^ b.toNat:Nat):Int)
 else if op=13 then (if 0<=b/\b<16 then qI (a*2 ^ b.toNat) else 0)
 else if op=14 then (if 0<=b/\b<16 then qI a / 2 ^ b.toNat else 0)
 else if op=15 then b2i (decide (a=b)) else if op=16 then b2i (!decide (a=b)) else if op=17 then b2i (decide (a<b)) else if op=18 then b2i (decide (a<=b))
 else if op=19 then b2i (!decide (a=0)&&!decide (b=0)) else if op=20 then b2i (!decide (a=0)||!decide (b=0))
 else b2i (decide (a=0)||!decide (b=0))
def jQ (a:Int):List Int->Bool
 | x::y::r=>(decide (x<=a)&&decide (a<=y))||jQ a r
 | _=>false
def opW (op:Int)(l:List Int):Int :=
 if op=22 then (if l.getD 0 0≠0 then l.getD 1 0 else l.getD 2 0)
 else if op=23 then b2i (jQ (l.getD 0 0) l.tail)
 else match l with
  | []=>0
  | [a]=>unW op a
  | a::b::_=>yx op a b
def Wx (env:List Signal)(op n:Int)(name:Str)(l:List Int):Int :=
 if op=1 then n else if op=2 then (j6 env name).getD 0 else if op=3 then atV env name (l.getD 0 0) else if op=24 then qlu env name 8 else opW op l
mutual
def wM (env:List Signal):Ex->Int
 | .mk op n name args=>Wx env op n name (qfJ env args)
def qfJ (env:List Signal):List Ex->List Int
 | []=>[]
 | e::r=>wM env e::qfJ env r
end
@[simp]theorem qiP (env:List Signal):∀ l,qfJ env l=l.map (wM env)
 | []=>by simp[qfJ]
 | e::r=>by simp[qfJ,qiP env r]
theorem wR (env:List Signal)(e:Ex):wM env e=Wx env e.op e.n e.name (e.args.map (wM env)):=by cases e;simp[wM]
def askV (env:List Signal)(e:Ex):Bool :=
 if e.op=2 then (j6 env e.name).isSome else if e.op=3\/e.op=24 then (j6 env (zX e.name 0)).isSome else true
def kH (env:List Signal)(e:Ex):Bool:=(pre e).all (askV env)
noncomputable def Y6 (env:List Signal)(e:Ex):Int:=if zf e≠0 then 1 else if kH env e=true then 0 else 7
noncomputable def yn (env:List Signal)(e:Ex):Int:=if zf e=0/\kH env e=true then wM env e else 0
def yv (e:Ex):Prop:=∀ x∈pre e,qo x=0
theorem yv.self {e:Ex}(h:yv e):qo e=0:=h e (by rw[jn];simp)
theorem yv.arg {e a:Ex}(h:yv e)(ha:a∈e.args):yv a:=fun x hx=>h x (by rw[jn];exact qqh _ (QE.2 ⟨a,ha,hx⟩))
theorem ZE {e:Ex}(h:zf e=0):yv e:=by
 unfold zf at h;split at h
 . cases h
 . exact zj.1 h
theorem je {e:Ex}(h:qo e=0):1<=e.op/\e.op<=25/\(e.op=1->0<=e.n/\e.n<=65535)/\(e.op≠1->e.n=0)/\qi e=true/\(e.op=2->yL e.name=true)/\(e.op=3\/e.op=24->zS e.name=true)/\(¬ (e.op=2\/e.op=3\/e.op=24)->e.name=[]):=by
 unfold qo at h;split at h
 . cases h
 rename_i h1;split at h
 . cases h
 rename_i h2;split at h
 . cases h
 rename_i h3;split at h
 . cases h
 rename_i h4;refine⟨by omega,by omega,fun h=>?_,fun h=>?_,?_,fun h=>?_,fun h=>?_,fun h=>?_⟩
 . apply Classical.byContradiction;intro hn;exact h2 (.inl ⟨h,by omega⟩)
 . apply Classical.byContradiction;intro hn;exact h2 (.inr ⟨h,hn⟩)
 . cases ho:qi e with
   | true=>rfl
   | false=>exact absurd (.inr ho) h3
 . cases ho:yL e.name with
   | true=>rfl
   | false=>exact absurd (.inl ⟨h,ho⟩) h4
 . cases ho:zS e.name with
   | true=>rfl
   | false=>exact absurd (.inr ⟨h,ho⟩) h4
 . apply Classical.byContradiction;intro hn;exact h3 (.inl ⟨h,hn⟩)
theorem wk {e:Ex}(h:qi e=true)(h23:e.op≠23):(e.args.length:Int)=zo e.op:=by
 unfold qi at h;rw[if_neg h23]at h;simpa using h
theorem J5 {e:Ex}(h:qi e=true)(h23:e.op=23):e.args.length % 2=1/\3<=e.args.length/\e.args.length<=33:=by
 unfold qi at h;rw[if_pos h23]at h;simpa using h
theorem Jm (a:Nat):∀ i,yY a i<=i
 | 0=>qo0 _
 | i+1=>by
  have:=Jm a i;simp only[yY];split<;>omega
theorem Yu {env:List Signal}{name:Str}{v:Int}(h:j6 env name=some v):0<=v/\v<=65535:=by
 unfold j6 at h;obtain⟨s,_,rfl⟩:=qoU.1 h;exact qB _
theorem Zg {o:Option Int}(h:∀ v,o=some v->0<=v/\v<=65535):0<=o.getD 0/\o.getD 0<=65535:=by
 cases o with
 | none=>simp
 | some v=>exact h v rfl
theorem qh5 (env:List Signal)(a:Str)(i:Int):0<=atV env a i/\atV env a i<=65535:=by
 unfold atV;split
 . exact Zg fun v h=>Yu h
 . omega
theorem qek (env:List Signal)(a:Str):∀ i,0<=qlu env a i/\qlu env a i<=65535
 | 0=>by simp[qlu]
 | i+1=>qB _
theorem qfP (op a:Int):0<=unW op a/\unW op a<=65535:=by
 unfold unW;split
 . exact YN _
 split
 . have:=qB a;omega
 split
 . exact qB _
 . have:=Jm (qI a).toNat 16;omega
theorem VG {a:Int}(n:Nat)(h0:0<=a)(h1:a<=65535):0<=a / 2 ^ n/\a / 2 ^ n<=65535:=by
 have hp:(0:Int)<2 ^ n:=qsc (by omega);refine⟨Int.ediv_nonneg h0 (by omega),?_⟩;have:=Int.ediv_le_self (2 ^ n) h0;omega
def InW (n:Int):Prop:=0<=n/\n<=65535
theorem InW.ite {c:Prop}[Decidable c]{a b:Int}(ha:InW a)(hb:InW b):InW (if c then a else b):=by
 split
 . exact ha
 . exact hb
theorem qff (op:Int){a b:Int}(ha0:0<=a)(ha1:a<=65535)(hb0:0<=b)(hb1:b<=65535):0<=yx op a b/\yx op a b<=65535:=by
 obtain⟨x,rfl⟩:=qpq ha0;obtain⟨y,rfl⟩:=qpq hb0;have hx:x<2 ^ 16:=by omega
 have hy:y<2 ^ 16:=by omega
 have o1:=Nat.and_lt_two_pow (n:=16) x hy;have o2:=Nat.or_lt_two_pow (n:=16) hx hy;have o3:=Nat.xor_lt_two_pow (n:=16) hx hy;show InW (yx op x y);unfold yx;simp only[qpC]
 repeat' apply InW.ite
 all_goals first | exact qB _ | exact YN _ | exact VG _ (qB _).1 (qB _).2 | (unfold InW;omega)
theorem qed (env:List Signal):∀ e,yv e->0<=wM env e/\wM env e<=65535:=by
 refine Ex.ind fun e ih hn=>?_
 have hm:∀ x∈e.args.map (wM env),0<=x/\x<=65535:=by
  intro x hx;obtain⟨a,ha,rfl⟩:=qpi.1 hx;exact ih a ha (hn.arg ha)
 have hg:∀ i,0<=(e.args.map (wM env)).getD i 0/\(e.args.map (wM env)).getD i 0<=65535:=by
  intro i;rw[qo5];exact Zg fun v h=>hm v (qoR h)
 obtain⟨h1,h2,h3,_⟩:=je hn.self;rw[wR];unfold Wx;split
 . rename_i h;exact h3 h
 split
 . exact Zg fun v h=>Yu h
 split
 . exact qh5 _ _ _
 split
 . exact qek _ _ _
 unfold opW;split
 . split
   . exact hg 1
   . exact hg 2
 split
 . exact YN _
 split
 . omega
 . exact qfP _ _
 . rename_i a b r hl;rw[hl]at hm;exact qff _ (hm a (by simp)).1 (hm a (by simp)).2 (hm b (by simp)).1 (hm b (by simp)).2
def kx (l:List Var)(a:List Int):List Signal:=if a.length=l.length then (l.zip a).map fun q=>⟨q.1.name,q.2⟩ else []
def z5 (q:Var×Int):Bool:=decide (0<=q.2)&&decide (q.2<2 ^ q.1.width.toNat)&&(!decide (q.1.mode=0)||decide (q.2=q.1.value))
def qM (l:List Var)(a:List Int):Bool:=decide (a.length=l.length)&&(l.zip a).all z5
noncomputable def yl (p:Problem)(a:List Int)(e:Ex):Bool :=
 decide (qk p=0)&&qM p.vars a&&decide (Y6 (kx p.vars a) e=0)&&!decide (yn (kx p.vars a) e=0)
theorem JH {p:Problem}(h:qk p=0):∀ v∈p.vars,jF v=0:=by
 unfold qk at h;split at h
 . rename_i hn;exact absurd h hn
 rename_i hv;have hv:zQ p.vars=0:=qpW.1 hv;unfold zQ at hv;split at hv
 . cases hv
 split at hv
 . rename_i hn;exact absurd hv hn
 rename_i hz;exact zj.1 (qpW.1 hz)
section
theorem V5 (f:Nat->Bool):zg f 16<65536:=yO f 16
theorem KA (f:Nat->Bool):∀ k,k<=16->yY (zg f 16) k=Wp f k
 | 0,_=>rfl
 | k+1,h=>by
  simp only[yY,Wp,KA f k (by omega),qO,b2n];have:decide (k<16)=true:=by simp;omega
  rw[this,qpT];cases f k<;>rfl
theorem wS (f:Nat->Bool):QZ f 16 = !decide ((zg f 16:Int)=0):=by
 rw[QY];simp
theorem qgw (t:Bool):(zg (fun k=>decide (k=0)&&t) 16:Int)=b2i t:=by
 rw[Wc t 15];cases t<;>rfl
section
variable {x y z:Nat->Bool}
theorem w_add:(zg (fun k=>(x k ^^ y k) ^^ Vj x y false k) 16:Int)=qI (zg x 16+zg y 16):=by
 rw[kc];unfold qI b2n;simp
theorem w_sub:(zg (fun k=>(x k ^^ !y k) ^^ Vj x (fun k=>!y k) true k) 16:Int)=qI (zg x 16-zg y 16):=by
 rw[kc,Wd];have:=V5 x;have:=V5 y;unfold qI b2n;simp;omega
theorem w_inv:(zg (fun k=>!x k) 16:Int)=65535-qI (zg x 16):=by
 rw[Wd];have:=V5 x;unfold qI;omega
theorem w_mul:((zg x 16*zg y 16 % 2 ^ 16:Nat):Int)=qI (zg x 16*zg y 16):=by unfold qI;simp
theorem w_shl (n:Nat):((zg x 16*2 ^ n % 2 ^ 16:Nat):Int)=qI (zg x 16*2 ^ n):=by unfold qI;simp
theorem w_shr (n:Nat):((zg x 16 / 2 ^ n:Nat):Int)=qI (zg x 16) / 2 ^ n:=by
 have:=V5 x;have e:qI (zg x 16)=zg x 16:=Jg (by omega) (by omega);rw[e];simp
end
def qn (d:List Nd)(b:Nat->Bool)(w:List Nat)(k:Nat):Bool:=evD d b (w.getD k 0)
def zR (d:List Nd)(b:Nat->Bool)(w:List Nat):Int:=(zg (qn d b w) 16:Nat)
def qR (d:List Nd)(w:List Nat):Prop:=w.length=16/\∀ i∈w,i<d.length
theorem qR.at {d:List Nd}{w:List Nat}(h:qR d w){k:Nat}(hk:k<16):w.getD k 0<d.length:=by
 have hl:k<w.length:=by rw[h.1];exact hk
 rw[qo5,qoS hl];exact h.2 _ (qqX hl)
theorem qR.grown {d d':List Nd}{w:List Nat}(h:qR d w)(hg:qS d d'):qR d' w:=⟨h.1,fun i hi=>qo4 (h.2 i hi) hg.len⟩
theorem zB {d d':List Nd}(hd:DagOk d)(hg:qS d d'){w:List Nat}(h:qR d w)(b:Nat->Bool){k:Nat}(hk:k<16):qn d' b w k=qn d b w k:=hg.ev hd b (h.at hk)
theorem qeB {d d':List Nd}(hd:DagOk d)(hg:qS d d'){w:List Nat}(h:qR d w)(b:Nat->Bool):zR d' b w=zR d b w:=by
 unfold zR;rw[zh fun k hk=>zB hd hg h b hk]
theorem qeA (d:List Nd)(b:Nat->Bool)(w:List Nat):0<=zR d b w/\zR d b w<=65535:=by
 unfold zR;have:=V5 (qn d b w);omega
end
def jz (v:Var):Nat:=2 ^ v.width.toNat
def qP:List Var->List Int->List Int×Bool
 | v::vs,x::xs=>
  if (qP vs xs).2=false then (x::(qP vs xs).1,false)
  else if v.mode=0 then (x::(qP vs xs).1,true)
  else if x+1<(jz v:Nat) then ((x+1)::(qP vs xs).1,false)
  else (0::(qP vs xs).1,true)
 | _,_=>([],true)
def zJ (vs:List Var):List Int:=vs.map fun v=>if v.mode=0 then v.value else 0
def yD:List Var->List (List Int)
 | []=>[[]]
 | v::vs=>if v.mode=0 then (yD vs).map (v.value::·) else (List.range (jz v)).flatMap fun n:Nat=>(yD vs).map ((n:Int)::·)
def QN:List Var->List Int->List (List Int)
 | v::vs,x::xs=>if v.mode=0 then (QN vs xs).map (x::·) else (QN vs xs).map (x::·)++(List.range' (x.toNat+1) (jz v-1-x.toNat)).flatMap fun n:Nat=>(yD vs).map ((n:Int)::·)
 | _,_=>[[]]
theorem YO {v:Var}{vs:List Var}(h:v.mode=0):yD (v::vs)=(yD vs).map (v.value::·):=by rw[yD,if_pos h]
theorem YP {v:Var}{vs:List Var}(h:¬ v.mode=0):yD (v::vs)=(List.range (jz v)).flatMap fun n:Nat=>(yD vs).map ((n:Int)::·):=by rw[yD,if_neg h]
theorem Jo {v:Var}{vs:List Var}{x:Int}{xs:List Int}(h:v.mode=0):QN (v::vs) (x::xs)=(QN vs xs).map (x::·):=by rw[QN,if_pos h]
theorem vA {v:Var}{vs:List Var}{x:Int}{xs:List Int}(h:¬ v.mode=0):QN (v::vs) (x::xs)=(QN vs xs).map (x::·)++(List.range' (x.toNat+1) (jz v-1-x.toNat)).flatMap fun n:Nat=>(yD vs).map ((n:Int)::·):=by rw[QN,if_neg h]
def okA:List Var->List Int->Prop
 | [],[]=>True
 | v::vs,x::xs=>(if v.mode=0 then x=v.value else 0<=x/\x<(jz v:Nat))/\okA vs xs
 | _,_=>False
theorem JM (v:Var):0<jz v:=qq6 _
theorem okA.len:∀ {vs:List Var} {a:List Int},okA vs a->a.length=vs.length
 | [],[],_=>rfl
 | _::vs,_::xs,h=>by simp[okA.len h.2]
 | [],_::_,h=>h.elim
 | _::_,[],h=>h.elim
theorem J7:∀ (vs:List Var),okA vs (zJ vs)
 | []=>trivial
 | v::vs=>by
  have:=JM v;show okA (v::vs) ((if v.mode=0 then v.value else 0)::zJ vs);refine⟨?_,J7 vs⟩;by_cases h:v.mode=0
  . rw[if_pos h,if_pos h]
  . rw[if_neg h,if_neg h];omega
theorem Wu:∀ {vs:List Var} {a:List Int},okA vs a->okA vs (qP vs a).1
 | [],[],_=>trivial
 | v::vs,x::xs,h=>by
  have h1:=Wu h.2;have h2:=h.1;have:=JM v;unfold qP;split
  . exact⟨h2,h1⟩
  . split
    . exact⟨h2,h1⟩
    . rename_i hm;rw[if_neg hm]at h2;split
      . refine⟨?_,h1⟩;rw[if_neg hm];omega
      . refine⟨?_,h1⟩;rw[if_neg hm];omega
 | [],_::_,h=>h.elim
 | _::_,[],h=>h.elim
theorem VD:∀ {vs:List Var} {a:List Int},okA vs a->(qP vs a).2=true->(qP vs a).1=zJ vs
 | [],[],_,_=>rfl
 | v::vs,x::xs,h,ho=>by
  have h2:=h.1;unfold qP at ho ⊢;by_cases h1:(qP vs xs).2=false
  . rw[if_pos h1]at ho;cases ho
  . have h1':(qP vs xs).2=true:=(by simpa using h1);have ih:=VD h.2 h1';rw[if_neg h1]at ho ⊢;show _=(if v.mode=0 then v.value else 0)::zJ vs;by_cases hm:v.mode=0
    . rw[if_pos hm]at h2 ⊢;rw[if_pos hm,ih,h2]
    . rw[if_neg hm]at ho ⊢;rw[if_neg hm];by_cases hx:x+1<(jz v:Nat)
      . rw[if_pos hx]at ho;cases ho
      . rw[if_neg hx,ih]
 | [],_::_,h,_=>h.elim
 | _::_,[],h,_=>h.elim
theorem qeu {n:Nat}(h:0<n):List.range n=0::List.range' 1 (n-1):=by
 cases n with
 | zero=>omega
 | succ n=>rw[qqE,qqK];simp
theorem kK:∀ (vs:List Var),QN vs (zJ vs)=yD vs
 | []=>rfl
 | v::vs=>by
  show QN (v::vs) ((if v.mode=0 then v.value else 0)::zJ vs)=_;by_cases h:v.mode=0
  . rw[if_pos h,Jo h,YO h,kK vs]
  . rw[if_neg h,vA h,YP h,kK vs,qeu (JM v),qpf];rfl
theorem Yn:∀ {vs:List Var} {a:List Int},okA vs a->QN vs a=a::if (qP vs a).2=true then [] else QN vs (qP vs a).1
 | [],[],_=>rfl
 | v::vs,x::xs,h=>by
  have ih:=Yn h.2;have h2:=h.1;by_cases h1:(qP vs xs).2=false
  . have e:qP (v::vs) (x::xs)=(x::(qP vs xs).1,false):=(by rw[qP,if_pos h1]);rw[h1,if_neg (by simp)]at ih;rw[e,if_neg (by simp)];by_cases hm:v.mode=0
    . rw[Jo hm,Jo hm,ih];rfl
    . rw[vA hm,vA hm,ih];rfl
  . have h1':(qP vs xs).2=true:=(by simpa using h1);rw[h1',if_pos rfl]at ih;by_cases hm:v.mode=0
    . have e:qP (v::vs) (x::xs)=(x::(qP vs xs).1,true):=(by rw[qP,if_neg h1,if_pos hm]);rw[e,if_pos rfl,Jo hm,ih];rfl
    . rw[if_neg hm]at h2;by_cases hx:x+1<(jz v:Nat)
      . have e:qP (v::vs) (x::xs)=((x+1)::(qP vs xs).1,false):=(by rw[qP,if_neg h1,if_neg hm,if_pos hx]);have e1:(x+1).toNat=x.toNat+1:=(by omega);have e2:jz v-1-x.toNat=(jz v-1-(x.toNat+1))+1:=(by omega);have e3:((x.toNat+1:Nat):Int)=x+1:=(by omega);rw[e,if_neg (by simp),vA hm,ih,vA hm,VD h.2 h1',kK,e1,e2,qqK,qpf,e3];rfl
      . have e:qP (v::vs) (x::xs)=(0::(qP vs xs).1,true):=(by rw[qP,if_neg h1,if_neg hm,if_neg hx]);have e2:jz v-1-x.toNat=0:=(by omega);rw[e,if_pos rfl,vA hm,ih,e2];rfl
 | [],_::_,h=>h.elim
 | _::_,[],h=>h.elim
theorem Qj:∀ (vs:List Var),(yD vs).length=2 ^ ((vs.map fun v=>if v.mode=0 then 0 else v.width.toNat).sum)
 | []=>rfl
 | v::vs=>by
  by_cases h:v.mode=0
  . rw[YO h,qpv,Qj vs];simp[h]
  . rw[YP h];have:∀ (l:List Nat),(l.flatMap fun n:Nat=>(yD vs).map ((n:Int)::·)).length=l.length*(yD vs).length:=by
     intro l
     induction l with
     | nil=>simp
     | cons a r ih=>rw[qpf,qoV,ih,qpv,qo7,qqW,qqt]
    rw[this,qrX,Qj vs];simp only[qo2,if_neg h,qqS,Nat.pow_add,jz]
theorem Q1:∀ {vs:List Var} {a:List Int},a∈yD vs↔okA vs a
 | [],a=>by
  cases a with
  | nil=>simp[yD,okA]
  | cons x xs=>simp[yD,okA]
 | v::vs,a=>by
  by_cases h:v.mode=0
  . rw[YO h,qpi];constructor
    . rintro⟨b,hb,rfl⟩;exact⟨by rw[if_pos h],Q1.1 hb⟩
    . intro hk
      cases a with
      | nil=>exact hk.elim
      | cons x xs=>
       have h1:=hk.1;rw[if_pos h]at h1;exact⟨xs,Q1.2 hk.2,by rw[h1]⟩
  . rw[YP h,List.mem_flatMap];constructor
    . rintro⟨n,hn,hb'⟩;obtain⟨b,hb,rfl⟩:=qpi.1 hb';have:=qpZ.1 hn;exact⟨by rw[if_neg h];omega,Q1.1 hb⟩
    . intro hk
      cases a with
      | nil=>exact hk.elim
      | cons x xs=>
       have h1:=hk.1;rw[if_neg h]at h1;refine⟨x.toNat,qpZ.2 (by omega),qpi.2 ⟨xs,Q1.2 hk.2,?_⟩⟩;rw[Int.toNat_of_nonneg h1.1]
noncomputable def v8 (vs:List Var)(l:List Ex)(a:List Int):Bool:=l.all fun e=>decide (yn (kx vs a) e≠0)
noncomputable def qbb (vs:List Var)(l:List Ex):Nat->List Int->Option (List Int)×Bool
 | 0,_=>(none,false)
 | k+1,a=>if v8 vs l a then (some a,(qP vs a).2) else if (qP vs a).2 then (none,true) else qbb vs l k (qP vs a).1
theorem qdv {vs:List Var}{l:List Ex}:∀ (k:Nat) {a:List Int},okA vs a->(QN vs a).length<=k->(qbb vs l k a).1=(QN vs a).find? (v8 vs l)/\((qbb vs l k a).1=none->(qbb vs l k a).2=true)
 | 0,a,h,hk=>by rw[Yn h]at hk;simp at hk
 | k+1,a,h,hk=>by
  rw[Yn h]at hk ⊢;unfold qbb;rw[qro];by_cases hs:v8 vs l a=true
  . rw[if_pos hs,hs];exact⟨rfl,fun e=>by cases e⟩
  . rw[if_neg hs];have hs':v8 vs l a=false:=(by simpa using hs);rw[hs'];by_cases ho:(qP vs a).2=true
    . rw[if_pos ho,if_pos ho];exact⟨rfl,fun _=>rfl⟩
    . rw[if_neg ho,if_neg ho];rw[if_neg ho]at hk;exact qdv k (Wu h) (by simp at hk;omega)
noncomputable def yd (vs:List Var)(l:List Ex):Bool:=(yD vs).any (v8 vs l)
theorem qkj {vs:List Var}{l:List Ex}{k:Nat}(hk:(yD vs).length<=k):((qbb vs l k (zJ vs)).1.isSome=yd vs l)/\((qbb vs l k (zJ vs)).1=none->(qbb vs l k (zJ vs)).2=true):=by
 have:=qdv (l:=l) k (J7 vs) (by rw[kK];exact hk);rw[kK]at this;refine⟨?_,this.2⟩;rw[this.1,yd];generalize yD vs=L
 induction L with
 | nil=>rfl
 | cons a r ih=>rw[qro,qq2];cases v8 vs l a<;>simp[ih]
def wG (l:List Var)(a:List Int):List Signal:=(l.zip a).map fun q=>⟨q.1.name,q.2⟩
theorem Zn (l:List Var)(a:List Int):kx l a=if a.length=l.length then wG l a else []:=rfl
theorem vG {l:List Var}{a:List Int}{i:Nat}{v:Var}{x:Int}(h:l[i]?=some v)(h':a[i]?=some x):(wG l a)[i]?=some ⟨v.name,x⟩:=by
 unfold wG;rw[qpe,(qql (z:=(v,x))).2 ⟨h,h'⟩];rfl
theorem yj {l:List Var}{a:List Int}(h:a.length=l.length):(wG l a).length=l.length:=by simp[wG,h]
theorem qkB {l:List Var}{a:List Int}:(kx l a).length<=l.length:=by
 rw[Zn];split
 . rename_i h;rw[yj h];exact qo0 _
 . simp
end Go.Proofs.YtkpkjbchlabaaaaGreatDoor
end
