import Derived.Test.YtimecmegnocamaaGreatDoorPq06
set_option linter.all false
set_option linter.defProp false
namespace Go.Abs
open Go Go.RowKit
def qlx:Op->Nat
 |.move _|.assign _|.pick ..|.nilCheck _|.binOp ..|.unOp ..|.convert ..|.fieldAddr ..|.field ..|.indexAddr ..|.index ..|.extract ..|.slice ..|.makeFunc ..|.build ..|.buildSlice .. =>0
 |.load ..|.lookup .. =>1
 |.call {callee:=.builtin b,.. }=>match b with|.len=>1|.min=>0|.max=>0|_=>2
 |.call {callee:=.value _,.. }=>1
 |_=>2
section
variable {P:Program}{G:Nat->AV}{N:Nat}{env env':Env}{U U':St}{ops:Array Oper}{o:Oper}{v:AV}
def qy4(h:qlx o.op=0)(hs:wM P G ops o env U v U'):U'=U/\∀τ,wM P G ops o env τ v τ:=by
 rcases hs with⟨h1,rfl,rfl⟩|⟨h1,h2⟩
 . exact⟨rfl,fun τ=>.inl ⟨h1,rfl,rfl⟩⟩
 rcases h2 with h2|⟨f,args,ts,g,first,cap,ho,_⟩
 . have key:U'=U/\∀τ,sem (Dof P) G env τ o.op=some (v,τ):=by
    obtain⟨dst,op,ty,pos,after,guard⟩:=o;simp only at h h2⊢;cases op<;>simp only[qlx]at h<;>try(cases h;done)
    case call c=>
     obtain⟨callee,args,ts⟩:=c
     cases callee with
     | builtin b=>
      simp only at h;split at h
      . cases h
      . simp only[sem,zL]at h2⊢;split at h2<;>first
         | (obtain⟨u,hu,he⟩:=qA2.1 h2
            simp at he;obtain⟨rfl,rfl⟩:=he;exact⟨rfl,fun τ=>by simp_all⟩)
         |(rename_i hb _ _;cases hb;done)
         |(cases h2;done)
         |skip
        all_goals simp_all
      . simp only[sem,zL]at h2⊢;split at h2<;>first
         | (obtain⟨u,hu,he⟩:=qA2.1 h2
            simp only[qBh]at he;obtain⟨rfl,rfl⟩:=he;exact⟨rfl,fun τ=>by simp_all⟩)
         |(rename_i hb _ _;cases hb;done)
         |(cases h2;done)
         |skip
        all_goals simp_all
      cases h
     |value f=>simp at h
     |invoke r m=>simp at h
    case makeFunc fn a b=>
     cases fn<;>simp only[sem]at h2⊢<;>first|(cases h2;done)|skip
     cases h2;exact⟨rfl,fun τ=>rfl⟩
    case pick c a b=>
     simp only[sem]at h2⊢;split at h2
     . cases h2;exact⟨rfl,fun τ=>by simp_all⟩
     cases h2
    case nilCheck x=>
     simp only[sem]at h2⊢;split at h2
     . cases h2;exact⟨rfl,fun τ=>by simp_all⟩
     . cases h2;exact⟨rfl,fun τ=>by simp_all⟩
     cases h2
    case slice t x lo hi mx=>
     simp only[sem]at h2⊢;split at h2
     . split at h2
       . obtain⟨u,hu,he⟩:=qA2.1 h2;simp only[qBh]at he;obtain⟨rfl,rfl⟩:=he;exact⟨rfl,fun τ=>by simp_all⟩
       . split at h2
         . split at h2
           . obtain⟨u,hu,he⟩:=qA2.1 h2;simp only[qBh]at he;obtain⟨rfl,rfl⟩:=he;exact⟨rfl,fun τ=>by simp_all⟩
           . cases h2
         . split at h2
           . obtain⟨u,hu,he⟩:=qA2.1 h2;simp only[qBh]at he;obtain⟨rfl,rfl⟩:=he;exact⟨rfl,fun τ=>by simp_all⟩
           . cases h2
         . cases h2
       . cases h2
     cases h2
    all_goals
     simp only[sem]at h2⊢
     first
      | (obtain⟨u,hu,he⟩:=qA2.1 h2
         simp only[qBh]at he;obtain⟨rfl,rfl⟩:=he;exact⟨rfl,fun τ=>by rw[hu];rfl⟩)
      | (cases h2
         exact⟨rfl,fun τ=>rfl⟩)
   exact⟨key.1,fun τ=>.inr ⟨h1,.inl (key.2 τ)⟩⟩
 rw[ho]at h;simp[qlx]at h
def qz1(h:qlx o.op=1)(hs:wM P G ops o env U v U'):U'=U:=by
 rcases hs with⟨h1,rfl,rfl⟩|⟨h1,h2⟩
 . rfl
 rcases h2 with h2|⟨f,args,ts,g,first,cap,ho,_,_,e⟩
 . obtain⟨dst,op,ty,pos,after,guard⟩:=o;simp only at h h2;cases op<;>simp only[qlx]at h<;>try(cases h;done)
   case load t a=>
    simp only[sem]at h2;obtain⟨u,hu,he⟩:=qA2.1 h2;simp at he;exact he.2.symm
   case lookup t a i ok=>
    simp only[sem]at h2;obtain⟨u,hu,he⟩:=qA2.1 h2;simp at he;exact he.2.symm
   case call c=>
    obtain⟨callee,args,ts⟩:=c
    cases callee with
    | builtin b=>
     simp only[sem]at h2;simp only at h;unfold zL at h2;split at h2
     . obtain⟨u,hu,he⟩:=qA2.1 h2;simp at he;exact he.2.symm
     . simp at h
     . simp at h
     . simp at h
     . simp at h
     cases h2
    |value f=>simp[sem]at h2
    |invoke r m=>simp[sem]at h2
 exact e
def qqb{t u x}(h:∀d,t=some d->x≠.tmp d):ev G (upd env t u) x=ev G env x:=by
 cases t with
 |none=>rfl
 | some d=>
  cases x with
  | tmp n=>
   have:¬n=d:=fun e=>h d rfl (by rw[e])
   simp[ev,upd,this]
  |_=>rfl
def wT{l}(h:∀x∈l,ev G env x=ev G env' x):qbs G env l=qbs G env' l:=qCa h
def qb7(D){op}(h:∀x∈op.operands,ev G env x=ev G env' x):sem D G env U op=sem D G env' U op:=by
 have pairs:∀ps:Array (Nat×Operand),(∀x∈ps.map (·.2),ev G env x=ev G env' x)->(ps.toList.map fun p=>(p.1,ev G env p.2))=(ps.toList.map fun p=>(p.1,ev G env' p.2)):=fun ps hp=>
  qCa fun p hm=>by
   rw[hp p.2 (Array.mem_map.2 ⟨p,by simpa using hm,rfl⟩)]
 have opt:∀m:Option Operand,(∀x,m=some x->ev G env x=ev G env' x)->m.map (ev G env)=m.map (ev G env'):=by
  intro m hm
  cases m with
  |none=>rfl
  |some x=>simp[hm x rfl]
 cases op<;>simp only[Op.operands]at h<;>simp only[sem]
 case build t ps=>rw[pairs ps fun x hx=>h x (by simpa using hx)]
 case buildSlice t n ps=>rw[pairs ps fun x hx=>h x (by simpa using hx)]
 case makeFunc fn a b=>
  cases fn<;>simp only;rw[wT (env:=env) (env':=env') (l:=a.toList) (fun x hx=>h x (by simp at hx;simp[hx])),wT (env:=env) (env':=env') (l:=b.toList) (fun x hx=>h x (by simp at hx;simp[hx]))]
 case call c=>
  obtain⟨callee,args,ts⟩:=c;cases callee<;>simp only;rw[wT (env:=env) (env':=env') (l:=args.toList) (fun x hx=>h x (by simp at hx;simp[Call.operands,hx]))]
 case slice t x lo hi mx=>
  rw[h x (by simp),opt lo (fun y e=>h y (by simp[e])),opt hi (fun y e=>h y (by simp[e])),opt mx (fun y e=>h y (by simp[e]))]
 case pick c a b=>rw[h c (by simp),h a (by simp),h b (by simp)]
 case store t a b=>rw[h a (by simp),h b (by simp)]
 case binOp op t a b u=>rw[h a (by simp),h b (by simp)]
 case makeSlice t a b=>rw[h a (by simp),h b (by simp)]
 case indexAddr t a b=>rw[h a (by simp),h b (by simp)]
 case index t a b=>rw[h a (by simp),h b (by simp)]
 case lookup t a b ok=>rw[h a (by simp),h b (by simp)]
 case mapUpdate t a b c=>rw[h a (by simp),h b (by simp),h c (by simp)]
 case makeMap t r=>cases r<;>rfl
 case next it b=>cases b<;>first|rfl|simp only[h it (by simp)]
 all_goals first
  |(rw[h _ (by simp)];done)
  |rfl
def yy{t:Option Nat}{u:AV}(h:∀d,t=some d->d∉o.looksAt ops):wM P G ops o (upd env t u) U v U'↔wM P G ops o env U v U':=by
 have hop:∀x∈o.op.operands,ev G (upd env t u) x=ev G env x:=fun x hx=>qqb fun d hd hxd=>h d hd (by
  subst hxd;exact qBJ _ (List.mem_filterMap.2 ⟨.tmp d,by simpa using hx,rfl⟩))
 have hw:jy ops (upd env t u) o=jy ops env o:=by
  unfold jy
  cases hg:o.guard with
  |none=>rfl
  | some jb=>
   obtain⟨j,b⟩:=jb
   cases hj:(ops[j]?).bind (·.dst) with
   |none=>simp[hj]
   | some s=>
    simp only[hj];have:upd env t u s=env s:=by
     cases t with
     |none=>rfl
     | some d=>
      have:¬s=d:=fun e=>h d rfl (by subst e;simp[*,Oper.looksAt])
      simp[upd,this]
    rw[this]
 have hsem:=qb7 (G:=G) (U:=U) (Dof P) (op:=o.op) (env:=upd env t u) (env':=env) hop;have hpure:∀f args ts,o.op=.call {callee:=.value f,args:=args,argTypes:=ts}->ev G (upd env t u) f=ev G env f/\qbs G (upd env t u) args.toList=qbs G env args.toList:=by
  intro f args ts ho;rw[ho]at hop;simp only[Op.operands,Call.operands]at hop;exact⟨hop f (by simp),wT fun x hx=>hop x (by simp at hx;simp[hx])⟩
 unfold wM OpA;rw[hw,hsem];constructor
 . rintro(h1|⟨h1,h2|⟨f,args,ts,g,first,cap,ho,h3,h4⟩⟩)
   . exact .inl h1
   . exact .inr ⟨h1,.inl h2⟩
   . obtain⟨e1,e2⟩:=hpure f args ts ho;rw[e1]at h3;rw[e2]at h4;exact .inr ⟨h1,.inr ⟨f,args,ts,g,first,cap,ho,h3,h4⟩⟩
 rintro(h1|⟨h1,h2|⟨f,args,ts,g,first,cap,ho,h3,h4⟩⟩)
 . exact .inl h1
 . exact .inr ⟨h1,.inl h2⟩
 obtain⟨e1,e2⟩:=hpure f args ts ho;rw[<- e1]at h3;rw[<- e2]at h4;exact .inr ⟨h1,.inr ⟨f,args,ts,g,first,cap,ho,h3,h4⟩⟩
def qfl{s t u v}(h:∀d,s=some d->t≠some d):upd (upd env s u) t v=upd (upd env t v) s u:=by
 cases s with
 |none=>rfl
 | some d=>
  cases t with
  |none=>rfl
  | some e=>
   have hne:e≠d:=fun x=>h d rfl (by rw[x])
   funext i;simp only[upd];by_cases h1:i=e
   . subst h1;simp[hne]
   simp[h1]
def zg(mu:Bool)(ac:List Nat)(k:Nat)(op:Op):Nat :=
 match op with
 |.alloc _=>2
 |.box .. =>2
 |.makeMap _ none=>2
 |.call {callee:=.builtin .append,.. }=>if mu then 9 else 3
 |.call {callee:=.value _,.. }=>if ac.contains k then 9 else 1
 |op=>match qlx op with|0=>0|1=>1|_=>9
def qvp(x y:Nat):Bool:=x==0||y==0||(x==1&&(y==1||y==2||y==3))||(x==3&&(y==1||y==2))||(x==2&&y==3)
def qc0(ops:Array Oper)(x y:Oper)(cx cy:Nat):Bool:=x.apart ops y&&qvp cx cy
def qh2{D}{U τ:St}{t:Nat}{a u:AV}(hH:∀(b:Nat) (x:Blk),U.H[b]?=some x->τ.H[b]?=some x)(h:kD D U t a=some u):kD D τ t a=some u:=by
 unfold kD at h⊢
 cases hD:D t with
 |none=>simp[hD]at h
 | some i=>
  cases a<;>simp only[hD]at h⊢<;>first|exact h|(cases h;done)|skip
  rename_i b off
  cases hb:U.H[b]? with
  |none=>simp[hb]at h
  |some x=>rw[hH _ _ hb];rwa[hb]at h
def qcF{D}{U τ:St}{t}{m k u:AV}{ok:Bool}(hH:∀(b:Nat) (x:Blk),U.H[b]?=some x->τ.H[b]?=some x)(h:zD D U t m k ok=some u):zD D τ t m k ok=some u:=by
 unfold zD at h⊢
 cases hD:D t with
 |none=>simp[hD]at h
 | some i=>
  simp only[hD]at h⊢;cases hd:i.d<;>simp only[hd]at h⊢<;>first|(cases h;done)|skip
  rename_i kt et;by_cases hk:zI D kt k=true
  . rw[if_pos hk]at h⊢;cases m<;>simp only at h⊢<;>first|exact h|(cases h;done)|skip
    rename_i b
    cases hb:U.H[b]? with
    |none=>simp[hb]at h
    |some x=>rw[hH _ _ hb];rwa[hb]at h
  rw[if_neg hk]at h;cases h
def qkv{D}{U τ:St}{t:Nat}{x u:AV}(hH:∀(b:Nat) (x:Blk),U.H[b]?=some x->τ.H[b]?=some x)(h:YD D U t x=some u):YD D τ t x=some u:=by
 unfold YD at h⊢
 cases hD:D t with
 |none=>simp[hD]at h
 | some i=>
  simp only[hD]at h⊢;cases x<;>cases hd:i.d<;>simp only[hd]at h⊢<;>first|exact h|(cases h;done)|skip
  rename_i b _ _
  cases hb:U.H[b]? with
  |none=>simp[hb]at h
  |some x=>rw[hH _ _ hb];rwa[hb]at h
def qz2{D U ts vs v U'}(h:zL D U .append ts vs=some (v,U')):∃t s x,ts=[t,t]/\vs=[s,x]/\qq D U t s x=some (v,U'):=by
 match ts,vs,h with
 | [t,u],[s,x],h=>
  simp only[zL]at h;split at h
  . rename_i hut;subst hut;exact⟨_,s,x,rfl,rfl,h⟩
  cases h
 |[],_,h=>simp[zL]at h
 |[_],_,h=>simp[zL]at h
 |_::_::_::_,_,h=>simp[zL]at h
 |[_,_],[],h=>simp[zL]at h
 |[_,_],[_],h=>simp[zL]at h
 |[_,_],_::_::_::_,h=>simp[zL]at h
def qz0{D U ts vs v U'}(h:zL D U .len ts vs=some (v,U')):∃t x,ts=[t]/\vs=[x]/\YD D U t x=some v:=by
 cases ts with
 |nil=>simp[zL]at h
 | cons t r=>
  cases r with
  |cons _ _=>simp[zL]at h
  | nil=>
   cases vs with
   |nil=>simp[zL]at h
   | cons x s=>
    cases s with
    |cons _ _=>simp[zL]at h
    | nil=>
     simp only[zL]at h;obtain⟨u,hu,he⟩:=qA2.1 h;simp at he;obtain⟨rfl,_⟩:=he;exact⟨t,x,rfl,rfl,hu⟩
def Ks(h:qlx o.op=1)(hs:wM P G ops o env U v U'):U'=U/\∀τ:St,(∀(b:Nat) (x:Blk),U.H[b]?=some x->τ.H[b]?=some x)->wM P G ops o env τ v τ:=by
 have e:=qz1 h hs;refine⟨e,fun τ hH=>?_⟩;subst e;rcases hs with⟨h1,rfl,_⟩|⟨h1,h2⟩
 . exact .inl ⟨h1,rfl,rfl⟩
 refine .inr ⟨h1,?_⟩;rcases h2 with h2|⟨f,args,ts,g,first,cap,ho,hf,hp,_⟩
 . left;obtain⟨dst,op,type,pos,after,guard⟩:=o;simp only at h h2⊢;cases op<;>simp only[qlx]at h<;>try(cases h;done)
   case load t a=>
    simp only[sem]at h2⊢;obtain⟨u,hu,he⟩:=qA2.1 h2;simp at he;obtain⟨rfl,_⟩:=he;rw[qh2 hH hu];rfl
   case lookup t a i ok=>
    simp only[sem]at h2⊢;obtain⟨u,hu,he⟩:=qA2.1 h2;simp at he;obtain⟨rfl,_⟩:=he;rw[qcF hH hu];rfl
   case call c=>
    obtain⟨callee,args,ts⟩:=c
    cases callee with
    | builtin b=>
     simp only at h;simp only[sem]at h2⊢;cases b<;>simp only at h<;>try(cases h;done)
     obtain⟨t,x,e1,e2,hu⟩:=qz0 h2;rw[e1,e2];simp only[zL,qkv hH hu];rfl
    |value f=>simp[sem]at h2
    |invoke r m=>simp[sem]at h2
 exact .inr ⟨f,args,ts,g,first,cap,ho,hf,hp.mono hH,rfl⟩
def qaM(h:(∃e,o.op=.alloc e)\/(∃e x,o.op=.box e x)\/(∃t,o.op=.makeMap t none))(hs:wM P G ops o env U v U'):
 (∀(b:Nat) (x:Blk),U.H[b]?=some x->U'.H[b]?=some x)/\U'.T=U.T/\∀T,wM P G ops o env ⟨U.H,T⟩ v ⟨U'.H,T⟩:=by
 have push:∀(b:Blk) (i:Nat) (x:Blk),U.H[i]?=some x->(U.H++[b])[i]?=some x:=fun b i x hi=>by
  rw[qBa (qAU.1 hi).1];exact hi
 rcases hs with⟨h1,rfl,rfl⟩|⟨h1,h2⟩
 . exact⟨fun _ _ e=>e,rfl,fun T=>.inl ⟨h1,rfl,rfl⟩⟩
 rcases h2 with h2|⟨f,args,ts,g,first,cap,ho,hf,hp,_⟩
 . obtain⟨dst,op,type,pos,after,guard⟩:=o;simp only at h h2;rcases h with⟨e,rfl⟩|⟨e,x,rfl⟩|⟨t,rfl⟩
   . simp only[sem]at h2;split at h2
     . rename_i i hD;split at h2
       . rename_i hz;cases h2;exact⟨push _,rfl,fun T=>.inr ⟨h1,.inl (by simp[*,sem,St.push])⟩⟩
       cases h2
     cases h2
   . simp only[sem]at h2;obtain⟨c,hc,he⟩:=qA2.1 h2;simp at he;obtain⟨rfl,rfl⟩:=he;exact⟨push _,rfl,fun T=>.inr ⟨h1,.inl (by simp[sem,hc,St.push])⟩⟩
   simp only[sem,qBg,qBh]at h2;obtain⟨rfl,rfl⟩:=h2;exact⟨push _,rfl,fun T=>.inr ⟨h1,.inl (by simp[sem,St.push])⟩⟩
 rw[ho]at h;rcases h with⟨e,h⟩|⟨e,x,h⟩|⟨t,h⟩<;>cases h
def qbl{args ts}(h:o.op=.call {callee:=.builtin .append,args:=args,argTypes:=ts})(hs:wM P G ops o env U v U'):
 U'.H=U.H/\∀H,wM P G ops o env ⟨H,U.T⟩ v ⟨H,U'.T⟩:=by
 rcases hs with⟨h1,rfl,rfl⟩|⟨h1,h2⟩
 . exact⟨rfl,fun H=>.inl ⟨h1,rfl,rfl⟩⟩
 rcases h2 with h2|⟨f,args',ts',g,first,cap,ho,hf,hp,_⟩
 . obtain⟨dst,op,type,pos,after,guard⟩:=o;simp only at h;subst h;simp at h2;have key:U'.H=U.H/\∀H,zL (Dof P) ⟨H,U.T⟩ .append ts.toList (qbs G env args.toList)=some (v,⟨H,U'.T⟩):=by
    obtain⟨t,s,x,e1,e2,h3⟩:=qz2 h2;rw[e1,e2];simp only[zL,if_true];unfold qq at h3⊢;split at h3
    case h_2=>cases h3
    rename_i i sz rows tok sz2 rows2 hD hr
    try simp
    split at h3
    case h_2=>cases h3
    rename_i e hd;split at h3
    case h_2=>cases h3
    rename_i j hj
    try simp only[hj]
    split at h3
    case isFalse=>cases h3
    rename_i hc
    try simp only[if_pos hc]
    split at h3
    . rename_i hn;cases h3;exact⟨rfl,fun H=>by rw[if_pos hn]⟩
    rename_i hn;split at h3
    . cases h3
    . cases h3;exact⟨rfl,fun H=>by rw[if_neg hn]⟩
    . cases h3;exact⟨rfl,fun H=>by rw[if_neg hn]⟩
    split at h3
    . rename_i hk;cases h3;exact⟨rfl,fun H=>by rw[if_neg hn,if_pos hk]⟩
    cases h3
   exact⟨key.1,fun H=>.inr ⟨h1,.inl (by simp;exact key.2 H)⟩⟩
 rw[h]at ho;cases ho
def qlw{mu ac k op}:
 (zg mu ac k op=0->qlx op=0)/\(zg mu ac k op=1->qlx op=1)/\(zg mu ac k op=2->(∃e,op=.alloc e)\/(∃e x,op=.box e x)\/(∃t,op=.makeMap t none)) /\
   (zg mu ac k op=3->∃args ts,op=.call {callee:=.builtin .append,args:=args,argTypes:=ts}):=by
 unfold zg;split
 . simp
 . simp
 . simp
 . cases mu<;>simp
 . split<;>simp[qlx]
 rename_i op h1 h2 h3 h4 h5;split
 . rename_i h;simp[h]
 . rename_i h;simp[h]
 simp
def qx0{oi oj vi vj U1 U2 mu ac i j}(hf:qc0 ops oi oj (zg mu ac i oi.op) (zg mu ac j oj.op)=true)(hi:wM P G ops oi env U vi U1)(hj:wM P G ops oj (upd env oi.dst vi) U1 vj U2):
 ∃τ,wM P G ops oj env U vj τ/\wM P G ops oi (upd env oj.dst vj) τ vi U2/\upd (upd env oj.dst vj) oi.dst vi=upd (upd env oi.dst vi) oj.dst vj:=by
 simp only[qc0,qvp,qA1,qC7,beq_iff_eq]at hf;obtain⟨ha,hc⟩:=hf;obtain⟨a1,a2,a3⟩:=Oper.apart_spec ha;have hj':=(yy a1).1 hj;have hcomm:upd (upd env oj.dst vj) oi.dst vi=upd (upd env oi.dst vi) oj.dst vj:=(qfl a2).symm;obtain⟨ci0,ci1,ci2,ci3⟩:=qlw (mu:=mu) (ac:=ac) (k:=i) (op:=oi.op);obtain⟨cj0,cj1,cj2,cj3⟩:=qlw (mu:=mu) (ac:=ac) (k:=j) (op:=oj.op);rcases hc with(((hc|hc)|⟨hc,hc2⟩)|⟨hc,hc2⟩)|⟨hc,hc2⟩
 . obtain⟨rfl,hall⟩:=qy4 (ci0 hc) hi;exact⟨U2,hj',(yy a3).2 (hall U2),hcomm⟩
 . obtain⟨rfl,hall⟩:=qy4 (cj0 hc) hj';exact⟨U,hall U,(yy a3).2 hi,hcomm⟩
 . obtain⟨rfl,hall⟩:=Ks (ci1 hc) hi;have hH:∀(b:Nat) (x:Blk),U1.H[b]?=some x->U2.H[b]?=some x:=by
    rcases hc2 with(hc2|hc2)|hc2
    . obtain⟨rfl,_⟩:=Ks (cj1 hc2) hj';exact fun _ _ e=>e
    . exact(qaM (cj2 hc2) hj').1
    obtain⟨args,ts,ho⟩:=cj3 hc2;rw[(qbl ho hj').1];exact fun _ _ e=>e
   exact⟨U2,hj',(yy a3).2 (hall U2 hH),hcomm⟩
 . obtain⟨args,ts,ho⟩:=ci3 hc;obtain⟨e1,hall⟩:=qbl ho hi;obtain⟨H,T⟩:=U;obtain⟨H1,T1⟩:=U1;simp only at e1 hall;subst e1;rcases hc2 with hc2|hc2
   . obtain⟨rfl,hallj⟩:=Ks (cj1 hc2) hj';exact⟨⟨H1,T⟩,hallj _ (fun _ _ e=>e),(yy a3).2 (hall H1),hcomm⟩
   obtain⟨_,e2,hallj⟩:=qaM (cj2 hc2) hj';obtain⟨H2,T2⟩:=U2;simp only at e2 hallj;subst e2;exact⟨⟨H2,T⟩,hallj T,(yy a3).2 (hall H2),hcomm⟩
 obtain⟨args,ts,ho⟩:=cj3 hc2;obtain⟨e1,hallj⟩:=qbl ho hj';obtain⟨_,e2,hall⟩:=qaM (ci2 hc) hi;obtain⟨H,T⟩:=U;obtain⟨H1,T1⟩:=U1;obtain⟨H2,T2⟩:=U2;simp only at e1 e2 hall hallj;subst e1;subst e2;exact⟨⟨H,T2⟩,hallj H,(yy a3).2 (hall T2),hcomm⟩
def Yr(P:Program)(G:Glo)(ops:Array Oper)(mu:Bool)(ac:List Nat)(R:Env->St->Prop):Nat->Array Bool->Env->St->Prop
 |0,listed,env,U=>Region.ready .any ops listed=[]/\R env U
 | fuel+1,listed,env,U=>(Region.ready .any ops listed=[]->R env U) /\
  ∀ i∈Region.ready .any ops listed,∃o,ops[i]?=some o /\
   ((∃v U',wM P G ops o env U v U'/\Yr P G ops mu ac R fuel (listed.setIfInBounds i true) (upd env o.dst v) U') \/
    (zg mu ac i o.op=9/\jy ops env o=some true/\jP P G mu false o.op env U (fun v U'=>Yr P G ops mu ac R fuel (listed.setIfInBounds i true) (upd env o.dst v) U')))
def qil(ops:Array Oper)(listed:Array Bool)(i:Nat)(dp:List Nat):Bool :=
 dp.all fun j=>!listed.getD j true&&(match ops[j]? with
  |some oj=>oj.after.any fun e=>Region.binds .any e&&(e.on==i||dp.contains e.on)
  |none=>true)
def qkb{listed i j dp}(hd:qil ops listed i dp=true)(hi:listed.getD i true=false)(hj:j∈Region.ready .any ops listed):j∉dp:=by
 intro hm;have h1:=qA3.1 hd j hm;simp at h1;obtain⟨hun,oj,hoj,hall⟩:=mem_ready.1 hj;rw[hoj]at h1;obtain⟨e,he,he2⟩:=Array.any_eq_true'.1 h1.2;simp at he2;have hl:=hall e he he2.1;have tt:∀k,listed.getD k true=false->listed.getD k false=true->False:=by
  intro k h2 h3;rcases qEI k listed.size with h'|h'
  . simp[h']at h2 h3;rw[h2]at h3;cases h3
  simp[Array.getElem?_eq_none h']at h3
 rcases he2.2 with h2|h2
 . rw[h2]at hl;exact tt i hi hl
 have h3:=qA3.1 hd e.on (by simpa using h2);simp only[qA1,qCn]at h3;exact tt _ h3.1 hl
def qde{listed i j dp}(hd:qil ops listed i dp=true)(hj:j∉dp):qil ops (listed.setIfInBounds j true) i dp=true:=by
 refine qA3.2 fun k hk=>?_
 have h1:=qA3.1 hd k hk;simp only[qA1,qCn]at h1⊢;have hjk:j≠k:=fun e=>hj (e▸hk)
 exact⟨by rw[getD_set_ne true hjk];exact h1.1,h1.2⟩
def qep{o:Oper}{d:Nat}(h:d∉o.looksAt ops):.tmp d∉o.op.operands.toList:=fun hm=>h (qBJ _ (List.mem_filterMap.2 ⟨.tmp d,hm,rfl⟩))
def qbC{t:Option Nat}{u:AV}(h:∀d,t=some d->d∉o.looksAt ops):jy ops (upd env t u) o=jy ops env o:=by
 unfold jy
 cases hg:o.guard with
 |none=>rfl
 | some jb=>
  obtain⟨j,b⟩:=jb
  cases hj:(ops[j]?).bind (·.dst) with
  |none=>simp[hj]
  | some s=>
   simp only[hj];have:upd env t u s=env s:=by
    cases t with
    |none=>rfl
    | some d=>
     have:¬s=d:=fun e=>h d rfl (by subst e;simp[*,Oper.looksAt])
     simp[upd,this]
   rw[this]
def qhs(D){mu op}(h:∀x∈op.operands,ev G env x=ev G env' x):qb8 D G mu env U op=qb8 D G mu env' U op:=by
 cases op<;>simp only[Op.operands]at h<;>simp only[qb8]
 case makeSlice t x y=>rw[h x (by simp),h y (by simp)]
 case binOp o t x y u=>rw[h x (by simp),h y (by simp)]
 case call c=>
  obtain⟨callee,args,ts⟩:=c;cases callee<;>simp only;rename_i b;have ha:∀x∈args.toList,ev G env x=ev G env' x:=fun x hx=>h x (by simp at hx;simp[Call.operands,hx])
  generalize ts.toList=tl;generalize args.toList=al at ha;split
  . cases mu
    . rfl
    . simp only[ha _ (qCJ),ha _ (qCg _ (qCJ))]
  . simp only[ha _ (qCJ)]
  . simp only[ha _ (qCJ),ha _ (qCg _ (qCJ))]
  rfl
variable {G:Glo}
def qmA{mu op t u R}(h:∀d,t=some d->.tmp d∉op.operands.toList):jP P G mu false op (upd env t u) U R↔jP P G mu false op env U R:=by
 have hop:∀x∈op.operands,ev G (upd env t u) x=ev G env x:=fun x hx=>qqb fun d hd hxd=>h d hd (by subst hxd;simpa using hx)
 by_cases hc:∃f args ts,op=.call {callee:=.value f,args:=args,argTypes:=ts}
 . obtain⟨f,args,ts,rfl⟩:=hc;simp only[Op.operands,Call.operands]at hop;simp only[jP];rw[hop f (by simp),wT (l:=args.toList) (fun x hx=>hop x (by simp at hx;simp[hx]))]
 rw[jP.plain hc,jP.plain hc,qhs (Dof P) hop,qb7 (Dof P) hop]
variable {mu:Bool}{ac:List Nat}
def Yr.first{R i oi vi dp}(hi:ops[i]?=some oi):∀(fuel) (listed) (env) (U U1),
 qil ops listed i dp=true ->
 (∀(j) (oj),ops[j]?=some oj->j≠i->listed.getD j true=false->j∉dp->qc0 ops oi oj (zg mu ac i oi.op) (zg mu ac j oj.op)=true/\(zg mu ac j oj.op≠9\/zg mu ac i oi.op=0)) ->
 i∈Region.ready .any ops listed->wM P G ops oi env U vi U1->Yr P G ops mu ac R fuel (listed.setIfInBounds i true) (upd env oi.dst vi) U1->Yr P G ops mu ac R (fuel+1) listed env U:=by
 intro fuel
 induction fuel with
 | zero=>
  intro listed env U U1 hd _ hr hs H;refine⟨fun h=>(by rw[h]at hr;cases hr),fun j hj=>?_⟩;by_cases hji:j=i
  . subst hji;exact⟨oi,hi,.inl ⟨vi,U1,hs,H⟩⟩
  have:=ready_mono hj hji;rw[H.1]at this;cases this
 | succ fuel ih=>
  intro listed env U U1 hd hfree hr hs H;refine⟨fun h=>(by rw[h]at hr;cases hr),fun j hj=>?_⟩;by_cases hji:j=i
  . subst hji;exact⟨oi,hi,.inl ⟨vi,U1,hs,H⟩⟩
  obtain⟨oj,hoj,hst⟩:=H.2 j (ready_mono hj hji);obtain⟨hjun,oj',hoj',hall⟩:=mem_ready.1 hj;rw[hoj]at hoj';cases hoj';have hnd:=qkb hd (mem_ready.1 hr).1 hj;obtain⟨hf1,hf2⟩:=hfree j oj hoj hji hjun hnd;have rest:∀(k:Nat) (ok:Oper),ops[k]?=some ok->k≠i->(listed.setIfInBounds j true).getD k true=false->k∉dp->qc0 ops oi ok (zg mu ac i oi.op) (zg mu ac k ok.op)=true/\(zg mu ac k ok.op≠9\/zg mu ac i oi.op=0):=by
   intro k ok hk hki hun hkd;refine hfree k ok hk hki ?_ hkd;by_cases hjk:j=k
   . subst hjk;exact hjun
   rwa[getD_set_ne true hjk]at hun
  rcases hst with⟨vj,U2,hsj,H2⟩|⟨hc9,hw9,H2⟩
  . obtain⟨τ,s1,s2,s3⟩:=qx0 hf1 hs hsj;refine⟨oj,hoj,.inl ⟨vj,τ,s1,ih (listed.setIfInBounds j true) _ τ U2 (qde hd hnd) rest (ready_mono hr (Ne.symm hji)) s2 ?_⟩⟩
    rwa[qEJ _ _ hji,s3]
  have h0:=hf2.resolve_left (fun h=>h hc9);simp only[qc0,qA1]at hf1;obtain⟨a1,a2,a3⟩:=Oper.apart_spec hf1.1;obtain⟨rfl,hpure⟩:=qy4 ((qlw (mu:=mu) (ac:=ac) (k:=i) (op:=oi.op)).1 h0) hs;refine⟨oj,hoj,.inr ⟨hc9,by rw[<- qbC (t:=oi.dst) (u:=vi) a1];exact hw9,?_⟩⟩;refine((qmA (t:=oi.dst) (u:=vi) (fun d hd=>qep (a1 d hd))).1 H2).imp fun v U' hv=>?_
  refine ih (listed.setIfInBounds j true) _ U' U' (qde hd hnd) rest (ready_mono hr (Ne.symm hji)) ((yy a3).2 (hpure U')) ?_
  rwa[qEJ _ _ hji,qfl (s:=oj.dst) (t:=oi.dst) (fun d hd e=>a2 d e hd)]
def Yr.solo{R i oi dp}(hi:ops[i]?=some oi){fuel listed env U}(hd:qil ops listed i dp=true)
 (hall:∀(j) (oj),ops[j]?=some oj->j≠i->listed.getD j true=false->j∈dp) (hr:i∈Region.ready .any ops listed)
 (H:(∃v U',wM P G ops oi env U v U'/\Yr P G ops mu ac R fuel (listed.setIfInBounds i true) (upd env oi.dst v) U') \/
   (zg mu ac i oi.op=9/\jy ops env oi=some true/\jP P G mu false oi.op env U (fun v U'=>Yr P G ops mu ac R fuel (listed.setIfInBounds i true) (upd env oi.dst v) U'))):
 Yr P G ops mu ac R (fuel+1) listed env U:=by
 refine⟨fun h=>(by rw[h]at hr;cases hr),fun j hj=>?_⟩;by_cases hji:j=i
 . subst hji;exact⟨oi,hi,H⟩
 obtain⟨hjun,oj,hoj,_⟩:=mem_ready.1 hj;exact absurd (hall j oj hoj hji hjun) (qkb hd (mem_ready.1 hr).1 hj)
def QX(hsl:vZ N ops=true){R w0 ro0 Q}:∀(fuel) (listed) (env) (U) (K) (a) (w),
 (∀K' env' U' a' w',K.le K'->WRel G w0 ro0 K' U' w'->ERel K' N env' a'->a'.defers=a.defers->R env' U'->Q .normal a' w') ->
 (∀c K' U' a' w',K.le K'->WRel G w0 ro0 K' U' w'->a'.defers=a.defers->G.X c U'->Q (.panic c) a' w')->WRel G w0 ro0 K U w->ERel K N env a->Yr P G ops mu ac R fuel listed env U->wpAny P .any ops Q fuel listed a w
 |0,listed,env,U,K,a,w,hq,_,hw,he,h=>⟨h.1,hq K env U a w (qFG K) hw he rfl h.2⟩
 | fuel+1,listed,env,U,K,a,w,hq,hp,hw,he,h=>by
  refine⟨fun h0=>hq K env U a w (qFG K) hw he rfl (h.1 h0),fun i hi=>?_⟩;obtain⟨o,ho,H⟩:=h.2 i hi;have hmem:o∈ops.toList:=qAV (i:=i) (by simpa using ho);have hd:=ZF hsl hmem;have hgd:=Ze hsl o;unfold wpOp;simp only[ho];rcases H with⟨v,U',hs,H⟩|⟨_,hwant,H⟩
  . rcases hs with⟨hwant,rfl,rfl⟩|⟨hwant,hop⟩
    . rw[if_neg (by simp[yV he hgd hwant])];exact QX hsl fuel _ _ _ K _ w (fun K2 env2 U2 a2 w2 hle x1 x2 xd=>hq K2 env2 U2 a2 w2 hle x1 x2 (xd.trans qFh)) (fun c K2 U2 a2 w2 hle x1 xd=>hp c K2 U2 a2 w2 hle x1 (xd.trans qFh)) hw (he.put hd (by simp only[qk];exact⟨#[],rfl,by simp[ql]⟩)) H
    . rw[if_pos (yV he hgd hwant)];refine .inl (qrM hw he hd hop fun K' a' w' h1 h2 h3 hds=>?_);exact QX hsl fuel _ _ _ K' a' w' (fun K2 env2 U2 a2 w2 hle x1 x2 xd=>hq K2 env2 U2 a2 w2 (qFH h1 hle) x1 x2 (xd.trans hds)) (fun c K2 U2 a2 w2 hle x1 xd=>hp c K2 U2 a2 w2 (qFH h1 hle) x1 (xd.trans hds)) h2 h3 H
  rw[if_pos (yV he hgd hwant)];refine .inl (qj3 hw he hd H (fun v U' K' a' w' hA h1 h2 h3 hds=>?_) fun c U' K' w' hx h1 h2=>hp c K' U' _ w' h1 h2 rfl hx);exact QX hsl fuel _ _ _ K' a' w' (fun K2 env2 U2 a2 w2 hle x1 x2 xd=>hq K2 env2 U2 a2 w2 (qFH h1 hle) x1 x2 (xd.trans hds)) (fun c K2 U2 a2 w2 hle x1 xd=>hp c K2 U2 a2 w2 (qFH h1 hle) x1 (xd.trans hds)) h2 h3 hA
end
mutual
inductive Sch where
 |done
 |step (k:Nat) (dp:List Nat) (s:Sch)
 |fork (a:Alts)
inductive Alts where
 |nil
 |cons (k:Nat) (s:Sch) (r:Alts)
end
def qb3(ops:Array Oper)(mu:Bool)(ac:List Nat)(listed:Array Bool)(k:Nat)(dp:List Nat):Bool :=
 (Region.ready .any ops listed).contains k&&qil ops listed k dp&&(match ops[k]? with
   | some ok=>(List.range ops.size).all fun j=>j==k||listed.getD j true||dp.contains j||(zg mu ac k ok.op != 9&&(match ops[j]? with
    |some oj=>qc0 ops ok oj (zg mu ac k ok.op) (zg mu ac j oj.op)&&(zg mu ac j oj.op != 9||zg mu ac k ok.op==0)
    |none=>true))
   |none=>false)
mutual
def qd8(ops:Array Oper)(mu:Bool)(ac:List Nat):Sch->Array Bool->Bool
 |.done,listed=>(Region.ready .any ops listed).isEmpty
 |.step k dp s,listed=>qb3 ops mu ac listed k dp&&qd8 ops mu ac s (listed.setIfInBounds k true)
 |.fork a,listed=>!(Region.ready .any ops listed).isEmpty&&qdz ops mu ac a listed (Region.ready .any ops listed)
def qdz(ops:Array Oper)(mu:Bool)(ac:List Nat):Alts->Array Bool->List Nat->Bool
 |.nil,_,need=>need.isEmpty
 |.cons k s r,listed,need=>need.contains k&&qd8 ops mu ac s (listed.setIfInBounds k true)&&qdz ops mu ac r listed (need.filter (· != k))
end
mutual
def Vm:Sch->Nat
 |.done=>0
 |.step _ _ s=>Vm s+1
 |.fork a=>qbm a+1
def qbm:Alts->Nat
 |.nil=>0
 |.cons _ s r=>max (Vm s) (qbm r)
end
def qzJ(ops:Array Oper)(k:Nat):List Nat :=
 (List.range ops.size).foldl (fun dp j=>match ops[j]? with
   |some oj=>if oj.after.any (fun e=>Region.binds .any e&&(e.on==k||dp.contains e.on)) then j::dp else dp
   |none=>dp) []
def qu5(ops:Array Oper)(mu:Bool)(ac:List Nat):Nat->Nat->Array Bool->Bool
 |0,_,listed=>(Region.ready .any ops listed).isEmpty
 |fuel+1,k,listed=>qb3 ops mu ac listed k (qzJ ops k)&&qu5 ops mu ac fuel (k+1) (listed.setIfInBounds k true)
def qqh(ops:Array Oper)(mu lw:Bool):Bool:=qu5 ops mu (if lw then [ops.size-1] else []) ops.size 0 (Array.replicate ops.size false)
