set_option linter.all false
set_option linter.defProp false
namespace Go.Abs
abbrev Nd:=Nat×Nat×Nat
def lvD(d:List Nd)(i:Nat):Nat:=match d[i]? with
 |some n=>n.1
 |none=>20
structure DagOk(d:List Nd):Prop where
 two:2<=d.length
 most:d.length<=8192
 n0:d[0]?=some (20,0,0)
 n1:d[1]?=some (20,1,1)
 node:∀(i) (n),2<=i->d[i]?=some n->n.1<20/\n.2.1<i/\n.2.2<i/\n.2.1≠n.2.2/\n.1<lvD d n.2.1/\n.1<lvD d n.2.2
 nodup:d.Nodup
def evF(d:List Nd)(b:Nat->Bool):Nat->Nat->Bool
 |0,i=>i==1
 | k+1,i=>match d[i]? with
  |some n=>if n.1<20 then evF d b k (if b n.1 then n.2.2 else n.2.1) else i==1
  |none=>false
def evD(d:List Nd)(b:Nat->Bool)(i:Nat):Bool:=evF d b 20 i
def qkO{d}(h:DagOk d)(i):lvD d i<=20:=by
 unfold lvD;split
 . rename_i n a;by_cases h2:2<=i
   . exact Nat.le_of_lt (h.node i n h2 a).1
   have:i=0\/i=1:=by omega
   rcases this with rfl|rfl
   . rw[h.n0]at a;cases a;exact Nat.le_refl _
   rw[h.n1]at a;cases a;exact Nat.le_refl _
 exact Nat.le_refl _
def qvq{d}(h:DagOk d):lvD d 0=20:=by unfold lvD;rw[h.n0]
def qvp{d}(h:DagOk d):lvD d 1=20:=by unfold lvD;rw[h.n1]
def jU{d i n}(h:d[i]?=some n):lvD d i=n.1:=by unfold lvD;rw[h]
def qvo{d}(h:DagOk d){i}(h2:2<=i)(hi:i<d.length):lvD d i<20:=by
 have:=List.getElem?_eq_getElem hi;rw[jU this];exact(h.node i _ h2 this).1
def qqb{d}(h:DagOk d){i}(hi:i<d.length)(b:lvD d i=20):i=0\/i=1:=by
 apply Classical.byContradiction;intro a;have:=qvo h (i:=i) (by omega) hi;omega
def ZF{d}(h:DagOk d)(b){i}(hi:i<2)(k):evF d b k i=(i==1):=by
 have hi:i=0\/i=1:=by omega
 cases k with
 |zero=>rfl
 | succ k=>
  rcases hi with rfl|rfl
  . simp[evF,h.n0]
  simp[evF,h.n1]
def qoT{d}(h:DagOk d)(b):∀(k i),i<d.length->20<=lvD d i+k->∀k',k<=k'->evF d b k' i=evF d b k i:=by
 intro k
 induction k with
 | zero=>
  intro i hi c k' _;have:=qqb h hi (by have:=qkO h i;omega);rw[ZF h b (by omega),ZF h b (by omega)]
 | succ k ih=>
  intro i hi c k' f;obtain⟨k',rfl⟩:∃j,k'=j+1:=⟨k'-1,by omega⟩;by_cases h2:2<=i
  . have a:=List.getElem?_eq_getElem hi;obtain⟨e,o,g,m,l,r⟩:=h.node i _ h2 a;rw[jU a]at c;simp only[evF,a,e,if_true];split
    . exact ih _ (by omega) (by omega) k' (by omega)
    exact ih _ (by omega) (by omega) k' (by omega)
  rw[ZF h b (by omega),ZF h b (by omega)]
def qeY{d}(h:DagOk d)(b){i}(hi:i<2):evD d b i=(i==1):=ZF h b hi 20
def YG{d}(h:DagOk d)(b):evD d b 0=false:=qeY h b (by omega)
def qeZ{d}(h:DagOk d)(b):evD d b 1=true:=qeY h b (by omega)
def Y4{d}(h:DagOk d)(b){i n}(h2:2<=i)(a:d[i]?=some n):evD d b i=evD d b (if b n.1 then n.2.2 else n.2.1):=by
 obtain⟨c,j,g,f,e,l⟩:=h.node i n h2 a;have hi:=(List.getElem?_eq_some_iff.1 a).1;show evF d b 20 i=evF d b 20 _;rw[show evF d b 20 i=evF d b 19 (if b n.1 then n.2.2 else n.2.1) by simp[evF,a,c]];exact(qoT h b 19 _ (by split<;>omega) (by split<;>omega) 20 (by omega)).symm
def WC{d}(h:DagOk d){b c}:∀(k i),i<d.length->(∀l,lvD d i<=l->b l=c l)->evF d b k i=evF d c k i
 |0,_,_,_=>rfl
 | k+1,i,hi,a=>by
  by_cases h2:2<=i
  . have e:=List.getElem?_eq_getElem hi;obtain⟨f,o,g,m,j,r⟩:=h.node i _ h2 e;rw[jU e]at a;simp only[evF,e,f,if_true];rw[a _ (Nat.le_refl _)];split
    . exact WC h k _ (by omega) fun l h1=>a l (by omega)
    exact WC h k _ (by omega) fun l h1=>a l (by omega)
  rw[ZF h b (by omega),ZF h c (by omega)]
def qdp{d}(h:DagOk d){b c i}(hi:i<d.length)(a:∀l,lvD d i<=l->b l=c l):evD d b i=evD d c i:=WC h 20 i hi a
def qs9{d}(h:DagOk d):∀(k i),i<d.length->i<=k->i≠0->∃b,evD d b i=true:=by
 intro k
 induction k with
 |zero=>intro i hi g h0;omega
 | succ k ih=>
  intro i hi g h0;by_cases h2:2<=i
  . have a:=List.getElem?_eq_getElem hi;obtain⟨z,t,m,r,s,u⟩:=h.node i _ h2 a;have go:∀(v:Bool) (j:Nat),j≠0->j<i->(d[i]).1<lvD d j->(if v then(d[i]).2.2 else(d[i]).2.1)=j->∃b,evD d b i=true:=by
     intro v j o x y w;obtain⟨b,hb⟩:=ih j (by omega) (by omega) o;refine⟨fun l=>if l=(d[i]).1 then v else b l,?_⟩;rw[Y4 h _ h2 a];simp
     rwa[w,qdp h (c:=b) (by omega) fun l A=>if_neg (by omega)]
    by_cases f:(d[i]).2.1=0
    . exact go true (d[i]).2.2 (fun e=>r (by rw[f,e])) m u rfl
    exact go false (d[i]).2.1 f t s rfl
  have:i=1:=by omega
  subst this;exact⟨fun _=>false,qeZ h _⟩
def zi(d d':List Nd):Prop:=∃x,d'=d++x
def zi.refl(d):zi d d:=⟨[],by simp⟩
def qGc:=@zi.refl
def zi.trans{a b c}(h:zi a b)(g:zi b c):zi a c:=by
 obtain⟨x,rfl⟩:=h;obtain⟨y,rfl⟩:=g;exact⟨x++y,by simp⟩
def zi.at{d d'}(h:zi d d'){i}(hi:i<d.length):d'[i]?=d[i]?:=by
 obtain⟨x,rfl⟩:=h;rw[List.getElem?_append_left hi]
def zi.len{d d'}(h:zi d d'):d.length<=d'.length:=by obtain⟨x,rfl⟩:=h;simp
def zi.lv{d d'}(h:zi d d'){i}(hi:i<d.length):lvD d' i=lvD d i:=by unfold lvD;rw[h.at hi]
def zi.evF{d d'}(hd:DagOk d)(h:zi d d')(b):∀(k i),i<d.length->Go.Abs.evF d' b k i=Go.Abs.evF d b k i
 |0,_,_=>rfl
 | k+1,i,hi=>by
  have a:=List.getElem?_eq_getElem hi;have c:=(h.at hi).trans a;simp only[Go.Abs.evF,a,c];by_cases h2:2<=i
  . obtain⟨e,l,f,j,g,m⟩:=hd.node i _ h2 a;simp only[e,if_true];split
    . exact zi.evF hd h b k _ (by omega)
    exact zi.evF hd h b k _ (by omega)
  have:i=0\/i=1:=by omega
  rcases this with rfl|rfl
  . have:=hd.n0;rw[a]at this;rw[Option.some.inj this];rfl
  have:=hd.n1;rw[a]at this;rw[Option.some.inj this];rfl
def zi.ev{d d'}(hd:DagOk d)(h:zi d d')(b){i}(hi:i<d.length):evD d' b i=evD d b i:=zi.evF hd h b 20 i hi
def qo4{d}(h:DagOk d){n}(B:d.length<8192)(h1:n.1<20)(h2:n.2.1<d.length)(c:n.2.2<d.length)(v:n.2.1≠n.2.2)(g:n.1<lvD d n.2.1)(r:n.1<lvD d n.2.2)(j:n∉d):DagOk (d++[n]):=by
 have a:zi d (d++[n]):=⟨[n],rfl⟩;refine⟨by simp;have:=h.two;omega,by simp;omega,by rw[a.at (by have:=h.two;omega)];exact h.n0,by rw[a.at (by have:=h.two;omega)];exact h.n1,?_,?_⟩
 . intro i m hi b;rw[List.getElem?_append]at b;split at b
   . rename_i s;obtain⟨A,w,l,u,t,z⟩:=h.node i m hi b;exact⟨A,w,l,u,by rw[a.lv (by omega)];exact t,by rw[a.lv (by omega)];exact z⟩
   rename_i s;have:i=d.length:=by
    have:=(List.getElem?_eq_some_iff.1 b).1;simp at this;omega
   subst this;simp at b;subst b;exact⟨h1,h2,c,v,by rw[a.lv h2];exact g,by rw[a.lv c];exact r⟩
 exact List.nodup_append.2 ⟨h.nodup,by simp,fun x o y f e=>by simp at f;subst f;subst e;exact j o⟩
def vT(d:List Nd)(f a:Nat)(one:Bool):Nat:=match d[f]? with
 |some n=>if n.1=a then(if one then n.2.2 else n.2.1) else f
 |none=>f
def wg{d}(h:DagOk d){f L}(g:f<d.length)(l:L<20)(i:L<=lvD d f)(v):
 vT d f L v<d.length/\L<lvD d (vT d f L v)/\∀b,b L=v->evD d b f=evD d b (vT d f L v):=by
 have a:=List.getElem?_eq_getElem g;unfold vT;rw[a];rw[jU a]at i;simp only;by_cases c:(d[f]).1=L
 . have h2:2<=f:=by
    apply Classical.byContradiction;intro u;have:f=0\/f=1:=by omega
    rcases this with rfl|rfl
    . have e:=h.n0;rw[a]at e;rw[Option.some.inj e]at c;simp at c;omega
    have e:=h.n1;rw[a]at e;rw[Option.some.inj e]at c;simp at c;omega
   obtain⟨t,r,j,o,m,s⟩:=h.node f _ h2 a;rw[if_pos c];refine⟨by split<;>omega,by split<;>omega,fun b hb=>?_⟩;rw[Y4 h b h2 a,c,hb]
 rw[if_neg c];refine⟨g,by rw[jU a];omega,fun b _=>rfl⟩
