set_option linter.all false
set_option linter.defProp false
namespace Go.Abs
abbrev Nd:=Nat×Nat×Nat
def lvD(d:List Nd)(i:Nat):Nat:=match d[i]? with
 |some n=>n.1
 |none=>20
structure DagOk(d:List Nd):Prop where
 two:2<=d.length
 most:d.length<=8192
 n0:d[0]?=some (20,0,0)
 n1:d[1]?=some (20,1,1)
 node:∀(i) (n),2<=i->d[i]?=some n->n.1<20/\n.2.1<i/\n.2.2<i/\n.2.1≠n.2.2/\n.1<lvD d n.2.1/\n.1<lvD d n.2.2
 nodup:d.Nodup
def evF(d:List Nd)(b:Nat->Bool):Nat->Nat->Bool
 |0,i=>i==1
 | k+1,i=>match d[i]? with
  |some n=>if n.1<20 then evF d b k (if b n.1 then n.2.2 else n.2.1) else i==1
  |none=>false
def evD(d:List Nd)(b:Nat->Bool)(i:Nat):Bool:=evF d b 20 i
def qf8{d}(h:DagOk d)(i):lvD d i<=20:=by
 unfold lvD;split
 . rename_i n hn;by_cases h2:2<=i
   . exact Nat.le_of_lt (h.node i n h2 hn).1
   have:i=0\/i=1:=by omega
   rcases this with rfl|rfl
   . rw[h.n0]at hn;cases hn;exact Nat.le_refl _
   rw[h.n1]at hn;cases hn;exact Nat.le_refl _
 exact Nat.le_refl _
def qhZ{d}(h:DagOk d):lvD d 0=20:=by unfold lvD;rw[h.n0]
def qhY{d}(h:DagOk d):lvD d 1=20:=by unfold lvD;rw[h.n1]
def zV{d i n}(h:d[i]?=some n):lvD d i=n.1:=by unfold lvD;rw[h]
def qkr{d}(h:DagOk d){i}(h2:2<=i)(hi:i<d.length):lvD d i<20:=by
 have:=List.getElem?_eq_getElem hi;rw[zV this];exact(h.node i _ h2 this).1
def qpS{d}(h:DagOk d){i}(hi:i<d.length)(hl:lvD d i=20):i=0\/i=1:=by
 apply Classical.byContradiction;intro hn;have:=qkr h (i:=i) (by omega) hi;omega
def Zo{d}(h:DagOk d)(b){i}(hi:i<2)(k):evF d b k i=(i==1):=by
 have hi:i=0\/i=1:=by omega
 cases k with
 |zero=>rfl
 | succ k=>
  rcases hi with rfl|rfl
  . simp[evF,h.n0]
  simp[evF,h.n1]
def qov{d}(h:DagOk d)(b):∀(k i),i<d.length->20<=lvD d i+k->∀k',k<=k'->evF d b k' i=evF d b k i:=by
 intro k
 induction k with
 | zero=>
  intro i hi hl k' _;have:=qpS h hi (by have:=qf8 h i;omega);rw[Zo h b (by omega),Zo h b (by omega)]
 | succ k ih=>
  intro i hi hl k' hk;obtain⟨k',rfl⟩:∃j,k'=j+1:=⟨k'-1,by omega⟩;by_cases h2:2<=i
  . have hn:=List.getElem?_eq_getElem hi;obtain⟨g1,g2,g3,g4,g5,g6⟩:=h.node i _ h2 hn;rw[zV hn]at hl;simp only[evF,hn,g1,if_true];split
    . exact ih _ (by omega) (by omega) k' (by omega)
    exact ih _ (by omega) (by omega) k' (by omega)
  rw[Zo h b (by omega),Zo h b (by omega)]
def JC{d}(h:DagOk d)(b){i}(hi:i<2):evD d b i=(i==1):=Zo h b hi 20
def Yo{d}(h:DagOk d)(b):evD d b 0=false:=JC h b (by omega)
def qeN{d}(h:DagOk d)(b):evD d b 1=true:=JC h b (by omega)
def QS{d}(h:DagOk d)(b){i n}(h2:2<=i)(hn:d[i]?=some n):evD d b i=evD d b (if b n.1 then n.2.2 else n.2.1):=by
 obtain⟨g1,g2,g3,g4,g5,g6⟩:=h.node i n h2 hn;have hi:=(List.getElem?_eq_some_iff.1 hn).1;show evF d b 20 i=evF d b 20 _;rw[show evF d b 20 i=evF d b 19 (if b n.1 then n.2.2 else n.2.1) by simp[evF,hn,g1]];exact(qov h b 19 _ (by split<;>omega) (by split<;>omega) 20 (by omega)).symm
def Wm{d}(h:DagOk d){b c}:∀(k i),i<d.length->(∀l,lvD d i<=l->b l=c l)->evF d b k i=evF d c k i
 |0,_,_,_=>rfl
 | k+1,i,hi,hl=>by
  by_cases h2:2<=i
  . have hn:=List.getElem?_eq_getElem hi;obtain⟨g1,g2,g3,g4,g5,g6⟩:=h.node i _ h2 hn;rw[zV hn]at hl;simp only[evF,hn,g1,if_true];rw[hl _ (Nat.le_refl _)];split
    . exact Wm h k _ (by omega) fun l h1=>hl l (by omega)
    exact Wm h k _ (by omega) fun l h1=>hl l (by omega)
  rw[Zo h b (by omega),Zo h c (by omega)]
def Wn{d}(h:DagOk d){b c i}(hi:i<d.length)(hl:∀l,lvD d i<=l->b l=c l):evD d b i=evD d c i:=Wm h 20 i hi hl
def qsW{d}(h:DagOk d):∀(k i),i<d.length->i<=k->i≠0->∃b,evD d b i=true:=by
 intro k
 induction k with
 |zero=>intro i hi hk h0;omega
 | succ k ih=>
  intro i hi hk h0;by_cases h2:2<=i
  . have hn:=List.getElem?_eq_getElem hi;obtain⟨g1,g2,g3,g4,g5,g6⟩:=h.node i _ h2 hn;have go:∀(v:Bool) (j:Nat),j≠0->j<i->(d[i]).1<lvD d j->(if v then(d[i]).2.2 else(d[i]).2.1)=j->∃b,evD d b i=true:=by
     intro v j hj hji hlv hv;obtain⟨b,hb⟩:=ih j (by omega) (by omega) hj;refine⟨fun l=>if l=(d[i]).1 then v else b l,?_⟩;rw[QS h _ h2 hn];simp
     rwa[hv,Wn h (c:=b) (by omega) fun l hl=>if_neg (by omega)]
    by_cases hlo:(d[i]).2.1=0
    . exact go true (d[i]).2.2 (fun e=>g4 (by rw[hlo,e])) g3 g6 rfl
    exact go false (d[i]).2.1 hlo g2 g5 rfl
  have:i=1:=by omega
  subst this;exact⟨fun _=>false,qeN h _⟩
def ze(d d':List Nd):Prop:=∃x,d'=d++x
def ze.refl(d):ze d d:=⟨[],by simp⟩
def qFU:=@ze.refl
def ze.trans{a b c}(h:ze a b)(g:ze b c):ze a c:=by
 obtain⟨x,rfl⟩:=h;obtain⟨y,rfl⟩:=g;exact⟨x++y,by simp⟩
def ze.at{d d'}(h:ze d d'){i}(hi:i<d.length):d'[i]?=d[i]?:=by
 obtain⟨x,rfl⟩:=h;rw[List.getElem?_append_left hi]
def ze.len{d d'}(h:ze d d'):d.length<=d'.length:=by obtain⟨x,rfl⟩:=h;simp
def ze.lv{d d'}(h:ze d d'){i}(hi:i<d.length):lvD d' i=lvD d i:=by unfold lvD;rw[h.at hi]
def ze.evF{d d'}(hd:DagOk d)(h:ze d d')(b):∀(k i),i<d.length->Go.Abs.evF d' b k i=Go.Abs.evF d b k i
 |0,_,_=>rfl
 | k+1,i,hi=>by
  have hn:=List.getElem?_eq_getElem hi;have hn':=(h.at hi).trans hn;simp only[Go.Abs.evF,hn,hn'];by_cases h2:2<=i
  . obtain⟨g1,g2,g3,g4,g5,g6⟩:=hd.node i _ h2 hn;simp only[g1,if_true];split
    . exact ze.evF hd h b k _ (by omega)
    exact ze.evF hd h b k _ (by omega)
  have:i=0\/i=1:=by omega
  rcases this with rfl|rfl
  . have:=hd.n0;rw[hn]at this;rw[Option.some.inj this];rfl
  have:=hd.n1;rw[hn]at this;rw[Option.some.inj this];rfl
def ze.ev{d d'}(hd:DagOk d)(h:ze d d')(b){i}(hi:i<d.length):evD d' b i=evD d b i:=ze.evF hd h b 20 i hi
def qoI{d}(h:DagOk d){n}(hl:d.length<8192)(h1:n.1<20)(h2:n.2.1<d.length)(h3:n.2.2<d.length)(h4:n.2.1≠n.2.2)(h5:n.1<lvD d n.2.1)(h6:n.1<lvD d n.2.2)(hn:n∉d):DagOk (d++[n]):=by
 have hg:ze d (d++[n]):=⟨[n],rfl⟩;refine⟨by simp;have:=h.two;omega,by simp;omega,by rw[hg.at (by have:=h.two;omega)];exact h.n0,by rw[hg.at (by have:=h.two;omega)];exact h.n1,?_,?_⟩
 . intro i m hi hm;rw[List.getElem?_append]at hm;split at hm
   . rename_i hlt;obtain⟨g1,g2,g3,g4,g5,g6⟩:=h.node i m hi hm;exact⟨g1,g2,g3,g4,by rw[hg.lv (by omega)];exact g5,by rw[hg.lv (by omega)];exact g6⟩
   rename_i hlt;have:i=d.length:=by
    have:=(List.getElem?_eq_some_iff.1 hm).1;simp at this;omega
   subst this;simp at hm;subst hm;exact⟨h1,h2,h3,h4,by rw[hg.lv h2];exact h5,by rw[hg.lv h3];exact h6⟩
 exact List.nodup_append.2 ⟨h.nodup,by simp,fun x hx y hy e=>by simp at hy;subst hy;subst e;exact hn hx⟩
def yl(d:List Nd)(f level:Nat)(one:Bool):Nat:=match d[f]? with
 |some n=>if n.1=level then(if one then n.2.2 else n.2.1) else f
 |none=>f
def kj{d}(h:DagOk d){f L}(hf:f<d.length)(hL:L<20)(hle:L<=lvD d f)(v):
 yl d f L v<d.length/\L<lvD d (yl d f L v)/\∀b,b L=v->evD d b f=evD d b (yl d f L v):=by
 have hn:=List.getElem?_eq_getElem hf;unfold yl;rw[hn];rw[zV hn]at hle;simp only;by_cases hlv:(d[f]).1=L
 . have h2:2<=f:=by
    apply Classical.byContradiction;intro hc;have:f=0\/f=1:=by omega
    rcases this with rfl|rfl
    . have e:=h.n0;rw[hn]at e;rw[Option.some.inj e]at hlv;simp at hlv;omega
    have e:=h.n1;rw[hn]at e;rw[Option.some.inj e]at hlv;simp at hlv;omega
   obtain⟨g1,g2,g3,g4,g5,g6⟩:=h.node f _ h2 hn;rw[if_pos hlv];refine⟨by split<;>omega,by split<;>omega,fun b hb=>?_⟩;rw[QS h b h2 hn,hlv,hb]
 rw[if_neg hlv];refine⟨hf,by rw[zV hn];omega,fun b _=>rfl⟩
