import Derived.Test.YtdapogpjhljhaaaGreatDoorCs06
import Derived.Test.YtdapogpjhljhaaaGreatDoorCs07
set_option maxRecDepth 100000
set_option maxHeartbeats 16000000
set_option linter.all false
set_option linter.defProp false
namespace Go.Proofs.YtdapogpjhljhaaaGreatDoor
open Go Go.Abs Tryz
@[simp]def qU(n:Nd):List AV:=[.int .i64 n.1,.int .i64 n.2.1,.int .i64 n.2.2]
@[simp]def qAP(l:List Nd):qM (l.map qU)=true:=zj (fun x=>by simp) l
@[simp]def z6(d:List Nd):List AV:=[.sl 3 (d.map qU) .none]
def ndE(q:Nd×AV×Nat):AV×AV×Nat:=(.agg (qU q.1),q.2.1,q.2.2)
def qkW(a b):Zg (.agg (qU a)) (.agg (qU b))=some (decide (a=b)):=by
 obtain⟨e,c,d⟩:=a;obtain⟨b1,b2,b3⟩:=b;simp only[Zg,qU,jk,wc,if_true];congr 1;rw[qCo];simp;omega
def qlk(n):zI (Dof prog) 207 (.agg (qU n))=true:=by
 simp[zI,Ww,kz,qP,z9,qCL]
def JI{n}:∀(E:List (Nd×AV×Nat)) (s),(∀q∈E,q.1≠n)->jQ (.agg (qU n)) (E.map ndE) s=some none
 |[],_,_=>rfl
 | q::E,s,h=>by
  have h0:=h q (by simp);simp only[qBz,ndE,jQ,qkW];have:decide (n=q.1)=false:=by simpa using fun e=>h0 e.symm
  rw[this];exact JI E (s+1) fun x a=>h x (by simp[a])
def qa0{n}:∀(E:List (Nd×AV×Nat)) (s),(E.map (·.1)).Nodup->∀q∈E,q.1=n->∃j,jQ (.agg (qU n)) (E.map ndE) s=some (some (s+j,q.2.1))/\E[j]?=some q
 |[],_,_,q,a,_=>by cases a
 | e::E,s,c,q,a,b=>by
  simp only[qBz,qC7]at c;simp only[qBz,ndE,jQ,qkW];by_cases h0:n=e.1
  . have:decide (n=e.1)=true:=by simpa using h0
    rw[this];rcases qBN.1 a with rfl|a
    . exact⟨0,by simp,by simp⟩
    exact absurd (qBH.2 ⟨q,a,by rw[b,h0]⟩) c.1
  have:decide (n=e.1)=false:=by simpa using h0
  rw[this];rcases qBN.1 a with rfl|a
  . exact absurd b.symm h0
  obtain⟨j,h1,h2⟩:=qa0 E (s+1) c.2 q a b;exact⟨j+1,by simp only[h1];congr 3;omega,by simpa using h2⟩
def qqa:Pure prog GG 134 [] (.agg (z6 [(20,0,0),(20,1,1)])):=by
 refine qFD func134 ?_;simp[qV,zt,qx,qe,qp]
def qzn(a b):qbh (Dof prog) 207 (qU a) (qU b)=some (decide (a=b)):=by
 have:=qkW a b;simp only[Zg]at this;simp[qbh,Ww,kz,qP,z9,qCL];simpa using this
def qoU(l)(j:Fits l):Pure prog GG 326 [.sl 3 (l.map qU) .none,.sl 3 (l.map qU) .none] (.bool true):=by
 refine qFD func326 ?_;simp;refine qFW l (fun d ev σ=>ev 0=.sl 3 (l.map qU) .none/\ev 1=.sl 3 (l.map qU) .none/\ev 12=.int .i64 l.length/\ev 13=.int .i64 d.length) ?_ ?_ ?_
 . simp
 . rintro d n rest ev σ R i hd g h ⟨e,b,a,c⟩;have f:=qzn n n;simp only[qU]at f;simp[-getElem?_pos,e,b,a,c,h,g,f,show IntKind.i64.wrap ((d.length:Int)+1)=(d.length+1:Nat) by rw[wr];omega];exact i _ _ ⟨by simp[e],by simp[b],by simp[a],by simp⟩
 rintro ev σ ⟨e,b,a,c⟩;simp[a,c]
def qs2(d)(h:DagOk d):Pure prog GG 287 [.sl 3 (d.map qU) .none] (.bool true):=by
 refine qFD func287 ?_;have e:d.take 2=[(20,0,0),(20,1,1)]:=by
  have a:=h.n0;have b:=h.n1
  match d,a,b with
  |[],a,_=>cases a
  |[_],_,b=>cases b
  |x::y::r,a,b=>simp at a b;subst a b;rfl
 have c:=qoU [(20,0,0),(20,1,1)] (by simp);simp[show(2:Int)<=d.length by have:=h.two;omega,show(d.length:Int)<=8192 by have:=h.most;omega,zm,zM,yp,zH,<- List.map_take,e];refine qFG qqa ?_ rfl;simp;refine qFG c ?_ rfl;simp
def qkk(d)(h:DagOk d)(i)(hi:2<=i)(t:i<d.length):Pure prog GG 288 [.sl 3 (d.map qU) .none,.int .i64 i] (.bool true):=by
 obtain⟨n,e⟩:∃n,d[i]?=some n:=⟨_,qBm t⟩;obtain⟨z,w,u,v,o,s⟩:=h.node i n hi e;obtain⟨x,f⟩:∃x,d[n.2.1]?=some x:=⟨_,qBm (by omega)⟩;obtain⟨y,g⟩:∃y,d[n.2.2]?=some y:=⟨_,qBm (by omega)⟩;rw[jU f]at o;rw[jU g]at s;refine qFD func288 ?_;have m:(n.1:Int)<20:=by omega
 have l:(n.2.1:Int)<i:=by omega
 have j:(n.2.2:Int)<i:=by omega
 have r:¬(n.2.1:Int)=n.2.2:=by omega
 obtain⟨a,b,c⟩:=n;simp only at *;simp[e,m,l,j,r,f,g,vR];split<;>omega
def ZY(d:List Nd):List (Nd×AV×Nat):=(d.zipIdx).map fun q=>(q.1,.bool true,q.2)
def qhJ(d n):ZY (d++[n])=ZY d++[(n,.bool true,d.length)]:=by
 simp[ZY,qDB]
def qjP(d):(ZY d).map (·.1)=d:=by simp[ZY,qCN,Function.comp_def]
def qjO{d n}(h:n∉d):∀q∈ZY d,q.1≠n:=fun q a e=>h (by
 have:q.1∈(ZY d).map (·.1):=qBH.2 ⟨q,a,rfl⟩;rw[qjP]at this;exact e▸this)
def qdt(d)(h:DagOk d):Pure prog GG 231 [.agg (z6 d)] (.bool true):=by
 have G:=h.most;refine qFD func231 ?_;simp;refine qFG (qs2 d h) ?_;simp;refine qFW d (fun s ev σ=>ev 1=.ptr 0 0/\ev 3=.map 1/\ev 12=.sl 3 (d.map qU) .none/\ev 13=.int .i64 d.length/\ev 14=.int .i64 s.length/\∃t,σ=⟨.cells (z6 d)::.map ((ZY s).map ndE) s.length::t,[]⟩) ?_ ?_ ?_
 . exact⟨by simp,by simp,by simp,by simp,by simp,[],by simp[ZY]⟩
 . rintro s n rest ev σ R F hd v l ⟨g,c,e,b,f,t,rfl⟩;have r:IntKind.i64.wrap ((s.length:Int)+1)=(s.length+1:Nat):=(by rw[wr];omega);have y:n∉s:=by
    have:=h.nodup;rw[hd]at this;intro B;exact(qCX.1 this).2.2 n B n (by simp) rfl
   have x:=JI (n:=n) (ZY s) 0 (qjO y);have w:=qlk n;have m:∀(T:List (Option Nat)) (u:List Blk),zF (Dof prog) ⟨.cells (z6 d)::.map ((ZY s).map ndE) s.length::u,T⟩ 304 (.map 1) (.agg (qU n)) false=some (.bool false):=by
    intro T u;simp only[zF,qAf,w,if_true];simp[-qU,x,qbN]
   have i:∀(T:List (Option Nat)) (u:List Blk),zq (Dof prog) ⟨.cells (z6 d)::.map ((ZY s).map ndE) s.length::u,T⟩ 304 (.map 1) (.agg (qU n)) (.bool true)=some ⟨.cells (z6 d)::.map ((ZY (s++[n])).map ndE) (s.length+1)::u,T⟩:=by
    intro T u;simp only[zq,qAf,w,if_true];simp[-qU,x,qhJ,ndE]
   simp only[qU]at m i;have j:∀(a:Env) (u:List Blk),a 1=.ptr 0 0->a 3=.map 1->a 12=.sl 3 (d.map qU) .none->a 13=.int .i64 d.length->a 14=.int .i64 (s.length+1:Nat)->R a ⟨.cells (z6 d)::.map ((ZY (s++[n])).map ndE) (s.length+1)::u,[]⟩ :=
    fun a u A D z E C=>F _ _ ⟨A,D,z,E,by simpa using C,u,by simp⟩
   simp only[z6]at m i j;by_cases h2:2<=s.length
   . have o:(2:Int)<=s.length:=(by omega);simp[-getElem?_pos,g,e,b,f,l,v,o];refine qFG (qkk d h s.length h2 l) ?_;simp[-getElem?_pos,c,f,m,i,r];exact j _ _ (by simp[g]) (by simp[c]) (by simp[e]) (by simp[b]) (by simp)
   have o:¬(2:Int)<=s.length:=(by omega);simp[-getElem?_pos,c,e,b,f,l,v,o,i,r];exact j _ _ (by simp[g]) (by simp[c]) (by simp[e]) (by simp[b]) (by simp)
 rintro ev σ ⟨g,c,e,b,f,t,rfl⟩;simp[b,f]
def qie(n):Pure prog GG 347 [.int .i64 n] (.bool (decide (0<=n)&&decide (n<20))):=by
 refine qFD func347 ?_;by_cases h:0<=n<;>simp[h]
def qqk(d)(h:DagOk d)(l:List Nat)(o:l.length<=100)(hi:∀i∈l,i<d.length)(tok:Tok):Pure prog GG 247 [.agg (z6 d),.sl 1 (l.map fun i:Nat=>[.int .i64 i]) .none] (.bool true):=by
 refine qFD func247 ?_;simp;refine qFG (qdt d h) ?_;simp;refine qFW l (fun s ev σ=>ev 1=.sl 1 (l.map fun i:Nat=>[.int .i64 i]) .none/\ev 2=.ptr 0 0/\ev 10=.sl 1 (l.map fun i:Nat=>[.int .i64 i]) .none/\ev 11=.int .i64 l.length/\ev 12=.int .i64 s.length/\σ=⟨[.cells (z6 d)],[]⟩) ?_ ?_ ?_
 . simp
 . rintro s i rest ev σ R m hd g j ⟨f,b,e,a,c,rfl⟩;have h1:=hi i (qBl g);simp[-getElem?_pos,b,e,a,c,j,g,h1,show IntKind.i64.wrap ((s.length:Int)+1)=(s.length+1:Nat) by rw[wr];omega];exact m _ _ ⟨by simp[f],by simp[b],by simp[e],by simp[a],by simp⟩
 rintro ev σ ⟨f,b,e,a,c,rfl⟩;simp[a,c]
def qt2(d:List Nd)(full:Bool):AV:=.rptr [.sl 3 (d.map qU) .none,.any,.bool full]
def JO(d:List Nd)(full one:Bool)(f L:Nat)(g:f<d.length):Pure prog GG 303 [qt2 d full,.int .i64 f,.int .i64 L,.bool one] (.int .i64 (vT d f L one:Nat)):=by
 obtain⟨n,b⟩:∃n,d[f]?=some n:=⟨_,qBm g⟩;refine qFD func303 ?_;generalize a:vT d f L one=r;unfold vT at a;rw[b]at a;simp only at a;by_cases c:n.1=L
 . rw[if_pos c]at a;have e:(n.1:Int)=L:=(by omega);cases one
   . simp at a;subst a;simp[qt2,b,e]
   simp at a;subst a;simp[qt2,b,e]
 rw[if_neg c]at a;subst a;simp[qt2,b,show ¬(n.1:Int)=L by omega]
def KpL(bs:List Nat)(H H':List Blk):Prop:=H.length<=H'.length/\∀(k) (x),H[k]?=some x->k∉bs->H'[k]?=some x
def KpL.refl{bs H}:KpL bs H H:=⟨qBs _,fun _ _ h _=>h⟩
def qGd:=@KpL.refl
def KpL.trans{bs H H' a}(h:KpL bs H H')(h':KpL bs H' a):KpL bs H a:=⟨qCq h.1 h'.1,fun k x b h1=>h'.2 k x (h.2 k x b h1) h1⟩
def KpL.app{bs H t}:KpL bs H (H++t):=⟨by simp,fun k x a _=>qa a t⟩
def qGe:=@KpL.app
def KpL.set{bs H b y}(hb:b∈bs):KpL bs H (H.set b y):=⟨by simp,fun k x a c=>by
 rw[qBn (by rintro rfl;exact c hb)];exact a⟩
def qGf:=@KpL.set
def KpL.sub{bs cs H H'}(h:KpL bs H H')(c:∀b∈bs,b∈cs):KpL cs H H':=⟨h.1,fun k x a d=>h.2 k x a fun hb=>d (c k hb)⟩
def KpL.setF{bs H H' b y}(h:KpL bs H H')(hb:H.length<=b):KpL bs H (H'.set b y):=⟨by rw[qCO];exact h.1,fun k x a c=>by
 have:=(qBk.1 a).1;rw[qBn (by omega)];exact h.2 k x a c⟩
def atE(d:List Nd):List (Nd×AV×Nat):=d.zipIdx.map fun q=>(q.1,.int .i64 q.2,q.2)
structure BR(B M t:Nat)(d:List Nd)(full:Bool)(σ:St):Prop where
 b:σ.H[B]?=some (.cells [.sl 3 (d.map qU) (.chain t d.length),.map M,.bool full])
 m:σ.H[M]?=some (.map ((atE d).map ndE) d.length)
 t:σ.T[t]?=some (some d.length)
def BR.ne{B M t d full σ}(h:BR B M t d full σ):B≠M:=by
 rintro rfl;have:=h.b;rw[h.m]at this;cases this
def ql8(d):(atE d).map (·.1)=d:=by simp[atE,qCN,Function.comp_def]
def qgZ(d n):atE (d++[n])=atE d++[(n,.int .i64 d.length,d.length)]:=by
 simp[atE,qDB]
def ql7{d n}(h:n∉d):∀q∈atE d,q.1≠n:=fun q a e=>h (by
 have:q.1∈(atE d).map (·.1):=qBH.2 ⟨q,a,rfl⟩;rw[ql8]at this;exact e▸this)
def qtj{d:List Nd}{n:Nd}{i:Nat}(h:d[i]?=some n):(n,AV.int .i64 i,i)∈atE d:=by
 refine qBH.2 ⟨(n,i),?_,rfl⟩;exact List.mem_zipIdx_iff_getElem?.2 h
def qnl:∀(k:Nat) (e:Ex),(∀x∈pre e,Fits x.args)->k<=100->Pure prog GG 33 [.agg (qo e),.int .i64 k] (.bool (yE e k)):=by
 intro k
 induction k with
 | zero=>
  intro e w _;refine qFD func33 ?_;simp only[qd e];simp[yE]
 | succ k ih=>
  intro e o y;refine qFD func33 ?_;simp only[qd e];by_cases i:e.args.length<=40
  . have g:¬(40:Int)<e.args.length:=(by omega);simp[-Int.natCast_add,g];rw[<- qd e];obtain⟨r,c⟩:∃r,r=yE e (k+1):=⟨_,rfl⟩;rw[<- c];refine qFK e.args (fun d env σ=>env 1=.int .i64 (k+1:Nat)/\env 2=.ptr 0 0/\env 5=.int .i64 d.length/\σ=⟨[.cells (qo e)],[]⟩/\(d.all fun a=>yE a k)=true) ?_ ?_ ?_
    . simp
    . rintro d v s env σ hd l t ⟨h1,h2,b,rfl,f⟩;have u:=wr (n:=(d.length:Int)+1);simp[-getElem?_pos,-Int.natCast_add,h1,h2,b,qd e,t,l,qd v,show IntKind.i64.wrap (((k+1:Nat):Int)-1)=k by rw[show((k+1:Nat):Int)-1=k by omega];exact wr];rw[<- qd v];have j:=qBl l;refine qFG (G:=qW GG) (ih v (fun x m=>o x (by rw[jv];exact qCE _ (QS.2 ⟨v,j,m⟩))) (by omega)) ?_;cases hs:yE v k
      . have:r=false:=by
         rw[c,qCs];intro h;simp only[yE,qBq,qBx]at h;have:=h.2 v j;rw[hs]at this;cases this
        simp[-Int.natCast_add,unA,this]
      simp[-Int.natCast_add,h1,h2,b,unA,u];simpa using f
    rintro env σ ⟨h1,h2,b,rfl,f⟩;have:r=true:=by rw[c];simp only[yE,f,qCR,decide_eq_true_eq];exact i
    simp[-Int.natCast_add,h2,b,qd e,this]
  have g:(40:Int)<e.args.length:=by omega
  simp[-Int.natCast_add,g,yE,i]
def vy(w:Int):List Int:=(List.range (2^w.toNat)).map fun n:Nat=>(n:Int)
def Qo(w):(vy w).length=2^w.toNat:=by simp[vy]
def Ja{w d r v}(h:vy w=d++v::r):v=d.length:=by
 have h1:(vy w)[d.length]?=some v:=by rw[h];simp
 unfold vy at h1;rw[qBO]at h1;obtain⟨m,a,e⟩:=qBu.1 h1;obtain⟨_,a⟩:=qBk.1 a;simp at a;omega
def yo{w:Int}(h0:0<=w)(h1:w<=28):IntKind.i64.wrap (2^(min w.toNat 64))=((2^w.toNat:Nat):Int):=by
 have a:(2:Nat)^w.toNat<=2^28:=qBF (by omega) (by omega);rw[show min w.toNat 64=w.toNat by omega,show((2:Int)^w.toNat)=((2^w.toNat:Nat):Int) by simp];generalize 2^w.toNat=N at a;exact wr
def qtm(s n)(a:s.length<2^30):qm (Dof prog) ⟨[],jP [] s⟩ 36 (wN 1 qf 0 s) (.sl 1 [[.int .i64 n]] .tight)=some (wN 1 qf 0 (s++[n]),⟨[],jP [] (s++[n])⟩) :=
 yg (D:=Dof prog) (sz:=1) (T:=[]) (H:=[]) (m:=[n]) (en:=qf) D36 rfl D3 rfl (by decide) rfl (by decide) (by simp only[qBR];omega) 1 (.inl rfl)
def vC{α:Type}(p:α->Bool)(d:List α)(v:α):(d++[v]).filter p=if p v then d.filter p++[v] else d.filter p:=by
 rw[qEg];cases h:p v<;>simp[h]
def wX(l:List Int)(n:Int):Bool:=!(l.any (n == ·))
def UnJ(N:Nat)(l d:List Int)(env:Env)(σ:St):Prop :=
 env 1=.sl 1 (l.map qf) .none/\env 5=wN 1 qf 0 (d.filter (wX l))/\env 8=.int .i64 N/\env 9=.int .i64 d.length/\σ=⟨[],jP [] (d.filter (wX l))⟩
def qfy(w)(h0:0<=w)(h1:w<=28)(l)(y:Fits l):Pure prog GG 25 [.int .i64 w,.sl 1 (l.map qf) .none] (.sl 1 ((jM w l).map qf) .none):=by
 refine qFD func25 ?_;have s:(2:Nat)^w.toNat<=2^28:=qBF (by omega) (by omega);have j:=yo h0 h1;have g:=Qo w;have o:jM w l=(vy w).filter (wX l):=rfl;rw[o];have i:∀{d r:List Int} {v:Int},vy w=d++v::r->v=d.length:=Ja;generalize A:2^w.toNat=N at s j g;simp[show ¬w<0 by omega,IntKind.bits,j];generalize vy w=nums at g i;refine qFK nums (UnJ N l) ?_ ?_ ?_
 . simp[UnJ]
 . rintro d v r env σ hd B z ⟨e,f,c,a,rfl⟩;have u:=i hd;subst u;have m:=wr (n:=(d.length:Int)+1);simp[e,c,a,show d.length<N by omega];refine qFG (G:=qW GG) (vH GG l d.length y) ?_;have b:=vC (wX l) d (d.length:Int);have t:(d.filter (wX l)).length<2^30:=qC3 (qCP _ _) (by omega);cases hc:l.any fun x=>(d.length:Int)==x
   . have h:wX l d.length=true:=(by unfold wX;rw[hc];rfl);rw[if_pos h]at b;simp[f,a,unA,qtm _ _ t,m];simp[UnJ,b,e,c]
   have h:wX l d.length=false:=(by unfold wX;rw[hc];rfl);rw[h]at b;simp only[qBP,if_false]at b;simp[a,unA,m];simp[UnJ,b,e,f,c]
 rintro env σ ⟨e,f,c,a,rfl⟩;rw[g]at a;simp[-fin,-kw,-w9,f,c,a]
def qql(l n)(o:Fits l):Pure prog GG 59 [.sl 1 (l.map qf) .none,.int .i64 n] (.bool (l.any (n == ·))):=by
 refine qFD func59 ?_;simp[-getElem?_pos];obtain⟨r,c⟩:∃r,r=l.any (n == ·):=⟨_,rfl⟩;rw[<- c];refine qFK l (fun d env σ=>env 0=.sl 1 (l.map qf) .none/\env 1=.int .i64 n/\env 5=.int .i64 d.length/\σ=⟨[],[]⟩/\(d.any (n == ·))=false) ?_ ?_ ?_
 . simp
 . rintro d v s env σ hd g i ⟨a,e,b,rfl,h⟩;have m:=wr (n:=(d.length:Int)+1);have j:=qBl g;by_cases f:v=n
   . have:r=true:=by rw[c,qBM];exact⟨v,j,by simp[f]⟩
     simp[-getElem?_pos,a,e,b,i,g,f,this]
   have h2:(n==v)=false:=(by simp;omega);simp[-getElem?_pos,a,e,b,i,g,f,m];exact⟨by simpa using h,by omega⟩
 rintro env σ ⟨a,e,b,rfl,h⟩;have:r=false:=by rwa[c]
 simp[-getElem?_pos,a,b,this]
def qry{w}(h0:0<=w)(h1:w<=28):IntKind.u64.wrap w=w:=by
 unfold IntKind.wrap;simp[IntKind.bits,IntKind.signed];omega
def qmu(w:Int)(l d:List Int)(p:Int->Bool)(env:Env)(σ:St):Prop :=
 env 0=.sl 1 (l.map qf) .none/\env 1=.int .i64 w/\env 5=wN 1 qf 0 (d.filter p)/\env 6=.int .i64 d.length/\σ=⟨[],jP [] (d.filter p)⟩
def quU(w)(h0:0<=w)(h1:w<=28)(l)(C:Fits l):Pure prog GG 31 [.sl 1 (l.map qf) .none,.int .i64 w] (.sl 1 ((qny w l).map qf) .none):=by
 refine qFD func31 ?_;have E:(2:Nat)^w.toNat<=2^28:=qBF (by omega) (by omega);have m:=yo h0 h1;have o:=qry h0 h1;have t:¬w<0:=by omega
 have u:=Qo w;obtain⟨p,g⟩:∃p:Int->Bool,p=fun n=>decide (l.length=2^w.toNat)||!(l.any (n == ·)):=⟨_,rfl⟩
 rw[show qny w l=(vy w).filter p by rw[g];rfl];have z:∀{d r:List Int} {v:Int},vy w=d++v::r->v=d.length:=Ja;generalize I:2^w.toNat=N at E m u g;generalize vy w=nums at u z;simp;refine qFK nums (fun d=>qmu w l d p) ?_ ?_ ?_
 . simp[qmu]
 . rintro d v r env σ hd J F ⟨f,a,e,c,rfl⟩;have B:=z hd;subst B;have y:d.length<N:=(by omega);have s:=wr (n:=(d.length:Int)+1);have b:=vC p d (d.length:Int);have A:(d.filter p).length<2^30:=qC3 (qCP _ _) (by omega);by_cases j:l.length=N
   . have i:p d.length=true:=(by rw[g];simp[j]);rw[if_pos i]at b;simp[f,a,e,c,y,t,IntKind.bits,m,o,ye,j,qtm _ _ A,s];simp[qmu,b,f,a]
   have D:¬(l.length:Int)=N:=(by omega);simp[f,a,e,c,y,t,IntKind.bits,m,o,ye];refine⟨fun _=>?_,fun h=>absurd h D⟩;refine qFG (G:=qW GG) (qql l d.length C) ?_;cases hc:l.any fun x=>(d.length:Int)==x
   . have i:p d.length=true:=(by rw[g];simp[j];simpa using hc);rw[if_pos i]at b;simp[e,c,unA,qtm _ _ A,s];simp[qmu,b,f,a]
   have i:p d.length=false:=(by rw[g];simp only[j,decide_false,qDQ,hc,qD5]);rw[i]at b;simp only[qBP,if_false]at b;simp[c,unA,s];simp[qmu,b,f,a,e]
 rintro env σ ⟨f,a,e,c,rfl⟩;rw[u]at c;simp[-fin,-kw,-w9,a,e,c,t,IntKind.bits,m,o,ye]
@[simp]def jp(c:List (List Int)):List AV:=[.sl 1 (c.map qn) .none]
def YX{w l}:okL w l=true↔∀k n,l[k]?=some n->okN w (l.take k) n=true:=by
 simp only[okL,qBx,qCe];constructor
 . intro h k n e;have a:=(qBk.1 e).1;have:=h k a
   rwa[qBw,e]at this
 intro h k a;have:=h k l[k] (qBm a)
 rwa[qBw,qBm a]
def QZ{vs}{c:List (List Int)}(b:c.length=vs.length):yt vs c=true↔∀(k:Nat) (v:Var) (l:List Int),vs[k]?=some v->c[k]?=some l->okV v l=true:=by
 simp only[yt,b,decide_true,qCC,qBx];constructor
 . intro h k v l h1 h2;exact h (v,l) (qBl (i:=k) (by rw[qCA];exact⟨h1,h2⟩))
 rintro h ⟨v,l⟩ d;obtain⟨k,a⟩:=qB1 d;rw[qCA]at a;exact h k v l a.1 a.2
def qxZ(p:Problem)(c:List (List Int))(n:Nat)(env:Env)(σ:St):Prop :=
 env 2=.ptr 0 0/\env 3=.ptr 1 0/\env 18=.sl 1 (c.map qn) .none/\env 19=.int .i64 c.length/\env 20=.int .i64 n/\∃H,σ=⟨H,[]⟩/\H[0]?=some (.cells (qw p))/\H[1]?=some (.cells (jp c))
def qlj(p c)(hv:Fits p.vars)(hc:Fits c)(a6:∀l∈c,Fits l)(hw:∀v∈p.vars,0<=v.width/\v.width<=28):
 Pure prog GG 20 [.agg (qw p),.agg (jp c)] (.bool (yt p.vars c)):=by
 refine qFD func20 ?_;by_cases U:c.length=p.vars.length
 case neg=>
  have h1:¬(c.length:Int)=p.vars.length:=by omega
  have h2:yt p.vars c=false:=by simp[yt,U]
  simp[-getElem?_pos,h1,h2]
 have a0:(c.length:Int)=p.vars.length:=by omega
 simp[-getElem?_pos,a0];rw[<- a0];obtain⟨r,T⟩:∃r,r=yt p.vars c:=⟨_,rfl⟩;rw[<- T];refine qFK c (fun d env σ=>qxZ p c d.length env σ/\∀(k:Nat) (v:Var) (l:List Int),k<d.length->p.vars[k]?=some v->c[k]?=some l->okV v l=true) ?_ ?_ ?_
 . simp[qxZ]
 . rintro d l s env σ hd u O ⟨⟨m,N,t,i,j,H,rfl,H0,L⟩,P⟩;obtain⟨v,o⟩:∃v,p.vars[d.length]?=some v:=⟨_,qBm (by omega)⟩;have a7:=qBl o;have Z:=hw v a7;have b2:=qBl u;have b1:=a6 l b2;have a3:=wr (n:=(d.length:Int)+1);have a1:okV v l=false->r=false:=by
    intro h;rw[T,qCs];intro h2;have:=(QZ U).1 h2 _ v l o u;rw[h]at this;cases this
   by_cases a:v.mode=2\/l=[]
   case neg=>
    have a5:¬v.mode=2:=fun h=>a (.inl h)
    have b7:(0:Int)<l.length:=(by have:l≠[]:=fun h=>a (.inr h);have:=qBA.2 this;omega);have hb:=a1 (by simp only[okV,qEr,qD3];left;exact⟨by simpa using a5,by simpa using fun h=>a (.inr h)⟩);simp[-getElem?_pos,m,t,i,j,H0,O,u,o,a5,hb,show ¬l=[] from fun h=>a (.inr h)]
   have b8:=(qBk.1 L).1;have a2:okL v.width l=true->okV v l=true:=by
    intro h;unfold okV;rcases a with a|a<;>simp[a,h]
    rwa[a]at h
   have X:okV v l=true->∀(k:Nat) (v:Var) (l:List Int),k<d.length+1->p.vars[k]?=some v->c[k]?=some l->okV v l=true:=by
    intro h k v' l' K h1 h2;by_cases b4:k<d.length
    . exact P k v' l' b4 h1 h2
    obtain rfl:k=d.length:=by omega
    rw[o]at h1;rw[u]at h2;cases h1;cases h2;exact h
   by_cases h2:v.mode=2
   . simp[-getElem?_pos,m,t,i,j,H0,O,u,o,h2];have hs:=yo Z.1 Z.2;have hp:(2:Nat)^v.width.toNat<=2^28:=qBF (by omega) (by omega);have a4:¬v.width<0:=(by omega);refine qFK l (fun e env τ=>qxZ p c d.length env τ/\env 6=.sl 1 (l.map qf) .none/\env 38=.sl 1 (l.map qf) .none/\env 39=.int .i64 l.length/\env 40=.int .i64 e.length/\(∃b,env 7=.ptr b 0/\1<b/\τ.H[b]?=some (.cells (qu v)))/\∀k n,k<e.length->l[k]?=some n->okN v.width (l.take k) n=true) ?_ ?_ ?_
     . refine⟨⟨by simpa using m,by simpa using N,by simpa using t,by simpa using i,by simpa using j,_,rfl,?_,?_⟩,by simp,by simp,by simp,by simp,⟨H.length,by simp,by omega,?_⟩,by simp⟩
       . rw[qBv (by omega)];exact H0
       . rw[qBv (by omega)];exact L
       . simp[h2]
     . rintro e n s' env τ W I J ⟨⟨D,z,C,F,E,H',rfl,B,A⟩,V,y,f,g,⟨b,M,Y,hb⟩,K⟩;have b0:=wr (n:=(e.length:Int)+1);simp only at hb;have R:okN v.width (l.take e.length) n=false->r=false:=by
        intro h;refine a1 ?_;rw[qCs];intro h3;have h4:okL v.width l=true:=by
         simp only[okV,qBq]at h3;exact h3.2
        have:=YX.1 h4 _ _ I;rw[h]at this;cases this
       by_cases n0:n<0
       . have w:=R (by simp[okN];omega);simp[-getElem?_pos,y,f,g,J,I,n0,w]
       by_cases n1:n<2^v.width.toNat
       case neg=>
        have b5:((2^v.width.toNat:Nat):Int)<=n:=(by simp only[Int.natCast_pow,Int.cast_ofNat_Int];omega);have w:=R (by simp[okN,n1]);simp[-getElem?_pos,-Int.natCast_pow,M,y,f,g,J,I,hb,n0,w,a4,IntKind.bits,hs,b5]
       simp[-getElem?_pos,-Int.natCast_pow,V,M,y,f,g,J,I,hb,n0,a4,IntKind.bits,hs,show ¬((2^v.width.toNat:Nat):Int)<=n by simp only[Int.natCast_pow,Int.cast_ofNat_Int];omega,zm,zM,yp,zH,qEV (Int.ofNat_lt.2 J)];rw[<- List.map_take];refine qFG (G:=qW GG) (vH GG (l.take e.length) n (qC3 (List.length_take_le' _ _) b1)) ?_ (by simp[-List.map_take,qr,qE]);cases hany:(l.take e.length).any fun x=>n==x
       . have a8:okN v.width (l.take e.length) n=true:=(by simp only[okN,hany,qEy,qCR,n1,decide_true];simpa using n0);simp[-Int.natCast_pow,V,M,y,f,g,b0];refine⟨⟨by simpa using D,by simpa using z,by simpa using C,by simpa using F,by simpa using E,H',rfl,B,A⟩,⟨Y,by simpa using hb⟩,fun k n' b6 Q=>?_⟩;by_cases a9:k<e.length
         . exact K k n' a9 Q
         obtain rfl:k=e.length:=by omega
         rw[I]at Q;cases Q;exact a8
       have w:=R (by simp only[okN,hany,qD5,qDz]);simp[-Int.natCast_pow,w]
     rintro env τ ⟨⟨D,z,C,F,E,H',rfl,B,A⟩,V,y,f,g,⟨b,M,Y,hb⟩,K⟩;have S:=X (a2 (YX.2 fun k n e=>K k n (qBk.1 e).1 e));simp[E,f,g,a3];exact⟨⟨by simpa using D,by simpa using z,by simpa using C,by simpa using F,by simp,H',rfl,B,A⟩,S⟩
   obtain rfl:=(fun h=>a.resolve_left h) h2;simp[-getElem?_pos,m,t,i,j,H0,O,u,o,h2];refine qFK ([]:List Int) (fun e env τ=>qxZ p c d.length env τ/\env 39=.int .i64 0/\env 40=.int .i64 0) ?_ ?_ ?_
   . refine⟨⟨by simpa using m,by simpa using N,by simpa using t,by simpa using i,by simpa using j,_,rfl,?_,?_⟩,by simp⟩
     . rw[qBv (by omega)];exact H0
     . rw[qBv (by omega)];exact L
   . rintro e n s' env τ W;simp at W
   rintro env τ ⟨⟨D,z,C,F,E,H',rfl,B,A⟩,f,g⟩;have S:=X (a2 (by simp[okL]));simp[E,f,g,a3];exact⟨⟨by simpa using D,by simpa using z,by simpa using C,by simpa using F,by simp,H',rfl,B,A⟩,S⟩
 rintro env σ ⟨⟨m,N,t,i,j,H,rfl,H0,L⟩,P⟩;have:r=true:=by
  rw[T];exact(QZ U).2 fun k v l h1 h2=>P k v l (qBk.1 h2).1 h1 h2
 simp[-getElem?_pos,i,j,this]
def qxY(p:Problem)(c:List (List Int))(n:Nat)(env:Env)(σ:St):Prop :=
 env 2=.ptr 0 0/\env 3=.ptr 1 0/\env 5=.int .i64 n/\σ=⟨[.cells (qw p),.cells (jp c)],[]⟩
def qvO(p c)(hv:Fits p.vars)(hc:Fits c)(Y:∀l∈c,Fits l)(hw:∀v∈p.vars,0<=v.width/\v.width<=28):
 Pure prog GG 27 [.agg (qw p),.agg (jp c)] (.bool (yt p.vars c)):=by
 refine qFD func27 ?_;by_cases L:c.length=p.vars.length
 case neg=>
  have h1:¬(c.length:Int)=p.vars.length:=by omega
  have h2:yt p.vars c=false:=by simp[yt,L]
  simp[-getElem?_pos,h1,h2]
 have R:(c.length:Int)=p.vars.length:=by omega
 simp[-getElem?_pos,R];obtain⟨r,K⟩:∃r,r=yt p.vars c:=⟨_,rfl⟩;rw[<- K];refine qFK c (fun d env σ=>qxY p c d.length env σ/\∀(k:Nat) (v:Var) (l:List Int),k<d.length->p.vars[k]?=some v->c[k]?=some l->okV v l=true) ?_ ?_ ?_
 . simp[qxY]
 . rintro d l s env σ hd u a8 ⟨⟨i,t,m,rfl⟩,E⟩;have D:d.length<p.vars.length:=(by omega);obtain⟨v,b⟩:∃v,p.vars[d.length]?=some v:=⟨_,qBm D⟩;have a0:=qBl b;have C:=hw v a0;have a5:=qBl u;have a4:=Y l a5;have U:=wr (n:=(d.length:Int)+1);have S:okV v l=false->r=false:=by
    intro h;rw[K,qCs];intro h2;have:=(QZ L).1 h2 _ v l b u;rw[h]at this;cases this
   by_cases a:v.mode=2\/l=[]
   case neg=>
    have W:¬v.mode=2:=fun h=>a (.inl h)
    have b0:(0:Int)<l.length:=(by have:l≠[]:=fun h=>a (.inr h);have:=qBA.2 this;omega);have hb:=S (by simp only[okV,qEr,qD3];left;exact⟨by simpa using W,by simpa using fun h=>a (.inr h)⟩);simp[-getElem?_pos,i,t,m,D,u,b,W,hb,show ¬l=[] from fun h=>a (.inr h)]
   have T:okL v.width l=true->okV v l=true:=by
    intro h;unfold okV;rcases a with a|a<;>simp[a,h]
    rwa[a]at h
   have N:okV v l=true->∀(k:Nat) (v:Var) (l:List Int),k<d.length+1->p.vars[k]?=some v->c[k]?=some l->okV v l=true:=by
    intro h k v' l' B h1 h2;by_cases a6:k<d.length
    . exact E k v' l' a6 h1 h2
    obtain rfl:k=d.length:=by omega
    rw[b]at h1;rw[u]at h2;cases h1;cases h2;exact h
   by_cases h2:v.mode=2
   . simp[-getElem?_pos,i,t,m,D,u,b,h2];have P:=yo C.1 C.2;have O:=qry C.1 C.2;have V:¬v.width<0:=(by omega);refine qFK l (fun e env τ=>qxY p c d.length env τ/\env 6=.sl 1 (l.map qf) .none/\env 7=.int .i64 e.length/\∀k n,k<e.length->l[k]?=some n->okN v.width (l.take k) n=true) ?_ ?_ ?_
     . exact⟨⟨by simpa using i,by simpa using t,by simpa using m,rfl⟩,by simp⟩
     . rintro e n X env τ M z A ⟨⟨j,y,o,rfl⟩,f,g,B⟩;have a3:=wr (n:=(e.length:Int)+1);have I:okN v.width (l.take e.length) n=false->r=false:=by
        intro h;refine S ?_;rw[qCs];intro Q;have Z:okL v.width l=true:=by
         simp only[okV,qBq]at Q;exact Q.2
        have:=YX.1 Z _ _ z;rw[h]at this;cases this
       by_cases n0:n<0
       . have w:=I (by simp[okN];omega);simp[-getElem?_pos,f,g,A,z,n0,w]
       by_cases n1:n<2^v.width.toNat
       case neg=>
        have a7:((2^v.width.toNat:Nat):Int)<=n:=(by simp only[Int.natCast_pow,Int.cast_ofNat_Int];omega);have w:=I (by simp[okN,n1]);simp[-getElem?_pos,-Int.natCast_pow,j,o,f,g,A,z,b,n0,w,V,IntKind.bits,P,O,ye,a7]
       simp[-getElem?_pos,-Int.natCast_pow,j,o,f,g,A,z,b,n0,V,IntKind.bits,P,O,ye,show ¬((2^v.width.toNat:Nat):Int)<=n by simp only[Int.natCast_pow,Int.cast_ofNat_Int];omega,zm,zM,yp,zH,qEV (Int.ofNat_lt.2 A)];rw[<- List.map_take];refine qFG (G:=qW GG) (qql (l.take e.length) n (qC3 (List.length_take_le' _ _) a4)) ?_ (by simp[-List.map_take,qr,qE]);cases hany:(l.take e.length).any fun x=>n==x
       . have a1:okN v.width (l.take e.length) n=true:=(by simp only[okN,hany,qEy,qCR,n1,decide_true];simpa using n0);simp[-getElem?_pos,-Int.natCast_pow,f,g,a3];refine⟨⟨by simpa using j,by simpa using y,by simpa using o,rfl⟩,fun k n' a9 F=>?_⟩;by_cases a2:k<e.length
         . exact B k n' a2 F
         obtain rfl:k=e.length:=by omega
         rw[z]at F;cases F;exact a1
       have w:=I (by simp only[okN,hany,qD5,qDz]);simp[-getElem?_pos,-Int.natCast_pow,w]
     rintro env τ ⟨⟨j,y,o,rfl⟩,f,g,B⟩;have J:=N (T (YX.2 fun k n e=>B k n (qBk.1 e).1 e));simp[-getElem?_pos,o,f,g,U];exact⟨⟨by simpa using j,by simpa using y,by simp⟩,J⟩
   obtain rfl:=(fun h=>a.resolve_left h) h2;simp[-getElem?_pos,i,t,m,D,u,b,h2];refine qFK ([]:List Int) (fun e env τ=>qxY p c d.length env τ/\env 6=.sl 1 [] .none/\env 7=.int .i64 0) ?_ ?_ ?_
   . exact⟨⟨by simpa using i,by simpa using t,by simpa using m,rfl⟩,by simp⟩
   . rintro e n X env τ M;simp at M
   rintro env τ ⟨⟨j,y,o,rfl⟩,f,g⟩;have J:=N (T (by simp[okL]));simp[-getElem?_pos,o,f,g,U];exact⟨⟨by simpa using j,by simpa using y,by simp⟩,J⟩
 rintro env σ ⟨⟨i,t,m,rfl⟩,E⟩;have:r=true:=by
  rw[K];exact(QZ L).2 fun k v l h1 h2=>E k v l (qBk.1 h2).1 h1 h2
 simp[-getElem?_pos,i,m,this,R]
@[simp]def ZG(c:List (List Int)):List AV:=[.sl 1 (c.map qn) .none]
def qkw(a b)(o:Fits a)(hb:Fits b):Pure prog GG 9 [.sl 1 (a.map qf) .none,.sl 1 (b.map qf) .none] (.bool (decide (a=b))):=by
 refine qFD func9 ?_;simp;refine⟨fun m=>?_,fun s=>?_⟩
 . intro e;exact m (by rw[e])
 refine qFK a (fun d env σ=>env 0=.sl 1 (a.map qf) .none/\env 1=.sl 1 (b.map qf) .none/\env 5=.int .i64 d.length/\σ=⟨[],[]⟩/\b.take d.length=d) ?_ ?_ ?_
 . simp
 . rintro d v r env σ hd i l ⟨h0,h1,f,rfl,c⟩;obtain⟨u,g⟩:∃u,b[d.length]?=some u:=⟨_,qBm (by omega)⟩;have j:=wr (n:=(d.length:Int)+1);simp[-getElem?_pos,h0,h1,f,l,i,g,j];refine⟨fun h e=>h ?_,fun h=>?_⟩
   . rw[e,g]at i;exact(Option.some.inj i).symm
   rw[qBQ,g,c,h];rfl
 rintro env σ ⟨h0,h1,f,rfl,c⟩;simp[h0,f];rw[show a.length=b.length by omega,qCS]at c;exact c.symm
def qaa(v):∀(n),ww 1 n (List.replicate n v)=List.replicate n [v]
 |0=>rfl
 | n+1=>by
  simp only[qCK,ww];rw[show(v::List.replicate n v).drop 1=List.replicate n v from rfl,qaa v n];rfl
def qgE(H k n b)(hb:H[b]?=some (.cells (List.replicate n (.sl 0 [] .nil)))):frz H (k+2) (.agg [.ms b 0 n 1])=.agg [.sl 1 (List.replicate n [.sl 0 [] .nil]) .none]:=by
 rw[frz];simp only[qE,qr,qDy,qBP,if_false,qBz,qBS];rw[frz];simp only[qE,qBP,if_false,hb,qCG,qaa];have e:(List.replicate n [AV.sl 0 [] .nil]).map (·.map (frz H k))=List.replicate n [.sl 0 [] .nil]:=by
  rw[qEe];congr 1;simp only[qBz,qBS];rw[ql (by simp[qE,qM])]
 rw[e];simp
def Vr(p:Problem)(a:p.vars.length<=1000)(b:¬p.vars=[]):Leq (.agg [.sl 1 (List.replicate p.vars.length [.sl 0 [] .nil]) .none]) (.agg (ZG (List.replicate p.vars.length []))):=by
 simp only[Leq,zl,ZG,qn,qEe,qBS,and_true];refine .inr ⟨trivial,?_,.inl trivial⟩;have:∀n:Nat,ym (List.replicate n [AV.sl 0 [] .nil]) (List.replicate n [AV.sl 1 [] .none]):=by
  intro n
  induction n with
  |zero=>simp[]
  | succ n ih=>
   simp only[qCK,ym];refine⟨.inr ⟨?_,by simp[AV.atom]⟩,ih⟩;simp only[zl,and_true];simp[Leq]
 exact this _
def qrq(p)(b:p.vars.length<=1000):Pure prog GG 15 [.agg (qw p)] (.agg (ZG (List.replicate p.vars.length []))):=by
 refine qFC o0 true func15 ?_;by_cases a:p.vars=[]
 . simp[qz,qV,zt,qx,a];simp[frz,qE,qr,qM,zl]
 simp[qz,qV,zt,qx,show(p.vars.length:Int)<=549755813888 by omega,a];rw[qgE _ 6 p.vars.length 2 rfl];refine⟨?_,by simpa using Vr p b a⟩;have:∀n:Nat,qM (List.replicate n [AV.sl 0 [] .nil])=true:=by
  intro n
  induction n with
  |zero=>rfl
  |succ n ih=>simp[qCK,qM,qr,qE,ih]
 simp[qE,qr,this]
def qzm(c)(u:Fits c)(t:∀l∈c,Fits l):Pure prog GG 5 [.agg (ZG c)] (.bool (decide (c.length<=6)&&(c.take 7).all fun l=>decide (l.length<=40))):=by
 refine qFD func5 ?_;simp;refine qFK (c.take 7) (fun d env σ=>env 1=.ptr 0 0/\env 3=.int .i64 d.length/\σ=⟨[.cells (ZG c)],[]⟩/\(d.all fun l=>decide (l.length<=40))=true) ?_ ?_ ?_
 . simp
 . rintro d v r env σ hd b m ⟨h1,a,rfl,g⟩;have i:d.length<7/\d.length<c.length:=(by simp at m;omega);have s:c[d.length]?=some v:=(by rw[qCi]at b;split at b<;>first|exact b|cases b);have j:=wr (n:=(d.length:Int)+1);have e:(d.length:Int)<7:=(by omega);simp[-getElem?_pos,h1,a,i.2,e,s,j];have o:v∈c.take 7:=qBl b;refine⟨fun h _=>⟨v,o,by omega⟩,fun h=>⟨by simpa using g,by omega⟩⟩
 rintro env σ ⟨h1,a,rfl,g⟩;by_cases e:c.length<=6
 . have f:(c.take 7).length=c.length:=(by simp;omega);rw[f]at a;simp[h1,a,e,g];omega
 have f:(c.take 7).length=7:=by simp;omega
 rw[f]at a;simp[h1,a,e];omega
def qrp(p)(b:p.vars.length<=1000):Pure prog GG 29 [.agg (qw p)] (.agg (ZG (List.replicate p.vars.length []))):=by
 refine qFC o0 true func29 ?_;by_cases a:p.vars=[]
 . simp[qz,qV,zt,qx,a];simp[frz,qE,qr,qM,zl]
 simp[qz,qV,zt,qx,show(p.vars.length:Int)<=549755813888 by omega,a];rw[qgE _ 6 p.vars.length 2 rfl];refine⟨?_,by simpa using Vr p b a⟩;have:∀n:Nat,qM (List.replicate n [AV.sl 0 [] .nil])=true:=by
  intro n
  induction n with
  |zero=>rfl
  |succ n ih=>simp[qCK,qM,qr,qE,ih]
 simp[qE,qr,this]
def quO(a b)(U:Fits a)(hb:Fits b)(V:∀l∈a,Fits l)(L:∀l∈b,Fits l):Pure prog GG 10 [.agg (ZG a),.agg (ZG b)] (.bool (decide (a=b))):=by
 refine qFD func10 ?_;by_cases K:a.length=b.length
 case neg=>
  have h1:¬(a.length:Int)=b.length:=by omega
  have h2:¬a=b:=fun e=>K (by rw[e])
  simp[-getElem?_pos,h1,h2]
 have E:(a.length:Int)=b.length:=by omega
 simp[-getElem?_pos,E];obtain⟨r,B⟩:∃r,r=decide (a=b):=⟨_,rfl⟩;rw[<- B];refine qFK a (fun d env σ=>env 2=.ptr 0 0/\env 3=.ptr 1 0/\env 5=.int .i64 d.length/\σ=⟨[.cells (ZG a),.cells (ZG b)],[]⟩/\b.take d.length=d) ?_ ?_ ?_
 . simp
 . rintro d l s env σ hd c F ⟨g,o,i,rfl,z⟩;obtain⟨m,f⟩:∃m,b[d.length]?=some m:=⟨_,qBm (by omega)⟩;have M:=wr (n:=(d.length:Int)+1);have T:=L m (qBl f);have W:d.length<b.length:=(by omega);have I:l≠m->r=false:=by
    intro h;rw[B,decide_eq_false_iff_not];intro e;rw[e,f]at c;exact h (Option.some.inj c).symm
   by_cases G:l.length=m.length
   case neg=>
    have h1:¬(l.length:Int)=m.length:=(by omega);have C:=I fun e=>G (by rw[e])
    simp[-getElem?_pos,g,o,i,F,c,f,h1,C]
   have P:(l.length:Int)=m.length:=(by omega);simp[-getElem?_pos,g,o,i,F,c,f,P];refine qFK l (fun e env τ=>env 2=.ptr 0 0/\env 3=.ptr 1 0/\env 5=.int .i64 d.length/\env 6=.int .i64 e.length/\τ=⟨[.cells (ZG a),.cells (ZG b)],[]⟩/\m.take e.length=e) ?_ ?_ ?_
   . simp[g,o,i]
   . rintro e n S env τ R A J ⟨t,x,w,y,rfl,j⟩;obtain⟨u,v⟩:∃u,m[e.length]?=some u:=⟨_,qBm (by omega)⟩;have O:=wr (n:=(e.length:Int)+1);by_cases D:n=u
     . simp[-getElem?_pos,t,x,w,y,c,f,J,A,v,D,O];rw[qBQ,v,j];rfl
     have C:=I fun Q=>by rw[Q,v]at A;exact D (Option.some.inj A).symm
     simp[-getElem?_pos,t,x,w,y,c,f,J,A,v,D,C]
   rintro env τ ⟨t,x,w,y,rfl,j⟩;have N:l=m:=(by rw[G,qCS]at j;exact j.symm);simp[t,x,w,y,c,M];rw[qBQ,f,z,N];rfl
 rintro env σ ⟨g,o,i,rfl,z⟩;have:r=true:=by
  rw[B,decide_eq_true_eq];rw[K,qCS]at z;exact z.symm
 simp[-getElem?_pos,g,i,this,E]
def qcG(f):zA f 16<65536:=wa f 16
def VN(f):∀k,k<=16->yV (zA f 16) k=qaQ f k
 |0,_=>rfl
 | k+1,h=>by
  simp only[yV,qaQ,VN f k (by omega),ze,b2n];have:decide (k<16)=true:=by simp;omega
  rw[this,qCC];cases f k<;>rfl
def Qc(f):Jv f 16 = !decide ((zA f 16:Int)=0):=by
 rw[Ju];simp
def qkx(t):(zA (fun k=>decide (k=0)&&t) 16:Int)=b2i t:=by
 rw[qao t 15];cases t<;>rfl
section
variable {x y z:Nat->Bool}
def qx9:(zA (fun k=>(x k ^^ y k) ^^ qbM x y false k) 16:Int)=qB (zA x 16+zA y 16):=by
 rw[wB];unfold qB b2n;simp
def quj:(zA (fun k=>(x k ^^ !y k) ^^ qbM x (fun k=>!y k) true k) 16:Int)=qB (zA x 16-zA y 16):=by
 rw[wB,qap];have:=qcG x;have:=qcG y;unfold qB b2n;simp;omega
def qx8:(zA (fun k=>!x k) 16:Int)=65535-qB (zA x 16):=by
 rw[qap];have:=qcG x;unfold qB;omega
def qx7:((zA x 16*zA y 16%2^16:Nat):Int)=qB (zA x 16*zA y 16):=by unfold qB;simp
def qx6(n):((zA x 16*2^n%2^16:Nat):Int)=qB (zA x 16*2^n):=by unfold qB;simp
def qx5(n):((zA x 16/2^n:Nat):Int)=qB (zA x 16)/2^n:=by
 have:=qcG x;rw[show qB (zA x 16)=zA x 16 from QF (by omega) (by omega)];simp
end
def qv(d:List Nd)(b:Nat->Bool)(w:List Nat)(k:Nat):Bool:=evD d b (w.getD k 0)
def z7(d:List Nd)(b:Nat->Bool)(w:List Nat):Int:=(zA (qv d b w) 16:Nat)
def zh(d:List Nd)(w:List Nat):Prop:=w.length=16/\∀i∈w,i<d.length
def zh.at{d w}(h:zh d w){k}(b:k<16):w.getD k 0<d.length:=by
 have a:k<w.length:=by rwa[h.1]
 rw[qBw,qBm a];exact h.2 _ (qDL a)
def zh.grown{d d' w}(h:zh d w)(a:zi d d'):zh d' w:=⟨h.1,fun i hi=>qBD (h.2 i hi) a.len⟩
def zN{d d'}(hd:DagOk d)(a:zi d d'){w}(h:zh d w)(b){k}(c:k<16):qv d' b w k=qv d b w k:=a.ev hd b (h.at c)
def qh0{d d'}(hd:DagOk d)(c:zi d d'){w}(h:zh d w)(b):z7 d' b w=z7 d b w:=by
 unfold z7;rw[zB fun k a=>zN hd c h b a]
def qhZ(d b w):0<=z7 d b w/\z7 d b w<=65535:=by
 unfold z7;have:=qcG (qv d b w);omega
def zg(e):(qo e).length=4:=by rw[qd];rfl
def z0(e):(qo e).all AV.atom=true:=by
 rw[qd];simp
def jq(e):qL (.agg (qo e))=some (qo e):=by rw[qd];simp[qL,AV.atom]
def qtp(k n):qL (.int k n)=some [.int k n]:=rfl
def ZJ{cs}(h:cs.all AV.atom=true):qL (.agg cs)=some cs:=by simp only[qL,h,if_true]
def putAt_all:∀(c new),c.length=new.length->zC c 0 new=new:=by
 have gen:∀(new pre c:List AV),c.length=new.length->zC (pre++c) pre.length new=pre++new:=by
  intro new
  induction new with
  |nil=>intro pre c h;have:c=[]:=qEj.1 h;subst this;simp[zC]
  | cons v r ih=>
   intro pre c h
   cases c with
   |nil=>simp at h
   | cons x c=>
    have:=ih (pre++[v]) c (by simpa using h);simp only[qBX,qDD,qBp,qBR]at this;rw[zC]
    rwa[show(pre++x::c).set pre.length v=pre++v::c by simp]
 intro c new h;simpa using gen new [] c h
structure Near(c:List AV)(Y):Prop where
 len:c.length=4
 atoms:c.all AV.atom=true
 leq:zl c (qo Y)
 nr:qr c=true
def yQ{a b r s}(h1:a=b\/(zl a b/\b.all AV.atom=true))(h2:ym r s):ym (a::r) (b::s):=by
 simp only[ym];exact⟨h1,h2⟩
def YZ:ym [] []:=by simp only[ym]
def Near.row{c Y}(h:Near c Y):c=qo Y\/(zl c (qo Y)/\(qo Y).all AV.atom=true):=.inr ⟨h.leq,z0 Y⟩
def qoe(Y):Near (qo Y) Y:=⟨zg Y,z0 Y,qFO _,qiX Y⟩
def qsn{o n:Int}{s:Str}{rows:List (List AV)}{args:List Ex}(h:ym rows (args.map qo))(a:qM rows=true):Near [.int .i64 o,.int .i64 n,.str s,.sl 4 rows .tight] (.mk o n s args):=by
 refine⟨rfl,rfl,?_,?_⟩
 . rw[qd];simp only[zl,Leq,and_true,true_and,qFy,qFz,qFA,qFB];exact .inr ⟨h,.inl trivial⟩
 simp[a]
def Near.four{c Y}(h:Near c Y):∃c0 c1 c2 c3,c=[c0,c1,c2,c3]:=by
 have:=h.len
 match c,this with
 |[c0,c1,c2,c3],_=>exact⟨c0,c1,c2,c3,rfl⟩
def Near.fin{c0 c1 c2 c3 Y}(h:Near [c0,c1,c2,c3] Y)(H):kw H c0=c0/\kw H c1=c1/\kw H c2=c2/\kw H c3=c3:=by
 have:=h.nr;simp only[qr,qBq,and_true]at this;exact⟨Q4 this.1,Q4 this.2.1,Q4 this.2.2.1,Q4 this.2.2.2⟩
