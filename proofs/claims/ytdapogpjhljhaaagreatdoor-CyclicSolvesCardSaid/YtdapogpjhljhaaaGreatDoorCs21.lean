import Derived.Test.YtdapogpjhljhaaaGreatDoorCs20
import Derived.RangeFuncBox
import Derived.RangeFuncLeaves
import Derived.Shelf.Abstract
import Derived.WalkKit
import Derived.OwnWalkIn
import Derived.TacticsInMore
import Derived.LoopNIn
import Derived.LoopIn
import Derived.RegionIn
import Derived.OrdersIn
set_option maxRecDepth 100000
set_option maxHeartbeats 16000000
set_option linter.all false
set_option linter.defProp false
namespace Go.Proofs.YtdapogpjhljhaaaGreatDoor
open Go Go.Abs Tryz Go.RowKit Go.Shelf
def quJ{w:Int}(h0:0<=w)(h1:w<=30):IntKind.i64.wrap ((2:Int)^min w.toNat IntKind.i64.bits)=((2^w.toNat:Nat):Int):=by
 have e:min w.toNat IntKind.i64.bits=w.toNat:=qC9 (by show w.toNat<=64;omega);rw[e];have:2^w.toNat<=2^30:=qBF (by omega) (by omega);rw[show(2:Int)^w.toNat=((2^w.toNat:Nat):Int) by simp];generalize 2^w.toNat=N at *;exact wr
def qkU(w):Pure prog GG 283 [.agg (qC w)] (.int .i64 (if w.each=true then 1 else 0)):=by
 refine qFD func283 ?_;cases h:w.each<;>simp[h]
def qvE(w):Pure prog GG 228 [.agg (qC w),.int .u8 115] (.bool (!w.each)):=by
 obtain⟨lo,hi,b,each⟩:=w;have a:=qkU ⟨lo,hi,b,each⟩;refine qFD func228 ?_;cases each
 all_goals
  simp at a;simp;refine qFG a ?_ rfl;simp;refine qFG a ?_ rfl;simp
def qvF(w):Pure prog GG 228 [.agg (qC w),.int .u8 101] (.bool w.each):=by
 obtain⟨lo,hi,b,each⟩:=w;have a:=qkU ⟨lo,hi,b,each⟩;refine qFD func228 ?_;cases each
 all_goals
  simp at a;simp;refine qFG a ?_ rfl;simp;refine qFG a ?_ rfl;simp
def qfo(w)(h0:0<=w.lo)(h1:w.lo<=w.hi)(h2:w.hi<=65535):Pure prog GG 230 [.agg (qC w)] (.int .i64 (w.hi-w.lo+1)):=by
 refine qFD func230 ?_;simp[show IntKind.i64.wrap (w.hi-w.lo)=w.hi-w.lo from wr,show IntKind.i64.wrap (w.hi-w.lo+1)=w.hi-w.lo+1 from wr]
def qiK(N:Int)(w:Weight):Bool:=decide (w.lo<0)||decide (w.hi<w.lo)||decide (N-1<w.hi)||decide (w.weight<0)||decide (1000<w.weight)
def yB(l:List Weight)(width:Int):Int :=
 if width<1\/8<width then 1 else if 16<l.length then 2 else if l.length=0 then 1 else if l.any (qiK ((2^width.toNat:Nat):Int))=true then 1 else 0
def qlx(l)(C:Fits l)(width):Pure prog GG 225 [.sl 4 (l.map qC) .none,.int .i64 width] (.int .i64 (yB l width)):=by
 refine qFD func225 ?_;generalize a:yB l width=r;unfold yB at a;by_cases i:width<1\/8<width
 . rw[if_pos i]at a;subst a;rcases i with h|h
   . simp[h]
   have:¬width<1:=by omega
   simp[h,this]
 rw[if_neg i]at a;have h1:¬width<1:=by omega
 have h2:¬8<width:=by omega
 have s:=quJ (w:=width) (by omega) (by omega);by_cases hb:16<l.length
 . rw[if_pos hb]at a;subst a;have z:(16:Int)<l.length:=(by omega);simp[h1,h2,z]
 rw[if_neg hb]at a;by_cases b:l.length=0
 . rw[if_pos b]at a;subst a;have j:=qBy b;subst j;simp[h1,h2]
 rw[if_neg b]at a;have A:2^width.toNat<=2^8:=qBF (by omega) (by omega);have v:0<2^width.toNat:=Nat.pow_pos (by omega);generalize 2^width.toNat=N at a s A v;have j:l≠[]:=fun e=>b (by rw[e];rfl)
 simp[h1,h2,show ¬(16:Int)<l.length by omega,j];refine qFW l (fun d ev σ=>ev 0=.sl 4 (l.map qC) .none/\ev 1=.int .i64 width/\ev 22=.sl 4 (l.map qC) .none/\ev 23=.int .i64 l.length/\ev 24=.int .i64 d.length/\d.any (qiK N)=false) ?_ ?_ ?_
 . simp
 . rintro d w rest ev σ R B hd u x ⟨t,f,m,c,o,g⟩;have y:qiK N w=true->r=1:=fun h=>by
    have:l.any (qiK N)=true:=by rw[hd];simp[h]
    rw[if_pos this]at a;exact a.symm
   simp[-getElem?_pos,f,m,c,o,x,u,show ¬width<0 by omega,s,show IntKind.i64.wrap ((N:Int)-1)=N-1 from wr,show IntKind.i64.wrap ((d.length:Int)+1)=(d.length+1:Nat) by rw[wr];omega]
   repeat' first|(with_reducible refine And.intro ?_ ?_)|(intro _)
   all_goals first
    |exact(y (by unfold qiK;simp;omega)).symm
    |exact B _ _ ⟨by simp[t],by simp[f],by simp[m],by simp[c],by simp,by simp[qiK,g];omega⟩
 rintro ev σ ⟨t,f,m,c,o,g⟩;rw[if_neg (by rw[g];simp)]at a;subst a;simp[c,o]
def Yi(l:List Weight)(v:Int):Option Weight:=l.find? fun w=>decide (w.lo<=v)&&decide (v<=w.hi)
def qn6(l)(z:Fits l)(v):Pure prog GG 227 [.sl 4 (l.map qC) .none,.int .i64 v]
 (match Yi l v with|some w=>.tup [.agg (qC w),.bool true]|none=>.tup [.agg (qC ⟨0,0,0,false⟩),.bool false]):=by
 refine qFD func227 ?_;generalize j:Yi l v=r;unfold Yi at j;simp;refine qFW l (fun d ev σ=>ev 0=.sl 4 (l.map qC) .none/\ev 1=.int .i64 v/\ev 4=.ptr 0 0/\ev 8=.sl 4 (l.map qC) .none/\ev 9=.int .i64 l.length/\ev 10=.int .i64 d.length/\(∃t,σ=⟨.cells (qC ⟨0,0,0,false⟩)::t,[]⟩)/\∀w∈d,¬(w.lo<=v/\v<=w.hi)) ?_ ?_ ?_
 . simp
 . rintro d w rest ev σ R s hd a o ⟨u,e,b,i,c,g,⟨t,rfl⟩,f⟩;by_cases m:w.lo<=v/\v<=w.hi
   . have:r=some w:=by
      rw[<- j,hd,qEM,qDU.2 (fun x a=>by have:=f x a;simp;omega)];simp[m]
     subst this;simp[-getElem?_pos,e,b,i,c,g,o,a,m]
   have y:=s;simp[-getElem?_pos,e,b,i,c,g,o,a,show IntKind.i64.wrap ((d.length:Int)+1)=(d.length+1:Nat) by rw[wr];omega]
   repeat' first|(with_reducible refine And.intro ?_ ?_)|(intro _)
   all_goals first
    |(exfalso;omega)
    | exact s _ _ ⟨by simp[u],by simp[e],by simp[b],by simp[i],by simp[c],by simp,⟨_,rfl⟩,fun x a=>by
     rcases qBC.1 a with h|h
     . exact f x h
     simp at h;subst h;exact m⟩
 rintro ev σ ⟨u,e,b,i,c,g,⟨t,rfl⟩,f⟩;have:r=none:=by
  rw[<- j,qDU];intro x a;have:=f x a;simp;omega
 subst this;simp[-getElem?_pos,b,c,g]
def wsz(w:Weight):Nat:=(w.hi-w.lo+1).toNat
def WOk(l:List Weight):Prop:=∀w∈l,0<=w.lo/\w.lo<=w.hi/\w.hi<=255/\0<=w.weight/\w.weight<=1000
def Qb{l width}(h:yB l width=0):WOk l/\l.length<=16/\l≠[]:=by
 unfold yB at h;split at h
 . cases h
 rename_i a;split at h
 . cases h
 split at h
 . cases h
 rename_i h1 h2;split at h
 . cases h
 rename_i hb;refine⟨fun w a=>?_,by omega,fun e=>h2 (by rw[e];rfl)⟩;have b:2^width.toNat<=2^8:=qBF (by omega) (by omega);generalize 2^width.toNat=N at *;simp at hb;have:=hb w a;unfold qiK at this;simp at this;omega
def zO:List Weight->Nat->Int×Int
 |[],s=>(s,0)
 |w::r,s=>if w.each=true then zO r s else if Nat.lcm s (wsz w)<9223372036854775808 then zO r (Nat.lcm s (wsz w)) else(0,3)
def Ke{w}(h:w.lo<=w.hi):0<wsz w:=by unfold wsz;omega
def qnn(l)(T:l.length<=1000)(F:WOk l):Pure prog GG 226 [.sl 4 (l.map qC) .none] (.tup [.int .i64 (zO l 1).1,.int .i64 (zO l 1).2]):=by
 refine qFD func226 ?_;generalize A:zO l 1=r;simp;refine qFW l (fun d ev σ=>ev 0=.sl 4 (l.map qC) .none/\ev 8=.sl 4 (l.map qC) .none/\ev 9=.int .i64 l.length/\ev 10=.int .i64 d.length/\∃s:Nat,ev 4=.int .i64 s/\0<s/\s<9223372036854775808/\zO (l.drop d.length) s=r) ?_ ?_ ?_
 . exact⟨by simp,by simp,by simp,by simp,1,by simp,by omega,by omega,by simpa using A⟩
 . rintro d w rest ev σ R P hd v B ⟨j,g,f,y,s,i,h,m,a⟩;have Q:IntKind.i64.wrap ((d.length:Int)+1)=(d.length+1:Nat):=(by rw[wr];omega);obtain⟨w0,z,V,S,U⟩:=F w (qBl v);rw[show l.drop d.length=w::l.drop (d.length+1) by rw[hd];simp]at a;have t:=Ke z;have O:(wsz w:Int)=w.hi-w.lo+1:=(by unfold wsz;omega);have h1:=qvE w;have h2:=qfo w w0 z (by omega);have x:=qvx s (wsz w) h t m (by omega);rw[O]at x;have u:=Nat.lcm_pos h t;have o:∀(c:Nat) (b:Env) (σ':St),0<c->c<9223372036854775808->zO (l.drop (d.length+1)) c=r->b 0=.sl 4 (l.map qC) .none->b 8=.sl 4 (l.map qC) .none->b 9=.int .i64 l.length->b 10=.int .i64 (d.length+1:Nat)->b 4=.int .i64 c->R b σ':=fun c b σ' D M C N J K I G=>
    P _ _ ⟨N,J,K,by simpa using I,c,G,D,M,by simpa using C⟩
   obtain⟨lo,hi,E,each⟩:=w;simp[-getElem?_pos,g,f,y,B,v];refine qFG h1 ?_ rfl;cases each
   . simp only[zO,qBP,if_false]at a;simp[i];refine qFG h2 ?_ rfl;simp;refine qFG x ?_ rfl;generalize Nat.lcm s (wsz ⟨lo,hi,E,false⟩)=L at a u⊢;by_cases e:L<9223372036854775808
     . rw[if_pos e]at a;simp[*,Yo];exact o L _ _ u e a (by simp[j]) (by simp[g]) (by simp[f]) (by simp) (by simp)
     rw[if_neg e]at a;subst a;simp[Yo,e]
   simp only[zO,if_true]at a;simp[*];exact o s _ _ h m a (by simp[j]) (by simp[g]) (by simp[f]) (by simp) (by simp[i])
 rintro ev σ ⟨j,g,f,y,s,i,h,m,a⟩;rw[qCw]at a;simp only[zO]at a;subst a;simp[*]
def kr:∀(l) (s),WOk l->0<s->s<9223372036854775808->((zO l s).2=0/\0<(zO l s).1/\(zO l s).1<9223372036854775808)\/zO l s=(0,3)
 |[],s,_,h0,h1=>.inl ⟨rfl,by simp only[zO];omega,by simp only[zO];omega⟩
 | w::r,s,b,h0,h1=>by
  have a:WOk r:=fun x d=>b x (by simp[d])
  have c:=Ke (b w (by simp)).2.1;simp only[zO];split
  . exact kr r s a h0 h1
  split
  . rename_i h;exact kr r _ a (Nat.lcm_pos h0 c) h
  exact .inr rfl
def vZ(l:List Weight)(s:Nat)(v:Int):Int×Int:=match Yi l v with
 |none=>(0,0)
 |some w=>if w.each=true then Yo (w.weight.toNat*s) else Yo (w.weight.toNat*(s/wsz w))
def qi8(l:List Weight)(y:l.length<=1000)(e:WOk l)(s:Nat)(j:s<9223372036854775808)(v:Int):Pure prog GG 181 [.sl 4 (l.map qC) .none,.int .i64 s,.int .i64 v] (.tup [.int .i64 (vZ l s v).1,.int .i64 (vZ l s v).2]):=by
 have i:=qn6 l (by unfold Fits;omega) v;refine qFD func181 ?_;generalize a:vZ l s v=r;unfold vZ at a;simp;refine qFG i ?_
 cases hf:Yi l v with
 | none=>
  rw[hf]at a;simp only at a;subst a;simp
 | some w=>
  rw[hf]at a;simp only at a;obtain⟨w0,d,C,o,A⟩:=e w (qER hf);have h1:=qvF w;have h2:=qfo w w0 d (by omega);have m:=Ke d;rw[<- show(wsz w:Int)=w.hi-w.lo+1 by unfold wsz;omega]at h2;obtain⟨k,c⟩:∃k:Nat,w.weight=k:=⟨w.weight.toNat,by omega⟩;have h:=qkA k s (by omega) j;have g:s/wsz w<=s:=qDr _ _;have b:=qkA k (s/wsz w) (by omega) (by omega);rw[show w.weight.toNat=k by omega]at a;generalize u:wsz w=z at *;obtain⟨q,f⟩:∃q,s/z=q:=⟨_,rfl⟩;have B:(s:Int).tdiv z=q:=by
   rw[qCT (by omega)];omega
  rw[f]at b a g;have t:=wr (n:=q);obtain⟨lo,hi,x,each⟩:=w;simp only at c;subst c;cases each
  . simp at a;subst a;simp;refine qFG h1 ?_ rfl;simp;refine qFG h2 ?_ rfl;simp[*,show ¬z=0 by omega];refine qFG b ?_ rfl;simp
  simp at a;subst a;simp;refine qFG h1 ?_ rfl;simp;refine qFG h ?_ rfl;simp
def qno(l)(a:l.length<=1000):Pure prog GG 180 [.sl 4 (l.map qC) .none]
 (.tup [.int .i64 (if yB l 8=0 then(zO l 1).1 else 0),.int .i64 (if yB l 8=0 then(zO l 1).2 else yB l 8)]):=by
 have b:=qlx l (by unfold Fits;omega) 8;refine qFD func180 ?_;simp;refine qFG b ?_;by_cases h:yB l 8=0
 . simp[h];refine qFG (qnn l a (Qb h).1) ?_;simp
 simp[h]
def zU(l:List Weight)(v:Int):Int×Int :=
 if yB l 8≠0 then(0,yB l 8) else if(zO l 1).2≠0 then(0,(zO l 1).2) else vZ l (zO l 1).1.toNat v
def qmK(l)(d:l.length<=1000)(v):Pure prog GG 133 [.sl 4 (l.map qC) .none,.int .i64 v] (.tup [.int .i64 (zU l v).1,.int .i64 (zU l v).2]):=by
 have e:=qno l d;refine qFD func133 ?_;generalize a:zU l v=r;unfold zU at a;simp;refine qFG e ?_;by_cases h:yB l 8=0
 . have c:=(Qb h).1;rw[if_neg (by simp[h])]at a;rcases kr l 1 c (by omega) (by omega) with⟨h1,h2,f⟩|h1
   . rw[if_neg (by simp[h1])]at a;have b:=qi8 l d c (zO l 1).1.toNat (by omega) v;rw[show(((zO l 1).1.toNat:Nat):Int)=(zO l 1).1 by omega]at b;simp[*];refine qFG b ?_;subst a;simp
   rw[h1]at a;simp at a;subst a;simp[*]
 rw[if_pos h]at a;subst a;simp[h]
def Vu(n):sat n=min n 1099511627777:=rfl
def qkf(a b)(c:a<=lim)(hb:b<=lim):Pure prog GG 190 [.int .i64 a,.int .i64 b] (.int .i64 (sat (a+b):Nat)):=by
 refine qFD func190 ?_;unfold lim at c hb;have d:=wr (n:=(a:Int)+b);have e:vR (.int .i64 ((a:Int)+b)) (.int .i64 1099511627777)=some (.int .i64 (sat (a+b):Nat)):=by
  simp only[vR,Vu];congr 2;split<;>omega
 simp[d,e]
def qfA(a b)(f:a<=lim)(hb:b<=lim):Pure prog GG 191 [.int .i64 a,.int .i64 b] (.int .i64 (sat (a*b):Nat)):=by
 refine qFD func191 ?_;unfold lim at f hb;by_cases h1:a=0
 . subst h1;simp[Vu]
 by_cases h2:b=0
 . subst h2;simp[h1,Vu]
 have c:(1099511627777:Int).tdiv (b:Int)=((1099511627777/b:Nat):Int):=by
  rw[qCT (by omega)];simp
 have m:1099511627777/b<=1099511627777:=qDr _ _;have e:IntKind.i64.wrap ((1099511627777/b:Nat):Int)=((1099511627777/b:Nat):Int):=by
  generalize 1099511627777/b=q at *;exact wr
 have d:¬(b:Int)=0:=by omega
 by_cases hgt:1099511627777/b<a
 . have i:=Int.ofNat_lt.2 hgt;have j:sat (a*b)=1099511627777:=by
    have:=(qFk (by omega)).1 hgt;rw[Vu];omega
   generalize 1099511627777/b=q at *;simp[-zV,qf8,qp5,h1,h2,j,show zV .quo .i64 1099511627777 b=some (.int .i64 (q:Int)) by simp only[zV];rw[if_neg d,c,e],hgt]
 have i:¬((1099511627777/b:Nat):Int)<(a:Int):=fun h=>hgt (Int.ofNat_lt.1 h)
 have r:a*b<=1099511627777:=(Nat.le_div_iff_mul_le (by omega)).1 (by omega);have g:=wr (n:=(a:Int)*b) (by
  have:(0:Int)<=(a:Int)*b:=by rw[<- Int.natCast_mul];omega
  omega) (by
  rw[<- Int.natCast_mul];omega)
 have l:vR (.int .i64 ((a:Int)*b)) (.int .i64 1099511627777)=some (.int .i64 (sat (a*b):Nat)):=by
  simp only[vR,Vu];rw[<- Int.natCast_mul];congr 2;split<;>omega
 generalize o:1099511627777/b=q at *;simp[-zV,qf8,qva,qp5,h1,h2,show zV .quo .i64 1099511627777 b=some (.int .i64 (q:Int)) by simp only[zV];rw[if_neg d,c,e],hgt,g,l]
def je(n:Nat)(l:List Dist):List (Option (List Weight)):=l.foldl (fun o d=>o.set d.var.toNat (some d.weights)) (List.replicate n none)
def qlw(o:Option (List Weight)):List AV:=match o with
 |none=>[.sl 0 [] .nil]
 |some w=>[.sl 4 (w.map qC) .none]
def yF(n l):(je n l).length=n:=by
 have:∀(l:List Dist) (o:List (Option (List Weight))),(l.foldl (fun o d=>o.set d.var.toNat (some d.weights)) o).length=o.length:=by
  intro l
  induction l with
  |nil=>intro o;rfl
  |cons a r ih=>intro o;rw[qB2,ih];simp
 unfold je;rw[this];simp
def Wa(n l d):je n (l++[d])=(je n l).set d.var.toNat (some d.weights):=by simp[je,qCb]
def qib{n}:∀{l:List Dist}{w:List Weight},some w∈je n l->∃d∈l,d.weights=w:=by
 have gen:∀(l:List Dist) (o:List (Option (List Weight))) (w:List Weight),some w∈l.foldl (fun o d=>o.set d.var.toNat (some d.weights)) o->some w∈o\/∃d∈l,d.weights=w:=by
  intro l
  induction l with
  |nil=>intro o w h;exact .inl h
  | cons a r ih=>
   intro o w h;rw[qB2]at h;rcases ih _ w h with h|⟨d,hd,b⟩
   . rcases qDm h with h|h
     . exact .inl h
     . cases h;exact .inr ⟨a,by simp⟩
   exact .inr ⟨d,by simp[hd],b⟩
 intro l w h;rcases gen l _ w h with h|h
 . rw[qDc]at h;cases h.2
 exact h
def WFn(p:Problem)(L LL:Nat)(H:List Blk):Prop:=∃c,H[L]?=some (.cells [c])/\(p.vars≠[]->c=.ms LL 0 p.vars.length 1/\H[LL]?=some (.cells ((je p.vars.length p.dists).flatMap qlw)))
def qAa(p:Problem)(H:List Blk)(r:AV)(σ':St):Prop:=KpL [] H σ'.H/\∃L LL,r=.fn 132 [] [.ptr L 0]/\H.length<=L/\H.length<=LL/\WFn p L LL σ'.H
def qlv(o):(qlw o).length=1:=by cases o<;>rfl
def qmL(p)(h:VQ p)(G:qg p=0)(H T):qh prog GG 94 [.agg (qw p)] ⟨H,T⟩ (qAa p H):=by
 refine qFF func94 ?_;have s:=qd5 G;have P:=h.vars;have o:=h.dists;by_cases g:p.vars=[]
 . have L:p.dists=[]:=by
    apply qCZ.2;intro d hd;obtain⟨i,v,_,hi⟩:=s d hd;rw[g]at hi;simp at hi
   have fin:∀(u:List Blk) (T':List (Option Nat)) (e:Blk) (c:AV),qAa p H (.fn 132 [] [.ptr (H.length+1) 0]) ⟨H++e::.cells [c]::u,T'⟩:=fun u T' e c=>⟨qGe,H.length+1,H.length+1,rfl,by omega,by omega,c,lk1,fun K=>absurd g K⟩
   simp[g,L,qz];refine qFL (fun m ev σ=>ev 3=.ptr (H.length+1) 0/\ev 12=.int .i64 0/\ev 13=.int .i64 0/\∃e c u T',σ=⟨H++e::.cells [c]::u,T'⟩) 0 ⟨by simp,by simp,by simp,_,_,_,_,rfl⟩ ?_;rintro m ev σ R t ⟨a,b,f,e,c,u,T',rfl⟩;simp[a,b,f];exact fin _ _ _ _
 have M:=qBA.2 g;have O:¬(p.vars.length:Int)=0:=by omega
 simp[g,show(p.vars.length:Int)<=549755813888 by omega,qz];refine qFW p.dists (fun d ev σ=>ev 3=.ptr (H.length+2) 0/\ev 11=.sl 2 (p.dists.map zu) .none/\ev 12=.int .i64 p.dists.length/\ev 13=.int .i64 d.length/\KpL [] H σ.H/\σ.H[H.length+2]?=some (.cells [.ms (H.length+1) 0 p.vars.length 1])/\σ.H[H.length+1]?=some (.cells ((je p.vars.length d).flatMap qlw))) ?_ ?_ ?_
 . refine⟨by simp,by simp,by simp,by simp,qGe,lk2,?_⟩;have:(je p.vars.length []).flatMap qlw=List.replicate p.vars.length (.sl 0 [] .nil):=by
    show(List.replicate p.vars.length none).flatMap qlw=_;rw[qCQ,qEe];show(List.replicate p.vars.length [AV.sl 0 [] .nil]).flatten=_;simp
   rw[this];exact lk1
 . rintro d x rest ev ⟨C,B⟩ R t hd r N ⟨a,j,b,f,l,b2,b1⟩;have z:=wr (n:=(d.length:Int)+1) (by unfold Fits at o;omega) (by unfold Fits at o;omega);obtain⟨i,v,hi,J⟩:=s x (qBl r);have D:=(qBk.1 J).1;have E:i+1<=p.vars.length:=D;have y:=yF p.vars.length d;have w:=Go.Abs.zZ (sz:=1) qlv (je p.vars.length d);rw[y,Nat.mul_one]at w;have A:((je p.vars.length d).flatMap qlw).set i (.sl 4 (x.weights.map qC) .none)=(je p.vars.length (d++[x])).flatMap qlw:=by
    have:=QP qlv (je p.vars.length d) i (some x.weights) (by omega);rw[Wa,hi,qBU,<- this];simp[qlw,zC]
   have I:=(qBk.1 b1).1;generalize (je p.vars.length d).flatMap qlw=F at *;simp[a,j,b,f,show(d.length:Int)<p.dists.length by omega,r,qa b2,qa b1,kF b1,hi,show(i:Int)<p.vars.length by omega,w,E,A,z];refine t _ _ ⟨by simp[a],by simp[j],by simp[b],by simp,(l.setF (by omega)).trans qGe,qa (by rw[qBn (by omega)];exact b2) _,qa (qBo I) _⟩
 rintro ev ⟨C,B⟩ ⟨a,j,b,f,l,b2,b1⟩;simp[a,b,f];exact⟨l,H.length+2,H.length+1,rfl,by omega,by omega,_,b2,fun _=>⟨rfl,b1⟩⟩
def wtO(o:Option (List Weight))(v:Int):Nat:=match o with
 |none=>1
 |some w=>if(zU w v).2≠0 then lim else sat (zU w v).1.toNat
def quh(o v):wtO o v<=lim:=by
 unfold wtO;split
 . unfold lim;omega
 split
 . exact qBs _
 exact qcn _
def qsV(n):0<=(Yo n).1:=by
 unfold Yo;split<;>simp
def QG(l v):0<=(zU l v).1:=by
 unfold zU;split
 . simp
 split
 . simp
 unfold vZ;split
 . simp
 split<;>exact qsV _
def qe7(o:Option (List Weight)):AV:=match o with
 |none=>.sl 0 [] .nil
 |some w=>.sl 4 (w.map qC) .none
def qs4(o):qlw o=[qe7 o]:=by cases o<;>rfl
def qzc(l:List (Option (List Weight))):l.flatMap qlw=l.map qe7:=by
 induction l with
 |nil=>rfl
 |cons a r ih=>rw[qBJ,ih,qs4];rfl
def map_drop{α:Type}(f:α->AV){l:List α}{i:Nat}{x:α}(h:l[i]?=some x):(l.map f).drop i=f x::(l.map f).drop (i+1):=by
 obtain⟨h1,h2⟩:=qBk.1 h;rw[qBE (by simpa using h1),qC1,h2]
def qfq(p){L LL H}(A:WFn p L LL H){i:Nat}{o:Option (List Weight)}(hi:(je p.vars.length p.dists)[i]?=some o)(E:∀w,o=some w->w≠[]/\w.length<=1000)(v T):
 qh prog GG 132 [.int .i64 (i:Int),.int .i64 v,.ptr L 0] ⟨H,T⟩ (fun r σ'=>r=.int .i64 (wtO o v:Nat)/\σ'=⟨H,T⟩):=by
 refine qFF func132 ?_;have b:=(qBk.1 hi).1;rw[yF]at b;have z:p.vars≠[]:=fun e=>by rw[e]at b;simp at b
 obtain⟨c,h,C⟩:=A;obtain⟨rfl,d⟩:=C z;rw[qzc]at d;have j:=map_drop qe7 hi;have m:((je p.vars.length p.dists).map qe7).length=p.vars.length:=by rw[qBT,yF]
 have s:(i:Int)<p.vars.length:=by omega
 have l:i+1<=p.vars.length:=b;generalize (je p.vars.length p.dists).map qe7=F at *
 cases o with
 | none=>
  simp[h,d,s,l,m,j,qe7,qP,JH,TD.isSl,wtO]
 | some w=>
  obtain⟨y,G⟩:=E w rfl;obtain⟨a,r,rfl⟩:=qDF y;have g:=qmK (a::r) G v;have t:=QG (a::r) v;have u:wtO (some (a::r)) v=if(zU (a::r) v).2≠0 then lim else sat (zU (a::r) v).1.toNat:=rfl
  rw[u];generalize zU (a::r) v=B at *;obtain⟨x,e⟩:=B;simp only at t g⊢;have D:vR (.int .i64 x) (.int .i64 1099511627777)=some (.int .i64 (sat x.toNat:Nat)):=by
   simp only[vR,Vu];congr 2;split<;>omega
  simp[h,d,s,l,m,j,qe7,qP,JH,TD.isSl];refine qFG (by simpa using g) ?_;by_cases f:e=0
  . simp[f,D]
  simp[f,lim]
structure Spc where
 S:Nat
 L:Nat
 LL:Nat
 p:Problem
 R:List Ex
 rtok:Tok
 lv:List Int
 dv:AV
 root:Nat
 small:Bool
def spE(s:Spc):List AV:=qw s.p++[.sl 4 (s.R.map qo) s.rtok,.sl 1 (s.lv.map qf) .none,s.dv,.int .i64 s.root,.bool s.small,.fn 132 [] [.ptr s.L 0]]
structure SpOk(s:Spc)(H:List Blk):Prop where
 c:H[s.S]?=some (.cells (spE s))
 w:WFn s.p s.L s.LL H
 b:s.LL<H.length
def SpOk.keep{s H H' bs}(h:SpOk s H)(a:KpL bs H H')(h1:s.S∉bs)(h2:s.L∉bs)(g:s.LL∉bs):SpOk s H':=by
 refine⟨a.2 _ _ h.c h1,?_,qBD h.b a.1⟩;obtain⟨c,f,e⟩:=h.w;exact⟨c,a.2 _ _ f h2,fun d=>⟨(e d).1,a.2 _ _ (e d).2 g⟩⟩
def qoH{d}(h:DagOk d){f}(b:f<d.length)(L o):vT d f L o<d.length:=by
 have a:=qBm b;unfold vT;rw[a];simp only;split
 . by_cases h2:2<=f
   . obtain⟨c,l,j,i,g,r⟩:=h.node f _ h2 a;split<;>omega
   . have m:=h.two;have:f=0\/f=1:=by omega
     rcases this with rfl|rfl
     . have e:=h.n0;rw[a]at e;rw[Option.some.inj e];split<;>simp<;>omega
     have e:=h.n1;rw[a]at e;rw[Option.some.inj e];split<;>simp<;>omega
 exact b
def vG(d:List Nd)(l w:Nat)(v:Nat)(node:Nat)(k:Nat):Nat:=(List.range k).foldl (fun node k=>vT d node (l+k) (v.testBit (w-1-k))) node
def JZ(d l w v node k):vG d l w v node (k+1)=vT d (vG d l w v node k) (l+k) (v.testBit (w-1-k)):=by simp[vG,qCL,qCb]
def Y6{d}(h:DagOk d){node}(a:node<d.length)(l w v):∀k,vG d l w v node k<d.length
 |0=>a
 |k+1=>by rw[JZ];exact qoH h (Y6 h a l w v k) _ _
def qpy(n i:Nat)(a:n<2^63):zV .and .i64 ((n:Int).fdiv (2^i)) 1=some (.int .i64 (if n.testBit i=true then 1 else 0)):=by
 rw[qmm n i a];cases n.testBit i<;>rfl
def V9{s:Spc}{H}(h:SpOk s H){d tok}(hd:DagOk d)(X:s.dv=.sl 3 (d.map qU) tok){i l node val:Nat}{v:Var}(Y:s.p.vars[i]?=some v)(E:s.lv[i]?=some (l:Int))(hw:0<=v.width/\v.width<=8)(a1:l<=20)(W:node<d.length)(Z:val<2^16)(T):
 qh prog GG 137 [.ptr s.S 0,.int .i64 node,.int .i64 i,.int .i64 val] ⟨H,T⟩ (fun r σ'=>r=.int .i64 (vG d l v.width.toNat val node v.width.toNat:Nat)/\KpL [] H σ'.H):=by
 refine qFF func137 ?_;have C:=h.c;simp only[spE,qw,qBV,qBL,X]at C;have U:v.width=(v.width.toNat:Int):=by omega
 generalize a0:v.width.toNat=w at *;simp[C,Y,U];refine yu w (fun k ev σ=>ev 0=.ptr s.S 0/\ev 1=.int .i64 (vG d l w val node k:Nat)/\ev 2=.int .i64 (i:Int)/\ev 3=.int .i64 (val:Int)/\ev 9=.int .i64 (w:Int)/\ev 21=.int .i64 (w:Int)/\ev 22=.int .i64 (k:Int)/\KpL [] H σ.H) ?_ ?_ ?_
 . exact⟨by simp,by simp[vG],by simp,by simp,by simp,by simp,by simp,qGd⟩
 . rintro k ev ⟨Q,P⟩ R J a2 ⟨j,o,e,f,g,b,x,t⟩;have u:=t.2 _ _ C (by simp);have O:=Y6 hd W l w val k;have a:=JZ d l w val node k;generalize vG d l w val node k=V at *;obtain⟨n,z⟩:∃n,d[V]?=some n:=⟨_,qBm O⟩;have D:(k:Int)<w:=(by omega);have F:=wr (n:=(k:Int)+1);have I:=wr (n:=(l:Int)+k);have M:=wr (n:=(w:Int)-1);have B:=wr (n:=(w:Int)-1-k);have G:(w:Int)-1-k=((w-1-k:Nat):Int):=(by omega);rw[G]at B;have L:min (w-1-k) 64=w-1-k:=(by omega);have y:=qpy val (w-1-k) (by omega);have N:¬((w-1-k:Nat):Int)<0:=(by omega);unfold vT at a;rw[z]at a;simp only at a;generalize hm:w-1-k=m at *;by_cases K:n.1=l+k
   . have A:(n.1:Int)=(l:Int)+k:=(by omega);rw[if_pos K]at a
     cases hbit:val.testBit m with
     | true=>
      rw[hbit,if_pos rfl]at a;rw[hbit]at y;simp[-zV,qf7,qf9,qkr,qks,qf8,j,o,e,f,g,b,x,D,qa u,u,z,E,I,A,M,G,B,L,IntKind.bits,y,N,F];exact J _ _ ⟨by simp[j],by simp[a],by simp[e],by simp[f],by simp[g],by simp[b],by simp,t.trans qGe⟩
     | false=>
      rw[hbit,if_neg (by simp)]at a;rw[hbit]at y;simp[-zV,qf7,qf9,qkr,qks,qf8,j,o,e,f,g,b,x,D,qa u,u,z,E,I,A,M,G,B,L,IntKind.bits,y,N,F];exact J _ _ ⟨by simp[j],by simp[a],by simp[e],by simp[f],by simp[g],by simp[b],by simp,t.trans qGe⟩
   have A:¬(n.1:Int)=(l:Int)+k:=(by omega);rw[if_neg K]at a;simp[-zV,qf7,qf9,qkr,qks,j,o,e,f,g,b,x,D,qa u,u,z,E,I,A,F];exact J _ _ ⟨by simp[j],by simp[o,a],by simp[e],by simp[f],by simp[g],by simp[b],by simp,t.trans qGe⟩
 rintro ev ⟨Q,P⟩ ⟨j,o,e,f,g,b,x,t⟩;simp[o,b,x];exact t
def qi0(m:AV)(fx:Nat->Option Nat)(H:List Blk):Prop :=
 (m=.nilm/\∀i,fx i=none)\/∃F es n,m=.map F/\H[F]?=some (.map es n)/\∀i:Nat,match fx i with
   |none=>jQ (.int .i64 (i:Int)) es 0=some none
   |some x=>∃j,jQ (.int .i64 (i:Int)) es 0=some (some (j,.int .i64 (x:Int)))
def qi0.keep{m fx H H' bs}(h:qi0 m fx H)(a:KpL bs H H')(hb:∀F,m=.map F->F∉bs):qi0 m fx H':=by
 rcases h with h|⟨F,es,n,rfl,b,h⟩
 . exact .inl h
 exact .inr ⟨F,es,n,rfl,a.2 _ _ b (hb F rfl),h⟩
def qi0.look{m fx H}(h:qi0 m fx H)(i:Nat)(T):zF (Dof prog) ⟨H,T⟩ 139 m (.int .i64 (i:Int)) true=some (match fx i with|none=>.tup [.int .i64 0,.bool false]|some x=>.tup [.int .i64 (x:Int),.bool true]):=by
 rcases h with⟨rfl,h⟩|⟨F,es,n,rfl,a,h⟩
 . rw[h i];simp[zF,zI,jQ,qbN]
 have:=h i
 cases hx:fx i with
 |none=>rw[hx]at this;simp[zF,zI,a,this,qbN]
 | some x=>
  rw[hx]at this;obtain⟨j,b⟩:=this;simp[zF,zI,a,b]
def zW(n:Nat):List AV:=[.int .i64 (n:Int)]
def qms(r:AV)(a:List Nat)(H:List Blk)(n:Nat):Prop:=r=.sl 1 (a.map zW) .tight\/∃N,r=.ms N 0 a.length 1/\n<=N/\H[N]?=some (.cells (qD a))
def wP(w:Nat)(o:Option Nat):List Nat:=match o with
 |none=>List.range (2^w)
 |some x=>[x]
def qAv(a:List Nat)(H:List Blk)(r:AV)(σ':St):Prop:=KpL [] H σ'.H/\qms r a σ'.H H.length
def qb0{s:Spc}{H}(h:SpOk s H){m fx}(K:qi0 m fx H){i:Nat}{v:Var}(I:s.p.vars[i]?=some v)(E:0<=v.width/\v.width<=8)(T):
 qh prog GG 189 [.ptr s.S 0,.int .i64 i,m] ⟨H,T⟩ (qAv (wP v.width.toNat (fx i)) H):=by
 refine qFF func189 ?_;have t:=h.c;have f:=K.look i T;simp only[spE,qw,qBV,qBL]at t
 cases hfx:fx i with
 | some x=>
  rw[hfx]at f;simp[f,qe,qp];exact⟨qGd,.inl rfl⟩
 | none=>
  rw[hfx]at f;have w:=yo E.1 (by omega);have A:2^v.width.toNat<=2^8:=qBF (by omega) (by omega);have B:0<2^v.width.toNat:=qDt _;have D:wP v.width.toNat none=List.range (2^v.width.toNat):=rfl;rw[D];obtain⟨N,C⟩:∃N,N=2^v.width.toNat:=⟨_,rfl⟩;rw[<- C]at w A B⊢;simp[f,t,I,show ¬v.width<0 by omega,IntKind.bits,w,qz,show N≠0 by omega,show(N:Int)<=549755813888 by omega];rw[show List.replicate N (AV.int .i64 0)=qD (List.replicate N 0) by simp[qD]];refine yu N (fun k ev σ=>ev 9=.ms H.length 0 N 1/\ev 32=.int .i64 (N:Int)/\ev 33=.int .i64 (k:Int)/\KpL [] H σ.H/\∃W,W.length=N/\σ.H[H.length]?=some (.cells (qD W))/\∀j,j<k->W[j]?=some j) ?_ ?_ ?_
  . exact⟨by simp,by simp,by simp,qGe,List.replicate N 0,by simp,lk0,fun j b=>absurd b (by omega)⟩
  . rintro k ev ⟨z,y⟩ R L G ⟨e,d,r,l,W,g,a,o⟩;have M:k+1<=N:=G;have F:=wr (n:=(k:Int)+1);have J:=(qBk.1 a).1;simp[e,d,r,show(k:Int)<N by omega,M,a,g,kJ,F];refine L _ _ ⟨by simp[e],by simp[d],by simp,l.setF (qBs _),W.set k k,by simp[g],qBo J,fun j b=>?_⟩;by_cases u:j=k
    . subst u;rw[qBo (by omega)]
    rw[qBn (Ne.symm u)];exact o j (by omega)
  rintro ev ⟨z,y⟩ ⟨e,d,r,l,W,g,a,o⟩;have O:W=List.range N:=by
   apply qCg;intro j;by_cases b:j<N
   . rw[o j b,qD6 b]
   rw[qBW (by omega),qBW (by simp;omega)]
  rw[O]at a;simp[e,d,r];exact⟨l,.inr ⟨H.length,by simp,qBs _,a⟩⟩
def jG(p:Problem)(i:Nat):Nat:=(zP p.vars i).toNat
def JK(lv:List Int)(i:Nat):Nat:=(lv.getD i 0).toNat
def wtP(p:Problem)(i v:Nat):Nat:=wtO ((je p.vars.length p.dists).getD i none) (v:Int)
def qi5(p i v):wtP p i v<=lim:=quh _ _
def qbH(p:Problem)(lv:List Int)(d:List Nd)(fx:Nat->Option Nat):List Nat->Nat->Nat
 |[],node=>if node=0 then 0 else 1
 |i::r,node=>if node=0 then 0 else(wP (jG p i) (fx i)).foldl (fun s v=>sat (s+sat (wtP p i v*qbH p lv d fx r (vG d (JK lv i) (jG p i) v node (jG p i))))) 0
def kd{α:Type}(f:α->Nat):∀(l:List α) (s:Nat),s<=lim->l.foldl (fun s v=>sat (s+f v)) s<=lim
 |[],s,h=>h
 |a::r,s,h=>kd f r _ (qcn _)
def qjD(p lv d fx g node):qbH p lv d fx g node<=lim:=by
 cases g with
 |nil=>unfold qbH lim;split<;>omega
 | cons i r=>
  unfold qbH;split
  . exact qDj _
  exact kd _ _ _ (qDj _)
abbrev Pt:=(Nat×Nat)×Nat×Nat
def ptE(q:Pt):AV×AV×Nat:=(.agg [.int .i64 (q.1.1:Int),.int .i64 (q.1.2:Int)],.int .i64 (q.2.1:Int),q.2.2)
def qep{x}:∀(E:List Pt) (k),(jQ (.agg [.int .i64 (x.1:Int),.int .i64 (x.2:Int)]) (E.map ptE) k=some none/\∀q∈E,q.1≠x)\/∃j q,E[j]?=some q/\q.1=x/\jQ (.agg [.int .i64 (x.1:Int),.int .i64 (x.2:Int)]) (E.map ptE) k=some (some (k+j,.int .i64 (q.2.1:Int)))
 |[],k=>.inl ⟨rfl,by simp⟩
 | e::E,k=>by
  have f:Zg (.agg [.int .i64 (x.1:Int),.int .i64 (x.2:Int)]) (.agg [.int .i64 (e.1.1:Int),.int .i64 (e.1.2:Int)])=some (decide (x=e.1)):=by
   obtain⟨a,b⟩:=x;obtain⟨⟨c,d⟩,r⟩:=e;simp only[Zg,jk,wc,if_true];congr 1;rw[qCo];simp;omega
  by_cases h:x=e.1
  . right;have hd:decide (x=e.1)=true:=(by simpa using h);rw[hd]at f;exact⟨0,e,rfl,h.symm,by simp[jQ,ptE,f]⟩
  have hd:decide (x=e.1)=false:=by simpa using h
  rw[hd]at f;rcases qep (x:=x) E (k+1) with⟨h1,h2⟩|⟨j,q,h1,h2,i⟩
  . left;refine⟨by simp only[qBz,ptE,jQ,f];exact h1,fun q g=>?_⟩;rcases qBN.1 g with rfl|g
    . exact fun e=>h e.symm
    exact h2 q g
  right;refine⟨j+1,q,by simpa using h1,h2,?_⟩;simp only[qBz,ptE,jQ,f];have:k+(j+1)=k+1+j:=by omega
  rw[this];exact i
def qvP(a b):zI (Dof prog) 175 (.agg [.int .i64 a,.int .i64 b])=true:=by
 simp[zI,Ww,kz,qP,z9,qCL]
def qpG(p:Problem)(lv:List Int)(d:List Nd)(fx:Nat->Option Nat)(g:List Nat)(K:Nat)(H:List Blk):Prop:=∃(E:List Pt) (n:Nat),H[K]?=some (.map (E.map ptE) n)/\∀q∈E,q.2.1=qbH p lv d fx (g.drop q.1.1) q.1.2
def qms.len{r a H n}(h:qms r a H n)(σ):Yk (Dof prog) σ 36 r=some (.int .i64 (a.length:Nat)):=by
 rcases h with rfl|⟨N,rfl,_⟩<;>simp
def qms.at{r}{b:List Nat}{H}{n:Nat}(h:qms r b H n){j x:Nat}(c:b[j]?=some x):∃a,zY (Dof prog) 36 r (.int .i64 (j:Int))=some a/\∀T,wZ (Dof prog) ⟨H,T⟩ 3 a=some (.int .i64 (x:Int)):=by
 have d:=(qBk.1 c).1;rcases h with rfl|⟨N,rfl,_,f⟩
 . exact⟨.rptr [.int .i64 (x:Int)],by simp[c,zW],fun T=>by simp⟩
 have e:(j:Int)<b.length:=by omega
 have g:j+1<=b.length:=d;exact⟨.ptr N j,by simp[e],fun T=>by simp[*,z5 c]⟩
def qms.keep{r a H H' n K}(h:qms r a H n)(b:KpL [K] H H')(d:K<n):qms r a H' n:=by
 rcases h with h|⟨N,h1,h2,c⟩
 . exact .inl h
 exact .inr ⟨N,h1,h2,b.2 _ _ c (by simp;omega)⟩
def quc(s:Spc)(g:List Nat):Prop:=∀i∈g,∃(v:Var) (l:Nat),s.p.vars[i]?=some v/\0<=v.width/\v.width<=8/\s.lv[i]?=some (l:Int)/\l<=20/\∀w,(je s.p.vars.length s.p.dists)[i]?=some (some w)->w≠[]/\w.length<=1000
def qxV(s:Spc)(d:List Nd)(fx:Nat->Option Nat)(g:List Nat)(K at_ node:Nat)(H:List Blk)(r:AV)(σ':St):Prop :=
 r=.int .i64 (qbH s.p s.lv d fx (g.drop at_) node:Nat)/\KpL [K] H σ'.H/\qpG s.p s.lv d fx g K σ'.H
def qf0:List (Nat×Sch×List Nat):=[(13,.step 0 [15,14] (.step 1 [15,14] (.step 2 [15,14] (.step 3 [15,14] (.step 4 [15,14,13,6,5] (.step 7 [15,14,13,12] (.step 8 [15,14,13,12,9] (.step 9 [15,14,13,12] (.step 10 [15,14,13,12] (.step 11 [15,14,13,12] (.fork (.cons 5 (.step 6 [15,14,13] (.step 12 [15,14,13] (.step 13 [15,14] (.step 14 [15] (.step 15 [] (.done)))))) (.cons 12 (.step 5 [15,14,13,6] (.step 6 [15,14,13] (.step 13 [15,14] (.step 14 [15] (.step 15 [] (.done)))))) (.nil))))))))))))),[12,14])]
def qjy{s d tok}(hd:DagOk d)(h6:s.dv=.sl 3 (d.map qU) tok){fx}(f0:∀i x,fx i=some x->x<65536){m g}(hg:quc s g)(i3:g.length<=1000){K}(b2:s.S≠K)(b8:s.L≠K)(b6:s.LL≠K)(c6:∀F,m=.map F->F≠K):
 ∀ (k at_),at_+k=g.length->∀(node) (H) (T),node<d.length->SpOk s H->qi0 m fx H->qpG s.p s.lv d fx g K H ->
  qh prog GG 138 [.ptr s.S 0,.sl 1 (g.map zW) .none,m,.map K,.agg [.int .i64 at_,.int .i64 node]] ⟨H,T⟩ (qxV s d fx g K at_ node H):=by
 intro k
 induction k with
 | zero=>
  intro at_ e8 node H T hn hs hf b7;refine qFE ⟨false,qf0,[],[]⟩ func138 ?_;have b4:(at_:Int)=g.length:=by omega
  obtain⟨E,n,t,G⟩:=b7;have fin:∀u,qxV s d fx g K at_ node H (.int .i64 (if node=0 then 0 else 1:Nat)) ⟨H++u,T⟩:=fun u=>⟨by rw[show g.drop at_=[] from qBZ (by omega)];rfl,qGe,E,n,qa t _,G⟩
  by_cases B:node=0
  . subst B;simp;exact fin _
  have i4:¬(node:Int)=0:=by omega
  rw[if_neg B]at fin;simp[*];exact fin _
 | succ k ih=>
  intro at_ e8 node H T hn hs hf b7;refine qFE ⟨false,qf0,[],[]⟩ func138 ?_;obtain⟨i,hi⟩:∃i,g[at_]?=some i:=⟨_,qBm (by omega)⟩;obtain⟨v,l,hv,d5,c7,hl,g6,e5⟩:=hg i (qBl hi);have d3:g.drop at_=i::g.drop (at_+1):=by
   obtain⟨h1,h2⟩:=qBk.1 hi;rw[qBE h1,h2]
  have b4:¬(at_:Int)=g.length:=by omega
  obtain⟨E,n,t,G⟩:=b7;have c4:=(qBk.1 t).1;by_cases B:node=0
  . subst B;have fin:∀u,qxV s d fx g K at_ 0 H (.int .i64 0) ⟨H++u,T⟩:=fun u=>⟨by rw[d3];rfl,qGe,E,n,qa t _,G⟩
    simp;exact fin _
  have Y:=qvP at_ node;rcases qep (x:=(at_,node)) E 0 with⟨C,i1⟩|⟨j,q,b1,d0,C⟩
  case inr=>
   have d6:=G q (qBl b1);rw[d0]at d6;have fin:∀u,qxV s d fx g K at_ node H (.int .i64 (q.2.1:Nat)) ⟨H++u,T⟩:=fun u=>⟨by rw[d6],qGe,E,n,qa t _,G⟩
   have a6:∀(u:List Blk) (T:List (Option Nat)),zF (Dof prog) ⟨H++u,T⟩ 173 (.map K) (.agg [.int .i64 at_,.int .i64 node]) true=some (.tup [.int .i64 (q.2.1:Int),.bool true]):=fun u T=>by
    simp only[zF,qx2,Y,if_true];simp[qa t,C]
   simp[B,b4,a6];exact fin _
  have a6:∀(u:List Blk) (T:List (Option Nat)),zF (Dof prog) ⟨H++u,T⟩ 173 (.map K) (.agg [.int .i64 at_,.int .i64 node]) true=some (.tup [.int .i64 0,.bool false]):=fun u T=>by
   simp only[zF,qx2,Y,if_true];simp[qa t,C,qbN]
  have g7:=hs.keep (H':=H++[.cells [.int .i64 at_,.int .i64 node]]) (bs:=[]) qGe (by simp) (by simp) (by simp);have f8:=hf.keep (H':=H++[.cells [.int .i64 at_,.int .i64 node]]) (bs:=[]) qGe (by simp);have c8:=qb0 g7 f8 hv ⟨d5,c7⟩ T;obtain⟨b,a1⟩:∃b,b=wP v.width.toNat (fx i):=⟨_,rfl⟩;rw[<- a1]at c8;have g1:∀x∈b,x<65536:=fun x A=>by
   rw[a1]at A
   cases hfi:fx i with
   | none=>
    rw[hfi]at A;have:=qCe.1 A;have:2^v.width.toNat<=2^8:=qBF (by omega) (by omega);omega
   | some y=>
    rw[hfi]at A;have:x=y:=by simpa[wP] using A
    rw[this];exact f0 i y hfi
  have h8:b.length<=256:=by
   rw[a1]
   cases hfi:fx i with
   |none=>simp only[wP,qDX];exact qCq (qBF (by omega) (show v.width.toNat<=8 by omega)) (by decide)
   |some y=>simp[wP]
  have d1:qbH s.p s.lv d fx (g.drop at_) node=b.foldl (fun a x=>sat (a+sat (wtP s.p i x*qbH s.p s.lv d fx (g.drop (at_+1)) (vG d l v.width.toNat x node v.width.toNat)))) 0:=by
   rw[d3,a1];simp only[qbH,if_neg B,show jG s.p i=v.width.toNat by simp[jG,zP,hv],show JK s.lv i=l by simp[JK,qBw,hl]]
  obtain⟨f,b5⟩:∃f:Nat->Nat,∀x,f x=sat (wtP s.p i x*qbH s.p s.lv d fx (g.drop (at_+1)) (vG d l v.width.toNat x node v.width.toNat)):=⟨_,fun _=>rfl⟩;have e7:∀x,f x<=lim:=fun x=>by rw[b5];exact qcn _
  simp only[<- b5]at d1;simp[B,b4,a6,hi,zW];refine qFJ c8 ?_;rintro r ⟨H1,T1⟩ ⟨c0,Q⟩;have h5:=Q.len;have Q:qms r b H1 H.length:=Q.imp id fun⟨N,h1,h2,h3⟩=>⟨N,h1,by simp at h2;omega,h3⟩
  simp[-Yk,h5];refine qFW b (fun e ev σ=>ev 0=.ptr s.S 0/\ev 1=.sl 1 (g.map zW) .none/\ev 2=m/\ev 3=.map K/\ev 9=.ptr H.length 0/\ev 13=.int .i64 (e.foldl (fun a x=>sat (a+f x)) 0:Nat)/\ev 14=.int .i64 (i:Int)/\ev 44=r/\ev 45=.int .i64 b.length/\ev 46=.int .i64 e.length/\KpL [K] H σ.H/\qpG s.p s.lv d fx g K σ.H/\qms r b σ.H H.length/\σ.H[H.length]?=some (.cells [.int .i64 at_,.int .i64 node])) ?_ ?_ ?_
  . exact⟨by simp,by simp,by simp,by simp,by simp,by simp,by simp,by simp,by simp,by simp,((qGe.trans c0).sub (by simp)),(⟨E,n,c0.2 _ _ (qa t _) (by simp),G⟩),Q,(c0.2 _ _ lk0 (by simp))⟩
  . rintro e x rest ev ⟨X,T2⟩ R hR h9 A h7 ⟨e0,e1,e2,U,e9,Z,a0,b0,W,a2,O,a8,b9,V⟩;obtain⟨a,h0,g0⟩:=b9.at A;have g3:=wr (n:=(e.length:Int)+1);have i0:=g1 x (qBl A);have c5:=hs.keep O (by simpa using b2) (by simpa using b8) (by simpa using b6);have f2:=hf.keep O (fun F hF=>by simpa using c6 F hF);have c3:=wr (n:=(at_:Int)+1);have d8:=V9 c5 hd h6 hv hl ⟨d5,c7⟩ g6 hn (val:=x) (by omega) T2;have g2:=Y6 hd hn l v.width.toNat x v.width.toNat;have f6:=b5 x;have f4:=e7 x;generalize i2:vG d l v.width.toNat x node v.width.toNat=nd at *;simp[-zY,-wZ,b0,W,a2,show(e.length:Int)<b.length by omega,h0,g0];rw[qG rfl];simp[qX,e0,e1,e2,U,e9,a0,V,c3];refine⟨qFJ d8 ?_,qFJ d8 ?_⟩
    all_goals
     rintro w ⟨H3,T3⟩ ⟨rfl,a5⟩;have a3:KpL [K] X H3:=a5.sub (by simp);have c2:=a5.2 _ _ V (by simp);have c9:=c5.keep a3 (by simpa using b2) (by simpa using b8) (by simpa using b6);have h4:=f2.keep a3 (fun F hF=>by simpa using c6 F hF);have g9:qpG s.p s.lv d fx g K H3:=by
      obtain⟨D,P,h1,h2⟩:=a8;exact⟨D,P,a5.2 _ _ h1 (by simp),h2⟩
     have d4:=ih (at_+1) (by omega) nd H3 T3 g2 c9 h4 g9;simp only[Int.natCast_add,Int.natCast_one]at d4;simp[qX,c2,c3,qV,zt,qx];refine qFJ d4 ?_;rintro w ⟨H4,T4⟩ ⟨rfl,a4,g8⟩;have c1:=c9.keep a4 (by simpa using b2) (by simpa using b8) (by simpa using b6);have f7:=a4.2 _ _ c2 (by simp;omega);have d2:=c1.c;simp only[spE,qw,qBV,qBL]at d2;obtain⟨o,ho⟩:∃o,(je s.p.vars.length s.p.dists)[i]?=some o:=⟨_,qBm (by rw[yF];exact(qBk.1 hv).1)⟩;have d9:=qfq s.p c1.w ho (fun w hw=>e5 w (by rw[ho,hw])) (x:Int) T4;rw[<- show wtP s.p i x=wtO o (x:Int) by simp[wtP,qBw,ho]]at d9;have f1:=qi5 s.p i x;have f3:=qjD s.p s.lv d fx (g.drop (at_+1)) nd;generalize qbH s.p s.lv d fx (g.drop (at_+1)) nd=M at *;generalize wtP s.p i x=wx at *;have f9:e.foldl (fun a x=>sat (a+f x)) 0<=lim:=kd f e 0 (qDj _);have g5:(e++[x]).foldl (fun a x=>sat (a+f x)) 0=sat (e.foldl (fun a x=>sat (a+f x)) 0+f x):=(by rw[qCb];rfl);generalize e.foldl (fun a x=>sat (a+f x)) 0=f5 at *;have ht:=qfA wx M f1 f3;rw[<- f6]at ht;have hp:=qkf f5 (f x) f9 f4;simp[qX,e0,Z,a0,d2];refine qFJ d9 ?_;rintro w σ ⟨rfl,rfl⟩;simp;refine qFG ht ?_ rfl;simp;refine qFG hp ?_ rfl;simp[a2,g3];exact hR _ _ ⟨by simp[e0],by simp[e1],by simp[e2],by simp[U],by simp[e9],by simp[g5],by simp[a0],by simp[b0],by simp[W],by simp,(O.trans a3).trans a4,g8,(b9.keep a3 c4).keep a4 c4,f7⟩
  rintro ev ⟨X,T2⟩ ⟨e0,e1,e2,U,e9,Z,a0,b0,W,a2,O,a8,b9,V⟩;rw[<- d1]at Z;obtain⟨I,n2,a7,d7⟩:=a8;have e4:=(qBk.1 a7).1;generalize a9:qbH s.p s.lv d fx (g.drop at_) node=M at *;obtain⟨D,P,g4,e6⟩:∃(D:List Pt) (P:Nat),zq (Dof prog) ⟨X,T2⟩ 173 (.map K) (.agg [.int .i64 at_,.int .i64 node]) (.int .i64 (M:Nat))=some ⟨X.set K (.map (D.map ptE) P),T2⟩/\∀q∈D,q.2.1=qbH s.p s.lv d fx (g.drop q.1.1) q.1.2:=by
   rcases qep (x:=(at_,node)) I 0 with⟨C,_⟩|⟨j,q,b1,d0,C⟩
   . refine⟨I++[((at_,node),M,n2)],n2+1,?_,fun q z=>?_⟩
     . simp only[zq,qx2,Y,if_true];simp[a7,C,ptE]
     . rcases qBC.1 z with z|z
       . exact d7 q z
       . rw[qB0]at z;rw[z];exact a9.symm
   refine⟨I.modify j fun q=>((at_,node),M,q.2.2),n2,?_,fun q z=>?_⟩
   . simp only[zq,qx2,Y,if_true];simp[a7,C];congr 2;apply qCg;intro k;simp only[qDg,qBO];by_cases J:j=k
     . subst J;cases I[j]?<;>simp[ptE]
     cases I[k]?<;>simp[J]
   obtain⟨k,h⟩:=qB1 z;rw[qDg]at h;by_cases J:j=k
   . subst J;rw[b1]at h;simp at h;rw[<- h];exact a9.symm
   cases he:I[k]? with
   |none=>rw[he]at h;simp at h
   | some y=>
    rw[he]at h;simp[J]at h;rw[<- h];exact d7 y (qBl he)
  simp[U,e9,Z,W,a2,V,g4];exact⟨by rw[a9],O.trans (qGf (by simp)),D,P,qBo e4,e6⟩
def eqE(s:Str)(n:Int):Ex:=.mk 15 0 [] [wO s,z8 n]
def qeq(s n):pre (eqE s n)=[eqE s n,wO s,z8 n]:=by
 rw[jv];show eqE s n::vt [wO s,z8 n]=_;rw[ku,qaN,ku,QQ];rfl
def qqw{s}(b:kW s=true){n}(h0:0<=n)(h1:n<=65535):EOk s 2 3 (eqE s n):=by
 refine⟨fun x a=>?_,?_,by rw[qeq];simp⟩
 . rw[qeq]at a;simp only[qBN,qDk,or_false]at a;rcases a with rfl|rfl|rfl
   . exact⟨by simp[qy,eqE,qk,zE,Ex.op,Ex.n,Ex.name,Ex.args],by simp[eqE,Ex.op],by simp[eqE,Ex.op],by simp[eqE,Ex.op]⟩
   . exact⟨qd3 b,by simp[wO,Ex.op],by simp[wO,Ex.op],fun _=>rfl⟩
   exact⟨KZ h0 h1,by simp[z8,Ex.op],by simp[z8,Ex.op],by simp[z8,Ex.op]⟩
 rw[w8];simp[eqE,wO,z8,w8]
def qgP{p:Problem}(h:VQ p)(d:qg p=0){i:Nat}{v:Var}(hi:p.vars[i]?=some v){n:Int}(h0:0<=n)(h1:n<=65535):zz p.vars (eqE v.name n)=0/\ZK (eqE v.name n):=by
 have a:=qBl hi;have c:=zb (zJ d v a);have b:=qqw c.1 h0 h1;exact⟨b.valid (by omega) (by omega) (by unfold wK;rw[qBM];exact⟨v,a,by simp⟩),b.tame (h.names v a) (by omega) (by omega)⟩
def qdq{s:Spc}{H}(h:SpOk s H){i:Nat}{v:Var}(b:s.p.vars[i]?=some v)(n:Int)(T:List (Option Nat)):
 qh prog GG 140 [.ptr s.S 0,.int .i64 i,.int .i64 n] ⟨H,T⟩ (fun r σ'=>r=.agg (qo (eqE v.name n))/\KpL [] H σ'.H):=by
 refine qh.up (qFF func140 ?_);have a:=h.c;simp only[spE,qw,qBV,qBL]at a;simp[qa a,b,qV,zt,qx,qe,qp];refine⟨_,?_,rfl,qGe⟩;simp[eqE,qd,wO,z8,Leq,zl,ym]
def qlP(R tok)(h:R≠[]\/tok.known=true):Pure prog GG 139 [.sl 4 (R.map qo) tok] (.sl 4 (R.map qo) .tight):=by
 refine qFC o0 true func139 ?_;have a:=qkX (en:=qo) (sz:=4) (R:=R) (tok:=tok) (n:=(R.length:Int)) rfl h;simp[a];rw[ql (by simp)];exact⟨by simp,qFN _⟩
def qbK(vs:List Var):List (Str×AV×Nat):=vs.zipIdx.map fun q=>(q.1.name,.bool true,q.2)
def qkB{vs:List Var}{i}{v:Var}(a:vs[i]?=some v):qbK (vs.take (i+1))=qbK (vs.take i)++[(v.name,.bool true,i)]:=by
 have b:=(qBk.1 a).1;unfold qbK;rw[qBQ,a];simp[qDB,qC9 (qFr b)]
def qkC{vs:List Var}{j:Nat}{q:Str×AV×Nat}(h:(qbK vs)[j]?=some q):∃v,vs[j]?=some v/\q=(v.name,.bool true,j):=by
 unfold qbK at h;rw[qBO,qD0]at h
 cases hv:vs[j]? with
 |none=>rw[hv]at h;simp at h
 |some v=>rw[hv]at h;simp at h;exact⟨v,rfl,h.symm⟩
def qsl{vs:List Var}(c:(vs.map (·.name)).Nodup){i}{v:Var}(b:vs[i]?=some v)(k):jQ (.str v.name) ((qbK (vs.take i)).map Ye) k=some none:=by
 have l:=(qBk.1 b).1;rcases ZU (s:=v.name) (qbK (vs.take i)) k with⟨h1,_⟩|⟨j,q,h1,h2,_⟩
 . exact h1
 exfalso;obtain⟨w,a,rfl⟩:=qkC h1;rw[qCi]at a;split at a
 . rename_i e;obtain⟨d,f⟩:=qBk.1 a;obtain⟨_,g⟩:=qBk.1 b;have h:=qC2.1 c;have h2:w.name=v.name:=h2;exact h j i (by simpa using d) (by simpa using l) e (by rw[qC1,qC1,f,g,h2])
 cases a
def qsk{vs v}(b:v∈vs)(k):∃j,jQ (.str v.name) ((qbK vs).map Ye) k=some (some (j,.bool true)):=by
 rcases ZU (s:=v.name) (qbK vs) k with⟨_,h2⟩|⟨j,q,h1,h2,a⟩
 . exfalso;obtain⟨i,hi⟩:=qB1 b;have c:(v.name,AV.bool true,i)∈qbK vs:=qBH.2 ⟨(v,i),qBl (i:=i) (by rw[qD0,hi];simp),rfl⟩;exact h2 _ c rfl
 obtain⟨w,_,rfl⟩:=qkC h1;exact⟨k+j,a⟩
def We{vs e}(b:zz vs e=0)(g:ZK e):zr e=0/\zS [3,24] e=[]/\(∀s∈zS [2] e,∃v∈vs,v.name=s)/\(zS [2] e).length<=100000:=by
 have c:zr e=0/\Yy e=false/\ZD vs e=false:=by
  unfold zz at b;split at b
  . rename_i h;exact absurd b h
  rename_i h;split at b
  . cases b
  split at b
  . cases b
  rename_i h2 d;exact⟨qCf.1 h,by simpa using h2,by simpa using d⟩
 refine⟨c.1,?_,fun s f=>?_,K7 g.2.2⟩
 . have:=Q9 (e:=e);rw[c.2.1]at this
   cases hl:zS [3,24] e with
   |nil=>rfl
   |cons a r=>rw[hl]at this;simp at this
 have:=QX (l:=vs) (e:=e);rw[c.2.2,qCM]at this;have h1:=this s f;simp only[qC5,Bool.not_eq_false,wK,qBM]at h1;obtain⟨v,j,i⟩:=h1;exact⟨v,j,by simpa using i⟩
def qph(p)(h:VQ p)(hv:qg p=0)(l:List Ex)(hf:l.length<=1000000)(V:∀e∈l,zz p.vars e=0/\ZK e):Pure prog GG 251 [.agg (qw p),.sl 4 (l.map qo) .none] (.int .i64 0):=by
 refine qFD func251 ?_;have B:=yw p h;rw[hv]at B;have b1:=y8 hv;have b2:=h.vars;simp only[qw]at B;simp;refine qFG B ?_;simp;refine qFW l (fun d ev σ=>ev 1=.sl 4 (l.map qo) .none/\ev 2=.ptr 0 0/\ev 17=.sl 4 (l.map qo) .none/\ev 18=.int .i64 l.length/\ev 19=.int .i64 d.length/\∃u T,σ=⟨.cells (qw p)::u,T⟩) ?_ ?_ ?_
 . exact⟨by simp,by simp,by simp,by simp,by simp,_,_,rfl⟩
 . rintro d e rest ev σ R x hd t W ⟨m,U,P,C,D,u,T,rfl⟩;have o:=wr (n:=(d.length:Int)+1);have G:(d.length:Int)<l.length:=(by omega);obtain⟨F,c⟩:=V e (qBl t);have L:=Km e c.1 (by have:=c.2.1;omega);rw[(We F c).1]at L;have r:=qd e;rw[r]at L;simp[P,C,D,G,t,r];refine qFG L ?_;simp[D,o];exact x _ _ ⟨by simp[m],by simp[U],by simp[P],by simp[C],by simp,_,_,rfl⟩
 rintro ev σ ⟨m,U,P,C,D,u,T,rfl⟩;simp[*];refine qFW p.vars (fun d ev σ=>ev 1=.sl 4 (l.map qo) .none/\ev 7=.map (u.length+1)/\ev 29=.sl 4 (p.vars.map qu) .none/\ev 30=.int .i64 p.vars.length/\ev 31=.int .i64 d.length/\σ.H[u.length+1]?=some (.map ((qbK (p.vars.take d.length)).map Ye) d.length)) ?_ ?_ ?_
 . exact⟨by simp[m],by simp,by simp,by simp,by simp,by simp[qbK]⟩
 . rintro d v rest ev ⟨J,T1⟩ R x hd M W ⟨m,b,O,I,Z,a⟩;have o:=wr (n:=(d.length:Int)+1);have G:(d.length:Int)<p.vars.length:=(by omega);have a8:=qsl b1 M 0;have a6:=qkB M;have a2:=(qBk.1 a).1;have a0:∀(w:List Blk) (T:List (Option Nat)),zq (Dof prog) ⟨J++w,T⟩ 316 (.map (u.length+1)) (.str v.name) (.bool true)=some ⟨J.set (u.length+1) (.map ((qbK (p.vars.take (d.length+1))).map Ye) (d.length+1))++w,T⟩:=fun w T=>by
    rw[a6,qCl];generalize (qbK (p.vars.take d.length)).map Ye=E at *;simp[zq,qa a,zI,a8,kF a,Ye]
   generalize a9:(qbK (p.vars.take (d.length+1))).map Ye=E2 at *;simp[b,O,I,Z,G,M,a0,o];refine x _ _ ⟨by simp[m],by simp[b],by simp[O],by simp[I],by simp,?_⟩;rw[qBp,qBR,a9];exact qa (qBo a2) _
 rintro ev ⟨J,T1⟩ ⟨m,b,O,I,Z,a⟩;rw[qCS]at a;simp[*];refine qFW l (fun d ev σ=>ev 7=.map (u.length+1)/\ev 39=.sl 4 (l.map qo) .none/\ev 40=.int .i64 l.length/\ev 41=.int .i64 d.length/\σ.H[u.length+1]?=some (.map ((qbK p.vars).map Ye) p.vars.length)) ?_ ?_ ?_
 . exact⟨by simp[b],by simp,by simp,by simp,a⟩
 . rintro d e rest ev ⟨H2,T2⟩ R x hd t W ⟨b,i,g,f,a⟩;have o:=wr (n:=(d.length:Int)+1);obtain⟨F,c⟩:=V e (qBl t);obtain⟨_,h0,a4,b6⟩:=We F c;have K:=QE e c.1 c.2.2;have S:=Jc e c.1 c.2.2;have r:=qd e;rw[h0]at K;rw[r]at K S;generalize zS [2] e=N at *;simp[i,g,f,show(d.length:Int)<l.length by omega,t,r];refine qFG K ?_;simp;refine qFG S ?_;simp;refine qFW N (fun z ev σ=>ev 7=.map (u.length+1)/\ev 39=.sl 4 (l.map qo) .none/\ev 40=.int .i64 l.length/\ev 41=.int .i64 d.length/\ev 50=.sl 1 (N.map jo) .none/\ev 51=.int .i64 N.length/\ev 52=.int .i64 z.length/\σ.H[u.length+1]?=some (.map ((qbK p.vars).map Ye) p.vars.length)) ?_ ?_ ?_
   . exact⟨by simp[b],by simp[i],by simp[g],by simp[f],by simp,by simp,by simp,qa a _⟩
   . rintro z s b4 ev ⟨H3,X⟩ R2 a5 b5 Y b7 ⟨b,i,g,f,Q,y,A,a⟩;have a1:=wr (n:=(z.length:Int)+1);obtain⟨v,a3,b0⟩:=a4 s (qBl Y);obtain⟨j,hj⟩:=qsk a3 0;rw[b0]at hj;have a7:zF (Dof prog) ⟨H3,X⟩ 316 (.map (u.length+1)) (.str s) false=some (.bool true):=by
      generalize (qbK p.vars).map Ye=E at *;simp[*,zF,zI]
     simp[b,Q,y,A,show(z.length:Int)<N.length by omega,Y,a7,a1];exact a5 _ _ ⟨by simp[b],by simp[i],by simp[g],by simp[f],by simp[Q],by simp[y],by simp,a⟩
   rintro ev ⟨H3,X⟩ ⟨b,i,g,f,Q,y,A,a⟩;simp[f,y,A,o];exact x _ _ ⟨by simp[b],by simp[i],by simp[g],by simp,a⟩
 rintro ev ⟨H2,T2⟩ ⟨b,i,g,f,a⟩;simp[g,f]
def WT(p)(h:VQ p)(d:qg p=0)(i:p.vars.length<=20)(hb:kj p.vars (qI p)<=18)(l)(g:l.length<=1000000)(b:∀e∈l,zz p.vars e=0/\ZK e):
 Pure prog GG 192 [.agg (qw p),.sl 4 (l.map qo) .none] (.tup [.bool (jw p.vars l),.int .i64 0]):=by
 refine qFD func192 ?_;have f:=qph p h d l g b;have c:=Zu p l h i hb (by show l.length<_;omega) (fun e a=>(b e a).2);have j:Yz p l=jw p.vars l:=by
  have:l.all (wJ p.vars)=true:=qBx.2 fun e a=>decide_eq_true (b e a).1
  unfold Yz;rw[this];simp[d]
 rw[j]at c;simp at f c;simp;refine qFG f ?_;simp;refine qFG c ?_;simp
def YE(p:Problem)(i:Nat):Str:=match p.vars[i]? with
 |some v=>v.name
 |none=>[]
noncomputable def qea(p:Problem)(fx:Nat->Option Nat):List Nat->List Ex->Nat
 |[],R=>if jw p.vars R=true then 1 else 0
 |i::r,R=>if jw p.vars R=true then(wP (jG p i) (fx i)).foldl (fun s v=>sat (s+sat (wtP p i v*qea p fx r (R++[eqE (YE p i) (v:Int)])))) 0 else 0
def qjA(p fx g R):qea p fx g R<=lim:=by
 cases g with
 |nil=>unfold qea lim;split<;>omega
 | cons i r=>
  unfold qea;split
  . exact kd _ _ _ (qDj _)
  exact qDj _
def quX:Tok->Tok
 |.chain .. =>.none
 |t=>t
def qtw(R:List Ex)(tok:Tok):Prop:=R≠[]\/tok=.tight
def qtw.p{R tok}(h:qtw R tok):R≠[]\/(quX tok).known=true:=h.imp id fun e=>by rw[e];rfl
def qfZ:List (Nat×Sch×List Nat):=[(10,.step 0 [10,9,8,7,1] (.step 1 [10,9,8,7] (.step 2 [10,9,8,7] (.step 3 [10,9,8,7,5,4] (.step 4 [10,9,8,7,5] (.step 5 [10,9,8,7] (.step 6 [10,9,8,7] (.step 7 [10,9,8] (.step 8 [10,9] (.step 9 [10] (.step 10 [] (.done))))))))))),[7]),(11,.step 0 [18,17] (.step 1 [18,17,16,15,9,4,3,2] (.step 2 [18,17,16,15,9,4,3] (.step 3 [18,17,16,15,9,4] (.step 4 [18,17,16,15,9] (.step 5 [18,17,16,15,9,7,6] (.step 6 [18,17,16,15,9,7] (.step 7 [18,17,16,15,9] (.step 8 [18,17,16,15,9] (.step 10 [18,17,16,15] (.step 11 [18,17,16,15,12] (.step 12 [18,17,16,15] (.step 13 [18,17,16,15] (.step 14 [18,17,16,15] (.step 9 [18,17,16,15] (.step 15 [18,17,16] (.step 16 [18,17] (.step 17 [18] (.step 18 [] (.done))))))))))))))))))),[9,15])]
def qm1{s}(L:VQ s.p)(Q:qg s.p=0)(a4:s.p.vars.length<=20)(hb:kj s.p.vars (qI s.p)<=18){fx}(b2:∀i x,fx i=some x->x<65536){m}:
 ∀ (g) (R) (tok) (H) (T),quc s g->(∀e∈R,zz s.p.vars e=0/\ZK e)->R.length+g.length<=100000->qtw R tok->SpOk s H->qi0 m fx H ->
  qh prog GG 141 [.ptr s.S 0,.sl 1 (g.map zW) .none,m,.sl 4 (R.map qo) tok] ⟨H,T⟩ (fun r σ'=>r=.int .i64 (qea s.p fx g R:Nat)/\KpL [] H σ'.H):=by
 intro g
 induction g with
 | nil=>
  intro R tok H T V I a8 a7 B W;refine qFE ⟨false,qfZ,[],[]⟩ func141 ?_;have z:=WT s.p L Q a4 hb R (by omega) I;have A:=B.c;simp only[spE,qw,qBV,qBL]at A;simp only[qw]at z;have d5:qea s.p fx [] R=if jw s.p.vars R=true then 1 else 0:=rfl
  rw[d5];simp[A];refine qFH z (by cases tok<;>simp) (by cases tok<;>simp[zl,Leq,qFP]) ?_
  cases hsol:jw s.p.vars R with
  | false=>
   simp[unA];exact qGd
  | true=>
   simp[unA];exact qGd
 | cons i r ih=>
  intro R tok H T V I a8 a7 B W;refine qFE ⟨false,qfZ,[],[]⟩ func141 ?_;have z:=WT s.p L Q a4 hb R (by omega) I;have A:=B.c;simp only[spE,qw,qBV,qBL]at A;simp only[qw]at z;obtain⟨v,l,u,d4,c4,hl,e9,b0⟩:=V i (by simp);have a3:=qb0 B W u ⟨d4,c4⟩ T;obtain⟨d,F⟩:∃d,d=wP v.width.toNat (fx i):=⟨_,rfl⟩;rw[<- F]at a3;have c2:∀x∈d,x<65536:=fun x h=>by
   rw[F]at h
   cases hfi:fx i with
   | none=>
    rw[hfi]at h;have:=qCe.1 h;have:2^v.width.toNat<=2^8:=qBF (by omega) (by omega);omega
   | some y=>
    rw[hfi]at h;have:x=y:=by simpa[wP] using h
    rw[this];exact b2 i y hfi
  have d8:d.length<=256:=by
   rw[F]
   cases hfi:fx i with
   |none=>simp only[wP,qDX];exact qCq (qBF (by omega) (show v.width.toNat<=8 by omega)) (by decide)
   |some y=>simp[wP]
  have a6:qea s.p fx (i::r) R=if jw s.p.vars R=true then d.foldl (fun a x=>sat (a+sat (wtP s.p i x*qea s.p fx r (R++[eqE v.name (x:Int)])))) 0 else 0:=by
   rw[F,<- show jG s.p i=v.width.toNat by simp[jG,zP,u],<- show YE s.p i=v.name by simp[YE,u]];rfl
  obtain⟨f,U⟩:∃f:Nat->Nat,∀x,f x=sat (wtP s.p i x*qea s.p fx r (R++[eqE v.name (x:Int)])):=⟨_,fun _=>rfl⟩;have b1:∀x,f x<=lim:=fun x=>by rw[U];exact qcn _
  simp only[<- U]at a6;rw[a6];simp[A];refine qFH z (by cases tok<;>simp) (by cases tok<;>simp[zl,Leq,qFP]) ?_
  cases hsol:jw s.p.vars R with
  | false=>
   simp[unA];exact qGd
  | true=>
   simp[unA,zW,show ¬(r.length:Int)+1=0 by omega];refine qFJ a3 ?_;rintro w ⟨H1,T1⟩ ⟨d6,Z⟩;have c9:=Z.len;simp[-Yk,c9];refine qFW d (fun b ev σ=>ev 0=.ptr s.S 0/\ev 1=.sl 1 ((i::r).map zW) .none/\ev 2=m/\ev 3=.sl 4 (R.map qo) tok/\ev 11=.int .i64 (b.foldl (fun a x=>sat (a+f x)) 0:Nat)/\ev 38=w/\ev 39=.int .i64 d.length/\ev 40=.int .i64 b.length/\KpL [] H σ.H/\qms w d σ.H H.length) ?_ ?_ ?_
   . exact⟨by simp,by simp[zW],by simp,by simp,by simp,by simp,by simp,by simp,d6,Z⟩
   . rintro b x rest ev ⟨H2,T2⟩ R2 c8 e5 h d7 ⟨e0,e1,e2,J,a1,O,D,G,C,Y⟩;obtain⟨a,d1,c1⟩:=Y.at h;have c3:=wr (n:=(b.length:Int)+1);have e6:=c2 x (qBl h);have a2:=B.keep C (by simp) (by simp) (by simp);have b6:=W.keep C (by simp);have c5:=qlP R (quX tok) a7.p;have c7:=qdq a2 u (x:Int) T2;have f1:=qgP L Q u (n:=(x:Int)) (by omega) (by omega);have e7:=jq (eqE v.name (x:Int));have d9:=zg (eqE v.name (x:Int));have e8:=fun H T=>qa7 (R:=R) (X:=eqE v.name (x:Int)) (H:=H) (T:=T) (by omega)
     have d0:=fun n H T=>ih (R++[eqE v.name (x:Int)]) (.chain n 1) H T (fun j hj=>V j (by simp[hj])) (fun e t=>by
      rcases qBC.1 t with t|t
      . exact I e t
      rw[qB0]at t;rwa[t]) (by rw[qBp];simp at a8⊢;omega) (.inl (by simp))
     have b9:=U x;have b7:=b1 x;have e4:(((i::r).map zW).take (r.length+1)).drop 1=r.map zW:=by
      rw[qBr (by simp)];rfl
     generalize eqE v.name (x:Int)=X at *;simp[-zY,-wZ,O,D,G,show(b.length:Int)<d.length by omega,d1,c1];rw[qG rfl];simp[-qL,qX,J];refine qFH c5 (by cases tok<;>simp) (by cases tok<;>simp[quX]) ?_;simp[*,-qL,qX,zW];refine qFJ c7 ?_;rintro w3 ⟨H3,K⟩ ⟨rfl,E⟩;have P:=a2.keep E (by simp) (by simp) (by simp);have d3:=b6.keep E (by simp);have d2:=P.c;simp only[spE,qw,qBV,qBL]at d2;simp[*,-qL,qX,qe,qp];rw[qG rfl];obtain⟨o,M⟩:∃o,(je s.p.vars.length s.p.dists)[i]?=some o:=⟨_,qBm (by rw[yF];exact(qBk.1 u).1)⟩;have a9:=qfq s.p P.w M (fun w hw=>b0 w (by rw[M,hw])) (x:Int) (K++[some 1]);rw[<- show wtP s.p i x=wtO o (x:Int) by simp[wtP,qBw,M]]at a9;have b4:=qi5 s.p i x;have b5:=qjA s.p fx r (R++[X]);have a0:=d0 K.length H3 (K++[some 1]) P d3;generalize qea s.p fx r (R++[X])=sd at *;generalize wtP s.p i x=wx at *;have c0:b.foldl (fun a x=>sat (a+f x)) 0<=lim:=kd f b 0 (qDj _);have c6:(b++[x]).foldl (fun a x=>sat (a+f x)) 0=sat (b.foldl (fun a x=>sat (a+f x)) 0+f x):=(by rw[qCb];rfl);generalize b.foldl (fun a x=>sat (a+f x)) 0=b8 at *;have ht:=qfA wx sd b4 b5;rw[<- b9]at ht;have hp:=qkf b8 (f x) c0 b7;simp only[qCl,qBz,qBS]at a0;have f0:zm (.sl 1 ([AV.int .i64 (i:Int)]::r.map zW) .none) (some (.int .i64 1)) none none=some (.sl 1 (r.map zW) .none):=by
      have h2:(1:Int)<=(r.length:Int)+1:=(by omega);simp[zm,zM,yp,zH,h2,qBr]
     simp[*,qX,zW];refine qFJ a9 ?_;rintro w4 σ ⟨rfl,rfl⟩;simp[qX];refine qFJ a0 ?_;rintro w5 ⟨H5,T5⟩ ⟨rfl,a5⟩;simp[qX];refine qFG ht ?_ rfl;simp[qX];refine qFG hp ?_ rfl;simp[qX,G,c3];exact c8 _ _ ⟨by simp[e0],by simp[e1,zW],by simp[e2],by simp[J],by simp[c6],by simp[O],by simp[D],by simp,(C.trans E).trans a5,((Y.imp id fun⟨N,h1,h2,h3⟩=>⟨N,h1,h2,a5.2 _ _ (E.2 _ _ h3 (by simp)) (by simp)⟩))⟩
   rintro ev ⟨H2,T2⟩ ⟨e0,e1,e2,J,a1,O,D,G,C,Y⟩;simp[a1,D,G];exact C
def NG(p:Problem):List (List Nat):=p.groups.map fun g=>g.map Int.toNat
def kf(g:List Nat):List AV:=[.sl 1 (g.map zW) .none]
def qg8{p}(h:qg p=0):p.groups.map qn=(NG p).map kf:=by
 unfold NG;rw[qCN];refine qCy fun g a=>?_
 simp only[qn,kf,Function.comp,qCN];congr 2;refine qCy fun i hi=>?_
 obtain⟨n,rfl,_⟩:=Y1 h i (qB3.2 ⟨g,a,hi⟩);simp[zW]
def ZL{p}(h:qg p=0):p.groups.flatten=(NG p).flatten.map fun n:Nat=>(n:Int):=by
 unfold NG;have:∀(G:List (List Int)),(∀i∈G.flatten,∃n:Nat,i=n)->G.flatten=(G.map fun g=>g.map Int.toNat).flatten.map fun n:Nat=>(n:Int):=by
  intro G a
  induction G with
  |nil=>rfl
  | cons g r ih=>
   rw[qB7,qBz,qB7,qCl,<- ih fun i hi=>a i (by simp at hi⊢;exact .inr hi),qCN];congr 1;have:g=g.map id:=by simp
   rw[this,qCN];refine qCy fun i hi=>?_
   obtain⟨n,rfl⟩:=a i (by simp[hi]);simp
 exact this _ fun i hi=>by obtain⟨n,h1,_⟩:=Y1 h i hi;exact⟨n,h1⟩
def AsR(r:AV)(a:List Int)(H:List Blk):Prop:=(∃tok,r=.sl 1 (a.map qf) tok)\/∃N,r=.ms N 0 a.length 1/\H[N]?=some (.cells (zc a))
def AsR.at{r}{a:List Int}{H}(h:AsR r a H){j:Nat}{x:Int}(b:a[j]?=some x):∃u,zY (Dof prog) 36 r (.int .i64 (j:Int))=some u/\∀w T,wZ (Dof prog) ⟨H++w,T⟩ 3 u=some (.int .i64 x):=by
 have e:=(qBk.1 b).1;rcases h with⟨tok,rfl⟩|⟨N,rfl,d⟩
 . exact⟨.rptr [.int .i64 x],by simp[b],fun w T=>by simp⟩
 have c:(j:Int)<a.length:=by omega
 have f:j+1<=a.length:=e;have g:(zc a).drop j=.int .i64 x::(zc a).drop (j+1):=by
  obtain⟨h1,h2⟩:=qBk.1 (by rw[WF,b];rfl);rw[qBE h1,h2]
 exact⟨.ptr N j,by simp[c],fun w T=>by simp[*,qa d,qO]⟩
def AsR.at0{r}{a:List Int}{H}(h:AsR r a H){j:Nat}{x:Int}(b:a[j]?=some x):∃u,zY (Dof prog) 36 r (.int .i64 (j:Int))=some u/\∀T,wZ (Dof prog) ⟨H,T⟩ 3 u=some (.int .i64 x):=by
 obtain⟨u,h1,h2⟩:=h.at b;exact⟨u,h1,fun T=>by have:=h2 [] T;rwa[qB4]at this⟩
def AsR.len{r a H}(h:AsR r a H)(σ):Yk (Dof prog) σ 36 r=some (.int .i64 (a.length:Nat)):=by
 rcases h with⟨tok,rfl⟩|⟨N,rfl,_⟩<;>simp
def AsR.keep{r a H H' bs}(h:AsR r a H)(b:KpL bs H H')(hb:∀N o n z,r=.ms N o n z->N∉bs):AsR r a H':=by
 rcases h with h|⟨N,rfl,c⟩
 . exact .inl h
 exact .inr ⟨N,rfl,b.2 _ _ c (hb _ _ _ _ rfl)⟩
def aN(a:List Int)(i:Nat):Nat:=(a.getD i 0).toNat
def Jb(s:Spc)(d:List Nd)(a:List Int)(l:List Nat):Nat:=l.foldl (fun node i=>vG d (JK s.lv i) (jG s.p i) (aN a i) node (jG s.p i)) s.root
def Vz(s:Spc)(a:List Int)(l:List Nat):List Ex:=s.R++l.map fun i=>eqE (YE s.p i) (aN a i:Int)
structure SpG(s)(a:List Int)(l):Prop where
 gr:quc s l
 val:∀i∈l,∃n:Nat,a[i]?=some (n:Int)/\n<65536
def qk3{g:List Nat}{tok:Tok}{k i:Nat}(h:g[k]?=some i):zY (Dof prog) 36 (.sl 1 (g.map zW) tok) (.int .i64 (k:Int))=some (.rptr [.int .i64 (i:Int)]):=by simp[h,zW]
def qqc{σ:St}{i:Nat}:wZ (Dof prog) σ 3 (.rptr [.int .i64 (i:Int)])=some (.int .i64 (i:Int)):=by simp
def qf1:List (Nat×Sch×List Nat):=[(21,.step 0 [11,10,9,8,1] (.step 1 [11,10,9,8] (.step 2 [11,10,9,8] (.step 3 [11,10,9,8] (.step 4 [11,10,9,8,7,6] (.step 5 [11,10,9,8,7,6] (.step 6 [11,10,9,8,7] (.step 7 [11,10,9,8] (.step 8 [11,10,9] (.step 9 [11,10] (.step 10 [11] (.step 11 [] (.done)))))))))))),[8])]
def qpR{G:List (List Nat)}{gi}(h:gi<=G.length):zm (.sl 1 (G.map kf) .none) none (some (.int .i64 (gi:Int))) none=some (.sl 1 ((G.take gi).map kf) .none):=by
 simp[zm,zM,yp,zH,h]
def qrn{s}(b4:qg s.p=0)(c3:s.small=true){d tok}(hd:DagOk d)(X:s.dv=.sl 3 (d.map qU) tok)(c5:s.root<d.length){fx}(c2:∀i x,fx i=some x->x<65536){m gi g}(Y:(NG s.p)[gi]?=some g)(a7:∀g∈NG s.p,g.length<=1000)(e7:(NG s.p).length<=1000)
 {r a H} (U:quc s g) (Q:SpG s a ((NG s.p).take gi).flatten) (D:SpOk s H) (hf:qi0 m fx H) (ha:AsR r a H) (T):
 qh prog GG 97 [.ptr s.S 0,.int .i64 gi,r,m] ⟨H,T⟩ (fun v σ'=>v=.int .i64 (qbH s.p s.lv d fx g (Jb s d a ((NG s.p).take gi).flatten):Nat)/\KpL [] H σ'.H):=by
 refine qFE ⟨false,qf1,[],[]⟩ func97 ?_;have hS:=D.c;have d6:=(qBk.1 Y).1;have d9:(gi:Int)<(NG s.p).length:=by omega
 have hG:=qg8 b4;simp only[spE,qw,qBV,qBL,c3,X,hG]at hS;have a8:=qpR (G:=NG s.p) (gi:=gi) (by omega);have b5:((NG s.p).take gi).length<=1000:=by rw[qBY];omega
 have a0:∀g∈(NG s.p).take gi,g.length<=1000:=fun g U=>a7 g (qB6 U)
 obtain⟨f,c8⟩:∃f,f=(NG s.p).take gi:=⟨_,rfl⟩;rw[<- c8]at a8 b5 a0 Q⊢;simp[hS,Y,kf,a8];have c1:=a7 g (qBl Y);refine qFW f (fun e ev σ=>ev 0=.ptr s.S 0/\ev 2=r/\ev 3=m/\ev 9=.sl 1 (g.map zW) .none/\ev 10=.int .i64 (Jb s d a e.flatten:Nat)/\ev 42=.sl 1 (f.map kf) .none/\ev 43=.int .i64 f.length/\ev 44=.int .i64 e.length/\Jb s d a e.flatten<d.length/\KpL [] H σ.H) ?_ ?_ ?_
 . exact⟨by simp,by simp,by simp,by simp,by simp[Jb],by simp,by simp,by simp,c5,qGd⟩
 . rintro e I rest ev ⟨E,T1⟩ R hR e1 hx d4 ⟨h,t,y,A,C,B,o,j,P,z⟩;have b0:=wr (n:=(e.length:Int)+1);have a2:=qBl hx;have e4:=a0 I a2;simp[B,o,j,show(e.length:Int)<f.length by omega,hx,kf];refine qFW I (fun dg ev σ=>ev 0=.ptr s.S 0/\ev 2=r/\ev 3=m/\ev 9=.sl 1 (g.map zW) .none/\ev 10=.int .i64 (Jb s d a (e.flatten++dg):Nat)/\ev 42=.sl 1 (f.map kf) .none/\ev 43=.int .i64 f.length/\ev 44=.int .i64 e.length/\ev 48=.sl 1 (I.map zW) .none/\ev 49=.int .i64 I.length/\ev 50=.int .i64 dg.length/\Jb s d a (e.flatten++dg)<d.length/\KpL [] H σ.H) ?_ ?_ ?_
   . exact⟨by simp[h],by simp[t],by simp[y],by simp[A],by simp[C],by simp[B],by simp[o],by simp[j],by simp,by simp,by simp,by simpa using P,z⟩
   . rintro dg i d7 ev ⟨H2,T2⟩ R2 b6 f3 a4 f1 ⟨h,t,y,A,C,B,o,j,V,L,O,N,J⟩;have b2:=wr (n:=(dg.length:Int)+1);have a3:=qB3.2 ⟨I,a2,qBl a4⟩;obtain⟨v,l,hv,d2,b1,hl,b7,_⟩:=Q.gr i a3;obtain⟨n,Z,d8⟩:=Q.val i a3;have W:=D.keep J (by simp) (by simp) (by simp);have d3:=ha.keep J (by simp);obtain⟨u,c9,c7⟩:=d3.at0 Z;have a9:=V9 W hd X hv hl ⟨d2,b1⟩ b7 N (val:=n) (by omega) T2;have b8:Jb s d a (e.flatten++(dg++[i]))=vG d l v.width.toNat n (Jb s d a (e.flatten++dg)) v.width.toNat:=by
      rw[<- qBX];unfold Jb;rw[qCb];simp only[qB2,qFl,show JK s.lv i=l by simp[JK,qBw,hl],show jG s.p i=v.width.toNat by simp[jG,zP,hv],show aN a i=n by simp[aN,qBw,Z]]
     have a5:=Y6 hd N l v.width.toNat n v.width.toNat;rw[<- b8]at a9 a5;have b9:=qk3 (tok:=.none) a4;generalize Jb s d a (e.flatten++dg)=nd at *;generalize d0:Jb s d a (e.flatten++(dg++[i]))=d5 at *;simp[-zY,-wZ,h,t,C,V,L,O,show(dg.length:Int)<I.length by omega,b9,qqc,c9,c7];refine qFJ a9 ?_;rintro w ⟨H3,T3⟩ ⟨rfl,M⟩;simp[O,b2];exact b6 _ _ ⟨by simp[h],by simp[t],by simp[y],by simp[A],by simp,by simp[B],by simp[o],by simp[j],by simp[V],by simp[L],by simp,by first|exact a5|(rwa[d0]),J.trans M⟩
   rintro ev ⟨H2,T2⟩ ⟨h,t,y,A,C,B,o,j,V,L,O,N,J⟩;simp[j,L,O,b0];exact hR _ _ ⟨by simp[h],by simp[t],by simp[y],by simp[A],by simp[C],by simp[B],by simp[o],by simp,by simpa using N,J⟩
 rintro ev ⟨E,T1⟩ ⟨h,t,y,A,C,B,o,j,P,z⟩;dsimp only at z;have e8:=z.1;have c0:=D.keep z (by simp) (by simp) (by simp);have a6:=hf.keep z (by simp);have f2:=(qBk.1 D.c).1;obtain⟨cw,hL,e5⟩:=D.w;have e6:=(qBk.1 hL).1;have f0:=D.b;have W:=c0.keep (H':=E++[.map [] 0]) (bs:=[]) qGe (by simp) (by simp) (by simp);have c6:=a6.keep (H':=E++[.map [] 0]) (bs:=[]) qGe (by simp);have c4:∀F,m=.map F->F≠E.length:=fun F hF=>by
  rcases a6 with⟨rfl,_⟩|⟨F',es,n,rfl,d1,_⟩
  . cases hF
  cases hF;have:=(qBk.1 d1).1;omega
 have a1:=qjy hd X c2 U c1 (K:=E.length) (by omega) (by omega) (by omega) c4 g.length 0 (by omega) (Jb s d a f.flatten) (E++[.map [] 0]) T1 P W c6 ⟨[],0,lk0,by simp⟩;simp only[qDK]at a1;simp[h,y,A,C,o,j,qV,zt,qx];refine qFJ a1 ?_;rintro w ⟨H3,T3⟩ ⟨rfl,M,_⟩;simp;refine z.trans ⟨by have:=M.1;simp at this;omega,fun k x hk _=>M.2 _ _ (qa hk _) (by have:=(qBk.1 hk).1;simp;omega)⟩
def qrm{s}(a3:VQ s.p)(N:qg s.p=0)(b2:s.p.vars.length<=20)(hb:kj s.p.vars (qI s.p)<=18)(c8:s.small=false)(c2:∀e∈s.R,zz s.p.vars e=0/\ZK e)(d8:s.R.length<=50000)(a9:qtw s.R s.rtok){fx}(c7:∀i x,fx i=some x->x<65536){m gi g}(V:(NG s.p)[gi]?=some g)(a5:∀g∈NG s.p,g.length<=1000)(f1:(NG s.p).length<=1000)(c6:(NG s.p).flatten.length<=1000)
 {r a H} (O:quc s g) (E:SpG s a ((NG s.p).take gi).flatten) (U:SpOk s H) (hf:qi0 m fx H) (ha:AsR r a H) (T):
 qh prog GG 97 [.ptr s.S 0,.int .i64 gi,r,m] ⟨H,T⟩ (fun v σ'=>v=.int .i64 (qea s.p fx g (Vz s a ((NG s.p).take gi).flatten):Nat)/\KpL [] H σ'.H):=by
 refine qFE ⟨false,qf1,[],[]⟩ func97 ?_;have hS:=U.c;have e4:=(qBk.1 V).1;have e6:(gi:Int)<(NG s.p).length:=by omega
 have hG:=qg8 N;simp only[spE,qw,qBV,qBL,c8,hG]at hS;have a6:=qpR (G:=NG s.p) (gi:=gi) (by omega);have b5:((NG s.p).take gi).length<=1000:=by rw[qBY];omega
 have Z:∀g∈(NG s.p).take gi,g.length<=1000:=fun g O=>a5 g (qB6 O)
 have c0:((NG s.p).take gi).flatten.length<=1000:=by
  have:(NG s.p).flatten=((NG s.p).take gi).flatten++((NG s.p).drop gi).flatten:=by rw[<- qDi,qB9]
  rw[this,qBp]at c6;omega
 obtain⟨d,d2⟩:∃d,d=(NG s.p).take gi:=⟨_,rfl⟩;rw[<- d2]at a6 b5 Z E c0⊢;simp[hS,V,kf,a6];have e8:=a5 g (qBl V);have a7:∀l,(Vz s a l).length=s.R.length+l.length:=fun l=>by simp[Vz]
 refine qFW d (fun b ev σ=>ev 0=.ptr s.S 0/\ev 2=r/\ev 3=m/\ev 9=.sl 1 (g.map zW) .none/\(∃tok,ev 15=.sl 4 ((Vz s a b.flatten).map qo) tok/\qtw (Vz s a b.flatten) tok)/\ev 81=.sl 1 (d.map kf) .none/\ev 82=.int .i64 d.length/\ev 83=.int .i64 b.length/\KpL [] H σ.H) ?_ ?_ ?_
 . exact⟨by simp,by simp,by simp,by simp,⟨s.rtok,by simp[Vz],by simpa[Vz] using a9⟩,by simp,by simp,by simp,qGd⟩
 . rintro b C rest ev ⟨H1,W⟩ R hR c3 Y e1 ⟨h,t,y,A,⟨tok,z,B⟩,o,j,f,I⟩;have a8:=wr (n:=(b.length:Int)+1);have a0:=qBl Y;have f0:=Z C a0;simp[o,j,f,show(b.length:Int)<d.length by omega,Y,kf];refine qFW C (fun dg ev σ=>ev 0=.ptr s.S 0/\ev 2=r/\ev 3=m/\ev 9=.sl 1 (g.map zW) .none/\(∃tok,ev 15=.sl 4 ((Vz s a (b.flatten++dg)).map qo) tok/\qtw (Vz s a (b.flatten++dg)) tok)/\ev 81=.sl 1 (d.map kf) .none/\ev 82=.int .i64 d.length/\ev 83=.int .i64 b.length/\ev 87=.sl 1 (C.map zW) .none/\ev 88=.int .i64 C.length/\ev 89=.int .i64 dg.length/\KpL [] H σ.H) ?_ ?_ ?_
   . exact⟨by simp[h],by simp[t],by simp[y],by simp[A],⟨tok,by simp[z],by simpa using B⟩,by simp[o],by simp[j],by simp[f],by simp,by simp,by simp,I⟩
   . rintro dg i e5 ev ⟨H2,T2⟩ R2 b8 d7 a2 f3 ⟨h,t,y,A,⟨tok,z,B⟩,o,j,f,Q,M,L,F⟩;have b0:=wr (n:=(dg.length:Int)+1);have a1:=qB3.2 ⟨C,a0,qBl a2⟩;obtain⟨v,l,J,f2,d9,hl,e7,_⟩:=E.gr i a1;obtain⟨n,K,b9⟩:=E.val i a1;have d1:=U.keep F (by simp) (by simp) (by simp);have d6:=ha.keep F (by simp);obtain⟨u,d3,d0⟩:=d6.at0 K;have b4:=qdq d1 J (n:Int) T2;have a4:Vz s a (b.flatten++(dg++[i]))=Vz s a (b.flatten++dg)++[eqE v.name (n:Int)]:=by
      have h2:YE s.p i=v.name:=(by simp[YE,J]);have h3:aN a i=n:=(by simp[aN,qBw,K]);simp[Vz,h2,h3]
     have f4:(Vz s a (b.flatten++dg)).length<=60000:=by
      rw[a7];have:(b.flatten++dg).length<=d.flatten.length:=by rw[c3,d7];simp
      omega
     have b1:=qlP (Vz s a (b.flatten++dg)) (quX tok) B.p;have d5:=jq (eqE v.name (n:Int));have b7:=zg (eqE v.name (n:Int));have b6:=fun H T=>qa7 (R:=Vz s a (b.flatten++dg)) (X:=eqE v.name (n:Int)) (H:=H) (T:=T) (by omega)
     have c1:=qk3 (tok:=.none) a2;generalize Vz s a (b.flatten++dg)=R0 at *;generalize eqE v.name (n:Int)=X at *;simp[-zY,-wZ,Q,M,L,show(dg.length:Int)<C.length by omega,c1,qqc];rw[qG rfl];simp[-qL,-zY,-wZ,qX,z];refine qFH b1 (by cases tok<;>simp) (by cases tok<;>simp[quX]) ?_;simp[-qL,-zY,-wZ,qX,h,t,d3,d0];refine qFJ b4 ?_;rintro w ⟨H3,T3⟩ ⟨rfl,P⟩;simp[-qL,qX,d5,b7,qe,qp,b6,L,b0];refine b8 _ _ ⟨by simp[h],by simp[t],by simp[y],by simp[A],⟨.chain T3.length 1,by simp[a4],by rw[a4];exact .inl (by simp)⟩,by simp[o],by simp[j],by simp[f],by simp[Q],by simp[M],by simp,F.trans P⟩
   rintro ev ⟨H2,T2⟩ ⟨h,t,y,A,⟨tok,z,B⟩,o,j,f,Q,M,L,F⟩;simp[f,M,L,a8];exact hR _ _ ⟨by simp[h],by simp[t],by simp[y],by simp[A],⟨tok,by simp[z],by simpa using B⟩,by simp[o],by simp[j],by simp,F⟩
 rintro ev ⟨H1,W⟩ ⟨h,t,y,A,⟨tok,z,B⟩,o,j,f,I⟩;have c5:=U.keep I (by simp) (by simp) (by simp);have c4:=hf.keep I (by simp);have d4:∀e∈Vz s a d.flatten,zz s.p.vars e=0/\ZK e:=fun e D=>by
  rcases qBC.1 D with D|D
  . exact c2 e D
  obtain⟨i,hi,rfl⟩:=qBH.1 D;obtain⟨v,l,J,_⟩:=E.gr i hi;obtain⟨n,K,b9⟩:=E.val i hi;rw[show YE s.p i=v.name by simp[YE,J],show aN a i=n by simp[aN,qBw,K]];exact qgP a3 N J (by omega) (by omega)
 have c9:=qm1 a3 N b2 hb c7 (m:=m) g (Vz s a d.flatten) tok H1 W O d4 (by rw[a7];omega) B c5 c4;simp[h,y,A,z,j,f];refine qFJ c9 ?_;rintro w ⟨H3,T3⟩ ⟨rfl,P⟩;simp;exact I.trans P
def ql9{s H}(hs:SpOk s H)(hw:∀v∈s.p.vars,0<=v.width/\v.width<=8)(a6:s.p.vars.length<=1000){r a}(V:AsR r a H)(T):
 qh prog GG 96 [.ptr s.S 0,r] ⟨H,T⟩ (fun v σ'=>v=.bool (qT s.p.vars a)/\KpL [] H σ'.H):=by
 refine qFF func96 ?_;have Q:=hs.c;have Y:=V.len;simp only[spE,qw,qBV,qBL]at Q;obtain⟨I,P⟩:∃I,I=qT s.p.vars a:=⟨_,rfl⟩;rw[<- P];unfold qT at P;by_cases W:a.length=s.p.vars.length
 case neg=>
  have a1:¬(a.length:Int)=s.p.vars.length:=by omega
  have:I=false:=by rw[P];simp[W]
  subst this;simp[-Yk,Y,Q,show Yk (Dof prog) ⟨H,T⟩ 22 (.sl 4 (s.p.vars.map qu) .none)=some (.int .i64 (s.p.vars.length:Nat)) by simp,a1];exact qGd
 simp[-Yk,Y,Q,show ∀σ,Yk (Dof prog) σ 22 (.sl 4 (s.p.vars.map qu) .none)=some (.int .i64 (s.p.vars.length:Nat)) from fun σ=>by simp,show(a.length:Int)=s.p.vars.length by omega];refine qFW s.p.vars (fun d ev σ=>ev 1=r/\ev 20=.sl 4 (s.p.vars.map qu) .none/\ev 21=.int .i64 s.p.vars.length/\ev 22=.int .i64 d.length/\KpL [] H σ.H/\I=((s.p.vars.drop d.length).zip (a.drop d.length)).all jE) ?_ ?_ ?_
 . exact⟨by simp,by simp,by simp,by simp,qGd,by simpa using(by rw[P];simp[W])⟩
 . rintro d v rest ev ⟨U,Z⟩ R hR hd i a5 ⟨f,g,b,j,M,L⟩;have J:=wr (n:=(d.length:Int)+1);have l:(d.length:Int)<s.p.vars.length:=(by omega);have X:d.length<a.length:=(by omega);obtain⟨x,y⟩:∃x,a[d.length]?=some x:=⟨_,qBm X⟩;have a3:s.p.vars.drop d.length=v::s.p.vars.drop (d.length+1):=by
    obtain⟨h1,h2⟩:=qBk.1 i;rw[qBE h1,h2]
   have a4:a.drop d.length=x::a.drop (d.length+1):=by
    obtain⟨h1,h2⟩:=qBk.1 y;rw[qBE h1,h2]
   rw[a3,a4,qEI,qCH]at L;have a0:=hw v (qBl i);have w:=yo a0.1 (by omega);have t:¬v.width<0:=(by omega);have a2:=V.keep M (by simp);have D:∀K σ',K 1=r->K 20=.sl 4 (s.p.vars.map qu) .none->K 21=.int .i64 s.p.vars.length->K 22=.int .i64 (d.length+1:Nat)->KpL [] H σ'.H->jE (v,x)=true->R K σ':=fun K σ' b1 b2 b3 b4 b5 b6=>hR _ _ ⟨b1,b2,b3,by rw[b4,qBp,qBR],b5,by rw[L,b6,qCC,qBp,qBR]⟩
   have z:jE (v,x)=false->I=false:=fun h=>by rw[L,h];rfl
   unfold jE at D z;simp only at D z;rw[<- show((2^v.width.toNat:Nat):Int)=(2:Int)^v.width.toNat by simp]at D z;generalize 2^v.width.toNat=N at *;have B:∀u,KpL [] H (U++u):=fun u=>M.trans qGe
   rcases a2 with⟨tok,rfl⟩|⟨A,rfl,F⟩
   case' inr=>
    have E:(zc a).drop d.length=.int .i64 x::(zc a).drop (d.length+1):=by
     obtain⟨h1,h2⟩:=qBk.1 (by rw[WF,y];rfl);rw[qBE h1,h2]
    have G:d.length+1<=a.length:=X;have C:(d.length:Int)<a.length:=by omega
   all_goals
    by_cases e:v.mode=0
    . by_cases O:x=v.value
      . subst O;by_cases m:v.value<0
        . have hb:=z (by simp;omega);subst hb
          first|simp[f,g,b,j,l,i,qa F,E,qO,G,C,e,m]|simp[f,g,b,j,l,i,y,e,m]
          exact B _
        by_cases o:(N:Int)<=v.value
        . have hb:=z (by simp;omega);subst hb
          first|simp[f,g,b,j,l,i,t,IntKind.bits,w,qa F,E,qO,G,C,e,m,o]|simp[f,g,b,j,l,i,y,t,IntKind.bits,w,e,m,o]
          exact B _
        have hg:=D
        first|simp[f,g,b,j,l,i,t,IntKind.bits,w,J,qa F,E,qO,G,C,e,m,o]|simp[f,g,b,j,l,i,y,t,IntKind.bits,w,J,e,m,o]
        exact D _ _ (by simp[f]) (by simp[g]) (by simp[b]) (by simp) (B _) (by simp[e,o];omega)
      . have hb:=z (by simp[e,O]);subst hb
        first|simp[f,g,b,j,l,i,t,IntKind.bits,w,J,qa F,E,qO,G,C,e,O]|simp[f,g,b,j,l,i,y,t,IntKind.bits,w,J,e,O]
        exact B _
    by_cases m:x<0
    . have hb:=z (by simp;omega);subst hb
      first|simp[f,g,b,j,l,i,qa F,E,qO,G,C,e,m]|simp[f,g,b,j,l,i,y,e,m]
      exact B _
    by_cases o:(N:Int)<=x
    . have hb:=z (by simp;omega);subst hb
      first|simp[f,g,b,j,l,i,t,IntKind.bits,w,qa F,E,qO,G,C,e,m,o]|simp[f,g,b,j,l,i,y,t,IntKind.bits,w,e,m,o]
      exact B _
    have hg:=D
    first|simp[f,g,b,j,l,i,t,IntKind.bits,w,J,qa F,E,qO,G,C,e,m,o]|simp[f,g,b,j,l,i,y,t,IntKind.bits,w,J,e,m,o]
    exact D _ _ (by simp[f]) (by simp[g]) (by simp[b]) (by simp) (B _) (by simp[e,o];omega)
 rintro ev ⟨U,Z⟩ ⟨f,g,b,j,M,L⟩;have:I=true:=by rw[L,qCw];rfl
 subst this;simp[b,j];exact M
structure SpV(s:Spc)(d):Prop where
 vq:VQ s.p
 vp:qg s.p=0
 v20:s.p.vars.length<=20
 bits:kj s.p.vars (qI s.p)<=18
 rk:∀e∈s.R,zz s.p.vars e=0/\ZK e
 rl:s.R.length<=50000
 rt:qtw s.R s.rtok
 lv:s.lv=qS s.p
 dag:s.small=true->DagOk d/\(∃tok,s.dv=.sl 3 (d.map qU) tok)/\s.root<d.length
 ws:∀(i:Nat) (w:List Weight),(je s.p.vars.length s.p.dists)[i]?=some (some w)->w≠[]/\w.length<=1000
noncomputable def qau(s:Spc)(d:List Nd)(fx:Nat->Option Nat)(a:List Int)(gi:Nat):Nat :=
 if s.small=true then qbH s.p s.lv d fx ((NG s.p).getD gi []) (Jb s d a ((NG s.p).take gi).flatten) else qea s.p fx ((NG s.p).getD gi []) (Vz s a ((NG s.p).take gi).flatten)
def qrk(s d fx a gi):qau s d fx a gi<=lim:=by
 unfold qau;split
 . exact qjD _ _ _ _ _ _
 exact qjA _ _ _ _
def qmv{p:Problem}(h:qg p=0){i:Nat}(hi:i∈(NG p).flatten):∃(k:Nat),p.groups.flatten[k]?=some (i:Int):=by
 have:(i:Int)∈p.groups.flatten:=by rw[ZL h];exact qBH.2 ⟨i,hi,rfl⟩
 exact qB1 this
def SpV.gr{s d}(h:SpV s d){l}(a:∀i∈l,i∈(NG s.p).flatten):quc s l:=fun i hi=>by
 obtain⟨k,c⟩:=qmv h.vp (a i hi);obtain⟨n,v,b,e,j⟩:=Zn ((jI h.vp).2.1 _ (qBl c));have b:n=i:=by omega
 subst b;have g:=zb (zJ h.vp v (qBl e));have a:=Wc h.vp c;have h1:=YO (QH h.vp) (s.p.groups.flatten.take k);have h2:=Vo (QH h.vp) s.p.groups.flatten k;have f:=Wu h.vp;refine⟨v,(kE s.p.vars (s.p.groups.flatten.take k)).toNat,e,by omega,by omega,?_,by omega,h.ws n⟩;rw[h.lv,a];congr 1;omega
def qg7{p}(h:qg p=0):(NG p).flatten.length<=p.vars.length:=by
 have:=JQ h
 rwa[ZL h,qBT]at this
def J7{p}(h:qg p=0)(m:p.vars.length<=1000):(∀g∈NG p,g.length<=1000)/\(NG p).length<=1000:=by
 have h1:=qg7 h;have h2:∀g∈NG p,g≠[]:=fun g b=>by
  obtain⟨f,d,rfl⟩:=qBH.1 b;have:=(jI h).1 f d;simpa using this
 have key:∀G:List (List Nat),(∀g∈G,g≠[])->(∀g∈G,g.length<=G.flatten.length)/\G.length<=G.flatten.length:=by
  intro G
  induction G with
  |nil=>intro _;simp
  | cons a r ih=>
   intro c;obtain⟨e,j⟩:=ih fun g b=>c g (by simp[b])
   have i:=qBA.2 (c a (by simp));refine⟨fun g b=>?_,by rw[qB7,qBp,qBB];omega⟩;rcases qBN.1 b with rfl|b
   . simp
   have:=e g b;rw[qB7,qBp];omega
 obtain⟨k1,l⟩:=key (NG p) h2;exact⟨fun g b=>by have:=k1 g b;omega,by omega⟩
def AOk(p:Problem)(a:List Int):Prop:=∀i∈(NG p).flatten,∃n:Nat,a[i]?=some (n:Int)/\n<65536
def WP{p}(h:qg p=0){a}(b:qT p.vars a=true):AOk p a:=fun i hi=>by
 obtain⟨k,f⟩:=qmv h hi;obtain⟨n,v,d,c,o⟩:=Zn ((jI h).2.1 _ (qBl f));have d:n=i:=by omega
 subst d;unfold qT at b;simp only[qBq,decide_eq_true_eq]at b;have l:=(qBk.1 c).1;obtain⟨x,e⟩:∃x,a[n]?=some x:=⟨_,qBm (by omega)⟩;have g:(v,x)∈p.vars.zip a:=qBl (i:=n) (qCA.2 ⟨c,e⟩);have h1:=qBx.1 b.2 _ g;unfold jE at h1;simp at h1;have m:=zb (zJ h v (qBl c));have h2:(2:Nat)^v.width.toNat<=2^8:=qBF (by omega) (by omega);have j:((2^v.width.toNat:Nat):Int)=(2:Int)^v.width.toNat:=by simp
 exact⟨x.toNat,by rw[e];congr 1;omega,by omega⟩
def qpP{s d}(h:SpV s d){fx}(w:∀i x,fx i=some x->x<65536){m gi}(C:gi<(NG s.p).length){r a H}(A:AOk s.p a)(u:SpOk s H)(o:qi0 m fx H)(j:AsR r a H)(T):
 qh prog GG 97 [.ptr s.S 0,.int .i64 gi,r,m] ⟨H,T⟩ (fun v σ'=>v=.int .i64 (qau s d fx a gi:Nat)/\KpL [] H σ'.H):=by
 obtain⟨g,e⟩:∃g,(NG s.p)[gi]?=some g:=⟨_,qBm C⟩;have c:=J7 h.vp h.vq.vars;have t:=h.gr fun i hi=>qB3.2 ⟨g,qBl e,hi⟩
 have l:∀i∈((NG s.p).take gi).flatten,i∈(NG s.p).flatten:=fun i hi=>by
  obtain⟨B,z,E⟩:=qB3.1 hi;exact qB3.2 ⟨B,qB6 z,E⟩
 have f:SpG s a ((NG s.p).take gi).flatten:=⟨h.gr l,fun i hi=>A i (l i hi)⟩;unfold qau;rw[show(NG s.p).getD gi []=g by simp[qBw,e]];by_cases b:s.small=true
 . obtain⟨hd,⟨tok,D⟩,y⟩:=h.dag b;rw[if_pos b];exact qrn h.vp b hd D y w e c.1 c.2 t f u o j T
 rw[if_neg b];exact qrm h.vq h.vp h.v20 h.bits (by simpa using b) h.rk h.rl h.rt w e c.1 c.2 (qCq (qg7 h.vp) h.vq.vars) t f u o j T
noncomputable def Vn(s:Spc)(d:List Nd)(gi:Int)(a:List Int):Int×Int :=
 if gi<0\/((NG s.p).length:Int)<=gi\/qT s.p.vars a=false then(0,1)
 else if qau s d (fun _=>none) a gi.toNat=0 then(0,11) else if qau s d (fun _=>none) a gi.toNat=lim then(0,3) else(qau s d (fun _=>none) a gi.toNat,0)
def qrh{s d}(h:SpV s d)(gi){r a H}(l:SpOk s H)(u:AsR r a H)(T):
 qh prog GG 56 [.ptr s.S 0,.int .i64 gi,r] ⟨H,T⟩ (fun v σ'=>v=.tup [.int .i64 (Vn s d gi a).1,.int .i64 (Vn s d gi a).2]/\KpL [] H σ'.H):=by
 refine qFF func56 ?_;have t:=l.c;have x:=qg8 h.vp;have y:∀v∈s.p.vars,0<=v.width/\v.width<=8:=fun v C=>by have:=zb (zJ h.vp v C);omega
 have has:=ql9 l y h.vq.vars u T;simp only[spE,qw,qBV,qBL,x]at t;obtain⟨o,b⟩:∃o,o=Vn s d gi a:=⟨_,rfl⟩;rw[<- b];unfold Vn at b;by_cases h0:gi<0
 . rw[if_pos (.inl h0)]at b;subst b;simp[h0,unA];exact qGd
 by_cases h1:((NG s.p).length:Int)<=gi
 . rw[if_pos (.inr (.inl h1))]at b;subst b;simp[*];exact qGd
 simp[h0,h1,t];refine qFJ has ?_;rintro v ⟨D,w⟩ ⟨rfl,i⟩
 cases hA:qT s.p.vars a with
 | false=>
  rw[if_pos (.inr (.inr hA))]at b;subst b;simp[unA];exact i
 | true=>
  rw[if_neg (by simp[h0,hA];omega)]at b;obtain⟨g,rfl⟩:=qBG (by omega:0<=gi);have z:=qpP h (fx:=fun _=>none) (by simp) (m:=.nilm) (gi:=g) (by omega) (WP h.vp hA) (l.keep i (by simp) (by simp) (by simp)) (.inl ⟨rfl,fun _=>rfl⟩) (u.keep i (by simp)) w;rw[qBU]at b;generalize qau s d (fun _=>none) a g=n at *;simp[unA];refine qFJ z ?_;rintro v ⟨E,F⟩ ⟨rfl,A⟩;have j:=i.trans A;by_cases f:n=0
  . rw[if_pos f]at b;subst b;simp[f];exact j
  rw[if_neg f]at b;by_cases e:n=lim
  . rw[if_pos e]at b;subst b;have B:(n:Int)=1099511627777:=(by rw[e];rfl);simp[B];exact j
  rw[if_neg e]at b;subst b;simp[f,show ¬(n:Int)=1099511627777 by unfold lim at e;omega];exact j
section
attribute [local go_sem] Oper.semAt_some
def qru{K}{l:List Int}{tok v}(h:qi K (.sl 1 (l.map fun n=>[.int .i64 n]) tok) v):
 ∃a cap,v=.slice a l.length cap/\∀j n,l[j]?=some n->∃B off,a=some ⟨B,off,none⟩/\K.ro B (off+j)=some (.int .i64 n):=by
 simp only[qi]at h;rcases h with⟨⟨a,rfl,_⟩,h0,_⟩|⟨B,off,cap,rfl,f,c,_⟩
 . have:l=[]:=by simpa using h0
   subst this;exact⟨a,0,rfl,fun j n e=>by simp at e⟩
 refine⟨some ⟨B,off,none⟩,cap,by simp,fun j n e=>⟨B,off,rfl,?_⟩⟩;obtain⟨_,_,b⟩:=qQ.get B 1 _ off c j [.int .i64 n] (by simp[e]);simp only[qq,qi]at b;obtain⟨⟨v,d,rfl⟩,_⟩:=b;simpa using d
def qza(G)(l:List Int)(tok)(U:l.length<2^62):qwG prog G 146 [.rptr [.sl 1 (l.map fun n=>[.int .i64 n]) tok]] (fun _=>True) (l.map fun n=>.int .i64 n):=by
 refine⟨by kernel_rfl,?_⟩;intro w0 ro0 L K σ w A S g c _ s F;simp only[qj]at c;obtain⟨y,Q,J,m,rfl⟩:=c;have u:A = #[y]:=by apply Array.ext';simpa using J
 subst u;simp only[qi,qq]at m;obtain⟨O,os,rfl,⟨v,x,M⟩,_⟩:=m;obtain⟨W,cap,rfl,E⟩:=qru M;have R:=(fun K' σ' w' h1 h2=>h2.ro _ _ _ (h1.ro _ _ _ x)) K σ w (qFX K) g;refine callsIn_of_wp func146 rfl trivial ?_ rfl;simp only[Tryz.ntmps146,qDW,qBB,qCc,Nat.reduceAdd,Nat.reduceSub,Array.replicate_succ,Array.replicate_zero,List.push_toArray,List.append_toArray,qBL,qBV]
 gi_wp2
 gi_loopw [7] (fun i wr=>∃k:Nat,k<=l.length/\i=.int .i64 k/\∃K' σ',K.le K'/\WRel G w0 ro0 K' σ' wr/\S k σ')
  (fun i _=>l.length-(intOf i).toNat)
 case atStart=>exact⟨0,qDj _,rfl,K,σ,qFX K,g,s⟩
 case round=>
  obtain⟨k,T,rfl,h,j,a,b,f⟩:=hrel;by_cases d:k<l.length
  . obtain⟨B,off,rfl,C⟩:=E k l[k] (by simp[d]);have N:wr.cell? ⟨B,off+k,none⟩=some (.int .i64 l[k]):=b.ro _ _ _ (a.ro _ _ _ C);obtain⟨fn,tmps,assign,body,V,I⟩:=F k (.int .i64 l[k]) j h wr (by simp[d]) f a b _ rfl
    gi_wp2
    refine⟨rfl,I.mono ?_⟩;rintro e P ⟨rfl,t,z,D,o,r⟩
    gi_wp2
    go_roundw
    case rel=>exact⟨k+1,by omega,by simp,t,z,qFY a D,o,r⟩
    case measure=>simp[intOf];omega
  obtain rfl:k=l.length:=by omega
  gi_wp2
  refine bodyPost_end (results_none rfl _ _ _) rfl ?_;exact⟨⟨_,rfl⟩,h,j,a,b,by simpa using f⟩
end
section
attribute [local go_sem] Oper.semAt_some
def W5{α:Type}(l:List α)(k:Nat):List α:=(l.drop (32*k)).take 32
def Ql(n:Nat):Nat:=(n+31)/32
def qnk{K sz rows tok v}(h:qi K (.sl sz rows tok) v):
 ∃a cap,v=.slice a rows.length cap/\rows.length<=cap/\(rows≠[]->∃B off,a=some ⟨B,off,none⟩/\qQ K B off sz rows):=by
 simp only[qi]at h;rcases h with⟨⟨a,rfl,_⟩,h0,_⟩|⟨B,off,cap,rfl,c,b,_⟩
 . subst h0;exact⟨a,0,rfl,by simp,fun h=>absurd rfl h⟩
 exact⟨_,cap,rfl,c,fun _=>⟨B,off,rfl,b⟩⟩
def qzb(G rows tok)(a4:rows.length<2^60):qwG prog G 92 [.rptr [.sl 4 rows tok],.rptr [.int .i64 32]] (fun _=>True) ((List.range (Ql rows.length)).map fun k=>.sl 4 (W5 rows k) .none):=by
 refine⟨by kernel_rfl,?_⟩;intro w0 ro0 L K σ w M S I f _ E N;simp only[qj]at f;obtain⟨V,vr,O,x,v1,a2,rfl,l,rfl⟩:=f;have F:M = #[V,v1]:=by apply Array.ext';simpa using O
 subst F;simp only[qi,qq]at x l;obtain⟨Bs,os,rfl,⟨v,U,hv⟩,_⟩:=x;obtain⟨Y,on,rfl,⟨vn,z,rfl⟩,_⟩:=l;obtain⟨a0,cap,rfl,f,Q⟩:=qnk hv;have r:∀K' σ' w',K.le K'->WRel G w0 ro0 K' σ' w'->w'.cell? ⟨Y,on,none⟩=some (.int .i64 32):=fun K' σ' w' h1 h2=>h2.ro _ _ _ (h1.ro _ _ _ z)
 refine callsIn_of_wp func92 rfl trivial ?_ rfl;simp only[Tryz.ntmps92,qDW,qBB,qCc,Nat.reduceAdd,Nat.reduceSub,Array.replicate_succ,Array.replicate_zero,List.push_toArray,List.append_toArray,qBL,qBV]
 gi_wp2
 gi_loopw [4] (fun i wr=>∃k:Nat,k<=Ql rows.length/\i=.int .i64 (32*k:Nat)/\∃K' σ',K.le K'/\WRel G w0 ro0 K' σ' wr/\S k σ')
  (fun i _=>rows.length+64-(intOf i).toNat)
 case atStart=>exact⟨0,qDj _,rfl,K,σ,qFX K,I,E⟩
 case round=>
  obtain⟨k,hk,rfl,b,d,a,c,o⟩:=hrel;have c1:=(fun K' σ' w' h1 h2=>h2.ro _ _ _ (h1.ro _ _ _ U)) b d wr a c;have c2:=r b d wr a c;by_cases h:32*k<rows.length
  . have T:rows≠[]:=(by intro e;rw[e]at h;simp at h);obtain⟨B,off,rfl,A⟩:=Q T
    gi_wp2
    gi_region
    obtain⟨e,y⟩:∃e:Nat,e=min 32 (rows.length-32*k):=⟨_,rfl⟩;have Z:(if((rows.length-32*k:Nat):Int)<32 then((rows.length-32*k:Nat):Int) else 32)=(e:Int):=by
     split<;>omega
    first|rw[Z]|rw[show min (32:Int) ((rows.length-32*k:Nat):Int)=(e:Int) by omega]
    have C:=c.drew;have W:k<Ql rows.length:=(by unfold Ql;omega);have a3:0<e:=(by omega);have a1:wrap64 ((32*k:Nat)+(e:Int))=((32*k+e:Nat):Int):=by
     rw[Int.natCast_add];unfold wrap64;omega
    have g:(W5 rows k).length=e:=(by simp[W5];omega);have J:(rows.take (32*k+e)).drop (32*k)=W5 rows k:=by
     unfold W5;rw[List.take_add,qCJ (by simp;omega),qBZ (by simp;omega),qBL];apply qCg;intro j;simp only[qCi];split<;>split<;>first|rfl|omega|(symm;simp;omega)|(simp;omega)
    have P:qi b (.sl 4 (W5 rows k) .none) (.slice (some ⟨B,off+32*k*4,none⟩) e e):=by
     simp only[qi];right;refine⟨B,off+32*k*4,e,by rw[g],by rw[g];exact qBs _,?_,by simp[wo]⟩;have:=(qQ.mono a rows B off 4 A).sub (32*k) (32*k+e)
     rwa[J]at this
    obtain⟨fn,tmps,assign,body,hy,X⟩:=N k (.sl 4 (W5 rows k) .none) d b _ (by simp[W]) o a C _ P;clear y g
    gi_wp2
    refine⟨rfl,X.mono ?_⟩;rintro e' R ⟨rfl,m,t,u,s,D⟩;have c3:=r m t R (qFY a u) s
    gi_wp2
    go_roundw
    case rel=>exact⟨k+1,by omega,by simp;omega,m,t,qFY a u,s,D⟩
    case measure=>simp[intOf];omega
  obtain rfl:k=Ql rows.length:=by unfold Ql at *;omega
  gi_wp2
  refine bodyPost_end (results_none rfl _ _ _) rfl ?_;exact⟨⟨_,rfl⟩,b,d,a,c,by simpa using o⟩
end
abbrev YC(l:List Int):List (List AV):=l.map fun n=>[.int .i64 n]
def qAA(v:AV)(σ:St)(l:List Int):Prop:=(l=[]/\v=.sl 0 [] .nil)\/∃b,v=.ms b 0 l.length 1/\l≠[]/\σ.H[b]?=some (.cells (l.map fun n=>.int .i64 n))
def qAy(σ:St)(n0:Nat)(l:List Int)(i:Nat)(τ:St):Prop :=
 τ.T=σ.T/\(∀k<n0,τ.H[k]?=σ.H[k]?)/\∃v,τ.H[n0]?=some (.cells [v])/\((i=0/\v=.sl 0 [] .nil)\/∃b,v=.ms b 0 i 1/\0<i/\n0<b/\τ.H[b]?=some (.cells ((l.take i).map fun n=>.int .i64 n)))
def qAc(σ:St)(l:List Int)(v:AV)(τ:St):Prop:=τ.T=σ.T/\(∀k<σ.H.length,τ.H[k]?=σ.H[k]?)/\qAA v τ l
def qmj(H T n):qY (Dof prog) ⟨H,T⟩ 36 36 (.sl 0 [] .nil) (.sl 1 [[.int .i64 n]] .tight)=some (.ms H.length 0 1 1,⟨H++[.cells [.int .i64 n]],T⟩):=by
 simp[qY,zD,Zl,qP,St.push]
def qpw(H T n b i c)(hb:H[b]?=some (.cells c))(a:c.length=i)(hi:i<2^28):qY (Dof prog) ⟨H,T⟩ 36 36 (.ms b 0 i 1) (.sl 1 [[.int .i64 n]] .tight)=some (.ms H.length 0 (i+1) 1,⟨H.set b .dead++[.cells (c++[.int .i64 n])],T⟩):=by
 simp[qY,zD,Zl,qP,hb,show i+1<=549755813888 by omega,a,show c.take i=c from qBr (by omega)]
def qdF(σ l tok)(z:l.length<2^28):
 qh prog GG 194 [.sl 0 [] .nil,.fn 146 [] [.rptr [.sl 1 (YC l) tok]]] σ (qAc σ l):=by
 refine qFE ⟨true,[],[],[]⟩ func194 ?_;simp;refine qcZ (KS _) (fun _=>True) (l.map fun n=>.int .i64 n) (qAy σ σ.H.length l) (by simp[ev]) (qza GG l tok (by omega)) (fun _ _ _=>trivial) ?_ ?_ ?_
 . refine⟨rfl,fun k f=>?_,.sl 0 [] .nil,?_,.inl ⟨rfl,rfl⟩⟩
   . simp[qBv f]
   . simp
 . rintro i v τ hi ⟨h1,h2,w,c,d⟩;obtain⟨n,o,rfl⟩:∃n,l[i]?=some n/\v=.int .i64 n:=by
    simp only[qBO,qBu]at hi;obtain⟨n,a,b⟩:=hi;exact⟨n,a,b.symm⟩
   have x:i<l.length:=(qBk.1 o).1;obtain⟨H,T⟩:=τ;simp only at h1 h2 c d;simp[c];have g:=(qBk.1 c).1;have m:(l.take (i+1)).map (fun n=>AV.int .i64 n)=(l.take i).map (fun n=>AV.int .i64 n)++[.int .i64 n]:=by
    rw[qBQ,o];simp
   rcases d with⟨rfl,rfl⟩|⟨b,rfl,y,hb,r⟩
   . rw[qmj];simp[qBv g,c];refine⟨h1,fun k f=>?_,.ms H.length 0 1 1,?_,.inr ⟨H.length,rfl,by omega,g,?_⟩⟩
     . simp only;rw[qBn (by omega),qBv (by omega)];exact h2 k f
     . simp only;rw[qBo (by simp;omega)]
     simp only;rw[qBn (by omega),qBt (qBs _),m];simp
   have s:((l.take i).map fun n=>AV.int .i64 n).length=i:=(by simp;omega);rw[qpw H T n b i _ r s (by omega)];have u:b<H.length:=(qBk.1 r).1;have j:(H.set b .dead++[.cells ((l.take i).map (fun n=>AV.int .i64 n)++[.int .i64 n])])[σ.H.length]?=some (.cells [.ms b 0 i 1]):=by
    rw[qBv (by simpa using g),qBn (by omega),c]
   generalize h:H.set b .dead++[.cells ((l.take i).map (fun n=>AV.int .i64 n)++[.int .i64 n])]=H' at j;simp[j];have A:H'.length=H.length+1:=(by rw[<- h];simp);refine⟨h1,fun k f=>?_,.ms H.length 0 (i+1) 1,?_,.inr ⟨H.length,rfl,by omega,g,?_⟩⟩
   . simp only;rw[qBn (by omega),<- h,qBv (by simp;omega),qBn (by omega)];exact h2 k f
   . simp only;rw[qBo (by omega)]
   simp only;rw[qBn (by omega),m,<- h,qBt (by simp)];simp
 rintro τ ⟨h1,h2,w,c,d⟩;simp[c];refine⟨h1,h2,?_⟩;simp only[qBT,qCS]at d;rcases d with⟨h0,rfl⟩|⟨b,rfl,h0,hb,t⟩
 . exact .inl ⟨qBy h0,rfl⟩
 exact .inr ⟨b,rfl,fun e=>by rw[e]at h0;simp at h0,t⟩
def qiy(σ l tok)(a:l.length<2^28):
 qh prog GG 144 [.fn 146 [] [.rptr [.sl 1 (YC l) tok]]] σ (qAc σ l):=by
 refine qFF func144 ?_;simp;refine qFJ (qdF σ l tok a) ?_;rintro v τ h;simp;exact h
def qzD:IntKind.i64.wrap 1=1:=wr
def qeJ:List Int->Int->List Int
 |[],x=>[x]
 |y::r,x=>if x<y then y::qeJ r x else x::y::r
def qeK(s:List Int)(x:Int):List Int:=(qeJ s.reverse x).reverse
def wt(l:List Int):List Int:=l.foldl qeK []
def qgu:∀(s) (x),(qeJ s x).length=s.length+1
 |[],x=>rfl
 |y::r,x=>by unfold qeJ;split<;>simp[qgu r x]
def qoA(s x):(qeK s x).length=s.length+1:=by simp[qeK,qgu]
def JN(l x):wt (l++[x])=qeK (wt l) x:=by simp[wt,qCb]
def Wi:∀(n) (l),l.length=n->(wt l).length=n:=by
 intro n
 induction n with
 |zero=>intro l h;rw[qBy h];rfl
 | succ n ih=>
  intro l h;have a:l≠[]:=fun e=>by rw[e]at h;simp at h
  rw[<- qCa a,JN,qoA,ih _ (by simp[h])]
def qc3{A B x}(h:∀y∈B,x<y):qeK (A++B) x=qeK A x++B:=by
 unfold qeK;rw[qD7];have:∀(C D:List Int),(∀y∈C,x<y)->qeJ (C++D) x=C++qeJ D x:=by
  intro C D b
  induction C with
  |nil=>rfl
  | cons c C ih=>
   have:=b c (by simp);rw[qBV,qeJ,if_pos this,ih fun y a=>b y (by simp[a])];rfl
 rw[this _ _ fun y a=>h y (by simpa using a),qD7,List.reverse_reverse]
def qoy(x):qeK [] x=[x]:=rfl
def qk2{A y x}(h:¬x<y):qeK (A++[y]) x=A++[y,x]:=by
 unfold qeK;rw[qD7];show(qeJ (y::A.reverse) x).reverse=_;rw[qeJ,if_neg h];simp
def qsv(a b):Pure prog GG 259 [.int .i64 a,.int .i64 b] (.bool (decide (a<b))):=by
 have c:∀z:Int,Pure prog GG 310 [.int .i64 z] (.bool false):=fun z=>by
  refine qFD func310 ?_;simp
 refine qFD func259 ?_;simp;refine qFG (c a) ?_ rfl;simp
def qnL:List (Nat×Sch×List Nat):=[(6,.step 0 [17,16,15,14] (.step 1 [17,16,15,14] (.step 2 [17,16] (.step 3 [17,16,4] (.step 4 [17,16] (.step 5 [17,16,15,14,9,8] (.step 6 [17,16,15,14,9,8,7] (.step 7 [17,16,15,14,9,8] (.step 8 [17,16,15,14,9] (.step 9 [17,16,15,14] (.step 10 [17,16,15,14,13,12] (.step 11 [17,16,15,14,13,12] (.step 12 [17,16,15,14,13] (.step 13 [17,16,15,14] (.step 14 [17,16,15] (.step 15 [17,16] (.step 16 [17] (.step 17 [] (.done)))))))))))))))))),[])]
def qxW(b:Nat)(l:List Int)(H:List Blk)(T:List (Option Nat))(r:AV)(τ:St):Prop:=τ=⟨H.set b (.cells (zc (wt l))),T⟩
def qkL{A B x j}(h:A.length=j):(zc (A++x::B)).drop j=.int .i64 x::zc B:=by
 subst h;unfold zc;rw[qCl,qCJ (by simp),qBZ (by simp)];simp
def qsK{b l}(hl:l.length<=1000){H T}(hb:H[b]?=some (.cells (zc l))):
 qh prog GG 253 [.ms b 0 l.length 1,.int .i64 0,.int .i64 l.length] ⟨H,T⟩ (qxW b l H T):=by
 refine qFE ⟨false,qnL,[],[]⟩ func253 ?_;have J:=(qBk.1 hb).1;simp;refine qFL (fun n ev σ=>ev 0=.ms b 0 l.length 1/\ev 1=.int .i64 0/\ev 2=.int .i64 l.length/\∃i,n=l.length+1-i/\1<=i/\(i<=l.length\/i=1)/\ev 6=.int .i64 (i:Int)/\σ=⟨H.set b (.cells (zc (wt (l.take i)++l.drop i))),T⟩) l.length ?_ ?_
 . refine⟨by simp,by simp,by simp,1,by omega,by omega,.inr rfl,by simp[qzD],?_⟩;have:wt (l.take 1)++l.drop 1=l:=by
    cases l with
    |nil=>rfl
    |cons a r=>rfl
   rw[this];have:H.set b (.cells (zc l))=H:=by
    apply qCg;intro j;by_cases F:b=j
    . subst F;rw[qBo J,hb]
    rw[qBn F]
   rw[this]
 rintro n ev σ R hR ⟨g,h,d,i,rfl,c0,a7,o,rfl⟩;by_cases Y:i<l.length
 . have I:(i:Int)<l.length:=(by omega);have c1:=wr (n:=(i:Int)+1);obtain⟨x,E⟩:∃x,l[i]?=some x:=⟨_,qBm Y⟩;have Z:l.drop i=x::l.drop (i+1):=by
    obtain⟨h1,h2⟩:=qBk.1 E;rw[qBE h1,h2]
   have X:wt (l.take (i+1))=qeK (wt (l.take i)) x:=(by rw[qBQ,E];exact JN _ _);have L:(wt (l.take i)).length=i:=Wi _ _ (by simp;omega);rw[Z];generalize wt (l.take i)=S at *;generalize G:l.drop (i+1)=D at *;have a8:D.length=l.length-(i+1):=(by rw[<- G];simp);simp[*];refine qFL (fun n ev σ=>ev 0=.ms b 0 l.length 1/\ev 1=.int .i64 0/\ev 2=.int .i64 l.length/\ev 6=.int .i64 (i:Int)/\∃j A B,n=j/\j<=i/\ev 7=.int .i64 (j:Int)/\A.length=j/\S=A++B/\(∀y∈B,x<y)/\σ=⟨H.set b (.cells (zc (A++x::(B++D)))),T⟩) i ?_ ?_
   . exact⟨by simp[g],by simp[h],by simp[d],by simp[o],i,S,[],rfl,qBs _,by simp,L,by simp⟩
   rintro n ev σ R2 P ⟨g,h,d,o,j,A,B,rfl,b6,Q,s,t,v,rfl⟩;have b2:B.length=i-n:=(by have:=L;rw[t,qBp]at this;omega);have fin:∀f,f 0=.ms b 0 l.length 1->f 1=.int .i64 0->f 2=.int .i64 l.length->f 6=.int .i64 ((i+1:Nat):Int)->qeK S x=A++x::B->R f ⟨H.set b (.cells (zc (A++x::(B++D)))),T⟩:=fun f a0 N W O a4=>by
    refine hR (l.length+1-(i+1)) _ _ (by omega) ⟨a0,N,W,i+1,rfl,by omega,.inl (by omega),O,?_⟩;rw[X,a4];simp[G]
   cases n with
   | zero=>
    have V:=qBy s;subst V;simp;rw[wd (by rfl)];simp[*];refine fin _ (by simp[g]) (by simp[h]) (by simp[d]) (by simp) ?_;rw[t];have:=qc3 (A:=[]) v;simpa[qoy] using this
   | succ j=>
    obtain⟨c,y,rfl⟩:∃c y,A=c++[y]:=by
     have K:A≠[]:=fun e=>by rw[e]at s;simp at s
     exact⟨A.dropLast,A.getLast K,(qCa K).symm⟩
    have m:c.length=j:=(by simpa using s);have a3:=wr (n:=((j:Int)+1)-1);have U:((j:Int)+1)-1=j:=(by omega);rw[U]at a3;have C:(c++[y])++x::(B++D)=c++y::x::(B++D):=(by simp);have b7:(zc (c++y::x::(B++D))).drop (j+1)=.int .i64 x::zc (B++D):=by
     have:=qkL (A:=c++[y]) (x:=x) (B:=B++D) (j:=j+1) (by simpa using m)
     rwa[C]at this
    have b5:(zc (c++y::x::(B++D))).drop j=.int .i64 y::zc (x::(B++D)):=qkL m;have c3:(zc (c++y::x::(B++D))).length=l.length:=(by rw[qO];simp;omega);have c2:∀z:Blk,(H.set b z)[b]?=some z:=fun z=>qBo J
    have a5:(j:Int)+1<l.length:=(by omega);have b0:(j:Int)<l.length:=(by omega);have b9:(0:Int)<=(j:Int)+1:=(by omega);have b1:((j:Int)+1).toNat=j+1:=(by omega);have c4:j+1+1<=l.length:=(by omega);have a9:j+1<=l.length:=(by omega);simp at Q;rw[C]at fin⊢;have M:=qsv x y;simp;rw[wd (by rfl)];simp[*,show(0:Int)<(j:Int)+1 by omega];refine qFG M ?_ rfl;by_cases w:x<y
    . have b4:(zc (c++y::x::(B++D))).set (j+1) (.int .i64 y)=zc (c++y::y::(B++D)):=by
       rw[yR,qCd _ _ (by omega),m,qCt];rfl
      have b8:(zc (c++y::y::(B++D))).set j (.int .i64 x)=zc (c++x::y::(B++D)):=by
       rw[yR,qCd _ _ (by omega),m,qCh];rfl
      simp[w];rw[qG rfl];simp[*,qX,show(zc (c++y::y::(B++D))).length=l.length by rw[qO];simp;omega];exact P j _ _ (by omega) ⟨by simp[g],by simp[h],by simp[d],by simp[o],j,c,y::B,rfl,by omega,by simp,m,by rw[t];simp,fun z u=>by
       rcases qBN.1 u with rfl|u
       . exact w
       exact v z u,by simp⟩
    simp[*];refine fin _ (by simp[g]) (by simp[h]) (by simp[d]) (by simp) ?_;rw[t,qc3 v,qk2 w];simp
 have I:¬(i:Int)<l.length:=by omega
 have hq:qxW b l H T (.tup []) ⟨H.set b (.cells (zc (wt (l.take i)++l.drop i))),T⟩:=by
  rw[show l.take i=l from qBr (by omega),show l.drop i=[] from qBZ (by omega),qB4];rfl
 simp[d,o,I];exact hq
def qvv(n:Nat)(h:n<=12):Pure prog GG 263 [.int .u64 n] (.int .i64 ((if n=0 then 0 else if n=1 then 1 else if n<4 then 2 else if n<8 then 3 else 4:Nat):Int)):=by
 refine qFD func263 ?_;have a:IntKind.u8.wrap (n:Int)=n:=by
  have:n=0\/n=1\/n=2\/n=3\/n=4\/n=5\/n=6\/n=7\/n=8\/n=9\/n=10\/n=11\/n=12:=by omega
  rcases this with rfl|rfl|rfl|rfl|rfl|rfl|rfl|rfl|rfl|rfl|rfl|rfl|rfl<;>decide
 simp[show ¬(4294967296:Int)<=n by omega,show ¬(65536:Int)<=n by omega,show ¬(256:Int)<=n by omega,ye,a];have:n=0\/n=1\/n=2\/n=3\/n=4\/n=5\/n=6\/n=7\/n=8\/n=9\/n=10\/n=11\/n=12:=by omega
 rcases this with rfl|rfl|rfl|rfl|rfl|rfl|rfl|rfl|rfl|rfl|rfl|rfl|rfl<;>simp[ye,show IntKind.i64.wrap 0=0 by decide,show IntKind.i64.wrap 1=1 by decide,show IntKind.i64.wrap 2=2 by decide,show IntKind.i64.wrap 3=3 by decide,show IntKind.i64.wrap 4=4 by decide]
def qsy(n:Nat)(h:n<=12):Pure prog GG 196 [.int .u64 n] (.int .i64 ((if n=0 then 0 else if n=1 then 1 else if n<4 then 2 else if n<8 then 3 else 4:Nat):Int)):=by
 refine qFD func196 ?_;have h1:=qvv n h;generalize ((if n=0 then 0 else if n=1 then 1 else if n<4 then 2 else if n<8 then 3 else 4:Nat):Int)=m at *;simp;refine qFG h1 ?_ rfl;simp
def qr6{b l}(d:l.length<=12)(m){H T}(hb:H[b]?=some (.cells (zc l))):
 qh prog GG 195 [.ms b 0 l.length 1,.int .i64 0,.int .i64 l.length,m] ⟨H,T⟩ (qxW b l H T):=by
 refine qFF func195 ?_;have a:=wr (n:=(l.length:Int));simp;refine qFL (fun n ev σ=>ev 0=.ms b 0 l.length 1/\ev 1=.int .i64 0/\ev 2=.int .i64 l.length/\σ=⟨H,T⟩) 0 ⟨by simp,by simp⟩ ?_;rintro n ev σ R c ⟨h0,h1,h2,rfl⟩;simp[h0,h1,h2,a,show(l.length:Int)<=12 by omega];refine qFJ (qsK (by omega) hb) ?_;rintro v τ h;simp;exact h
def qkT:∀n:Nat,n<=12->∃m,Pure prog GG 196 [.int .u64 n] (.int .i64 m):=fun n h=>⟨_,qsy n h⟩
def qnd{b l}(a:l.length<=12){H T}(hb:H[b]?=some (.cells (zc l))):
 qh prog GG 145 [.ms b 0 l.length 1] ⟨H,T⟩ (qxW b l H T):=by
 refine qFF func145 ?_;have c:IntKind.u64.wrap (l.length:Int)=l.length:=by
  have:l.length=0\/l.length=1\/l.length=2\/l.length=3\/l.length=4\/l.length=5\/l.length=6\/l.length=7\/l.length=8\/l.length=9\/l.length=10\/l.length=11\/l.length=12:=by omega
  rcases this with e|e|e|e|e|e|e|e|e|e|e|e|e<;>rw[e]<;>decide
 obtain⟨m,d⟩:=qkT l.length a;simp[ye,c];refine qFG (G:=qW GG) d ?_ (by simp[qr,qE]);simp;refine qFJ (qr6 a _ hb) ?_;rintro v τ h;simp;exact h
def qyo(sz tok σ):qh prog GG 145 [.sl sz [] tok] σ (fun _ τ=>τ=σ):=by
 obtain⟨m,f⟩:=qkT 0 (by omega);refine qFF func145 ?_;simp[ye,show IntKind.u64.wrap 0=0 by decide];refine qFG (G:=qW GG) f ?_ (by simp[qr,qE]);simp;have e:∀τ:St,qh prog GG 253 [.sl sz [] tok,.int .i64 0,.int .i64 0] τ (fun _ a=>a=τ):=fun τ=>by
  refine qFF func253 ?_;simp;refine qFL (fun _ ev (a:St)=>ev 6=.int .i64 1/\ev 2=.int .i64 0/\a=τ) 0 ⟨by simp[qzD],by simp⟩ ?_;rintro n ev a R d ⟨c,h2,rfl⟩;simp[c,h2]
 have b:qh prog GG 195 [.sl sz [] tok,.int .i64 0,.int .i64 0,.int .i64 m] σ (fun _ a=>a=σ):=by
  refine qFF func195 ?_;simp;refine qFL (fun _ ev (τ:St)=>ev 0=.sl sz [] tok/\ev 1=.int .i64 0/\ev 2=.int .i64 0/\τ=σ) 0 ⟨by simp,by simp⟩ ?_;rintro n ev τ R d ⟨h0,h1,h2,rfl⟩;simp[h0,h1,h2,show IntKind.i64.wrap 0=0 by decide];refine qFJ (e τ) ?_;rintro v a rfl;simp
 refine qFJ b ?_;rintro v τ rfl;simp
def qhG(l)(h:l.length<=12)(tok):Pure prog GG 100 [.fn 146 [] [.rptr [.sl 1 (YC l) tok]]] (.sl 1 ((wt l).map qf) .none):=by
 refine qFC o0 true func100 ?_;simp;refine qFJ (qiy _ l tok (by omega)) ?_;rintro v ⟨H,T⟩ ⟨h1,h2,f⟩;have a:(wt l).length=l.length:=Wi _ _ rfl;have key:∃Q:AV->St->Prop,qh prog GG 145 [v] ⟨H,T⟩ Q/\∀r τ,Q r τ->∃b,ja b 1 qf τ.H v (wt l):=by
  rcases f with⟨rfl,rfl⟩|⟨b,rfl,h0,hb⟩
  . exact⟨_,qyo _ _ _,fun r τ e=>⟨0,.inl ⟨rfl,rfl⟩⟩⟩
  refine⟨_,qnd h hb,fun r τ e=>⟨b,.inr ⟨fun e=>h0 (qBy (by rw[<- a,e];rfl)),by rw[a],?_⟩⟩⟩;rw[e,<- jD];exact qBo (qBk.1 hb).1
 obtain⟨Q,g,hi⟩:=key;simp;refine qFJ g ?_;rintro r τ d;obtain⟨b,c⟩:=hi r τ d;simp;exact⟨c.frzNo (fun _=>rfl) (fun _=>rfl) (fun _=>rfl) 7,c.frz (fun _=>rfl) (fun _=>rfl) (fun _=>rfl) 7⟩
def vl:∀l:List Int,qM (YC l)=true
 |[]=>rfl
 | a::r=>by
  have:=vl r;simpa[YC,qM,qr] using this
def qji(l tok)(b:∀t k,tok≠.chain t k):Pure prog GG 101 [.sl 1 (YC l) tok] (.fn 146 [] [.rptr [.sl 1 (YC l) tok]]):=by
 refine qFC o0 true func101 ?_;simp;have a:qE (.sl 1 (YC l) tok)=true:=by
  have:=vl l;cases tok<;>simp_all[qE]
 have e:frz [Blk.cells [.sl 1 (YC l) tok]] 8 (.fn 146 [] [.ptr 0 0])=.fn 146 [] [.rptr [.sl 1 (YC l) tok]]:=by
  rw[frz];simp only[qE];simp[qba,ql a,qr]
 rw[e];have:=vl l;exact⟨by cases tok<;>simp_all[qE,qr],qFN _⟩
def fxE(e:Nat×Nat×Nat):AV×AV×Nat:=(.int .i64 (e.1:Int),.int .i64 (e.2.1:Int),e.2.2)
def fxO:List (Nat×Nat×Nat)->Nat->Option Nat
 |[],_=>none
 |e::r,i=>if e.1=i then some e.2.1 else fxO r i
def yT(f:Nat->Option Nat)(i x:Nat):Nat->Option Nat:=fun k=>if k=i then some x else f k
def qeP(i):∀(E) (k),(fxO E i=none/\jQ (.int .i64 (i:Int)) (E.map fxE) k=some none/\∀y c,fxO (E++[(i,y,c)])=yT (fxO E) i y) \/
 ∃j x,fxO E i=some x/\jQ (.int .i64 (i:Int)) (E.map fxE) k=some (some (k+j,.int .i64 (x:Int)))/\∀y:Nat,∃d:List (Nat×Nat×Nat),(E.map fxE).modify j (fun e=>(.int .i64 (i:Int),.int .i64 (y:Int),e.2.2))=d.map fxE/\fxO d=yT (fxO E) i y:=by
 intro E
 induction E with
 | nil=>
  intro k;refine .inl ⟨rfl,rfl,fun y c=>?_⟩;funext j;by_cases h:j=i
  . subst h;simp[fxO,yT]
  simp[fxO,yT,h];exact fun e=>h e.symm
 | cons e r ih=>
  intro k;by_cases b:e.1=i
  . refine .inr ⟨0,e.2.1,by simp[fxO,b],?_,fun y=>⟨(i,y,e.2.2)::r,by simp[fxE,List.modify],?_⟩⟩
    . simp[fxE,jQ,Zg,b]
    . funext j;by_cases h:j=i
      . subst h;simp[fxO,yT]
      have h':¬i=j:=fun e=>h e.symm
      simp[*,fxO,yT]
  have t:¬(i:Int)=(e.1:Int):=by omega
  have l:jQ (.int .i64 (i:Int)) ((e::r).map fxE) k=jQ (.int .i64 (i:Int)) (r.map fxE) (k+1):=by
   simp[fxE,jQ,Zg,show((i:Int)==(e.1:Int))=false by simpa using t]
  rcases ih (k+1) with⟨h1,h2,f⟩|⟨j,x,h1,h2,f⟩
  . refine .inl ⟨by simp[*,fxO],by rw[l,h2],fun y c=>?_⟩;funext a;have:=congrFun (f y c) a;simp only[yT]at this⊢;by_cases g:e.1=a
    . have s:¬a=i:=fun h=>b (g.trans h)
      simp[*,fxO]
    simp[*,fxO]
  refine .inr ⟨j+1,x,by simp[*,fxO],by rw[l,h2,qDu,qDn 1 j],fun y=>?_⟩;obtain⟨d,m,o⟩:=f y;refine⟨e::d,by simp[List.modify,<- m],?_⟩;funext a;have:=congrFun o a;simp only[yT]at this⊢;by_cases g:e.1=a
  . have s:¬a=i:=fun h=>b (g.trans h)
    simp[*,fxO]
  simp[*,fxO]
def FxS(F:Nat)(fx:Nat->Option Nat)(H:List Blk):Prop:=∃E n,H[F]?=some (.map (E.map fxE) n)/\fxO E=fx
def FxS.ok{F fx H}(h:FxS F fx H):qi0 (.map F) fx H:=by
 obtain⟨E,n,h1,rfl⟩:=h;refine .inr ⟨F,_,n,rfl,h1,fun i=>?_⟩;rcases qeP i E 0 with⟨h1,h2,_⟩|⟨j,x,h1,h2,_⟩
 . rwa[h1]
 rw[h1];exact⟨_,h2⟩
def FxS.set{F fx H}(h:FxS F fx H)(i y:Nat):∃B,(∀T,zq (Dof prog) ⟨H,T⟩ 139 (.map F) (.int .i64 (i:Int)) (.int .i64 (y:Int))=some ⟨H.set F B,T⟩)/\FxS F (yT fx i y) (H.set F B):=by
 obtain⟨E,n,h1,rfl⟩:=h;have b:=(qBk.1 h1).1;rcases qeP i E 0 with⟨_,h2,a⟩|⟨j,x,_,h2,a⟩
 . refine⟨.map ((E++[(i,y,n)]).map fxE) (n+1),fun T=>by simp[zq,zI,h1,h2,fxE],E++[(i,y,n)],n+1,qBo b,a y n⟩
 obtain⟨c,d,e⟩:=a y;rw[qDb]at h2;exact⟨.map (c.map fxE) n,fun T=>by simp[zq,zI,h1,h2,d],c,n,qBo b,e⟩
def FxS.keep{F fx H H' bs}(h:FxS F fx H)(a:KpL bs H H')(hb:F∉bs):FxS F fx H':=by
 obtain⟨E,n,h1,h2⟩:=h;exact⟨E,n,a.2 _ _ h1 hb,h2⟩
def FxS.ne{F N fx H B}(h:FxS F fx H)(hb:N≠F):FxS F fx (H.set N B):=by
 obtain⟨E,n,h1,h2⟩:=h;exact⟨E,n,by rw[qBn hb];exact h1,h2⟩
def qb3(f i x):yT f i x i=some x:=by simp[yT]
def qmX(f i x y):yT (yT f i x) i y=yT f i y:=by
 funext k;by_cases h:k=i<;>simp[yT,h]
def FxS.get{F fx H}(h:FxS F fx H){i x}(a:fx i=some x)(T):zF (Dof prog) ⟨H,T⟩ 139 (.map F) (.int .i64 (i:Int)) false=some (.int .i64 (x:Int)):=by
 obtain⟨E,n,h1,rfl⟩:=h;rcases qeP i E 0 with⟨h2,_,_⟩|⟨j,x',h2,b,_⟩
 . rw[a]at h2;cases h2
 rw[a]at h2;cases h2;simp[*,zF,zI]
def qio(l):(l.map qf).flatten=zc l:=by
 induction l with
 |nil=>rfl
 |cons a r ih=>rw[qBz,qB7,ih];rfl
def qlO{r a H}(c:AsR r a H)(d:a≠[])(e:a.length<=1000)(T):
 qh prog GG 99 [r] ⟨H,T⟩ (fun v σ'=>v=.ms H.length 0 a.length 1/\σ'=⟨H++[.cells (zc a)],T⟩):=by
 refine qFE ⟨true,[],[],[]⟩ func99 ?_;rcases c with⟨tok,rfl⟩|⟨N,rfl,f⟩
 . cases a with
   |nil=>exact absurd rfl d
   | cons x a=>
    have h2:a.length+1<=549755813888:=(by simp at e;omega);have b:=qio (x::a);simp at b;simp[qY,zD,qP,Zl,h2];exact b
 have h2:a.length<=549755813888:=by omega
 have h1:(zc a).take a.length=zc a:=qBr (by rw[qO];exact qBs _);simp[*,qY,zD,qP,Zl,qO]
def qoz{s x z}:z∈qeK s x↔z∈s\/z=x:=by
 have:∀(s:List Int),z∈qeJ s x↔z∈s\/z=x:=by
  intro s
  induction s with
  |nil=>simp[qeJ]
  | cons y r ih=>
   unfold qeJ;split
   . simp only[qBN,ih];constructor
     . rintro(h|h|h)<;>simp[h]
     rintro((h|h)|h)<;>simp[h]
   simp;constructor
   . rintro(h|h|h)<;>simp[h]
   rintro((h|h)|h)<;>simp[h]
 rw[qeK,qEo,this,qEo]
def qc0{z}:∀(n) (l),l.length=n->(z∈wt l↔z∈l):=by
 intro n
 induction n with
 |zero=>intro l h;rw[qBy h];rfl
 | succ n ih=>
  intro l h;have a:l≠[]:=fun e=>by rw[e]at h;simp at h
  have e:=qCa a;rw[<- e,JN,qoz,ih _ (by simp[h])];simp
def ka(g:List Nat):List Nat:=(wt (g.map fun n:Nat=>(n:Int))).map Int.toNat
def qaw(g):wt (g.map fun n:Nat=>(n:Int))=(ka g).map fun n:Nat=>(n:Int):=by
 unfold ka;rw[qCN]
 symm
 conv=>rhs;rw[<- qFc (wt _)]
 refine qCy fun z a=>?_
 rw[qc0 _ _ rfl]at a;obtain⟨n,_,rfl⟩:=qBH.1 a;rfl
def wS{g i}:i∈ka g↔i∈g:=by
 have:((i:Int)∈wt (g.map fun n:Nat=>(n:Int)))↔(i:Int)∈(g.map fun n:Nat=>(n:Int)):=qc0 _ _ rfl;rw[qaw]at this;have key:∀l:List Nat,((i:Int)∈l.map fun n:Nat=>(n:Int))↔i∈l:=fun l=>by
  rw[qBH];exact⟨fun⟨n,a,e⟩=>by
   have:n=i:=by omega
   exact this▸a,fun h=>⟨i,h,rfl⟩⟩
 rwa[key,key]at this
def qcg(g):(ka g).length=g.length:=by
 unfold ka;rw[qBT,Wi _ _ rfl,qBT]
def yz(F:Nat->Nat):Nat->Nat->Int->Nat×Int
 |0,x,a=>(x,a)
 |n+1,x,a=>if a<F x then(x,a) else if n=0 then(x,a-F x) else yz F n (x+1) (a-F x)
def wdN(p:Problem)(i:Nat):Nat:=match p.vars[i]? with|some v=>v.width.toNat|none=>0
noncomputable def chS(s:Spc)(d:List Nd)(a:List Int)(gi:Nat):List Nat->(Nat->Option Nat)->Int->List Int->List Int
 |[],_,_,out=>out
 | i::r,fx,b,out=>
  let q:=yz (fun x=>qau s d (yT fx i x) a gi) (2^wdN s.p i) 0 b
  chS s d a gi r (yT fx i q.1) q.2 (out.set i q.1)
noncomputable def qbn(s:Spc)(d:List Nd)(gi:Nat)(a:List Int)(b:Int):List Int:=chS s d a gi (ka ((NG s.p).getD gi [])) (fun _=>none) b a
def ChQ(out:List Int)(H:List Blk)(v:AV)(σ':St):Prop:=KpL [] H σ'.H/\∃N,v=.ms N 0 out.length 1/\H.length<=N/\σ'.H[N]?=some (.cells (zc out))
def qpe{s d}(h:SpV s d)(g4:(NG s.p).flatten.length<=12){gi}(d6:gi<(NG s.p).length){r a H}(c6:AOk s.p a)(h6:a.length=s.p.vars.length)(hs:SpOk s H)(ha:AsR r a H)(T)
 {E} (f3:0<=E) (f7:E<2^62):
 qh prog GG 58 [.ptr s.S 0,.int .i64 gi,r,.int .i64 E] ⟨H,T⟩ (ChQ (qbn s d gi a E) H):=by
 refine qFF func58 ?_;obtain⟨g,hg⟩:∃g,(NG s.p)[gi]?=some g:=⟨_,qBm d6⟩;have b2:=qBl hg;have e5:∀i∈g,i∈(NG s.p).flatten:=fun i hi=>qB3.2 ⟨g,b2,hi⟩
 have g7:g.length<=12:=by
  have:∀(G:List (List Nat)),g∈G->g.length<=G.flatten.length:=by
   intro G
   induction G with
   |nil=>intro h;simp at h
   | cons x r ih=>
    intro h;rw[qB7,qBp];rcases qBN.1 h with rfl|h
    . omega
    have:=ih h;omega
  exact qCq (this _ b2) g4
 have f4:g≠[]:=by
  obtain⟨g',g0,rfl⟩:=qBH.1 b2;have:=(jI h.vp).1 g' g0;simpa using this
 have g6:a≠[]:=by
  intro e;obtain⟨i,r',rfl⟩:=qDF f4;obtain⟨n,hn,_⟩:=c6 i (e5 i (by simp));rw[e]at hn;simp at hn
 have h3:=h.vq.vars;have f9:=qlO ha g6 (by omega) T;have hG:=qg8 h.vp;have hS:=hs.c;simp only[spE,qw,qBV,qBL,hG]at hS;have h9:gi<s.p.groups.length:=by
  have:(NG s.p).length=s.p.groups.length:=by simp[NG]
  omega
 have d9:=qji (g.map fun n:Nat=>(n:Int)) .none (by simp);have a4:=qhG (g.map fun n:Nat=>(n:Int)) (by simpa using g7) .none;have f1:YC (g.map fun n:Nat=>(n:Int))=g.map zW:=by simp[YC,zW]
 have e7:qM (g.map zW)=true:=by rw[<- f1];exact vl _
 rw[f1]at d9 a4;rw[qaw,qCN]at a4;rw[show((ka g).map (qf∘fun n:Nat=>(n:Int)))=(ka g).map zW by simp[qf,zW]]at a4;have i2:(ka g).length<=12:=by rwa[qcg]
 have i1:(NG s.p).length=s.p.groups.length:=by simp[NG]
 unfold qbn;rw[show(NG s.p).getD gi []=g by simp[qBw,hg]];simp;refine qFJ f9 ?_;rintro v σ ⟨rfl,rfl⟩;have c4:=qa hS [.cells (zc a)];simp[hS,hg,kf,qa];refine qFG d9 ?_ (by simp[e7]);simp;refine qFG a4 ?_ (by simp[e7]);simp;refine qFW (ka g) (fun N ev σ=>ev 0=.ptr s.S 0/\ev 1=.int .i64 gi/\ev 2=r/\ev 9=.ms H.length 0 a.length 1/\ev 10=.map (H.length+1)/\ev 27=.sl 1 ((ka g).map zW) .none/\ev 28=.int .i64 (ka g).length/\ev 29=.int .i64 N.length /\
  ∃(rest:List Nat) (fx:Nat->Option Nat) (o:Int) (out:List Int),ka g=N++rest/\ev 3=.int .i64 o/\chS s d a gi rest fx o out=chS s d a gi (ka g) (fun _=>none) E a/\KpL [] H σ.H/\σ.H[H.length]?=some (.cells (zc out))/\FxS (H.length+1) fx σ.H/\out.length=a.length/\0<=o/\o<2^62/\∀i x,fx i=some x->x<65536) ?_ ?_ ?_
 . exact⟨by simp,by simp,by simp,by simp,by simp,by simp,by simp,by simp,ka g,fun _=>none,E,a,rfl,by simp,rfl,qGe,by simp,⟨[],0,by simp,rfl⟩,rfl,f3,f7,by simp⟩
 . rintro N i a7 ev ⟨H1,T1⟩ R hR hd hx h2 ⟨C,M,F,w,z,K,D,A,rest,fx,o,out,b7,P,c2,I,O,Q,X,d0,f0,Z⟩;have a6:rest=i::a7:=by
    have:=b7.symm.trans hd;simpa using this
   subst a6;obtain⟨v,l,hv,h1,h8,_,_,_⟩:=h.gr e5 i (wS.1 (qBl hx));have h7:=(qBk.1 hv).1;have d1:=yo h1 (by omega);have g2:2^v.width.toNat<=2^8:=qBF (by omega) (by omega);have d3:0<2^v.width.toNat:=qDt _;obtain⟨W,hW⟩:∃W,W=2^v.width.toNat:=⟨_,rfl⟩;have h0:chS s d a gi a7 (yT fx i (yz (fun x=>qau s d (yT fx i x) a gi) W 0 o).1) (yz (fun x=>qau s d (yT fx i x) a gi) W 0 o).2 (out.set i (yz (fun x=>qau s d (yT fx i x) a gi) W 0 o).1)=chS s d a gi (ka g) (fun _=>none) E a:=by
    rw[<- c2,hW,<- show wdN s.p i=v.width.toNat by unfold wdN;rw[hv]];rfl
   rw[<- hW]at d1 g2 d3;generalize f6:(fun x=>qau s d (yT fx i x) a gi)=j at *;have d7:=wr (n:=(N.length:Int)+1);have c4:=I.2 _ _ hS (by simp);simp[C,K,D,A,show(N.length:Int)<(ka g).length by omega,hx,zW,c4,hv,show ¬v.width<0 by omega,IntKind.bits,d1];refine qFL (fun n ev σ=>ev 0=.ptr s.S 0/\ev 1=.int .i64 gi/\ev 2=r/\ev 9=.ms H.length 0 a.length 1/\ev 10=.map (H.length+1)/\ev 12=.int .i64 i/\ev 27=.sl 1 ((ka g).map zW) .none/\ev 28=.int .i64 (ka g).length/\ev 29=.int .i64 N.length/\ev 42=.int .i64 W /\
    ∃ (x:Nat) (Y:Nat->Option Nat) (f:Int),n=W-x/\ev 3=.int .i64 f/\ev 43=.int .i64 x/\KpL [] H σ.H/\σ.H[H.length]?=some (.cells (zc out))/\FxS (H.length+1) Y σ.H/\0<=f/\f<2^62/\(∀i x,Y i=some x->x<65536) /\
     ((x<W/\yz j W 0 o=yz j (W-x) x f/\∀y,yT Y i y=yT fx i y)\/(x=W/\yz j W 0 o=(W-1,f)/\Y=yT fx i (W-1)))) W ?_ ?_
   . exact⟨by simp[C],by simp[M],by simp[F],by simp[w],by simp[z],by simp,by simp[K],by simp[D],by simp[A],by simp,0,fx,o,by simp,by simp[P],by simp,I,O,Q,d0,f0,Z,.inl ⟨d3,rfl,fun _=>rfl⟩⟩
   rintro n ev ⟨H2,T2⟩ R2 g3 ⟨C,M,F,w,z,a5,K,D,A,b4,x,Y,f,rfl,P,d8,I,O,Q,c9,d2,i0,f8⟩;have e8:(i:Int)<(a.length:Int):=(by omega);have c8:i+1<=a.length:=(by omega);have tail:∀(x:Nat) (f:Int) (L:List Blk) (U:List (Option Nat)) (t:Env),t 0=.ptr s.S 0->t 1=.int .i64 gi->t 2=r->t 9=.ms H.length 0 a.length 1->t 10=.map (H.length+1)->t 27=.sl 1 ((ka g).map zW) .none->t 28=.int .i64 (ka g).length->t 29=.int .i64 ((N.length:Int)+1)->t 3=.int .i64 f ->
    KpL [] H L->L[H.length]?=some (.cells (zc out))->FxS (H.length+1) (yT fx i x) L->0<=f->f<2^62->x<65536->yz j W 0 o=(x,f)->R t ⟨L.set H.length (.cells (zc (out.set i x))),U⟩:=by
    intro x f L U t a0 a1 a2 a9 g5 g8 f2 g1 a3 bk bN bF b0 b1 bx hp;refine hR _ _ ⟨a0,a1,a2,a9,g5,g8,f2,by rw[g1];simp,a7,yT fx i x,f,out.set i x,by rw[hd];simp,a3,?_,bk.setF (qBs _),qBo (qBk.1 bN).1,bF.ne (by omega),by simp[X],b0,b1,?_⟩
    . rw[<- h0,hp]
    intro k y u;unfold yT at u;split at u
    . have:x=y:=by simpa using u
      omega
    exact Z k y u
   rcases f8 with⟨e4,V,b8⟩|⟨e4,V,b8⟩
   . have d4:(x:Int)<W:=(by omega);have h5:=wr (n:=(x:Int)+1);obtain⟨B,hB,g9⟩:=Q.set i x;have c1:=g9;rw[b8]at c1;have b9:=I.setF (b:=H.length+1) (y:=B) (by omega);have f5:(H2.set (H.length+1) B)[H.length]?=some (.cells (zc out)):=(by rw[qBn (by omega)];exact O);have d5:∀k y,yT fx i x k=some y->y<65536:=fun k y u=>by
      unfold yT at u;split at u
      . have:x=y:=by simpa using u
        omega
      exact Z k y u
     have e6:=qpP h d5 d6 c6 (hs.keep b9 (by simp) (by simp) (by simp)) c1.ok (ha.keep b9 (by simp)) T2;rw[<- show ∀x,j x=qau s d (yT fx i x) a gi from fun x=>by rw[<- f6]]at e6;have J:yz j (W-x) x f=if f<j x then(x,f) else if W-x-1=0 then(x,f-j x) else yz j (W-x-1) (x+1) (f-j x):=by
      obtain⟨m,hm⟩:∃m,W-x=m+1:=⟨W-x-1,by omega⟩;rw[hm];rfl
     simp[C,M,F,z,a5,b4,d8,d4,hB];refine qFJ e6 ?_;rintro v ⟨L,U⟩ ⟨rfl,a8⟩;have c0:=c1.keep a8 (by simp);have b6:=a8.2 _ _ f5 (by simp);have c5:=b9.trans a8;have b5:=c0.get (qb3 fx i x) U;by_cases c3:f<j x
     . rw[if_pos c3]at J;simp[P,w,z,a5,A,c3,b5,e8,c8,b6,qO,X,yR,d7];exact tail x f L U _ (by simp[C]) (by simp[M]) (by simp[F]) (by simp[w]) (by simp[z]) (by simp[K]) (by simp[D]) (by simp) (by simp[P]) c5 b6 c0 c9 d2 (by omega) (by rw[V,J])
     rw[if_neg c3]at J;have h4:=wr (n:=f-(j x:Int));simp[*];refine g3 (W-(x+1)) _ _ (by omega) ⟨by simp[C],by simp[M],by simp[F],by simp[w],by simp[z],by simp[a5],by simp[K],by simp[D],by simp[A],by simp[b4],x+1,yT fx i x,f-j x,rfl,by simp,by simp,c5,b6,c0,by omega,by omega,d5,?_⟩;by_cases c7:W-x-1=0
     . rw[if_pos c7]at J;refine .inr ⟨by omega,?_,?_⟩
       . rw[V,J];congr 1;omega
       congr 1;omega
     rw[if_neg c7]at J;exact .inl ⟨by omega,by rw[V,J];rfl,fun y=>qmX _ _ _ _⟩
   have d4:¬(x:Int)<W:=(by omega);subst b8;have b5:=Q.get (qb3 fx i (W-1)) T2;simp[w,z,a5,A,b4,d8,e4,b5,e8,c8,O,qO,X,yR,d7];exact tail (W-1) f H2 T2 _ (by simp[C]) (by simp[M]) (by simp[F]) (by simp[w]) (by simp[z]) (by simp[K]) (by simp[D]) (by simp) (by simp[P]) I O Q c9 d2 (by omega) V
 rintro ev ⟨H1,T1⟩ ⟨C,M,F,w,z,K,D,A,rest,fx,o,out,b7,P,c2,I,O,Q,X,d0,f0,Z⟩;have a6:rest=[]:=by simpa using b7
 subst a6;rw[<- c2];simp[w,D,A];exact⟨I,H.length,by simp[chS,X],qBs _,O⟩
def qi3(x d:Int):Int:=IntKind.u64.wrap (BitVec.ofInt 64 x ^^^ BitVec.ofInt 64 (x.fdiv d)).toNat
def qim(x:Int):Int:=qi3 (IntKind.u64.wrap (qi3 (IntKind.u64.wrap (qi3 x 1073741824*13787848793156543929)) 134217728*10723151780598845931)) 2147483648
def qvl(x k:Int):Int:=qim (IntKind.u64.wrap (x+IntKind.u64.wrap (11400714819323198485*IntKind.u64.wrap (k+1))))
def qvQ(x):Pure prog GG 252 [.int .u64 x] (.int .u64 (qim x)):=by
 refine qFD func252 ?_;simp[IntKind.bits];rfl
def qvm(x k):Pure prog GG 193 [.int .u64 x,.int .u64 k] (.int .u64 (qvl x k)):=by
 refine qFD func193 ?_;simp;refine qFG (qvQ _) ?_ rfl;simp;rfl
abbrev Rng:=Int×Int
def jt(r:Rng):List AV:=[.int .u64 r.1,.int .u64 r.2]
def Zf(r:Rng):Int×Rng:=(qvl r.1 r.2,r.1,IntKind.u64.wrap (r.2+1))
def qsm(r):Pure prog GG 143 [.agg (jt r)] (.tup [.int .u64 (Zf r).1,.agg (jt (Zf r).2)]):=by
 refine qFD func143 ?_;simp[jt];refine qFG (qvm _ _) ?_ rfl;simp;exact⟨rfl,rfl,rfl⟩
def qiA{R}(H T):qh prog GG 98 [.ptr R 0] ⟨H,T⟩ (fun v σ'=>v=.fn 142 [] [.ptr H.length 0]/\σ'=⟨H++[.cells [.ptr R 0]],T⟩):=by
 refine qFF func98 ?_;simp
def qqV(n):IntKind.u64.wrap n=n%18446744073709551616:=by
 simp[IntKind.wrap,IntKind.signed,IntKind.bits]
def YH(cut:Int):Nat->Int->Rng->Int×Rng
 |0,v,r=>(v,r)
 |k+1,_,r=>if cut=0\/(Zf r).1<IntKind.u64.wrap (0-cut) then Zf r else YH cut k (Zf r).1 (Zf r).2
def qo6(n:Int):Int:=(IntKind.u64.wrap (0-n)).tmod n
def yf(n:Int)(r:Rng):Int×Rng:=((YH (qo6 n) 64 0 r).1.tmod n,(YH (qo6 n) 64 0 r).2)
def qnZ:List (Nat×Sch×List Nat):=[(6,.step 0 [10,9] (.step 1 [10,9,8,7,6,5,4,3,2] (.step 2 [10,9,8,7,6,5,4,3] (.step 3 [10,9,8,7,6,5,4] (.step 4 [10,9,8,7,6,5] (.step 5 [10,9,8,7,6] (.step 6 [10,9,8] (.step 7 [10,9] (.step 8 [10,9] (.step 9 [10] (.step 10 [] (.done))))))))))),[])]
def qrX:List (Nat×Sch×List Nat):=[(4,.step 0 [4,3,2] (.step 1 [4,3] (.step 2 [4,3] (.step 3 [4] (.step 4 [] (.done))))),[])]
def Q7(cut):∀(k) (v) (r),0<=v->v<18446744073709551616->0<=(YH cut k v r).1/\(YH cut k v r).1<18446744073709551616
 |0,v,r,h0,h1=>⟨h0,h1⟩
 | k+1,v,r,h0,h1=>by
  have a:0<=(Zf r).1/\(Zf r).1<18446744073709551616:=by
   unfold Zf qvl qim qi3;dsimp only;rw[qqV];omega
  unfold YH;split
  . exact a
  exact Q7 cut k _ _ a.1 a.2
def qzA(n:Int)(R:Nat)(r:Rng)(H:List Blk)(T:List (Option Nat))(v:AV)(σ':St):Prop:=v=.int .i64 (yf n r).1/\σ'=⟨H.set R (.cells (jt (yf n r).2)),T⟩
def qs5{n}(h1:1<=n)(h2:n<=4611686018427387904){R C r H}(N:H[C]?=some (.cells [.ptr R 0]))(F:H[R]?=some (.cells (jt r)))(O:C≠R)(T):
 qh prog GG 142 [.int .i64 n,.ptr C 0] ⟨H,T⟩ (qzA n R r H T):=by
 refine qFE ⟨false,qnZ,[],[]⟩ func142 ?_;have f:¬n=0:=by omega
 have Y:=wru (n:=n) (by omega) (by omega);obtain⟨cut,D⟩:∃cut,cut=qo6 n:=⟨_,rfl⟩;have Q:(IntKind.u64.wrap (0-n)).tmod n=cut:=by rw[D];rfl
 have I:=(qBk.1 F).1;simp[*,ye,unA];obtain⟨t,w⟩:∃t,t=YH cut 64 0 r:=⟨_,rfl⟩;have V:(IntKind.u64.wrap (-n)).tmod n=cut:=by simpa using Q
 have fin:∀(v:Int) (a:Rng),t=(v,a)->IntKind.i64.wrap (v.tmod n)=v.tmod n/\qzA n R r H T (.int .i64 (v.tmod n)) ⟨H.set R (.cells (jt a)),T⟩:=fun v a e=>by
  have G:=Q7 cut 64 0 r (by omega) (by omega);rw[<- w,e]at G;have M:v.tmod n=v%n:=qCr G.1;have Z:=qEa v f;have W:=qEh v (by omega:0<n);refine⟨by rw[M];exact wr,?_⟩;unfold qzA;rw[show yf n r=(v.tmod n,a) by unfold yf;rw[<- D,<- w,e]];exact⟨rfl,rfl⟩
 refine qFL (fun m ev σ=>ev 1=.ptr C 0/\ev 4=.int .u64 n/\ev 5=.int .u64 cut/\∃(i:Nat) (v:Int) (a:Rng),m=64-i/\i<=64/\ev 13=.int .i64 i/\ev 6=.int .u64 v/\YH cut (64-i) v a=t/\σ=⟨H.set R (.cells (jt a)),T⟩) 64 ?_ ?_
 . refine⟨by simp,by simp,by simp[V],0,0,r,rfl,by omega,by simp,by simp,w.symm,?_⟩;congr 1;apply qCg;intro j;by_cases z:R=j
   . subst z;rw[qBo I,F]
   rw[qBn z]
 rintro m ev σ R0 A ⟨K,g,o,i,v,a,rfl,hi,E,U,hd,rfl⟩;have bC:∀y,(H.set R y)[C]?=some (.cells [.ptr R 0]):=fun y=>by rw[qBn (Ne.symm O)];exact N
 have s:∀y,(H.set R y)[R]?=some y:=fun y=>qBo I
 by_cases X:i<64
 . have B:(i:Int)<64:=(by omega);obtain⟨k,P⟩:∃k,64-i=k+1:=⟨63-i,by omega⟩;have S:=wr (n:=(i:Int)+1);rw[P]at hd A;unfold YH at hd;obtain⟨x,r',L⟩:∃x r',Zf a=(x,r'):=⟨_,_,rfl⟩;have u:=qsm a;rw[L]at hd u;simp only[jt]at u s;simp[*];rw[qG rfl];simp[*,qX,jt];refine qFG u ?_ rfl;by_cases c:cut=0
   . rw[if_pos (.inl c)]at hd;obtain⟨b,d⟩:=fin x r' hd.symm;simp[qX,g,o,s,c,f,b,ye];exact d
   by_cases l:x<IntKind.u64.wrap (0-cut)
   . rw[if_pos (.inr l)]at hd;obtain⟨b,d⟩:=fin x r' hd.symm;have J:x<IntKind.u64.wrap (-cut):=(by simpa using l);simp[qX,g,o,s,c,unA,f,b,ye,J];exact d
   rw[if_neg (fun h=>h.elim c l)]at hd;simp[qX,g,o,E,s,c,unA,f,ye,show ¬x<IntKind.u64.wrap (-cut) by simpa using l,S];refine A k _ _ (by omega) ⟨by simp[K],by simp[g],by simp[o],i+1,x,r',by omega,by omega,by simp,by simp,?_,rfl⟩;rw[<- hd];congr 1;omega
 have B:¬(i:Int)<64:=by omega
 rw[show 64-i=0 by omega]at hd;obtain⟨b,d⟩:=fin v a hd.symm;simp[g,U,E,B,ye,f,b];exact d
def yZ(n:Int)(r:Rng):Int×Rng×Int:=if n<1\/4611686018427387904<n then(0,(0,0),1) else((yf n r).1,(yf n r).2,0)
def qiT(q:Int×Rng×Int):AV:=.tup [.int .i64 q.1,.agg (jt q.2.1),.int .i64 q.2.2]
def qtB(n r):Pure prog GG 57 [.agg (jt r),.int .i64 n] (qiT (yZ n r)):=by
 refine qFC ⟨false,qrX,[],[]⟩ true func57 ?_;by_cases h1:n<1
 . have e:yZ n r=(0,(0,0),1):=if_pos (.inl h1);rw[e];simp[h1,qiT,jt];rw[ql (by rfl)];exact⟨rfl,qFN _⟩
 by_cases h2:4611686018427387904<n
 . have e:yZ n r=(0,(0,0),1):=if_pos (.inr h2);rw[e];simp[*,qiT,jt];rw[ql (by rfl)];exact⟨rfl,qFN _⟩
 rw[show yZ n r=((yf n r).1,(yf n r).2,0) from if_neg (fun h=>h.elim h1 h2)];simp[*,jt];refine qFJ (qiA _ _) ?_;rintro v σ ⟨rfl,rfl⟩;simp;refine qFJ (qs5 (r:=r) (R:=0) (C:=2) (by omega) (by omega) (by simp) (by simp[jt]) (by simp) _) ?_;rintro v σ ⟨rfl,rfl⟩;simp[jt];rw[qG rfl];simp[qX,qiT,jt];rw[ql (by rfl)];exact⟨rfl,qFN _⟩
