import Derived.Test.YtfmdnopgncbmoaaGreatDoorPs30
import Derived.Test.YtfmdnopgncbmoaaGreatDoorPs31
import Derived.Test.YtfmdnopgncbmoaaGreatDoorPs28
import Derived.Test.YtfmdnopgncbmoaaGreatDoorPs27
import Derived.Test.YtfmdnopgncbmoaaGreatDoorPs22
import Derived.Test.YtfmdnopgncbmoaaGreatDoorPs25
set_option maxHeartbeats 16000000
set_option maxRecDepth 100000
set_option linter.all false
set_option linter.defProp false
namespace Go.Proofs.YtfmdnopgncbmoaaGreatDoor
open Go Go.Abs Tryz
def qvV{op a}(h22:op≠22)(h23:op≠23):opW op [a]=unW op a:=by simp[opW,h22,h23]
def qvU{op a b}(h22:op≠22)(h23:op≠23):opW op [a,b]=yK op a b:=by simp[opW,h22,h23]
def qnF{l}:opW 22 l=if l.getD 0 0≠0 then l.getD 1 0 else l.getD 2 0:=by simp[opW]
def qss{l}:opW 23 l=b2i (jJ (l.getD 0 0) l.tail):=by simp[opW]
def qbn{a x y r}:jJ a (x::y::r)=((decide (x<=a)&&decide (a<=y))||jJ a r):=by simp[jJ]
def Vq{a r}(h:r.length<2):jJ a r=false:=by
 match r,h with
 |[],_=>rfl
 |[x],_=>rfl
 |x::y::r,h=>simp at h;omega
def qj0{α:Type}{p:α->Bool}{l:List α}{a:α}(h:a∈l)(hp:p a=false):l.all p=false:=by
 rw[qzT];intro e;rw[qyP.1 e a h]at hp;cases hp
def qv1{l:List Int}(h:l.length=3):∃a b c,l=[a,b,c]:=by
 match l,h with
 |[a,b,c],_=>exact⟨a,b,c,rfl⟩
def qsB{l:List Int}(h:l.length=1):∃a,l=[a]:=by
 match l,h with
 |[a],_=>exact⟨a,rfl⟩
def qv2{l:List Int}(h:l.length=2):∃a b,l=[a,b]:=by
 match l,h with
 |[a,b],_=>exact⟨a,b,rfl⟩
def qfN(op l)(hr:∀v∈l,0<=v/\v<=65535)(h22:op=22->l.length=3)(h23:op=23->3<=l.length/\l.length<=33)(ho:op≠22->op≠23->l.length=1\/l.length=2):
 Pure prog GG 162 [.int .i64 op,.sl 1 (l.map qq) .none] (.int .i64 (opW op l)):=by
 refine qDb qe func162 rfl (by kernel_rfl) ?_;by_cases c22:op=22
 . obtain⟨a,b,c,rfl⟩:=qv1 (h22 c22);subst c22;by_cases ha:a=0
   . simp[ha,qnF]
   simp[ha,qnF]
 by_cases c23:op=23
 . obtain⟨h3,h33⟩:=h23 c23;subst c23;obtain⟨a,ga⟩:∃a,l[0]?=some a:=⟨_,qyH (by omega)⟩;obtain⟨g0,ga'⟩:=qyF.1 ga;have hw:opW 23 l=b2i (jJ a (l.drop 1)):=by
    rw[qss,qyS,ga];simp
   rw[hw];generalize hT:jJ a (l.drop 1)=T;simp;refine qC9 (fun n env U=>∃i:Nat,1<=i/\i<=l.length+1/\n=l.length+1-i/\env 1=.sl 1 (l.map qq) .none/\env 5=.int .i64 i/\U=⟨[],[]⟩/\jJ a (l.drop i)=T) l.length ⟨1,by simp,by omega,by omega,by simp,by simp,rfl,hT⟩ ?_;rintro n env U ⟨i,hi1,hi2,rfl,h1,h5,rfl,hin⟩;have w1:IntKind.i64.wrap ((i:Int)+1)=(i:Int)+1:=wr (by omega) (by omega);have w2:IntKind.i64.wrap ((i:Int)+2)=((i+2:Nat):Int):=(by rw[wr (by omega) (by omega)];omega);have n1:((i:Int)+1).toNat=i+1:=(by omega);have p1:(0:Int)<=(i:Int)+1:=(by omega);by_cases hc:i+1<l.length
   . obtain⟨x,gx⟩:∃x,l[i]?=some x:=⟨_,qyH (by omega)⟩;obtain⟨y,gy⟩:∃y,l[i+1]?=some y:=⟨_,qyH (by omega)⟩;obtain⟨q1,gx'⟩:=qyF.1 gx;obtain⟨q2,gy'⟩:=qyF.1 gy;rw[zA gx,zA gy,qbn]at hin;have hc':(i:Int)+1<l.length:=(by omega);by_cases c1:x<=a
     . by_cases c2:a<=y
       . have hT1:T=true:=(by rw[<- hin];simp[c1,c2]);rw[hT1];simp[h1,h5,w1,n1,p1,hc',hc,q1,g0,ga',gx',gy',c1,c2,b2i]
       . have hin:jJ a (l.drop (i+2))=T:=(by rw[<- hin];simp[c1,c2]);simp[h1,h5,w1,w2,n1,p1,hc',hc,q1,g0,ga',gx',gy',c1,c2];exact⟨_,by omega,i+2,by omega,by omega,rfl,by omega,hin⟩
     have hin:jJ a (l.drop (i+2))=T:=(by rw[<- hin];simp[c1]);simp[h1,h5,w1,w2,hc',q1,g0,ga',gx',c1];exact⟨_,by omega,i+2,by omega,by omega,rfl,by omega,hin⟩
   have hc':¬(i:Int)+1<l.length:=(by omega);rw[show T=false by rw[<- hin];exact Vq (by simp;omega)];simp[h1,h5,w1,hc',b2i]
 rcases ho c22 c23 with h|h
 . obtain⟨a,rfl⟩:=qsB h;rw[qvV c22 c23];simp[c22,c23];refine qCW (qhv op a) rfl ?_;simp
 obtain⟨a,b,rfl⟩:=qv2 h;obtain⟨a0,a1⟩:=hr a (by simp);obtain⟨b0,b1⟩:=hr b (by simp);obtain⟨x,rfl⟩:=qzg a0;obtain⟨y,rfl⟩:=qzg b0;rw[qvU c22 c23];simp[c22,c23];refine qCW (qjc op x y (by omega) (by omega)) rfl ?_;simp
def qgB(s:List Int):AV:=match s with
 |[]=>.sl 0 [] .nil
 |a::r=>.sl 1 ((a::r).map qq) (.chain 0 (r.length+1))
def qls(s:List Int):List (Option Nat):=match s with
 |[]=>[]
 |_::r=>[some (r.length+1)]
def qlu(s):zb (plain (qgB s))=true:=by cases s<;>simp[qgB]
def qlv(s):Leq (plain (qgB s)) (.sl 1 (s.map qq) .none):=by
 cases s with
 |nil=>simp[qgB,Leq]
 |cons a r=>exact Leq.sl rfl
section
variable {P:Program}{G:Nat->AV}{U:St}{f:FuncId}{Q:AV->St->Prop}{r:AV}
def qb.outN2{d a s}(ha:zb a=true)(h:Abs.Pure P G f [a,.sl 1 (s.map qq) .none] r)(hq:Q r U):qb P G d f [a,qgB s] U Q:=by
 refine qb.pure h ?_ ?_ hq
 . simp only[qyR,qzj,qx,qlu,Qz ha,ha,Bool.and_self]
 simp only[qyR,qzj,zq,and_true,Qz ha];exact⟨qCT _,qlv s⟩
end
def qjR{e:Ex}(h:yL e){n:Nat}(hop:e.op≠23)(ha:zm e.op=n):e.args.length=n:=by
 obtain⟨_,_,_,_,ho,_⟩:=jk h.self;have:=wN ho hop;omega
def qqM{e}(h:yL e):e.args.length<=33:=by
 obtain⟨_,_,_,_,ho,_⟩:=jk h.self;by_cases h23:e.op=23
 . have:=Yz ho h23;omega
 have:=wN ho h23;unfold zm at this
 repeat' split at this
 all_goals omega
def qpv{e}(h:yL e)(h1:e.op≠1)(h2:e.op≠2)(h3:e.op≠3)(h24:e.op≠24)(h22:e.op≠22)(h23:e.op≠23):e.args.length=1\/e.args.length=2:=by
 obtain⟨k1,k2,_,_,ho,_⟩:=jk h.self;have:=wN ho h23;unfold zm at this;rw[if_neg (by omega)]at this
 repeat' split at this
 all_goals omega
def qoK(env)(hl:Fits env):∀e,Wen e->yL e->Pure prog GG 107 [.agg [.sl 2 (env.map qV) .none],.agg (qt e)] (.int .i64 (yG env e)):=by
 refine qDa fun e ih hwe hn=>?_
 refine qDb qe func107 rfl (by kernel_rfl) ?_;have hfa:=hwe.fits;have hrg:∀v∈e.args.map (yG env),0<=v/\v<=65535:=by
  intro v hv;obtain⟨a,ha,rfl⟩:=qza.1 hv;exact qfn env a (hn.arg ha)
 obtain⟨k1,k2,k3,k4,k5,k6,k7,k8⟩:=jk hn.self;simp only[qd e];simp;refine qC9 (fun n ev U=>∃i tl,i<=e.args.length/\n=e.args.length-i/\ev 2=.ptr 0 0/\ev 3=.ptr 1 0/\ev 5=qgB ((e.args.map (yG env)).take i)/\ev 13=.sl 4 (e.args.map qt) .none/\ev 14=.int .i64 e.args.length/\ev 15=.int .i64 i/\U=⟨.cells [.sl 2 (env.map qV) .none]::.cells (qt e)::tl,qls ((e.args.map (yG env)).take i)⟩) e.args.length ⟨0,[],by simp,by simp,by simp,by simp,by simp[qgB],by simp,by simp,by simp,by simp[qd e,qls]⟩ ?_;rintro n ev U ⟨i,tl,hi,rfl,h2,h3,h5,h13,h14,h15,rfl⟩
 cases hv:e.args[i]? with
 | some a=>
  obtain⟨hc,hv'⟩:=qyF.1 hv;have hm:=qyG hv;have ht:(e.args.map (yG env)).take (i+1)=(e.args.map (yG env)).take i++[yG env a]:=by
   rw[qzb,qy7,hv];rfl
  have hlen:((e.args.map (yG env)).take i).length<=e.args.length:=by simp;omega
  generalize hR:(e.args.map (yG env)).take i=R at h5 ht hlen⊢;have ih:=ih a hm (hwe.arg hm) (hn.arg hm);simp[h2,h3,h5,h13,h14,h15,hc,hv',qd a,qzi];rw[<- qd a];refine qCW ih (by simp) ?_
  cases R with
  | nil=>
   simp only[qgB]at h5;simp[qgB,qls,qL,qj,qs,zK,h15];exact⟨_,by omega,i+1,by omega,rfl,by rw[ht];simp[],wr (by omega) (by omega),by rw[ht];simp[]⟩
  | cons b r=>
   have hb:r.length<=549755813886:=(by have:=qqM hn;simp at hlen;omega);simp only[qgB]at h5;simp[qgB,qls,qL,qj,qs,zK,hb,h15];exact⟨_,by omega,i+1,by omega,rfl,by rw[ht];simp[],wr (by omega) (by omega),by rw[ht];simp[]⟩
 | none=>
  have hc:¬i<e.args.length:=by simp at hv;omega
  rw[qyN (by simp;omega)]at h5⊢;rw[yH];generalize hR:e.args.map (yG env)=R at h5 hrg⊢;have hRl:R.length=e.args.length:=by rw[<- hR];simp
  unfold QB;by_cases c1:e.op=1
  . simp[h2,h3,h5,h13,h14,h15,hc,qd e,c1]
  by_cases c2:e.op=2
  . simp[h2,h3,h5,h13,h14,h15,hc,qd e,c2];refine qCW (qc3 env e.name hl) (by simp) ?_;simp[qbI]
  by_cases c3:e.op=3
  . have hname:=wO (k7 (.inl c3));obtain⟨v,rfl⟩:=qsB (l:=R) (by rw[hRl];exact qjR hn (n:=1) (by omega) (by rw[c3];decide));obtain⟨b,hb,_⟩:=qdj (env:=env) (a:=e.name) (i:=v);have hat:=qqL env e.name v hl (by omega);rw[hb]at hat;simp only[qgB]at h5;simp[h2,h3,h5,h13,h14,h15,hc,qd e,c3];refine qCW hat (by simp) ?_;simp
  by_cases c24:e.op=24
  . have hname:=wO (k7 (.inr c24));simp[h2,h3,h5,h13,h14,h15,hc,qd e,c24];refine qCW (qrZ env e.name hl (by omega)) (by simp) ?_;simp
  simp[h2,h3,h5,h13,h14,h15,hc,qd e,c1,c2,c3,c24];refine qb.outN2 (by simp) (qfN e.op R hrg (fun c=>?_) (fun c=>?_) (fun c22 c23=>?_)) ?_
  . rw[hRl];exact qjR hn (n:=3) (by omega) (by rw[c];decide)
  . rw[hRl];have:=Yz k5 c;omega
  . rw[hRl];exact qpv hn c1 c2 c3 c24 c22 c23
  simp
def qbk(env e):wy env e=((zH [2] e).all (fun s=>(jD env s).isSome)&&(zH [3,24] e).all fun s=>(jD env (zV s 0)).isSome):=by
 rw[qzz,qyJ,wy];simp only[qyP];constructor
 . intro h;refine⟨fun s hs=>?_,fun s hs=>?_⟩
   . obtain⟨x,hx,hop,rfl⟩:=jO.1 hs;have:=h x hx;have h2:x.op=2:=(by simpa using hop);simpa[qru,h2] using this
   obtain⟨x,hx,hop,rfl⟩:=jO.1 hs;have:=h x hx;have h3:x.op=3\/x.op=24:=(by simpa using hop);unfold qru at this
   rwa[if_neg (by omega),if_pos h3]at this
 rintro⟨h1,h2⟩ x hx;unfold qru;split
 . rename_i h;exact h1 _ (jO.2 ⟨x,hx,by simp[h],rfl⟩)
 split
 . rename_i h;exact h2 _ (jO.2 ⟨x,hx,by simpa using h,rfl⟩)
 rfl
def qjZ{α:Type}{p:α->Bool}{l:List α}{i:Nat}{a:α}(h:l[i]?=some a)(hp:p a=false):l.all p=false:=qj0 (qyG h) hp
def VZ{α:Type}{p:α->Bool}{l:List α}{i:Nat}(hi:l.length<=i)(h:∀a∈l.take i,p a=true):l.all p=true:=by
 rw[qyN hi]at h;exact qyP.2 h
def qbb{ops e}:(zH ops e).length<=(pre e).length:=by
 unfold zH;have:∀(l:List Ex) (s:List Str),(l.foldl (Kr ops) s).length<=s.length+l.length:=by
  intro l
  induction l with
  |nil=>intro s;simp
  | cons a r ih=>
   intro s;have h1:=ih (Kr ops s a);have h2:=wX (ops:=ops) (s:=s) (e:=a);simp only[qzm,qyY];omega
 simpa using this (pre e) []
def qpR(env)(hl:Fits env)(e)(hwe:Wen e)(hn:yL e)(hsz:(pre e).length<=100000):Pure prog GG 106 [.agg [.sl 2 (env.map qV) .none],.agg (qt e)] (.bool (wy env e)):=by
 refine qDb qe func106 rfl (by kernel_rfl) ?_;have hnm:=Q5 e hwe hsz;have har:=vR e hwe hsz;have hk:=qbk env e;generalize wy env e=r at hk⊢;have harr:∀s∈zH [3,24] e,s.length<=1000:=by
  intro s hs;obtain⟨x,hx,hop,rfl⟩:=jO.1 hs;have:=wO ((jk (hn x hx)).2.2.2.2.2.2.1 (by simpa using hop));omega
 have l1:=qbb (ops:=[2]) (e:=e);have l2:=qbb (ops:=[3,24]) (e:=e);generalize zH [2] e=A at hnm l1 hk⊢;generalize zH [3,24] e=B at har harr l2 hk⊢;simp only[qd e];simp;rw[<- qd e];refine qCW hnm (by simp) ?_
 try simp
 refine qC9 (fun n ev U=>∃i,i<=A.length/\n=A.length-i/\ev 2=.ptr 0 0/\ev 3=.ptr 1 0/\ev 14=.sl 1 (A.map z8) .none/\ev 15=.int .i64 A.length/\ev 16=.int .i64 i/\U=⟨[.cells [.sl 2 (env.map qV) .none],.cells (qt e)],[]⟩/\∀s∈A.take i,(jD env s).isSome=true) A.length ⟨0,by simp[qd e]⟩ ?_;rintro n ev U ⟨i,hi,rfl,h2,h3,h14,h15,h16,rfl,hz⟩
 cases hv:A[i]? with
 | some s=>
  obtain⟨hc,hv'⟩:=qyF.1 hv;simp[h2,h3,h14,h15,h16,hc,hv'];refine qCW (qc3 env s hl) (by simp) ?_;cases hf:(jD env s).isSome
  . rw[qjZ (p:=fun s=>(jD env s).isSome) hv hf,qAD]at hk;subst hk;simp[qbI,hf]
  simp[qbI,hf,h2,h3,h14,h15,h16];exact⟨_,by omega,i+1,by omega,rfl,wr (by omega) (by omega),by simpa using za (p:=fun s=>(jD env s).isSome=true) hv (by simpa using hz) hf⟩
 | none=>
  have hlen:A.length<=i:=by simpa using hv
  have hc:¬i<A.length:=by omega
  rw[VZ (p:=fun s=>(jD env s).isSome) hlen hz,qzN]at hk;simp[h3,h14,h15,h16,hc,qd e];rw[<- qd e];refine qCW har (by simp) ?_
  try simp
  have h2':=h2;refine qC9 (fun n ev U=>∃i,i<=B.length/\n=B.length-i/\ev 2=.ptr 0 0/\ev 30=.sl 1 (B.map z8) .none/\ev 31=.int .i64 B.length/\ev 32=.int .i64 i/\U=⟨[.cells [.sl 2 (env.map qV) .none],.cells (qt e)],[]⟩/\∀s∈B.take i,(jD env (zV s 0)).isSome=true) B.length ⟨0,by simp[qd e,h2']⟩ ?_;rintro n ev U ⟨i,hi,rfl,h2,h30,h31,h32,rfl,hz⟩
  cases hv:B[i]? with
  | some s=>
   obtain⟨hc,hv'⟩:=qyF.1 hv;obtain⟨b,hb,hb0⟩:=qdj (env:=env) (a:=s) (i:=0);have hb0:=hb0 rfl;have hat:=qqL env s 0 hl (harr s (qyG hv));rw[hb]at hat;simp[h2,h30,h31,h32,hc,hv'];refine qCW hat (by simp) ?_;cases hf:(jD env (zV s 0)).isSome
   . rw[qjZ (p:=fun s=>(jD env (zV s 0)).isSome) hv hf]at hk;subst hk;simp[hb0,hf]
   simp[hb0,hf,h2,h30,h31,h32];exact⟨_,by omega,i+1,by omega,rfl,wr (by omega) (by omega),by simpa using za (p:=fun s=>(jD env (zV s 0)).isSome=true) hv (by simpa using hz) hf⟩
  | none=>
   have hlen:B.length<=i:=(by simpa using hv);have hc:¬i<B.length:=(by omega);rw[VZ (p:=fun s=>(jD env (zV s 0)).isSome) hlen hz]at hk;subst hk;simp[h30,h31,h32,hc]
def qn1(env)(hl:Fits env)(e)(hwe:Wen e)(hh:hgt e<1000000)(hsz:(pre e).length<=100000):Pure prog GG 58 [.agg (qt e),.sl 2 (env.map qV) .none] (.tup [.int .i64 (yu env e),.int .i64 (KJ env e)]):=by
 refine qDb qe func58 rfl (by kernel_rfl) ?_;have hva:=Ya e hwe hh;have hE:KJ env e=if ze e≠0 then 1 else if wy env e=true then 0 else 7:=rfl
 have hV:yu env e=if ze e=0/\wy env e=true then yG env e else 0:=rfl
 by_cases h0:ze e=0
 . have hn:=Z9 h0;have hkn:=qpR env hl e hwe hn hsz;have hval:=qoK env hl e hwe hn;cases hk:wy env e
   . have e1:KJ env e=7:=(by rw[hE];simp[h0,hk]);have e2:yu env e=0:=(by rw[hV];simp[h0,hk]);rw[e1,e2];rw[h0]at hva;rw[hk]at hkn;simp only[qd e];simp[zp,zS,qG,zj];rw[<- qd e];refine qCW hva (by simp) ?_;simp[qd e];rw[<- qd e];refine qCW hkn (by simp) ?_;simp
   have e1:KJ env e=0:=(by rw[hE];simp[h0,hk]);have e2:yu env e=yG env e:=(by rw[hV];simp[h0,hk]);rw[e1,e2];rw[h0]at hva;rw[hk]at hkn;simp only[qd e];simp[zp,zS,qG,zj];rw[<- qd e];refine qCW hva (by simp) ?_;simp[qd e];rw[<- qd e];refine qCW hkn (by simp) ?_;simp[qd e];rw[<- qd e];refine qCW hval (by simp) ?_;simp
 have e1:KJ env e=1:=by rw[hE];simp[h0]
 have e2:yu env e=0:=by rw[hV];simp[h0]
 rw[e1,e2];simp only[qd e];simp[zp,zS,qG,zj];rw[<- qd e];refine qCW hva (by simp) ?_;simp[h0]
def qxV(F A:Nat)(p:Problem)(l:List Ex)(s:Option (List Int)×Bool)(H:List Blk)(r:AV)(U':St):Prop :=
 KpL [F,A] H U'.H/\(∃va n,U'.H[F]?=some (.cells (VE p l va s.2 n)))/\((∃a bh vh,s.1=some a/\r=.tup [vh,.bool true]/\qgD bh U'.H vh a)\/(s.1=none/\r=.tup [.sl 0 [] .nil,.bool false]))
def qxW(F A t:Nat)(p:Problem)(l:List Ex)(s:Option (List Int)×Bool)(H:List Blk)(n:Nat)(ev:Env)(U:St):Prop :=
 ev 0=.ptr F 0/\∃H' T' a over b c,U=⟨H',T'⟩/\KpL [F,A] H H'/\FndR F A t p l a over n H'/\okA p.vars a/\jr b 2 qV H' (ev 4) (ve p.vars c)/\c.length=p.vars.length/\b≠F/\b≠A/\H.length<=b/\s=if over then(none,true) else qce p.vars l n a
def qmd{L:List Signal}{i g x}(h:L[i]?=some g):(L.flatMap qV).set (i*2+1) (.int .i64 x)=(L.set i ⟨g.name,x⟩).flatMap qV:=by
 induction L generalizing i with
 |nil=>simp at h
 | cons a r ih=>
  cases i with
  |zero=>simp at h;subst h;simp
  | succ i=>
   simp at h;rw[show(i+1)*2+1=(i*2+1)+2 by omega,qy5,qBw,qy5,<- ih h];simp
def qmq{vs}{c a:List Int}(hc:c.length=vs.length)(ha:a.length=vs.length){i x}(hx:a[i]?=some x){g}(hg:(ve vs (a.take i++c.drop i))[i]?=some g):(ve vs (a.take i++c.drop i)).set i ⟨g.name,x⟩=ve vs (a.take (i+1)++c.drop (i+1)):=by
 apply qzC;intro k;have hl:(a.take i++c.drop i).length=vs.length:=by simp;omega
 have hl':(a.take (i+1)++c.drop (i+1)).length=vs.length:=by simp;omega
 by_cases hk:k<vs.length
 . obtain⟨v,hv⟩:∃v,vs[k]?=some v:=⟨_,qyH hk⟩;by_cases hki:k=i
   . subst hki;have h1:(a.take (k+1)++c.drop (k+1))[k]?=some x:=by
      rw[qyT (by simp;omega),List.getElem?_take_of_lt (by omega),hx]
     rw[qyL (by rwa[yz hl]),Qc hv h1];obtain⟨y,hy⟩:∃y,(a.take k++c.drop k)[k]?=some y:=⟨_,qyH (by omega)⟩;rw[Qc hv hy]at hg;cases hg;rfl
   rw[qyI (Ne.symm hki)];have:(a.take i++c.drop i)[k]?=(a.take (i+1)++c.drop (i+1))[k]?:=by
    rw[qzu,qzu];simp only[qzo,qzD,qzG];by_cases h1:k<i
    . rw[if_pos (by omega),if_pos (by omega),if_pos (by omega),if_pos (by omega)]
    rw[if_neg (by omega),if_neg (by omega)];congr 1;omega
   obtain⟨y,hy⟩:∃y,(a.take i++c.drop i)[k]?=some y:=⟨_,qyH (by omega)⟩;rw[Qc hv hy,Qc hv (by rwa[<- this])]
 rw[qy6 (by rw[qzZ,yz hl];omega),qy6 (by rw[yz hl'];omega)]
def qlg:List (Nat×Sch×List Nat):=[(1,.step 0 [9,8,3,2,1] (.step 1 [9,8,3,2] (.step 2 [9,8,3] (.step 3 [9,8] (.step 4 [9,8,7,6,5] (.step 5 [9,8,7,6] (.step 6 [9,8,7] (.step 7 [9,8] (.step 8 [9] (.step 9 [] (.done)))))))))),[8])]
def qsR{F A t p l a n H}(T)(h:FndR F A t p l a false n H)(hAl:A<H.length)(hn:n<=262144)(hl2:p.vars.length<=1000)(hok:okA p.vars a)(hw:∀v∈p.vars,0<=v.width/\v.width<=28)
 (hx:∀e∈l,Wen e/\hgt e<=1000/\(pre e).length<=100000) (hfl:Fits l):qf prog GG 198 [.ptr F 0] ⟨H,T⟩ (qxV F A p l (qce p.vars l n a) H):=by
 refine qCM ⟨false,qlg,[],[]⟩ qe func198 rfl (by kernel_rfl) ?_;have hF:=h.f;have hlen:=hok.len;have henv:=qqm (A:=A) (t:=t) p a hlen hl2 T h.r;simp only[qA]at henv;simp only[VE]at hF;simp;rw[qJ rfl];simp[qX,hF];refine qCQ henv ?_;rintro v ⟨H1,T1⟩ ⟨rfl,hk1,b,ho,hb⟩;simp only at hk1 ho;simp;obtain⟨s,hs⟩:∃s,s=qce p.vars l n a:=⟨_,rfl⟩;rw[<- hs];have hFl:=(qyF.1 h.f).1;have hr1:FndR F A t p l a false n H1:=⟨(hk1.2 _ _ h.f (by simp)),fun ha=>hk1.2 _ _ (h.r ha) (by simp)⟩;rw[show ki p.vars a=ve p.vars a by rw[ZP,if_pos hlen]]at ho;refine qCR (fun m ev U=>m<=262144/\qxW F A t p l s H m ev U) n ?_ ?_
 . refine⟨hn,by simp,H1,T1,a,false,b,a,rfl,hk1.sub (by simp),hr1,hok,by simpa using ho,hlen,?_,?_,hb,by simpa using hs⟩
   . omega
   . omega
 rintro m ev U R hR ⟨hm,e0,H',T',a',over,b',c,rfl,hk,hfr,hok',ho',hc,hbF,hbA,hbH,hs'⟩;have hF':=hfr.f;have hF'l:=(qyF.1 hF').1;simp only[VE]at hF'
 cases over with
 | true=>
  simp at hs';subst hs';simp[e0,hF'];exact⟨hk,⟨_,_,hfr.f⟩,.inr ⟨rfl,rfl⟩⟩
 | false=>
  simp only[qy4,if_false]at hs'
  cases m with
  | zero=>
   have hs':=hs';subst hs';simp[e0,hF'];exact⟨hk,⟨_,_,hfr.f⟩,.inr ⟨rfl,rfl⟩⟩
  | succ m=>
   have hlen':=hok'.len;have hw1:=wr (n:=(m:Int)) (by omega) (by omega);have hcl:=qmL (A:=A) (t:=t) a' (by omega) T' (H:=H'.set F (.cells (VE p l (qcb A t a') false m))) (fun ha=>by
    have:=hfr.r ha;rw[qyI (Ne.symm (hfr.ne ha))];exact this)
   have hFs:∀y,(H'.set F y)[F]?=some y:=fun y=>qyL hF'l
   simp only[VE]at hcl;simp[e0,hF',hw1,show(0:Int)<(m:Int)+1 by omega,hFs];refine qCQ hcl ?_;rintro vh ⟨H2,T2⟩ ⟨rfl,hk2,bh,hrow,hbh⟩;simp only at hk2 hrow;rw[qzZ]at hbh;have hA2:a'≠[]->H2[A]?=some (.cells (zw a')):=fun ha=>hk2.2 _ _ (by rw[qyI (Ne.symm (hfr.ne ha))];exact hfr.r ha) (by simp)
   have ho2:jr b' 2 qV H2 (ev 4) (ve p.vars c):=ho'.keep fun x _ hx=>hk2.2 _ _ (by rw[qyI (Ne.symm hbF)];exact hx) (by simp)
   have hkH2:=(hk.trans (qDk (by simp))).trans (hk2.sub (by simp));have hbh':bh≠F/\bh≠A:=by
    have:=hk.1;constructor<;>omega
   have hbb:a'≠[]->bh≠b':=fun ha=>by
    have hne:ve p.vars c≠[]:=fun e=>by
     have:=yz hc;rw[e]at this;exact ha (qyX (by rw[hlen',<- this];rfl))
    have:=ho'.lt hne;omega
   generalize hv4:ev 4=v4 at *;have hln:∀H T,JO (Dof prog) ⟨H,T⟩ 35 vh=some (.int .i64 a'.length):=fun H T=>by
    rcases hrow with⟨ha0,szt,tok,rfl⟩|⟨ha0,rfl,hbc⟩
    . simp[JO,ha0]
    simp[JO]
   by_cases hdummy:True
   . simp[-JO,hln];refine qC2 a' (fun d ev2 U2=>ev2 0=.ptr F 0/\ev2 4=v4/\ev2 5=vh/\ev2 45=vh/\ev2 46=.int .i64 a'.length/\ev2 47=.int .i64 d.length/\∃H3,U2=⟨H3,T2⟩/\KpL [b'] H2 H3/\jr b' 2 qV H3 v4 (ve p.vars (a'.take d.length++c.drop d.length))) ?_ ?_ ?_
     . exact⟨by simp[e0],by simp[hv4],by simp,by simp,by simp,by simp,H2,by simp,qDh,by simpa using ho2⟩
     . rintro d x rest ev2 U2 R2 hR2 hd hx2 hlt ⟨g0,g4,g5,g45,g46,g47,H3,rfl,hk3,ho3⟩;have hdw:=wr (n:=(d.length:Int)+1) (by omega) (by omega);have ha0:a'≠[]:=fun e=>by rw[e]at hlt;simp at hlt
       obtain⟨_,hvh,hbc⟩:=hrow.resolve_left (fun h=>ha0 h.1);have g45':=g45;rw[hvh]at g45';have hdr:(zw a').drop d.length=.int .i64 x::(zw a').drop (d.length+1):=by
        obtain⟨h1,h2⟩:=qyF.1 (by rw[VD,hx2];rfl);rw[qy1 h1,h2]
       have hcl:(a'.take d.length++c.drop d.length).length=p.vars.length:=(by simp;omega);have hel:=yz hcl;have hne:ve p.vars (a'.take d.length++c.drop d.length)≠[]:=fun e=>by rw[e]at hel;simp at hel;omega
       obtain⟨hv,hbl⟩:=ho3.at hne;obtain⟨g,hg⟩:∃g,(ve p.vars (a'.take d.length++c.drop d.length))[d.length]?=some g:=⟨_,qyH (by rw[hel];omega)⟩;have hset:=qmd (x:=x) hg;have hput:=qmq hc hlen' hx2 hg;have hfl2:((ve p.vars (a'.take d.length++c.drop d.length)).flatMap qV).length=p.vars.length*2:=(by rw[Go.Abs.jf (sz:=2) (fun x=>by simp),hel]);have hbll:=(qyF.1 hbl).1;rw[hel]at hv;rw[hput]at hset;generalize hFL:(ve p.vars (a'.take d.length++c.drop d.length)).flatMap qV=FL at *;simp[g4,g45',g46,g47,hlt,show H3[bh]?=some (.cells (zw a')) from hk3.2 _ _ hbc (by simpa using hbb ha0),hdr,show d.length+1<=(zw a').length by rw[qY];omega,hv,show(d.length:Int)<p.vars.length by omega,hbl,show d.length*2+1+1<=p.vars.length*2 by omega,hfl2,hset,hdw];have hcl':(a'.take (d.length+1)++c.drop (d.length+1)).length=p.vars.length:=(by simp;omega);have hel':=yz hcl';refine hR2 _ _ ⟨by simp[g0],by simp[g4],by simp[g5],by simp[g45],by simp[g46],by simp,_,rfl,hk3.trans (qDk (by simp)),?_⟩;rw[qyK,qzd];refine .inr ⟨fun e=>by rw[e]at hel';simp at hel';omega,by rw[hel'];exact hv,qyL hbll⟩
     rintro ev2 U2 ⟨g0,g4,g5,g45,g46,g47,H3,rfl,hk3,ho3⟩;rw[show a'.take a'.length++c.drop a'.length=a' by rw[qAJ,qzf (by omega),qzp]]at ho3;have hF3:FndR F A t p l a' false m H3:=⟨hk3.2 _ _ (hk2.2 _ _ (hFs _) (by simp)) (by simpa using Ne.symm hbF),fun ha=>hk3.2 _ _ (hA2 ha) (by simpa using Ne.symm hbA)⟩;have hadv:=qgx T2 hF3 hlen' (by omega) hok' hw;simp[g0,g46,g47];refine qCQ hadv ?_;rintro v2 ⟨H4,T4⟩ ⟨rfl,hT4,hF4,hk4⟩;simp only at hT4 hF4 hk4;subst hT4;have ho4:jr b' 2 qV H4 v4 (ve p.vars a'):=ho3.keep fun x _ hx=>hk4.2 _ _ hx (by simp;exact⟨hbF,hbA⟩)
     have hrow4:∀u,qgD bh (H4++u) vh a':=fun u=>by
      rcases hrow with h|⟨h1,h2,h3⟩
      . exact .inl h
      exact .inr ⟨h1,h2,qa (hk4.2 _ _ (hk3.2 _ _ h3 (by simpa using hbb h1)) (by simp;exact hbh')) u⟩
     have hF4f:=hF4.f;simp only[VE]at hF4f;have hkH4:KpL [F,A] H H4:=by
      refine⟨by have:=hkH2.1;have:=hk3.1;have:=hk4.1;omega,fun k x hk0 hn0=>?_⟩;have h2:=hkH2.2 k x hk0 hn0;have hkl:=(qyF.1 hk0).1;have h3:=hk3.2 k x h2 (by simp;omega);exact hk4.2 k x h3 hn0
     have hstep:s=if j9 p.vars l a' then(some a',(qH p.vars a').2) else if(qH p.vars a').2 then(none,true) else qce p.vars l m (qH p.vars a').1:=hs'
     have hok4:=Q1 hok';simp[hF4f,g0];have hel4:=yz hlen';have hsat:j9 p.vars l a'=l.all fun e=>decide (yu (ve p.vars a') e≠0):=by unfold j9;rw[show ki p.vars a'=ve p.vars a' by rw[ZP,if_pos hlen']]
     refine qC2 l (fun d ev3 U3=>ev3 0=.ptr F 0/\ev3 4=v4/\ev3 5=vh/\ev3 63=.sl 4 (l.map qt) .none/\ev3 64=.int .i64 l.length/\ev3 65=.int .i64 d.length/\(∃u,U3=⟨H4++u,T4⟩)/\∀e∈d,yu (ve p.vars a') e≠0) ?_ ?_ ?_
     . exact⟨by simp[g0],by simp[g4],by simp[g5],by simp,by simp,by simp,⟨[],by simp⟩,by simp⟩
     . rintro d e rest ev3 U3 R3 hR3 hd hx3 hlt ⟨f0,f4,f5,f63,f64,f65,⟨u,rfl⟩,hnz⟩;have hm3:=qyG hx3;obtain⟨hwe,hh,hsz⟩:=hx e hm3;have hdw:=wr (n:=(d.length:Int)+1) (by unfold Fits at hfl;omega) (by unfold Fits at hfl;omega);have hev:=qn1 (ve p.vars a') (by show(ve p.vars a').length<_;omega) e hwe (by omega) hsz;have hou:∀u,jr b' 2 qV (H4++u) v4 (ve p.vars a'):=fun u=>ho4.keep fun x _ hx=>qa hx u
       simp[-getElem?_pos,f4,f63,f64,f65,hlt,hx3,qd e];rw[<- qd e];refine qCP hev rfl ?_ ?_
       . simp only[qyR,qzj,zq,and_true];refine⟨?_,(hou _).frz (fun x=>by simp) (fun x=>by simp) (fun x=>by simp) 7⟩;rw[qS (by simp)];exact qCT _
       by_cases hz:yu (ve p.vars a') e=0
       . have hsf:j9 p.vars l a'=false:=(by rw[hsat,qB4];exact⟨e,hm3,by simp[hz]⟩);rw[hsf]at hstep;simp only[qy4,if_false]at hstep;simp[hz];exact hR m _ _ (by omega) ⟨by omega,by simp[f0],_,T4,(qH p.vars a').1,(qH p.vars a').2,b',a',rfl,hkH4.trans qDj,hF4.look _,hok4,by simpa[f4] using hou _,hlen',hbF,hbA,hbH,hstep⟩
       simp[hz,f65,hdw];refine hR3 _ _ ⟨by simp[f0],by simp[f4],by simp[f5],by simp[f63],by simp[f64],by simp,⟨_,by simp;rfl⟩,fun x hx=>?_⟩;rcases qy0.1 hx with hx|hx
       . exact hnz x hx
       simp only[qy9,qAd,or_false]at hx
       rwa[hx]
     rintro ev3 U3 ⟨f0,f4,f5,f63,f64,f65,⟨u,rfl⟩,hnz⟩;rw[show j9 p.vars l a'=true by rw[hsat,qyP];exact fun e he=>by simpa using hnz e he,if_pos rfl]at hstep;simp[f5,f64,f65];rw[hstep];exact⟨hkH4.trans qDj,⟨_,_,(hF4.look u).f⟩,.inl ⟨a',bh,_,rfl,rfl,hrow4 u⟩⟩
   exact absurd trivial hdummy
def qlh:List (Nat×Sch×List Nat):=[(9,.step 1 [9,8,7] (.step 2 [9,8,7,5,4,3] (.step 3 [9,8,7,5,4] (.step 4 [9,8,7,5] (.step 6 [9,8,7] (.fork (.cons 0 (.step 5 [9,8,7] (.step 7 [9,8] (.step 8 [9] (.step 9 [] (.done))))) (.cons 5 (.step 0 [9,8,7] (.step 7 [9,8] (.step 8 [9] (.step 9 [] (.done))))) (.nil)))))))),[]),(14,.step 0 [8,7,3,2,1] (.step 1 [8,7,3,2] (.step 2 [8,7,3] (.step 3 [8,7] (.step 4 [8,7] (.step 5 [8,7,6] (.step 6 [8,7] (.step 7 [8] (.step 8 [] (.done))))))))),[])]
noncomputable def qeV(p:Problem)(l:List Ex)(n:Int):Bool:=decide (qk p=0)&&(decide (0<=n)&&(decide (n<=262144)&&l.all (vG p.vars)))
def qq2(p:Problem)(l:List Ex)(n:Nat)(r:AV)(U':St):Prop :=
 if qeV p l n=true then ∃F A t,r=.tup [.ptr F 0,.int .i64 0]/\FndR F A t p l (zG p.vars) false n U'.H/\A<U'.H.length else r=.tup [.nilp,.int .i64 1]
def qmV(p l)(n:Nat)(h:VQ p)(hfl:Fits l)(hx:∀e∈l,Wen e/\hgt e<=1000/\(pre e).length<=100000)(hn:n<4611686018427387904)(H T):
 qf prog GG 197 [.agg (qA p),.sl 4 (l.map qt) .none,.int .i64 n] ⟨H,T⟩ (qq2 p l n):=by
 refine qCM ⟨false,qlh,[],[]⟩ qe func197 rfl (by kernel_rfl) ?_;have hval:=yw p h;obtain⟨Q,hQ⟩:∃Q,Q=qq2 p l n:=⟨_,rfl⟩;rw[<- hQ];by_cases hv:qk p=0
 case neg=>
  have:Q=fun r _=>r=.tup [.nilp,.int .i64 1]:=by rw[hQ];funext r U;unfold qq2;rw[if_neg (by simp[qeV,hv])]
  simp only[qA]at hval;simp;refine qCO hval (by simp) ?_;simp[hv,this]
 by_cases hn2:n<=262144
 case neg=>
  have:Q=fun r _=>r=.tup [.nilp,.int .i64 1]:=by rw[hQ];funext r U;unfold qq2;rw[if_neg (by simp[qeV];omega)]
  have hn3:(262144:Int)<n:=by omega
  simp only[qA]at hval;simp;refine qCO hval (by simp) ?_;simp[hv,hn3,this]
 simp only[qA]at hval;simp;refine qCO hval (by simp) ?_;simp[hv,show ¬(262144:Int)<n by omega,show ¬(n:Int)<0 by omega];refine qC2 l (fun d ev U=>ev 1=.sl 4 (l.map qt) .none/\ev 2=.int .i64 n/\ev 3=.ptr H.length 0/\ev 24=.sl 4 (l.map qt) .none/\ev 25=.int .i64 l.length/\ev 26=.int .i64 d.length/\(∃H',U=⟨H',T⟩/\H'[H.length]?=some (.cells (qA p)))/\∀e∈d,vG p.vars e=true) ?_ ?_ ?_
 . refine⟨by simp,by simp,by simp,by simp,by simp,by simp,⟨_,rfl,?_⟩,by simp⟩;simp
 . rintro d e rest ev U R hR hd hxe hlt ⟨e1,e2,e3,e24,e25,e26,⟨H',rfl,hP⟩,hall⟩;have hm:=qyG hxe;obtain⟨hwe,hh,hsz⟩:=hx e hm;have hkn:=qlQ p e (by have:=h.vars;show p.vars.length<_;omega) hwe (by omega) hsz;have hdw:=wr (n:=(d.length:Int)+1) (by unfold Fits at hfl;omega) (by unfold Fits at hfl;omega);simp only[qA]at hkn hP;simp[-getElem?_pos,e3,e24,e25,e26,hlt,hxe,qa hP,qd e];rw[<- qd e];refine qCO hkn (by simp) ?_
   cases hk:vG p.vars e with
   | false=>
    have:Q=fun r _=>r=.tup [.nilp,.int .i64 1]:=by
     rw[hQ];funext r U;unfold qq2;have hb:qeV p l n=false:=by
      have:l.all (vG p.vars)=false:=qB4.2 ⟨e,hm,by simp[hk]⟩;simp[qeV,this]
     rw[hb];simp
    simp[this]
   | true=>
    simp[e26,hdw];refine hR _ _ ⟨by simp[e1],by simp[e2],by simp[e3],by simp[e24],by simp[e25],by simp,⟨_,rfl,qa hP _⟩,fun x hx=>?_⟩;rcases qy0.1 hx with hx|hx
    . exact hall x hx
    simp only[qy9,qAd,or_false]at hx
    rwa[hx]
 rintro ev U ⟨e1,e2,e3,e24,e25,e26,⟨H',rfl,hP⟩,hall⟩;have hbeg:qeV p l n=true:=by
  have:=qyP.2 hall;simp[qeV,this,hv];omega
 have hQ':Q=fun r U'=>∃F A t,r=.tup [.ptr F 0,.int .i64 0]/\FndR F A t p l (zG p.vars) false n U'.H/\A<U'.H.length:=by
  rw[hQ];funext r U;unfold qq2;rw[if_pos hbeg]
 rw[hQ'];simp only[qA]at hP;by_cases hv0:p.vars=[]
 . rw[hv0]at hP;simp only[qzj]at hP;simp[e25,e26];rw[qJ rfl];simp[qX,e1,e2,e3,hP,qa hP,hv0,qz,zp,zS,qG];refine⟨?_,?_⟩
   all_goals
    refine qCR (fun m ev U=>ev 10=.ptr H'.length 0/\ev 46=.int .i64 0/\ev 47=.int .i64 0/\U=⟨H'++[.cells [.sl 4 [] .none,.sl 4 (p.hard.map qt) .none,.sl 4 (p.soft.map qt) .none,.sl 2 (p.dists.map zF) .none,.sl 1 (p.groups.map zJ) .none,.sl 4 (l.map qt) .none,.sl 1 [] (.chain T.length 0),.bool false,.int .i64 n]],T++[some 0]⟩) 0 ⟨by simp,by simp⟩ ?_;rintro m ev U R hR ⟨f10,f46,f47,rfl⟩;simp[f10,f46,f47];refine⟨H'.length,⟨T.length,?_,fun h=>absurd rfl h⟩,by simp⟩;simp[hv0,qcb,zG]
 have hpos:=qyZ.2 hv0;have hv1:(p.vars.length:Int)<=549755813888:=by have:=h.vars;omega
 simp[e25,e26];rw[qJ rfl];simp[qX,e1,e2,e3,hP,qa hP,hv0,hv1,qz,zp,zS,qG];refine⟨?_,?_⟩
 all_goals
  refine qC2 p.vars (fun d ev U=>ev 10=.ptr (H'.length+1) 0/\ev 45=.sl 4 (p.vars.map qD) .none/\ev 46=.int .i64 p.vars.length/\ev 47=.int .i64 d.length/\∃H3,U=⟨H3,T⟩/\H'.length<H3.length/\FndR (H'.length+1) H'.length T.length p l (zG d++List.replicate (p.vars.length-d.length) 0) false n H3) ?_ ?_ ?_
  . refine⟨by simp,by simp,by simp,by simp,_,rfl,by simp,⟨?_,fun _=>?_⟩⟩
    . have hz:zG []++List.replicate (p.vars.length-([]:List Var).length) (0:Int)≠[]:=fun e=>by
       have:=congrArg List.length e;simp[zG]at this
       first|omega|exact hv0 (by simpa using this)
      have hzl:(zG []++List.replicate (p.vars.length-([]:List Var).length) (0:Int)).length=p.vars.length:=(by simp[zG]);rw[VE,qcb,if_neg hz,hzl];simp
    . simp[zG,zw]
  . rintro d v rest ev U R hR hd hxv hlt ⟨f10,f45,f46,f47,H3,rfl,hAl,hfr⟩;have hdw:=wr (n:=(d.length:Int)+1) (by omega) (by omega);have hrl:List.replicate (p.vars.length-d.length) (0:Int)=0::List.replicate (p.vars.length-(d.length+1)) 0:=by
     rw[show p.vars.length-d.length=(p.vars.length-(d.length+1))+1 by omega,qBa]
    rw[hrl]at hfr;have hsd:zG (d++[v])=zG d++[if v.mode=0 then v.value else 0]:=(by simp[zG]);have hsl:(zG d).length=d.length:=(by simp[zG]);have hnext:∀x:Int,zG d++x::List.replicate (p.vars.length-(d.length+1)) 0=(zG d++[x])++List.replicate (p.vars.length-(d.length+1)) 0:=fun x=>by simp
    have hzl:∀x:Int,(zG d++x::List.replicate (p.vars.length-(d.length+1)) 0).length=p.vars.length:=fun x=>by simp[hsl];omega
    have hz:∀x:Int,zG d++x::List.replicate (p.vars.length-(d.length+1)) 0≠[]:=fun x=>by simp
    have hF3:=hfr.f;have hA3:=hfr.r (hz 0);have hrow:∀x:Int,qcb H'.length T.length (zG d++x::List.replicate (p.vars.length-(d.length+1)) 0)=.ms H'.length 0 p.vars.length 1:=fun x=>by rw[qcb,if_neg (hz x),hzl]
    rw[VE,hrow]at hF3;by_cases hm0:v.mode=0
    . rw[if_pos hm0]at hsd;have hset:(zw (zG d++0::List.replicate (p.vars.length-(d.length+1)) 0)).set d.length (.int .i64 v.value)=zw (zG d++v.value::List.replicate (p.vars.length-(d.length+1)) 0):=by
       rw[wa,qzO _ _ (by omega),hsl,qzU];rfl
      simp[-getElem?_pos,f45,f46,f47,hlt,hxv,hm0];rw[qJ rfl];simp[-getElem?_pos,qX,f10,f47,qa hF3,qa hA3,hlt,show(zw (zG d++0::List.replicate (p.vars.length-(d.length+1)) 0)).length=p.vars.length by rw[qY,hzl],hset,show d.length+1<=p.vars.length by omega,hdw];refine hR _ _ ⟨by simp[f10],by simp[f45],by simp[f46],by simp,_,rfl,by simp;omega,?_⟩;rw[hsd,qyK,qzd,<- hnext];refine⟨?_,fun _=>?_⟩
      . rw[VE,hrow,qyI (by omega)];exact qa hF3 _
      exact qyL (by simp;omega)
    rw[if_neg hm0]at hsd;simp[-getElem?_pos,f45,f46,f47,hlt,hxv,hm0,hdw];refine hR _ _ ⟨by simp[f10],by simp[f45],by simp[f46],by simp,_,rfl,by simp;omega,?_⟩;rw[hsd,qyK,qzd,<- hnext];exact hfr.look _
  rintro ev U ⟨f10,f45,f46,f47,H3,rfl,hAl,hfr⟩;rw[qzU,qBU,qzp]at hfr;simp[f10,f46,f47];exact⟨H'.length,⟨T.length,hfr⟩,hAl⟩
def ji{p}(h:qk p=0):∀v∈p.vars,jK v=0:=by
 have hv:zW p.vars=0:=by
  unfold qk at h;split at h
  . exact absurd h (by assumption)
  rename_i h1;exact qzB.1 h1
 unfold zW at hv;split at hv
 . cases hv
 split at hv
 . rename_i h1;exact absurd hv h1
 rename_i h1;exact zz.1 (qzB.1 h1)
def yE:∀(a),zw a=a.flatMap qq
 |[]=>rfl
 | x::r=>by
  have:=yE r;rw[qy5,<- this];rfl
noncomputable def Jk(p:Problem)(l:List Ex)(n:Nat):List Int×Int :=
 if qeV p l n=true then(match qce p.vars l n (zG p.vars) with
  |(some a,_)=>(a,0)
  |(none,true)=>([],11)
  |(none,false)=>([],18)) else([],1)
def qmf(p:Problem)(l:List Ex)(n:Nat)(h:VQ p)(hfl:Fits l)(hx:∀e∈l,Wen e/\hgt e<=1000/\(pre e).length<=100000)(hn:n<4611686018427387904):
 Pure prog GG 137 [.agg (qA p),.sl 4 (l.map qt) .none,.int .i64 n] (.tup [.sl 1 ((Jk p l n).1.map qq) .none,.int .i64 (Jk p l n).2]):=by
 refine qCK o0 true qe func137 rfl (by kernel_rfl) ?_;have hb:=qmV p l n h hfl hx hn [.cells (qA p)] [];simp only[qA]at hb;simp;refine qCQ hb ?_;rintro v ⟨H1,T1⟩ hq;unfold qq2 at hq;by_cases hg:qeV p l n=true
 . rw[if_pos hg]at hq;obtain⟨F,A,t,rfl,hfr,hAl⟩:=hq;simp only at hfr hAl;have hv:qk p=0:=by
    simp only[qeV,qyJ,decide_eq_true_eq]at hg;exact hg.1
   have hn2:n<=262144:=by
    simp only[qeV,qyJ,decide_eq_true_eq]at hg;omega
   have hw:∀v∈p.vars,0<=v.width/\v.width<=28:=fun v hm=>by have:=zc (ji hv v hm);omega
   have hh:=qsR T1 hfr hAl hn2 h.vars (Q2 p.vars) hw hx hfl;have hFA:Jk p l n=(match qce p.vars l n (zG p.vars) with
    |(some a,_)=>(a,0)
    |(none,true)=>([],11)
    |(none,false)=>([],18)):=if_pos hg
   rw[hFA];generalize qce p.vars l n (zG p.vars)=s at *;simp;refine qCQ hh ?_;rintro v2 ⟨H2,T2⟩ ⟨hk,⟨va,n',hF2⟩,hres⟩;simp only[VE]at hF2;rcases hres with⟨a,bh,vh,hs,rfl,hrow⟩|⟨hs,rfl⟩
   . obtain⟨s1,s2⟩:=s;simp only at hs;subst hs;simp only at hrow;simp;rcases hrow with⟨rfl,sz,tok,rfl⟩|⟨ha0,rfl,hbc⟩
     . have hc:∀H t k,frz H 7 (.sl sz [] (.chain t k))=.sl sz [] .none:=fun H t k=>by rw[frz];simp[zb]
       cases tok with
       | chain t k=>
        rw[frz,if_neg (by simp[zb,qx])];simp only[qyR,qzj,hc,ZK,zb,qx,Leq,zq];simp[zk]
       |none=>rw[qS (by simp)];exact⟨by simp,by simp[Leq,zq]⟩
       |nil=>rw[qS (by simp)];exact⟨by simp,by simp[Leq,zq]⟩
       |tight=>rw[qS (by simp)];exact⟨by simp,by simp[Leq,zq]⟩
     have ho:jr bh 1 qq H2 (.ms bh 0 a.length 1) a:=.inr ⟨ha0,rfl,by
      rw[hbc,yE]⟩
     have f1:=ho.frz (fun x=>by simp) (fun x=>by simp) (fun x=>by simp) 6;have f2:=ho.frzNo (fun x=>by simp) (fun x=>by simp) (fun x=>by simp) 6;rw[frz,if_neg (by simp[zb,qx])];simp only[qyR,qzj,ZK,zb,qx,Leq,zq,qAG,and_true];exact⟨f2,f1⟩
   obtain⟨s1,s2⟩:=s;simp only at hs hF2;subst hs;cases s2
   . simp[hF2];rw[qS (by simp)];exact⟨by simp,by simp[Leq,zq]⟩
   simp[hF2];rw[qS (by simp)];exact⟨by simp,by simp[Leq,zq]⟩
 rw[if_neg hg]at hq;subst hq;have hFA:Jk p l n=([],1):=if_neg hg;rw[hFA];simp;rw[qS (by simp)];exact⟨by simp,by simp[Leq,zq]⟩
def qjG(p)(h:VQ p)(hv20:p.vars.length<=20):Pure prog GG 19 [.agg (qA p)] (.int .i64 (ku p.vars (qB p))):=by
 refine qDb qe func19 rfl (by kernel_rfl) ?_;have hv:=qhI p h;have hlen:=Jf p hv20;have hrg:∀i∈qB p,0<=i/\i<p.vars.length:=fun i hi=>QY hi
 simp only[qA]at hv;generalize qB p=R at hv hlen hrg⊢;simp;refine qCW hv (by simp) ?_
 try simp
 refine qC9 (fun q env U=>∃i,i<=R.length/\q=R.length-i/\env 1=.ptr 0 0/\env 3=.int .i64 (ku p.vars (R.take i))/\env 7=.sl 1 (R.map qq) .none/\env 8=.int .i64 R.length/\env 9=.int .i64 i/\U=⟨[.cells (qA p)],[]⟩) R.length ⟨0,by simp[ku]⟩ ?_;rintro q env U ⟨i,hi,rfl,h1,h3,h7,h8,h9,rfl⟩
 cases hvi:R[i]? with
 | some v=>
  obtain⟨hc,hv'⟩:=qyF.1 hvi;obtain⟨r1,r2⟩:=hrg v (qyG hvi);obtain⟨j,rfl⟩:=qzg r1;have hj:j<p.vars.length:=by omega
  have hs:=qdG (l:=p.vars) hvi;simp only[qzt]at hs;rw[J3 hj]at hs;simp[h1,h3,h7,h8,h9,hc,hv',hj];exact⟨_,by omega,i+1,by omega,rfl,by rw[hs],wr (by omega) (by omega)⟩
 | none=>
  have hc:¬i<R.length:=by simp at hvi;omega
  rw[show R.take i=R from qyN (by omega)]at h3;simp[h3,h7,h8,h9,hc]
def qjO(p)(h:VQ p)(hv20:p.vars.length<=20)(h0:0<=ku p.vars (qB p))(h28:ku p.vars (qB p)<=28):Pure prog GG 138 [.agg (qA p)] (.int .i64 ((2^(ku p.vars (qB p)).toNat:Nat):Int)):=by
 refine qCL qe func138 rfl (by kernel_rfl) ?_;have hb:=qjG p h hv20;have hs:=vy h0 h28;generalize ku p.vars (qB p)=B at *;generalize hN:2^B.toNat=N at *;simp only[qA]at hb;simp;refine qCO hb (by simp) ?_;simp[show ¬B<0 by omega,IntKind.bits,hs]
def Jd(q:Str×AV×Nat):AV×AV×Nat:=(.str q.1,q.2.1,q.2.2)
def QQ{s:Str}:∀(E:List (Str×AV×Nat)) (k:Nat),(jz (.str s) (E.map Jd) k=some none/\∀q∈E,q.1≠s)\/∃j q,E[j]?=some q/\q.1=s/\jz (.str s) (E.map Jd) k=some (some (k+j,q.2.1))
 |[],k=>.inl ⟨rfl,by simp⟩
 | e::E,k=>by
  by_cases h:s=e.1
  . right;refine⟨0,e,rfl,h.symm,?_⟩;simp[jz,Jd,Qj,h]
  have h':(s==e.1)=false:=by simpa using h
  rcases QQ (s:=s) E (k+1) with⟨h1,h2⟩|⟨j,q,h1,h2,h3⟩
  . left;refine⟨by simp[jz,Jd,Qj,h'];simpa[Jd] using h1,fun q hq=>?_⟩;rcases qy9.1 hq with rfl|hq
    . exact fun e=>h e.symm
    exact h2 q hq
  right;refine⟨j+1,q,by simpa using h1,h2,?_⟩;simp only[qyR,Jd,jz,Qj,h'];have:k+(j+1)=k+1+j:=by omega
  rw[this];exact h3
def vn(vs:List Var):List (Str×AV×Nat):=vs.zipIdx.map fun q=>(q.1.name,.int .i64 (q.2:Int),q.2)
def vm(vs:List Var):Blk:=.map ((vn vs).map Jd) vs.length
def qdx{vs:List Var}{j:Nat}{q:Str×AV×Nat}(h:(vn vs)[j]?=some q):∃v,vs[j]?=some v/\q=(v.name,.int .i64 (j:Int),j):=by
 unfold vn at h;rw[qy7,qA7]at h
 cases hv:vs[j]? with
 |none=>rw[hv]at h;simp at h
 |some v=>rw[hv]at h;simp at h;exact⟨v,rfl,h.symm⟩
def qdw{vs}(hn:(vs.map (·.name)).Nodup){i v}(hv:vs[i]?=some v)(k):jz (.str v.name) ((vn vs).map Jd) k=some (some (k+i,.int .i64 (i:Int))):=by
 rcases QQ (s:=v.name) (vn vs) k with⟨_,h2⟩|⟨j,q,h1,h2,h3⟩
 . exfalso;have hm:(v.name,AV.int .i64 (i:Int),i)∈vn vs:=qza.2 ⟨(v,i),qyG (i:=i) (by rw[qA7,hv];simp),rfl⟩;exact h2 _ hm rfl
 obtain⟨w,hw,rfl⟩:=qdx h1;have hij:j=i:=by
  obtain⟨hj1,hj2⟩:=qyF.1 hw;obtain⟨hi1,hi2⟩:=qyF.1 hv;have h2:w.name=v.name:=h2;have hp:=qAM.1 hn;rcases Nat.lt_trichotomy j i with h|h|h
  . exact absurd (by rw[qAe,qAe,hj2,hi2,h2]) (hp j i (by simpa using hj1) (by simpa using hi1) h)
  . exact h
  exact absurd (by rw[qAe,qAe,hj2,hi2,h2]) (hp i j (by simpa using hi1) (by simpa using hj1) h)
 subst hij;exact h3
structure PB(p)(lv:List Int)(c:Bc):Prop where
 rest:c.rest=qA p++[.sl 1 (lv.map qq) .none,.map c.M]
 mp:c.mp=vm p.vars
 len:lv.length=p.vars.length
 few:p.vars.length<=1000
 vars:∀v∈p.vars,jK v=0
 nodup:(p.vars.map (·.name)).Nodup
 lev:∀(i:Nat) (v:Var) (l:Int),p.vars[i]?=some v->lv[i]?=some l->v.mode≠0->0<=l/\l+v.width<=20
def qg7(v:Var)(l:Int)(b:Nat->Bool):Int:=if v.mode=0 then v.value else(zf (fun k=>b (l.toNat+v.width.toNat-1-k)) v.width.toNat:Nat)
def WP{v}(h:jK v=0):0<=v.value/\v.value<65536:=by
 unfold jK at h;split at h
 . cases h
 split at h
 . cases h
 rename_i hc;have:(2:Int)^v.width.toNat<=2^8:=by
  have:v.width.toNat<=8:=by omega
  have h2:(2:Nat)^v.width.toNat<=2^8:=qzc (by omega) this;simpa using Int.ofNat_le.2 h2
 omega
def qcq{vs:List Var}{m U}(hm:U.H[m]?=some (vm vs))(hn:(vs.map (·.name)).Nodup){i:Nat}{v:Var}(hv:vs[i]?=some v):zl (Dof prog) U 184 (.map m) (.str v.name) false=some (.int .i64 (i:Int)):=by
 have:=qdw hn hv 0;unfold vm at hm;generalize (vn vs).map Jd=E at *;simp[zl,hm,zt,this]
def qfo{w}(f):∀{n:Nat},w<=n->zf (fun j=>decide (j<w)&&f j) n=zf f w:=fun {n} h=>by
 apply qAE;intro i;rw[qR,qR];by_cases h1:i<w
 . have:i<n:=by omega
   simp[h1,this]
 simp[h1]
section
variable {c:Bc}{d:List Nd}{H:List Blk}{T:List (Option Nat)}
def qle:List (Nat×Sch×List Nat):=[(9,.step 0 [25,24] (.step 1 [25,24,23] (.step 2 [25,24,23,22,21,20,19,5,4,3] (.step 3 [25,24,23,22,21,20,19,5,4] (.step 4 [25,24,23,22,21,20,19,5] (.step 5 [25,24,23,22,21,20,19] (.step 6 [25,24,23,22,21,20,19,18,16,15,12,11,9,8,7] (.step 7 [25,24,23,22,21,20,19,18,16,15,12,11,9,8] (.step 8 [25,24,23,22,21,20,19,18,16,15,12,11,9] (.step 9 [25,24,23,22,21,20,19,18,16,15,12,11] (.step 10 [25,24,23,22,21,20,19,18,16,15,12,11] (.step 11 [25,24,23,22,21,20,19,18,16,15,12] (.step 12 [25,24,23,22,21,20,19,18,16,15] (.step 13 [25,24,23,22,21,20,19,18,16,15,14] (.step 14 [25,24,23,22,21,20,19,18,16,15] (.step 15 [25,24,23,22,21,20,19,18,16] (.step 16 [25,24,23,22,21,20,19,18] (.step 17 [25,24,23,22,21,20,19,18] (.step 18 [25,24,23,22,21,20,19] (.step 19 [25,24,23,22,21,20] (.step 20 [25,24,23] (.step 21 [25,24,23] (.step 22 [25,24,23] (.step 23 [25,24] (.step 24 [25] (.step 25 [] (.done)))))))))))))))))))))))))),[19,23])]
def qco(h:BX c H d H){p:Problem}{lv:List Int}(hp:PB p lv c){i:Nat}{v:Var}{l:Int}(hv:p.vars[i]?=some v)(hl:lv[i]?=some l):
 qf prog (XG c) 180 [.ptr c.B 0,.str v.name] ⟨H,T⟩ (WQ c d H fun b=>qg7 v l b):=by
 refine qCM ⟨false,qle,[],[]⟩ qe func180 rfl (by kernel_rfl) ?_;have hk:∀j,H.length<=j->j≠c.B:=fun j hj=>(h.at hj).1
 obtain⟨tok,hb⟩:=h.b;have hm:=h.m;rw[hp.rest]at hb;rw[hp.mp]at hm;have hlook:=fun(u:List Blk) (T:List (Option Nat))=>qcq (U:=⟨H++u,T⟩) (qa hm u) hp.nodup hv
 have hve:=hp.vars v (qyG hv);have hvw:=zc hve;have hvv:=WP hve;have hil:=(qyF.1 hv).1;have hill:i<lv.length:=by rwa[hp.len]
 simp only[qA,qy3,qy2]at hb;simp[qa hb,hlook,hv,js];by_cases hm0:v.mode=0
 . have hc:=jX v.value.toNat (by omega);rw[Int.toNat_of_nonneg hvv.1]at hc;have hVl:((List.range 16).map fun k=>if v.value.toNat.testBit k=true then 1 else 0).length=16:=(by simp);have hwo:=Kf h.ok v.value.toNat;have hval:=fun b=>ZU h.ok b (n:=v.value.toNat) (by omega)
   generalize ((List.range 16).map fun k=>if v.value.toNat.testBit k=true then 1 else 0)=V at *;simp[hm0];refine qCO hc rfl ?_;simp[hVl,qn hVl,zd hVl (show(qr qZ).length=16 from rfl),qN];refine⟨d,V,rfl,h.app _,qDg d,hwo,fun b=>?_⟩;unfold zP qg7;dsimp only;rw[if_pos hm0,hval b];omega
 have hlev:=hp.lev i v l hv hl hm0;have hwn:v.width=(v.width.toNat:Int):=by omega
 have hln:l=(l.toNat:Int):=by omega
 generalize hwN:v.width.toNat=w at *;generalize hlN:l.toNat=L at *;have hl':lv[i]?=some (L:Int):=by rw[hl,hln]
 simp[hm0,hwn];refine yF w (fun k ev U=>ev 0=.ptr c.B 0/\ev 4=.ptr H.length 0/\ev 5=.int .i64 (i:Int)/\ev 6=.ptr (H.length+1) 0/\ev 7=.ptr (H.length+2) 0/\ev 30=.int .i64 (w:Int)/\ev 31=.int .i64 (k:Int) /\
  ∃ d' W,BX c H d' U.H/\qU d d'/\qT d' W/\U.H[H.length]?=some (.cells (qr qZ))/\U.H[H.length+1]?=some (.cells (qD v))/\U.H[H.length+2]?=some (.cells (qr W)) /\
   ∀b j,j<16->qo d' b W j=(decide (j<k)&&b (L+w-1-j))) ?_ ?_ ?_
 . refine⟨by simp,by simp,by simp,by simp,by simp,by simp,by simp,d,qZ,h.app _,qDg d,kz h.ok,lk0,?_,lk2,fun b j hj=>by rw[yT h.ok];simp⟩;have:=lk1 (H:=H) (p:=Blk.cells (qr qZ)) (q:=Blk.cells (qD v)) (t:=[.cells (qr qZ)]);simp only[qD,hwn]at this⊢;exact this
 . rintro k ev ⟨H1,T1⟩ R hR hkw ⟨e0,e4,e5,e6,e7,e30,e31,d1,W,hx,hg,hW,bZ,bV,bW,hbits⟩;obtain⟨t1,hb1⟩:=hx.b;rw[hp.rest]at hb1;simp only[qA,qy3,qy2]at hb1;simp only[qD,hwn]at bV;have hWl:=hW.1;have hk16:k<16:=(by omega);have hk1:k+1<=16:=hk16;have hwk:=wr (n:=(k:Int)+1) (by omega) (by omega);have hw1:=wr (n:=(L:Int)+w) (by omega) (by omega);have hw2:=wr (n:=(L:Int)+w-1) (by omega) (by omega);have hw3:=wr (n:=(L:Int)+w-1-k) (by omega) (by omega);have hlevel:(L:Int)+w-1-k=((L+w-1-k:Nat):Int):=(by omega);rw[hlevel]at hw3;have hbit:=fun T=>(qtu d1 hx.ok (L+w-1-k) (by omega) H1 T).leq (args:=[.agg [.sl 3 (d1.map qw) t1],.int .i64 ((L+w-1-k:Nat):Int)]) (by simp[zq,Leq,qCV])
   generalize hLL:L+w-1-k=LL at *;simp[e30,e31,show(k:Int)<w by omega];rw[qJ rfl];simp[qX,e0,e5,e6,hb1,bV,hl',hw1,hw2,hlevel,hw3];refine qCQ (hbit T1).glo ?_;rintro v2 ⟨H2,T2⟩ ⟨hk2,rfl|⟨d2,i2,t2,rfl,g2,hd2,hi2,hm2,hs2⟩⟩
   . simp[qX];exact qCQ (wz c (Q:=fun _ _=>False) (hx.same hk2).kp0 _ _) fun _ _ h=>h.elim
   simp[qX];refine qCQ (ZF c (hx.self.same hk2) hd2 i2 _) ?_;rintro v3 ⟨H3,T3⟩ ⟨rfl,hxx⟩;have hx3:=hx.call hxx;have up:∀{k:Nat} {x:Blk},H.length<=k->H1[k]?=some x->H3[k]?=some x:=fun {k x} hl hq=>hxx.loc hq (hk k hl)
   have cW:=up (by omega) bW;have hl3:=(qyF.1 cW).1;have hkl:k<W.length:=(by omega);simp[qX,e7,e31,cW,hWl,show(k:Int)<16 by omega,hk1,yR,hwk];refine hR _ _ ⟨by simp[e0],by simp[e4],by simp[e5],by simp[e6],by simp[e7],by simp[e30],by simp,d2,W.set k i2,hx3.set (by omega) _,hg.trans g2,(hW.grown g2).set hi2,?_,?_,qyL hl3,fun b j hj=>?_⟩
   . rw[qyI (by omega)];exact up (by omega) bZ
   . rw[qyI (by omega)];have:=up (by omega) bV;simp only[qD,hwn]at this⊢;exact this
   rw[wD hkl];by_cases hjk:j=k
   . subst hjk;rw[if_pos rfl,hs2 b,hLL]
     cases hbb:b LL with
     |true=>simp[qda hx.ok]
     |false=>simp[JB hx.ok]
   rw[if_neg hjk,zC hx.ok g2 hW b hj,hbits b j hj];by_cases h1:j<k
   . have h2:j<k+1:=(by omega);simp[h1,h2]
   have h2:¬j<k+1:=(by omega);simp[h1,h2]
 rintro ev ⟨H1,T1⟩ ⟨e0,e4,e5,e6,e7,e30,e31,d1,W,hx,hg,hW,bZ,bV,bW,hbits⟩;have hWl:=hW.1;have hHl:=(qyF.1 bZ).1;simp[-getElem?_pos,e4,e7,e30,e31,bW,bZ,hWl,qn hWl,zd hWl (show(qr qZ).length=16 from rfl),qN,hHl];refine⟨d1,W,rfl,hx.set (by omega) _,hg,hW,fun b=>?_⟩;unfold zP qg7;dsimp only;rw[if_neg hm0,hwN,hlN,zg (hbits b),qfo _ (by omega)]
end
def Qd(vs:List Var)(lv:List Int)(b:Nat->Bool):List Int:=(vs.zip lv).map fun q=>qg7 q.1 q.2 b
def JZ{vs lv}(h:lv.length=vs.length)(b):(Qd vs lv b).length=vs.length:=by simp[Qd,h]
def qdl{vs:List Var}{lv:List Int}{i:Nat}{v:Var}{l:Int}(hv:vs[i]?=some v)(hl:lv[i]?=some l)(b:Nat->Bool):(Qd vs lv b)[i]?=some (qg7 v l b):=by
 unfold Qd;rw[qy7,qAo (z:=(v,l)) |>.2 ⟨hv,hl⟩];rfl
def vL:∀{vs:List Var}{a:List Int}{i:Nat}{v:Var}{x:Int},(vs.map (·.name)).Nodup->vs[i]?=some v->a[i]?=some x->jD ((vs.zip a).map fun q=>⟨q.1.name,q.2⟩) v.name=some (qM x)
 |[],_,i,v,x,_,hv,_=>by simp at hv
 |w::vs,[],i,v,x,_,_,hx=>by simp at hx
 | w::vs,y::a,0,v,x,hn,hv,hx=>by
  simp at hv hx;subst hv hx;simp[jD]
 | w::vs,y::a,i+1,v,x,hn,hv,hx=>by
  simp only[qyR,qBg]at hn;have ih:=vL (vs:=vs) (a:=a) (i:=i) (v:=v) (x:=x) hn.2 (by simpa using hv) (by simpa using hx);have hne:¬w.name=v.name:=fun e=>hn.1 (qza.2 ⟨v,qyG (i:=i) (by simpa using hv),e.symm⟩)
  have hne':(w.name==v.name)=false:=by simpa using hne
  unfold jD at ih⊢;simp only[qB3,qyR,qBO,hne'];exact ih
def qfp{v}(h:jK v=0)(l b):0<=qg7 v l b/\qg7 v l b<=65535:=by
 have h1:=WP h;have h2:=zc h;unfold qg7;split
 . omega
 have:=y8 (fun k=>b (l.toNat+v.width.toNat-1-k)) v.width.toNat;have h3:2^v.width.toNat<=2^8:=qzc (by omega) (by omega);omega
def qi3{p:Problem}{lv:List Int}(hl:lv.length=p.vars.length)(hn:(p.vars.map (·.name)).Nodup)(hve:∀v∈p.vars,jK v=0){i:Nat}{v:Var}{l:Int}(hv:p.vars[i]?=some v)(hli:lv[i]?=some l)(b:Nat->Bool):
 (jD (ki p.vars (Qd p.vars lv b)) v.name).getD 0=qg7 v l b:=by
 have h1:=vL hn hv (qdl hv hli b);unfold ki;rw[if_pos (JZ hl b),h1];have h2:=qfp (hve v (qyG hv)) l b;exact QN h2.1 h2.2
def Ys{V}(hV:V.length=16):∀{Ws:List (List Nat)}{i:Nat},(∀w∈Ws,w.length=16)->i<Ws.length->zj (Ws.flatMap qr) (i*16) (qr V)=(Ws.set i V).flatMap qr
 |[],i,_,h=>by simp at h
 | a::r,0,h,_=>by
  rw[qy5,qAl,qB2,qy5];exact wK _ _ _ (by rw[jq,jq,h a (by simp),hV])
 | a::r,i+1,h,hi=>by
  have hi':i<r.length:=by simpa using hi
  rw[qy5,qBw,qy5,<- Ys hV (Ws:=r) (i:=i) (fun w hw=>h w (by simp[hw])) hi',qA8,qAt];have:=vC (c:=r.flatMap qr) (qr V) (qr a) (i*16)
  rwa[jq,h a (by simp)]at this
def qgF(p:Problem)(e:Ex):Prop:=∀x∈pre e,qp x=0/\x.op≠3/\x.op≠24/\(x.op=2->vK p.vars x.name=true)/\x.args.length<=1000
def qgF.arg{p e a}(h:qgF p e)(ha:a∈e.args):qgF p a:=fun x hx=>h x (by rw[ju];exact qAk _ (Q6.2 ⟨a,ha,hx⟩))
def qgF.self{p e}(h:qgF p e):qp e=0/\e.op≠3/\e.op≠24/\(e.op=2->vK p.vars e.name=true)/\e.args.length<=1000:=h e (by rw[ju];simp)
section
variable {c:Bc}{d:List Nd}{H:List Blk}{T:List (Option Nat)}
def qd3:List (Nat×Sch×List Nat):=[(13,.step 1 [8,7,6,5] (.step 2 [8,7,6,5,4,3] (.step 3 [8,7,6,5,4] (.step 4 [8,7,6,5] (.fork (.cons 0 (.step 5 [8,7,6] (.step 6 [8,7] (.step 7 [8] (.step 8 [] (.done))))) (.cons 5 (.step 0 [8,7,6] (.step 6 [8,7] (.step 7 [8] (.step 8 [] (.done))))) (.nil))))))),[5,6]),(15,.step 0 [5,4] (.step 1 [5,4,3,2] (.step 2 [5,4,3] (.step 3 [5,4] (.step 4 [5] (.step 5 [] (.done)))))),[4]),(17,.step 0 [6,5] (.step 1 [6,5] (.step 2 [6,5,4,3] (.step 3 [6,5,4] (.step 4 [6,5] (.step 5 [6] (.step 6 [] (.done))))))),[5]),(19,.step 0 [5,4] (.step 1 [5,4,3,2] (.step 2 [5,4,3] (.step 3 [5,4] (.step 4 [5] (.step 5 [] (.done)))))),[4]),(21,.step 0 [8,7,6] (.step 1 [8,7,6,3,2] (.step 2 [8,7,6,3] (.step 3 [8,7,6] (.step 4 [8,7,6,5] (.step 5 [8,7,6] (.step 6 [8,7] (.step 7 [8] (.step 8 [] (.done))))))))),[6]),(23,.step 0 [6,4] (.step 1 [6,4,3,2] (.step 2 [6,4,3] (.step 3 [6,4] (.fork (.cons 4 (.step 5 [6] (.step 6 [] (.done))) (.cons 5 (.step 4 [6] (.step 6 [] (.done))) (.nil))))))),[4]),(24,.step 0 [8,7,2,1] (.step 1 [8,7,2] (.step 2 [8,7] (.step 3 [8,7,5,4] (.step 4 [8,7,5] (.step 5 [8,7] (.step 6 [8,7] (.step 7 [8] (.step 8 [] (.done))))))))),[7]),(25,.step 0 [10,9] (.step 1 [10,9,2] (.step 2 [10,9] (.step 3 [10,9,5,4] (.step 4 [10,9,5] (.step 5 [10,9] (.step 6 [10,9,8,7] (.step 7 [10,9,8] (.step 8 [10,9] (.step 9 [10] (.step 10 [] (.done))))))))))),[9])]
def qag(h:BX c H d H){p lv}(hp:PB p lv c)(e)(he:qgF p e)(h0:e.args=[]):
 qf prog (XG c) 127 [.ptr c.B 0,.agg (qt e)] ⟨H,T⟩ (WQ c d H fun b=>yG (ki p.vars (Qd p.vars lv b)) e):=by
 refine qCM ⟨false,qd3,[],[]⟩ qe func127 rfl (by kernel_rfl) ?_;obtain⟨hn,h3,h24,h2,_⟩:=he.self;obtain⟨o1,o2,o3,o4,o5,o6,o7,o8⟩:=jk hn;have hop:e.op=1\/e.op=2:=by
  unfold qi at o5;rw[h0]at o5;split at o5
  . simp at o5
  simp only[qzH,qz1,decide_eq_true_eq]at o5;unfold zm at o5
  repeat' split at o5
  all_goals omega
 have hk:∀j,H.length<=j->j≠c.B:=fun j hj=>(h.at hj).1
 have henc:=qd e;rw[h0]at henc;simp only[qzj]at henc;rw[henc];simp[qz,js,qN];have hx1:=h.app [.cells [.ptr c.B 0],.cells [.int .i64 e.op,.int .i64 e.n,.str e.name,.sl 4 [] .none],.cells (qr qZ)];refine qCR (fun n ev U=>ev 2=.ptr H.length 0/\ev 3=.ptr (H.length+1) 0/\ev 4=.ptr (H.length+2) 0/\ev 15=.int .i64 0/\ev 16=.int .i64 0/\BX c H d U.H/\U.H[H.length]?=some (.cells [.ptr c.B 0])/\U.H[H.length+1]?=some (.cells [.int .i64 e.op,.int .i64 e.n,.str e.name,.sl 4 [] .none])/\U.H[H.length+2]?=some (.cells (qr qZ))) 0 ?_ ?_
 . exact⟨by simp,by simp,by simp,by simp,by simp,hx1,lk0,lk1,lk2⟩
 rintro n ev ⟨H1,T1⟩ R hR ⟨e2,e3,e4,e15,e16,hx,bB,bE,bZ⟩;have hZl:=(qyF.1 bZ).1;simp[e2,e3,e15,e16,bE];rcases hop with hop|hop
 . have hnn:=o3 hop;have hc:=jX e.n.toNat (by omega);rw[Int.toNat_of_nonneg hnn.1]at hc;have hVl:((List.range 16).map fun k=>if e.n.toNat.testBit k=true then 1 else 0).length=16:=(by simp);have hwo:=Kf h.ok e.n.toNat;have hval:=fun b=>ZU h.ok b (n:=e.n.toNat) (by omega)
   generalize ((List.range 16).map fun k=>if e.n.toNat.testBit k=true then 1 else 0)=V at *;simp[hop,bE];refine qCO hc rfl ?_;simp[-getElem?_pos,e4,bZ,hZl,hVl,qn hVl,zd hVl (show(qr qZ).length=16 from rfl),qN];refine⟨d,V,rfl,hx.set (by omega) _,qDg d,hwo,fun b=>?_⟩;dsimp only;rw[yH];unfold zP QB;rw[if_pos hop,hval b];omega
 have hva:=h2 hop;unfold vK at hva;rw[qy8]at hva;obtain⟨v,hm,hvn⟩:=hva;have hvn:v.name=e.name:=by simpa using hvn
 obtain⟨i,hi⟩:=qzq hm;have hil:=(qyF.1 hi).1;obtain⟨l,hl⟩:∃l,lv[i]?=some l:=⟨_,qyH (by rwa[hp.len])⟩;have hw:=qco hx.self hp hi hl (T:=T1);rw[hvn]at hw;have ht:¬e.op=1:=by omega
 simp[hop,e3,bE,bB];refine qCQ hw ?_;rintro vv ⟨H2,T2⟩ ⟨d2,W,rfl,hxx,hg2,hW,hv2⟩;have cZ:=hxx.loc bZ (hk _ (by omega));have hl2:=(qyF.1 cZ).1;have hWl:=hW.1;simp[-getElem?_pos,e4,cZ,hl2,hWl,qn hWl,zd hWl (show(qr qZ).length=16 from rfl),qN];refine⟨d2,W,rfl,(hx.call hxx).set (by omega) _,hg2,hW,fun b=>?_⟩;rw[hv2 b];dsimp only;rw[yH];unfold QB;rw[if_neg ht,if_pos hop,<- hvn,qi3 hp.len hp.nodup hp.vars hi hl b]
end
def qme(n):(List.replicate n (qr qZ)).flatten=(List.replicate n qZ).flatMap qr:=by rw[qAv,qBA]
def qiv{x:Nat}:∀l:List Nat,jJ (x:Int) (l.map fun n:Nat=>(n:Int))=qnT x l
 |[]=>rfl
 |[_]=>rfl
 | a::b::r=>by
  simp only[qyR,jJ,qnT,qiv r];congr 2
  . rw[qzz,decide_eq_true_iff,decide_eq_true_iff];omega
  rw[qzz,decide_eq_true_iff,decide_eq_true_iff];omega
section
variable {c:Bc}{d:List Nd}{H:List Blk}{T:List (Option Nat)}
def qjx(h:BX c H d H){h1 h2 t x y}(b1:H[h1]?=some (.cells [.ptr c.B 0]))(b2:H[h2]?=some (.cells [.int .i64 (t:Int)]))(ht:t<d.length)(hx:x<d.length)(hy:y<d.length):
 qf prog (XG c) 188 [.int .i64 x,.int .i64 y,.ptr h1 0,.ptr h2 0] ⟨H,T⟩ (NQ c d H fun b=>evD d b t&&evD d b x||!evD d b t&&evD d b y):=by
 refine qCN qe func188 rfl (by kernel_rfl) ?_;simp[b1,b2];refine qCQ (qjw c h ht hx hy) ?_;rintro v ⟨H2,T2⟩ ⟨d2,y,rfl,hxx2,hg2,hy2,hv2⟩;simp;exact⟨d2,y,rfl,hxx2,hg2,hy2,hv2⟩
def qaf(h:BX c H d H){p lv}(hp:PB p lv c)(e)(he:qgF p e)(h0:e.args≠[])
 (ih:∀a∈e.args,∀d H T,BX c H d H->qf prog (XG c) 127 [.ptr c.B 0,.agg (qt a)] ⟨H,T⟩ (WQ c d H fun b=>yG (ki p.vars (Qd p.vars lv b)) a)):
 qf prog (XG c) 127 [.ptr c.B 0,.agg (qt e)] ⟨H,T⟩ (WQ c d H fun b=>yG (ki p.vars (Qd p.vars lv b)) e):=by
 obtain⟨val,hvale⟩:∃val:(Nat->Bool)->Ex->Int,∀b e,yG (ki p.vars (Qd p.vars lv b)) e=val b e:=⟨_,fun _ _=>rfl⟩;simp only[hvale]at ih⊢;refine qCM ⟨false,qd3,[],[]⟩ qe func127 rfl (by kernel_rfl) ?_;obtain⟨hn,h3,h24,h2,hal⟩:=he.self;have hk:∀j,H.length<=j->j≠c.B:=fun j hj=>(h.at hj).1
 have hpos:=qyZ.2 h0;have hpos':¬(e.args.length:Int)=0:=by omega
 rw[qd e];simp[qz,js,qN,show(e.args.length:Int)<=549755813888 by omega,h0,qme];refine qC2 e.args (fun dn ev U=>ev 2=.ptr H.length 0/\ev 3=.ptr (H.length+1) 0/\ev 4=.ptr (H.length+2) 0/\ev 5=.ms (H.length+3) 0 e.args.length 16/\ev 14=.sl 4 (e.args.map qt) .none/\ev 15=.int .i64 e.args.length/\ev 16=.int .i64 dn.length /\
  ∃ (d':List Nd) (Ws:List (List Nat)),BX c H d' U.H/\qU d d'/\Ws.length=e.args.length/\(∀w∈Ws,qT d' w)/\(∀b,(Ws.take dn.length).map (zP d' b)=dn.map (val b)) /\
   U.H[H.length]?=some (.cells [.ptr c.B 0])/\U.H[H.length+1]?=some (.cells [.int .i64 e.op,.int .i64 e.n,.str e.name,.sl 4 (e.args.map qt) .none])/\U.H[H.length+2]?=some (.cells (qr qZ))/\U.H[H.length+3]?=some (.cells (Ws.flatMap qr))) ?_ ?_ ?_
 . refine⟨by simp,by simp,by simp,by simp,by simp,by simp,by simp,d,List.replicate e.args.length qZ,?_,qDg d,by simp,fun w hw=>?_,fun b=>by simp,?_,?_,?_,?_⟩
   . exact h.app _
   . rw[qAx]at hw;rw[hw.2];exact kz h.ok
   . exact lk0
   . exact lk1
   . exact lk2
   . exact lk3
 . rintro dn a rest ev ⟨H1,T1⟩ R hR hd hx hlt ⟨e2,e3,e4,e5,e14,e15,e16,d1,Ws,hx1,hg,hWl,hWs,hv,bB,bE,bZ,bW⟩;dsimp only at hx1 bB bE bZ bW;have ham:=qyG hx;have hdw:=wr (n:=(dn.length:Int)+1) (by omega) (by omega);have hlt':(dn.length:Int)<e.args.length:=(by omega);have hH1l:=(qyF.1 bW).1;have hihx:=hx1.self.app [.cells (qt a)];have hih:=fun T=>ih a ham d1 _ T (hx1.app [.cells (qt a)]).self
   have hflen:=Y0 (Ws:=Ws) fun w hw=>(hWs w hw).1
   rw[hWl]at hflen;have hput:∀{V:List Nat},V.length=16->zj (Ws.flatMap qr) (dn.length*16) (qr V)=(Ws.set dn.length V).flatMap qr:=fun {V} hV=>Ys hV (fun w hw=>(hWs w hw).1) (by omega)
   rw[qd a]at hih;simp[e2,e5,e14,e15,e16,hlt',hx,qd a,qa bB];refine qCQ (hih T1) ?_;rintro v ⟨H2,T2⟩ ⟨d2,V,rfl,hxx2,hg2,hV,hv2⟩;dsimp only at hv2;have hVl:=hV.1;have hx2:=(hx1.app [.cells (qt a)]).call (by rwa[qd a]);have up:∀{k:Nat} {x:Blk},H.length<=k->H1[k]?=some x->H2[k]?=some x:=fun {k x} hl hq=>hxx2.loc (qa hq _) (hk k hl)
   have cW:=up (by omega) bW;have hl2:=(qyF.1 cW).1;simp[e16,hlt',cW,hflen,show dn.length*16+16<=e.args.length*16 by omega,hVl,hput hVl,hdw];refine hR _ _ ⟨by simp[e2],by simp[e3],by simp[e4],by simp[e5],by simp[e14],by simp[e15],by simp,d2,Ws.set dn.length V,hx2.set (by omega) _,hg.trans hg2,by simp[hWl],fun w hw=>?_,fun b=>?_,?_,?_,?_,qyL hl2⟩
   . rcases qAL hw with hw|rfl
     . exact(hWs w hw).grown hg2
     . exact hV
   . have h1:(Ws.set dn.length V).take (dn++[a]).length=Ws.take dn.length++[V]:=by
      rw[qyK,qzd,qzb,qyL (by omega),List.take_set_of_le (qyQ _)];rfl
     rw[h1,qzE,qzE,<- hv b];congr 1
     . apply qzW;intro w hw;exact qfP hx1.ok hg2 (hWs w (qzy hw)) b
     simp only[qyR,qzj];rw[hv2 b]
   . rw[qyI (by omega)];exact up (by omega) bB
   . rw[qyI (by omega)];exact up (by omega) bE
   rw[qyI (by omega)];exact up (by omega) bZ
 rintro ev ⟨H1,T1⟩ ⟨e2,e3,e4,e5,e14,e15,e16,d1,Ws,hx,hg,hWl,hWs,hv,bB,bE,bZ,bW⟩;dsimp only at hx bB bE bZ bW;have hvf:∀b,Ws.map (zP d1 b)=e.args.map (val b):=fun b=>by
  have:=hv b
  rwa[qyN (by omega)]at this
 have hflen:=Y0 (fun w hw=>(hWs w hw).1);have hnode:∀b,val b e=opW e.op (Ws.map (zP d1 b)):=fun b=>by
  rw[<- hvale,yH];unfold QB;rw[hvf b];have:(List.map (yG (ki p.vars (Qd p.vars lv b))) e.args)=e.args.map (val b):=qzW fun a _=>hvale b a
  rw[this];have h1:e.op≠1/\e.op≠2:=by
   obtain⟨o1,o2,o3,o4,o5,o6,o7,o8⟩:=jk hn;unfold qi at o5;constructor
   . intro h;rw[h]at o5;simp[zm]at o5;exact h0 o5
   intro h;rw[h]at o5;simp[zm]at o5;exact h0 o5
  rw[if_neg h1.1,if_neg h1.2,if_neg h3,if_neg h24]
 have fin:∀{H4:List Blk} {d4:List Nd} {V:List Nat} {τ:St},τ.H=H4.set (H.length+2) (.cells (qr V))->BX c H d4 H4->qU d1 d4->qT d4 V->(∀b,zP d4 b V=opW e.op (Ws.map (zP d1 b)))->WQ c d H (fun b=>val b e) (.agg (qr V)) τ:=fun {H4 d4 V τ} hτ hx4 hg4 hV hvv=>by
  refine⟨d4,_,rfl,?_,hg.trans hg4,hV,fun b=>by rw[hvv];exact(hnode b).symm⟩;rw[hτ];exact hx4.set (by omega) _
 have hZl:=(qyF.1 bZ).1;obtain⟨o1,o2,o3,o4,o5,o6,o7,o8⟩:=jk hn;have hop:((e.op=4\/e.op=5\/e.op=6\/e.op=25)/\e.args.length=1)\/(e.op=22/\e.args.length=3)\/(e.op=23/\3<=e.args.length)\/(7<=e.op/\e.op<=21/\e.args.length=2):=by
  unfold qi at o5;split at o5
  . simp only[decide_eq_true_eq]at o5;omega
  simp only[decide_eq_true_eq]at o5;unfold zm at o5
  repeat' split at o5
  all_goals omega
 have hZ16:(qr qZ).length=16:=rfl;have ht:=hx.ok.two;rcases hop with⟨hop,h1⟩|⟨hop,h1⟩|⟨hop,h1⟩|⟨hop7,hop21,h1⟩
 . -- one operand
   rw[h1]at hWl e5;obtain⟨w0,rfl⟩:=List.length_eq_one_iff.1 hWl;have hw0:=hWs w0 (by simp);have hw0l:=hw0.1;simp only[qy5,qBj,qzp]at bW;rcases hop with hop|hop|hop|hop
   . simp[e3,e15,e16,bE,hop,h1];rw[qJ rfl];simp[qX,e2,e5,bB,bW,hw0l,qn hw0l];have key:=vU hx.self hw0 (T:=T1);refine⟨qCQ key ?_,qCQ key ?_⟩
     all_goals
      rintro v ⟨H2,T2⟩ ⟨d2,t,rfl,hxx2,hg2,ht2,hv2⟩;dsimp only at hv2;have hx2:=hx.call hxx2;have cB:=hxx2.loc bB (hk _ (by omega));dsimp only at cB;simp[qX,e2,cB];refine qCQ (Qp c hx2.self ht2) ?_;rintro v ⟨H3,T3⟩ ⟨d3,u,rfl,hxx3,hg3,hu,hv3⟩;dsimp only at hv3;have hx3:=hx2.call hxx3;have cZ:=hxx3.loc (hxx2.loc bZ (hk _ (by omega))) (hk _ (by omega));have hl3:=(qyF.1 cZ).1;dsimp only at cZ hl3;simp[qX];refine qCO (z9 u) rfl ?_;have cut1:(qr (u::List.replicate 15 0)).take 16=qr (u::List.replicate 15 0):=qn rfl;have put1:zj (qr qZ) 0 (qr (u::List.replicate 15 0))=qr (u::List.replicate 15 0):=zd rfl rfl;have kZ:=fin (H4:=H3) (d4:=d3) (V:=u::List.replicate 15 0) (τ:=⟨H3.set (H.length+2) (.cells (qr (u::List.replicate 15 0))),T3⟩) rfl hx3 (hg2.trans hg3) (qa5 hx3.ok hu) (fun b=>by
       rw[Vc hx3.ok,hv3,hv2,vt,hop];simp[opW,unW,zP])
      simp only[List.reduceReplicate]at kZ cut1 put1;simp[-getElem?_pos,qX,e4,cZ,qN,put1,hl3,cut1];exact kZ
   . simp[e3,e15,e16,bE,hop,h1];rw[qJ rfl];simp[qX,e2,e5,bB,bW,hw0l,qn hw0l];refine qCQ (Zl hx.self hw0) ?_;rintro v ⟨H2,T2⟩ ⟨d2,V,rfl,hxx2,hg2,hV,hv2⟩;dsimp only at hv2;have hVl:=hV.1;have cZ:=hxx2.loc bZ (hk _ (by omega));have hl3:=(qyF.1 cZ).1;dsimp only at cZ hl3;simp[-getElem?_pos,qX,e4,cZ,qN,hVl,zd hVl hZ16,hl3,qn hVl];refine fin rfl (hx.call hxx2) hg2 hV fun b=>?_
     unfold zP;rw[zg (hv2 b),qvb,hop];rfl
   . have hc0:=jX 0 (by omega);rw[qeQ]at hc0;simp only[qz1]at hc0;simp[e3,e15,e16,bE,hop,h1];rw[qJ rfl];simp[qX,e2,bB];refine qCO hc0 rfl ?_;simp[qX,e5,bW,hw0l,qn hw0l];refine qCQ (Zh hx.self (kz hx.ok) hw0) ?_;rintro v ⟨H2,T2⟩ ⟨d2,V,rfl,hxx2,hg2,hV,hv2⟩;dsimp only at hv2;have hVl:=hV.1;have cZ:=hxx2.loc bZ (hk _ (by omega));have hl3:=(qyF.1 cZ).1;dsimp only at cZ hl3;simp[-getElem?_pos,qX,e4,cZ,qN,hVl,zd hVl hZ16,hl3,qn hVl];refine fin rfl (hx.call hxx2) hg2 hV fun b=>?_
     rw[qcO (hv2 b),<- kE,qrG,yZ fun k _=>yT hx.ok b k,hop];simp[opW,unW,zP]
   simp[e3,e15,e16,bE,hop,h1];rw[qJ rfl];simp[qX,e2,e5,bB,bW,hw0l,qn hw0l];refine qCQ (qpw hx.self hw0) ?_;rintro v ⟨H2,T2⟩ ⟨d2,V,rfl,hxx2,hg2,hV,hv2⟩;dsimp only at hv2;have hVl:=hV.1;have cZ:=hxx2.loc bZ (hk _ (by omega));have hl3:=(qyF.1 cZ).1;dsimp only at cZ hl3;simp[-getElem?_pos,qX,e4,cZ,qN,hVl,zd hVl hZ16,hl3,qn hVl];refine fin rfl (hx.call hxx2) hg2 hV fun b=>?_
   have hr:=qfO d1 b w0;have hwi:=QN hr.1 hr.2;unfold zP at hwi⊢;rw[hv2 b,<- Wk _ 16 (by omega),hop];simp[opW,unW,hwi]
 . -- a choice
   rw[h1]at hWl e5;obtain⟨w0,w1,w2,rfl⟩:∃w w' w'',Ws=[w,w',w'']:=by
    match Ws,hWl with
    |[a,b,c],_=>exact⟨a,b,c,rfl⟩
   have hw0:=hWs w0 (by simp);have hw0l:=hw0.1;have hw1:=hWs w1 (by simp);have hw1l:=hw1.1;have hw2:=hWs w2 (by simp);have hw2l:=hw2.1;simp only[qy5,qBj,qzp]at bW;have c0:(qr w0++(qr w1++qr w2)).take 16=qr w0:=(by rw[qzL (by simp[hw0l]),qn hw0l]);have c1:((qr w0++(qr w1++qr w2)).drop 16).take 16=qr w1:=by
    rw[qAy,qzf (by simp[hw0l]),jq,hw0l,qzU,qzX,qy2,qzL (by simp[hw1l]),qn hw1l]
   have c2:(qr w0++(qr w1++qr w2)).drop 32=qr w2:=by
    rw[qAy,qzf (by simp[hw0l]),jq,hw0l,qy2,qAy,qzf (by simp[hw1l]),jq,hw1l];rfl
   have cl:(qr w0++(qr w1++qr w2)).length=48:=(by simp[hw0l,hw1l,hw2l]);generalize qr w0++(qr w1++qr w2)=F at *;simp[e3,e15,e16,bE,hop,h1];rw[qJ rfl];simp[qX,e2,e5,bB,bW,cl,c0]
   -- what is behind the truth
   have rest:∀{H2:List Blk} {T2:List (Option Nat)} {d2:List Nd} {t N:Nat},BX c H d2 H2->qU d1 d2->t<d2.length->(∀b,evD d2 b t=Zq (qo d1 b w0) 16)->(∀{k:Nat} {x:Blk},H.length<=k->H1[k]?=some x->H2[k]?=some x)->H2[N]?=some (.cells [.int .i64 (t:Int)])->N≠c.B ->
    qf prog (XG c) 187 [.agg (qr w1),.agg (qr w2),.fn 188 [] [.ptr H.length 0,.ptr N 0]] ⟨H2,T2⟩ (BQ c d2 H2 fun b k=>if Zq (qo d1 b w0) 16=true then qo d1 b w1 k else qo d1 b w2 k):=by
    intro H2 T2 d2 t N hx2 hg2 ht2 htv up bN hN;have cB:=up (qyQ _) bB;have:=JM hx2.self (hw1.grown hg2) (hw2.grown hg2) (T:=T2) (g:=188) (first:=[]) (cap:=[.ptr H.length 0,.ptr N 0]) (F:=fun b p q=>Zq (qo d1 b w0) 16&&p||!Zq (qo d1 b w0) 16&&q) (fun d3 H3 T3 x y hx3 hg3 hxl hyl=>by
     have key:=qjx hx3.self (h1:=H.length) (h2:=N) (t:=t) (x:=x) (y:=y) (T:=T3) (hx3.loc cB (hk _ (qyQ _))) (hx3.loc bN hN) (qyV ht2 hg3.len) hxl hyl;have e:(fun b=>evD d3 b t&&evD d3 b x||!evD d3 b t&&evD d3 b y)=fun b=>Zq (qo d1 b w0) 16&&evD d3 b x||!Zq (qo d1 b w0) 16&&evD d3 b y:=by
      funext b;rw[hg3.ev hx2.ok b ht2,htv]
     rw[e]at key;exact key)
    refine this.imp fun v U ⟨d',W,e1,e2,e3,e4,e5⟩=>⟨d',W,e1,e2,e3,e4,fun b k hk=>?_⟩
    rw[e5 b k hk];dsimp only;rw[zC hx.ok hg2 hw1 b hk,zC hx.ok hg2 hw2 b hk];cases Zq (qo d1 b w0) 16<;>simp
   have Zs:∀{H4:List Blk} {T4:List (Option Nat)} {d2 d4:List Nd} {V:List Nat},BX c H d4 H4->qU d1 d2->qU d2 d4->qT d4 V->(∀b k,k<16->qo d4 b V k=if Zq (qo d1 b w0) 16=true then qo d1 b w1 k else qo d1 b w2 k)->WQ c d H (fun b=>val b e) (.agg (qr V)) ⟨H4.set (H.length+2) (.cells (qr V)),T4⟩:=fun {H4 T4 d2 d4 V} hx4 hg2 hg4 hV hvv=>by
    refine fin rfl hx4 (hg2.trans hg4) hV fun b=>?_
    unfold zP;rw[zg (hvv b),hop,vt];by_cases h:(zf (qo d1 b w0) 16:Int)=0
    . have h':zf (qo d1 b w0) 16=0:=(by omega);simp[opW,h']
    have h':¬zf (qo d1 b w0) 16=0:=(by omega);simp[opW,h']
   refine⟨qCQ (vU hx.self hw0) ?_,qCQ (vU (hx.app _).self hw0) ?_⟩
   . rintro v ⟨H2,T2⟩ ⟨d2,t,rfl,hxx2,hg2,ht2,hv2⟩;dsimp only at hv2;have hx2:=hx.call hxx2;have up:∀{k:Nat} {x:Blk},H.length<=k->H1[k]?=some x->H2[k]?=some x:=fun {k x} hl hq=>hxx2.loc hq (hk k hl)
     have cW:=up (by omega) bW;simp[qX];rw[qJ rfl];simp[qX,e2,e5,qa cW,cl,c1,c2,qn hw2l];refine qCQ (rest (hx2.app [.cells [.int .i64 (t:Int)]]) hg2 ht2 hv2 (fun hl hq=>qa (up hl hq) _) lk0 (hk _ (hx2.kp.1))) ?_;rintro v ⟨H3,T3⟩ ⟨d3,V,rfl,hxx3,hg3,hV,hv3⟩;have hx3:=(hx2.app [.cells [.int .i64 (t:Int)]]).call hxx3;have hVl:=hV.1;have cZ:=hxx3.loc (qa (up (by omega) bZ) _) (hk _ (by omega));have hl3:=(qyF.1 cZ).1;dsimp only at cZ hl3;simp[-getElem?_pos,qX,e4,cZ,qN,hVl,zd hVl hZ16,hl3,qn hVl];exact Zs hx3 hg2 hg3 hV hv3
   rintro v ⟨H2,T2⟩ ⟨d2,t,rfl,hxx2,hg2,ht2,hv2⟩;dsimp only at hv2;have hx2:=(hx.app _).call hxx2;have up:∀{k:Nat} {x:Blk},H.length<=k->H1[k]?=some x->H2[k]?=some x:=fun {k x} hl hq=>hxx2.loc (qa hq _) (hk k hl)
   have hH1l:=hx.kp.1;have bN:=hxx2.loc (lk0 (H:=H1) (p:=Blk.cells [.int .i64 0]) (t:=[])) (hk _ hH1l);have hNl:=(qyF.1 bN).1;have hH13:=(qyF.1 bW).1;have cW:=up (by omega) bW;have up3:∀{k:Nat} {x:Blk},H.length<=k->H1[k]?=some x->(H2.set H1.length (.cells [.int .i64 (t:Int)]))[k]?=some x:=fun {k x} hl hq=>by
    have:=(qyF.1 hq).1;rw[qyI (by omega)];exact up hl hq
   have dW:=up3 (by omega) bW;simp[qX,bN];rw[qJ rfl];simp[qX,e2,e5,dW,cl,c1,c2,qn hw2l];refine qCQ (rest (hx2.set hH1l _) hg2 ht2 hv2 up3 (qyL hNl) (hk _ hH1l)) ?_;rintro v ⟨H3,T3⟩ ⟨d3,V,rfl,hxx3,hg3,hV,hv3⟩;have hx3:=(hx2.set hH1l _).call hxx3;have hVl:=hV.1;have cZ:=hxx3.loc (up3 (by omega) bZ) (hk _ (by omega));have hl3:=(qyF.1 cZ).1;dsimp only at cZ hl3;simp[-getElem?_pos,qX,e4,cZ,qN,hVl,zd hVl hZ16,hl3,qn hVl];exact Zs hx3 hg2 hg3 hV hv3
 . -- ranges
   obtain⟨w0,Wr,rfl⟩:∃w r,Ws=w::r:=by
    match Ws,hWl with
    |a::r,_=>exact⟨a,r,rfl⟩
    |[],h=>simp at h;omega
   have hw0:=hWs w0 (by simp);have hw0l:=hw0.1;have hWrl:Wr.length+1=e.args.length:=(by simpa using hWl);rw[<- hWrl]at e5;have hsl:zo (.ms (H.length+3) 0 (Wr.length+1) 16) (some (.int .i64 1)) none none=some (.ms (H.length+3) 16 Wr.length 16):=by
    have h2:(1:Int)<=((Wr.length+1:Nat):Int):=(by omega);show(if(0:Int)<=1/\(1:Int)<=((Wr.length+1:Nat):Int)/\((Wr.length+1:Nat):Int)<=((Wr.length+1:Nat):Int)/\((1:Int)=0\/(1:Int)<((Wr.length+1:Nat):Int)) then _ else _)=_;rw[if_pos ⟨by omega,h2,qBY _,.inr (by omega)⟩];simp
   have hpos1:(0:Int)<(Wr.length:Int)+1:=(by omega);have hin:=qiu hx.self hw0 (A:=H.length+3) (V:=w0) (Ws:=Wr) hw0l (fun w hw=>hWs w (by simp[hw])) (by simpa using bW) (hk _ (by omega)) (by omega) (T:=T1);simp only[qy5]at bW hflen;have c0:(qr w0++Wr.flatMap qr).take 16=qr w0:=(by rw[qzL (by simp[hw0l]),qn hw0l]);have cl:16<=(qr w0++Wr.flatMap qr).length:=(by simp[hw0l]);generalize qr w0++Wr.flatMap qr=F at *;simp[e3,e15,e16,bE,hop];rw[qJ rfl];simp[qX,e2,e5,bB,bW,cl,c0,hsl,hpos1];refine qCQ hin ?_;rintro v ⟨H2,T2⟩ ⟨d2,u,rfl,hxx2,hg2,hu,hv2⟩;dsimp only at hv2;have hx2:=hx.call hxx2;have cZ:=hxx2.loc bZ (hk _ (by omega));have hl3:=(qyF.1 cZ).1;dsimp only at cZ hl3;simp[qX];refine qCO (z9 u) rfl ?_;have cut1:(qr (u::List.replicate 15 0)).take 16=qr (u::List.replicate 15 0):=qn rfl;have put1:zj (qr qZ) 0 (qr (u::List.replicate 15 0))=qr (u::List.replicate 15 0):=zd rfl rfl;have kZ:=fin (H4:=H2) (d4:=d2) (V:=u::List.replicate 15 0) (τ:=⟨H2.set (H.length+2) (.cells (qr (u::List.replicate 15 0))),T2⟩) rfl hx2 hg2 (qa5 hx2.ok hu) (fun b=>by
    rw[Vc hx2.ok,hv2,hop];have:(Wr.map (zP d1 b))=(Wr.map fun w=>zf (qo d1 b w) 16).map fun n:Nat=>(n:Int):=by
     rw[qz0];rfl
    simp only[opW,qyR,List.tail_cons,this];have hins:=qiv (x:=zf (qo d1 b w0) 16) (Wr.map fun w=>zf (qo d1 b w) 16);show _=b2i (jJ (zP d1 b w0) _);rw[<- hins];rfl)
   simp only[List.reduceReplicate]at kZ cut1 put1;simp[-getElem?_pos,qX,e4,cZ,qN,put1,hl3,cut1];exact kZ
 -- two operands
 rw[h1]at hWl e5;obtain⟨w0,w1,rfl⟩:∃w w',Ws=[w,w']:=by
  match Ws,hWl with
  |[a,b],_=>exact⟨a,b,rfl⟩
 have hw0:=hWs w0 (by simp);have hw0l:=hw0.1;have hw1:=hWs w1 (by simp);have hw1l:=hw1.1;have c0:(qr w0++qr w1).take 16=qr w0:=by rw[qzL (by simp[hw0l]),qn hw0l]
 have c1:(qr w0++qr w1).drop 16=qr w1:=by rw[qAy,qzf (by simp[hw0l]),jq,hw0l];rfl
 have cl:(qr w0++qr w1).length=32:=by simp[hw0l,hw1l]
 simp only[qy5,qBj,qzp]at bW;generalize qr w0++qr w1=F at *;have n23:¬e.op=23:=by omega
 have n22:¬e.op=22:=by omega
 simp[-getElem?_pos,e2,e3,e15,e16,bE,h1,show ¬e.op=1 by omega,show ¬e.op=2 by omega,show ¬e.op=4 by omega,show ¬e.op=5 by omega,show ¬e.op=6 by omega,show ¬e.op=25 by omega,n23,n22];rw[qJ rfl];simp[-getElem?_pos,qX,e2,e3,e5,bB,bE,bW,cl,c0,c1,qn hw1l];refine qCQ (qjH hx.self hw0 hw1 hop7 hop21) ?_;rintro v ⟨H2,T2⟩ ⟨d2,V,rfl,hxx2,hg2,hV,hv2⟩;dsimp only at hv2;have hVl:=hV.1;have cZ:=hxx2.loc bZ (hk _ (by omega));have hl3:=(qyF.1 cZ).1;dsimp only at cZ hl3;simp[-getElem?_pos,qX,e4,cZ,qN,hVl,zd hVl hZ16,hl3,qn hVl];refine fin rfl (hx.call hxx2) hg2 hV fun b=>?_
 rw[hv2 b];simp[opW,n22,n23]
def qox{p lv}(hp:PB p lv c):∀(e),qgF p e->∀d H T,BX c H d H->qf prog (XG c) 127 [.ptr c.B 0,.agg (qt e)] ⟨H,T⟩ (WQ c d H fun b=>yG (ki p.vars (Qd p.vars lv b)) e):=by
 refine qDa fun e ih he d H T h=>?_
 by_cases h0:e.args=[]
 . exact qag h hp e he h0
 exact qaf h hp e he h0 fun a ha d H T h=>ih a ha (he.arg ha) d H T h
end
def YB(n):Pure prog GG 262 [.int .i64 n] (.agg (qt (jL n))):=by
 refine qCL qe func262 rfl (by kernel_rfl) ?_;simp[jL,qd,zp,zS,qG]
def qsc{L:List Rg}{r:Rg}{n}:((L++[r]).flatMap yI).set (L.length*2+1) (.int .i64 n)=(L++[(r.1,n)]).flatMap yI:=by
 rw[List.flatMap_append,List.flatMap_append,qzO _ _ (by rw[jf (sz:=2) (fun x=>by simp)];omega),jf (sz:=2) (fun x=>by simp)];have:L.length*2+1-L.length*2=1:=by omega
 rw[this];simp
def qm7(out:List Rg)(n):(QM out n).length<=out.length+1:=by
 unfold QM
 cases h:out.getLast? with
 |none=>simp
 | some r=>
  simp only;split<;>simp
def qbB:∀(l:List Int) (out:List Rg),(l.foldl QM out).length<=out.length+l.length
 |[],out=>by simp
 | n::l,out=>by
  rw[qzm];have:=qbB l (QM out n);have:=qm7 out n;simp;omega
def qhG(l)(hl:l.length<=1000)(hn:∀n∈l,0<=n/\n<=65535):Pure prog GG 203 [.sl 1 (l.map qq) .none] (.sl 2 ((qcD l).map yI) .none):=by
 refine qCK ⟨true,[],[],[]⟩ true qe func203 rfl (by kernel_rfl) ?_;have hr:qcD l=l.foldl QM []:=rfl;generalize qcD l=O at hr;simp;refine qC2 l (fun d ev U=>ev 7=.sl 1 (l.map qq) .none/\ev 8=.int .i64 l.length/\ev 9=.int .i64 d.length/\∃H b,U=⟨H,[]⟩/\jr b 2 yI H (ev 3) (d.foldl QM [])) ?_ ?_ ?_
 . exact⟨by simp,by simp,by simp,[],0,by simp,.inl ⟨rfl,by simp⟩⟩
 . rintro d n rest ev U R hR hd hx hlt ⟨e7,e8,e9,H,b,rfl,ho⟩;have hw:=wr (n:=(d.length:Int)+1) (by omega) (by omega);have hlen:(d.foldl QM []).length<=d.length:=(by have:=qbB d [];simpa using this);have hnn:=hn n (qyG hx);have hwn:=wr (n:=n-1) (by omega) (by omega);have hnext:(d++[n]).foldl QM []=QM (d.foldl QM []) n:=(by simp);generalize d.foldl QM []=L at *;have hgo:∀(ev':Env) H' b',ev' 7=.sl 1 (l.map qq) .none->ev' 8=.int .i64 l.length->ev' 9=.int .i64 (d.length+1:Nat)->jr b' 2 yI H' (ev' 3) (QM L n)->R ev' ⟨H',[]⟩:=fun ev' H' b' a1 a2 a3 a4=>
    hR _ _ ⟨a1,a2,by simpa using a3,H',b',rfl,by rw[hnext];exact a4⟩
   generalize hv3:ev 3=v3 at *
   cases hg:L.getLast? with
   | none=>
    have hL:=qBu.1 hg;have hadd:QM L n=[(n,n)]:=(by subst hL;rfl);obtain⟨v',b',H2,hY,ho2,_,_,_⟩:=ho.appendK (P:=prog) (G:=Jx GG) (o:=⟨true,[],[],[]⟩) (T:=[]) (m:=[(n,n)]) (tok:=.tight) qxy rfl qxx rfl (by omega) rfl (by decide) (fun x=>by simp) (by simp;omega);subst hL;rcases ho with⟨_,rfl⟩|⟨h,_⟩
    case inr=>exact absurd rfl h
    simp only[qyR,qzj,yI]at hY;simp[-getElem?_pos,hv3,hY,e7,e8,e9,hlt,hx,hw,show IntKind.i64.wrap (-1) = -1 by decide,zp,zS,qG,qj,qs];exact hgo _ _ _ (by simp[e7]) (by simp[e8]) (by simp) (by rw[hadd];simpa using ho2)
   | some r=>
    obtain⟨L',rfl⟩:=qBv.1 hg;have hLne:L'++[r]≠[]:=(by simp);obtain⟨hv,hb⟩:=ho.at hLne;have hll:(L'++[r]).length=L'.length+1:=(by simp);have hlw:=wr (n:=(L'.length:Int)) (by omega) (by omega);have hf0:(L'.flatMap yI).length=L'.length*2:=jf (sz:=2) (fun x=>by simp) L';have hfe:(L'++[r]).flatMap yI=L'.flatMap yI++[.int .i64 r.1,.int .i64 r.2]:=(by rw[List.flatMap_append];simp);have hfl:((L'++[r]).flatMap yI).drop (L'.length*2+1)=[.int .i64 r.2]:=by
     rw[hfe,qAy,hf0,qzf (by omega),show L'.length*2+1-L'.length*2=1 by omega];rfl
    have hln:((L'++[r]).flatMap yI).length=L'.length*2+2:=(by rw[hfe,qyK,hf0];rfl);have hsetl:=qsc (L:=L') (r:=r) (n:=n);have hbl:=(qyF.1 hb).1;rw[hll]at hv;subst hv;have hlt2:(L'.length:Int)<L'.length+1:=(by omega);by_cases hr2:r.2=n-1
    . have hadd:QM (L'++[r]) n=L'++[(r.1,n)]:=(by unfold QM;rw[hg];simp[hr2]);generalize (L'++[r]).flatMap yI=fl at *;simp[-getElem?_pos,hv3,hb,hlt2,hfl,hln,hsetl,hlw,hwn,hr2,hw,e7,e8,e9,hlt,hx];exact hgo _ _ b (by simp[e7]) (by simp[e8]) (by simp) (by
       rw[hadd];exact .inr ⟨by simp,by simp[hv3],by rw[qyL hbl];simp⟩)
    have hadd:QM (L'++[r]) n=L'++[r]++[(n,n)]:=(by unfold QM;rw[hg];simp[hr2]);obtain⟨v',b',H2,hY,ho2,_,_,_⟩:=ho.appendK (P:=prog) (G:=Jx GG) (o:=⟨true,[],[],[]⟩) (T:=[]) (m:=[(n,n)]) (tok:=.tight) qxy rfl qxx rfl (by omega) rfl (by decide) (fun x=>by simp) (by simp at hlen⊢;omega);simp only[qyR,qzj,yI]at hY;generalize (L'++[r]).flatMap yI=fl at *;simp[-getElem?_pos,hv3,hb,hlt2,hfl,hln,hsetl,hlw,hwn,hr2,hw,e7,e8,e9,hlt,hx,hY,zp,zS,qG,qj,qs];exact hgo _ _ b' (by simp[e7]) (by simp[e8]) (by simp) (by rw[hadd];simpa using ho2)
 rintro ev U ⟨e7,e8,e9,H,b,rfl,ho⟩;rw[<- hr]at ho;simp[e8,e9];exact⟨ho.frzNo (fun x=>by simp) (fun x=>by simp) (fun x=>by simp) 7,ho.frz (fun x=>by simp) (fun x=>by simp) (fun x=>by simp) 7⟩
def qkX(s:Str):List AV:=[.int .i64 2,.int .i64 0,.str s,.sl 0 [] .nil]
def Qi(d:List Rg):List Ex:=d.flatMap fun r=>[jL r.1,jL r.2]
def qb0(s:Str)(d:List Rg):AV:=match d with
 |[]=>.sl 4 [qkX s] .tight
 |r::q=>.sl 4 (qkX s::(Qi (r::q)).map qt) (.chain 0 (2*(q.length+1)))
def qjS(d:List Rg):List (Option Nat):=match d with
 |[]=>[]
 |_::q=>[some (2*(q.length+1))]
def qm0(s)(d:List Rg)(r:Rg)(hl:d.length<=1000)(H):qL (Dof prog) ⟨H,qjS d⟩ 23 (qb0 s d) (.sl 4 [qt (jL r.1),qt (jL r.2)] .tight)=some (qb0 s (d++[r]),⟨H,qjS (d++[r])⟩):=by
 cases d with
 |nil=>simp[qL,qb0,qjS,zK,Qi]
 | cons a q=>
  have h2:((Qi (a::q)).map qt).length+1+2<=549755813888:=by rw[show((Qi (a::q)).map qt).length=2*(q.length+1) by rw[qzk,Qi,Ve];simp];simp at hl;omega
  show qL (Dof prog) ⟨H,[some (2*(q.length+1))]⟩ 23 (.sl 4 (qkX s::(Qi (a::q)).map qt) (.chain 0 (2*(q.length+1)))) _=some (.sl 4 (qkX s::(Qi (a::q++[r])).map qt) (.chain 0 (2*((q++[r]).length+1))),⟨H,[some (2*((q++[r]).length+1))]⟩);rw[show Qi (a::q++[r])=Qi (a::q)++[jL r.1,jL r.2] by simp[Qi],<- show 2*(q.length+1)+2=2*((q++[r]).length+1) by simp;omega];generalize (Qi (a::q))=N at h2⊢;simp only[qzk]at h2;simp[qL,zK,h2]
def qj7:∀L:List (List AV),yj L L
 |[]=>by simp
 |a::r=>by simp
def qbo(s:Str)(l:List Rg)(hl:l.length<=1000):Pure prog GG 263 [.str s,.sl 2 (l.map yI) .none] (.agg (qt (Qq s l))):=by
 refine qCL qe func263 rfl (by kernel_rfl) ?_;simp[zp,zS,qG,qj,qs];refine qQ.list l (fun d ev U=>ev 4=.ptr 0 0/\ev 5=qb0 s d/\ev 11=.sl 2 (l.map yI) .none/\ev 12=.int .i64 l.length/\ev 13=.int .i64 d.length/\∃t,U=⟨.cells [.int .i64 0,.int .i64 0,.str [],.sl 0 [] .nil]::t,qjS d⟩) ?_ ?_ ?_
 . exact⟨by simp,by simp[qb0,qkX],by simp,by simp,by simp,[],by simp[qjS]⟩
 . rintro d r rest ev U hd hx hlt ⟨e4,e5,e11,e12,e13,t,rfl⟩;have hw:=wr (n:=(d.length:Int)+1) (by omega) (by omega);have happ:=fun H=>qm0 s d r (by omega) H
   generalize qb0 s d=v5 at *;generalize qb0 s (d++[r])=v6 at *;have hn:∀n,qt (jL n)=[.int .i64 1,.int .i64 n,.str [],.sl 4 [] .none]:=fun n=>by simp[qd,jL]
   simp only[hn]at happ;have h1:=YB r.1;have h2:=YB r.2;simp only[hn]at h1 h2;simp[-getElem?_pos,e5,e11,e12,e13,hlt,hx];refine qCO h1 rfl ?_;simp;refine qCO h2 rfl ?_;simp[qj,qs,happ,hw,e4,e11,e12,e13]
 rintro ev U ⟨e4,e5,e11,e12,e13,t,rfl⟩;obtain⟨R,tok,hv,hR,hnr⟩:∃R tok,qb0 s l=.sl 4 R tok/\yj R ((wY s::Qi l).map qt)/\zk R=true:=by
  have hx:zq (qkX s) (qt (wY s)):=by rw[qd];simp[qkX,wY,zq,Leq]
  have ha:(qt (wY s)).all AV.atom=true:=by rw[qd];simp[AV.atom]
  cases l with
  |nil=>exact⟨_,_,rfl,by simp only[Qi,yj,qyR,qBj,qzj];exact⟨.inr ⟨hx,ha⟩,trivial⟩,by simp[qkX]⟩
  | cons a q=>
   refine⟨_,_,rfl,by simp only[yj,qyR];exact⟨.inr ⟨hx,ha⟩,qj7 _⟩,?_⟩;have:=qvX (Qi (a::q));simp only[zk,qyJ];exact⟨by simp[qkX],this⟩
 rw[hv]at e5;rw[show qt (Qq s l)=[.int .i64 23,.int .i64 0,.str [],.sl 4 ((wY s::Qi l).map qt) .none] by rw[qd];rfl];generalize (wY s::Qi l).map qt=R' at hR;simp[e4,e5,e12,e13,zp,zS,qG];cases tok<;>exact⟨by simpa using hnr,by simp[Leq,hR]⟩
def qlf:List (Nat×Sch×List Nat):=[(9,.step 0 [8,7,6] (.step 1 [8,7,6,5] (.step 2 [8,7,6,5,4] (.step 3 [8,7,6,5,4] (.step 4 [8,7,6,5] (.step 5 [8,7,6] (.step 6 [8,7] (.step 7 [8] (.step 8 [] (.done))))))))),[])]
def qsA(k:Nat):vd (.int .i64 16) (.int .i64 (k:Int))=some (.int .i64 ((min 16 k:Nat):Int)):=by
 simp only[vd];congr 2;split<;>omega
@[simp]def qx5(l:List Rg):zk (l.map yI)=true:=zx (fun x=>by simp) l
def qr4{r:List Rg}{M}(h:M<=r.length):zo (.sl 2 (r.map yI) .none) none (some (.int .i64 M)) none=some (.sl 2 ((r.take M).map yI) .none):=by
 simp[zo,zU,kI,z0,h]
def qr5{r:List Rg}{M}(h:M<=r.length):zo (.sl 2 (r.map yI) .none) (some (.int .i64 M)) none none=some (.sl 2 ((r.drop M).map yI) .none):=by
 simp[zo,zU,kI,z0,h,show(r.map yI).take r.length=r.map yI from qyN (by simp)]
def qmD{r:List Rg}:r.take (min 16 r.length)=r.take 16/\r.drop (min 16 r.length)=r.drop 16:=by
 by_cases h:16<=r.length
 . rw[qAb h];exact⟨rfl,rfl⟩
 rw[Nat.min_eq_right (by omega),qyN (by omega),qyN (by omega),qzf (by omega),qzf (by omega)];exact⟨rfl,rfl⟩
def qkE(s:Str)(l:List Rg)(hl:l.length<=1000):Pure prog GG 202 [.str s,.sl 2 (l.map yI) .none] (.agg (qt (kF s l))):=by
 refine qCK ⟨false,qlf,[],[]⟩ false qe func202 rfl (by kernel_rfl) ?_;by_cases h0:l=[]
 . subst h0;have hu:kF s []=jL 0:=rfl;have hn:=YB 0;rw[hu];simp only[jL,qd,qCH,Ex.n_mk,qCI,qCJ,qzj]at hn⊢;simp;refine qCO hn rfl ?_;simp
 have hpos:=qyZ.2 h0;have hm16:=qsA l.length;have hml:min 16 l.length<=l.length:=qAW _ _;have hl1:=qr4 (r:=l) hml;have hl2:=qr5 (r:=l) hml;rw[qmD.1]at hl1;rw[qmD.2]at hl2;have hi:=qbo s (l.take 16) (by simp;omega);have hu:kF s l=Zm s (Qq s (l.take 16)) (zX 16 l.length (l.drop 16)):=if_neg h0;rw[hu];generalize hM:min 16 l.length=M at *;have hQl:(l.drop 16).length<=l.length:=by simp
 have hQ16:(l.drop 16).length<=1000:=by omega
 have near0:=qlD (Qq s (l.take 16));generalize Qq s (l.take 16)=E0 at *;generalize l.take 16=P at *;generalize l.drop 16=Q0 at *;generalize hR:Zm s E0 (zX 16 l.length Q0)=R0 at *;have hE0:=qd E0;simp only[hE0]at hi near0;simp[h0,hm16,hl1];refine qCO hi (by simp) ?_;simp[hl2];refine qCR (fun n ev U=>∃(Q:List Rg) (k:Nat) (c:List AV) (out:Ex) (t:List Blk),n=Q.length/\Q.length<=k/\Q.length<=1000/\ev 0=.str s/\ev 1=.sl 2 (Q.map yI) .none/\ev 4=.ptr 0 0/\ev 6=.ptr 1 0 /\
  U=⟨.cells [.int .i64 0,.int .i64 0,.str [],.sl 0 [] .nil]::.cells c::t,[]⟩/\Near c out/\R0=Zm s out (zX 16 k Q)) Q0.length ?_ ?_
 . exact⟨Q0,l.length,_,E0,[],rfl,hQl,hQ16,by simp,by simp,by simp,by simp,by simp,near0,hR.symm⟩
 rintro n ev U R hRR ⟨Q,k,c,out,t,rfl,hk,hq,e0,e1,e4,e6,rfl,hnear,hres⟩;obtain⟨c0,c1,c2,c3,rfl⟩:=hnear.four;have hac:=qqQ hnear.atoms;have f0:=fun H=>(hnear.fin H).1
 have f1:=fun H=>(hnear.fin H).2.1
 have f2:=fun H=>(hnear.fin H).2.2.1
 have f3:=fun H=>(hnear.fin H).2.2.2
 have hnr:=hnear.nr;have hleq:=hnear.leq;by_cases hQ:Q=[]
 . subst hQ;rw[show zX 16 k ([]:List Rg)=[] by cases k<;>simp[zX]]at hres;have hres:=hres;rw[hres];simp[-qW,-fin,-kZ,-Zs,hac,f0,f1,f2,f3,e1,e4,e6];simp only[qx,qyJ,and_true]at hnr;exact⟨hnr,hleq⟩
 have hQp:=qyZ.2 hQ;have hm16:=qsA Q.length;have hml:min 16 Q.length<=Q.length:=qAW _ _;have hl1:=qr4 (r:=Q) hml;have hl2:=qr5 (r:=Q) hml;rw[qmD.1]at hl1;rw[qmD.2]at hl2;have hi:=qbo s (Q.take 16) (by simp;omega);generalize min 16 Q.length=M at *;obtain⟨k,rfl⟩:∃k',k=k'+1:=⟨k-1,by omega⟩;rw[zX,if_neg hQ]at hres;have hres:R0=Zm s (orE out (Qq s (Q.take 16))) (zX 16 k (Q.drop 16)):=hres;have hdl:(Q.drop 16).length=Q.length-16:=by simp
 generalize Q.take 16=P at *;generalize Q.drop 16=Q' at *;simp[e1,e4,e6,hQ,hm16];rw[qJ rfl];simp[-qW,qX,e0,e1,e6,hl1];intro _;have ha2:=wb (Qq s P);have hnr2:=nrE (Qq s P);have hl4:=zh (Qq s P);have nn:Near [.int .i64 20,.int .i64 0,.str [],.sl 4 [[c0,c1,c2,c3],qt (Qq s P)] .tight] (orE out (Qq s P)) :=
  qpI (qbj hnear.row (qbj (.inl rfl) qlO)) (by simp only[zk,qAG,qyJ];exact⟨hnear.nr,hnr2⟩)
 generalize qt (Qq s P)=W at *;generalize orE out (Qq s P)=O2 at *;refine qCO hi (by simp) ?_;simp[-qW,hac,ha2,hl4,qX,e1,e6,hl2,zp,zS,qG,zj,qj,qs];exact hRR Q'.length _ _ (by omega) ⟨Q',k,_,O2,t,rfl,by omega,by omega,by simp[e0],by simp,by simp[e4],by simp[e6],rfl,nn,hres⟩
def qbJ{α}(p):∀(l:List α) (i:Nat),(zu p l i = -1/\l.find? p=none)\/∃k w,zu p l i=((i+k:Nat):Int)/\l[k]?=some w/\l.find? p=some w
 |[],i=>.inl ⟨rfl,rfl⟩
 | a::r,i=>by
  by_cases h:p a=true
  . exact .inr ⟨0,a,by simp[zu,h],by simp,by simp[h]⟩
  have ih:=qbJ p r (i+1);have e:zu p (a::r) i=zu p r ((i+1:Nat):Int):=by simp[zu,h]
  rw[e];rcases ih with⟨h1,h2⟩|⟨k,w,h1,h2,h3⟩
  . exact .inl ⟨h1,by simp[h,h2]⟩
  exact .inr ⟨k+1,w,by rw[h1];congr 1;omega,by simpa using h2,by simp[h,h3]⟩
def qws(w n):Pure prog GG 201 [.agg (qC w),.rptr [.int .i64 n]] (.bool (inW n w)):=by
 refine qCL qe func201 rfl (by kernel_rfl) ?_;unfold inW;by_cases h:w.lo<=n<;>simp[-getElem?_pos,h]
def qtC(H s n)(hs:s.length<2^30):qL (Dof prog) ⟨H,ZA [] s⟩ 35 (qcK 1 qq 0 s) (.sl 1 [[.int .i64 n]] .tight)=some (qcK 1 qq 0 (s++[n]),⟨H,ZA [] (s++[n])⟩) :=
 Km (D:=Dof prog) (sz:=1) (T:=[]) (H:=H) (m:=[n]) (en:=qq) D35 rfl D3 rfl (by decide) rfl (by decide) (by simp only[qzd];omega) 1 (.inl rfl)
def qlm:List (Nat×Sch×List Nat):=[(10,.step 0 [5,4,1] (.step 1 [5,4] (.step 2 [5,4,3] (.step 3 [5,4] (.step 4 [5] (.step 5 [] (.done)))))),[])]
def qfr(p:Problem)(d:Dist)(v:Var)(i:Nat)(hi:d.var=i)(hv:p.vars[i]?=some v)(hvl:p.vars.length<=1000)(hw0:0<=v.width)(hw8:v.width<=8)(hf:Fits d.weights):
 Pure prog GG 140 [.agg (qA p),.agg (zF d)] (.agg (qt (JH p.vars d))):=by
 refine qCK ⟨false,qlm,[],[]⟩ false qe func140 rfl (by kernel_rfl) ?_;have hs:=vy (w:=v.width) hw0 (by omega);have hsz:=W0 hw8;have hok:=qcu v d.weights;have hrk:=qcC (N:=(z7 v:Nat)) hok.1 (fun x hx=>by have:=hok.2 x hx;omega) (by omega);have hsl:(qca v d.weights).length<=1000:=by
  have:(qca v d.weights).length<=z7 v:=by unfold qca;exact qzs (qBM _ _) (by simp)
  omega
 have hrg:=qhG (qca v d.weights) hsl (fun n hn=>by have:=hok.2 n hn;omega);have hun:=qkE v.name (qcD (qca v d.weights)) (by omega);have hsn:qca v d.weights=(qa6 v.width).filter (qaZ d.weights):=rfl;rw[show JH p.vars d=kF v.name (qcD (qca v d.weights)) by unfold JH;rw[hi,qzt,hv]];generalize kF v.name (qcD (qca v d.weights))=U_ at *;generalize qcD (qca v d.weights)=RG at *;rw[hsn]at hrg;have hlen:=qhW v.width;have hget:∀{d r:List Int} {x:Int},qa6 v.width=d++x::r->x=d.length:=qhX;have hil:=(qyF.1 hv).1;have hszd:z7 v=2^v.width.toNat:=rfl;rw[<- hszd]at hs hlen;generalize hN:z7 v=N at *;generalize qa6 v.width=nums at *;have hE:=qd U_;simp only[hE]at hun⊢;simp[-getElem?_pos,hi,hv,show ¬v.width<0 by omega,IntKind.bits,hs];refine qC2 nums (fun dd ev U=>ev 3=.ptr 1 0/\ev 4=.ptr 2 0/\ev 5=.ptr 3 0/\ev 6=qcK 1 qq 0 (dd.filter (qaZ d.weights))/\ev 17=.int .i64 N/\ev 18=.int .i64 dd.length/\∃H,U=⟨H,ZA [] (dd.filter (qaZ d.weights))⟩ /\
  H[1]?=some (.cells [.int .i64 i,.sl 4 (d.weights.map qC) .none])/\H[2]?=some (.cells [.int .i64 0,.int .i64 0,.str [],.sl 0 [] .nil])/\H[3]?=some (.cells (qD v))/\qx [AV.int .i64 0]=true) ?_ ?_ ?_
 . exact⟨by simp,by simp,by simp,by simp,by simp,by simp,_,by simp;rfl,by simp⟩
 . rintro dd n rest ev U R hR hd hx hlt ⟨e3,e4,e5,e6,e17,e18,H,rfl,H1,H2,H3,_⟩;have hnd:=hget hd;subst hnd;have hw:=wr (n:=(dd.length:Int)+1) (by omega) (by omega);have hfs:=qc5 (qaZ d.weights) dd (dd.length:Int);have hfl:(dd.filter (qaZ d.weights)).length<2^30:=qzw (qBM _ _) (by omega);have hgo:∀(ev':Env) H' (L:List Int),L=(dd++[(dd.length:Int)]).filter (qaZ d.weights)->ev' 3=.ptr 1 0->ev' 4=.ptr 2 0->ev' 5=.ptr 3 0->ev' 6=qcK 1 qq 0 L->ev' 17=.int .i64 N->ev' 18=.int .i64 (dd.length+1:Nat)->(∃u,H'=H++u)->R ev' ⟨H',ZA [] L⟩:=by
    rintro ev' H' L rfl a3 a4 a5 a6 a17 a18 ⟨u,rfl⟩;exact hR _ _ ⟨a3,a4,a5,a6,a17,by simpa using a18,_,rfl,qa H1 u,qa H2 u,qa H3 u,rfl⟩
   simp[-getElem?_pos,e3,e17,e18,show dd.length<N by omega,qa H1,qa H3];refine qCP (vJ GG d.weights (inW dd.length) 201 [] [.rptr [.int .i64 dd.length]] hf rfl (by simp) fun w _=>qws w dd.length) rfl ?_ ?_
   . simp[frz]
   have hff:=qbJ (inW dd.length) d.weights 0;simp only[qz9]at hff;rcases hff with⟨k1,k2⟩|⟨k,w,k1,k2,k3⟩
   . have hp:qaZ d.weights dd.length=false:=(by unfold qaZ;rw[k2]);have k1:zu (inW dd.length) d.weights 0 = -1:=k1;rw[k1];rw[hp]at hfs;simp only[qy4,if_false]at hfs;simp[-getElem?_pos,e18,hw];exact hgo _ _ _ hfs.symm (by simp[e3]) (by simp[e4]) (by simp[e5]) (by simp[e6]) (by simp[e17]) (by simp) ⟨_,rfl⟩
   have k1:zu (inW dd.length) d.weights 0=(k:Nat):=k1;have hkl:=(qyF.1 k2).1;rw[k1];by_cases hp0:0<w.weight
   . have hp:qaZ d.weights dd.length=true:=(by unfold qaZ;rw[k3];simpa using hp0);rw[if_pos hp]at hfs;simp[-getElem?_pos,e3,e6,e18,hw,qa H1,k2,hp0,qtC _ _ _ hfl];exact hgo _ _ _ hfs.symm (by simp[e3]) (by simp[e4]) (by simp[e5]) (by simp) (by simp[e17]) (by simp) ⟨_,rfl⟩
   have hp:qaZ d.weights dd.length=false:=(by unfold qaZ;rw[k3];simpa using hp0);rw[hp]at hfs;simp only[qy4,if_false]at hfs;simp[-getElem?_pos,e3,e18,hw,qa H1,k2,hp0];exact hgo _ _ _ hfs.symm (by simp[e3]) (by simp[e4]) (by simp[e5]) (by simp[e6]) (by simp[e17]) (by simp) ⟨_,rfl⟩
 rintro ev U ⟨e3,e4,e5,e6,e17,e18,H,rfl,H1,H2,H3,_⟩;rw[hlen]at e18;have H2l:=(qyF.1 H2).1;simp[-getElem?_pos,e17,e18];rw[qJ rfl];simp[-getElem?_pos,qX,e5,e6,H3];refine qc.pure hrg (by simp only[qyR,qzj,Wc,qx,qAG];exact qfR (fun x=>by simp)) (by simp only[qyR,qzj,Wc,zq,and_true];exact qem) ?_;simp[-getElem?_pos,qX,H3];refine qCO hun (by simp) ?_;simp[-getElem?_pos,qX,e4,H2,H2l]
def qki(v:Var):Nat:=if v.mode=0 then 0 else v.width.toNat
def qdH{l}(hw:∀v∈l,0<=v.width/\v.width<=8)(hl:l.length<=1000):∀k,k<=l.length->ku l (Jw l k)=(((l.take k).map qki).sum:Nat)/\((l.take k).map qki).sum<=8*k
 |0,_=>⟨by simp[Jw,ku],by simp⟩
 | k+1,hk=>by
  obtain⟨i1,i2⟩:=qdH hw hl k (by omega);obtain⟨v,hv⟩:∃v,l[k]?=some v:=⟨_,qyH (by omega)⟩;have hwv:=hw v (qyG hv);have ht:l.take (k+1)=l.take k++[v]:=by rw[qzb,hv];rfl
  have hr:yo l (k:Int)=(v.mode != 0):=by simp[yo,hv]
  rw[Yn,hr,ht,qzE,List.sum_append];by_cases hm:v.mode=0
  . have hb:qki v=0:=(by simp[qki,hm]);simp only[hm,bne_self_eq_false,qy4,if_false,qyR,qzj,qA4,qCB,hb];exact⟨by simpa using i1,by omega⟩
  have hb:qki v=v.width.toNat:=by simp[qki,hm]
  have hm':(v.mode != 0)=true:=by simpa using hm
  rw[if_pos hm'];have hs:ku l (Jw l k++[(k:Int)])=IntKind.i64.wrap (ku l (Jw l k)+zE l k):=by
   unfold ku;rw[qz5];simp
  rw[hs,i1];have hwa:zE l k=v.width:=by simp[zE,hv]
  rw[hwa];simp only[qyR,qzj,qA4,qCB,hb,qz8];rw[wr (by omega) (by omega)];exact⟨by omega,by omega⟩
def V0{p}(hv:qk p=0)(hl:p.vars.length<=1000):ku p.vars (qB p)=((p.vars.map qki).sum:Nat)/\(jF p.vars).length=2^(p.vars.map qki).sum:=by
 have hw:∀v∈p.vars,0<=v.width/\v.width<=8:=fun v hm=>by have:=zc (ji hv v hm);omega
 have h1:=qdH hw hl p.vars.length (qyQ _);rw[qAJ]at h1;rw[show qB p=Jw p.vars p.vars.length by unfold qB;rw[if_neg (by simpa using hv)]];exact⟨h1.1,QK p.vars⟩
noncomputable def Js(p:Problem)(l:List Ex):Bool:=decide (qk p=0)&&(l.all (vG p.vars)&&jT p.vars l)
def Qv(p l)(h:VQ p)(hv20:p.vars.length<=20)(hb:ku p.vars (qB p)<=18)(hfl:Fits l)(hx:∀e∈l,Wen e/\hgt e<=1000/\(pre e).length<=100000):
 Pure prog GG 94 [.agg (qA p),.sl 4 (l.map qt) .none] (.bool (Js p l)):=by
 refine qCL qe func94 rfl (by kernel_rfl) ?_;have h0:0<=ku p.vars (qB p):=by
  by_cases hv:qk p=0
  . rw[(V0 hv (by omega)).1];omega
  have:qB p=[]:=by unfold qB;rw[if_pos (by simpa using hv)]
  rw[this];simp[ku]
 have ha:=qjO p h hv20 h0 (by omega);have hp:2^(ku p.vars (qB p)).toNat<=2^18:=qzc (by omega) (by omega);have hf:=qmf p l (2^(ku p.vars (qB p)).toNat) h hfl hx (by omega);have hr:(Jk p l (2^(ku p.vars (qB p)).toNat)).2≠18/\decide ((Jk p l (2^(ku p.vars (qB p)).toNat)).2=0)=Js p l:=by
  unfold Jk;by_cases hg:qeV p l (2^(ku p.vars (qB p)).toNat:Nat)=true
  . rw[if_pos hg];simp only[qeV,qyJ,decide_eq_true_eq]at hg;obtain⟨hv,_,_,hk⟩:=hg;have hab:=V0 hv (by omega);have hs:=ql8 (vs:=p.vars) (l:=l) (k:=2^(ku p.vars (qB p)).toNat) (by rw[hab.2,hab.1];simp);have hsb:Js p l=jT p.vars l:=(by simp[Js,hv,hk]);rw[hsb,<- hs.1];generalize qce p.vars l _ (zG p.vars)=s at hs;obtain⟨s1,s2⟩:=s
    cases s1 with
    |some a=>simp
    | none=>
     have:=hs.2 rfl;simp only at this;subst this;simp
  rw[if_neg hg];have hsb:Js p l=false:=by
   apply qzT.2;intro hh;simp only[Js,qyJ,decide_eq_true_eq]at hh;apply hg;simp only[qeV,qyJ,decide_eq_true_eq];have hp0:0<2^(ku p.vars (qB p)).toNat:=qAi _;generalize 2^(ku p.vars (qB p)).toNat=N at *;exact⟨hh.1,by omega,by omega,hh.2.1⟩
  rw[hsb];simp
 generalize Jk p l (2^(ku p.vars (qB p)).toNat)=fa at *;generalize 2^(ku p.vars (qB p)).toNat=N at *;obtain⟨hr1,hr2⟩:=hr;rw[<- hr2];have hm:vd (.int .i64 (N:Int)) (.int .i64 262144)=some (.int .i64 N):=by
  simp only[vd];rw[if_neg (by omega)]
 simp only[qA]at ha hf;simp;refine qCO ha (by simp) ?_;simp[hm];refine qCO hf (by simp) ?_;simp[hr1];rw[qzz];simp
def qg0{p}(h:qk p=0):∀d∈p.dists,∃(i:Nat) (v:Var),d.var=i/\p.vars[i]?=some v:=by
 have hd:yi p.vars p.dists=0:=by
  unfold qk at h;split at h
  . exact absurd h (by assumption)
  split at h
  . rename_i h1;exact absurd h h1
  split at h
  . rename_i h1;exact absurd h h1
  rename_i h1;exact qzB.1 h1
 intro d hm;obtain⟨k,hk⟩:=qzq hm;have hkl:=(qyF.1 hk).1;unfold yi at hd;have:=zz.1 hd k (by simp;omega);unfold jE at this;rw[hk]at this;simp only at this;split at this
 . cases this
 rename_i hr;have hr:yo p.vars d.var=true:=by simpa using hr
 simp only[yo,qyJ,decide_eq_true_eq]at hr;obtain⟨j,hj⟩:=qzg hr.1;rw[hj]at hr;simp only[qzt]at hr
 cases hv:p.vars[j]? with
 |none=>rw[hv]at hr;simp at hr
 |some v=>exact⟨j,v,hj,hv⟩
noncomputable def yg(p:Problem):List Ex:=if qk p=0 then w9 p else []
def Z6(p)(h:VQ p)(hd:p.dists.length<=10000):Pure prog GG 95 [.agg (qA p)] (.sl 4 ((yg p).map qt) .none):=by
 refine qCL qe func95 rfl (by kernel_rfl) ?_;have hval:=yw p h;simp only[qA]at hval;by_cases hv:qk p=0
 case neg=>
  have:yg p=[]:=if_neg hv;rw[this];simp;refine qCO hval (by simp) ?_;simp[hv,Leq]
 have hs:yg p=p.dists.map (JH p.vars):=if_pos hv;rw[hs];simp;refine qCO hval (by simp) ?_;simp[hv,qz,show(p.dists.length:Int)<=549755813888 by omega];have hvd:=qg0 hv;refine qC2 p.dists (fun d ev U=>ev 1=.ptr 0 0/\ev 3=.sl 4 ((d.map (JH p.vars)).map qt) (.chain 0 d.length)/\ev 14=.sl 2 (p.dists.map zF) .none/\ev 15=.int .i64 p.dists.length/\ev 16=.int .i64 d.length/\∃t,U=⟨.cells (qA p)::t,[some d.length]⟩) ?_ ?_ ?_
 . exact⟨by simp,by simp,by simp,by simp,by simp,[],by simp⟩
 . rintro d x rest ev U R hR hd2 hx hlt ⟨e1,e3,e14,e15,e16,t,rfl⟩;have hdw:=wr (n:=(d.length:Int)+1) (by omega) (by omega);have hm:=qyG hx;obtain⟨i,v,hi,hvi⟩:=hvd x hm;have hvw:=zc (ji hv v (qyG hvi));have hsup:=qfr p x v i hi hvi h.vars (by omega) (by omega) (h.weights x hm);have hsn:(d++[x]).map (JH p.vars)=d.map (JH p.vars)++[JH p.vars x]:=(by simp);have hml:(d.map (JH p.vars)).length=d.length:=(by simp);have ha:=wb (JH p.vars x);have hl4:=zh (JH p.vars x);generalize JH p.vars x=X at *;generalize d.map (JH p.vars)=D at *;have happ:∀H,qL (Dof prog) ⟨H,[some d.length]⟩ 23 (.sl 4 (D.map qt) (.chain 0 d.length)) (.sl 4 [qt X] .tight)=some (.sl 4 ((D++[X]).map qt) (.chain 0 (d.length+1)),⟨H,[some (d.length+1)]⟩):=fun H=>by
    simp[qL,zK,show D.length+1<=549755813888 by omega]
   simp only[qA]at hsup;simp[-getElem?_pos,-qW,e1,e3,e14,e15,e16,hlt,hx];refine qCO hsup (by simp) ?_;simp[-qW,ha,hl4,e16,hdw,qj,qs,happ];refine hR _ _ ⟨by simp[e1],by rw[hsn];simp,by simp[e14],by simp[e15],by simp,t++[.cells (zF x)],?_⟩;simp
 rintro ev U ⟨e1,e3,e14,e15,e16,t,rfl⟩;have hn:=qvX (p.dists.map (JH p.vars));rw[qz0]at hn;simp[e3,e15,e16,hn]
