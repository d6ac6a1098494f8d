import Derived.Test.YtafbccendejkeaaGreatDoorPt24
import Derived.Test.YtafbccendejkeaaGreatDoorPt25
set_option maxHeartbeats 16000000
set_option maxRecDepth 100000
set_option linter.all false
set_option linter.defProp false
namespace Go.Proofs.YtafbccendejkeaaGreatDoor
open Go Go.Abs Tryz
def qus{op a}(h22:op≠22)(h23:op≠23):opW op [a]=unW op a:=by simp[opW,h22,h23]
def qur{op a b}(h22:op≠22)(h23:op≠23):opW op [a,b]=jU op a b:=by simp[opW,h22,h23]
def qfU{l}:opW 22 l=if l.getD 0 0≠0 then l.getD 1 0 else l.getD 2 0:=by simp[opW]
def qps{l}:opW 23 l=b2i (je (l.getD 0 0) l.tail):=by simp[opW]
def J0{a x y r}:je a (x::y::r)=((decide (x<=a)&&decide (a<=y))||je a r):=by simp[je]
def ZT{a r}(h:r.length<2):je a r=false:=by
 match r,h with
 |[],_=>rfl
 |[x],_=>rfl
 |x::y::r,h=>simp at h;omega
def qe4{α:Type}{p:α->Bool}{l:List α}{a:α}(h:a∈l)(hp:p a=false):l.all p=false:=by
 rw[qBD];intro e;rw[qAv.1 e a h]at hp;cases hp
def quB{l:List Int}(h:l.length=3):∃a b c,l=[a,b,c]:=by
 match l,h with
 |[a,b,c],_=>exact⟨a,b,c,rfl⟩
def qrN{l:List Int}(h:l.length=1):∃a,l=[a]:=by
 match l,h with
 |[a],_=>exact⟨a,rfl⟩
def quC{l:List Int}(h:l.length=2):∃a b,l=[a,b]:=by
 match l,h with
 |[a,b],_=>exact⟨a,b,rfl⟩
def qhG(op l)(hr:∀v∈l,0<=v/\v<=65535)(h22:op=22->l.length=3)(h23:op=23->3<=l.length/\l.length<=33)(ho:op≠22->op≠23->l.length=1\/l.length=2) :
 Pure prog GG 240 [.int .i64 op,.sl 1 (l.map qh) .none] (.int .i64 (opW op l)):=by
 refine qE9 qe func240 rfl (by kernel_rfl) ?_;by_cases c22:op=22
 . obtain⟨a,b,c,rfl⟩:=quB (h22 c22);subst c22;by_cases ha:a=0
   . simp[ha,qfU]
   simp[ha,qfU]
 by_cases c23:op=23
 . obtain⟨h3,h33⟩:=h23 c23;subst c23;obtain⟨a,ga⟩:∃a,l[0]?=some a:=⟨_,qAo (by omega)⟩;obtain⟨g0,ga'⟩:=qAm.1 ga;have hw:opW 23 l=b2i (je a (l.drop 1)):=by
    rw[qps,qAx,ga];simp
   rw[hw];generalize hT:je a (l.drop 1)=T;simp;refine qE6 (fun n env U=>∃i:Nat,1<=i/\i<=l.length+1/\n=l.length+1-i/\env 1=.sl 1 (l.map qh) .none/\env 5=.int .i64 i/\U=⟨[],[]⟩/\je a (l.drop i)=T) l.length ⟨1,by simp,by omega,by omega,by simp,by simp,rfl,hT⟩ ?_;rintro n env U ⟨i,hi1,hi2,rfl,h1,h5,rfl,hin⟩;have w1:IntKind.i64.wrap ((i:Int)+1)=(i:Int)+1:=wr (by omega) (by omega);have w2:IntKind.i64.wrap ((i:Int)+2)=((i+2:Nat):Int):=(by rw[wr (by omega) (by omega)];omega);have n1:((i:Int)+1).toNat=i+1:=(by omega);have p1:(0:Int)<=(i:Int)+1:=(by omega);by_cases hc:i+1<l.length
   . obtain⟨x,gx⟩:∃x,l[i]?=some x:=⟨_,qAo (by omega)⟩;obtain⟨y,gy⟩:∃y,l[i+1]?=some y:=⟨_,qAo (by omega)⟩;obtain⟨q1,gx'⟩:=qAm.1 gx;obtain⟨q2,gy'⟩:=qAm.1 gy;rw[zb gx,zb gy,J0]at hin;have hc':(i:Int)+1<l.length:=(by omega);by_cases c1:x<=a
     . by_cases c2:a<=y
       . have hT1:T=true:=(by rw[<- hin];simp[c1,c2]);rw[hT1];simp[h1,h5,w1,n1,p1,hc',hc,q1,g0,ga',gx',gy',c1,c2,b2i]
       . have hin:je a (l.drop (i+2))=T:=(by rw[<- hin];simp[c1,c2]);simp[h1,h5,w1,w2,n1,p1,hc',hc,q1,g0,ga',gx',gy',c1,c2];exact⟨_,by omega,i+2,by omega,by omega,rfl,by omega,hin⟩
     have hin:je a (l.drop (i+2))=T:=(by rw[<- hin];simp[c1]);simp[h1,h5,w1,w2,hc',q1,g0,ga',gx',c1];exact⟨_,by omega,i+2,by omega,by omega,rfl,by omega,hin⟩
   have hc':¬(i:Int)+1<l.length:=(by omega);rw[show T=false by rw[<- hin];exact ZT (by simp;omega)];simp[h1,h5,w1,hc',b2i]
 rcases ho c22 c23 with h|h
 . obtain⟨a,rfl⟩:=qrN h;rw[qus c22 c23];simp[c22,c23];refine qET (qjc op a) rfl ?_;simp
 obtain⟨a,b,rfl⟩:=quC h;obtain⟨a0,a1⟩:=hr a (by simp);obtain⟨b0,b1⟩:=hr b (by simp);obtain⟨x,rfl⟩:=qAH a0;obtain⟨y,rfl⟩:=qAH b0;rw[qur c22 c23];simp[c22,c23];refine qET (qkY op x y (by omega) (by omega)) rfl ?_;simp
def qau(s:List Int):AV:=match s with
 |[]=>.sl 0 [] .nil
 |a::r=>.sl 1 ((a::r).map qh) (.chain 0 (r.length+1))
def qci(s:List Int):List (Option Nat):=match s with
 |[]=>[]
 |_::r=>[some (r.length+1)]
def qfP(s):qO (plain (qau s))=true:=by cases s<;>simp[qau]
def qfQ(s):Leq (plain (qau s)) (.sl 1 (s.map qh) .none):=by
 cases s with
 |nil=>simp[qau,Leq]
 |cons a r=>exact Leq.sl rfl
section
variable {P:Program}{G:Nat->AV}{U:St}{f:FuncId}{Q:AV->St->Prop}{r:AV}
def qa.outN2{d a s}(ha:qO a=true)(h:Abs.Pure P G f [a,.sl 1 (s.map qh) .none] r)(hq:Q r U):qa P G d f [a,qau s] U Q:=by
 refine qE8 h ?_ ?_ hq
 . simp only[qAz,qAZ,qz,qfP,yj ha,ha,qEt]
 simp only[qAz,qAZ,zn,and_true,yj ha];exact⟨qEQ _,qfQ s⟩
def qa.outN3{d a b s}(ha:qO a=true)(hb:qO b=true)(h:Abs.Pure P G f [a,b,.sl 1 (s.map qh) .none] r)(hq:Q r U):qa P G d f [a,b,qau s] U Q:=by
 refine qE8 h ?_ ?_ hq
 . simp only[qAz,qAZ,qz,qfP,yj ha,yj hb,ha,hb,qEt]
 simp only[qAz,qAZ,zn,and_true,yj ha,yj hb];exact⟨qEQ _,qEQ _,qfQ s⟩
end
def qbe{e:Ex}(h:yV e){n:Nat}(hop:e.op≠23)(ha:zB e.op=n):e.args.length=n:=by
 obtain⟨_,_,_,_,ho,_⟩:=ji h.self;have:=vk ho hop;omega
def qlF{e}(h:yV e):e.args.length<=33:=by
 obtain⟨_,_,_,_,ho,_⟩:=ji h.self;by_cases h23:e.op=23
 . have:=Ze ho h23;omega
 have:=vk ho h23;unfold zB at this
 repeat' split at this
 all_goals omega
def qjO{e}(h:yV e)(h1:e.op≠1)(h2:e.op≠2)(h3:e.op≠3)(h24:e.op≠24)(h22:e.op≠22)(h23:e.op≠23):e.args.length=1\/e.args.length=2:=by
 obtain⟨k1,k2,_,_,ho,_⟩:=ji h.self;have:=vk ho h23;unfold zB at this;rw[if_neg (by omega)]at this
 repeat' split at this
 all_goals omega
def qqA(env)(hl:Fits env):∀e,Wen e->yV e->Pure prog GG 165 [.agg [.sl 2 (env.map qG) .none],.agg (qp e)] (.int .i64 (yf env e)):=by
 refine qE7 fun e ih hwe hn=>?_
 refine qE9 qe func165 rfl (by kernel_rfl) ?_;have hfa:=hwe.fits;have hrg:∀v∈e.args.map (yf env),0<=v/\v<=65535:=by
  intro v hv;obtain⟨a,ha,rfl⟩:=qAN.1 hv;exact W0 env a (hn.arg ha)
 obtain⟨k1,k2,k3,k4,k5,k6,k7,k8⟩:=ji hn.self;simp only[qc e];simp;refine qE6 (fun n ev U=>∃i tl,i<=e.args.length/\n=e.args.length-i/\ev 2=.ptr 0 0/\ev 3=.ptr 1 0/\ev 5=qau ((e.args.map (yf env)).take i)/\ev 13=.sl 4 (e.args.map qp) .none/\ev 14=.int .i64 e.args.length/\ev 15=.int .i64 i/\U=⟨.cells [.sl 2 (env.map qG) .none]::.cells (qp e)::tl,qci ((e.args.map (yf env)).take i)⟩) e.args.length ⟨0,[],by simp,by simp,by simp,by simp,by simp[qau],by simp,by simp,by simp,by simp[qc e,qci]⟩ ?_;rintro n ev U ⟨i,tl,hi,rfl,h2,h3,h5,h13,h14,h15,rfl⟩
 cases hv:e.args[i]? with
 | some a=>
  obtain⟨hc,hv'⟩:=qAm.1 hv;have hm:=qAn hv;have ht:(e.args.map (yf env)).take (i+1)=(e.args.map (yf env)).take i++[yf env a]:=by
   rw[qAT,qAR,hv];rfl
  have hlen:((e.args.map (yf env)).take i).length<=e.args.length:=by simp;omega
  generalize hR:(e.args.map (yf env)).take i=R at h5 ht hlen⊢;have ih:=ih a hm (hwe.arg hm) (hn.arg hm);simp[h2,h3,h5,h13,h14,h15,hc,hv',qc a,qA0];rw[<- qc a];refine qET ih (by simp) ?_
  cases R with
  | nil=>
   simp only[qau]at h5;simp[qau,qci,qr,qf,qm,qY,h15];exact⟨_,by omega,i+1,by omega,rfl,by rw[ht];simp[],wr (by omega) (by omega),by rw[ht];simp[]⟩
  | cons b r=>
   have hb:r.length<=549755813886:=(by have:=qlF hn;simp at hlen;omega);simp only[qau]at h5;simp[qau,qci,qr,qf,qm,qY,hb,h15];exact⟨_,by omega,i+1,by omega,rfl,by rw[ht];simp[],wr (by omega) (by omega),by rw[ht];simp[]⟩
 | none=>
  have hc:¬i<e.args.length:=by simp at hv;omega
  rw[qAs (by simp;omega)]at h5⊢;rw[yO];generalize hR:e.args.map (yf env)=R at h5 hrg⊢;have hRl:R.length=e.args.length:=by rw[<- hR];simp
  unfold vl;by_cases c1:e.op=1
  . simp[h2,h3,h5,h13,h14,h15,hc,qc e,c1]
  by_cases c2:e.op=2
  . simp[h2,h3,h5,h13,h14,h15,hc,qc e,c2];refine qET (qeF env e.name hl) (by simp) ?_;simp[QU]
  by_cases c3:e.op=3
  . have hname:=wq (k7 (.inl c3));obtain⟨v,rfl⟩:=qrN (l:=R) (by rw[hRl];exact qbe hn (n:=1) (by omega) (by rw[c3];decide));obtain⟨b,hb,_⟩:=qeZ (env:=env) (a:=e.name) (i:=v);have hat:=qsN env e.name v hl (by omega);rw[hb]at hat;simp only[qau]at h5;simp[h2,h3,h5,h13,h14,h15,hc,qc e,c3];refine qET hat (by simp) ?_;simp
  by_cases c24:e.op=24
  . have hname:=wq (k7 (.inr c24));simp[h2,h3,h5,h13,h14,h15,hc,qc e,c24];refine qET (qtV env e.name hl (by omega)) (by simp) ?_;simp
  simp[h2,h3,h5,h13,h14,h15,hc,qc e,c1,c2,c3,c24];refine qa.outN2 (by simp) (qhG e.op R hrg (fun c=>?_) (fun c=>?_) (fun c22 c23=>?_)) ?_
  . rw[hRl];exact qbe hn (n:=3) (by omega) (by rw[c];decide)
  . rw[hRl];have:=Ze k5 c;omega
  . rw[hRl];exact qjO hn c1 c2 c3 c24 c22 c23
  simp
