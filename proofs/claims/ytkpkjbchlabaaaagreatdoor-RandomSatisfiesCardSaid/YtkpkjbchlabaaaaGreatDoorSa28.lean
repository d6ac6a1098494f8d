/- A part of the proof. -/
import Derived.Test.YtkpkjbchlabaaaaGreatDoorSa26
import Derived.Test.YtkpkjbchlabaaaaGreatDoorSa27
set_option maxHeartbeats 16000000
set_option linter.unusedVariables false
set_option linter.unusedSimpArgs false
set_option maxRecDepth 100000
set_option linter.defProp false
section
namespace Go.Proofs.YtkpkjbchlabaaaaGreatDoor
open Go Go.Abs
section
theorem opW_1 {op a:Int}(h22:op≠22)(h23:op≠23):opW op [a]=unW op a:=by simp[opW,h22,h23]
theorem opW_2 {op a b:Int}(h22:op≠22)(h23:op≠23):opW op [a,b]=yN op a b:=by simp[opW,h22,h23]
theorem qmZ {l:List Int}:opW 22 l=if l.getD 0 0≠0 then l.getD 1 0 else l.getD 2 0:=by simp[opW]
theorem opW_23 {l:List Int}:opW 23 l=b2i (jV (l.getD 0 0) l.tail):=by simp[opW]
theorem qbb {a x y:Int}{r:List Int}:jV a (x::y::r)=((decide (x<=a)&&decide (a<=y))||jV a r):=by simp[jV]
theorem Vm {a:Int}{r:List Int}(h:r.length<2):jV a r=false:=by
 match r,h with
 | [],_=>rfl
 | [x],_=>rfl
 | x::y::r,h=>simp at h;omega
theorem qju {α:Type}{p:α->Bool}{l:List α}{a:α}(h:a∈l)(hp:p a=false):l.all p=false:=by
 rw[qrq];intro e;rw[qqo.1 e a h]at hp;cases hp
theorem list3 {l:List Int}(h:l.length=3):∃ a b c,l=[a,b,c]:=by
 match l,h with
 | [a,b,c],_=>exact⟨a,b,c,rfl⟩
theorem list1 {l:List Int}(h:l.length=1):∃ a,l=[a]:=by
 match l,h with
 | [a],_=>exact⟨a,rfl⟩
theorem list2 {l:List Int}(h:l.length=2):∃ a b,l=[a,b]:=by
 match l,h with
 | [a,b],_=>exact⟨a,b,rfl⟩
theorem qfz (op:Int)(l:List Int)(hr:∀ v∈l,0<=v/\v<=65535)(h22:op=22->l.length=3)(h23:op=23->3<=l.length/\l.length<=33)(ho:op≠22->op≠23->l.length=1\/l.length=2) :
 Pure Tryz.prog GG 146 [.int .i64 op,.sl 1 (l.map qt) .none] (.int .i64 (opW op l)):=by
 refine Pure.vc qe Tryz.func146 rfl (by kernel_rfl) ?_;by_cases c22:op=22
 . obtain⟨a,b,c,rfl⟩:=list3 (h22 c22);subst c22;by_cases ha:a=0
   . simp[ha,qmZ]
   . simp[ha,qmZ]
 by_cases c23:op=23
 . obtain⟨h3,h33⟩:=h23 c23;subst c23;obtain⟨a,ga⟩:∃ a,l[0]?=some a:=⟨_,qqe (by omega)⟩;obtain⟨g0,ga'⟩:=qqc.1 ga;have hw:opW 23 l=b2i (jV a (l.drop 1)):=by
    rw[opW_23,qqm,ga];simp
   rw[hw];generalize hT:jV a (l.drop 1)=T;simp;refine qy.intro (fun n env U=>∃ i:Nat,1<=i/\i<=l.length+1/\n=l.length+1-i/\env 1=.sl 1 (l.map qt) .none/\env 5=.int .i64 i/\U=⟨[],[]⟩/\jV a (l.drop i)=T) l.length ⟨1,by simp,by omega,by omega,by simp,by simp,rfl,hT⟩ ?_;rintro n env U ⟨i,hi1,hi2,rfl,h1,h5,rfl,hin⟩;have w1:IntKind.i64.wrap ((i:Int)+1)=(i:Int)+1:=wr (by omega) (by omega);have w2:IntKind.i64.wrap ((i:Int)+2)=((i+2:Nat):Int):=(by rw[wr (by omega) (by omega)];omega);have n1:((i:Int)+1).toNat=i+1:=(by omega);have p1:(0:Int)<=(i:Int)+1:=(by omega);by_cases hc:i+1<l.length
   . obtain⟨x,gx⟩:∃ x,l[i]?=some x:=⟨_,qqe (by omega)⟩;obtain⟨y,gy⟩:∃ y,l[i+1]?=some y:=⟨_,qqe (by omega)⟩;obtain⟨q1,gx'⟩:=qqc.1 gx;obtain⟨q2,gy'⟩:=qqc.1 gy;rw[zA gx,zA gy,qbb]at hin;have hc':(i:Int)+1<l.length:=(by omega);by_cases c1:x<=a
     . by_cases c2:a<=y
       . have hT1:T=true:=(by rw[<- hin];simp[c1,c2]);rw[hT1];simp[h1,h5,w1,n1,p1,hc',hc,q1,q2,g0,ga',gx',gy',c1,c2,b2i]
       . have hin:jV a (l.drop (i+2))=T:=(by rw[<- hin];simp[c1,c2]);simp[h1,h5,w1,w2,n1,p1,hc',hc,q1,q2,g0,ga',gx',gy',c1,c2];exact⟨_,by omega,i+2,by omega,by omega,rfl,by omega,hin⟩
     . have hin:jV a (l.drop (i+2))=T:=(by rw[<- hin];simp[c1]);simp[h1,h5,w1,w2,n1,p1,hc',hc,q1,q2,g0,ga',gx',gy',c1];exact⟨_,by omega,i+2,by omega,by omega,rfl,by omega,hin⟩
   . have hc':¬ (i:Int)+1<l.length:=(by omega);have hs:T=false:=(by rw[<- hin];exact Vm (by simp;omega));rw[hs];simp[h1,h5,w1,hc',b2i]
 . rcases ho c22 c23 with h|h
   . obtain⟨a,rfl⟩:=list1 h;rw[opW_1 c22 c23];simp[c22,c23];refine qb.call (qg7 op a) rfl ?_;simp
   . obtain⟨a,b,rfl⟩:=list2 h;obtain⟨a0,a1⟩:=hr a (by simp);obtain⟨b0,b1⟩:=hr b (by simp);obtain⟨x,rfl⟩:=qqL a0;obtain⟨y,rfl⟩:=qqL b0;rw[opW_2 c22 c23];simp[c22,c23];refine qb.call (qiI op x y (by omega) (by omega)) rfl ?_;simp
def qd5 (s:List Int):AV:=match s with
 | []=>.sl 0 [] .nil
 | a::r=>.sl 1 ((a::r).map qt) (.chain 0 (r.length+1))
def qfy (s:List Int):List (Option Nat):=match s with
 | []=>[]
 | _::r=>[some (r.length+1)]
theorem qkR (s:List Int):qR (plain (qd5 s))=true:=by cases s<;>simp[qd5]
theorem qkS (s:List Int):Leq (plain (qd5 s)) (.sl 1 (s.map qt) .none):=by
 cases s with
 | nil=>simp[qd5,Leq]
 | cons a r=>exact Leq.sl rfl
section
variable {P:Program}{G:Nat->AV}{U:St}{f:FuncId}{Q:AV->St->Prop}{r:AV}
theorem qb.outN2 {d:Bool}{a:AV}{s:List Int}(ha:qR a=true)(h:Abs.Pure P G f [a,.sl 1 (s.map qt) .none] r)(hq:Q r U):qb P G d f [a,qd5 s] U Q:=by
 refine qb.pure h ?_ ?_ hq
 . simp only[qqp,qqU,qv,qkR,Qu ha,ha,Bool.and_self]
 . simp only[qqp,qqU,zu,and_true,Qu ha];exact⟨Leq.refl _,qkS s⟩
end
theorem qjm {e:Ex}(h:yL e){n:Nat}(hop:e.op≠23)(ha:zo e.op=n):e.args.length=n:=by
 obtain⟨_,_,_,_,ho,_⟩:=je h.self;have:=wD ho hop;omega
theorem qpU {e:Ex}(h:yL e):e.args.length<=33:=by
 obtain⟨_,_,_,_,ho,_⟩:=je h.self;by_cases h23:e.op=23
 . have:=Yx ho h23;omega
 . have:=wD ho h23;unfold zo at this
   repeat' split at this
   all_goals omega
theorem qoF {e:Ex}(h:yL e)(h1:e.op≠1)(h2:e.op≠2)(h3:e.op≠3)(h24:e.op≠24)(h22:e.op≠22)(h23:e.op≠23):e.args.length=1\/e.args.length=2:=by
 obtain⟨k1,k2,_,_,ho,_⟩:=je h.self;have:=wD ho h23;unfold zo at this;rw[if_neg (by omega)]at this
 repeat' split at this
 all_goals omega
theorem qnZ (env:List Signal)(hl:Fits env):∀ e,Wen e->yL e->Pure Tryz.prog GG 84 [.agg [.sl 2 (env.map qY) .none],.agg (qr e)] (.int .i64 (vd env e)):=by
 refine Ex.ind fun e ih hwe hn=>?_
 refine Pure.vc qe Tryz.func84 rfl (by kernel_rfl) ?_;have hfa:=hwe.fits;have hrg:∀ v∈e.args.map (vd env),0<=v/\v<=65535:=by
  intro v hv;obtain⟨a,ha,rfl⟩:=qqG.1 hv;exact qfd env a (hn.arg ha)
 obtain⟨k1,k2,k3,k4,k5,k6,k7,k8⟩:=je hn.self;simp only[qd e];simp;refine qy.intro (fun n ev U=>∃ i tl,i<=e.args.length/\n=e.args.length-i/\ev 2=.ptr 0 0/\ev 3=.ptr 1 0/\ev 5=qd5 ((e.args.map (vd env)).take i)/\ev 13=.sl 4 (e.args.map qr) .none/\ev 14=.int .i64 e.args.length/\ev 15=.int .i64 i/\U=⟨.cells [.sl 2 (env.map qY) .none]::.cells (qr e)::tl,qfy ((e.args.map (vd env)).take i)⟩) e.args.length ⟨0,[],by simp,by simp,by simp,by simp,by simp[qd5],by simp,by simp,by simp,by simp[qd e,qfy]⟩ ?_;rintro n ev U ⟨i,tl,hi,rfl,h2,h3,h5,h13,h14,h15,rfl⟩
 cases hv:e.args[i]? with
 | some a=>
  obtain⟨hc,hv'⟩:=qqc.1 hv;have hm:=qqd hv;have ht:(e.args.map (vd env)).take (i+1)=(e.args.map (vd env)).take i++[vd env a]:=by
   rw[qqH,qqB,hv];rfl
  have hlen:((e.args.map (vd env)).take i).length<=e.args.length:=by simp;omega
  generalize hR:(e.args.map (vd env)).take i=R at h5 ht hlen ⊢;have ih:=ih a hm (hwe.arg hm) (hn.arg hm);simp[h2,h3,h5,h13,h14,h15,hc,hv',qd a,qqx];rw[<- qd a];refine qb.call ih (by simp) ?_
  cases R with
  | nil=>
   simp only[qd5]at h5;simp[qd5,qfy,qO,qk,qu,zL,h2,h3,h13,h14,h15];exact⟨_,by omega,i+1,by omega,rfl,by rw[ht];simp[qd5],wr (by omega) (by omega),by rw[ht];simp[qfy]⟩
  | cons b r=>
   have hb:r.length<=549755813886:=(by have:=qpU hn;simp at hlen;omega);simp only[qd5]at h5;simp[qd5,qfy,qO,qk,qu,zL,hb,h2,h3,h13,h14,h15];exact⟨_,by omega,i+1,by omega,rfl,by rw[ht];simp[qd5],wr (by omega) (by omega),by rw[ht];simp[qfy]⟩
 | none=>
  have hc:¬ i<e.args.length:=by simp at hv;omega
  rw[qqk (by simp;omega)]at h5 ⊢;rw[vm];generalize hR:e.args.map (vd env)=R at h5 hrg ⊢;have hRl:R.length=e.args.length:=by rw[<- hR];simp
  unfold Vb;by_cases c1:e.op=1
  . simp[h2,h3,h5,h13,h14,h15,hc,qd e,c1]
  by_cases c2:e.op=2
  . simp[h2,h3,h5,h13,h14,h15,hc,qd e,c1,c2];refine qb.call (qcT env e.name hl) (by simp) ?_;simp[qbv]
  by_cases c3:e.op=3
  . have hname:=wF (k7 (.inl c3));obtain⟨v,rfl⟩:=list1 (l:=R) (by rw[hRl];exact qjm hn (n:=1) (by omega) (by rw[c3];decide));obtain⟨b,hb,_⟩:=qdb (env:=env) (a:=e.name) (i:=v);have hat:=qpT env e.name v hl (by omega);rw[hb]at hat;simp only[qd5]at h5;simp[h2,h3,h5,h13,h14,h15,hc,qd e,c1,c2,c3];refine qb.call hat (by simp) ?_;simp
  by_cases c24:e.op=24
  . have hname:=wF (k7 (.inr c24));simp[h2,h3,h5,h13,h14,h15,hc,qd e,c1,c2,c3,c24];refine qb.call (sum166 env e.name hl (by omega)) (by simp) ?_;simp
  . simp[h2,h3,h5,h13,h14,h15,hc,qd e,c1,c2,c3,c24];refine qb.outN2 (by simp) (qfz e.op R hrg (fun c=>?_) (fun c=>?_) (fun c22 c23=>?_)) ?_
    . rw[hRl];exact qjm hn (n:=3) (by omega) (by rw[c];decide)
    . rw[hRl];have:=Yx k5 c;omega
    . rw[hRl];exact qoF hn c1 c2 c3 c24 c22 c23
    . simp
end
end Go.Proofs.YtkpkjbchlabaaaaGreatDoor
end
