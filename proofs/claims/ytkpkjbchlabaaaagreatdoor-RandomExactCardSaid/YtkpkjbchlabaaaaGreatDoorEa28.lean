/- A part of the proof. -/
import Derived.Test.YtkpkjbchlabaaaaGreatDoorEa26
import Derived.Test.YtkpkjbchlabaaaaGreatDoorEa27
set_option maxHeartbeats 16000000
set_option linter.unusedVariables false
set_option linter.unusedSimpArgs false
set_option maxRecDepth 100000
set_option linter.defProp false
section
namespace Go.Proofs.YtkpkjbchlabaaaaGreatDoor
open Go Go.Abs
section
theorem opW_1 {op a:Int}(h22:op≠22)(h23:op≠23):opW op [a]=unW op a:=by simp[opW,h22,h23]
theorem opW_2 {op a b:Int}(h22:op≠22)(h23:op≠23):opW op [a,b]=yL op a b:=by simp[opW,h22,h23]
theorem qm8 {l:List Int}:opW 22 l=if l.getD 0 0≠0 then l.getD 1 0 else l.getD 2 0:=by simp[opW]
theorem opW_23 {l:List Int}:opW 23 l=b2i (jM (l.getD 0 0) l.tail):=by simp[opW]
theorem qbl {a x y:Int}{r:List Int}:jM a (x::y::r)=((decide (x<=a)&&decide (a<=y))||jM a r):=by simp[jM]
theorem Vv {a:Int}{r:List Int}(h:r.length<2):jM a r=false:=by
 match r,h with
 | [],_=>rfl
 | [x],_=>rfl
 | x::y::r,h=>simp at h;omega
theorem qjF {α:Type}{p:α->Bool}{l:List α}{a:α}(h:a∈l)(hp:p a=false):l.all p=false:=by
 rw[qrC];intro e;rw[qqA.1 e a h]at hp;cases hp
theorem list3 {l:List Int}(h:l.length=3):∃ a b c,l=[a,b,c]:=by
 match l,h with
 | [a,b,c],_=>exact⟨a,b,c,rfl⟩
theorem list1 {l:List Int}(h:l.length=1):∃ a,l=[a]:=by
 match l,h with
 | [a],_=>exact⟨a,rfl⟩
theorem list2 {l:List Int}(h:l.length=2):∃ a b,l=[a,b]:=by
 match l,h with
 | [a,b],_=>exact⟨a,b,rfl⟩
theorem qfI (op:Int)(l:List Int)(hr:∀ v∈l,0<=v/\v<=65535)(h22:op=22->l.length=3)(h23:op=23->3<=l.length/\l.length<=33)(ho:op≠22->op≠23->l.length=1\/l.length=2) :
 Pure Tryz.prog GG 146 [.int .i64 op,.sl 1 (l.map qo) .none] (.int .i64 (opW op l)):=by
 refine Pure.vc qe Tryz.func146 rfl (by kernel_rfl) ?_;by_cases c22:op=22
 . obtain⟨a,b,c,rfl⟩:=list3 (h22 c22);subst c22;by_cases ha:a=0
   . simp[ha,qm8]
   . simp[ha,qm8]
 by_cases c23:op=23
 . obtain⟨h3,h33⟩:=h23 c23;subst c23;obtain⟨a,ga⟩:∃ a,l[0]?=some a:=⟨_,qqr (by omega)⟩;obtain⟨g0,ga'⟩:=qqp.1 ga;have hw:opW 23 l=b2i (jM a (l.drop 1)):=by
    rw[opW_23,qqz,ga];simp
   rw[hw];generalize hT:jM a (l.drop 1)=T;simp;refine qx.intro (fun n env U=>∃ i:Nat,1<=i/\i<=l.length+1/\n=l.length+1-i/\env 1=.sl 1 (l.map qo) .none/\env 5=.int .i64 i/\U=⟨[],[]⟩/\jM a (l.drop i)=T) l.length ⟨1,by simp,by omega,by omega,by simp,by simp,rfl,hT⟩ ?_;rintro n env U ⟨i,hi1,hi2,rfl,h1,h5,rfl,hin⟩;have w1:IntKind.i64.wrap ((i:Int)+1)=(i:Int)+1:=wr (by omega) (by omega);have w2:IntKind.i64.wrap ((i:Int)+2)=((i+2:Nat):Int):=(by rw[wr (by omega) (by omega)];omega);have n1:((i:Int)+1).toNat=i+1:=(by omega);have p1:(0:Int)<=(i:Int)+1:=(by omega);by_cases hc:i+1<l.length
   . obtain⟨x,gx⟩:∃ x,l[i]?=some x:=⟨_,qqr (by omega)⟩;obtain⟨y,gy⟩:∃ y,l[i+1]?=some y:=⟨_,qqr (by omega)⟩;obtain⟨q1,gx'⟩:=qqp.1 gx;obtain⟨q2,gy'⟩:=qqp.1 gy;rw[zG gx,zG gy,qbl]at hin;have hc':(i:Int)+1<l.length:=(by omega);by_cases c1:x<=a
     . by_cases c2:a<=y
       . have hT1:T=true:=(by rw[<- hin];simp[c1,c2]);rw[hT1];simp[h1,h5,w1,n1,p1,hc',hc,q1,q2,g0,ga',gx',gy',c1,c2,b2i]
       . have hin:jM a (l.drop (i+2))=T:=(by rw[<- hin];simp[c1,c2]);simp[h1,h5,w1,w2,n1,p1,hc',hc,q1,q2,g0,ga',gx',gy',c1,c2];exact⟨_,by omega,i+2,by omega,by omega,rfl,by omega,hin⟩
     . have hin:jM a (l.drop (i+2))=T:=(by rw[<- hin];simp[c1]);simp[h1,h5,w1,w2,n1,p1,hc',hc,q1,q2,g0,ga',gx',gy',c1];exact⟨_,by omega,i+2,by omega,by omega,rfl,by omega,hin⟩
   . have hc':¬ (i:Int)+1<l.length:=(by omega);have hs:T=false:=(by rw[<- hin];exact Vv (by simp;omega));rw[hs];simp[h1,h5,w1,hc',b2i]
 . rcases ho c22 c23 with h|h
   . obtain⟨a,rfl⟩:=list1 h;rw[opW_1 c22 c23];simp[c22,c23];refine qb.call (qhi op a) rfl ?_;simp
   . obtain⟨a,b,rfl⟩:=list2 h;obtain⟨a0,a1⟩:=hr a (by simp);obtain⟨b0,b1⟩:=hr b (by simp);obtain⟨x,rfl⟩:=qq0 a0;obtain⟨y,rfl⟩:=qq0 b0;rw[opW_2 c22 c23];simp[c22,c23];refine qb.call (qiR op x y (by omega) (by omega)) rfl ?_;simp
def qeb (s:List Int):AV:=match s with
 | []=>.sl 0 [] .nil
 | a::r=>.sl 1 ((a::r).map qo) (.chain 0 (r.length+1))
def qfH (s:List Int):List (Option Nat):=match s with
 | []=>[]
 | _::r=>[some (r.length+1)]
theorem qk3 (s:List Int):zb (plain (qeb s))=true:=by cases s<;>simp[qeb]
theorem qk4 (s:List Int):Leq (plain (qeb s)) (.sl 1 (s.map qo) .none):=by
 cases s with
 | nil=>simp[qeb,Leq]
 | cons a r=>exact Leq.sl rfl
section
variable {P:Program}{G:Nat->AV}{U:St}{f:FuncId}{Q:AV->St->Prop}{r:AV}
theorem qb.outN2 {d:Bool}{a:AV}{s:List Int}(ha:zb a=true)(h:Abs.Pure P G f [a,.sl 1 (s.map qo) .none] r)(hq:Q r U):qb P G d f [a,qeb s] U Q:=by
 refine qb.pure h ?_ ?_ hq
 . simp only[qqC,qq8,qy,qk3,Qy ha,ha,Bool.and_self]
 . simp only[qqC,qq8,zA,and_true,Qy ha];exact⟨Leq.refl _,qk4 s⟩
end
theorem qjw {e:Ex}(h:yM e){n:Nat}(hop:e.op≠23)(ha:zu e.op=n):e.args.length=n:=by
 obtain⟨_,_,_,_,ho,_⟩:=jm h.self;have:=wF ho hop;omega
theorem qp8 {e:Ex}(h:yM e):e.args.length<=33:=by
 obtain⟨_,_,_,_,ho,_⟩:=jm h.self;by_cases h23:e.op=23
 . have:=YE ho h23;omega
 . have:=wF ho h23;unfold zu at this
   repeat' split at this
   all_goals omega
theorem qoT {e:Ex}(h:yM e)(h1:e.op≠1)(h2:e.op≠2)(h3:e.op≠3)(h24:e.op≠24)(h22:e.op≠22)(h23:e.op≠23):e.args.length=1\/e.args.length=2:=by
 obtain⟨k1,k2,_,_,ho,_⟩:=jm h.self;have:=wF ho h23;unfold zu at this;rw[if_neg (by omega)]at this
 repeat' split at this
 all_goals omega
theorem qoc (env:List Signal)(hl:Fits env):∀ e,Wen e->yM e->Pure Tryz.prog GG 84 [.agg [.sl 2 (env.map qW) .none],.agg (qr e)] (.int .i64 (yD env e)):=by
 refine Ex.ind fun e ih hwe hn=>?_
 refine Pure.vc qe Tryz.func84 rfl (by kernel_rfl) ?_;have hfa:=hwe.fits;have hrg:∀ v∈e.args.map (yD env),0<=v/\v<=65535:=by
  intro v hv;obtain⟨a,ha,rfl⟩:=qqT.1 hv;exact qfj env a (hn.arg ha)
 obtain⟨k1,k2,k3,k4,k5,k6,k7,k8⟩:=jm hn.self;simp only[qd e];simp;refine qx.intro (fun n ev U=>∃ i tl,i<=e.args.length/\n=e.args.length-i/\ev 2=.ptr 0 0/\ev 3=.ptr 1 0/\ev 5=qeb ((e.args.map (yD env)).take i)/\ev 13=.sl 4 (e.args.map qr) .none/\ev 14=.int .i64 e.args.length/\ev 15=.int .i64 i/\U=⟨.cells [.sl 2 (env.map qW) .none]::.cells (qr e)::tl,qfH ((e.args.map (yD env)).take i)⟩) e.args.length ⟨0,[],by simp,by simp,by simp,by simp,by simp[qeb],by simp,by simp,by simp,by simp[qd e,qfH]⟩ ?_;rintro n ev U ⟨i,tl,hi,rfl,h2,h3,h5,h13,h14,h15,rfl⟩
 cases hv:e.args[i]? with
 | some a=>
  obtain⟨hc,hv'⟩:=qqp.1 hv;have hm:=qqq hv;have ht:(e.args.map (yD env)).take (i+1)=(e.args.map (yD env)).take i++[yD env a]:=by
   rw[qqU,qqO,hv];rfl
  have hlen:((e.args.map (yD env)).take i).length<=e.args.length:=by simp;omega
  generalize hR:(e.args.map (yD env)).take i=R at h5 ht hlen ⊢;have ih:=ih a hm (hwe.arg hm) (hn.arg hm);simp[h2,h3,h5,h13,h14,h15,hc,hv',qd a,qqM];rw[<- qd a];refine qb.call ih (by simp) ?_
  cases R with
  | nil=>
   simp only[qeb]at h5;simp[qeb,qfH,qL,qj,qt,zP,h2,h3,h13,h14,h15];exact⟨_,by omega,i+1,by omega,rfl,by rw[ht];simp[qeb],wr (by omega) (by omega),by rw[ht];simp[qfH]⟩
  | cons b r=>
   have hb:r.length<=549755813886:=(by have:=qp8 hn;simp at hlen;omega);simp only[qeb]at h5;simp[qeb,qfH,qL,qj,qt,zP,hb,h2,h3,h13,h14,h15];exact⟨_,by omega,i+1,by omega,rfl,by rw[ht];simp[qeb],wr (by omega) (by omega),by rw[ht];simp[qfH]⟩
 | none=>
  have hc:¬ i<e.args.length:=by simp at hv;omega
  rw[qqx (by simp;omega)]at h5 ⊢;rw[yF];generalize hR:e.args.map (yD env)=R at h5 hrg ⊢;have hRl:R.length=e.args.length:=by rw[<- hR];simp
  unfold QA;by_cases c1:e.op=1
  . simp[h2,h3,h5,h13,h14,h15,hc,qd e,c1]
  by_cases c2:e.op=2
  . simp[h2,h3,h5,h13,h14,h15,hc,qd e,c1,c2];refine qb.call (qc3 env e.name hl) (by simp) ?_;simp[qbH]
  by_cases c3:e.op=3
  . have hname:=wG (k7 (.inl c3));obtain⟨v,rfl⟩:=list1 (l:=R) (by rw[hRl];exact qjw hn (n:=1) (by omega) (by rw[c3];decide));obtain⟨b,hb,_⟩:=qdn (env:=env) (a:=e.name) (i:=v);have hat:=qp7 env e.name v hl (by omega);rw[hb]at hat;simp only[qeb]at h5;simp[h2,h3,h5,h13,h14,h15,hc,qd e,c1,c2,c3];refine qb.call hat (by simp) ?_;simp
  by_cases c24:e.op=24
  . have hname:=wG (k7 (.inr c24));simp[h2,h3,h5,h13,h14,h15,hc,qd e,c1,c2,c3,c24];refine qb.call (sum166 env e.name hl (by omega)) (by simp) ?_;simp
  . simp[h2,h3,h5,h13,h14,h15,hc,qd e,c1,c2,c3,c24];refine qb.outN2 (by simp) (qfI e.op R hrg (fun c=>?_) (fun c=>?_) (fun c22 c23=>?_)) ?_
    . rw[hRl];exact qjw hn (n:=3) (by omega) (by rw[c];decide)
    . rw[hRl];have:=YE k5 c;omega
    . rw[hRl];exact qoT hn c1 c2 c3 c24 c22 c23
    . simp
end
end Go.Proofs.YtkpkjbchlabaaaaGreatDoor
end
