import Derived.Test.YtimecmegnocamaaGreatDoorPq31
import Derived.Test.YtimecmegnocamaaGreatDoorPq32
set_option maxHeartbeats 16000000
set_option maxRecDepth 100000
set_option linter.all false
set_option linter.defProp false
namespace Go.Proofs.YtimecmegnocamaaGreatDoor
open Go Go.Abs Tryz
def quS{op a}(h22:op≠22)(h23:op≠23):opW op [a]=unW op a:=by simp[*,opW]
def quR{op a b}(h22:op≠22)(h23:op≠23):opW op [a,b]=jZ op a b:=by simp[*,opW]
def qfY{l}:opW 22 l=if l.getD 0 0≠0 then l.getD 1 0 else l.getD 2 0:=by simp[opW]
def qpM{l}:opW 23 l=b2i (jh (l.getD 0 0) l.tail):=by simp[opW]
def J4{a x y r}:jh a (x::y::r)=((decide (x<=a)&&decide (a<=y))||jh a r):=by simp[jh]
def ZY{a r}(h:r.length<2):jh a r=false:=by
 match r,h with
 |[],_=>rfl
 |[x],_=>rfl
 |x::y::r,h=>simp at h;omega
def qe5{α:Type}{p:α->Bool}{l:List α}{a:α}(h:a∈l)(hp:p a=false):l.all p=false:=by
 rw[qCe];intro e;rw[qA3.1 e a h]at hp;cases hp
def qu3{l:List Int}(h:l.length=3):∃a b c,l=[a,b,c]:=by
 match l,h with
 |[a,b,c],_=>exact⟨a,b,c,rfl⟩
def qr5{l:List Int}(h:l.length=1):∃a,l=[a]:=by
 match l,h with
 |[a],_=>exact⟨a,rfl⟩
def qu4{l:List Int}(h:l.length=2):∃a b,l=[a,b]:=by
 match l,h with
 |[a,b],_=>exact⟨a,b,rfl⟩
def qhN(op l)(hr:∀v∈l,0<=v/\v<=65535)(h22:op=22->l.length=3)(h23:op=23->3<=l.length/\l.length<=33)(ho:op≠22->op≠23->l.length=1\/l.length=2):
 Pure prog GG 216 [.int .i64 op,.sl 1 (l.map qh) .none] (.int .i64 (opW op l)):=by
 refine qFP qg func216 rfl (by kernel_rfl) ?_;by_cases c22:op=22
 . obtain⟨a,b,c,rfl⟩:=qu3 (h22 c22);subst c22;by_cases ha:a=0
   . simp[ha,qfY]
   simp[ha,qfY]
 by_cases c23:op=23
 . obtain⟨h3,h33⟩:=h23 c23;subst c23;obtain⟨a,ga⟩:∃a,l[0]?=some a:=⟨_,qAW (by omega)⟩;obtain⟨g0,ga'⟩:=qAU.1 ga;have hw:opW 23 l=b2i (jh a (l.drop 1)):=by
    rw[qpM,qA8,ga];simp
   rw[hw];generalize hT:jh a (l.drop 1)=T;simp;refine qFM (fun n env U=>∃i:Nat,1<=i/\i<=l.length+1/\n=l.length+1-i/\env 1=.sl 1 (l.map qh) .none/\env 5=.int .i64 i/\U=⟨[],[]⟩/\jh a (l.drop i)=T) l.length ⟨1,by simp,by omega,by omega,by simp,by simp,rfl,hT⟩ ?_;rintro n env U ⟨i,hi1,hi2,rfl,h1,h5,rfl,hin⟩;have w1:IntKind.i64.wrap ((i:Int)+1)=(i:Int)+1:=wr (by omega) (by omega);have w2:IntKind.i64.wrap ((i:Int)+2)=((i+2:Nat):Int):=(by rw[wr (by omega) (by omega)];omega);have n1:((i:Int)+1).toNat=i+1:=(by omega);have p1:(0:Int)<=(i:Int)+1:=(by omega);by_cases hc:i+1<l.length
   . obtain⟨x,gx⟩:∃x,l[i]?=some x:=⟨_,qAW (by omega)⟩;obtain⟨y,gy⟩:∃y,l[i+1]?=some y:=⟨_,qAW (by omega)⟩;obtain⟨q1,gx'⟩:=qAU.1 gx;obtain⟨q2,gy'⟩:=qAU.1 gy;rw[zf gx,zf gy,J4]at hin;have hc':(i:Int)+1<l.length:=(by omega);by_cases c1:x<=a
     . by_cases c2:a<=y
       . have hT1:T=true:=(by rw[<- hin];simp[*]);rw[hT1];simp[*,p1,b2i]
       . have hin:jh a (l.drop (i+2))=T:=(by rw[<- hin];simp[*]);simp[*,p1];exact⟨_,by omega,i+2,by omega,by omega,rfl,by omega,hin⟩
     have hin:jh a (l.drop (i+2))=T:=(by rw[<- hin];simp[c1]);simp[*];exact⟨_,by omega,i+2,by omega,by omega,rfl,by omega,hin⟩
   have hc':¬(i:Int)+1<l.length:=(by omega);rw[show T=false by rw[<- hin];exact ZY (by simp;omega)];simp[*,b2i]
 rcases ho c22 c23 with h|h
 . obtain⟨a,rfl⟩:=qr5 h;rw[quS c22 c23];simp[*];refine qFz (qjt op a) rfl ?_;simp
 obtain⟨a,b,rfl⟩:=qu4 h;obtain⟨a0,a1⟩:=hr a (by simp);obtain⟨b0,b1⟩:=hr b (by simp);obtain⟨x,rfl⟩:=qBe a0;obtain⟨y,rfl⟩:=qBe b0;rw[quR c22 c23];simp[*];refine qFz (qli op x y (by omega) (by omega)) rfl ?_;simp
def qax(s:List Int):AV:=match s with
 |[]=>.sl 0 [] .nil
 |a::r=>.sl 1 ((a::r).map qh) (.chain 0 (r.length+1))
def qcn(s:List Int):List (Option Nat):=match s with
 |[]=>[]
 |_::r=>[some (r.length+1)]
def qfS(s):qO (plain (qax s))=true:=by cases s<;>simp[qax]
def qfT(s):Leq (plain (qax s)) (.sl 1 (s.map qh) .none):=by
 cases s with
 |nil=>simp[qax,Leq]
 |cons a r=>exact Leq.sl rfl
section
variable {P:Program}{G:Nat->AV}{U:St}{f:FuncId}{Q:AV->St->Prop}{r:AV}
def qa.outN2{d a s}(ha:qO a=true)(h:Abs.Pure P G f [a,.sl 1 (s.map qh) .none] r)(hq:Q r U):qa P G d f [a,qax s] U Q:=by
 refine qFO h ?_ ?_ hq
 . simp only[qA7,qBy,qw,qfS,yr ha,ha,qFb]
 simp only[qA7,qBy,zm,and_true,yr ha];exact⟨qFw _,qfT s⟩
def qa.outN3{d a b s}(ha:qO a=true)(hb:qO b=true)(h:Abs.Pure P G f [a,b,.sl 1 (s.map qh) .none] r)(hq:Q r U):qa P G d f [a,b,qax s] U Q:=by
 refine qFO h ?_ ?_ hq
 . simp only[qA7,qBy,qw,qfS,yr ha,yr hb,ha,hb,qFb]
 simp only[qA7,qBy,zm,and_true,yr ha,yr hb];exact⟨qFw _,qFw _,qfT s⟩
end
def qbi{e:Ex}(h:y9 e){n:Nat}(hop:e.op≠23)(ha:zE e.op=n):e.args.length=n:=by
 obtain⟨_,_,_,_,ho,_⟩:=jk h.self;have:=vu ho hop;omega
def qlZ{e}(h:y9 e):e.args.length<=33:=by
 obtain⟨_,_,_,_,ho,_⟩:=jk h.self;by_cases h23:e.op=23
 . have:=Zh ho h23;omega
 have:=vu ho h23;unfold zE at this
 repeat' split at this
 all_goals omega
def qj5{e}(h:y9 e)(h1:e.op≠1)(h2:e.op≠2)(h3:e.op≠3)(h24:e.op≠24)(h22:e.op≠22)(h23:e.op≠23):e.args.length=1\/e.args.length=2:=by
 obtain⟨k1,k2,_,_,ho,_⟩:=jk h.self;have:=vu ho h23;unfold zE at this;rw[if_neg (by omega)]at this
 repeat' split at this
 all_goals omega
def qqT(env)(hl:Fits env):∀e,Wen e->y9 e->Pure prog GG 138 [.agg [.sl 2 (env.map qK) .none],.agg (qt e)] (.int .i64 (yn env e)):=by
 refine qFN fun e ih hwe hn=>?_
 refine qFP qg func138 rfl (by kernel_rfl) ?_;have hfa:=hwe.fits;have hrg:∀v∈e.args.map (yn env),0<=v/\v<=65535:=by
  intro v hv;obtain⟨a,ha,rfl⟩:=qBj.1 hv;exact Vb env a (hn.arg ha)
 obtain⟨k1,k2,k3,k4,k5,k6,k7,k8⟩:=jk hn.self;simp only[qc e];simp;refine qFM (fun n ev U=>∃i tl,i<=e.args.length/\n=e.args.length-i/\ev 2=.ptr 0 0/\ev 3=.ptr 1 0/\ev 5=qax ((e.args.map (yn env)).take i)/\ev 13=.sl 4 (e.args.map qt) .none/\ev 14=.int .i64 e.args.length/\ev 15=.int .i64 i/\U=⟨.cells [.sl 2 (env.map qK) .none]::.cells (qt e)::tl,qcn ((e.args.map (yn env)).take i)⟩) e.args.length ⟨0,[],by simp,by simp,by simp,by simp,by simp[qax],by simp,by simp,by simp,by simp[qc e,qcn]⟩ ?_;rintro n ev U ⟨i,tl,hi,rfl,h2,h3,h5,h13,h14,h15,rfl⟩
 cases hv:e.args[i]? with
 | some a=>
  obtain⟨hc,hv'⟩:=qAU.1 hv;have hm:=qAV hv;have ht:(e.args.map (yn env)).take (i+1)=(e.args.map (yn env)).take i++[yn env a]:=by
   rw[qBi,qBp,hv];rfl
  have hlen:((e.args.map (yn env)).take i).length<=e.args.length:=by simp;omega
  generalize hR:(e.args.map (yn env)).take i=R at h5 ht hlen⊢;have ih:=ih a hm (hwe.arg hm) (hn.arg hm);simp[*,qc a,qBx];rw[<- qc a];refine qFz ih (by simp) ?_
  cases R with
  | nil=>
   simp only[qax]at h5;simp[qax,qcn,qq,qi,qp,za,h15];exact⟨_,by omega,i+1,by omega,rfl,by rw[ht];simp[],wr (by omega) (by omega),by rw[ht];simp[]⟩
  | cons b r=>
   have hb:r.length<=549755813886:=(by have:=qlZ hn;simp at hlen;omega);simp only[qax]at h5;simp[*,qax,qcn,qq,qi,qp,za];exact⟨_,by omega,i+1,by omega,rfl,by rw[ht];simp[],wr (by omega) (by omega),by rw[ht];simp[]⟩
 | none=>
  have hc:¬i<e.args.length:=by simp at hv;omega
  rw[qAZ (by simp;omega)]at h5⊢;rw[yX];generalize hR:e.args.map (yn env)=R at h5 hrg⊢;have hRl:R.length=e.args.length:=by rw[<- hR];simp
  unfold vw;by_cases c1:e.op=1
  . simp[*,qc e]
  by_cases c2:e.op=2
  . simp[*,qc e];refine qFz (qeG env e.name hl) (by simp) ?_;simp[Q5]
  by_cases c3:e.op=3
  . have hname:=wA (k7 (.inl c3));obtain⟨v,rfl⟩:=qr5 (l:=R) (by rw[hRl];exact qbi hn (n:=1) (by omega) (by rw[c3];decide));obtain⟨b,hb,_⟩:=qe0 (env:=env) (a:=e.name) (i:=v);have hat:=qta env e.name v hl (by omega);rw[hb]at hat;simp only[qax]at h5;simp[*,qc e];refine qFz hat (by simp) ?_;simp
  by_cases c24:e.op=24
  . have hname:=wA (k7 (.inr c24));simp[*,qc e];refine qFz (quj env e.name hl (by omega)) (by simp) ?_;simp
  simp[*,qc e];refine qa.outN2 (by simp) (qhN e.op R hrg (fun c=>?_) (fun c=>?_) (fun c22 c23=>?_)) ?_
  . rw[hRl];exact qbi hn (n:=3) (by omega) (by rw[c];decide)
  . rw[hRl];have:=Zh k5 c;omega
  . rw[hRl];exact qj5 hn c1 c2 c3 c24 c22 c23
  simp
