import Derived.Test.YtafbccendejkeaaGreatDoorPt30
import Derived.KernelRfl
set_option maxHeartbeats 16000000
set_option maxRecDepth 100000
set_option linter.all false
set_option linter.defProp false
namespace Go.Proofs.YtafbccendejkeaaGreatDoor
open Go Go.Abs Proofs.Tryz
def qlN{α:Type}{p:α->Bool}{l:List α}{i:Nat}(hi:l.length<=i)(h:∀a∈l.take i,p a=true):l.all p=true:=by
 rw[qAs hi]at h;exact qAv.2 h
def qe0(op:Int):Bool:=decide (op=1)||jj op
def qmS(op):Pure prog GG 287 [.int .i64 op] (.bool (qe0 op)):=by
 refine qE9 qe func287 rfl (by kernel_rfl) ?_;by_cases h:op=1
 . subst h;simp[qe0]
 simp[h];refine qET (qf3 op) rfl ?_;simp[qe0,h]
def qlC{env e}:qix env e=if e.op=2 then(jA env e.name).isSome else if e.op=3\/e.op=24 then(jA env (zT e.name 0)).isSome else true:=rfl
def qmO(env)(hl:Fits env)(e ops)(hs:e.op=3\/e.op=24->e.name.length<=1000)(ha:e.op=3->ops≠[])(hask:qe0 e.op=true) :
 Pure prog GG 288 [.agg (qp e),.sl 2 (env.map qG) .none,.sl 1 (ops.map qh) .none] (.tup [.int .i64 (if qix env e=true then vl env e.op e.n e.name ops else 0),.int .i64 (if qix env e=true then 0 else 7)]):=by
 refine qE9 qe func288 rfl (by kernel_rfl) ?_;rw[qlC];unfold vl;by_cases c1:e.op=1
 . simp only[qc e];simp[c1]
 by_cases c2:e.op=2
 . simp only[qc e];simp[c2];refine qET (qar env e.name hl) (by simp) ?_;cases hf:jA env e.name<;>simp[QU,hf]
 have hor:e.op=3\/e.op=24:=by
  simp only[qe0,jj,qCj,decide_eq_true_eq]at hask;omega
 have hs:=hs hor;simp only[qc e];simp[c1,c2];refine qET (qfD e.name 0 (by omega) hs) rfl ?_
 try simp
 refine qET (qar env (zT e.name 0) hl) (by simp) ?_;cases hf:(jA env (zT e.name 0)).isSome
 . simp[QU,hf];exact⟨fun h3 h24=>absurd hor (by omega),fun h3=>by omega⟩
 by_cases c3:e.op=3
 . obtain⟨v,r,rfl⟩:∃v r,ops=v::r:=by
    cases ops with
    |nil=>exact absurd rfl (ha c3)
    |cons v r=>exact⟨v,r,rfl⟩
   simp[QU,hf,c3];refine qET (Km env e.name v hl hs) (by simp) ?_;simp
 have c24:e.op=24:=by omega
 simp[QU,hf,c24];refine qE6 (fun n ev U=>∃i:Nat,i<=8/\n=8-i/\ev 1=.sl 2 (env.map qG) .none/\ev 3=.ptr 0 0/\ev 12=.int .i64 (ql0 env e.name i)/\ev 13=.int .i64 i/\U=⟨[.cells (qp e)],[]⟩) 8 ⟨0,by simp[ql0,qc e,c24]⟩ ?_;rintro n ev U ⟨i,hi,rfl,h1,h3,h12,h13,rfl⟩;by_cases hc:i<8
 . have hc':(i:Int)<8:=(by omega);simp[h1,h3,h12,h13,hc',qc e];refine qET (Km env e.name i hl hs) (by simp) ?_
   try simp[h1,h3,h12,h13]
   refine qET (qjC _ _) rfl ?_;simp[qc e];exact⟨_,by omega,i+1,by omega,rfl,rfl,wr (by omega) (by omega)⟩
 have hi':i=8:=by omega
 subst hi';simp[h1,h3,h12,h13];intro e0;rw[e0]at hf;cases hf
def qd8(op l)(hr:∀v∈l,0<=v/\v<=65535)(h22:op=22->l.length=3)(h23:op=23->3<=l.length/\l.length<=33)(ho:op≠22->op≠23->l.length=1\/l.length=2) :
 Pure prog GG 289 [.int .i64 op,.sl 1 (l.map qh) .none] (.int .i64 (opW op l)):=by
 refine qE9 qe func289 rfl (by kernel_rfl) ?_;by_cases c22:op=22
 . obtain⟨a,b,c,rfl⟩:=quB (h22 c22);subst c22;by_cases ha:a=0
   . simp[ha,qfU]
   simp[ha,qfU]
 by_cases c23:op=23
 . obtain⟨h3,h33⟩:=h23 c23;subst c23;obtain⟨a,ga⟩:∃a,l[0]?=some a:=⟨_,qAo (by omega)⟩;obtain⟨g0,ga'⟩:=qAm.1 ga;have hw:opW 23 l=b2i (je a (l.drop 1)):=by
    rw[qps,qAx,ga];simp
   rw[hw];generalize hT:je a (l.drop 1)=T;simp;refine qE6 (fun n env U=>∃i:Nat,1<=i/\i<=l.length+1/\n=l.length+1-i/\env 1=.sl 1 (l.map qh) .none/\env 5=.int .i64 i/\U=⟨[],[]⟩/\je a (l.drop i)=T) l.length ⟨1,by simp,by omega,by omega,by simp,by simp,rfl,hT⟩ ?_;rintro n env U ⟨i,hi1,hi2,rfl,h1,h5,rfl,hin⟩;have w1:IntKind.i64.wrap ((i:Int)+1)=(i:Int)+1:=wr (by omega) (by omega);have w2:IntKind.i64.wrap ((i:Int)+2)=((i+2:Nat):Int):=(by rw[wr (by omega) (by omega)];omega);have n1:((i:Int)+1).toNat=i+1:=(by omega);have p1:(0:Int)<=(i:Int)+1:=(by omega);by_cases hc:i+1<l.length
   . obtain⟨x,gx⟩:∃x,l[i]?=some x:=⟨_,qAo (by omega)⟩;obtain⟨y,gy⟩:∃y,l[i+1]?=some y:=⟨_,qAo (by omega)⟩;obtain⟨q1,gx'⟩:=qAm.1 gx;obtain⟨q2,gy'⟩:=qAm.1 gy;rw[zb gx,zb gy,J0]at hin;have hc':(i:Int)+1<l.length:=(by omega);by_cases c1:x<=a
     . by_cases c2:a<=y
       . have hT1:T=true:=(by rw[<- hin];simp[c1,c2]);rw[hT1];simp[h1,h5,w1,n1,p1,hc',hc,q1,g0,ga',gx',gy',c1,c2,b2i]
       . have hin:je a (l.drop (i+2))=T:=(by rw[<- hin];simp[c1,c2]);simp[h1,h5,w1,w2,n1,p1,hc',hc,q1,g0,ga',gx',gy',c1,c2];exact⟨_,by omega,i+2,by omega,by omega,rfl,by omega,hin⟩
     have hin:je a (l.drop (i+2))=T:=(by rw[<- hin];simp[c1]);simp[h1,h5,w1,w2,hc',q1,g0,ga',gx',c1];exact⟨_,by omega,i+2,by omega,by omega,rfl,by omega,hin⟩
   have hc':¬(i:Int)+1<l.length:=(by omega);rw[show T=false by rw[<- hin];exact ZT (by simp;omega)];simp[h1,h5,w1,hc',b2i]
 rcases ho c22 c23 with h|h
 . obtain⟨a,rfl⟩:=qrN h;rw[qus c22 c23];simp[c22,c23];refine qET (qjn op a) rfl ?_;simp
 obtain⟨a,b,rfl⟩:=quC h;obtain⟨a0,a1⟩:=hr a (by simp);obtain⟨b0,b1⟩:=hr b (by simp);obtain⟨x,rfl⟩:=qAH a0;obtain⟨y,rfl⟩:=qAH b0;rw[qur c22 c23];simp[c22,c23];refine qET (qhy op x y (by omega) (by omega)) rfl ?_;simp
def qqD(env:List Signal)(e:Ex):AV:=.tup [.int .i64 (if jK env e=true then yf env e else 0),.int .i64 (if jK env e=true then 0 else 7)]
def qjm(env)(hl:Fits env):∀e,Wen e->yV e->Pure prog GG 224 [.agg (qp e),.sl 2 (env.map qG) .none] (qqD env e):=by
 refine qE7 fun e ih hwe hn=>?_
 refine qE9 qe func224 rfl (by kernel_rfl) ?_;have hfa:=hwe.fits;have hrg:∀v∈e.args.map (yf env),0<=v/\v<=65535:=by
  intro v hv;obtain⟨a,ha,rfl⟩:=qAN.1 hv;exact W0 env a (hn.arg ha)
 obtain⟨k1,k2,k3,k4,k5,k6,k7,k8⟩:=ji hn.self;simp only[qc e];simp;refine qE6 (fun n ev U=>∃i,i<=e.args.length/\n=e.args.length-i/\ev 1=.sl 2 (env.map qG) .none/\ev 2=.ptr 0 0/\ev 6=qau ((e.args.map (yf env)).take i)/\ev 7=.int .i64 i/\U=⟨[.cells (qp e)],qci ((e.args.map (yf env)).take i)⟩/\∀a∈e.args.take i,jK env a=true) e.args.length ⟨0,by simp,by simp,by simp,by simp,by simp[qau],by simp,by simp[qc e,qci],by simp⟩ ?_;rintro n ev U ⟨i,hi,rfl,h1,h2,h6,h7,rfl,hz⟩
 cases hv:e.args[i]? with
 | some a=>
  obtain⟨hc,hv'⟩:=qAm.1 hv;have hm:=qAn hv;have ht:(e.args.map (yf env)).take (i+1)=(e.args.map (yf env)).take i++[yf env a]:=by
   rw[qAT,qAR,hv];rfl
  have hlen:((e.args.map (yf env)).take i).length<=e.args.length:=by simp;omega
  generalize hR:(e.args.map (yf env)).take i=R at h6 ht hlen⊢;have ih:=ih a hm (hwe.arg hm) (hn.arg hm);simp[h1,h2,h7,hc,hv',qc e,qc a];rw[<- qc a];refine qET ih (by simp) ?_;cases hk:jK env a
  . have x:jK env e=false:=by
     rw[qcG,qe4 hm hk,qCX]
    simp[qqD,hk,x]
  have hz':=qW (p:=fun a=>jK env a=true) hv hz hk
  cases R with
  | nil=>
   simp only[qau]at h6;simp[qqD,hk,qau,qci,qr,qY,h1,h2,h6,h7];exact⟨_,by omega,i+1,by omega,rfl,by rw[ht];simp[],wr (by omega) (by omega),by rw[ht];simp[],hz'⟩
  | cons b r=>
   simp only[qau]at h6;simp[qqD,hk,qau,qci,qr,qY,show r.length<=549755813886 by have:=qlF hn;simp at hlen;omega,h1,h2,h6,h7];exact⟨_,by omega,i+1,by omega,rfl,by rw[ht];simp[],wr (by omega) (by omega),by rw[ht];simp[],hz'⟩
 | none=>
  have hle:e.args.length<=i:=by simpa using hv
  rw[qAs (by simp;omega)]at h6⊢;have hkn:jK env e=qix env e:=by rw[qcG,qlN hle hz,qCo]
  unfold qqD;rw[hkn,yO];have hleaf:=qmO env hl e (e.args.map (yf env));generalize hR:e.args.map (yf env)=R at h6 hrg hleaf⊢;have hRl:R.length=e.args.length:=by rw[<- hR];simp
  simp[h2,h7,show ¬i<e.args.length by omega,qc e];refine qET (qmS e.op) (by simp) ?_;cases hask:qe0 e.op
  . have hne:e.op≠1/\e.op≠2/\e.op≠3/\e.op≠24:=by
     simp only[qe0,jj,qCI,decide_eq_false_iff_not]at hask;omega
    obtain⟨c1,c2,c3,c24⟩:=hne;rw[show qix env e=true by rw[qlC,if_neg c2,if_neg (by omega)],show vl env e.op e.n e.name R=opW e.op R by unfold vl;rw[if_neg c1,if_neg c2,if_neg c3,if_neg c24]];simp[h1,h2,h6];refine qa.outN2 (by simp) (qd8 e.op R hrg (fun c=>?_) (fun c=>?_) (fun c22 c23=>?_)) ?_
    . rw[hRl];exact qbe hn (n:=3) (by omega) (by rw[c];decide)
    . rw[hRl];have:=Ze k5 c;omega
    . rw[hRl];exact qjO hn c1 c2 c3 c24 c22 c23
    simp
  have hleaf:=hleaf (fun c=>by have:=wq (k7 c);omega) (fun c e0=>by
   have:=qbe hn (n:=1) (by omega) (by rw[c];decide);rw[e0]at hRl;simp at hRl;omega) hask
  simp[h1,h2,h6,qc e];rw[<- qc e];refine qa.outN3 (by simp) (by simp) hleaf ?_;simp
def qjv(env)(hl:Fits env)(e)(hwe:Wen e)(hh:hgt e<=1000)(hsz:(pre e).length<=100000):Pure prog GG 150 [.agg (qp e),.sl 2 (env.map qG) .none] (.tup [.int .i64 (jw env e),.int .i64 (Qk env e)]):=by
 refine qE9 qe func150 rfl (by kernel_rfl) ?_;have hva:=qiR e hwe hh hsz;have hE:Qk env e=if zi e≠0 then 1 else if jK env e=true then 0 else 7:=rfl
 have hV:jw env e=if zi e=0/\jK env e=true then yf env e else 0:=rfl
 simp only[qc e];simp;rw[<- qc e];refine qET hva (by simp) ?_;by_cases h0:zi e=0
 . have hn:=vO h0;have hval:=qjm env hl e hwe hn;have e1:qqD env e=.tup [.int .i64 (jw env e),.int .i64 (Qk env e)]:=by
    rw[hE,hV];unfold qqD;simp[h0]
   rw[e1]at hval;simp[h0,qc e];rw[<- qc e];refine qET hval (by simp) ?_;simp
 have e1:Qk env e=1:=by rw[hE];simp[h0]
 rw[e1,show jw env e=0 by rw[hV];simp[h0]];simp[h0]
def qdx{α:Type}(sz:Nat)(en:α->List AV)(s:List α):AV:=match s with
 |[]=>.sl 0 [] .nil
 |a::r=>.sl sz ((a::r).map en) (.chain 0 (r.length+1))
def qcj{α:Type}(s:List α):List (Option Nat):=match s with
 |[]=>[]
 |_::r=>[some (r.length+1)]
def qfR{α:Type}{sz}{en:α->List AV}(s:List α)(H)(hn:∀x,qz (en x)=true):qO (fin H (qdx sz en s))=true/\Leq (fin H (qdx sz en s)) (.sl sz (s.map en) .none):=by
 cases s with
 |nil=>simp[qdx,Leq]
 | cons a r=>
  have h:=zp hn (a::r);refine⟨?_,Leq.sl rfl⟩;simpa[qdx] using h
def qyt(p a)(hl:p.vars.length<=1000)(ha:Fits a):Pure prog GG 112 [.agg (qt p),.sl 1 (a.map qh) .none] (.sl 2 ((yg p.vars a).map qG) .none):=by
 refine qE9 qe func112 rfl (by kernel_rfl) ?_;by_cases hlen:a.length=p.vars.length
 . rw[Ql,if_pos hlen];have hE:=yB hlen;simp[hlen];refine qE6 (fun n ev U=>∃i tl,i<=p.vars.length/\n=p.vars.length-i/\ev 1=.sl 1 (a.map qh) .none/\ev 5=qdx 2 qG ((wA p.vars a).take i)/\ev 15=.sl 4 (p.vars.map qJ) .none/\ev 16=.int .i64 p.vars.length/\ev 17=.int .i64 i/\U=⟨tl,qcj ((wA p.vars a).take i)⟩) p.vars.length ⟨0,_,by simp,by simp,by simp,by simp[qdx],by simp,by simp,by simp,by simp[qcj];rfl⟩ ?_;rintro n ev U ⟨i,tl,hi,rfl,h1,h5,h15,h16,h17,rfl⟩
   cases hv:p.vars[i]? with
   | some v=>
    obtain⟨hc,hv'⟩:=qAm.1 hv;have hca:i<a.length:=(by omega);obtain⟨x,hx⟩:∃x,a[i]?=some x:=⟨_,qAo hca⟩;have hx':=(qAm.1 hx).2;have ht:(wA p.vars a).take (i+1)=(wA p.vars a).take i++[⟨v.name,x⟩]:=by
     rw[qAT,vu hv hx];rfl
    have hRl:((wA p.vars a).take i).length<=1000:=(by simp;omega);generalize hR:(wA p.vars a).take i=R at h5 ht hRl⊢
    cases R with
    | nil=>
     simp only[qdx]at h5;simp[h1,h5,h15,h16,h17,hc,hca,hv',hx',qA0,qcj,zs,zW,qM,qr,qf,qm,qY,zx];exact⟨_,by omega,i+1,by omega,rfl,by rw[ht];simp[qdx],wr (by omega) (by omega),by rw[ht];simp⟩
    | cons b r=>
     simp only[qdx]at h5;simp[h1,h5,h15,h16,h17,hc,hca,hv',hx',qA0,qcj,zs,zW,qM,qr,qf,qm,qY,zx,show r.length<=549755813886 by simp at hRl;omega];exact⟨_,by omega,i+1,by omega,rfl,by rw[ht];simp[qdx],wr (by omega) (by omega),by rw[ht];simp⟩
   | none=>
    have hc:¬i<p.vars.length:=(by simp at hv;omega);rw[qAs (by omega)]at h5⊢;have he:=qfR (sz:=2) (en:=qG) (wA p.vars a) tl (fun x=>by simp);simp[h5,h15,h16,h17,hc];exact he
 rw[Ql,if_neg hlen];simp[show ¬(a.length:Int)=p.vars.length by omega,Leq]
def qpe(p a)(hl:p.vars.length<=1000)(ha:Fits a):Pure prog GG 149 [.agg (qt p),.sl 1 (a.map qh) .none] (.sl 2 ((yg p.vars a).map qG) .none):=by
 refine qE9 qe func149 rfl (by kernel_rfl) ?_;by_cases hlen:a.length=p.vars.length
 . rw[Ql,if_pos hlen];have hE:=yB hlen;simp[hlen];refine qE6 (fun n ev U=>∃i,i<=p.vars.length/\n=p.vars.length-i/\ev 1=.sl 1 (a.map qh) .none/\ev 2=.ptr 0 0/\ev 5=qdx 2 qG ((wA p.vars a).take i)/\ev 6=.int .i64 i/\U=⟨[.cells (qt p)],qcj ((wA p.vars a).take i)⟩) p.vars.length ⟨0,by simp,by simp,by simp,by simp,by simp[qdx],by simp,by simp[qcj]⟩ ?_;rintro n ev U ⟨i,hi,rfl,h1,h2,h5,h6,rfl⟩
   cases hv:p.vars[i]? with
   | some v=>
    obtain⟨hc,hv'⟩:=qAm.1 hv;have hca:i<a.length:=(by omega);obtain⟨x,hx⟩:∃x,a[i]?=some x:=⟨_,qAo hca⟩;have hx':=(qAm.1 hx).2;have ht:(wA p.vars a).take (i+1)=(wA p.vars a).take i++[⟨v.name,x⟩]:=by
     rw[qAT,vu hv hx];rfl
    have hRl:((wA p.vars a).take i).length<=1000:=(by simp;omega);generalize hR:(wA p.vars a).take i=R at h5 ht hRl⊢
    cases R with
    | nil=>
     simp only[qdx]at h5;simp[h1,h5,h2,h6,hc,hca,hv',hx',qcj,zs,zW,qM,qr,qf,qm,qY,zx];exact⟨_,by omega,i+1,by omega,rfl,by rw[ht];simp[qdx],wr (by omega) (by omega),by rw[ht];simp⟩
    | cons b r=>
     simp only[qdx]at h5;simp[h1,h5,h2,h6,hc,hca,hv',hx',qcj,zs,zW,qM,qr,qf,qm,qY,zx,show r.length<=549755813886 by simp at hRl;omega];exact⟨_,by omega,i+1,by omega,rfl,by rw[ht];simp[qdx],wr (by omega) (by omega),by rw[ht];simp⟩
   | none=>
    have hc:¬i<p.vars.length:=(by simp at hv;omega);have hca:¬i<a.length:=(by omega);rw[qAs (by omega)]at h5⊢;have he:=qfR (sz:=2) (en:=qG) (wA p.vars a) [.cells (qt p)] (fun x=>by simp);simp[h1,h5,h2,h6,hc,hca];exact he
 rw[Ql,if_neg hlen];simp[show ¬(a.length:Int)=p.vars.length by omega,Leq]
def qjl(env)(hl:Fits env)(e)(hwe:Wen e)(hh:hgt e<=1000)(hsz:(pre e).length<=100000):Pure prog GG 226 [.agg (qp e),.sl 2 (env.map qG) .none] (.int .i64 (jw env e)):=by
 refine qEG qe func226 rfl (by kernel_rfl) ?_;have hev:=qjv env hl e hwe hh hsz;simp[-getElem?_pos,qc e];rw[<- qc e];refine qEJ hev (by simp) ?_;simp[-getElem?_pos]
def qam(p a l)(hl:p.vars.length<=1000)(ha:Fits a)(hfl:Fits l)(hx:∀e∈l,Wen e/\hgt e<=1000/\(pre e).length<=100000) :
 Pure prog GG 153 [.agg (qt p),.sl 1 (a.map qh) .none,.sl 4 (l.map qp) .none] (.bool (kN p.vars l a)):=by
 refine qEG qe func153 rfl (by kernel_rfl) ?_;have henv:=qpe p a hl ha;have hfe:Fits (yg p.vars a):=by have:=qaY (l:=p.vars) (a:=a);show(yg p.vars a).length<_;omega
 have hsat:kN p.vars l a=l.all fun e=>decide (jw (yg p.vars a) e≠0):=rfl
 rw[hsat];obtain⟨r,hr⟩:∃r,r=l.all fun e=>decide (jw (yg p.vars a) e≠0):=⟨_,rfl⟩
 rw[<- hr];generalize yg p.vars a=V at *;simp only[qt]at henv;simp[-getElem?_pos];refine qEJ henv (by simp) ?_;simp[-getElem?_pos];refine qEN l (fun d ev U=>ev 2=.sl 4 (l.map qp) .none/\ev 7=.sl 2 (V.map qG) .none/\ev 8=.int .i64 d.length/\∀e∈d,jw V e≠0) ?_ ?_ ?_
 . simp
 . rintro d e rest ev U hd hxe hlt ⟨e2,e7,e8,hnz⟩;have hm:=qAn hxe;obtain⟨hwe,hh,hsz⟩:=hx e hm;have hdw:=wr (n:=(d.length:Int)+1) (by unfold Fits at hfl;omega) (by unfold Fits at hfl;omega);have hv:=qjl V hfe e hwe hh hsz;simp[-getElem?_pos,e2,e7,e8,hlt,hxe,qc e];rw[<- qc e];refine qEJ hv (by simp) ?_;by_cases hz:jw V e=0
   . have:r=false:=by rw[hr,qDq];exact⟨e,hm,by simp[hz]⟩
     simp[-getElem?_pos,hz,this]
   simp[-getElem?_pos,hz,e2,e7,e8,hdw];intro x hx;rcases hx with hx|rfl
   . exact hnz x hx
   exact hz
 rintro ev U ⟨e2,e7,e8,hnz⟩;have:r=true:=by rw[hr,qAv];exact fun e he=>by simpa using hnz e he
 simp[-getElem?_pos,e2,e8,this]
def qqg(A:Nat)(vs:List Var)(a:List Int)(H:List Blk)(r:AV)(U':St):Prop :=
 r=.bool (!(qF vs a).2)/\KpL [A] H U'.H/\(a≠[]->U'.H[A]?=some (.cells (zc (qF vs a).1)))
def qvF(A P:Nat)(p:Problem)(a:List Int)(H:List Blk)(T:List (Option Nat))(m:Nat)(ev:Env)(U:St):Prop :=
 ev 1=.ms A 0 a.length 1/\ev 2=.ptr P 0/\ev 5=.int .i64 ((m:Int)-1)/\m<=a.length/\(qF (p.vars.drop m) (a.drop m)).2=true/\∃H',U=⟨H',T⟩/\KpL [A] H H'/\H'[P]?=some (.cells (qt p))/\H'[A]?=some (.cells (zc (a.take m++(qF (p.vars.drop m) (a.drop m)).1)))
def qmM{A t p a H}(T)(hA:a≠[]->H[A]?=some (.cells (zc a)))(hl:a.length=p.vars.length)(hl2:a.length<=1000)(hok:okA p.vars a)(hw:∀v∈p.vars,0<=v.width/\v.width<=28) :
 qg prog GG 154 [.agg (qt p),Jd A t a] ⟨H,T⟩ (qqg A p.vars a H):=by
 refine qEI qe func154 rfl (by kernel_rfl) ?_;by_cases ha:a=[]
 . subst ha;have hv:=qAA hl.symm;have hq:∀u,qqg A p.vars [] H (.bool false) ⟨H++u,T⟩:=fun u=>⟨by rw[show qF p.vars []=([],true) by rw[hv];rfl];rfl,qFh,fun h=>absurd rfl h⟩
   simp[Jd];refine qEO (fun m ev U=>ev 5=.int .i64 (-1)/\∃u,U=⟨H++u,T⟩) 0 ⟨by simp;decide,_,rfl⟩ ?_;rintro m ev U R hR ⟨e5,u,rfl⟩;simp[e5];exact hq u
 have hA0:=hA ha;have hAl:=(qAm.1 hA0).1;have hrow:Jd A t a=.ms A 0 a.length 1:=if_neg ha;rw[hrow];simp;refine qEO (fun m ev U=>qvF A H.length p a H T m ev U) a.length ?_ ?_
 . refine⟨by simp,by simp,by simp;rw[wr (by omega) (by omega)],qAy _,?_,_,rfl,qFh,by simp,?_⟩
   . rw[hl,qBk,<- hl,qBk];rfl
   . rw[qBk,hl,qBk,<- hl,qB7];rw[show a++(qF [] []).1=a by show a++[]=a;rw[qA6]];exact qd hA0 _
 rintro m ev U R hR ⟨e1,e2,e5,hm,ho,H',rfl,hk,hP,hA'⟩;have hne:A≠H.length:=by omega
 simp only[qt]at hP
 cases m with
 | zero=>
  simp only[qBz,qDG,qAK]at ho hA';simp[e5];exact⟨by rw[ho];rfl,hk,fun _=>hA'⟩
 | succ m=>
  have hma:m<a.length:=by omega
  obtain⟨x,hx⟩:∃x,a[m]?=some x:=⟨_,qAo hma⟩;obtain⟨v,hv⟩:∃v,p.vars[m]?=some v:=⟨_,qAo (by omega)⟩;have hst:=qdZ hl hv hx ho;have hpre:=Yu hl m;have hwv:=hw v (qAn hv);have hs1:=wB hwv.1 hwv.2;have e5':ev 5=.int .i64 (m:Int):=by rw[e5];congr 1;omega
  have hw1:=wr (n:=(m:Int)-1) (by omega) (by omega);have hokx:v.mode≠0->0<=x/\x<(zP v:Nat):=fun hm0=>by
   have:=qf0 hok hv hx
   rwa[if_neg hm0]at this
  have hsz:zP v<=2^28:=qAV (by omega) (by omega);have hdl:(a.drop (m+1)).length=(p.vars.drop (m+1)).length:=by simp[hl]
  have hS:(a.take m).length+((qF (p.vars.drop (m+1)) (a.drop (m+1))).1.length+1)=a.length:=by
   rw[Zz hdl];simp;omega
  rw[show a.take (m+1)=a.take m++[x] by rw[qAT,hx];rfl]at hA';have hpl:(a.take m).length=m:=by simp;omega
  generalize hSS:(qF (p.vars.drop (m+1)) (a.drop (m+1))).1=S at *;generalize hPP:a.take m=P at *;simp only[qA4,qB5]at hA';have hen:∀y,zc (P++y::S)=zc P++.int .i64 y::zc S:=fun y=>by simp[zc]
  have hepl:(zc P).length=m:=by rw[qS,hpl]
  have hg:∀y,(zc P++AV.int .i64 y::zc S)[m]?=some (.int .i64 y):=fun y=>by
   rw[qAw (by omega),hepl,qBm];rfl
  have hd:∀y,(zc P++AV.int .i64 y::zc S).drop m=.int .i64 y::zc S:=fun y=>by
   rw[qB3 (by omega),qA3 (by omega)];rfl
  have hst2:∀y z,(zc P++AV.int .i64 y::zc S).set m (.int .i64 z)=zc P++.int .i64 z::zc S:=fun y z=>by
   rw[qBc _ _ (by omega),hepl,qBm];rfl
  have hlen2:∀y,(zc P++AV.int .i64 y::zc S).length=a.length:=fun y=>by
   rw[qAq,qAD,qS,qS];exact hS
  rw[hen]at hA';have hAl':=(qAm.1 hA').1;have hPset:∀y,(H'.set A y)[H.length]?=some (.cells (qt p)):=fun y=>by rw[qAp hne];exact hP
  have hAset:∀y,(H'.set A y)[A]?=some y:=fun y=>qAt hAl'
  have hml:m<p.vars.length:=by omega
  have hma1:m+1<=a.length:=hma;simp only[qt]at hPset;by_cases hm0:v.mode=0
  . rw[if_pos hm0]at hst;simp[e2,e5',hP,hv,hm0,hw1];refine hR m _ _ (by omega) ⟨by simp[e1],by simp[e2],by simp,by omega,by rw[hst],H',rfl,hk,hP,?_⟩;rw[hst];simp only[hPP];rw[hen];exact hA'
  have hx0:=hokx hm0;have hwx:=wr (n:=x+1) (by omega) (by omega);rw[if_neg hm0]at hst;have hwn:¬v.width<0:=by omega
  have hszv:zP v=2^v.width.toNat:=rfl;rw[<- hszv]at hs1;by_cases hx1:x+1<(zP v:Nat)
  . rw[if_pos hx1]at hst;have hpr:=hpre (by rw[hst]);rw[hst]at hpr;simp only at hpr;simp[e1,e2,e5',hP,hv,hm0,hw1,hA',hd,hst2,hlen2,hwx,hPset,hAset,hs1,hma,hma1,hwn,IntKind.bits,hx1];refine⟨by rw[hpr];rfl,hk.trans (qFi (by simp)),fun _=>?_⟩;rw[hpr,hen];exact hAset _
  rw[if_neg hx1]at hst;simp[e1,e2,e5',hP,hv,hm0,hw1,hA',hd,hst2,hlen2,hwx,hPset,hAset,hs1,hma,hma1,hwn,IntKind.bits,hx1];refine hR m _ _ (by omega) ⟨by simp[e1],by simp[e2],by simp,by omega,by rw[hst],_,rfl,hk.trans (qFi (by simp)),?_,?_⟩
  . rw[qAp hne];exact hP
  rw[hst];simp only[hPP];rw[hen];exact qAt hAl'
def qmK{A t a H}(hA:a≠[]->H[A]?=some (.cells (zc a))):Leq (frz H 8 (Jd A t a)) (.sl 1 (a.map qh) .none):=by
 by_cases ha:a=[]
 . subst ha;show Leq (frz H 8 (.sl 1 [] (.chain t 0))) _;rw[show frz H 8 (.sl 1 [] (.chain t 0))=.sl 1 [] .none by rw[frz];simp[qO]];exact qEQ _
 have hrow:Jd A t a=.ms A 0 a.length 1:=if_neg ha;rw[hrow];have ho:jx A 1 qh H (.ms A 0 a.length 1) a:=.inr ⟨ha,rfl,by rw[hA ha,jL]⟩;exact ho.frz (fun x=>by simp) (fun x=>by simp) (fun x=>by simp) 7
def qb8(p l)(hl:p.vars.length<=1000)(hs:yi p.vars=zz p.vars)(hw:∀v∈p.vars,0<=v.width/\v.width<=28)(hfl:Fits l)(hx:∀e∈l,Wen e/\hgt e<=1000/\(pre e).length<=100000) :
 Pure prog GG 102 [.agg (qt p),.sl 4 (l.map qp) .none] (.bool (jO p.vars l)):=by
 refine qEG qe func102 rfl (by kernel_rfl) ?_;have hfi:=qjt p hl [.cells (qt p)] [];obtain⟨r,hr⟩:∃r,r=jO p.vars l:=⟨_,rfl⟩;rw[<- hr];simp only[qt]at hfi;simp;refine qEM hfi ?_;rintro v ⟨H1,T1⟩ ⟨hk,A,t,rfl,hA⟩;rw[hs]at hA;simp only at hk hA;rw[hs];have hne0:zz p.vars≠[]->p.vars≠[]:=fun h e=>h (by rw[e];rfl)
 simp;refine qEO (fun n ev U=>∃a,ev 1=.sl 4 (l.map qp) .none/\ev 2=.ptr 0 0/\ev 5=Jd A t a/\(∃H T',U=⟨H,T'⟩/\H[0]?=some (.cells (qt p))/\(a≠[]->H[A]?=some (.cells (zc a))/\A≠0))/\okA p.vars a/\n=(we p.vars a).length/\r=(we p.vars a).any (kN p.vars l)) (we p.vars (zz p.vars)).length ?_ ?_
 . refine⟨zz p.vars,by simp,by simp,by simp,⟨H1,T1,rfl,(hk.2 0 _ (by simp) (by simp)),fun h=>?_⟩,vZ _,rfl,?_⟩
   . have:=hA (hne0 h);exact⟨this.1,by have:=this.2;simp at this;omega⟩
   . rw[hr,yq];rfl
 rintro n ev U R hR ⟨a,e1,e2,e5,⟨H,T',rfl,hP,hAa⟩,hok,rfl,hra⟩;have hlen:=hok.len;have hfs:=Qg hok;have hsat:=qam p a l hl (by show a.length<_;omega) hfl hx;have hnx:=qmM (A:=A) (t:=t) T' (fun h=>(hAa h).1) hlen (by omega) hok hw;simp only[qt]at hsat hnx hP;simp[e1,e2,e5,hP];refine qEL hsat rfl ?_ ?_
 . simp only[qAz,qAZ,zn,and_true];refine⟨?_,qmK fun h=>(hAa h).1,?_⟩
   . rw[qA (by simp)];exact qEQ _
   rw[qA (by simp)];exact qEQ _
 cases hsa:kN p.vars l a with
 | true=>
  have:r=true:=by rw[hra,hfs,qCn,hsa];rfl
  simp[this]
 | false=>
  simp[e2,e5,hP];refine qEM hnx ?_;rintro v2 ⟨H2,T2⟩ ⟨rfl,hk2,hA2⟩;simp only at hk2 hA2;have hPP:a≠[]->H2[0]?=some (.cells (qt p)):=fun h=>hk2.2 _ _ hP (by simp;exact Ne.symm (hAa h).2)
  cases ho:(qF p.vars a).2 with
  | true=>
   have:r=false:=by rw[hra,hfs,ho];simp[hsa]
   simp[this]
  | false=>
   rw[ho,if_neg (by simp)]at hfs;have ha:a≠[]:=fun e=>by
    have hv:=qAA (by rw[<- hlen,e];rfl);rw[hv,e]at ho;simp[qF]at ho
   have hl2:=Zz (vs:=p.vars) (a:=a) hlen;have hn2:(qF p.vars a).1≠[]:=fun e=>ha (qAA (by rw[<- hl2,e];rfl))
   simp[e5];refine hR (we p.vars (qF p.vars a).1).length _ _ (by rw[hfs];simp) ⟨(qF p.vars a).1,by simp[e1],by simp[e2],by simp[e5,show Jd A t a=Jd A t (qF p.vars a).1 by rw[Jd,Jd,if_neg ha,if_neg hn2,hl2]],⟨H2,T2,rfl,hPP ha,fun _=>⟨hA2 ha,(hAa ha).2⟩⟩,ZM hok,rfl,?_⟩;rw[hra,hfs,qCn,hsa];rfl
def qlI{H T}(X Y tx ty sx)(hx:sx=4\/X=[])(sy)(hy:sy=4\/Y=[])(hX:X.length+Y.length<=549755813888) :
 ∃ t1 T1 t2 T2,qr (Dof prog) ⟨H,T⟩ 23 (.sl 4 [] .tight) (.sl sx (X.map qp) tx)=some (.sl 4 (X.map qp) t1,⟨H,T1⟩) /\
  qr (Dof prog) ⟨H,T1⟩ 23 (.sl 4 (X.map qp) t1) (.sl sy (Y.map qp) ty)=some (.sl 4 ((X++Y).map qp) t2,⟨H,T2⟩):=by
 have hx1:X.length<=549755813888:=by omega
 by_cases h1:X=[]
 . subst h1;by_cases h2:Y=[]
   . subst h2;exact⟨.tight,T,.tight,T,by simp[qr,qY],by simp[qr,qY]⟩
   have hy:=hy.resolve_right h2;subst hy;exact⟨.tight,T,_,_,by simp[qr,qY],by simp[qr,qY,h2,show Y.length<=549755813888 by omega];exact⟨rfl,rfl⟩⟩
 have hx:=hx.resolve_right h1;subst hx;refine⟨.chain T.length X.length,T++[some X.length],?_⟩;by_cases h2:Y=[]
 . subst h2;exact⟨_,_,by simp[qr,qY,h1,hx1],by simp[qr,qY,hx1];exact⟨rfl,rfl⟩⟩
 have hy:=hy.resolve_right h2;subst hy;exact⟨_,_,by simp[qr,qY,h1,hx1],by simp[qr,qY,h2,hX];exact⟨rfl,rfl⟩⟩
def qsO{H T}(n l tok s)(hs:s=1\/l=[])(hl:l.length<=1000000) :
 ∃t1 T1,qr (Dof prog) ⟨H,T⟩ 28 (.sl 1 [[.int .i64 n]] .tight) (.sl s (l.map qh) tok)=some (.sl 1 ((n::l).map qh) t1,⟨H,T1⟩):=by
 by_cases h:l=[]
 . subst h;exact⟨.tight,T,by simp[qr,qY]⟩
 have hs:=hs.resolve_right h;subst hs;exact⟨_,_,by simp[qr,qY,h,show 1+l.length<=549755813888 by omega];exact⟨rfl,rfl⟩⟩
def qr7(H k s l tok):qO (frz H (k+1) (.sl s (l.map qh) tok))=true/\((s=1\/l=[])->Leq (frz H (k+1) (.sl s (l.map qh) tok)) (.sl 1 (l.map qh) .none)):=by
 refine⟨?_,fun h=>qnY (fun x=>by simp) (fun x=>by simp) H k l tok h⟩;have hr:qZ (l.map qh)=true:=by simp
 by_cases h:qO (.sl s (l.map qh) tok)=true
 . rw[qA h];exact h
 rw[frz,if_neg h,if_pos,vn hr]
 . simp only[qO,hr];rfl
 rw[vn hr,qAv];intro x hx;obtain⟨e,_,rfl⟩:=qAN.1 hx;simp[AV.atom]
def YX{p}(hv:qk p=0):yi p.vars=zz p.vars:=by
 unfold yi zz;apply qBv;intro v hm;have h:=z0 hv v hm;unfold jW at h;split at h
 . cases h
 split at h
 . cases h
 rename_i h2;by_cases h0:v.mode=0
 . rw[if_pos h0]
 rw[if_neg h0];by_cases hz:v.value=0
 . exact hz
 exact absurd (Or.inr (Or.inr (Or.inr (Or.inr (Or.inr (Or.inr ⟨h0,hz⟩)))))) h2
structure RfH(p):Prop where
 vq:VQ p
 flat:p.groups.flatten.length<4611686018427387904
 dists:p.dists.length<=10000
 soft:p.soft.length<=10000
 runs:∀d∈p.dists,∀v:Var,(Qz (Zv v d.weights)).length<=112
def qjr(p)(h:RfH p)(hv:qk p=0)(l)(hfl:Fits l)(hx:∀e∈l,wD p.vars e=true/\Jf e):Pure prog GG 102 [.agg (qt p),.sl 4 (l.map qp) .none] (.bool (jO p.vars l)) :=
 qb8 p l h.vq.vars (YX hv) (fun v hm=>by have:=zd (z0 hv v hm);omega) hfl fun e he=>(hx e he).2
def qmU(p)(h:RfH p):Pure prog GG 57 [.agg (qt p)] (.tup [.sl 1 ((yK p).1.map qh) .none,.int .i64 (yK p).2]):=by
 refine qEF o0 true qe func57 rfl (by kernel_rfl) ?_;have hval:=Yr p h.vq h.flat;have hsup:=Kq p h.vq h.flat h.dists h.runs;simp only[qt]at hval hsup;simp;refine qEJ (G:=zk GG) hval (by simp) ?_;by_cases hv:qk p=0
 case neg=>
  have hr:yK p=([],1):=if_neg hv;rw[hr];simp[hv];rw[qA (by simp)];exact⟨by simp,by simp[Leq,zn]⟩
 have hk:=v7 h.vq hv;have h1:=h.vq.hard;have h2:(jF p).length<=10000:=by
  have:jF p=wa p:=if_pos hv;rw[this,wa,qAY];exact h.dists
 have hNl:(zu p).length<=20000:=by rw[zu,qAq];omega
 have hpo:=fun l (hl:l.length<40000) (hx:∀e∈l,wD p.vars e=true/\Jf e)=>qjr p h hv l (by show l.length<_;omega) hx
 have hpo0:=hpo (zu p) (by omega) (fun e he=>hk e (qA7 _ he));simp only[qt]at hpo hpo0;obtain⟨t1,T1,t2,T2,ha1,ha2⟩:=qlI (H:=[.cells (qt p)]) (T:=[]) p.hard (jF p) .none .none 4 (.inl rfl) 4 (.inl rfl) (by omega);simp only[qt]at ha1 ha2;have hnd:p.hard++jF p=zu p:=rfl;rw[hnd]at ha2;simp[hv,qf,qm,ha1];refine qEJ (G:=zk GG) hsup (by simp) ?_;simp[ha2];refine qEK (G:=zk GG) hpo0 (by cases t2<;>simp) (by cases t2<;>simp[zn,Leq,qES]) ?_;by_cases hs:jO p.vars (zu p)=true
 case neg=>
  have hr:yK p=([],11):=by unfold yK;rw[if_pos hv,if_neg hs]
  rw[hr];simp[show jO p.vars (zu p)=false by simpa using hs,unA];rw[qA (by simp)];exact⟨by simp,by simp[Leq,zn]⟩
 have hr:yK p=((yl p.vars (zu p) (Zg p.soft)).reverse.map (·.1),0):=by unfold yK;rw[if_pos hv,if_pos hs]
 rw[hr];dsimp only;obtain⟨RES,hRES⟩:∃RES,RES=(yl p.vars (zu p) (Zg p.soft)).reverse.map (·.1):=⟨_,rfl⟩;rw[<- hRES];have hsof:=h.soft;clear ha1 ha2 hnd hsup hval;generalize zu p=N at *;generalize hL:Zg p.soft=L at *;have hLl:L.length=p.soft.length:=by rw[<- hL,qaz]
 have hw1:=wr (n:=(p.soft.length:Int)-1) (by omega) (by omega);simp[hs,unA,hw1];refine qEZ L (fun d ev U=>ev 1=.ptr 0 0/\ev 6=.int .i64 ((p.soft.length:Int)-1-d.length)/\∃R K tok s tokk T,(∀r,L=d++r->yl p.vars N L=K++yl p.vars R r)/\(∀e∈R,wD p.vars e=true/\Jf e)/\R.length<=20000+d.length/\K.length<=d.length/\ev 4=.sl 4 (R.map qp) tok/\(s=1\/K=[])/\ev 5=.sl s ((K.reverse.map (·.1)).map qh) tokk/\U=⟨[.cells (qt p)],T⟩) ?_ ?_ ?_
 . exact⟨by simp,by simp,N,[],t2,0,.nil,T2,fun r hr=>by rw[hr];rfl,(fun e he=>hk e (qA7 _ he)),by simpa using hNl,by simp,by simp,.inr rfl,by simp,by simp⟩
 . rintro d x rest ev U R0 hR hdl hx hlt ⟨e1,e6,R,K,tok,s,tokk,T,hkeep,hRk,hRl,hKl,e4,hsK,e5,rfl⟩;have hna:=qen (l:=p.soft) (k:=d.length) (q:=x) (by rw[hL];exact hx);obtain⟨n1,n2,n3⟩:=hna;have e6':ev 6=.int .i64 ((p.soft.length-1-d.length:Nat):Int):=(by rw[e6];congr 1;omega);have hxk:=hk x.2 (qBA _ (qAn n3));have hRk2:∀e∈R++[x.2],wD p.vars e=true/\Jf e:=fun e he=>by
    rcases qAC.1 he with he|he
    . exact hRk e he
    rw[qA2]at he;rw[he];exact hxk
   have hpo2:=hpo (R++[x.2]) (by rw[qAq,qAQ];omega) hRk2;obtain⟨q1,Q1,q2,Q2,ha1,ha2⟩:=qlI (H:=[.cells (qt p)]) (T:=T) R [x.2] tok .tight 4 (.inl rfl) 4 (.inl rfl) (by simp;omega);obtain⟨q3,Q3,ha3⟩:=qsO (H:=[.cells (qt p)]) (T:=Q2) x.1 (K.reverse.map (·.1)) tokk s (by rcases hsK with h|h;exact .inl h;exact .inr (by rw[h];rfl)) (by simp;omega);simp only[qt,qAz,qAZ,qh]at ha1 ha2 ha3;have ha:=yF x.2;have hl4:=zh x.2;have hw2:=wr (n:=((p.soft.length-1-d.length:Nat):Int)-1) (by omega) (by omega);have hEx:=n2;generalize hI:p.soft.length-1-d.length=I at *;have htk:(qp x.2).take 4=qp x.2:=qAs (by rw[hl4];exact qAy _);obtain⟨KL,hKL⟩:∃KL,KL=K.reverse.map (·.1):=⟨_,rfl⟩;rw[<- hKL]at ha3 e5;obtain⟨RX,hRX⟩:∃RX,RX=R++[x.2]:=⟨_,rfl⟩;rw[<- hRX]at ha2 hpo2 hRk2;simp[-qV,e1,e4,e6',show(0:Int)<=((p.soft.length-1-d.length:Nat):Int) by omega,n3,htk,ha,hl4,qf,qm,ha1,ha2];refine qEK (G:=zk GG) hpo2 (by cases q2<;>simp) (by cases q2<;>simp[zn,Leq,qES]) ?_;have hkp:∀r,L=(d++[x])++r->yl p.vars N L=K++yl p.vars R (x::r):=fun r hr=>hkeep (x::r) (by rw[hr];simp)
   rw[hEx]at ha3
   cases hso3:jO p.vars RX with
   | true=>
    simp[-qV,e5,e6',hw2,qf,qm,ha3];refine hR _ _ ⟨by simp[e1],by simp;omega,RX,K++[x],q2,1,q3,Q3,fun r hr=>?_,hRk2,by rw[hRX];simp;omega,by simp;omega,by simp,.inl rfl,?_,rfl⟩
    . rw[hkp r hr,yl,<- hRX,if_pos hso3];simp
    simp[hKL,hEx]
   | false=>
    simp[-qV,e6',hw2];refine hR _ _ ⟨by simp[e1],by simp;omega,R,K,tok,s,tokk,Q2,fun r hr=>?_,hRk,by simp;omega,by simp;omega,by simp[e4],hsK,by simp[e5,hKL],rfl⟩;rw[hkp r hr,yl,<- hRX,if_neg (by simp[hso3])]
 rintro ev U ⟨e1,e6,R,K,tok,s,tokk,T,hkeep,hRk,hRl,hKl,e4,hsK,e5,rfl⟩;have hKR:K.reverse.map (·.1)=RES:=by rw[show K=yl p.vars N L by rw[hkeep [] (by simp)];simp[yl]];exact hRES.symm
 have hsR:s=1\/RES=[]:=by
  rcases hsK with h|h
  . exact .inl h
  right;rw[<- hKR,h];rfl
 rw[hKR]at e5;simp[e5,show ev 6=.int .i64 (-1) by rw[e6,hLl];congr 1;omega];have hf:=qr7 [.cells [.sl 4 (p.vars.map qJ) .none,.sl 4 (p.hard.map qp) .none,.sl 4 (p.soft.map qp) .none,.sl 2 (p.dists.map zl) .none,.sl 1 (p.groups.map qx) .none]] 6 s RES tokk;refine wy hf.1 (hf.2 hsR) fun _=>?_
 rcases hsR with h|h
 . rw[h];simp[Leq,qES]
 rw[h];simp[Leq]
def qgR(tok:Abs.Tok)(T:List (Option Nat)):Prop:=tok=.tight\/∃t k,tok=.chain t k/\T[t]?=some (some k)
def qez{H T X Y tok ty sy}(hg:qgR tok T)(hy:sy=4\/Y=[])(hX:X.length+Y.length<=549755813888) :
 ∃t2 T2,qr (Dof prog) ⟨H,T⟩ 23 (.sl 4 (X.map qp) tok) (.sl sy (Y.map qp) ty)=some (.sl 4 ((X++Y).map qp) t2,⟨H,T2⟩)/\qgR t2 T2:=by
 by_cases h2:Y=[]
 . subst h2;exact⟨tok,T,by simp[qr,qY,show X.length<=549755813888 by omega],hg⟩
 have hy:=hy.resolve_right h2;subst hy;rcases hg with rfl|⟨t,k,rfl,ht⟩
 . exact⟨.chain T.length Y.length,T++[some Y.length],by simp[qr,qY,h2,hX],.inr ⟨_,_,rfl,by simp⟩⟩
 have hl:=(qAm.1 ht).1;exact⟨.chain t (k+Y.length),T.set t (some (k+Y.length)),by simp[qr,qY,h2,hX,ht],.inr ⟨_,_,rfl,by simp[hl]⟩⟩
def qr8(H k)(l:List Ex)(tok):qO (frz H (k+1) (.sl 4 (l.map qp) tok))=true/\Leq (frz H (k+1) (.sl 4 (l.map qp) tok)) (.sl 4 (l.map qp) .none):=by
 refine⟨?_,qky (fun x=>qwg x) (fun x=>jr x) H k l tok⟩;have hr:=quu l;by_cases h:qO (.sl 4 (l.map qp) tok)=true
 . rw[qA h];exact h
 rw[frz,if_neg h,if_pos,vn hr]
 . simp only[qO,hr];rfl
 rw[vn hr,qAv];intro x hx;obtain⟨e,_,rfl⟩:=qAN.1 hx;exact jr e
def qmT(p)(h:RfH p):Pure prog GG 30 [.agg (qt p)] (.tup [.sl 4 ((qE p).1.map qp) .none,.int .i64 (qE p).2]):=by
 have hkp:=qmU p h;refine qEF o0 true qe func30 rfl (by kernel_rfl) ?_;by_cases he:(yK p).2=0
 case neg=>
  have hre:=wL p;have hr0:(qE p).1=[]:=by
   unfold qE yK at *;split
   . rename_i hv;split
     . rename_i hs;rw[if_pos hv,if_pos hs]at he;exact absurd rfl he
     rfl
   rfl
  rw[hr0,hre];simp only[qt]at hkp;simp;refine qEJ (G:=zk GG) hkp (by simp) ?_;simp[he];rw[qA (by simp)];exact⟨by simp,by simp[Leq,zn]⟩
 obtain⟨hv,hs,hrr,hk1⟩:=vU he;rw[hk1,he]at hkp;rw[hrr];dsimp only;have hkl:=qaK p;have hka:=fun q (hq:q∈Zh p)=>qet hq
 generalize hKS:Zh p=KS at *;have hsup:=Kq p h.vq h.flat h.dists h.runs;have h1:=h.vq.hard;have h2:(jF p).length<=10000:=by
  have:jF p=wa p:=if_pos hv;rw[this,wa,qAY];exact h.dists
 have hso:=h.soft;obtain⟨RES,hRES⟩:∃RES,RES=zu p++KS.map (·.2):=⟨_,rfl⟩;rw[<- hRES];obtain⟨KI,hKI⟩:∃KI,KI=KS.map (·.1):=⟨_,rfl⟩;rw[<- hKI]at hkp;have hKIl:KI.length=KS.length:=by rw[hKI,qAY]
 obtain⟨t1,T1,ha1,hg1⟩:=qez (H:=[.cells (qt p)]) (T:=[]) (X:=[]) (Y:=p.hard) (tok:=.tight) (ty:=.none) (sy:=4) (.inl rfl) (.inl rfl) (by simp;omega);obtain⟨t2,T2,ha2,hg2⟩:=qez (H:=[.cells (qt p)]) (T:=T1) (X:=p.hard) (Y:=jF p) (tok:=t1) (ty:=.none) (sy:=4) hg1 (.inl rfl) (by omega);simp only[qt,qAZ,qAK]at ha1 ha2 hkp hsup;have hnd:p.hard++jF p=zu p:=rfl;rw[hnd]at ha2;have hNl:(zu p).length<=20000:=by rw[zu,qAq];omega
 generalize zu p=N at *;simp;refine qEJ (G:=zk GG) hkp (by simp) ?_;simp[qf,qm,ha1];refine qEJ (G:=zk GG) hsup (by simp) ?_;simp[ha2];refine qEZ KS (fun d ev U=>ev 1=.ptr 0 0/\ev 4=.sl 1 (KI.map qh) .none/\ev 7=.int .i64 d.length/\∃tok T,qgR tok T/\ev 6=.sl 4 ((N++d.map (·.2)).map qp) tok/\U=⟨[.cells (qt p)],T⟩) ?_ ?_ ?_
 . exact⟨by simp,by simp,by simp,t2,T2,hg2,by simp,by simp⟩
 . rintro d q rest ev U R hR hdl hx hlt ⟨e1,e4,e7,tok,T,hg,e6,rfl⟩;have hdw:=wr (n:=(d.length:Int)+1) (by omega) (by omega);have hlt':d.length<KI.length:=(by omega);obtain⟨k,hk1,hk2⟩:=hka q (qAn hx);have hkl2:=(qAm.1 hk2).1;have hKx:KI[d.length]?=some (k:Int):=(by rw[hKI,qAR,hx];simp[hk1]);obtain⟨t3,T3,ha3,hg3⟩:=qez (H:=[.cells (qt p)]) (T:=T) (X:=N++d.map (·.2)) (Y:=[q.2]) (tok:=tok) (ty:=.tight) (sy:=4) hg (.inl rfl) (by simp;omega);have hsn:N++(d++[q]).map (·.2)=N++d.map (·.2)++[q.2]:=(by simp);rw[<- hsn]at ha3;obtain⟨X1,hX1⟩:∃X1,X1=N++d.map (·.2):=⟨_,rfl⟩;obtain⟨X2,hX2⟩:∃X2,X2=N++(d++[q]).map (·.2):=⟨_,rfl⟩;rw[<- hX1]at ha3 e6;rw[<- hX2]at ha3;have ha:=yF q.2;have hl4:=zh q.2;have htk:(qp q.2).take 4=qp q.2:=qAs (by rw[hl4];exact qAy _);simp only[qt,qAz,qAZ]at ha3;simp[-getElem?_pos,-qV,e1,e4,e6,e7,hlt',hKx,hk2,htk,ha,hl4,qf,qm,ha3,hdw];exact hR _ _ ⟨by simp[e1],by simp[e4],by simp,t3,T3,hg3,by simp[hX2],rfl⟩
 rintro ev U ⟨e1,e4,e7,tok,T,hg,e6,rfl⟩;rw[<- hRES]at e6;simp[e4,e6,e7,hKIl];have hf:=qr8 [.cells [.sl 4 (p.vars.map qJ) .none,.sl 4 (p.hard.map qp) .none,.sl 4 (p.soft.map qp) .none,.sl 2 (p.dists.map zl) .none,.sl 1 (p.groups.map qx) .none]] 6 RES tok;exact wy hf.1 hf.2 fun _=>by simp[Leq,qES]
def qsj(p)(hl:p.vars.length<=1000):Pure prog GG 31 [.agg (qt p)] (.sl 1 ((p.vars.map Var.value).map qh) .none):=by
 refine qEG qe func31 rfl (by kernel_rfl) ?_;obtain⟨S,hS⟩:∃S,S=p.vars.map Var.value:=⟨_,rfl⟩;rw[<- hS];simp[-getElem?_pos];refine qEN p.vars (fun d env U=>env 1=.ptr 0 0/\env 3=QS 1 qh 0 (d.map Var.value)/\env 4=.int .i64 d.length/\U=⟨[.cells (qt p)],yI [] (d.map Var.value)⟩) ?_ ?_ ?_
 . simp
 . rintro d v s env U hd hv hlt ⟨e1,e3,e4,rfl⟩;have hw:=wr (n:=(d.length:Int)+1) (by omega) (by omega);have hap:=qp4 [.cells (qt p)] (d.map Var.value) v.value (by simp;omega);simp only[qt]at hap;simp[-getElem?_pos,e1,e3,e4,hlt,hv,qJ,qf,qm,hap,hw]
 rintro env U ⟨e1,e3,e4,rfl⟩;rw[<- hS]at e3⊢;simp[-getElem?_pos,-fin,-ky,-vG,e1,e3,e4]
noncomputable def qiw(p:Problem)(l:List Ex)(a:List Int):Bool:=l.all fun e=>decide (Qk (yg p.vars a) e=0)&&!decide (jw (yg p.vars a) e=0)
def qb4(p l a)(hl:p.vars.length<=1000)(ha:Fits a)(hf:Fits l)(hx:∀e∈l,Wen e/\hgt e<=1000/\(pre e).length<=100000) :
 Pure prog GG 98 [.agg (qt p),.sl 4 (l.map qp) .none,.sl 1 (a.map qh) .none] (.bool (qiw p l a)):=by
 refine qEG qe func98 rfl (by kernel_rfl) ?_;obtain⟨r,hr⟩:∃r,r=qiw p l a:=⟨_,rfl⟩;rw[<- hr];have hen:=qpe p a hl ha;simp only[qt]at hen;have hfe:Fits (yg p.vars a):=by
  have:=qaY (l:=p.vars) (a:=a);unfold Fits;omega
 simp[-getElem?_pos];refine qEJ (G:=zk GG) hen (by simp) ?_;simp[-getElem?_pos];refine qEN l (fun d env U=>env 1=.sl 4 (l.map qp) .none/\env 7=.sl 2 ((yg p.vars a).map qG) .none/\env 8=.int .i64 d.length/\U=⟨[.cells (qt p)],[]⟩/\qiw p d a=true) ?_ ?_ ?_
 . simp[qiw]
 . rintro d e s env U hd hv hlt ⟨e1,e7,e8,rfl,hs⟩;have hw:=wr (n:=(d.length:Int)+1) (by omega) (by omega);obtain⟨t1,t2,t3⟩:=hx e (qAn hv);have hev:=qjv (yg p.vars a) hfe e t1 t2 t3;rw[qc e]at hev;have bad:(decide (Qk (yg p.vars a) e=0)&&!decide (jw (yg p.vars a) e=0))=false->r=false:=fun h=>by
    rw[hr,qBD];intro h2;unfold qiw at h2;have:=qAv.1 h2 e (qAn hv);rw[h]at this;cases this
   simp[-getElem?_pos,e1,e7,e8,hlt,hv,qc e];refine qEJ (G:=zk GG) hev (by simp) ?_;by_cases h1:Qk (yg p.vars a) e=0
   . by_cases h2:jw (yg p.vars a) e=0
     . have hb:=bad (by simp[h2]);simp[-getElem?_pos,h1,h2,hb]
     . simp[-getElem?_pos,e1,e7,e8,h1,h2,hw];unfold qiw at hs⊢;rw[qBX,hs];simp[h1,h2]
   have hb:=bad (by simp[h1]);simp[-getElem?_pos,h1,hb]
 rintro env U ⟨e1,e7,e8,rfl,hs⟩;have:r=true:=by rw[hr,hs]
 simp[-getElem?_pos,e1,e8,this]
def WN(vs:List Var)(a:List Int):List Int×Bool:=if(qF vs a).2=true then([],false) else((qF vs a).1,true)
def qzB(p:Problem)(a:List Int)(m:Nat)(ev:Env)(U:St):Prop :=
 ev 2=.ptr 0 0/\ev 6=.ms 1 0 a.length 1/\ev 7=.int .i64 ((m:Int)-1)/\m<=a.length/\(qF (p.vars.drop m) (a.drop m)).2=true/\∃T,U=⟨[.cells (qt p),.cells (zc (a.take m++(qF (p.vars.drop m) (a.drop m)).1))],T⟩
def qmN(p a)(hl:a.length=p.vars.length)(hl2:a.length<=1000)(hok:okA p.vars a)(hw:∀v∈p.vars,0<=v.width/\v.width<=28) :
 Pure prog GG 99 [.agg (qt p),.sl 1 (a.map qh) .none] (.tup [.sl 1 ((WN p.vars a).1.map qh) .none,.bool (WN p.vars a).2]):=by
 refine qEF oM true qe func99 rfl (by kernel_rfl) ?_;by_cases ha:a=[]
 . subst ha;have hv:=qAA hl.symm;rw[show WN p.vars []=([],false) by rw[hv];rfl];simp[oM,zq,zX,qQ,Yv,qr,qY];refine qEO (fun m ev U=>ev 7=.int .i64 (-1)) 0 (by simp;decide) ?_;rintro m ev U R hR e7;simp[e7];rw[qA (by simp)];exact⟨by simp,by simp[Leq,zn]⟩
 have hl0:=qAI.2 ha;simp[oM,zq,zX,qQ,Yv,show ¬(a.length=0) by omega,show a.length<=549755813888 by omega,ha];refine qEO (fun m ev U=>qzB p a m ev U) a.length ?_ ?_
 . refine⟨by simp,by simp,by simp;rw[wr (by omega) (by omega)],qAy _,?_,[],?_⟩
   . rw[hl,qBk,<- hl,qBk];rfl
   . rw[qBk,hl,qBk,<- hl,qB7];have e0:a++(qF [] []).1=a:=(by show a++[]=a;rw[qA6]);rw[e0,jL,qBM];simp
 rintro m ev U R hR ⟨e2,e6,e7,hm,ho,T,rfl⟩
 cases m with
 | zero=>
  simp only[qBz,qAK]at ho;have hn:WN p.vars a=([],false):=if_pos ho;simp[e7,hn];rw[qA (by simp)];exact⟨by simp,by simp[Leq,zn]⟩
 | succ m=>
  have hma:m<a.length:=by omega
  obtain⟨x,hx⟩:∃x,a[m]?=some x:=⟨_,qAo hma⟩;obtain⟨v,hv⟩:∃v,p.vars[m]?=some v:=⟨_,qAo (by omega)⟩;have hst:=qdZ hl hv hx ho;have hpre:=Yu hl m;have hwv:=hw v (qAn hv);have hs1:=wB hwv.1 hwv.2;have e7':ev 7=.int .i64 (m:Int):=by rw[e7];congr 1;omega
  have hw1:=wr (n:=(m:Int)-1) (by omega) (by omega);have hokx:v.mode≠0->0<=x/\x<(zP v:Nat):=fun hm0=>by
   have:=qf0 hok hv hx
   rwa[if_neg hm0]at this
  have hsz:zP v<=2^28:=qAV (by omega) (by omega);have hdl:(a.drop (m+1)).length=(p.vars.drop (m+1)).length:=by simp[hl]
  have hS:(a.take m).length+((qF (p.vars.drop (m+1)) (a.drop (m+1))).1.length+1)=a.length:=by
   rw[Zz hdl];simp;omega
  rw[show a.take (m+1)=a.take m++[x] by rw[qAT,hx];rfl];have hpl:(a.take m).length=m:=by simp;omega
  generalize hSS:(qF (p.vars.drop (m+1)) (a.drop (m+1))).1=S at *;generalize hPP:a.take m=P at *;simp only[qA4,qB5];have hen:∀y,zc (P++y::S)=zc P++.int .i64 y::zc S:=fun y=>by simp[zc]
  have hepl:(zc P).length=m:=by rw[qS,hpl]
  have hg:∀y,(zc P++AV.int .i64 y::zc S)[m]?=some (.int .i64 y):=fun y=>by
   rw[qAw (by omega),hepl,qBm];rfl
  have hd:∀y,(zc P++AV.int .i64 y::zc S).drop m=.int .i64 y::zc S:=fun y=>by
   rw[qB3 (by omega),qA3 (by omega)];rfl
  have hst2:∀y z,(zc P++AV.int .i64 y::zc S).set m (.int .i64 z)=zc P++.int .i64 z::zc S:=fun y z=>by
   rw[qBc _ _ (by omega),hepl,qBm];rfl
  have hlen2:∀y,(zc P++AV.int .i64 y::zc S).length=a.length:=fun y=>by
   rw[qAq,qAD,qS,qS];exact hS
  rw[hen];have hml:m<p.vars.length:=by omega
  have hma1:m+1<=a.length:=hma;by_cases hm0:v.mode=0
  . rw[if_pos hm0]at hst;simp[e2,e7',hv,hm0,hw1];refine hR m _ _ (by omega) ⟨by simp[e2],by simp[e6],by simp,by omega,by rw[hst],T,?_⟩;rw[hst];simp only[hPP];rw[hen];simp
  have hx0:=hokx hm0;have hwx:=wr (n:=x+1) (by omega) (by omega);rw[if_neg hm0]at hst;have hwn:¬v.width<0:=by omega
  have hszv:zP v=2^v.width.toNat:=rfl;rw[<- hszv]at hs1;by_cases hx1:x+1<(zP v:Nat)
  . rw[if_pos hx1]at hst;have hpr:=hpre (by rw[hst]);rw[hst]at hpr;simp only at hpr;rw[show WN p.vars a=(P++(x+1)::S,true) by unfold WN;rw[hpr];rfl];simp[e2,e6,e7',hv,hm0,hw1,hd,hst2,hlen2,hwx,hs1,hma,hma1,hwn,IntKind.bits,hx1];rw[show zc P++AV.int .i64 (x+1)::zc S=(P++(x+1)::S).flatMap qh by rw[<- jL,hen],show a.length=(P++(x+1)::S).length by simp;omega];obtain⟨H,hH⟩:∃H:List Blk,H=[.cells (qt p),.cells ((P++(x+1)::S).flatMap qh)]:=⟨_,rfl⟩;simp only[qt]at hH;rw[<- hH];have ho:jx 1 1 qh H (.ms 1 0 (P++(x+1)::S).length 1) (P++(x+1)::S):=.inr ⟨by simp,rfl,by rw[hH];rfl⟩;have f1:=ho.frz (fun x=>by simp) (fun x=>by simp) (fun x=>by simp) 6;have f2:=ho.frzNo (fun x=>by simp) (fun x=>by simp) (fun x=>by simp) 6;rw[frz,if_neg (by simp[qO,qz])];simp only[qAz,qAZ,qaN,qO,qz,Leq,zn,qCo,and_true];refine⟨f2,?_⟩;simpa[qh] using f1
  rw[if_neg hx1]at hst;simp[e2,e6,e7',hv,hm0,hw1,hd,hst2,hlen2,hwx,hs1,hma,hma1,hwn,IntKind.bits,hx1];refine hR m _ _ (by omega) ⟨by simp[e2],by simp[e6],by simp,by omega,by rw[hst],T,?_⟩;rw[hst];simp only[hPP];rw[hen];simp
def qvx(H s n)(hs:s.length<2^30):qr (Dof prog) ⟨H,yI [] s⟩ 25 (QS 1 qx 0 s) (.sl 1 [[.sl 1 (n.map qh) .none]] .tight)=some (QS 1 qx 0 (s++[n]),⟨H,yI [] (s++[n])⟩) :=
 yU (D:=Dof prog) (sz:=1) (T:=[]) (H:=H) (m:=[n]) (en:=qx) D25 rfl D28 rfl (by decide) rfl (by decide) (by simp only[qAQ];omega) 1 (.inl rfl)
noncomputable def qd6(p:Problem)(l:List Ex):List (List Int):=(jV p.vars).filter (qiw p l)
def qal(p l)(hl:p.vars.length<=1000)(hs:p.vars.map Var.value=zz p.vars)(hw:∀v∈p.vars,0<=v.width/\v.width<=28)(hfl:Fits l)(hx:∀e∈l,Wen e/\hgt e<=1000/\(pre e).length<=100000)(hn:(jV p.vars).length<2^30) :
 Pure prog GG 55 [.agg (qt p),.sl 4 (l.map qp) .none] (.sl 1 ((qd6 p l).map qx) .none):=by
 refine qEG qe func55 rfl (by kernel_rfl) ?_;obtain⟨S,hS⟩:∃S,S=qd6 p l:=⟨_,rfl⟩;rw[<- hS];have hf:=qsj p hl;rw[hs]at hf;have hsat:=fun(a:List Int) (ha:okA p.vars a)=>qb4 p l a hl (by have:=ha.len;unfold Fits;omega) hfl hx
 have hnx:=fun(a:List Int) (ha:okA p.vars a)=>qmN p a ha.len (by have:=ha.len;omega) ha hw
 simp only[qt]at hf hsat hnx;simp;refine qEJ (G:=zk GG) hf (by simp) ?_;simp;have hSl:S.length<2^30:=by rw[hS];unfold qd6;exact qBZ (qCq _ _) hn
 refine qEO (fun n ev U=>∃s a,ev 1=.sl 4 (l.map qp) .none/\ev 2=.ptr 0 0/\ev 5=QS 1 qx 0 s/\ev 6=.sl 1 (a.map qh) .none/\U=⟨[.cells (qt p)],yI [] s⟩/\((ev 7=.bool true/\okA p.vars a/\n=(we p.vars a).length/\S=s++(we p.vars a).filter (qiw p l))\/(ev 7=.bool false/\n=0/\S=s))) (jV p.vars).length ?_ ?_
 . refine⟨[],zz p.vars,by simp,by simp,by simp,by simp,by simp,.inl ⟨by simp,vZ _,by rw[yq],?_⟩⟩;rw[yq,hS];rfl
 rintro n ev U R hR ⟨s,a,e1,e2,e5,e6,rfl,h|⟨e7,rfl,rfl⟩⟩
 . obtain⟨e7,hok,rfl,hSs⟩:=h;have hfs:=Qg hok;have hap:=qvx [.cells (qt p)] s a (by rw[hSs]at hSl;simp at hSl;omega);simp only[qt]at hap;have go:∀(s':List (List Int)) (ev':Env),ev' 1=.sl 4 (l.map qp) .none->ev' 2=.ptr 0 0->ev' 5=QS 1 qx 0 s'->ev' 6=.sl 1 ((WN p.vars a).1.map qh) .none->ev' 7=.bool (WN p.vars a).2->S=s'++(if(qF p.vars a).2=true then [] else we p.vars (qF p.vars a).1).filter (qiw p l)->R ev' ⟨[.cells (qt p)],yI [] s'⟩:=by
    intro s' ev' a1 a2 a5 a6 a7 hS';by_cases ho:(qF p.vars a).2=true
    . have hn0:WN p.vars a=([],false):=if_pos ho;rw[hn0]at a6 a7;rw[if_pos ho]at hS';exact hR 0 _ _ (by rw[hfs];simp) ⟨s',[],a1,a2,a5,a6,rfl,.inr ⟨a7,rfl,by simpa using hS'⟩⟩
    have hn0:WN p.vars a=((qF p.vars a).1,true):=if_neg ho;rw[hn0]at a6 a7;rw[if_neg ho]at hS';exact hR (we p.vars (qF p.vars a).1).length _ _ (by rw[hfs,if_neg ho];simp) ⟨s',(qF p.vars a).1,a1,a2,a5,a6,rfl,.inl ⟨a7,ZM hok,rfl,hS'⟩⟩
   rw[hfs,qC2]at hSs;simp only[qt]at go;simp[e1,e2,e6,e7];refine qEJ (G:=zk GG) (hsat a hok) (by simp) ?_
   cases hc:qiw p l a with
   | true=>
    rw[hc,if_pos rfl]at hSs;simp[e2,e5,e6,qf,qm,hap];refine qEJ (G:=zk GG) (hnx a hok) (by simp) ?_;simp;exact go (s++[a]) _ (by simp[e1]) (by simp[e2]) (by simp) (by simp) (by simp) (by rw[hSs];simp)
   | false=>
    rw[hc,if_neg (by simp)]at hSs;simp[e2,e6];refine qEJ (G:=zk GG) (hnx a hok) (by simp) ?_;simp;exact go s _ (by simp[e1]) (by simp[e2]) (by simp[e5]) (by simp) (by simp) hSs
 simp[-fin,-ky,-vG,e5,e7]
def qmu(vs d)(h:d.weights=[]):vE vs d=jD 0:=by
 unfold vE;split
 . rename_i v _;have:Zv v d.weights=[]:=by
    unfold Zv;rw[h];have:(vI [])=fun _=>false:=by funext n;rfl
    rw[this];simp
   rw[this];rfl
 rfl
def qqW(vs l a)(h:jD 0∈l):kN vs l a=false:=by
 have h0:jw (yg vs a) (jD 0)=0:=by
  unfold jw;split
  . rw[yO];simp[jD,vl,Ex.op,Ex.n]
  rfl
 unfold kN;rw[qDq];exact⟨_,h,by simp[h0]⟩
def Zd{p}(h:VQ p)(hd:p.dists.length<=10000)(hs5:p.soft.length<=10000)(he:(qE p).2=0) :
 qk p=0/\(∀e∈(qE p).1,zy p.vars e=0/\Jf e)/\(qE p).1.length<=50000/\∀d∈p.dists,d.weights≠[]:=by
 obtain⟨hv,hsat,hR,_⟩:=vU (by rw[<- wL];exact he);have hnk:=v7 h hv;have hsl:jF p=wa p:=by unfold jF;rw[if_pos hv]
 rw[hR];refine⟨hv,fun e hm=>?_,?_,fun d hdm hw=>?_⟩
 . have hmm:e∈zu p++p.soft:=by
    rcases qAC.1 hm with hm|hm
    . exact qAC.2 (.inl hm)
    obtain⟨q,hq,rfl⟩:=qAN.1 hm;obtain⟨k,_,hk⟩:=qet hq;exact qAC.2 (.inr (qAn hk))
   have:=hnk e hmm;exact⟨by simpa[wD] using this.1,this.2⟩
 . have h1:=qaK p;have h2:=h.hard;have h3:(wa p).length=p.dists.length:=(by simp[wa]);simp only[qAq,qAY,zu,hsl];omega
 have hin:jD 0∈zu p:=by
  unfold zu;rw[hsl];exact qAC.2 (.inr (qAN.2 ⟨d,hdm,qmu _ _ hw⟩))
 unfold jO at hsat;obtain⟨a,_,ha⟩:=qAW.1 hsat;rw[qqW _ _ _ hin]at ha;cases ha
def qrl:List (Nat×Sch×List Nat):=[(4,.step 1 [8,7,6] (.step 2 [8,7,6,5,3] (.step 3 [8,7,6,5] (.step 4 [8,7,6,5] (.fork (.cons 0 (.step 5 [8,7,6] (.step 6 [8,7] (.step 7 [8] (.step 8 [] (.done))))) (.cons 5 (.step 0 [8,7,6] (.step 6 [8,7] (.step 7 [8] (.step 8 [] (.done))))) (.nil))))))),[5])]
def OpQ(p:Problem)(H:List Blk)(r:AV)(U':St):Prop :=
 KpL [] H U'.H/\(((qE p).2≠0/\r=.tup [.nilp,.int .i64 (qE p).2]) \/
  ((qE p).2=0/\∃s d,r=.tup [.ptr s.S 0,.int .i64 0]/\H.length<=s.S/\H.length<=s.L/\H.length<=s.LL/\s.p=p/\s.R=(qE p).1/\SpOk s U'.H/\SpV s d /\
    (s.small=true->∀b,evD d b s.root=kN p.vars (qE p).1 (QM p.vars (qN p) b))))
def qfT(p)(h:VQ p)(hv20:p.vars.length<=20)(hb:kl p.vars (qK p)<=18)(hd:p.dists.length<=10000)(hs5:p.soft.length<=10000)(hws:∀d∈p.dists,d.weights.length<=1000)(H T) :
 qg prog GG 21 [.agg (qt p)] ⟨H,T⟩ (OpQ p H):=by
 refine qEH ⟨false,qrl,[],[]⟩ qe func21 rfl (by kernel_rfl) ?_;by_cases he:(qE p).2=0
 case neg=>
  have hr:=qlT p h hv20 hb hd hs5;simp;refine qEJ hr (by simp) ?_;have hq:∀u T',OpQ p H (.tup [.nilp,.int .i64 (qE p).2]) ⟨H++u,T'⟩:=fun u T'=>⟨qFh,.inl ⟨he,rfl⟩⟩
  generalize (qE p).2=er at *;simp[he];exact hq _ _
 case pos=>
  obtain⟨hv,hk,hl,hwn⟩:=Zd h hd hs5 he;have hlv:=qdv p h hv;simp;refine qEM (qoX p h hv20 hb hd hs5 he _ _) ?_;rintro r ⟨H1,T1⟩ ⟨tok,rfl,htok,hk1⟩;have bx:=hk1.2 _ _ lk0 (by simp);have hlen1:=hk1.1;simp only[qAq,qAD,qBh]at hlen1;obtain⟨R,hR⟩:∃R,R=(qE p).1:=⟨_,rfl⟩;rw[<- hR]at htok hk hl⊢;simp;rw[qR rfl];simp only[qt]at hlv;simp[ze,bx];refine qEJ hlv (by simp) ?_;simp[ze,bx];have hwg:=qmc p h hv H1 T1;simp only[qt]at hwg;refine⟨qEM hwg ?_,qEM hwg ?_⟩
  all_goals
   rintro r ⟨H2,T2⟩ ⟨hk2,L,LL,rfl,hL1,hL2,hwf⟩;have bx2:=hk2.2 _ _ bx (by simp);have hkH2:=(qFh.trans hk1).trans hk2;have hLlt:L<H2.length:=(by obtain⟨c,hc,_⟩:=hwf;exact(qAm.1 hc).1);obtain⟨LL',hLL',hLL1,hwf'⟩:∃LL',LL' < H2.length/\H.length<=LL'/\WFn p L LL' H2:=by
    obtain⟨c,hc,hc2⟩:=hwf;by_cases hpv:p.vars=[]
    . exact⟨L,hLlt,by omega,c,hc,fun hn=>absurd hpv hn⟩
    exact⟨LL,(qAm.1 (hc2 hpv).2).1,by omega,c,hc,hc2⟩
   simp[ze,bx2,qd bx2,zs,zW,qM];refine qEM ((qvO p h hv R (by omega) hk _ _).leq (by simp[qt])) ?_;rintro r ⟨H3,T3⟩ ⟨hk3,hr⟩;dsimp only at hk3;have bS:=hk3.2 _ _ lk0 (by simp);have hSl:=(qAm.1 bS).1;have hkH3:KpL [] H H3:=hkH2.trans (qFh.trans hk3);have hwf3:WFn p L LL' H3:=by
    obtain⟨c,hL,hc⟩:=hwf';have hk':=qFh.trans hk3;exact⟨c,hk'.2 _ _ hL (by simp),fun hn=>⟨(hc hn).1,hk'.2 _ _ (hc hn).2 (by simp)⟩⟩
   have hws':∀(i:Nat) (w:List Weight),(z8 p.vars.length p.dists)[i]?=some (some w)->w≠[]/\w.length<=1000:=fun i w hi=>by
    obtain⟨d,hd,rfl⟩:=qhW (qAn hi);exact⟨hwn d hd,hws d hd⟩
   have fin:∀(dv:AV) (root:Nat) (small:Bool) (d:List Nd) (T':List (Option Nat)),(small=true->DagOk d/\(∃tok,dv=.sl 3 (d.map qH) tok)/\root<d.length)->(small=true->∀b,evD d b root=kN p.vars R (QM p.vars (qN p) b)) ->
    OpQ p H (.tup [.ptr H2.length 0,.int .i64 0]) ⟨H3.set H2.length (.cells (qt p++[.sl 4 (R.map qp) tok,.sl 1 ((qN p).map qh) .none,dv,.int .i64 root,.bool small,.fn 75 [] [.ptr L 0]])),T'⟩:=by
    intro dv root small d T' hdag hroot;refine⟨hkH3.setF (by have:=hkH2.1;omega),.inr ⟨he,⟨H2.length,L,LL',p,R,tok,qN p,dv,root,small⟩,d,rfl,hkH2.1,by dsimp only;omega,hLL1,rfl,hR,⟨?_,?_,?_⟩,⟨h,hv,hv20,hb,hk,hl,htok,rfl,hdag,hws'⟩,by rw[<- hR];exact hroot⟩⟩
    . exact qAt hSl
    . obtain⟨c,hL,hc⟩:=hwf3;exact⟨c,by dsimp only;rw[qAp (by omega)];exact hL,fun hn=>⟨(hc hn).1,by dsimp only;rw[qAp (by omega)];exact(hc hn).2⟩⟩
    dsimp only;rw[qBK];omega
   rcases hr with rfl|⟨d,t,tk,rfl,hdk,ht,hev⟩
   . simp[-getElem?_pos,bS,hSl];exact fin (.sl 0 [] .nil) 0 false [] T3 (by simp) (by simp)
   simp[-getElem?_pos,bS,hSl];exact fin (.sl 3 (d.map qH) tk) t true d T3 (fun _=>⟨hdk,⟨tk,rfl⟩,ht⟩) (fun _=>hev)
def wn:∀{vs:List Var}{a:List Int},okA vs a->∀{i:Nat}{v:Var},vs[i]?=some v->∃x,a[i]?=some x/\(if v.mode=0 then x=v.value else 0<=x/\x<(zP v:Nat))
 |[],_,_,i,v,hv=>by simp at hv
 |w::vs,[],h,i,v,hv=>h.elim
 | w::vs,y::a,h,0,v,hv=>by
  simp at hv;subst hv;exact⟨y,rfl,h.1⟩
 | w::vs,y::a,h,i+1,v,hv=>by
  obtain⟨x,h1,h2⟩:=wn (vs:=vs) (a:=a) h.2 (i:=i) (v:=v) (by simpa using hv);exact⟨x,by simpa using h1,h2⟩
def eqP(p:Problem)(q:Nat×Nat):Ex:=eqE (Yk p q.1) (q.2:Int)
def qva{p}(hv:qk p=0){a}(ha:a∈jV p.vars){i v}(hi:p.vars[i]?=some v){n}(hn:n<=65535) :
 decide (jw (yg p.vars a) (eqP p (i,n))≠0)=decide (a[i]?=some (n:Int)):=by
 have hok:=ko.1 ha;obtain⟨x,hx,hxr⟩:=wn hok hi;have hm:=qAn hi;have hve:=zd (z0 hv v hm);have hvv:=V8 (z0 hv v hm);have hx2:0<=x/\x<=65535:=by
  split at hxr
  . omega
  have h3:2^v.width.toNat<=2^8:=qAV (by omega) (by omega);unfold zP at hxr;omega
 have hf:=Qh (yN hv) hi hx;rw[Qu hx2.1 hx2.2]at hf;have hen:yg p.vars a=(p.vars.zip a).map fun q=>⟨q.1.name,q.2⟩:=by unfold yg;rw[if_pos hok.len]
 have ho:=qpU hve.1 (n:=(n:Int)) (by omega) (by omega);have hex:=ho.valid (by omega) (by omega) (by unfold Qf;rw[qAW];exact⟨v,hm,by simp⟩);have hval:zi (eqE v.name (n:Int))=0:=by
  by_cases h0:zi (eqE v.name (n:Int))=0
  . exact h0
  unfold zy at hex;rw[if_pos h0]at hex;exact absurd hex h0
 have hkn:jK (yg p.vars a) (eqE v.name (n:Int))=true:=by
  unfold jK;rw[qef,hen];simp[qix,eqE,wG,jD,Ex.op,Ex.name,hf]
 have hev:jw (yg p.vars a) (eqE v.name (n:Int))=b2i (decide (x=(n:Int))):=by
  unfold jw;rw[if_pos ⟨hval,hkn⟩,yO,hen];simp[eqE,wG,jD,Ex.op,Ex.name,Ex.args,Ex.n,vl,yO,hf,opW,jU,b2i]
 show decide (jw _ (eqE (Yk p i) (n:Int))≠0)=_;rw[show Yk p i=v.name by simp[Yk,hi],hev,hx];by_cases hxn:x=(n:Int)<;>simp[b2i,hxn]
noncomputable def okC(p:Problem)(R:List Ex)(c:List (Nat×Nat)):Bool:=(jV p.vars).any fun a=>kN p.vars R a&&c.all fun q=>decide (a[q.1]?=some (q.2:Int))
noncomputable def qbn(p:Problem)(R:List Ex)(fx:Nat->Option Nat):List Nat->List (Nat×Nat)->Nat
 |[],c=>if okC p R c=true then 1 else 0
 |i::r,c=>if okC p R c=true then(wH (jz p i) (fx i)).foldl (fun s v=>sat (s+sat (wtP p i v*qbn p R fx r (c++[(i,v)])))) 0 else 0
def qoZ(p:Problem)(c:List (Nat×Nat)):Prop:=∀q∈c,(∃v,p.vars[q.1]?=some v/\v.mode≠0)/\q.2<2^jz p q.1
def qo2{p}(hv:qk p=0){i v}(hi:p.vars[i]?=some v):jz p i=v.width.toNat/\v.width.toNat<=8:=by
 have hve:=zd (z0 hv v (qAn hi));exact⟨by unfold jz zM;rw[hi],by omega⟩
def qoZ.lt{p}(hv:qk p=0){c}(h:qoZ p c){q}(hq:q∈c):q.2<=65535:=by
 obtain⟨⟨v,hi,_⟩,hlt⟩:=h q hq;obtain⟨h1,h2⟩:=qo2 hv hi;rw[h1]at hlt;have h3:2^v.width.toNat<=2^8:=qAV (by omega) (by omega);omega
def qft{p}(hv:qk p=0)(R){c}(hc:qoZ p c):jO p.vars (R++c.map (eqP p))=okC p R c:=by
 unfold jO okC;apply qBd.2;simp only[qAW];have key:∀a∈jV p.vars,kN p.vars (R++c.map (eqP p)) a=(kN p.vars R a&&c.all fun q=>decide (a[q.1]?=some (q.2:Int))):=fun a ha=>by
  unfold kN;rw[qBX,qDx];congr 1;apply qBd.2;simp only[qAv];refine forall_congr' fun q=>forall_congr' fun hq=>?_
  obtain⟨⟨v,hi,_⟩,_⟩:=hc q hq;have:=qva hv ha hi (hc.lt hv hq);simp only[Function.comp];rw[<- this]
 constructor
 . rintro⟨a,ha,h⟩;exact⟨a,ha,by rw[<- key a ha];exact h⟩
 rintro⟨a,ha,h⟩;exact⟨a,ha,by rw[key a ha];exact h⟩
def ql5(p:Problem)(fx:Nat->Option Nat):Prop:=∀i x,fx i=some x->x<2^jz p i
def qiP{p fx}(hf:ql5 p fx){i v}(h:v∈wH (jz p i) (fx i)):v<2^jz p i:=by
 unfold wH at h;split at h
 . exact qBq.1 h
 rename_i x hx;have:=qA2.1 h;subst this;exact hf i _ hx
def kU{α:Type}{f g:Nat->α->Nat}:∀{l:List α}{s:Nat},(∀s,∀v∈l,f s v=g s v)->l.foldl f s=l.foldl g s
 |[],s,h=>rfl
 | a::r,s,h=>by
  rw[qA1,qA1,h s a (by simp)];exact kU fun s v hv=>h s v (by simp[hv])
def qi3{p}(hv:qk p=0)(R){fx}(hf:ql5 p fx):∀(g) (c),(∀i∈g,∃v,p.vars[i]?=some v/\v.mode≠0)->qoZ p c ->
 qdV p fx g (R++c.map (eqP p))=qbn p R fx g c:=by
 intro g
 induction g with
 |nil=>intro c _ hc;unfold qdV qbn;rw[qft hv R hc]
 | cons i r ih=>
  intro c hg hc;unfold qdV qbn;rw[qft hv R hc];split
  . refine kU fun s v hvm=>?_
    have hc':qoZ p (c++[(i,v)]):=fun q hq=>by
     rcases qAC.1 hq with hq|hq
     . exact hc q hq
     have:=qA2.1 hq;subst this;exact⟨hg i (by simp),qiP hf hvm⟩
    have:=ih (c++[(i,v)]) (fun j hj=>hg j (by simp[hj])) hc';rw[qBp,<- qA4]at this;rw[<- this];rfl
  rfl
def LW(p:Problem)(l:List Nat):Nat:=(l.map (jz p)).sum
def qgP(p l m):LW p (l++m)=LW p l+LW p m:=by simp[LW]
def qbl{p}(hv:qk p=0):∀l:List Nat,kq p.vars (l.map fun n:Nat=>(n:Int))=(LW p l:Int)
 |[]=>rfl
 | i::r=>by
  have ih:=qbl hv r;have h0:=Jh (Qw hv) i;have e1:kq p.vars ((i::r).map fun n:Nat=>(n:Int))=zM p.vars i+kq p.vars (r.map fun n:Nat=>(n:Int)):=by simp[kq]
  have e2:LW p (i::r)=jz p i+LW p r:=by simp[LW]
  rw[e1,e2,ih];unfold jz;omega
def qcx{p}(hv:qk p=0){k i}(hk:(NG p).flatten[k]?=some i):Jp (qN p) i=LW p ((NG p).flatten.take k):=by
 have hk':p.groups.flatten[k]?=some (i:Int):=by rw[Zr hv,qAR,hk];rfl
 have h1:=KJ hv hk';rw[Zr hv,<- List.map_take,qbl hv]at h1;unfold Jp;rw[qAx,h1];simp
def qlX{p}(hv:qk p=0):LW p (NG p).flatten<=20:=by
 have:=K6 hv;rw[Zr hv,qbl hv]at this;omega
def qk0{d}(h:DagOk d){node l w v}(hn:node<d.length)(hl:l<=lvD d node)(hlw:l+w<=20):∀k,k<=w ->
 vz d l w v node k<d.length/\l+k<=lvD d (vz d l w v node k)/\∀b,(∀j,j<k->b (l+j)=v.testBit (w-1-j))->evD d b node=evD d b (vz d l w v node k):=by
 intro k
 induction k with
 |zero=>intro _;exact⟨hn,hl,fun b _=>rfl⟩
 | succ k ih=>
  intro hk;obtain⟨h1,h2,h3⟩:=ih (by omega);rw[JD];obtain⟨g1,g2,g3⟩:=ke h h1 (L:=l+k) (by omega) h2 (v.testBit (w-1-k));refine⟨g1,by omega,fun b hb=>?_⟩;rw[h3 b fun j hj=>hb j (by omega),g3 b (hb k (by omega))]
def Ys(p:Problem)(b:Nat->Bool)(i:Nat):Nat:=zr (fun k=>b (Jp (qN p) i+jz p i-1-k)) (jz p i)
def Y0{p b i v}(h:Ys p b i=v){j}(hj:j<jz p i):b (Jp (qN p) i+j)=v.testBit (jz p i-1-j):=by
 rw[<- h];unfold Ys;rw[qX];simp[show jz p i-1-j<jz p i by omega,show Jp (qN p) i+jz p i-1-(jz p i-1-j)=Jp (qN p) i+j by omega]
def qlr:List (Nat×Nat)->Nat->Bool
 |[],_=>false
 |(w,v)::r,l=>if l<w then v.testBit (w-1-l) else qlr r (l-w)
def qgE:∀(l) (k w v j),l[k]?=some (w,v)->j<w->qlr l (((l.take k).map (·.1)).sum+j)=v.testBit (w-1-j)
 |[],k,w,v,j,h,_=>by simp at h
 | (w',v')::r,0,w,v,j,h,hj=>by
  simp at h;obtain⟨rfl,rfl⟩:=h;simp[qlr,hj]
 | (w',v')::r,k+1,w,v,j,h,hj=>by
  have ih:=qgE r k w v j (by simpa using h) hj;have e:((((w',v')::r).take (k+1)).map (·.1)).sum+j=w'+(((r.take k).map (·.1)).sum+j):=by simp;omega
  rw[e,qlr,if_neg (by omega),qBr,ih]
def qgD{p}(hv:qk p=0)(val:Nat->Nat):∃b,∀i∈(NG p).flatten,Ys p b i=val i%2^jz p i:=by
 refine⟨qlr ((NG p).flatten.map fun i=>(jz p i,val i)),fun i hi=>?_⟩;obtain⟨k,hk⟩:=qA5 hi;have hl:=qcx hv hk;rw[<- JP];unfold Ys;apply zt;intro j hj;have h:=qgE ((NG p).flatten.map fun i=>(jz p i,val i)) k (jz p i) (val i) (jz p i-1-j) (by rw[qAR,hk];rfl) (by omega);have e1:(((((NG p).flatten.map fun i=>(jz p i,val i)).take k).map (·.1)).sum)=LW p ((NG p).flatten.take k):=by
  unfold LW;rw[<- List.map_take,qBR];rfl
 rw[e1,<- hl]at h;rw[show Jp (qN p) i+jz p i-1-j=Jp (qN p) i+(jz p i-1-j) by omega,h,show jz p i-1-(jz p i-1-j)=j by omega]
def qao{p}(hv:qk p=0){i v}(hi:p.vars[i]?=some v)(hm:v.mode≠0):i∈(NG p).flatten:=by
 obtain⟨k,hk⟩:=qjs hv hi hm;rw[Zr hv,qAR]at hk
 cases h:(NG p).flatten[k]? with
 |none=>rw[h]at hk;cases hk
 | some j=>
  rw[h]at hk;have:(j:Int)=i:=by simpa using hk
  have:j=i:=by omega
  exact this▸qAn h
def yA{p}(hv:qk p=0){i}(hi:i∈(NG p).flatten):∃v,p.vars[i]?=some v/\v.mode≠0:=by
 obtain⟨k,hk⟩:=qlV hv hi;obtain⟨n,v,hn,hv',hm⟩:=QZ ((jE hv).2.1 _ (qAn hk));have:n=i:=by omega
 subst this;exact⟨v,hv',hm⟩
def vA{p}(hv:qk p=0)(b){i v}(hi:p.vars[i]?=some v)(hm:v.mode≠0):(QM p.vars (qN p) b)[i]?=some (Ys p b i:Int):=by
 have hli:=qAo (by rw[kH];exact(qAm.1 hi).1);rw[qe1 hi hli];unfold qiY Ys Jp;rw[if_neg hm,(qo2 hv hi).1,qAx,hli];rfl
def qbc{p:Problem}(b:Nat->Bool){i:Nat}{v:Var}(hi:p.vars[i]?=some v)(hm:v.mode=0):(QM p.vars (qN p) b)[i]?=some v.value:=by
 have hli:=qAo (by rw[kH];exact(qAm.1 hi).1);rw[qe1 hi hli];unfold qiY;rw[if_pos hm]
def qjQ:∀{vs:List Var}{a:List Int},a.length=vs.length->(∀(i:Nat) (v:Var),vs[i]?=some v->∃x,a[i]?=some x/\(if v.mode=0 then x=v.value else 0<=x/\x<(zP v:Nat)))->okA vs a
 |[],[],_,_=>trivial
 |[],_::_,h,_=>by simp at h
 |_::_,[],h,_=>by simp at h
 | v::vs,x::a,h,hx=>by
  obtain⟨y,hy,hc⟩:=hx 0 v rfl;simp at hy;subst hy;exact⟨hc,qjQ (by simpa using h) fun i w hw=>by
   obtain⟨y,hy,hc⟩:=hx (i+1) w (by simpa using hw);exact⟨y,by simpa using hy,hc⟩⟩
def qqE(p b i):Ys p b i<2^jz p i:=kK _ _
def qbd{p}(hv:qk p=0)(b):QM p.vars (qN p) b∈jV p.vars:=by
 refine ko.2 (qjQ (YM (kH p) b) fun i v hi=>?_);by_cases hm:v.mode=0
 . exact⟨_,qbc b hi hm,by rw[if_pos hm]⟩
 refine⟨_,vA hv b hi hm,?_⟩;rw[if_neg hm];have:=qqE p b i;rw[(qo2 hv hi).1]at this;unfold zP;omega
def qdk{p}(hv:qk p=0){a}(ha:a∈jV p.vars):∃b,QM p.vars (qN p) b=a/\∀i∈(NG p).flatten,a[i]?=some (Ys p b i:Int):=by
 have hok:=ko.1 ha;obtain⟨b,hb⟩:=qgD hv (fun i=>(a.getD i 0).toNat);have hr:∀i∈(NG p).flatten,a[i]?=some (Ys p b i:Int):=fun i hi=>by
  obtain⟨v,hv',hm⟩:=yA hv hi;obtain⟨x,hx,hc⟩:=wn hok hv';rw[if_neg hm]at hc;have:=hb i hi;rw[qAx,hx]at this;unfold zP at hc;rw[(qo2 hv hv').1]at this;dsimp only[Option.getD]at this;have hlt:x.toNat<2^v.width.toNat:=by omega
  rw[qCy hlt]at this;rw[hx,this];congr 1;omega
 refine⟨b,?_,hr⟩;apply qBn;intro i
 cases hi:p.vars[i]? with
 | none=>
  have hl:=List.getElem?_eq_none_iff.1 hi;rw[qAU (by rw[YM (kH p)];exact hl),qAU (by rw[hok.len];exact hl)]
 | some v=>
  by_cases hm:v.mode=0
  . obtain⟨x,hx,hc⟩:=wn hok hi;rw[if_pos hm]at hc;rw[qbc b hi hm,hx,hc]
  rw[vA hv b hi hm,hr i (qao hv hi hm)]
structure Inv(p)(d:List Nd)(root)(c:List (Nat×Nat))(node):Prop where
 lt:node<d.length
 lv:LW p (c.map (·.1))<=lvD d node
 pre:∃post,(NG p).flatten=c.map (·.1)++post
 ev:∀b,(∀q∈c,Ys p b q.1=q.2)->evD d b root=evD d b node
def qgd{p}(hv:qk p=0){d}(hd:DagOk d){root c node}(h:Inv p d root c node){i v}(hi:∃post,(NG p).flatten=c.map (·.1)++i::post) :
 Inv p d root (c++[(i,v)]) (vz d (Jp (qN p) i) (jz p i) v node (jz p i)):=by
 obtain⟨post,hpost⟩:=hi;have hk:(NG p).flatten[(c.map (·.1)).length]?=some i:=by rw[hpost,qAw (qAy _),qBm];rfl
 have hlv:=qcx hv hk;rw[show(NG p).flatten.take (c.map (·.1)).length=c.map (·.1) by rw[hpost,List.take_left]]at hlv;have hle:LW p (c.map (·.1))+jz p i<=20:=by
  have h1:=qlX hv;rw[hpost,qgP]at h1;have:LW p (i::post)=jz p i+LW p post:=by simp[LW]
  omega
 obtain⟨h1,h2,h3⟩:=qk0 hd (w:=jz p i) (v:=v) h.lt (l:=Jp (qN p) i) (by rw[hlv];exact h.lv) (by omega) (jz p i) (qAy _);refine⟨h1,?_,⟨post,by rw[hpost];simp⟩,fun b hb=>?_⟩
 . rw[qBp,qgP];have:LW p (([(i,v)]:List (Nat×Nat)).map (·.1))=jz p i:=by simp[LW]
   omega
 rw[h.ev b fun q hq=>hb q (by simp[hq])];exact h3 b fun j hj=>Y0 (hb (i,v) (by simp)) hj
def W2{p b b' i}(h:∀j,j<jz p i->b (Jp (qN p) i+j)=b' (Jp (qN p) i+j)):Ys p b i=Ys p b' i:=by
 unfold Ys;apply zt;intro k hk;rw[show Jp (qN p) i+jz p i-1-k=Jp (qN p) i+(jz p i-1-k) by omega];exact h _ (by omega)
def qgt{q}:∀{c:List (Nat×Nat)},(c.map (·.1)).Nodup->q∈c->c.find? (fun q'=>q'.1==q.1)=some q
 |[],_,h=>by simp at h
 | x::r,hn,h=>by
  rw[qAz,qCi]at hn;rcases qAM.1 h with rfl|h
  . simp
  have hne:¬x.1=q.1:=fun e=>hn.1 (qAN.2 ⟨q,h,e.symm⟩)
  have:(x.1==q.1)=false:=by simpa using hne
  rw[qCU,this];exact qgt hn.2 h
def qgc{p}(hv:qk p=0){R d}(hd:DagOk d){root}(hroot:∀b,evD d b root=kN p.vars R (QM p.vars (qN p) b)){c}(hc:qoZ p c)(hnd:(NG p).flatten.Nodup){node}(h:Inv p d root c node) :
 okC p R c = !decide (node=0):=by
 obtain⟨post,hpost⟩:=h.pre;have hmem:∀q∈c,q.1∈(NG p).flatten:=fun q hq=>by rw[hpost];exact qAC.2 (.inl (qAN.2 ⟨q,hq,rfl⟩))
 by_cases h0:node=0
 . have:okC p R c=false:=by
    rw[qBD];intro hok;unfold okC at hok;obtain⟨a,ha,hs⟩:=qAW.1 hok;rw[qAr]at hs;obtain⟨b,hb,hbv⟩:=qdk hv ha;have hf:∀q∈c,Ys p b q.1=q.2:=fun q hq=>by
     have h1:=hbv _ (hmem q hq);have h2:=of_decide_eq_true (qAv.1 hs.2 q hq);rw[h1]at h2;have:(Ys p b q.1:Int)=(q.2:Int):=by simpa using h2
     omega
    have h1:=h.ev b hf;rw[hroot,hb,h0,Ym hd]at h1;rw[h1]at hs;cases hs.1
   rw[this,h0];rfl
 have:okC p R c=true:=by
  obtain⟨b,hb⟩:=qsB hd node node h.lt (qAy _) h0;obtain⟨b0,hb0⟩:=qgD hv (fun i=>match c.find? (fun q=>q.1==i) with|some q=>q.2|none=>0);obtain⟨b',hb'⟩:∃b':Nat->Bool,b'=fun l=>if l<LW p (c.map (·.1)) then b0 l else b l:=⟨_,rfl⟩
  have hnode:evD d b' node=true:=by
   rw[<- hb];apply Wf hd h.lt;intro l hl;have:=h.lv;rw[hb'];dsimp only;rw[if_neg (by omega)]
  have hcn:(c.map (·.1)).Nodup:=by
   rw[hpost]at hnd;exact(qBV.1 hnd).1
  have hf:∀q∈c,Ys p b' q.1=q.2:=fun q hq=>by
   obtain⟨k,hk⟩:=qA5 hq;have hkl:=(qAm.1 hk).1;have hkF:(NG p).flatten[k]?=some q.1:=(by rw[hpost,qAB (by simpa using hkl),qAR,hk];rfl);have hlv:=qcx hv hkF;have hw:Jp (qN p) q.1+jz p q.1<=LW p (c.map (·.1)):=by
    rw[hlv,show(NG p).flatten.take k=(c.map (·.1)).take k by rw[hpost,qBx (by simp;omega)]];have h1:(c.map (·.1))=(c.map (·.1)).take k++q.1::(c.map (·.1)).drop (k+1):=by
     have h2:(c.map (·.1)).drop k=q.1::(c.map (·.1)).drop (k+1):=by
      have h3:(c.map (·.1))[k]?=some q.1:=(by rw[qAR,hk];rfl);obtain⟨h4,h5⟩:=qAm.1 h3;rw[qAJ h4,h5]
     rw[<- h2,qA9]
    have h2:=congrArg (LW p) h1;rw[qgP]at h2;have h3:LW p (q.1::(c.map (·.1)).drop (k+1))=jz p q.1+LW p ((c.map (·.1)).drop (k+1)):=(by simp[LW]);omega
   have e1:Ys p b' q.1=Ys p b0 q.1:=W2 fun j hj=>by
    rw[hb'];dsimp only;rw[if_pos (by omega)]
   rw[e1,hb0 _ (hmem q hq)];have hfind:=qgt hcn hq;rw[hfind];exact qCy (hc q hq).2
  have hr:=h.ev b' hf;rw[hnode,hroot]at hr;unfold okC;refine qAW.2 ⟨_,qbd hv b',?_⟩;rw[hr,qBC,qAv];intro q hq;obtain⟨⟨v,hi,hm⟩,_⟩:=hc q hq;rw[vA hv b' hi hm,hf q hq];simp
 rw[this];simp[h0]
def qi5{p}(hv:qk p=0){R d}(hd:DagOk d){root}(hroot:∀b,evD d b root=kN p.vars R (QM p.vars (qN p) b))(hnd:(NG p).flatten.Nodup){fx}(hf:ql5 p fx) :
 ∀(g) (c) (node),(∃post,(NG p).flatten=c.map (·.1)++g++post)->qoZ p c->Inv p d root c node->qbm p (qN p) d fx g node=qbn p R fx g c:=by
 intro g
 induction g with
 | nil=>
  intro c node hg hc h;unfold qbm qbn;rw[qgc hv hd hroot hc hnd h];by_cases h0:node=0<;>simp[h0]
 | cons i r ih=>
  intro c node hg hc h;obtain⟨post,hpost⟩:=hg;unfold qbm qbn;rw[qgc hv hd hroot hc hnd h];by_cases h0:node=0
  . simp[h0]
  simp only[h0,if_false,decide_false,qEn,if_true];refine kU fun s v hvm=>?_
  have hc':qoZ p (c++[(i,v)]):=fun q hq=>by
   rcases qAC.1 hq with hq|hq
   . exact hc q hq
   have:=qA2.1 hq;subst this;exact⟨yA hv (by rw[hpost];simp),qiP hf hvm⟩
  rw[ih (c++[(i,v)]) _ ⟨post,by rw[hpost];simp⟩ hc' (qgd hv hd h ⟨r++post,by rw[hpost];simp⟩)]
def qr2{p d root}(h:root<d.length):Inv p d root [] root:=⟨h,by simp[LW],⟨_,rfl⟩,fun b _=>rfl⟩
def qnK{p}(hv:qk p=0){d}(hd:DagOk d){root}(val:Nat->Nat):∀(l) (c) (node),Inv p d root c node->(∃post,(NG p).flatten=c.map (·.1)++l++post) ->
 Inv p d root (c++l.map fun i=>(i,val i)) (l.foldl (fun node i=>vz d (Jp (qN p) i) (jz p i) (val i) node (jz p i)) node):=by
 intro l
 induction l with
 |nil=>intro c node h _;simpa using h
 | cons i r ih=>
  intro c node h ⟨post,hpost⟩;have h1:=qgd hv hd h (i:=i) (v:=val i) ⟨r++post,by rw[hpost];simp⟩;have h2:=ih _ _ h1 ⟨post,by rw[hpost];simp⟩;rw[qA1,qAz];simpa using h2
def qgN{p gi g}(h:(NG p)[gi]?=some g):∃post,(NG p).flatten=((NG p).take gi).flatten++g++post:=by
 have h1:=qA9 gi (NG p);obtain⟨h2,h3⟩:=qAm.1 h;refine⟨((NG p).drop (gi+1)).flatten,?_⟩
 conv=>lhs;rw[<- h1,show(NG p).drop gi=g::(NG p).drop (gi+1) by rw[qAJ h2,h3]]
 simp
def qgO{p}(hv:qk p=0):(NG p).flatten.Nodup:=by
 have h:=(jE hv).2.2.1;rw[Zr hv]at h;exact(qDp.1 h).imp fun hne e=>hne (by rw[e])
def qqK{s d}(h:SpV s d)(hroot:s.small=true->∀b,evD d b s.root=kN s.p.vars s.R (QM s.p.vars (qN s.p) b)){fx}(hf:ql5 s.p fx){a}(ha:∀i∈(NG s.p).flatten,aN a i<2^jz s.p i){gi}(hgi:gi<(NG s.p).length) :
 qbR s d fx a gi=qbn s.p s.R fx ((NG s.p).getD gi []) (((NG s.p).take gi).flatten.map fun i=>(i,aN a i)):=by
 obtain⟨g,hg⟩:∃g,(NG s.p)[gi]?=some g:=⟨_,qAo hgi⟩;obtain⟨post,hpost⟩:=qgN hg;have hin:∀i∈((NG s.p).take gi).flatten,i∈(NG s.p).flatten:=fun i hi=>by rw[hpost];simp[hi]
 have hc:qoZ s.p (((NG s.p).take gi).flatten.map fun i=>(i,aN a i)):=fun q hq=>by
  obtain⟨i,hi,rfl⟩:=qAN.1 hq;exact⟨yA h.vp (hin i hi),ha i (hin i hi)⟩
 have hmm:(((NG s.p).take gi).flatten.map fun i=>(i,aN a i)).map (·.1)=((NG s.p).take gi).flatten:=by
  rw[qBR];exact qEh _
 unfold qbR;rw[show(NG s.p).getD gi []=g by simp[qAx,hg]];by_cases hsm:s.small=true
 . rw[if_pos hsm];obtain⟨hd,_,hr⟩:=h.dag hsm;have hi:=qnK h.vp hd (aN a) ((NG s.p).take gi).flatten [] s.root (qr2 hr) ⟨g++post,by rw[hpost];simp⟩;rw[h.lv];have:=qi5 h.vp hd (hroot hsm) (qgO h.vp) hf g _ _ ⟨post,by rw[qAK,hmm];exact hpost⟩ (by rw[qAK];exact hc) hi;rw[qAK]at this;rw[<- this];unfold ZN;rw[h.lv]
 rw[if_neg hsm];have:=qi3 h.vp s.R hf g _ (fun i hi=>yA h.vp (by rw[hpost];simp[hi])) hc;rw[<- this];unfold Vh;rw[qBR];rfl
noncomputable def qbQ(p:Problem)(fx:Nat->Option Nat)(a:List Int)(gi:Nat):Nat:=qbn p (qE p).1 fx ((NG p).getD gi []) (((NG p).take gi).flatten.map fun i=>(i,aN a i))
noncomputable def JQ(p:Problem)(gi:Int)(a:List Int):Int×Int :=
 if gi<0\/((NG p).length:Int)<=gi\/qC p.vars a=false then(0,1)
 else if qbQ p (fun _=>none) a gi.toNat=0 then(0,11) else if qbQ p (fun _=>none) a gi.toNat=lim then(0,3) else(qbQ p (fun _=>none) a gi.toNat,0)
noncomputable def chP(p:Problem)(a:List Int)(gi:Nat):List Nat->(Nat->Option Nat)->Int->List Int->List Int
 |[],_,_,out=>out
 | i::r,fx,idx,out=>
  let q:=yk (fun x=>qbQ p (yH fx i x) a gi) (2^wdN p i) 0 idx
  chP p a gi r (yH fx i q.1) q.2 (out.set i q.1)
noncomputable def Qo(p:Problem)(gi:Nat)(a:List Int)(idx:Int):List Int:=chP p a gi (yQ ((NG p).getD gi [])) (fun _=>none) idx a
def qff(p i):wdN p i=jz p i:=by
 unfold wdN jz zM;split<;>rename_i h<;>simp[h]
def qfO(F):∀(n x) (idx),0<n->x<=(yk F n x idx).1/\(yk F n x idx).1<x+n
 |0,x,idx,h=>absurd h (by omega)
 | n+1,x,idx,_=>by
  unfold yk;split
  . exact⟨qAy _,by simp⟩
  split
  . exact⟨qAy _,by simp⟩
  have:=qfO F n (x+1) (idx-F x) (by omega);omega
def Ku{F G}:∀(n x) (idx),(∀y,x<=y->y<x+n->F y=G y)->yk F n x idx=yk G n x idx
 |0,x,idx,h=>rfl
 | n+1,x,idx,h=>by
  unfold yk;rw[h x (qAy _) (by omega),Ku n (x+1) _ fun y h1 h2=>h y (by omega) (by omega)]
def ql5.upd{p fx}(h:ql5 p fx){i x}(hx:x<2^jz p i):ql5 p (yH fx i x):=fun k y hy=>by
 unfold yH at hy;split at hy
 . rename_i e;subst e;have:x=y:=by simpa using hy
   omega
 exact h k y hy
def qvm{s d p a gi}(hp:s.p=p)(hs:∀fx,ql5 p fx->qbR s d fx a gi=qbQ p fx a gi):∀(l) (fx) (idx) (out),ql5 p fx->chS s d a gi l fx idx out=chP p a gi l fx idx out:=by
 intro l
 induction l with
 |nil=>intro fx idx out _;rfl
 | cons i r ih=>
  intro fx idx out hf;have hpk:yk (fun x=>qbR s d (yH fx i x) a gi) (2^wdN s.p i) 0 idx=yk (fun x=>qbQ p (yH fx i x) a gi) (2^wdN p i) 0 idx:=by
   rw[hp];refine Ku _ _ _ fun y _ hy=>hs _ (hf.upd ?_)
   rw[qff]at hy;omega
  have hlt:=qfO (fun x=>qbQ p (yH fx i x) a gi) (2^wdN p i) 0 idx (qDa _);rw[qff]at hlt;unfold chS chP;dsimp only;rw[hpk];rw[qff]at *;exact ih _ _ _ (hf.upd (by omega))
def wV{p}(h:qk p=0){a}(ha:qC p.vars a=true):a.length=p.vars.length/\∀i∈(NG p).flatten,aN a i<2^jz p i:=by
 unfold qC at ha;simp only[qAr,decide_eq_true_eq]at ha;refine⟨ha.1,fun i hi=>?_⟩;obtain⟨v,hv,hm⟩:=yA h hi;have hil:=(qAm.1 hv).1;obtain⟨x,hx⟩:∃x,a[i]?=some x:=⟨_,qAo (by omega)⟩;have hz:(v,x)∈p.vars.zip a:=qAn (i:=i) (qB2.2 ⟨hv,hx⟩);have h1:=qAv.1 ha.2 _ hz;unfold zD at h1;simp only[qAr,decide_eq_true_eq]at h1;have h3:((2^v.width.toNat:Nat):Int)=(2:Int)^v.width.toNat:=by simp
 unfold aN;rw[qAx,hx,(qo2 h hv).1];dsimp only[Option.getD];omega
structure SpR(p)(s:Spc)(d):Prop where
 pe:s.p=p
 R:s.R=(qE p).1
 v:SpV s d
 root:s.small=true->∀b,evD d b s.root=kN p.vars (qE p).1 (QM p.vars (qN p) b)
def SpR.sum{p s d}(h:SpR p s d){a}(ha:qC p.vars a=true){gi}(hgi:gi<(NG p).length)(fx)(hf:ql5 p fx):qbR s d fx a gi=qbQ p fx a gi:=by
 obtain⟨hp,hR,hv,hr⟩:=h;subst hp;have:=qqK hv (by rw[hR];exact hr) hf (wV hv.vp ha).2 hgi;rw[this,hR];rfl
def SpR.tot{p s d}(h:SpR p s d)(gi a):W7 s d gi a=JQ p gi a:=by
 unfold W7 JQ;rw[h.pe];split
 . rfl
 rename_i hn;have h1:qC p.vars a=true:=by
  cases hA:qC p.vars a with
  |true=>rfl
  |false=>exact absurd (.inr (.inr hA)) hn
 have h2:gi.toNat<(NG p).length:=by
  have:¬gi<0:=fun e=>hn (.inl e)
  have:¬((NG p).length:Int)<=gi:=fun e=>hn (.inr (.inl e))
  omega
 rw[h.sum h1 h2 _ (fun i x hx=>by cases hx)]
def SpR.ch{p s d}(h:SpR p s d){a}(ha:qC p.vars a=true){gi}(hgi:gi<(NG p).length)(idx):qa7 s d gi a idx=Qo p gi a idx:=by
 unfold qa7 Qo;rw[qvm h.pe (fun fx hf=>h.sum ha hgi fx hf) _ _ _ _ (fun i x hx=>by cases hx),h.pe]
def qll(p a gi):∀(l) (fx) (idx) (out),(chP p a gi l fx idx out).length=out.length
 |[],_,_,_=>rfl
 | i::r,fx,idx,out=>by
  unfold chP;dsimp only;rw[qll p a gi r];simp
def Zn(p gi a idx):(Qo p gi a idx).length=a.length:=qll _ _ _ _ _ _ _
noncomputable def yx(p:Problem)(R:List Ex)(fx:Nat->Option Nat):List Nat->List (Nat×Nat)->Nat
 |[],c=>if okC p R c=true then 1 else 0
 |i::r,c=>jh (fun v=>wtP p i v*yx p R fx r (c++[(i,v)])) (wH (jz p i) (fx i))
def qrA{p R c d}(h:okC p R (c++d)=true):okC p R c=true:=by
 unfold okC at h⊢;obtain⟨a,ha,hs⟩:=qAW.1 h;rw[qAr,qBX,qAr]at hs;exact qAW.2 ⟨a,ha,by rw[qAr];exact⟨hs.1,hs.2.1⟩⟩
def W6{p R fx}:∀(g) (c),okC p R c≠true->yx p R fx g c=0
 |[],c,h=>if_neg h
 | i::r,c,h=>by
  unfold yx;refine Zw fun v _=>?_
  rw[W6 r _ (fun h'=>h (qrA h')),Nat.mul_zero]
def qt8(w t)(h:w<=lim):sat (w*sat t)=sat (w*t):=by
 have:=qqX w t;have e:sat w=w:=qBL h
 rwa[e]at this
def qgq{α}(w t:α->Nat)(hw:∀x,w x<=lim):∀(l) (s),l.foldl (fun s v=>sat (s+sat (w v*sat (t v)))) (sat s)=sat (s+jh (fun v=>w v*t v) l)
 |[],s=>by simp[jh]
 | x::l,s=>by
  rw[qA1,qt8 _ _ (hw x),qqY,qgq w t hw l];simp only[jh];rw[qCm]
def qbT{p R fx}:∀(g:List Nat) (c:List (Nat×Nat)),qbn p R fx g c=sat (yx p R fx g c)
 | [],c=>by
  unfold qbn yx;split<;>rfl
 | i::r,c=>by
  by_cases h:okC p R c=true
  . unfold qbn yx;rw[if_pos h];have e:(fun s v=>sat (s+sat (wtP p i v*qbn p R fx r (c++[(i,v)]))))=(fun s v=>sat (s+sat (wtP p i v*sat (yx p R fx r (c++[(i,v)]))))):=by
     funext s v;rw[qbT r]
    rw[e];have:=qgq (fun v=>wtP p i v) (fun v=>yx p R fx r (c++[(i,v)])) (fun v=>qfc p i v) (wH (jz p i) (fx i)) 0;rw[qBQ]at this;exact this
  rw[W6 _ _ h];unfold qbn;rw[if_neg h];rfl
def Y7{α β}(F:α->β->Nat):∀(l) (m),jh (fun v=>jh (fun x=>F v x) m) l=jh (fun x=>jh (fun v=>F v x) l) m
 |[],m=>by simp only[jh];exact(Zw fun _ _=>rfl).symm
 | a::l,m=>by
  simp only[jh];rw[Y7 F l m]
  induction m with
  |nil=>rfl
  |cons x m ih=>simp only[jh];omega
def Y4{p R fx gx}:∀(g) (c),(∀i∈g,fx i=gx i)->yx p R fx g c=yx p R gx g c
 |[],_,_=>rfl
 | i::r,c,h=>by
  unfold yx;rw[h i (by simp)];refine yo fun v _=>?_
  rw[Y4 r _ fun k hk=>h k (by simp[hk])]
def Y1{fx i k x}(h:k≠i):yH fx i x k=fx k:=if_neg h
def qdR{fx i x}:yH fx i x i=some x:=if_pos rfl
def Y3{p R fx i}(hf:fx i=none):∀(g:List Nat) (c:List (Nat×Nat)),g.Nodup->i∈g->yx p R fx g c=jh (fun x=>yx p R (yH fx i x) g c) (List.range (2^jz p i))
 | j::r,c,hn,hi=>by
  rw[qCi]at hn;by_cases hj:j=i
  . subst hj;unfold yx;rw[hf];show jh _ (List.range _)=_;refine yo fun x _=>?_
    rw[qdR];show _=jh _ [x];simp only[jh,qBP];rw[Y4 r _ fun k hk=>(Y1 (fx:=fx) (x:=x) (i:=j) (by rintro rfl;exact hn.1 hk)).symm]
  have hi':i∈r:=(qAM.1 hi).resolve_left (Ne.symm hj);unfold yx;have e:∀x,wH (jz p j) (yH fx i x j)=wH (jz p j) (fx j):=fun x=>by rw[Y1 hj]
  simp only[e];rw[<- Y7];refine yo fun v _=>?_
  rw[Y3 hf r _ hn.2 hi',<- qah]
noncomputable def jJ(p:Problem)(val:Nat->Nat):List Nat->Nat
 |[]=>1
 |i::r=>wtP p i (val i)*jJ p val r
def Vq(F):∀(n x:Nat) (idx:Int),0<=idx->idx<(jh F (List.range' x n):Nat) ->
 (x<=(yk F n x idx).1/\(yk F n x idx).1<x+n)/\0<=(yk F n x idx).2/\(yk F n x idx).2<(F (yk F n x idx).1:Nat)/\idx=(jh F (List.range' x ((yk F n x idx).1-x)):Nat)+(yk F n x idx).2
 |0,x,idx,h0,h=>by simp[jh]at h;omega
 | n+1,x,idx,h0,h=>by
  rw[qB6]at h;simp only[jh]at h;unfold yk;by_cases h1:idx<(F x:Nat)
  . rw[if_pos h1];refine⟨⟨qAy _,by omega⟩,h0,h1,?_⟩;simp[jh]
  rw[if_neg h1];by_cases hn:n=0
  . subst hn;simp[jh]at h;omega
  rw[if_neg hn];have ih:=Vq F n (x+1) (idx-(F x:Nat)) (by omega) (by omega);obtain⟨⟨a1,a2⟩,a3,a4,a5⟩:=ih;generalize yk F n (x+1) (idx-(F x:Nat))=q at *;refine⟨⟨by omega,by omega⟩,a3,a4,?_⟩;have e:q.1-x=(q.1-(x+1))+1:=by omega
  rw[e,qB6];simp only[jh];omega
def Y6(p fx a gi):qbQ p fx a gi=sat (yx p (qE p).1 fx ((NG p).getD gi []) (((NG p).take gi).flatten.map fun i=>(i,aN a i))):=qbT _ _
def Kz{α:Type}[DecidableEq α]:∀{a b:List α},a.Nodup->(∀x∈a,x∈b)->a.length<=b.length
 |[],_,_,_=>by simp
 | x::a,b,hn,hs=>by
  rw[qCi]at hn;have hx:=hs x (by simp);have h1:a.length<=(b.erase x).length:=Kz hn.2 fun y hy=>by
   have hne:y≠x:=(by rintro rfl;exact hn.1 hy);exact(List.mem_erase_of_ne hne).2 (hs y (by simp[hy]))
  rw[qD5 hx]at h1;have:=qEg hx;simp only[qAD];omega
def Vx{α:Type}[DecidableEq α]:∀{b a:List α},a.Nodup->(∀x∈a,x∈b)->b.length<=a.length->b.Nodup
 |[],_,_,_,_=>List.nodup_nil
 | x::b,a,hn,hs,hl=>by
  have hx:x∉b:=fun hx=>by
   have:=Kz hn (b:=b) fun y hy=>by
    rcases qAM.1 (hs y hy) with rfl|h
    . exact hx
    exact h
   simp at hl;omega
  refine qCi.2 ⟨hx,Vx (hn.erase x) (fun y hy=>?_) ?_⟩
  . rw[hn.mem_erase_iff]at hy;exact(qAM.1 (hs y hy.2)).resolve_left hy.1
  have:=List.length_erase (a:=x) (l:=a);simp only[qAD]at hl;split at this<;>omega
def qd1{g}(h:g.Nodup):(yQ g).Nodup:=Vx h (fun x hx=>wJ.2 hx) (by rw[qbY];exact qAy _)
def QR(p:Problem)(a:List Int)(gi:Nat):List (Nat×Nat):=((NG p).take gi).flatten.map fun i=>(i,aN a i)
def qqI{p}{gi:Nat}{a}(h:(JQ p gi a).2=0):gi<(NG p).length/\qC p.vars a=true/\(JQ p gi a).1=(yx p (qE p).1 (fun _=>none) ((NG p).getD gi []) (QR p a gi):Nat)/\0<yx p (qE p).1 (fun _=>none) ((NG p).getD gi []) (QR p a gi)/\yx p (qE p).1 (fun _=>none) ((NG p).getD gi []) (QR p a gi)<lim:=by
 unfold JQ at h⊢;split at h
 . cases h
 rename_i hn;split at h
 . cases h
 rename_i h1;split at h
 . cases h
 rename_i h2;rw[if_neg hn,if_neg h1,if_neg h2];have hg:gi<(NG p).length:=by
  have:¬((NG p).length:Int)<=gi:=fun e=>hn (.inr (.inl e))
  omega
 have ha:qC p.vars a=true:=by
  cases hA:qC p.vars a with
  |true=>rfl
  |false=>exact absurd (.inr (.inr hA)) hn
 have e:qbQ p (fun _=>none) a (gi:Int).toNat=sat (yx p (qE p).1 (fun _=>none) ((NG p).getD gi []) (QR p a gi)):=Y6 _ _ _ _;rw[e]at h1 h2⊢;have h3:=qt9 h2;rw[h3]at h1⊢;refine⟨hg,ha,rfl,qDQ h1,?_⟩;have:=Ke (yx p (qE p).1 (fun _=>none) ((NG p).getD gi []) (QR p a gi));omega
def qja{vs l m}(h:∀e,e∈l↔e∈m):jO vs l=jO vs m:=by
 have:∀a,kN vs l a=kN vs m a:=fun a=>by
  unfold kN;rw[qBd,qAv,qAv];exact⟨fun h1 e he=>h1 e ((h e).2 he),fun h1 e he=>h1 e ((h e).1 he)⟩
 unfold jO;congr 1;funext a;exact this a
def KP(vs):∀(L) (R),jO vs R=true->jO vs (R++(yl vs R L).map (·.2))=true
 |[],R,h=>by simpa[yl] using h
 | x::r,R,h=>by
  unfold yl;split
  . rename_i h1;have:=KP vs r (R++[x.2]) h1;simpa using this
  exact KP vs r R h
def wK{p}(h:(qE p).2=0):qk p=0/\jO p.vars (zu p)=true/\jO p.vars (qE p).1=true/\∀e∈zu p,e∈(qE p).1:=by
 rw[wL]at h;obtain⟨h1,h2,h3,_⟩:=vU h;refine⟨h1,h2,?_,fun e he=>?_⟩
 . rw[h3];have:=KP p.vars (Zg p.soft) (zu p) h2;rw[<- this];refine qja fun e=>?_
   have hn:qep p=zu p:=by
    unfold qep zu;have:jF p=wa p:=if_pos h1;rw[this]
   unfold Zh;rw[hn];simp
 rw[h3];exact qA7 _ he
def qaU{env e}(h:jw env e≠0):Qk env e=0/\yf env e≠0:=by
 unfold jw at h;split at h
 . rename_i hc;refine⟨?_,h⟩;unfold Qk;rw[if_neg (by simp[hc.1]),if_pos hc.2]
 exact absurd rfl h
def qsk{p:Problem}(hv:qk p=0){a:List Int}(ha:a∈jV p.vars){i:Nat}{v:Var}{z:Int}(hi:p.vars[i]?=some v)(hz:a[i]?=some z):jA (yg p.vars a) v.name=some z/\0<=z/\z<(zP v:Nat)\/v.mode=0:=by
 by_cases hm:v.mode=0
 . exact .inr hm
 left;have hok:=ko.1 ha;obtain⟨x,hx,hxr⟩:=wn hok hi;rw[hz]at hx;cases hx;rw[if_neg hm]at hxr;have hve:=zd (z0 hv v (qAn hi));have h3:2^v.width.toNat<=2^8:=qAV (by omega) (by omega);have hsz:zP v=2^v.width.toNat:=rfl;have hf:=Qh (yN hv) hi hz;rw[Qu hxr.1 (by omega)]at hf;have hen:yg p.vars a=(p.vars.zip a).map fun q=>⟨q.1.name,q.2⟩:=by unfold yg;rw[if_pos hok.len]
 rw[hen];exact⟨hf,hxr⟩
def qg9{v}(h:jW v=0):0<=v.value/\v.value<(2:Int)^v.width.toNat:=by
 unfold jW at h;split at h
 . cases h
 split at h
 . cases h
 rename_i hc;omega
def qqZ(p l a):qiw p l a=kN p.vars l a:=by
 unfold qiw kN;apply qBd.2;simp only[qAv];constructor
 . intro h e he;have:=h e he;simp at this;simpa using this.2
 intro h e he;have:=h e he;have h2:jw (yg p.vars a) e≠0:=by simpa using this
 have h3:=(qaU h2).1;simp[h2,h3]
def qmH(p l):qd6 p l=(jV p.vars).filter (kN p.vars l):=by
 unfold qd6;congr 1;funext a;exact qqZ p l a
noncomputable def QV(p:Problem):List (List Int)×Int:=if(qE p).2=0 then((jV p.vars).filter (kN p.vars (qE p).1),0) else([],(qE p).2)
def qvC(p)(h:RfH p)(hb:kl p.vars (qK p)<=18):Pure prog GG 28 [.agg (qt p)] (.tup [.sl 1 ((QV p).1.map qx) .none,.int .i64 (QV p).2]):=by
 refine qEG qe func28 rfl (by kernel_rfl) ?_;have hr:=qmT p h;simp only[qt]at hr;by_cases he:(qE p).2=0
 case neg=>
  have ha:QV p=([],(qE p).2):=if_neg he;rw[ha];simp[-getElem?_pos];refine qEJ (G:=zk GG) hr (by simp) ?_;simp[-getElem?_pos,he,Leq,zn]
 obtain⟨hv,hrt,hrl,_⟩:=Zd h.vq h.dists h.soft he;have ha:QV p=(qd6 p (qE p).1,0):=by unfold QV;rw[if_pos he,qmH]
 rw[ha];rw[he]at hr;have hal:(jV p.vars).length<2^30:=by
  obtain⟨h1,h2⟩:=YN hv h.vq.vars;rw[h2];have:(p.vars.map qlt).sum<=18:=by omega
  have:=qAV (n:=2) (by decide) this;omega
 have hs:=qal p (qE p).1 h.vq.vars (YX hv) (fun v hm=>by have:=zd (z0 hv v hm);omega) (by unfold Fits;omega) (fun e he=>(hrt e he).2) hal;simp only[qt]at hs;generalize qd6 p (qE p).1=S at *;generalize (qE p).1=L at *;simp[-getElem?_pos];refine qEJ (G:=zk GG) hr (by simp) ?_;simp[-getElem?_pos];refine qEJ (G:=zk GG) hs (by simp) ?_;simp[-getElem?_pos]
def qd2(p)(h:RfH p)(hb:kl p.vars (qK p)<=18):Pure prog GG 13 [.agg (qt p)] (.tup [.int .i64 ((QV p).1.length:Nat),.int .i64 (QV p).2]):=by
 refine qEG qe func13 rfl (by kernel_rfl) ?_;have ha:=qvC p h hb;simp only[qt]at ha;simp[-getElem?_pos];refine qEJ (G:=zk GG) ha (by simp) ?_;simp[-getElem?_pos]
def agV(a b:List Int)(v:Int):Bool:=decide (a.getD v.toNat 0=b.getD v.toNat 0)
def agG(a b:List Int)(g:List Int):Bool:=g.all (agV a b)
def ja(G:List (List Int))(f t:Nat)(a b:List Int):Bool:=((G.drop f).take (t-f)).all (agG a b)
def qgM(p:Problem)(f t)(a b:List Int)(ht:t<=p.groups.length)(hf:f<=t)(hG:p.groups.length<=10000000)(hg:∀g∈p.groups,g.length<=10000000/\∀v∈g,0<=v/\v<(a.length:Nat)/\v<(b.length:Nat)) :
 Pure prog GG 85 [.agg (qt p),.int .i64 f,.int .i64 t,.sl 1 (a.map qh) .none,.sl 1 (b.map qh) .none] (.bool (ja p.groups f t a b)):=by
 refine qEG qe func85 rfl (by kernel_rfl) ?_;obtain⟨r,hr⟩:∃r,r=ja p.groups f t a b:=⟨_,rfl⟩;rw[<- hr];simp;refine qEO (fun m ev U=>∃i,m=t-i/\f<=i/\i<=t/\ev 2=.int .i64 t/\ev 3=.sl 1 (a.map qh) .none/\ev 4=.sl 1 (b.map qh) .none/\ev 5=.ptr 0 0/\ev 11=.int .i64 i/\U=⟨[.cells (qt p)],[]⟩/\r=ja p.groups i t a b) (t-f) ?_ ?_
 . exact⟨f,rfl,qAy _,hf,by simp,by simp,by simp,by simp,by simp,by simp,hr⟩
 rintro m ev U R hR ⟨i,rfl,hfi,hi,e2,e3,e4,e5,e11,rfl,hri⟩;by_cases hlt:i<t
 case neg=>
  have hlt':¬(i:Int)<t:=by omega
  simp[e2,e11,hlt',show r=true by rw[hri];unfold ja;rw[show t-i=0 by omega];rfl]
 have hw:=wr (n:=(i:Int)+1) (by omega) (by omega);obtain⟨g,hgi⟩:∃g,p.groups[i]?=some g:=⟨_,qAo (by omega)⟩;obtain⟨hgl,hgv⟩:=hg g (qAn hgi);have hrs:r=(agG a b g&&ja p.groups (i+1) t a b):=by
  rw[hri];unfold ja;rw[zb hgi,show t-i=(t-(i+1))+1 by omega,qB9,qBH]
 simp[e2,e11,show(i:Int)<t by omega];refine qEO (fun m ev U=>∃k,m=g.length-k/\k<=g.length/\ev 2=.int .i64 t/\ev 3=.sl 1 (a.map qh) .none/\ev 4=.sl 1 (b.map qh) .none/\ev 5=.ptr 0 0/\ev 11=.int .i64 i/\ev 12=.int .i64 k/\U=⟨[.cells (qt p)],[]⟩/\r=((g.drop k).all (agV a b)&&ja p.groups (i+1) t a b)) g.length ?_ ?_
 . exact⟨0,rfl,by omega,by simp[e2],by simp[e3],by simp[e4],by simp[e5],by simp[e11],by simp,rfl,by rw[hrs];rfl⟩
 rintro m ev U R2 hR2 ⟨k,rfl,hk,e2,e3,e4,e5,e11,e12,rfl,hrk⟩;by_cases hkl:k<g.length
 case neg=>
  rw[show g.drop k=[] by simp;omega]at hrk;have hrk:=hrk;have hkl':¬(k:Int)<g.length:=by omega
  simp[e5,e11,e12,hgi,hkl',hw];exact hR (t-(i+1)) _ _ (by omega) ⟨i+1,rfl,by omega,by omega,by simp[e2],by simp[e3],by simp[e4],by simp[e5],by simp,by simp,hrk⟩
 have hkl':(k:Int)<g.length:=by omega
 have hw2:=wr (n:=(k:Int)+1) (by omega) (by omega);obtain⟨v,hv⟩:∃v,g[k]?=some v:=⟨_,qAo hkl⟩;obtain⟨v0,va,vb⟩:=hgv v (qAn hv);obtain⟨w,rfl⟩:=qAH v0;obtain⟨x,hx⟩:∃x,a[w]?=some x:=⟨_,qAo (by omega)⟩;obtain⟨y,hy⟩:∃y,b[w]?=some y:=⟨_,qAo (by omega)⟩;rw[zb hv,qBH,show agV a b (w:Int)=decide (x=y) by unfold agV;simp[List.getD,hx,hy]]at hrk;by_cases hxy:x=y
 . subst hxy;simp[e3,e4,e5,e11,e12,hgi,hkl',hv,hx,hy,hw2];exact hR2 (g.length-(k+1)) _ _ (by omega) ⟨k+1,rfl,by omega,by simp[e2],by simp[e3],by simp[e4],by simp[e5],by simp[e11],by simp,by simp,by rw[hrk];simp⟩
 have hr0:r=false:=by rw[hrk];simp[hxy]
 simp[e3,e4,e5,e11,e12,hgi,hkl',hv,hx,hy,hxy,hr0]
def qdA(x:Int):List Int->List Int->List Int
 |[],B=>x::B
 |a::A,B=>if x<a then qdA x A (a::B) else A.reverse++a::x::B
def zN(l:List Int):List Int:=l.foldl (fun S x=>qdA x S.reverse []) []
def qgg(x):∀A B,(qdA x A B).length=A.length+B.length+1
 |[],B=>by simp[qdA]
 | a::A,B=>by
  unfold qdA;split
  . rw[qgg x A];simp;omega
  simp;omega
def Ji(l x):zN (l++[x])=qdA x (zN l).reverse []:=by unfold zN;rw[qBj];rfl
def Y9(l):(zN l).length=l.length:=by
 induction hn:l.length generalizing l with
 |zero=>rw[qAA hn];rfl
 | succ n ih=>
  obtain⟨d,x,rfl⟩:∃d x,l=d++[x]:=⟨l.dropLast,l.getLast (by rintro rfl;simp at hn),(qBB _).symm⟩;rw[Ji,qgg,qDD,ih d (by simpa using hn)];rfl
def qi8(l)(hl:l.length<=1000000):Pure prog GG 140 [.sl 1 (l.map qh) .none] (.sl 1 ((zN l).map qh) .none):=by
 refine qEF oM true qe func140 rfl (by kernel_rfl) ?_;by_cases h0:l=[]
 . subst h0;simp[oM,zq,zX,qQ,Yv,qr,qY];refine qEO (fun m ev U=>ev 3=.sl 0 [] .nil/\ev 4=.int .i64 1) 0 ⟨by simp,by simp⟩ ?_;rintro m ev U R hR ⟨e3,e4⟩;simp[e3,e4];rw[qA (by simp)];exact⟨by simp,by simp[zN,Leq]⟩
 have hl0:=qAI.2 h0;simp[oM,zq,zX,qQ,Yv,show ¬(l.length=0) by omega,show l.length<=549755813888 by omega,h0];refine qEO (fun m ev U=>∃i T,m=l.length-i/\1<=i/\i<=l.length/\ev 3=.ms 0 0 l.length 1/\ev 4=.int .i64 i/\U=⟨[.cells (zc (zN (l.take i)++l.drop i))],T⟩) (l.length-1) ?_ ?_
 . refine⟨1,[],by omega,by omega,by omega,by simp,by simp,?_⟩;obtain⟨a,q,rfl⟩:∃a q,l=a::q:=by
    cases l with
    |nil=>exact absurd rfl h0
    |cons a q=>exact⟨a,q,rfl⟩
   have:zN ((a::q).take 1)++(a::q).drop 1=a::q:=rfl;rw[this,jL,qBM]
 rintro m ev U R hR ⟨i,T,rfl,h1,hi,e3,e4,rfl⟩;by_cases hlt:i<l.length
 case neg=>
  have hil:i=l.length:=by omega
  subst hil;have hlt':¬(l.length:Int)<l.length:=by omega
  have hrow:zN (l.take l.length)++l.drop l.length=zN l:=by rw[qB7,qBk,qA6]
  rw[hrow];simp[e3,e4];have hsl:=Y9 l;rw[<- hsl];have ho:jx 0 1 qh [.cells (zc (zN l))] (.ms 0 0 (zN l).length 1) (zN l):=.inr ⟨fun h=>by rw[h]at hsl;simp at hsl;omega,rfl,by rw[jL];rfl⟩;exact⟨ho.frzNo (fun x=>by simp) (fun x=>by simp) (fun x=>by simp) 7,ho.frz (fun x=>by simp) (fun x=>by simp) (fun x=>by simp) 7⟩
 have hw:=wr (n:=(i:Int)+1) (by omega) (by omega);obtain⟨x,hx⟩:∃x,l[i]?=some x:=⟨_,qAo hlt⟩;have hSl:(zN (l.take i)).length=i:=by rw[Y9,qA8];omega
 have htk:zN (l.take (i+1))=qdA x (zN (l.take i)).reverse []:=by
  rw[qAT,hx];exact Ji _ _
 obtain⟨Q,hQ⟩:∃Q,Q=l.drop (i+1):=⟨_,rfl⟩;have hQl:Q.length=l.length-(i+1):=by rw[hQ,qCd]
 rw[zb hx,<- hQ];generalize hTG:qdA x (zN (l.take i)).reverse []=TG at *;generalize zN (l.take i)=S at *;simp[e3,e4,show(i:Int)<l.length by omega];refine qEO (fun m ev U=>∃A B,m=A.length/\A.length+B.length=i/\ev 3=.ms 0 0 l.length 1/\ev 4=.int .i64 i/\ev 5=.int .i64 (A.length:Nat)/\U=⟨[.cells (zc (A.reverse++x::(B++Q)))],T⟩/\qdA x A B=TG) S.length ?_ ?_
 . exact⟨S.reverse,[],by simp,by simp[hSl],by simp[e3],by simp[e4],by simp[hSl],by simp,hTG⟩
 clear e3 e4;rintro m ev U R2 hR2 ⟨A,B,rfl,hAB,e3,e4,e5,rfl,hin⟩;have fin:∀ev',ev' 3=.ms 0 0 l.length 1->ev' 4=.int .i64 ((i:Int)+1)->TG=A.reverse++x::B->R ev' ⟨[.cells (zc (A.reverse++x::(B++Q)))],T⟩:=fun ev' a3 a4 h=>
  hR (l.length-(i+1)) _ _ (by omega) ⟨i+1,T,rfl,by omega,by omega,a3,by rw[a4];simp,by rw[htk,h,<- hQ];simp⟩
 cases A with
 | nil=>
  simp[e4,e5,hw];exact fin _ (by simp[e3]) (by simp) (by rw[<- hin];rfl)
 | cons a A=>
  obtain⟨P,hP⟩:∃P,P=A.reverse:=⟨_,rfl⟩;obtain⟨m,hm⟩:∃m,m=A.length:=⟨_,rfl⟩;have hPl:(zc P).length=m:=by rw[qS,hP,qDD,hm]
  obtain⟨Z,hZ⟩:∃Z,Z=zc (B++Q):=⟨_,rfl⟩;have hrow:∀y z,zc (P++y::z::(B++Q))=zc P++.int .i64 y::.int .i64 z::Z:=fun y z=>by rw[hZ];simp[zc]
  have hd1:∀y z,(zc P++AV.int .i64 y::.int .i64 z::Z).drop m=.int .i64 y::.int .i64 z::Z:=fun y z=>by
   rw[qB3 (by omega),qA3 (by omega)];rfl
  have hd2:∀y z,(zc P++AV.int .i64 y::.int .i64 z::Z).drop (m+1)=.int .i64 z::Z:=fun y z=>by
   rw[show m+1=m+1 from rfl,<- qDE,hd1];rfl
  have hs1:∀y z w,(zc P++AV.int .i64 y::.int .i64 z::Z).set m (.int .i64 w)=zc P++.int .i64 w::.int .i64 z::Z:=fun y z w=>by
   rw[qBc _ _ (by omega),hPl,qBm];rfl
  have hs2:∀y z w,(zc P++AV.int .i64 y::.int .i64 z::Z).set (m+1) (.int .i64 w)=zc P++.int .i64 y::.int .i64 w::Z:=fun y z w=>by
   rw[qBc _ _ (by omega),hPl,show m+1-m=1 by omega];rfl
  have hln:∀y z,(zc P++AV.int .i64 y::.int .i64 z::Z).length=l.length:=fun y z=>by
   simp only[qAq,qAD,hPl,show Z.length=B.length+Q.length by rw[hZ,qS,qAq]]at *;omega
  have hml1:m+1<l.length:=by simp at hAB;omega
  have hml2:m+1<=l.length:=by omega
  have hml3:m+2<=l.length:=by omega
  have hml4:(m:Int)+1<l.length:=by omega
  have hml5:(m:Int)<l.length:=by omega
  have hwm:=wr (n:=(m:Int)) (by omega) (by omega);have e5':ev 5=.int .i64 ((m:Int)+1):=by rw[e5,hm];simp
  have hp1:(0:Int)<(m:Int)+1:=by omega
  have hp2:(0:Int)<=(m:Int)+1:=by omega
  have hrA:(a::A).reverse++x::(B++Q)=P++a::x::(B++Q):=by rw[hP];simp
  have hin2:=hin;unfold qdA at hin2;by_cases hxa:x<a
  . rw[if_pos hxa]at hin2;rw[hrA,hrow];simp[e3,e5',hp1,hp2,hml2,hml3,hml4,hml5,hd1,hd2,hs1,hs2,hln,hwm,hxa];refine hR2 A.length _ _ (by simp) ⟨A,a::B,rfl,by simp at hAB⊢;omega,by simp[e3],by simp[e4],by simp[hm],?_,hin2⟩;rw[<- hP,qAL,hrow]
  rw[if_neg hxa]at hin2;have vG:=fin;rw[hrA,hrow]at vG⊢;simp[e3,e4,e5',hp1,hp2,hml2,hml3,hml4,hml5,hd1,hd2,hln,hwm,hxa,hw];exact vG _ (by simp[e3]) (by simp) (by rw[<- hin2];simp)
def qgf{x v}:∀{A B:List Int},v∈qdA x A B↔v=x\/v∈A\/v∈B
 |[],B=>by simp[qdA]
 | a::A,B=>by
  unfold qdA;split
  . rw[qgf];simp only[qAM];constructor
    . rintro(h|h|h|h)
      . exact .inl h
      . exact .inr (.inl (.inr h))
      . exact .inr (.inl (.inl h))
      . exact .inr (.inr h)
    rintro(h|(h|h)|h)
    . exact .inl h
    . exact .inr (.inr (.inl h))
    . exact .inr (.inl h)
    exact .inr (.inr (.inr h))
  simp only[qAC,qDw,qAM];constructor
  . rintro(h|h|h|h)
    . exact .inr (.inl (.inr h))
    . exact .inr (.inl (.inl h))
    . exact .inl h
    . exact .inr (.inr h)
  rintro(h|(h|h)|h)
  . exact .inr (.inr (.inl h))
  . exact .inr (.inl h)
  . exact .inl h
  exact .inr (.inr (.inr h))
def ZA{v}(l):v∈zN l↔v∈l:=by
 induction hn:l.length generalizing l with
 |zero=>rw[qAA hn];simp[zN]
 | succ n ih=>
  obtain⟨d,x,rfl⟩:∃d x,l=d++[x]:=⟨l.dropLast,l.getLast (by rintro rfl;simp at hn),(qBB _).symm⟩;rw[Ji,qgf,qDw,ih d (by simpa using hn)];simp[or_comm]
def jo(a b:List Int):List Int->Bool
 |[]=>false
 |v::r=>if a.getD v.toNat 0=b.getD v.toNat 0 then jo a b r else decide (a.getD v.toNat 0<b.getD v.toNat 0)
def qrQ(p:Problem)(i:Nat)(g:List Int)(a b:List Int)(hgi:p.groups[i]?=some g)(hgl:g.length<=1000000)(hgv:∀v∈g,0<=v/\v<(a.length:Nat)/\v<(b.length:Nat)) :
 Pure prog GG 86 [.agg (qt p),.int .i64 i,.sl 1 (a.map qh) .none,.sl 1 (b.map qh) .none] (.bool (jo a b (zN g))):=by
 refine qEG qe func86 rfl (by kernel_rfl) ?_;have hso:=qi8 g hgl;have hsl:=Y9 g;have hsv:∀v∈zN g,0<=v/\v<(a.length:Nat)/\v<(b.length:Nat):=fun v hv=>hgv v ((ZA g).1 hv)
 have hil:=(qAm.1 hgi).1;generalize zN g=S at *;obtain⟨r,hr⟩:∃r,r=jo a b S:=⟨_,rfl⟩;rw[<- hr];simp;refine qEO (fun m ev U=>∃k,m=S.length-k/\k<=S.length/\ev 1=.int .i64 i/\ev 2=.sl 1 (a.map qh) .none/\ev 3=.sl 1 (b.map qh) .none/\ev 4=.ptr 0 0/\ev 9=.int .i64 k/\U=⟨[.cells (qt p)],[]⟩/\r=jo a b (S.drop k)) S.length ?_ ?_
 . exact⟨0,rfl,by omega,by simp,by simp,by simp,by simp,by simp,by simp,hr⟩
 rintro m ev U R hR ⟨k,rfl,hk,e1,e2,e3,e4,e9,rfl,hrk⟩;by_cases hkl:k<S.length
 case neg=>
  rw[show S.drop k=[] by simp;omega]at hrk;have hrk:r=false:=hrk;have hkl':¬(k:Int)<g.length:=by omega
  simp[e1,e4,e9,hgi,hkl',hrk]
 have hkl1:k<g.length:=by omega
 have hw2:=wr (n:=(k:Int)+1) (by omega) (by omega);obtain⟨v,hv⟩:∃v,S[k]?=some v:=⟨_,qAo hkl⟩;obtain⟨v0,va,vb⟩:=hsv v (qAn hv);obtain⟨w,rfl⟩:=qAH v0;obtain⟨x,hx⟩:∃x,a[w]?=some x:=⟨_,qAo (by omega)⟩;obtain⟨y,hy⟩:∃y,b[w]?=some y:=⟨_,qAo (by omega)⟩;rw[zb hv]at hrk;unfold jo at hrk;simp only[qAS,List.getD,hx,hy,qD2]at hrk;simp[e1,e4,e9,hgi,show(k:Int)<g.length by omega];refine qEJ (G:=zk GG) hso (by simp) ?_;by_cases hxy:x=y
 . subst hxy;rw[if_pos rfl]at hrk;simp[e2,e3,e9,hv,hx,hy,hw2,show(k:Int)<S.length by omega];exact hR (S.length-(k+1)) _ _ (by omega) ⟨k+1,rfl,by omega,by simp[e1],by simp[e2],by simp[e3],by simp[e4],by simp,by simp,hrk⟩
 rw[if_neg hxy]at hrk;simp[e2,e3,e9,hv,hx,hy,hxy,hrk]
def qvL(s:Nat)(X:List (List Int))(tok:Abs.Tok)(T:List (Option Nat)):Prop:=(s=1/\qgR tok T)\/(X=[]/\tok=.nil)
def qr4{H T X Y tok ty s}(hg:qvL s X tok T)(hX:X.length+Y.length<=549755813888) :
 ∃s2 t2 T2,qr (Dof prog) ⟨H,T⟩ 25 (.sl s (X.map qx) tok) (.sl 1 (Y.map qx) ty)=some (.sl s2 ((X++Y).map qx) t2,⟨H,T2⟩)/\qvL s2 (X++Y) t2 T2:=by
 have hx1:X.length<=549755813888:=by omega
 by_cases h2:Y=[]
 . subst h2;refine⟨s,tok,T,?_,by rw[qA6];exact hg⟩;rcases hg with⟨rfl,_⟩|⟨rfl,_⟩<;>simp[qr,qY,hx1]
 rcases hg with⟨rfl,rfl|⟨t,k,rfl,ht⟩⟩|⟨rfl,rfl⟩
 . exact⟨1,.chain T.length Y.length,T++[some Y.length],by simp[qr,qY,h2,hX],.inl ⟨rfl,.inr ⟨_,_,rfl,by simp⟩⟩⟩
 . have hl:=(qAm.1 ht).1;exact⟨1,.chain t (k+Y.length),T.set t (some (k+Y.length)),by simp[qr,qY,h2,hX,ht],.inl ⟨rfl,.inr ⟨_,_,rfl,by simp[hl]⟩⟩⟩
 have:Y.length<=549755813888:=by simpa using hX
 exact⟨1,.chain T.length Y.length,T++[some Y.length],by simp[qr,qY,h2,this],.inl ⟨rfl,.inr ⟨_,_,rfl,by simp⟩⟩⟩
def qkn(l:List (List Int))(at' a)(hat:at'<=l.length)(hl:l.length<=1000000) :
 Pure prog GG 87 [.sl 1 (l.map qx) .none,.int .i64 at',.sl 1 (a.map qh) .none] (.sl 1 ((l.take at'++a::l.drop at').map qx) .none):=by
 refine qEG qe func87 rfl (by kernel_rfl) ?_;have h1:zj (.sl 1 (l.map qx) .none) none (some (.int .i64 at')) none=some (.sl 1 ((l.take at').map qx) .none):=by
  simp[zj,zS,y8,zU,hat]
 have h2:zj (.sl 1 (l.map qx) .none) (some (.int .i64 at')) none none=some (.sl 1 ((l.drop at').map qx) .none):=by
  have h2:(l.map qx).take l.length=l.map qx:=qAs (by simp);simp[zj,zS,y8,zU,hat,h2]
 obtain⟨s1,t1,T1,a1,g1⟩:=qr4 (H:=[]) (T:=[]) (X:=[]) (Y:=l.take at') (tok:=.nil) (ty:=.none) (s:=0) (.inr ⟨rfl,rfl⟩) (by simp;omega);rw[qAK]at a1 g1;obtain⟨s2,t2,T2,a2,g2⟩:=qr4 (H:=[]) (T:=T1) (Y:=[a]) (ty:=.tight) g1 (by simp;omega);obtain⟨s3,t3,T3,a3,g3⟩:=qr4 (H:=[]) (T:=T2) (Y:=l.drop at') (ty:=.none) g2 (by simp;omega);have e:l.take at'++[a]++l.drop at'=l.take at'++a::l.drop at':=by simp
 rw[e]at a3 g3;generalize l.take at'++a::l.drop at'=R at *;generalize l.take at'++[a]=X2 at *;generalize l.take at'=X1 at *;generalize l.drop at'=X3 at *;simp only[qAZ,qAz,qx]at a1 a2 a3 h1 h2;simp[-getElem?_pos,h1,h2,a1,a2,a3,qf,qm];have hn:qZ (R.map qx)=true:=zp (fun x=>by simp) R;rcases g3 with⟨rfl,g⟩|⟨rfl,rfl⟩
 . rcases g with rfl|⟨t,k,rfl,_⟩<;>simp[qO,hn,Leq,qES]
 simp[qO,qZ,Leq]
noncomputable def qmv(p:Problem)(R:List Ex)(fx:Nat->Option Nat)(a:List Int)(gi:Nat):Nat:=qbn p R fx ((NG p).getD gi []) (((NG p).take gi).flatten.map fun i=>(i,aN a i))
noncomputable def Yd(p:Problem)(R:List Ex)(gi:Int)(a:List Int):Int×Int :=
 if gi<0\/((NG p).length:Int)<=gi\/qC p.vars a=false then(0,1)
 else if qmv p R (fun _=>none) a gi.toNat=0 then(0,11) else if qmv p R (fun _=>none) a gi.toNat=lim then(0,3) else(qmv p R (fun _=>none) a gi.toNat,0)
noncomputable def qwU(p:Problem)(R:List Ex)(a:List Int)(gi:Nat):List Nat->(Nat->Option Nat)->Int->List Int->List Int
 |[],_,_,out=>out
 | i::r,fx,idx,out=>
  let q:=yk (fun x=>qmv p R (yH fx i x) a gi) (2^wdN p i) 0 idx
  qwU p R a gi r (yH fx i q.1) q.2 (out.set i q.1)
noncomputable def qov(p:Problem)(R:List Ex)(gi:Nat)(a:List Int)(idx:Int):List Int:=qwU p R a gi (yQ ((NG p).getD gi [])) (fun _=>none) idx a
def qvn(p a gi):∀(l) (fx) (idx) (out),chP p a gi l fx idx out=qwU p (qE p).1 a gi l fx idx out
 |[],_,_,_=>rfl
 | i::r,fx,idx,out=>by
  unfold chP qwU;exact qvn p a gi r _ _ _
def qo6(p gi a):JQ p gi a=Yd p (qE p).1 gi a:=rfl
def qlg(p gi a idx):Qo p gi a idx=qov p (qE p).1 gi a idx:=qvn _ _ _ _ _ _ _
def qhu{p}(hv:qk p=0)(hs:p.soft=[])(hd:p.dists=[])(h:jO p.vars p.hard=true):qE p=(p.hard,0):=by
 have hn:zu p=p.hard:=by
  unfold zu jF wa;rw[if_pos hv,hd];simp
 have hns:qep p=p.hard:=by
  unfold qep wa;rw[hd];simp
 unfold qE;rw[if_pos hv,hn,if_pos h];unfold qjo Zh;rw[hns,hs];simp[Zg,yl]
def p1:Problem:={ vars:=[⟨[97],1,2,0⟩],hard:=[],soft:=[],dists:=[],groups:=[[0]] }
end Go.Proofs.YtafbccendejkeaaGreatDoor
namespace Go.Abs
open Go Go.RowKit
def Pure.ofA{P G f args r Q}(h:qg P (zk G) f args ⟨[],[]⟩ Q)(hq:∀v U',Q v U'->qO (frz U'.H 8 v)=true/\Leq (frz U'.H 8 v) r):Pure P G f args r:=by
 refine⟨h.1,?_⟩;intro w0 ro vs hg hro hvs;have hw:WRel (zk G) w0 ro (K0 ro) ⟨[],[]⟩ w0:=⟨Below.refl _ _,hg,hro,fun b o v e _=>e,by simp,fun _ _ _ e=>by simp[K0]at e,fun _ _ e=>by simp[K0]at e,by simp,fun _ _ e=>by simp[K0]at e,
  fun _ _ _ _ e=>by simp[K0]at e,rfl,fun _ _ _ _ _ e=>by simp[K0]at e,fun _ _ e=>by simp[K0]at e,fun _ _ e=>by simp[K0]at e⟩
 refine(h.2 w0 ro (K0 ro) w0 vs hw hvs).mono ?_;rintro e w' (⟨v',v,U',K',rfl,h1,h2,hv,hQ⟩|⟨c,U',K',rfl,h1,h2,hX⟩)
 . obtain⟨q1,q2⟩:=h2.end_ro;obtain⟨g1,g2⟩:=hq v U' hQ;exact⟨v',vW w0 w' K'.ro,rfl,h2.below,fun b o v e=>Yy _ _ _ _ _ _ (h1.ro b o v e),q1,q2,qEP _ _ g2 (qkB h2 8 hv)⟩
 exact hX.elim
end Go.Abs
namespace Go.Proofs.YtafbccendejkeaaGreatDoor
open Go Go.Abs Proofs.Tryz
def qit.frz{b H v a}(h:qit b H v a)(n):qO (Abs.frz H (n+1) v)=true/\Leq (Abs.frz H (n+1) v) (.sl 1 (a.map qh) .none)/\(qO v=true->Leq v (.sl 1 (a.map qh) .none)):=by
 rcases h with⟨rfl,sz,tok,rfl⟩|⟨h0,rfl,hb⟩
 . have h1:∀t,Leq (.sl sz [] t) (.sl 1 (([]:List Int).map qh) .none):=fun t=>by simp[Leq]
   refine⟨?_,?_,fun _=>h1 _⟩
   . unfold Abs.frz;split
     . assumption
     simp
   unfold Abs.frz;split
   . exact h1 _
   simp
 have ho:jx b 1 qh H (.ms b 0 a.length 1) a:=.inr ⟨h0,rfl,by rw[hb,jL]⟩;exact⟨ho.frzNo (fun _=>rfl) (fun _=>rfl) (fun _=>rfl) n,ho.frz (fun _=>rfl) (fun _=>rfl) (fun _=>rfl) n,fun h=>by simp[qO]at h⟩
def qcC{n i w}:∀{l:List Dist},(z8 n l)[i]?=some (some w)->∃d∈l,d.var.toNat=i/\d.weights=w:=by
 intro l
 induction hn:l.length generalizing l with
 | zero=>
  have:=qAA hn;subst this;intro h;simp[z8]at h;have:=List.eq_of_mem_replicate (qAn h);cases this
 | succ k ih=>
  obtain⟨d,x,rfl⟩:∃d x,l=d++[x]:=⟨l.dropLast,l.getLast (by rintro rfl;simp at hn),(qBB _).symm⟩;intro h;rw[KG]at h;by_cases hi:x.var.toNat=i
  . have hl:x.var.toNat<(z8 n d).length:=by
     have:=(qAm.1 h).1;rw[qBK]at this;omega
    subst hi;rw[qAt hl]at h;simp at h;exact⟨x,by simp,rfl,h⟩
  rw[qAp hi]at h;obtain⟨y,hy,h1,h2⟩:=ih (by simpa using hn) h;exact⟨y,by simp[hy],h1,h2⟩
def Jj:∀(l) (s),(zK l s).2=0->∃m:Nat,(zK l s).1=m/\s∣m/\∀w∈l,w.each≠true->wsz w∣m
 |[],s,_=>⟨s,rfl,Nat.dvd_refl _,by simp⟩
 | w::r,s,h=>by
  unfold zK at h⊢;by_cases he:w.each=true
  . rw[if_pos he]at h⊢;obtain⟨m,h1,h2,h3⟩:=Jj r s h;refine⟨m,h1,h2,fun x hx hne=>?_⟩;rcases qAM.1 hx with rfl|hx
    . exact absurd he hne
    exact h3 x hx hne
  rw[if_neg he]at h⊢;by_cases hl:Nat.lcm s (wsz w)<9223372036854775808
  . rw[if_pos hl]at h⊢;obtain⟨m,h1,h2,h3⟩:=Jj r _ h;refine⟨m,h1,Nat.dvd_trans (Nat.dvd_lcm_left _ _) h2,fun x hx hne=>?_⟩;rcases qAM.1 hx with rfl|hx
    . exact Nat.dvd_trans (Nat.dvd_lcm_right _ _) h2
    exact h3 x hx hne
  rw[if_neg hl]at h;cases h
def qdE{l v}(hp:vI l v=true)(h:(zR l v).2=0):1<=(zR l v).1:=by
 unfold zR at h⊢;split at h
 . exact absurd h (by assumption)
 rename_i h1;split at h
 . exact absurd h (by assumption)
 rename_i h2;rw[if_neg h1,if_neg h2];obtain⟨hw,_,_⟩:=vP (qBt.1 h1);have hs:=y9 l 1 hw (by omega) (by omega);obtain⟨m,m1,_,m3⟩:=Jj l 1 (qBt.1 h2);have hm0:0<m:=by
  rcases hs with⟨_,h3,_⟩|h3
  . rw[m1]at h3;omega
  rw[h3]at h2;exact absurd (show((3:Int))≠0 by decide) h2
 rw[m1]at h⊢;rw[show((m:Int)).toNat=m by omega]at h⊢;unfold vJ at h⊢;have ho:JX l v=l.find? (inW v):=rfl;unfold vI at hp;rw[<- ho]at hp
 cases hO:JX l v with
 |none=>rw[hO]at hp;cases hp
 | some w=>
  rw[hO]at hp h;dsimp only at hp h⊢;have hwp:=of_decide_eq_true hp;have hwm:=qD1 hO;have hwl:=hw w hwm;by_cases he:w.each=true
  . rw[if_pos he]at h⊢;unfold J2 at h⊢;split at h
    . rename_i hlt;rw[if_pos hlt];have:0<w.weight.toNat*m:=qDs (by omega) hm0;dsimp only;omega
    cases h
  rw[if_neg he]at h⊢;unfold J2 at h⊢;split at h
  . rename_i hlt;rw[if_pos hlt];have hd:=qDr (qCG hm0 (m3 w hwm he)) (Jg hwl.2.1);have:0<w.weight.toNat*(m/wsz w):=qDs (by omega) hd;dsimp only;omega
  cases h
def qqj{l v}(hp:vI l v=true):0<wtO (some l) v:=by
 unfold wtO;dsimp only;split
 . unfold lim;omega
 rename_i h;have:=qdE hp (qBt.1 h);exact qDQ fun e=>by
  rw[Zb]at e;omega
def qtE{p}(hv:qk p=0){b}(hb:b∈jV p.vars)(hs:∀e∈zu p,jw (yg p.vars b) e≠0){i}(hi:i∈(NG p).flatten):0<wtP p i (aN b i)/\aN b i<2^jz p i/\b[i]?=some (aN b i:Int):=by
 obtain⟨v,hv',hm⟩:=yA hv hi;obtain⟨x,hx,hc⟩:=wn (ko.1 hb) hv';rw[if_neg hm]at hc;have hax:aN b i=x.toNat:=by unfold aN;rw[qAx,hx];rfl
 have hxx:((aN b i:Nat):Int)=x:=by rw[hax];omega
 refine⟨?_,?_,by rw[hxx];exact hx⟩
 . unfold wtP;obtain⟨o,ho⟩:∃o,(z8 p.vars.length p.dists)[i]?=some o:=⟨_,qAo (by rw[j8];exact(qAm.1 hv').1)⟩;rw[qAx,ho]
   cases o with
   |none=>exact Nat.one_pos
   | some w=>
    obtain⟨d,hd,hdv,hdw⟩:=qcC ho;have hsup:vE p.vars d∈zu p:=by
     unfold zu jF wa;rw[if_pos hv];exact qBA _ (qAN.2 ⟨d,hd,rfl⟩)
    have hev:=(qaU (hs _ hsup)).2;have hse:vE p.vars d=yZ v.name (Qz (Zv v w)):=by
     unfold vE;rw[hdv,hv',hdw]
    rw[hse]at hev;have hmem:=(qhb _ _ _).1 hev;rcases qsk hv hb hv' hx with⟨hf,_⟩|h0
    . rw[hf]at hmem;have:=(qBu.1 hmem).2;rw[hxx];exact qqj this
    exact absurd h0 hm
 have:=(qo2 hv hv').1;rw[this,hax];unfold zP at hc;omega
def qat{p val}:∀{g:List Nat},(∀i∈g,0<wtP p i (val i))->0<jJ p val g
 |[],_=>Nat.one_pos
 |i::r,h=>qDs (h i (by simp)) (qat fun k hk=>h k (by simp[hk]))
