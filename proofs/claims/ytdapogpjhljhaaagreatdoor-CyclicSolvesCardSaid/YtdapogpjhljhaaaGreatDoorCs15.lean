import Derived.Test.YtdapogpjhljhaaaGreatDoorCs10
set_option maxRecDepth 100000
set_option linter.all false
set_option linter.defProp false
namespace Go.Proofs.YtdapogpjhljhaaaGreatDoor
open Go Go.Abs Tryz
def qmk{p e}:(pre e).any p=(p e||e.args.any fun a=>(pre a).any p):=by
 rw[jv,qDf];congr 1;generalize e.args=l
 induction l with
 |nil=>simp
 |cons a r ih=>simp[ih]
def qml{α:Type}{p:α->Bool}{l:List α}(h:∀a∈l,p a=false):l.any p=false:=by
 rw[qCs];intro e;obtain⟨a,h1,h2⟩:=qBM.1 e;rw[h a h1]at h2;cases h2
def qfh{α:Type}{p:α->Bool}{l:List α}{a:α}(h:a∈l)(b:p a=true):l.any p=true:=qBM.2 ⟨a,h,b⟩
def qmc:∀(e),Wen e->Pure prog GG 110 [.agg (qo e)] (.bool (Yy e)):=by
 refine qF4 fun e ih l=>?_
 refine qF6 func110 ?_;have s:=l.fits;have h:Yy e=(decide (e.op=3\/e.op=24)||e.args.any Yy):=qmk;by_cases b:e.op=3
 . have x:Yy e=true:=(by rw[h];simp[b]);rw[x];simp only[qd e,b];simp
 by_cases c:e.op=24
 . have x:Yy e=true:=(by rw[h];simp[c]);rw[x];simp only[qd e,c];simp
 have m:Yy e=e.args.any Yy:=by rw[h];simp[b,c]
 simp only[qd e];simp[b,c];refine qF3 (fun n env σ=>∃i,i<=e.args.length/\n=e.args.length-i/\env 1=.ptr 0 0/\env 3=.int .i64 i/\σ=⟨[.cells (qo e)],[]⟩/\∀a∈e.args.take i,Yy a=false) e.args.length ⟨0,by simp,by simp,by simp,by simp,by rw[qd e],by simp⟩ ?_;rintro n env σ ⟨i,hi,rfl,h1,g,rfl,f⟩
 cases hv:e.args[i]? with
 | some a=>
  obtain⟨j,r⟩:=qBk.1 hv;have d:=qBl hv;simp[h1,g,qd e,j,r,qd a];rw[<- qd a];refine qFQ (ih a d (l.arg d)) ?_;cases ha:Yy a
  . simp[h1,g];exact⟨_,by omega,i+1,by omega,rfl,wr,zf hv f ha⟩
  have x:Yy e=true:=by rw[m];exact qfh d ha
  rw[x];simp
 | none=>
  have j:¬i<e.args.length:=by simp at hv;omega
  have o:e.args.take i=e.args:=qBr (by omega);rw[o]at f;have x:Yy e=false:=by rw[m];exact qml f
  rw[x];simp[h1,g,qd e,j]
def qik(l)(w:Fits l):∀(e),Wen e->Pure prog GG 111 [.sl 4 (l.map qu) .none,.agg (qo e)] (.bool (ZD l e)):=by
 refine qF4 fun e ih r=>?_
 refine qF6 func111 ?_;have y:=r.fits;have s:ZD l e=((decide (e.op=2)&&!wK l e.name)||e.args.any (ZD l)):=qmk;by_cases h:e.op=2
 . simp only[qd e,h];simp;refine qFQ (qeT GG l e.name w) ?_;have m:=Qx (fun v:Var=>v.name==e.name) l;cases hh:wK l e.name
   . have x:ZD l e=true:=(by rw[s];simp[h,hh]);simp only[wK]at hh;rw[hh]at m;have o:=of_decide_eq_true m;rw[x];simp[o]
   have j:ZD l e=e.args.any (ZD l):=(by rw[s];simp[h,hh]);simp only[wK]at hh;rw[hh]at m;have o:=of_decide_eq_false m;simp[o];refine qF3 (fun n env σ=>∃i,i<=e.args.length/\n=e.args.length-i/\env 0=.sl 4 (l.map qu) .none/\env 3=.ptr 0 0/\env 5=.int .i64 i/\σ=⟨[.cells (qo e)],[]⟩/\∀a∈e.args.take i,ZD l a=false) e.args.length ⟨0,by simp,by simp,by simp,by simp,by simp,by rw[qd e,h],by simp⟩ ?_;rintro n env σ ⟨i,hi,rfl,h0,f,b,rfl,d⟩
   cases hv:e.args[i]? with
   | some a=>
    obtain⟨g,u⟩:=qBk.1 hv;have c:=qBl hv;simp[h0,f,b,qd e,g,u,qd a];rw[<- qd a];refine qFQ (ih a c (r.arg c)) ?_;cases ha:ZD l a
    . simp[h0,f,b];exact⟨_,by omega,i+1,by omega,rfl,wr,zf hv d ha⟩
    have x:ZD l e=true:=(by rw[j];exact qfh c ha);rw[x];simp
   | none=>
    have g:¬i<e.args.length:=(by simp at hv;omega);have t:e.args.take i=e.args:=qBr (by omega);rw[t]at d;have x:ZD l e=false:=(by rw[j];exact qml d);rw[x];simp[f,b,qd e,g]
 have j:ZD l e=e.args.any (ZD l):=by rw[s];simp[h]
 simp only[qd e];simp[h];refine qF3 (fun n env σ=>∃i,i<=e.args.length/\n=e.args.length-i/\env 0=.sl 4 (l.map qu) .none/\env 3=.ptr 0 0/\env 5=.int .i64 i/\σ=⟨[.cells (qo e)],[]⟩/\∀a∈e.args.take i,ZD l a=false) e.args.length ⟨0,by simp,by simp,by simp,by simp,by simp,by rw[qd e],by simp⟩ ?_;rintro n env σ ⟨i,hi,rfl,h0,f,b,rfl,d⟩
 cases hv:e.args[i]? with
 | some a=>
  obtain⟨g,u⟩:=qBk.1 hv;have c:=qBl hv;simp[h0,f,b,qd e,g,u,qd a];rw[<- qd a];refine qFQ (ih a c (r.arg c)) ?_;cases ha:ZD l a
  . simp[h0,f,b];exact⟨_,by omega,i+1,by omega,rfl,wr,zf hv d ha⟩
  have x:ZD l e=true:=by rw[j];exact qfh c ha
  rw[x];simp
 | none=>
  have g:¬i<e.args.length:=by simp at hv;omega
  have t:e.args.take i=e.args:=qBr (by omega);rw[t]at d;have x:ZD l e=false:=by rw[j];exact qml d
  rw[x];simp[f,b,qd e,g]
def VE(l:List Var)(e:Ex):Int:=if Yy e=true then 9 else if ZD l e=true then 7 else 0
def qn3(l)(b:Fits l)(e)(a:Wen e):Pure prog GG 73 [.sl 4 (l.map qu) .none,.agg (qo e)] (.int .i64 (VE l e)):=by
 refine qF6 func73 ?_;simp only[qd e];simp;rw[<- qd e];refine qFQ (qmc e a) ?_;cases ha:Yy e
 . simp[qd e];rw[<- qd e];refine qFQ (qik l b e a) ?_;cases hf:ZD l e<;>simp[VE,ha,hf]
 simp[VE,ha]
