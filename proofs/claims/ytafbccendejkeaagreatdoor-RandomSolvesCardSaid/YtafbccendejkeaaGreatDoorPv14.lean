import Derived.Test.YtafbccendejkeaaGreatDoorPv09
set_option maxRecDepth 100000
set_option linter.all false
namespace Go.Proofs.YtafbccendejkeaaGreatDoor
open Go Go.Abs Tryz
def ql7{p e}:(pre e).any p=(p e||e.args.any fun a=>(pre a).any p):=by
 rw[jF,qDc];congr 1;generalize e.args=l
 induction l with
 |nil=>simp
 |cons a r ih=>simp[ih]
def ql8{α:Type}{p:α->Bool}{l:List α}(h:∀a∈l,p a=false):l.any p=false:=by
 rw[qCu];intro e;obtain⟨a,h1,h2⟩:=qBJ.1 e;rw[h a h1]at h2;cases h2
def qfg{α:Type}{p:α->Bool}{l:List α}{a:α}(h:a∈l)(hp:p a=true):l.any p=true:=qBJ.2 ⟨a,h,hp⟩
def ql0:∀(e),Wen e->Pure prog GG 230 [.agg (qp e)] (.bool (Yq e)):=by
 refine qFX fun e ih hwe=>?_
 refine okzQ func230 rfl rfl ?_;have hl:=hwe.fits;have hA:Yq e=(decide (e.op=3\/e.op=24)||e.args.any Yq):=ql7;by_cases o3:e.op=3
 . have x:Yq e=true:=(by rw[hA];simp[o3]);rw[x];simp only[qc e,o3];simp
 by_cases o24:e.op=24
 . have x:Yq e=true:=(by rw[hA];simp[o24]);rw[x];simp only[qc e,o24];simp
 have hA':Yq e=e.args.any Yq:=by rw[hA];simp[o3,o24]
 simp only[qc e];simp[o3,o24];refine qFW (fun n env U=>∃i,i<=e.args.length/\n=e.args.length-i/\env 1=.ptr 0 0/\env 3=.int .i64 i/\U=⟨[.cells (qp e)],[]⟩/\∀a∈e.args.take i,Yq a=false) e.args.length ⟨0,by simp,by simp,by simp,by simp,by rw[qc e],by simp⟩ ?_;rintro n env U ⟨i,hi,rfl,h1,h3,rfl,hall⟩
 cases hv:e.args[i]? with
 | some a=>
  obtain⟨hc,hv'⟩:=qBa.1 hv;have hm:=qBb hv;simp[h1,h3,qc e,hc,hv',qc a];rw[<- qc a];refine qFJ (ih a hm (hwe.arg hm)) (by simp) ?_;cases ha:Yq a
  . simp[h1,h3];exact⟨_,by omega,i+1,by omega,rfl,wr (by omega) (by omega),qW hv hall ha⟩
  have x:Yq e=true:=by rw[hA'];exact qfg hm ha
  rw[x];simp
 | none=>
  have hc:¬i<e.args.length:=by simp at hv;omega
  have ht:e.args.take i=e.args:=qBh (by omega);rw[ht]at hall;have x:Yq e=false:=by rw[hA'];exact ql8 hall
  rw[x];simp[h1,h3,qc e,hc]
def qik(l)(hlv:Fits l):∀(e),Wen e->Pure prog GG 231 [.sl 4 (l.map qG) .none,.agg (qp e)] (.bool (Zx l e)):=by
 refine qFX fun e ih hwe=>?_
 refine okzQ func231 rfl rfl ?_;have hl:=hwe.fits;have hA:Zx l e=((decide (e.op=2)&&!Qr l e.name)||e.args.any (Zx l)):=ql7;by_cases o2:e.op=2
 . simp only[qc e,o2];simp;refine qFJ (qeU GG l e.name hlv) (by simp) ?_;have hg:=Qu (fun v:Var=>v.name==e.name) l;cases hh:Qr l e.name
   . have x:Zx l e=true:=(by rw[hA];simp[o2,hh]);simp only[Qr]at hh;rw[hh]at hg;have hf:=of_decide_eq_true hg;rw[x];simp[hf]
   have hA':Zx l e=e.args.any (Zx l):=(by rw[hA];simp[o2,hh]);simp only[Qr]at hh;rw[hh]at hg;have hf:=of_decide_eq_false hg;simp[hf];refine qFW (fun n env U=>∃i,i<=e.args.length/\n=e.args.length-i/\env 0=.sl 4 (l.map qG) .none/\env 3=.ptr 0 0/\env 5=.int .i64 i/\U=⟨[.cells (qp e)],[]⟩/\∀a∈e.args.take i,Zx l a=false) e.args.length ⟨0,by simp,by simp,by simp,by simp,by simp,by rw[qc e,o2],by simp⟩ ?_;rintro n env U ⟨i,hi,rfl,h0,h3,h5,rfl,hall⟩
   cases hv:e.args[i]? with
   | some a=>
    obtain⟨hc,hv'⟩:=qBa.1 hv;have hm:=qBb hv;simp[h0,h3,h5,qc e,hc,hv',qc a];rw[<- qc a];refine qFJ (ih a hm (hwe.arg hm)) (by simp) ?_;cases ha:Zx l a
    . simp[h0,h3,h5];exact⟨_,by omega,i+1,by omega,rfl,wr (by omega) (by omega),qW hv hall ha⟩
    have x:Zx l e=true:=(by rw[hA'];exact qfg hm ha);rw[x];simp
   | none=>
    have hc:¬i<e.args.length:=(by simp at hv;omega);have ht:e.args.take i=e.args:=qBh (by omega);rw[ht]at hall;have x:Zx l e=false:=(by rw[hA'];exact ql8 hall);rw[x];simp[h3,h5,qc e,hc]
 have hA':Zx l e=e.args.any (Zx l):=by rw[hA];simp[o2]
 simp only[qc e];simp[o2];refine qFW (fun n env U=>∃i,i<=e.args.length/\n=e.args.length-i/\env 0=.sl 4 (l.map qG) .none/\env 3=.ptr 0 0/\env 5=.int .i64 i/\U=⟨[.cells (qp e)],[]⟩/\∀a∈e.args.take i,Zx l a=false) e.args.length ⟨0,by simp,by simp,by simp,by simp,by simp,by rw[qc e],by simp⟩ ?_;rintro n env U ⟨i,hi,rfl,h0,h3,h5,rfl,hall⟩
 cases hv:e.args[i]? with
 | some a=>
  obtain⟨hc,hv'⟩:=qBa.1 hv;have hm:=qBb hv;simp[h0,h3,h5,qc e,hc,hv',qc a];rw[<- qc a];refine qFJ (ih a hm (hwe.arg hm)) (by simp) ?_;cases ha:Zx l a
  . simp[h0,h3,h5];exact⟨_,by omega,i+1,by omega,rfl,wr (by omega) (by omega),qW hv hall ha⟩
  have x:Zx l e=true:=by rw[hA'];exact qfg hm ha
  rw[x];simp
 | none=>
  have hc:¬i<e.args.length:=by simp at hv;omega
  have ht:e.args.take i=e.args:=qBh (by omega);rw[ht]at hall;have x:Zx l e=false:=by rw[hA'];exact ql8 hall
  rw[x];simp[h3,h5,qc e,hc]
def VG(l:List Var)(e:Ex):Int:=if Yq e=true then 9 else if Zx l e=true then 7 else 0
def qnM(l)(hlv:Fits l)(e)(hwe:Wen e):Pure prog GG 162 [.sl 4 (l.map qG) .none,.agg (qp e)] (.int .i64 (VG l e)):=by
 refine okzQ func162 rfl rfl ?_;simp only[qc e];simp;rw[<- qc e];refine qFJ (ql0 e hwe) (by simp) ?_;cases ha:Yq e
 . simp[qc e];rw[<- qc e];refine qFJ (qik l hlv e hwe) (by simp) ?_;cases hf:Zx l e<;>simp[VG,ha,hf]
 simp[VG,ha]
