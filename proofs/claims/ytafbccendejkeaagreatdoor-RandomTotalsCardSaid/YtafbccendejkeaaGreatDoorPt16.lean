import Derived.Test.YtafbccendejkeaaGreatDoorPt11
set_option maxRecDepth 100000
set_option linter.all false
set_option linter.defProp false
namespace Go.Proofs.YtafbccendejkeaaGreatDoor
open Go Go.Abs Tryz
def qlK{p e}:(pre e).any p=(p e||e.args.any fun a=>(pre a).any p):=by
 rw[jB,qCn];congr 1;generalize e.args=l
 induction l with
 |nil=>simp
 |cons a r ih=>simp[ih]
def qlL{α:Type}{p:α->Bool}{l:List α}(h:∀a∈l,p a=false):l.any p=false:=by
 rw[qBD];intro e;obtain⟨a,h1,h2⟩:=qAW.1 e;rw[h a h1]at h2;cases h2
def qe2{α:Type}{p:α->Bool}{l:List α}{a:α}(h:a∈l)(hp:p a=true):l.any p=true:=qAW.2 ⟨a,h,hp⟩
def qlD:∀(e),Wen e->Pure prog GG 230 [.agg (qp e)] (.bool (Yc e)):=by
 refine qE7 fun e ih hwe=>?_
 refine qE9 qe func230 rfl (by kernel_rfl) ?_;have hl:=hwe.fits;have hA:Yc e=(decide (e.op=3\/e.op=24)||e.args.any Yc):=qlK;by_cases o3:e.op=3
 . have x:Yc e=true:=(by rw[hA];simp[o3]);rw[x];simp only[qc e,o3];simp
 by_cases o24:e.op=24
 . have x:Yc e=true:=(by rw[hA];simp[o24]);rw[x];simp only[qc e,o24];simp
 have hA':Yc e=e.args.any Yc:=by rw[hA];simp[o3,o24]
 simp only[qc e];simp[o3,o24];refine qE6 (fun n env U=>∃i,i<=e.args.length/\n=e.args.length-i/\env 1=.ptr 0 0/\env 3=.int .i64 i/\U=⟨[.cells (qp e)],[]⟩/\∀a∈e.args.take i,Yc a=false) e.args.length ⟨0,by simp,by simp,by simp,by simp,by rw[qc e],by simp⟩ ?_;rintro n env U ⟨i,hi,rfl,h1,h3,rfl,hall⟩
 cases hv:e.args[i]? with
 | some a=>
  obtain⟨hc,hv'⟩:=qAm.1 hv;have hm:=qAn hv;simp[h1,h3,qc e,hc,hv',qc a];rw[<- qc a];refine qET (ih a hm (hwe.arg hm)) (by simp) ?_;cases ha:Yc a
  . simp[h1,h3];exact⟨_,by omega,i+1,by omega,rfl,wr (by omega) (by omega),qW hv hall ha⟩
  have x:Yc e=true:=by rw[hA'];exact qe2 hm ha
  rw[x];simp
 | none=>
  have hc:¬i<e.args.length:=by simp at hv;omega
  have ht:e.args.take i=e.args:=qAs (by omega);rw[ht]at hall;have x:Yc e=false:=by rw[hA'];exact qlL hall
  rw[x];simp[h1,h3,qc e,hc]
def qh4(l)(hlv:Fits l):∀(e),Wen e->Pure prog GG 231 [.sl 4 (l.map qJ) .none,.agg (qp e)] (.bool (Zj l e)):=by
 refine qE7 fun e ih hwe=>?_
 refine qE9 qe func231 rfl (by kernel_rfl) ?_;have hl:=hwe.fits;have hA:Zj l e=((decide (e.op=2)&&!Qf l e.name)||e.args.any (Zj l)):=qlK;by_cases o2:e.op=2
 . simp only[qc e,o2];simp;refine qET (qeG GG l e.name hlv) (by simp) ?_;have hg:=Qi (fun v:Var=>v.name==e.name) l;cases hh:Qf l e.name
   . have x:Zj l e=true:=(by rw[hA];simp[o2,hh]);simp only[Qf]at hh;rw[hh]at hg;have hf:=of_decide_eq_true hg;rw[x];simp[hf]
   have hA':Zj l e=e.args.any (Zj l):=(by rw[hA];simp[o2,hh]);simp only[Qf]at hh;rw[hh]at hg;have hf:=of_decide_eq_false hg;simp[hf];refine qE6 (fun n env U=>∃i,i<=e.args.length/\n=e.args.length-i/\env 0=.sl 4 (l.map qJ) .none/\env 3=.ptr 0 0/\env 5=.int .i64 i/\U=⟨[.cells (qp e)],[]⟩/\∀a∈e.args.take i,Zj l a=false) e.args.length ⟨0,by simp,by simp,by simp,by simp,by simp,by rw[qc e,o2],by simp⟩ ?_;rintro n env U ⟨i,hi,rfl,h0,h3,h5,rfl,hall⟩
   cases hv:e.args[i]? with
   | some a=>
    obtain⟨hc,hv'⟩:=qAm.1 hv;have hm:=qAn hv;simp[h0,h3,h5,qc e,hc,hv',qc a];rw[<- qc a];refine qET (ih a hm (hwe.arg hm)) (by simp) ?_;cases ha:Zj l a
    . simp[h0,h3,h5];exact⟨_,by omega,i+1,by omega,rfl,wr (by omega) (by omega),qW hv hall ha⟩
    have x:Zj l e=true:=(by rw[hA'];exact qe2 hm ha);rw[x];simp
   | none=>
    have hc:¬i<e.args.length:=(by simp at hv;omega);have ht:e.args.take i=e.args:=qAs (by omega);rw[ht]at hall;have x:Zj l e=false:=(by rw[hA'];exact qlL hall);rw[x];simp[h3,h5,qc e,hc]
 have hA':Zj l e=e.args.any (Zj l):=by rw[hA];simp[o2]
 simp only[qc e];simp[o2];refine qE6 (fun n env U=>∃i,i<=e.args.length/\n=e.args.length-i/\env 0=.sl 4 (l.map qJ) .none/\env 3=.ptr 0 0/\env 5=.int .i64 i/\U=⟨[.cells (qp e)],[]⟩/\∀a∈e.args.take i,Zj l a=false) e.args.length ⟨0,by simp,by simp,by simp,by simp,by simp,by rw[qc e],by simp⟩ ?_;rintro n env U ⟨i,hi,rfl,h0,h3,h5,rfl,hall⟩
 cases hv:e.args[i]? with
 | some a=>
  obtain⟨hc,hv'⟩:=qAm.1 hv;have hm:=qAn hv;simp[h0,h3,h5,qc e,hc,hv',qc a];rw[<- qc a];refine qET (ih a hm (hwe.arg hm)) (by simp) ?_;cases ha:Zj l a
  . simp[h0,h3,h5];exact⟨_,by omega,i+1,by omega,rfl,wr (by omega) (by omega),qW hv hall ha⟩
  have x:Zj l e=true:=by rw[hA'];exact qe2 hm ha
  rw[x];simp
 | none=>
  have hc:¬i<e.args.length:=by simp at hv;omega
  have ht:e.args.take i=e.args:=qAs (by omega);rw[ht]at hall;have x:Zj l e=false:=by rw[hA'];exact qlL hall
  rw[x];simp[h3,h5,qc e,hc]
def Vn(l:List Var)(e:Ex):Int:=if Yc e=true then 9 else if Zj l e=true then 7 else 0
def qnl(l)(hlv:Fits l)(e)(hwe:Wen e):Pure prog GG 162 [.sl 4 (l.map qJ) .none,.agg (qp e)] (.int .i64 (Vn l e)):=by
 refine qE9 qe func162 rfl (by kernel_rfl) ?_;simp only[qc e];simp;rw[<- qc e];refine qET (qlD e hwe) (by simp) ?_;cases ha:Yc e
 . simp[qc e];rw[<- qc e];refine qET (qh4 l hlv e hwe) (by simp) ?_;cases hf:Zj l e<;>simp[Vn,ha,hf]
 simp[Vn,ha]
