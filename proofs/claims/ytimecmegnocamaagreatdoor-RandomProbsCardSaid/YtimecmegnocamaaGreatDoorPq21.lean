import Derived.Test.YtimecmegnocamaaGreatDoorPq16
set_option maxRecDepth 100000
set_option linter.all false
set_option linter.defProp false
namespace Go.Proofs.YtimecmegnocamaaGreatDoor
open Go Go.Abs Tryz
def ql4{p e}:(pre e).any p=(p e||e.args.any fun a=>(pre a).any p):=by
 rw[jC,qC1];congr 1;generalize e.args=l
 induction l with
 |nil=>simp
 |cons a r ih=>simp[ih]
def ql5{α:Type}{p:α->Bool}{l:List α}(h:∀a∈l,p a=false):l.any p=false:=by
 rw[qCe];intro e;obtain⟨a,h1,h2⟩:=qBr.1 e;rw[h a h1]at h2;cases h2
def qe3{α:Type}{p:α->Bool}{l:List α}{a:α}(h:a∈l)(hp:p a=true):l.any p=true:=qBr.2 ⟨a,h,hp⟩
def qlX:∀(e),Wen e->Pure prog GG 227 [.agg (qt e)] (.bool (Ye e)):=by
 refine qFN fun e ih hwe=>?_
 refine qFP qg func227 rfl (by kernel_rfl) ?_;have hl:=hwe.fits;have hA:Ye e=(decide (e.op=3\/e.op=24)||e.args.any Ye):=ql4;by_cases o3:e.op=3
 . have x:Ye e=true:=(by rw[hA];simp[o3]);rw[x];simp only[qc e,o3];simp
 by_cases o24:e.op=24
 . have x:Ye e=true:=(by rw[hA];simp[o24]);rw[x];simp only[qc e,o24];simp
 have hA':Ye e=e.args.any Ye:=by rw[hA];simp[o3,o24]
 simp only[qc e];simp[o3,o24];refine qFM (fun n env U=>∃i,i<=e.args.length/\n=e.args.length-i/\env 1=.ptr 0 0/\env 3=.int .i64 i/\U=⟨[.cells (qt e)],[]⟩/\∀a∈e.args.take i,Ye a=false) e.args.length ⟨0,by simp,by simp,by simp,by simp,by rw[qc e],by simp⟩ ?_;rintro n env U ⟨i,hi,rfl,h1,h3,rfl,hall⟩
 cases hv:e.args[i]? with
 | some a=>
  obtain⟨hc,hv'⟩:=qAU.1 hv;have hm:=qAV hv;simp[h1,h3,qc e,hc,hv',qc a];rw[<- qc a];refine qFz (ih a hm (hwe.arg hm)) (by simp) ?_;cases ha:Ye a
  . simp[h1,h3];exact⟨_,by omega,i+1,by omega,rfl,wr (by omega) (by omega),q9 hv hall ha⟩
  have x:Ye e=true:=by rw[hA'];exact qe3 hm ha
  rw[x];simp
 | none=>
  have hc:¬i<e.args.length:=by simp at hv;omega
  have ht:e.args.take i=e.args:=qAZ (by omega);rw[ht]at hall;have x:Ye e=false:=by rw[hA'];exact ql5 hall
  rw[x];simp[h1,h3,qc e,hc]
def qic(l)(hlv:Fits l):∀(e),Wen e->Pure prog GG 228 [.sl 4 (l.map qM) .none,.agg (qt e)] (.bool (Zm l e)):=by
 refine qFN fun e ih hwe=>?_
 refine qFP qg func228 rfl (by kernel_rfl) ?_;have hl:=hwe.fits;have hA:Zm l e=((decide (e.op=2)&&!Qn l e.name)||e.args.any (Zm l)):=ql4;by_cases o2:e.op=2
 . simp only[qc e,o2];simp;refine qFz (qeH GG l e.name hlv) (by simp) ?_;have hg:=Qq (fun v:Var=>v.name==e.name) l;cases hh:Qn l e.name
   . have x:Zm l e=true:=(by rw[hA];simp[o2,hh]);simp only[Qn]at hh;rw[hh]at hg;have hf:=of_decide_eq_true hg;rw[x];simp[hf]
   have hA':Zm l e=e.args.any (Zm l):=(by rw[hA];simp[o2,hh]);simp only[Qn]at hh;rw[hh]at hg;have hf:=of_decide_eq_false hg;simp[hf];refine qFM (fun n env U=>∃i,i<=e.args.length/\n=e.args.length-i/\env 0=.sl 4 (l.map qM) .none/\env 3=.ptr 0 0/\env 5=.int .i64 i/\U=⟨[.cells (qt e)],[]⟩/\∀a∈e.args.take i,Zm l a=false) e.args.length ⟨0,by simp,by simp,by simp,by simp,by simp,by rw[qc e,o2],by simp⟩ ?_;rintro n env U ⟨i,hi,rfl,h0,h3,h5,rfl,hall⟩
   cases hv:e.args[i]? with
   | some a=>
    obtain⟨hc,hv'⟩:=qAU.1 hv;have hm:=qAV hv;simp[h0,h3,h5,qc e,hc,hv',qc a];rw[<- qc a];refine qFz (ih a hm (hwe.arg hm)) (by simp) ?_;cases ha:Zm l a
    . simp[h0,h3,h5];exact⟨_,by omega,i+1,by omega,rfl,wr (by omega) (by omega),q9 hv hall ha⟩
    have x:Zm l e=true:=(by rw[hA'];exact qe3 hm ha);rw[x];simp
   | none=>
    have hc:¬i<e.args.length:=(by simp at hv;omega);have ht:e.args.take i=e.args:=qAZ (by omega);rw[ht]at hall;have x:Zm l e=false:=(by rw[hA'];exact ql5 hall);rw[x];simp[h3,h5,qc e,hc]
 have hA':Zm l e=e.args.any (Zm l):=by rw[hA];simp[o2]
 simp only[qc e];simp[o2];refine qFM (fun n env U=>∃i,i<=e.args.length/\n=e.args.length-i/\env 0=.sl 4 (l.map qM) .none/\env 3=.ptr 0 0/\env 5=.int .i64 i/\U=⟨[.cells (qt e)],[]⟩/\∀a∈e.args.take i,Zm l a=false) e.args.length ⟨0,by simp,by simp,by simp,by simp,by simp,by rw[qc e],by simp⟩ ?_;rintro n env U ⟨i,hi,rfl,h0,h3,h5,rfl,hall⟩
 cases hv:e.args[i]? with
 | some a=>
  obtain⟨hc,hv'⟩:=qAU.1 hv;have hm:=qAV hv;simp[h0,h3,h5,qc e,hc,hv',qc a];rw[<- qc a];refine qFz (ih a hm (hwe.arg hm)) (by simp) ?_;cases ha:Zm l a
  . simp[h0,h3,h5];exact⟨_,by omega,i+1,by omega,rfl,wr (by omega) (by omega),q9 hv hall ha⟩
  have x:Zm l e=true:=by rw[hA'];exact qe3 hm ha
  rw[x];simp
 | none=>
  have hc:¬i<e.args.length:=by simp at hv;omega
  have ht:e.args.take i=e.args:=qAZ (by omega);rw[ht]at hall;have x:Zm l e=false:=by rw[hA'];exact ql5 hall
  rw[x];simp[h3,h5,qc e,hc]
def Vw(l:List Var)(e:Ex):Int:=if Ye e=true then 9 else if Zm l e=true then 7 else 0
def qnF(l)(hlv:Fits l)(e)(hwe:Wen e):Pure prog GG 150 [.sl 4 (l.map qM) .none,.agg (qt e)] (.int .i64 (Vw l e)):=by
 refine qFP qg func150 rfl (by kernel_rfl) ?_;simp only[qc e];simp;rw[<- qc e];refine qFz (qlX e hwe) (by simp) ?_;cases ha:Ye e
 . simp[qc e];rw[<- qc e];refine qFz (qic l hlv e hwe) (by simp) ?_;cases hf:Zm l e<;>simp[Vw,ha,hf]
 simp[Vw,ha]
