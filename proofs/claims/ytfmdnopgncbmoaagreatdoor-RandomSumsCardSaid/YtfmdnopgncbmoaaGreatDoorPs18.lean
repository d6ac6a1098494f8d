import Derived.Test.YtfmdnopgncbmoaaGreatDoorPs13
set_option maxRecDepth 100000
set_option linter.all false
set_option linter.defProp false
namespace Go.Proofs.YtfmdnopgncbmoaaGreatDoor
open Go Go.Abs Tryz
def qjV{p e}:(pre e).any p=(p e||e.args.any fun a=>(pre a).any p):=by
 rw[ju,qAS];congr 1;generalize e.args=l
 induction l with
 |nil=>simp
 |cons a r ih=>simp[ih]
def qjW{α:Type}{p:α->Bool}{l:List α}(h:∀a∈l,p a=false):l.any p=false:=by
 rw[qzT];intro e;obtain⟨a,h1,h2⟩:=qy8.1 e;rw[h a h1]at h2;cases h2
def qdm{α:Type}{p:α->Bool}{l:List α}{a:α}(h:a∈l)(hp:p a=true):l.any p=true:=qy8.2 ⟨a,h,hp⟩
def qjP:∀(e),Wen e->Pure prog GG 116 [.agg (qt e)] (.bool (Jq e)):=by
 refine qDa fun e ih hwe=>?_
 refine qDb qe func116 rfl (by kernel_rfl) ?_;have hl:=hwe.fits;have hA:Jq e=(decide (e.op=3\/e.op=24)||e.args.any Jq):=qjV;by_cases o3:e.op=3
 . have x:Jq e=true:=(by rw[hA];simp[o3]);rw[x];simp only[qd e,o3];simp
 by_cases o24:e.op=24
 . have x:Jq e=true:=(by rw[hA];simp[o24]);rw[x];simp only[qd e,o24];simp
 have hA':Jq e=e.args.any Jq:=by rw[hA];simp[o3,o24]
 simp only[qd e];simp[o3,o24];refine qC9 (fun n env U=>∃i,i<=e.args.length/\n=e.args.length-i/\env 1=.ptr 0 0/\env 3=.int .i64 i/\U=⟨[.cells (qt e)],[]⟩/\∀a∈e.args.take i,Jq a=false) e.args.length ⟨0,by simp,by simp,by simp,by simp,by rw[qd e],by simp⟩ ?_;rintro n env U ⟨i,hi,rfl,h1,h3,rfl,hall⟩
 cases hv:e.args[i]? with
 | some a=>
  obtain⟨hc,hv'⟩:=qyF.1 hv;have hm:=qyG hv;simp[h1,h3,qd e,hc,hv',qd a];rw[<- qd a];refine qCW (ih a hm (hwe.arg hm)) (by simp) ?_;cases ha:Jq a
  . simp[h1,h3];exact⟨_,by omega,i+1,by omega,rfl,wr (by omega) (by omega),za hv hall ha⟩
  have x:Jq e=true:=by rw[hA'];exact qdm hm ha
  rw[x];simp
 | none=>
  have hc:¬i<e.args.length:=by simp at hv;omega
  have ht:e.args.take i=e.args:=qyN (by omega);rw[ht]at hall;have x:Jq e=false:=by rw[hA'];exact qjW hall
  rw[x];simp[h1,h3,qd e,hc]
def qgb(l)(hlv:Fits l):∀(e),Wen e->Pure prog GG 117 [.sl 4 (l.map qD) .none,.agg (qt e)] (.bool (QD l e)):=by
 refine qDa fun e ih hwe=>?_
 refine qDb qe func117 rfl (by kernel_rfl) ?_;have hl:=hwe.fits;have hA:QD l e=((decide (e.op=2)&&!vK l e.name)||e.args.any (QD l)):=qjV;by_cases o2:e.op=2
 . simp only[qd e,o2];simp;refine qCW (qc4 GG l e.name hlv) (by simp) ?_;have hg:=vM (fun v:Var=>v.name==e.name) l;cases hh:vK l e.name
   . have x:QD l e=true:=(by rw[hA];simp[o2,hh]);simp only[vK]at hh;rw[hh]at hg;have hf:=of_decide_eq_true hg;rw[x];simp[hf]
   have hA':QD l e=e.args.any (QD l):=(by rw[hA];simp[o2,hh]);simp only[vK]at hh;rw[hh]at hg;have hf:=of_decide_eq_false hg;simp[hf];refine qC9 (fun n env U=>∃i,i<=e.args.length/\n=e.args.length-i/\env 0=.sl 4 (l.map qD) .none/\env 3=.ptr 0 0/\env 5=.int .i64 i/\U=⟨[.cells (qt e)],[]⟩/\∀a∈e.args.take i,QD l a=false) e.args.length ⟨0,by simp,by simp,by simp,by simp,by simp,by rw[qd e,o2],by simp⟩ ?_;rintro n env U ⟨i,hi,rfl,h0,h3,h5,rfl,hall⟩
   cases hv:e.args[i]? with
   | some a=>
    obtain⟨hc,hv'⟩:=qyF.1 hv;have hm:=qyG hv;simp[h0,h3,h5,qd e,hc,hv',qd a];rw[<- qd a];refine qCW (ih a hm (hwe.arg hm)) (by simp) ?_;cases ha:QD l a
    . simp[h0,h3,h5];exact⟨_,by omega,i+1,by omega,rfl,wr (by omega) (by omega),za hv hall ha⟩
    have x:QD l e=true:=(by rw[hA'];exact qdm hm ha);rw[x];simp
   | none=>
    have hc:¬i<e.args.length:=(by simp at hv;omega);have ht:e.args.take i=e.args:=qyN (by omega);rw[ht]at hall;have x:QD l e=false:=(by rw[hA'];exact qjW hall);rw[x];simp[h3,h5,qd e,hc]
 have hA':QD l e=e.args.any (QD l):=by rw[hA];simp[o2]
 simp only[qd e];simp[o2];refine qC9 (fun n env U=>∃i,i<=e.args.length/\n=e.args.length-i/\env 0=.sl 4 (l.map qD) .none/\env 3=.ptr 0 0/\env 5=.int .i64 i/\U=⟨[.cells (qt e)],[]⟩/\∀a∈e.args.take i,QD l a=false) e.args.length ⟨0,by simp,by simp,by simp,by simp,by simp,by rw[qd e],by simp⟩ ?_;rintro n env U ⟨i,hi,rfl,h0,h3,h5,rfl,hall⟩
 cases hv:e.args[i]? with
 | some a=>
  obtain⟨hc,hv'⟩:=qyF.1 hv;have hm:=qyG hv;simp[h0,h3,h5,qd e,hc,hv',qd a];rw[<- qd a];refine qCW (ih a hm (hwe.arg hm)) (by simp) ?_;cases ha:QD l a
  . simp[h0,h3,h5];exact⟨_,by omega,i+1,by omega,rfl,wr (by omega) (by omega),za hv hall ha⟩
  have x:QD l e=true:=by rw[hA'];exact qdm hm ha
  rw[x];simp
 | none=>
  have hc:¬i<e.args.length:=by simp at hv;omega
  have ht:e.args.take i=e.args:=qyN (by omega);rw[ht]at hall;have x:QD l e=false:=by rw[hA'];exact qjW hall
  rw[x];simp[h3,h5,qd e,hc]
def Wd(l:List Var)(e:Ex):Int:=if Jq e=true then 9 else if QD l e=true then 7 else 0
def qlq(l)(hlv:Fits l)(e)(hwe:Wen e):Pure prog GG 72 [.sl 4 (l.map qD) .none,.agg (qt e)] (.int .i64 (Wd l e)):=by
 refine qDb qe func72 rfl (by kernel_rfl) ?_;simp only[qd e];simp;rw[<- qd e];refine qCW (qjP e hwe) (by simp) ?_;cases ha:Jq e
 . simp[qd e];rw[<- qd e];refine qCW (qgb l hlv e hwe) (by simp) ?_;cases hf:QD l e<;>simp[Wd,ha,hf]
 simp[Wd,ha]
