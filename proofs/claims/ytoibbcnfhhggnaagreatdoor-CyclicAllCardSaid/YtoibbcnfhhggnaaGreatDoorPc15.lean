/- A part of the proof. -/
import Derived.Test.YtoibbcnfhhggnaaGreatDoorPc10
set_option linter.unusedVariables false
set_option linter.unusedSimpArgs false
set_option maxRecDepth 100000
set_option linter.defProp false
section
namespace Go.Proofs.YtoibbcnfhhggnaaGreatDoor
open Go Go.Abs
theorem qjK {p:Ex->Bool}{e:Ex}:(pre e).any p=(p e||e.args.any fun a=>(pre a).any p):=by
 rw[jc,qse];congr 1;generalize e.args=l
 induction l with
 | nil=>simp
 | cons a r ih=>simp[ih]
theorem qjL {α:Type}{p:α->Bool}{l:List α}(h:∀ a∈l,p a=false):l.any p=false:=by
 rw[qrg];intro e;obtain⟨a,h1,h2⟩:=qqr.1 e;rw[h a h1]at h2;cases h2
theorem qdg {α:Type}{p:α->Bool}{l:List α}{a:α}(h:a∈l)(hp:p a=true):l.any p=true:=qqr.2 ⟨a,h,hp⟩
theorem qjE:∀ (e:Ex),Wen e->Pure Tryz.prog GG 69 [.agg (qs e)] (.bool (ZE e)):=by
 refine Ex.ind fun e ih hwe=>?_
 refine Pure.vc qe Tryz.func69 rfl (by kernel_rfl) ?_;have hl:=hwe.fits;have hA:ZE e=(decide (e.op=3\/e.op=24)||e.args.any ZE):=qjK;by_cases o3:e.op=3
 . have x:ZE e=true:=(by rw[hA];simp[o3]);rw[x];simp only[qd e,o3];simp
 by_cases o24:e.op=24
 . have x:ZE e=true:=(by rw[hA];simp[o24]);rw[x];simp only[qd e,o24];simp
 have hA':ZE e=e.args.any ZE:=by rw[hA];simp[o3,o24]
 simp only[qd e];simp[o3,o24];refine qD.intro (fun n env U=>∃ i,i<=e.args.length/\n=e.args.length-i/\env 1=.ptr 0 0/\env 3=.int .i64 i/\U=⟨[.cells (qs e)],[]⟩/\∀ a∈e.args.take i,ZE a=false) e.args.length ⟨0,by simp,by simp,by simp,by simp,by rw[qd e],by simp⟩ ?_;rintro n env U ⟨i,hi,rfl,h1,h3,rfl,hall⟩
 cases hv:e.args[i]? with
 | some a=>
  obtain⟨hc,hv'⟩:=qp5.1 hv;have hm:=qp6 hv;simp[h1,h3,qd e,hc,hv',qd a];rw[<- qd a];refine qb.call (ih a hm (hwe.arg hm)) (by simp) ?_;cases ha:ZE a
  . simp[h1,h3];exact⟨_,by omega,i+1,by omega,rfl,wr (by omega) (by omega),zh hv hall ha⟩
  . have x:ZE e=true:=(by rw[hA'];exact qdg hm ha);rw[x];simp
 | none=>
  have hc:¬ i<e.args.length:=by simp at hv;omega
  have ht:e.args.take i=e.args:=qqg (by omega);rw[ht]at hall;have x:ZE e=false:=by rw[hA'];exact qjL hall
  rw[x];simp[h1,h3,qd e,hc]
theorem qf6 (l:List Var)(hlv:Fits l):∀ (e:Ex),Wen e->Pure Tryz.prog GG 70 [.sl 4 (l.map qo) .none,.agg (qs e)] (.bool (QQ l e)):=by
 refine Ex.ind fun e ih hwe=>?_
 refine Pure.vc qe Tryz.func70 rfl (by kernel_rfl) ?_;have hl:=hwe.fits;have hA:QQ l e=((decide (e.op=2)&&!vC l e.name)||e.args.any (QQ l)):=qjK;by_cases o2:e.op=2
 . simp only[qd e,o2];simp;refine qb.call (qcT GG l e.name hlv) (by simp) ?_;have hg:=vW (fun v:Var=>v.name==e.name) l;cases hh:vC l e.name
   . have x:QQ l e=true:=(by rw[hA];simp[o2,hh]);simp only[vC]at hh;rw[hh]at hg;have hf:=of_decide_eq_true hg;rw[x];simp[hf]
   . have hA':QQ l e=e.args.any (QQ l):=(by rw[hA];simp[o2,hh]);simp only[vC]at hh;rw[hh]at hg;have hf:=of_decide_eq_false hg;simp[hf];refine qD.intro (fun n env U=>∃ i,i<=e.args.length/\n=e.args.length-i/\env 0=.sl 4 (l.map qo) .none/\env 3=.ptr 0 0/\env 5=.int .i64 i/\U=⟨[.cells (qs e)],[]⟩/\∀ a∈e.args.take i,QQ l a=false) e.args.length ⟨0,by simp,by simp,by simp,by simp,by simp,by rw[qd e,o2],by simp⟩ ?_;rintro n env U ⟨i,hi,rfl,h0,h3,h5,rfl,hall⟩
     cases hv:e.args[i]? with
     | some a=>
      obtain⟨hc,hv'⟩:=qp5.1 hv;have hm:=qp6 hv;simp[h0,h3,h5,qd e,hc,hv',qd a];rw[<- qd a];refine qb.call (ih a hm (hwe.arg hm)) (by simp) ?_;cases ha:QQ l a
      . simp[h0,h3,h5];exact⟨_,by omega,i+1,by omega,rfl,wr (by omega) (by omega),zh hv hall ha⟩
      . have x:QQ l e=true:=(by rw[hA'];exact qdg hm ha);rw[x];simp
     | none=>
      have hc:¬ i<e.args.length:=(by simp at hv;omega);have ht:e.args.take i=e.args:=qqg (by omega);rw[ht]at hall;have x:QQ l e=false:=(by rw[hA'];exact qjL hall);rw[x];simp[h0,h3,h5,qd e,hc]
 . have hA':QQ l e=e.args.any (QQ l):=(by rw[hA];simp[o2]);simp only[qd e];simp[o2];refine qD.intro (fun n env U=>∃ i,i<=e.args.length/\n=e.args.length-i/\env 0=.sl 4 (l.map qo) .none/\env 3=.ptr 0 0/\env 5=.int .i64 i/\U=⟨[.cells (qs e)],[]⟩/\∀ a∈e.args.take i,QQ l a=false) e.args.length ⟨0,by simp,by simp,by simp,by simp,by simp,by rw[qd e],by simp⟩ ?_;rintro n env U ⟨i,hi,rfl,h0,h3,h5,rfl,hall⟩
   cases hv:e.args[i]? with
   | some a=>
    obtain⟨hc,hv'⟩:=qp5.1 hv;have hm:=qp6 hv;simp[h0,h3,h5,qd e,hc,hv',qd a];rw[<- qd a];refine qb.call (ih a hm (hwe.arg hm)) (by simp) ?_;cases ha:QQ l a
    . simp[h0,h3,h5];exact⟨_,by omega,i+1,by omega,rfl,wr (by omega) (by omega),zh hv hall ha⟩
    . have x:QQ l e=true:=(by rw[hA'];exact qdg hm ha);rw[x];simp
   | none=>
    have hc:¬ i<e.args.length:=(by simp at hv;omega);have ht:e.args.take i=e.args:=qqg (by omega);rw[ht]at hall;have x:QQ l e=false:=(by rw[hA'];exact qjL hall);rw[x];simp[h0,h3,h5,qd e,hc]
def Wp (l:List Var)(e:Ex):Int:=if ZE e=true then 9 else if QQ l e=true then 7 else 0
theorem qk7 (l:List Var)(hlv:Fits l)(e:Ex)(hwe:Wen e):Pure Tryz.prog GG 44 [.sl 4 (l.map qo) .none,.agg (qs e)] (.int .i64 (Wp l e)):=by
 refine Pure.vc qe Tryz.func44 rfl (by kernel_rfl) ?_;simp only[qd e];simp;rw[<- qd e];refine qb.call (qjE e hwe) (by simp) ?_;cases ha:ZE e
 . simp[qd e];rw[<- qd e];refine qb.call (qf6 l hlv e hwe) (by simp) ?_;cases hf:QQ l e<;>simp[Wp,ha,hf]
 . simp[Wp,ha]
end Go.Proofs.YtoibbcnfhhggnaaGreatDoor
end
