/- A part of the proof. -/
import Derived.Test.YtoibbcnfhhggnaaGreatDoorPa10
set_option linter.unusedVariables false
set_option linter.unusedSimpArgs false
set_option maxRecDepth 100000
set_option linter.defProp false
section
namespace Go.Proofs.YtoibbcnfhhggnaaGreatDoor
open Go Go.Abs
theorem qjL {p:Ex->Bool}{e:Ex}:(pre e).any p=(p e||e.args.any fun a=>(pre a).any p):=by
 rw[jk,qsD];congr 1;generalize e.args=l
 induction l with
 | nil=>simp
 | cons a r ih=>simp[ih]
theorem qjM {α:Type}{p:α->Bool}{l:List α}(h:∀ a∈l,p a=false):l.any p=false:=by
 rw[qru];intro e;obtain⟨a,h1,h2⟩:=qqN.1 e;rw[h a h1]at h2;cases h2
theorem qdi {α:Type}{p:α->Bool}{l:List α}{a:α}(h:a∈l)(hp:p a=true):l.any p=true:=qqN.2 ⟨a,h,hp⟩
theorem qjF:∀ (e:Ex),Wen e->Pure Tryz.prog GG 69 [.agg (qu e)] (.bool (Jx e)):=by
 refine Ex.ind fun e ih hwe=>?_
 refine Pure.vc qe Tryz.func69 rfl (by kernel_rfl) ?_;have hl:=hwe.fits;have hA:Jx e=(decide (e.op=3\/e.op=24)||e.args.any Jx):=qjL;by_cases o3:e.op=3
 . have x:Jx e=true:=(by rw[hA];simp[o3]);rw[x];simp only[qc e,o3];simp
 by_cases o24:e.op=24
 . have x:Jx e=true:=(by rw[hA];simp[o24]);rw[x];simp only[qc e,o24];simp
 have hA':Jx e=e.args.any Jx:=by rw[hA];simp[o3,o24]
 simp only[qc e];simp[o3,o24];refine qE.intro (fun n env U=>∃ i,i<=e.args.length/\n=e.args.length-i/\env 1=.ptr 0 0/\env 3=.int .i64 i/\U=⟨[.cells (qu e)],[]⟩/\∀ a∈e.args.take i,Jx a=false) e.args.length ⟨0,by simp,by simp,by simp,by simp,by rw[qc e],by simp⟩ ?_;rintro n env U ⟨i,hi,rfl,h1,h3,rfl,hall⟩
 cases hv:e.args[i]? with
 | some a=>
  obtain⟨hc,hv'⟩:=qql.1 hv;have hm:=qqm hv;simp[h1,h3,qc e,hc,hv',qc a];rw[<- qc a];refine qa.call (ih a hm (hwe.arg hm)) (by simp) ?_;cases ha:Jx a
  . simp[h1,h3];exact⟨_,by omega,i+1,by omega,rfl,wr (by omega) (by omega),qZ hv hall ha⟩
  . have x:Jx e=true:=(by rw[hA'];exact qdi hm ha);rw[x];simp
 | none=>
  have hc:¬ i<e.args.length:=by simp at hv;omega
  have ht:e.args.take i=e.args:=qqu (by omega);rw[ht]at hall;have x:Jx e=false:=by rw[hA'];exact qjM hall
  rw[x];simp[h1,h3,qc e,hc]
theorem qf6 (l:List Var)(hlv:Fits l):∀ (e:Ex),Wen e->Pure Tryz.prog GG 70 [.sl 4 (l.map qp) .none,.agg (qu e)] (.bool (QQ l e)):=by
 refine Ex.ind fun e ih hwe=>?_
 refine Pure.vc qe Tryz.func70 rfl (by kernel_rfl) ?_;have hl:=hwe.fits;have hA:QQ l e=((decide (e.op=2)&&!vz l e.name)||e.args.any (QQ l)):=qjL;by_cases o2:e.op=2
 . simp only[qc e,o2];simp;refine qa.call (qcW GG l e.name hlv) (by simp) ?_;have hg:=vV (fun v:Var=>v.name==e.name) l;cases hh:vz l e.name
   . have x:QQ l e=true:=(by rw[hA];simp[o2,hh]);simp only[vz]at hh;rw[hh]at hg;have hf:=of_decide_eq_true hg;rw[x];simp[hf]
   . have hA':QQ l e=e.args.any (QQ l):=(by rw[hA];simp[o2,hh]);simp only[vz]at hh;rw[hh]at hg;have hf:=of_decide_eq_false hg;simp[hf];refine qE.intro (fun n env U=>∃ i,i<=e.args.length/\n=e.args.length-i/\env 0=.sl 4 (l.map qp) .none/\env 3=.ptr 0 0/\env 5=.int .i64 i/\U=⟨[.cells (qu e)],[]⟩/\∀ a∈e.args.take i,QQ l a=false) e.args.length ⟨0,by simp,by simp,by simp,by simp,by simp,by rw[qc e,o2],by simp⟩ ?_;rintro n env U ⟨i,hi,rfl,h0,h3,h5,rfl,hall⟩
     cases hv:e.args[i]? with
     | some a=>
      obtain⟨hc,hv'⟩:=qql.1 hv;have hm:=qqm hv;simp[h0,h3,h5,qc e,hc,hv',qc a];rw[<- qc a];refine qa.call (ih a hm (hwe.arg hm)) (by simp) ?_;cases ha:QQ l a
      . simp[h0,h3,h5];exact⟨_,by omega,i+1,by omega,rfl,wr (by omega) (by omega),qZ hv hall ha⟩
      . have x:QQ l e=true:=(by rw[hA'];exact qdi hm ha);rw[x];simp
     | none=>
      have hc:¬ i<e.args.length:=(by simp at hv;omega);have ht:e.args.take i=e.args:=qqu (by omega);rw[ht]at hall;have x:QQ l e=false:=(by rw[hA'];exact qjM hall);rw[x];simp[h0,h3,h5,qc e,hc]
 . have hA':QQ l e=e.args.any (QQ l):=(by rw[hA];simp[o2]);simp only[qc e];simp[o2];refine qE.intro (fun n env U=>∃ i,i<=e.args.length/\n=e.args.length-i/\env 0=.sl 4 (l.map qp) .none/\env 3=.ptr 0 0/\env 5=.int .i64 i/\U=⟨[.cells (qu e)],[]⟩/\∀ a∈e.args.take i,QQ l a=false) e.args.length ⟨0,by simp,by simp,by simp,by simp,by simp,by rw[qc e],by simp⟩ ?_;rintro n env U ⟨i,hi,rfl,h0,h3,h5,rfl,hall⟩
   cases hv:e.args[i]? with
   | some a=>
    obtain⟨hc,hv'⟩:=qql.1 hv;have hm:=qqm hv;simp[h0,h3,h5,qc e,hc,hv',qc a];rw[<- qc a];refine qa.call (ih a hm (hwe.arg hm)) (by simp) ?_;cases ha:QQ l a
    . simp[h0,h3,h5];exact⟨_,by omega,i+1,by omega,rfl,wr (by omega) (by omega),qZ hv hall ha⟩
    . have x:QQ l e=true:=(by rw[hA'];exact qdi hm ha);rw[x];simp
   | none=>
    have hc:¬ i<e.args.length:=(by simp at hv;omega);have ht:e.args.take i=e.args:=qqu (by omega);rw[ht]at hall;have x:QQ l e=false:=(by rw[hA'];exact qjM hall);rw[x];simp[h0,h3,h5,qc e,hc]
def We (l:List Var)(e:Ex):Int:=if Jx e=true then 9 else if QQ l e=true then 7 else 0
theorem qli (l:List Var)(hlv:Fits l)(e:Ex)(hwe:Wen e):Pure Tryz.prog GG 44 [.sl 4 (l.map qp) .none,.agg (qu e)] (.int .i64 (We l e)):=by
 refine Pure.vc qe Tryz.func44 rfl (by kernel_rfl) ?_;simp only[qc e];simp;rw[<- qc e];refine qa.call (qjF e hwe) (by simp) ?_;cases ha:Jx e
 . simp[qc e];rw[<- qc e];refine qa.call (qf6 l hlv e hwe) (by simp) ?_;cases hf:QQ l e<;>simp[We,ha,hf]
 . simp[We,ha]
end Go.Proofs.YtoibbcnfhhggnaaGreatDoor
end
