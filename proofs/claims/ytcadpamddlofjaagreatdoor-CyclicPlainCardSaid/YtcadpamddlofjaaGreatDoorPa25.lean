/- A part of the proof. -/
import Derived.Test.YtcadpamddlofjaaGreatDoorPa13
set_option linter.unusedVariables false
set_option linter.unusedSimpArgs false
set_option maxRecDepth 100000
set_option linter.defProp false
section
namespace Go.Proofs.YtcadpamddlofjaaGreatDoor
open Go Go.Abs
theorem qiO {p:Ex->Bool}{e:Ex}:(pre e).any p=(p e||e.args.any fun a=>(pre a).any p):=by
 rw[jk,qrd];congr 1;generalize e.args=l
 induction l with
 | nil=>simp
 | cons a r ih=>simp[ih]
theorem qiP {α:Type}{p:α->Bool}{l:List α}(h:∀ a∈l,p a=false):l.any p=false:=by
 rw[qp1];intro e;obtain⟨a,h1,h2⟩:=qpq.1 e;rw[h a h1]at h2;cases h2
theorem qcC {α:Type}{p:α->Bool}{l:List α}{a:α}(h:a∈l)(hp:p a=true):l.any p=true:=qpq.2 ⟨a,h,hp⟩
theorem qiI:∀ (e:Ex),Wen e->Pure Tryz.prog GG 67 [.agg (qt e)] (.bool (ZY e)):=by
 refine Ex.ind fun e ih hwe=>?_
 refine Pure.vc qe Tryz.func67 rfl (by kernel_rfl) ?_;have hl:=hwe.fits;have hA:ZY e=(decide (e.op=3\/e.op=24)||e.args.any ZY):=qiO;by_cases o3:e.op=3
 . have x:ZY e=true:=(by rw[hA];simp[o3]);rw[x];simp only[qd e,o3];simp
 by_cases o24:e.op=24
 . have x:ZY e=true:=(by rw[hA];simp[o24]);rw[x];simp only[qd e,o24];simp
 have hA':ZY e=e.args.any ZY:=by rw[hA];simp[o3,o24]
 simp only[qd e];simp[o3,o24];refine qF.intro (fun n env U=>∃ i,i<=e.args.length/\n=e.args.length-i/\env 1=.ptr 0 0/\env 3=.int .i64 i/\U=⟨[.cells (qt e)],[]⟩/\∀ a∈e.args.take i,ZY a=false) e.args.length ⟨0,by simp,by simp,by simp,by simp,by rw[qd e],by simp⟩ ?_;rintro n env U ⟨i,hi,rfl,h1,h3,rfl,hall⟩
 cases hv:e.args[i]? with
 | some a=>
  obtain⟨hc,hv'⟩:=qoX.1 hv;have hm:=qoZ hv;simp[h1,h3,qd e,hc,hv',qd a];rw[<- qd a];refine qb.call (ih a hm (hwe.arg hm)) (by simp) ?_;cases ha:ZY a
  . simp[h1,h3];exact⟨_,by omega,i+1,by omega,rfl,wr (by omega) (by omega),zc hv hall ha⟩
  . have x:ZY e=true:=(by rw[hA'];exact qcC hm ha);rw[x];simp
 | none=>
  have hc:¬ i<e.args.length:=by simp at hv;omega
  have ht:e.args.take i=e.args:=qo6 (by omega);rw[ht]at hall;have x:ZY e=false:=by rw[hA'];exact qiP hall
  rw[x];simp[h1,h3,qd e,hc]
theorem qe8 (l:List Var)(hlv:Fits l):∀ (e:Ex),Wen e->Pure Tryz.prog GG 68 [.sl 4 (l.map qx) .none,.agg (qt e)] (.bool (Qj l e)):=by
 refine Ex.ind fun e ih hwe=>?_
 refine Pure.vc qe Tryz.func68 rfl (by kernel_rfl) ?_;have hl:=hwe.fits;have hA:Qj l e=((decide (e.op=2)&&!vI l e.name)||e.args.any (Qj l)):=qiO;by_cases o2:e.op=2
 . simp only[qd e,o2];simp;refine qb.call (qch GG l e.name hlv) (by simp) ?_;have hg:=vg (fun v:Var=>v.name==e.name) l;cases hh:vI l e.name
   . have x:Qj l e=true:=(by rw[hA];simp[o2,hh]);simp only[vI]at hh;rw[hh]at hg;have hf:=of_decide_eq_true hg;rw[x];simp[hf]
   . have hA':Qj l e=e.args.any (Qj l):=(by rw[hA];simp[o2,hh]);simp only[vI]at hh;rw[hh]at hg;have hf:=of_decide_eq_false hg;simp[hf];refine qF.intro (fun n env U=>∃ i,i<=e.args.length/\n=e.args.length-i/\env 0=.sl 4 (l.map qx) .none/\env 3=.ptr 0 0/\env 5=.int .i64 i/\U=⟨[.cells (qt e)],[]⟩/\∀ a∈e.args.take i,Qj l a=false) e.args.length ⟨0,by simp,by simp,by simp,by simp,by simp,by rw[qd e,o2],by simp⟩ ?_;rintro n env U ⟨i,hi,rfl,h0,h3,h5,rfl,hall⟩
     cases hv:e.args[i]? with
     | some a=>
      obtain⟨hc,hv'⟩:=qoX.1 hv;have hm:=qoZ hv;simp[h0,h3,h5,qd e,hc,hv',qd a];rw[<- qd a];refine qb.call (ih a hm (hwe.arg hm)) (by simp) ?_;cases ha:Qj l a
      . simp[h0,h3,h5];exact⟨_,by omega,i+1,by omega,rfl,wr (by omega) (by omega),zc hv hall ha⟩
      . have x:Qj l e=true:=(by rw[hA'];exact qcC hm ha);rw[x];simp
     | none=>
      have hc:¬ i<e.args.length:=(by simp at hv;omega);have ht:e.args.take i=e.args:=qo6 (by omega);rw[ht]at hall;have x:Qj l e=false:=(by rw[hA'];exact qiP hall);rw[x];simp[h0,h3,h5,qd e,hc]
 . have hA':Qj l e=e.args.any (Qj l):=(by rw[hA];simp[o2]);simp only[qd e];simp[o2];refine qF.intro (fun n env U=>∃ i,i<=e.args.length/\n=e.args.length-i/\env 0=.sl 4 (l.map qx) .none/\env 3=.ptr 0 0/\env 5=.int .i64 i/\U=⟨[.cells (qt e)],[]⟩/\∀ a∈e.args.take i,Qj l a=false) e.args.length ⟨0,by simp,by simp,by simp,by simp,by simp,by rw[qd e],by simp⟩ ?_;rintro n env U ⟨i,hi,rfl,h0,h3,h5,rfl,hall⟩
   cases hv:e.args[i]? with
   | some a=>
    obtain⟨hc,hv'⟩:=qoX.1 hv;have hm:=qoZ hv;simp[h0,h3,h5,qd e,hc,hv',qd a];rw[<- qd a];refine qb.call (ih a hm (hwe.arg hm)) (by simp) ?_;cases ha:Qj l a
    . simp[h0,h3,h5];exact⟨_,by omega,i+1,by omega,rfl,wr (by omega) (by omega),zc hv hall ha⟩
    . have x:Qj l e=true:=(by rw[hA'];exact qcC hm ha);rw[x];simp
   | none=>
    have hc:¬ i<e.args.length:=(by simp at hv;omega);have ht:e.args.take i=e.args:=qo6 (by omega);rw[ht]at hall;have x:Qj l e=false:=(by rw[hA'];exact qiP hall);rw[x];simp[h0,h3,h5,qd e,hc]
def KK (l:List Var)(e:Ex):Int:=if ZY e=true then 9 else if Qj l e=true then 7 else 0
theorem qj7 (l:List Var)(hlv:Fits l)(e:Ex)(hwe:Wen e):Pure Tryz.prog GG 39 [.sl 4 (l.map qx) .none,.agg (qt e)] (.int .i64 (KK l e)):=by
 refine Pure.vc qe Tryz.func39 rfl (by kernel_rfl) ?_;simp only[qd e];simp;rw[<- qd e];refine qb.call (qiI e hwe) (by simp) ?_;cases ha:ZY e
 . simp[qd e];rw[<- qd e];refine qb.call (qe8 l hlv e hwe) (by simp) ?_;cases hf:Qj l e<;>simp[KK,ha,hf]
 . simp[KK,ha]
end Go.Proofs.YtcadpamddlofjaaGreatDoor
end
