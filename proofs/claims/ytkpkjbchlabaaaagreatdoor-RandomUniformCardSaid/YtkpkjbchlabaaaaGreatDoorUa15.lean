/- A part of the proof. -/
import Derived.Test.YtkpkjbchlabaaaaGreatDoorUa10
set_option linter.unusedVariables false
set_option linter.unusedSimpArgs false
set_option maxRecDepth 100000
set_option linter.defProp false
section
namespace Go.Proofs.YtkpkjbchlabaaaaGreatDoor
open Go Go.Abs
theorem qiS {p:Ex->Bool}{e:Ex}:(pre e).any p=(p e||e.args.any fun a=>(pre a).any p):=by
 rw[jo,qrC];congr 1;generalize e.args=l
 induction l with
 | nil=>simp
 | cons a r ih=>simp[ih]
theorem qiT {α:Type}{p:α->Bool}{l:List α}(h:∀ a∈l,p a=false):l.any p=false:=by
 rw[qqD];intro e;obtain⟨a,h1,h2⟩:=qp0.1 e;rw[h a h1]at h2;cases h2
theorem qcK {α:Type}{p:α->Bool}{l:List α}{a:α}(h:a∈l)(hp:p a=true):l.any p=true:=qp0.2 ⟨a,h,hp⟩
theorem qiM:∀ (e:Ex),Wen e->Pure Tryz.prog GG 155 [.agg (qq e)] (.bool (Z4 e)):=by
 refine Ex.ind fun e ih hwe=>?_
 refine Pure.vc qe Tryz.func155 rfl (by kernel_rfl) ?_;have hl:=hwe.fits;have hA:Z4 e=(decide (e.op=3\/e.op=24)||e.args.any Z4):=qiS;by_cases o3:e.op=3
 . have x:Z4 e=true:=(by rw[hA];simp[o3]);rw[x];simp only[qd e,o3];simp
 by_cases o24:e.op=24
 . have x:Z4 e=true:=(by rw[hA];simp[o24]);rw[x];simp only[qd e,o24];simp
 have hA':Z4 e=e.args.any Z4:=by rw[hA];simp[o3,o24]
 simp only[qd e];simp[o3,o24];refine qv.intro (fun n env U=>∃ i,i<=e.args.length/\n=e.args.length-i/\env 1=.ptr 0 0/\env 3=.int .i64 i/\U=⟨[.cells (qq e)],[]⟩/\∀ a∈e.args.take i,Z4 a=false) e.args.length ⟨0,by simp,by simp,by simp,by simp,by rw[qd e],by simp⟩ ?_;rintro n env U ⟨i,hi,rfl,h1,h3,rfl,hall⟩
 cases hv:e.args[i]? with
 | some a=>
  obtain⟨hc,hv'⟩:=qpy.1 hv;have hm:=qpz hv;simp[h1,h3,qd e,hc,hv',qd a];rw[<- qd a];refine qb.call (ih a hm (hwe.arg hm)) (by simp) ?_;cases ha:Z4 a
  . simp[h1,h3];exact⟨_,by omega,i+1,by omega,rfl,wr (by omega) (by omega),qZ hv hall ha⟩
  . have x:Z4 e=true:=(by rw[hA'];exact qcK hm ha);rw[x];simp
 | none=>
  have hc:¬ i<e.args.length:=by simp at hv;omega
  have ht:e.args.take i=e.args:=qpH (by omega);rw[ht]at hall;have x:Z4 e=false:=by rw[hA'];exact qiT hall
  rw[x];simp[h1,h3,qd e,hc]
theorem qfn (l:List Var)(hlv:Fits l):∀ (e:Ex),Wen e->Pure Tryz.prog GG 156 [.sl 4 (l.map qE) .none,.agg (qq e)] (.bool (Qh l e)):=by
 refine Ex.ind fun e ih hwe=>?_
 refine Pure.vc qe Tryz.func156 rfl (by kernel_rfl) ?_;have hl:=hwe.fits;have hA:Qh l e=((decide (e.op=2)&&!vm l e.name)||e.args.any (Qh l)):=qiS;by_cases o2:e.op=2
 . simp only[qd e,o2];simp;refine qb.call (qcp GG l e.name hlv) (by simp) ?_;have hg:=vn (fun v:Var=>v.name==e.name) l;cases hh:vm l e.name
   . have x:Qh l e=true:=(by rw[hA];simp[o2,hh]);simp only[vm]at hh;rw[hh]at hg;have hf:=of_decide_eq_true hg;rw[x];simp[hf]
   . have hA':Qh l e=e.args.any (Qh l):=(by rw[hA];simp[o2,hh]);simp only[vm]at hh;rw[hh]at hg;have hf:=of_decide_eq_false hg;simp[hf];refine qv.intro (fun n env U=>∃ i,i<=e.args.length/\n=e.args.length-i/\env 0=.sl 4 (l.map qE) .none/\env 3=.ptr 0 0/\env 5=.int .i64 i/\U=⟨[.cells (qq e)],[]⟩/\∀ a∈e.args.take i,Qh l a=false) e.args.length ⟨0,by simp,by simp,by simp,by simp,by simp,by rw[qd e,o2],by simp⟩ ?_;rintro n env U ⟨i,hi,rfl,h0,h3,h5,rfl,hall⟩
     cases hv:e.args[i]? with
     | some a=>
      obtain⟨hc,hv'⟩:=qpy.1 hv;have hm:=qpz hv;simp[h0,h3,h5,qd e,hc,hv',qd a];rw[<- qd a];refine qb.call (ih a hm (hwe.arg hm)) (by simp) ?_;cases ha:Qh l a
      . simp[h0,h3,h5];exact⟨_,by omega,i+1,by omega,rfl,wr (by omega) (by omega),qZ hv hall ha⟩
      . have x:Qh l e=true:=(by rw[hA'];exact qcK hm ha);rw[x];simp
     | none=>
      have hc:¬ i<e.args.length:=(by simp at hv;omega);have ht:e.args.take i=e.args:=qpH (by omega);rw[ht]at hall;have x:Qh l e=false:=(by rw[hA'];exact qiT hall);rw[x];simp[h0,h3,h5,qd e,hc]
 . have hA':Qh l e=e.args.any (Qh l):=(by rw[hA];simp[o2]);simp only[qd e];simp[o2];refine qv.intro (fun n env U=>∃ i,i<=e.args.length/\n=e.args.length-i/\env 0=.sl 4 (l.map qE) .none/\env 3=.ptr 0 0/\env 5=.int .i64 i/\U=⟨[.cells (qq e)],[]⟩/\∀ a∈e.args.take i,Qh l a=false) e.args.length ⟨0,by simp,by simp,by simp,by simp,by simp,by rw[qd e],by simp⟩ ?_;rintro n env U ⟨i,hi,rfl,h0,h3,h5,rfl,hall⟩
   cases hv:e.args[i]? with
   | some a=>
    obtain⟨hc,hv'⟩:=qpy.1 hv;have hm:=qpz hv;simp[h0,h3,h5,qd e,hc,hv',qd a];rw[<- qd a];refine qb.call (ih a hm (hwe.arg hm)) (by simp) ?_;cases ha:Qh l a
    . simp[h0,h3,h5];exact⟨_,by omega,i+1,by omega,rfl,wr (by omega) (by omega),qZ hv hall ha⟩
    . have x:Qh l e=true:=(by rw[hA'];exact qcK hm ha);rw[x];simp
   | none=>
    have hc:¬ i<e.args.length:=(by simp at hv;omega);have ht:e.args.take i=e.args:=qpH (by omega);rw[ht]at hall;have x:Qh l e=false:=(by rw[hA'];exact qiT hall);rw[x];simp[h0,h3,h5,qd e,hc]
def KN (l:List Var)(e:Ex):Int:=if Z4 e=true then 9 else if Qh l e=true then 7 else 0
theorem qkk (l:List Var)(hlv:Fits l)(e:Ex)(hwe:Wen e):Pure Tryz.prog GG 97 [.sl 4 (l.map qE) .none,.agg (qq e)] (.int .i64 (KN l e)):=by
 refine Pure.vc qe Tryz.func97 rfl (by kernel_rfl) ?_;simp only[qd e];simp;rw[<- qd e];refine qb.call (qiM e hwe) (by simp) ?_;cases ha:Z4 e
 . simp[qd e];rw[<- qd e];refine qb.call (qfn l hlv e hwe) (by simp) ?_;cases hf:Qh l e<;>simp[KN,ha,hf]
 . simp[KN,ha]
end Go.Proofs.YtkpkjbchlabaaaaGreatDoor
end
