/- A part of the proof. -/
import Derived.Test.YtkpkjbchlabaaaaGreatDoorSa10
set_option linter.unusedVariables false
set_option linter.unusedSimpArgs false
set_option maxRecDepth 100000
set_option linter.defProp false
section
namespace Go.Proofs.YtkpkjbchlabaaaaGreatDoor
open Go Go.Abs
theorem qjq {p:Ex->Bool}{e:Ex}:(pre e).any p=(p e||e.args.any fun a=>(pre a).any p):=by
 rw[jr,qst];congr 1;generalize e.args=l
 induction l with
 | nil=>simp
 | cons a r ih=>simp[ih]
theorem qjr {α:Type}{p:α->Bool}{l:List α}(h:∀ a∈l,p a=false):l.any p=false:=by
 rw[qrq];intro e;obtain⟨a,h1,h2⟩:=qqF.1 e;rw[h a h1]at h2;cases h2
theorem qdf {α:Type}{p:α->Bool}{l:List α}{a:α}(h:a∈l)(hp:p a=true):l.any p=true:=qqF.2 ⟨a,h,hp⟩
theorem qjk:∀ (e:Ex),Wen e->Pure Tryz.prog GG 155 [.agg (qr e)] (.bool (Jf e)):=by
 refine Ex.ind fun e ih hwe=>?_
 refine Pure.vc qe Tryz.func155 rfl (by kernel_rfl) ?_;have hl:=hwe.fits;have hA:Jf e=(decide (e.op=3\/e.op=24)||e.args.any Jf):=qjq;by_cases o3:e.op=3
 . have x:Jf e=true:=(by rw[hA];simp[o3]);rw[x];simp only[qd e,o3];simp
 by_cases o24:e.op=24
 . have x:Jf e=true:=(by rw[hA];simp[o24]);rw[x];simp only[qd e,o24];simp
 have hA':Jf e=e.args.any Jf:=by rw[hA];simp[o3,o24]
 simp only[qd e];simp[o3,o24];refine qy.intro (fun n env U=>∃ i,i<=e.args.length/\n=e.args.length-i/\env 1=.ptr 0 0/\env 3=.int .i64 i/\U=⟨[.cells (qr e)],[]⟩/\∀ a∈e.args.take i,Jf a=false) e.args.length ⟨0,by simp,by simp,by simp,by simp,by rw[qd e],by simp⟩ ?_;rintro n env U ⟨i,hi,rfl,h1,h3,rfl,hall⟩
 cases hv:e.args[i]? with
 | some a=>
  obtain⟨hc,hv'⟩:=qqc.1 hv;have hm:=qqd hv;simp[h1,h3,qd e,hc,hv',qd a];rw[<- qd a];refine qb.call (ih a hm (hwe.arg hm)) (by simp) ?_;cases ha:Jf a
  . simp[h1,h3];exact⟨_,by omega,i+1,by omega,rfl,wr (by omega) (by omega),zb hv hall ha⟩
  . have x:Jf e=true:=(by rw[hA'];exact qdf hm ha);rw[x];simp
 | none=>
  have hc:¬ i<e.args.length:=by simp at hv;omega
  have ht:e.args.take i=e.args:=qqk (by omega);rw[ht]at hall;have x:Jf e=false:=by rw[hA'];exact qjr hall
  rw[x];simp[h1,h3,qd e,hc]
theorem qfY (l:List Var)(hlv:Fits l):∀ (e:Ex),Wen e->Pure Tryz.prog GG 156 [.sl 4 (l.map qA) .none,.agg (qr e)] (.bool (Qw l e)):=by
 refine Ex.ind fun e ih hwe=>?_
 refine Pure.vc qe Tryz.func156 rfl (by kernel_rfl) ?_;have hl:=hwe.fits;have hA:Qw l e=((decide (e.op=2)&&!vH l e.name)||e.args.any (Qw l)):=qjq;by_cases o2:e.op=2
 . simp only[qd e,o2];simp;refine qb.call (qcU GG l e.name hlv) (by simp) ?_;have hg:=vI (fun v:Var=>v.name==e.name) l;cases hh:vH l e.name
   . have x:Qw l e=true:=(by rw[hA];simp[o2,hh]);simp only[vH]at hh;rw[hh]at hg;have hf:=of_decide_eq_true hg;rw[x];simp[hf]
   . have hA':Qw l e=e.args.any (Qw l):=(by rw[hA];simp[o2,hh]);simp only[vH]at hh;rw[hh]at hg;have hf:=of_decide_eq_false hg;simp[hf];refine qy.intro (fun n env U=>∃ i,i<=e.args.length/\n=e.args.length-i/\env 0=.sl 4 (l.map qA) .none/\env 3=.ptr 0 0/\env 5=.int .i64 i/\U=⟨[.cells (qr e)],[]⟩/\∀ a∈e.args.take i,Qw l a=false) e.args.length ⟨0,by simp,by simp,by simp,by simp,by simp,by rw[qd e,o2],by simp⟩ ?_;rintro n env U ⟨i,hi,rfl,h0,h3,h5,rfl,hall⟩
     cases hv:e.args[i]? with
     | some a=>
      obtain⟨hc,hv'⟩:=qqc.1 hv;have hm:=qqd hv;simp[h0,h3,h5,qd e,hc,hv',qd a];rw[<- qd a];refine qb.call (ih a hm (hwe.arg hm)) (by simp) ?_;cases ha:Qw l a
      . simp[h0,h3,h5];exact⟨_,by omega,i+1,by omega,rfl,wr (by omega) (by omega),zb hv hall ha⟩
      . have x:Qw l e=true:=(by rw[hA'];exact qdf hm ha);rw[x];simp
     | none=>
      have hc:¬ i<e.args.length:=(by simp at hv;omega);have ht:e.args.take i=e.args:=qqk (by omega);rw[ht]at hall;have x:Qw l e=false:=(by rw[hA'];exact qjr hall);rw[x];simp[h0,h3,h5,qd e,hc]
 . have hA':Qw l e=e.args.any (Qw l):=(by rw[hA];simp[o2]);simp only[qd e];simp[o2];refine qy.intro (fun n env U=>∃ i,i<=e.args.length/\n=e.args.length-i/\env 0=.sl 4 (l.map qA) .none/\env 3=.ptr 0 0/\env 5=.int .i64 i/\U=⟨[.cells (qr e)],[]⟩/\∀ a∈e.args.take i,Qw l a=false) e.args.length ⟨0,by simp,by simp,by simp,by simp,by simp,by rw[qd e],by simp⟩ ?_;rintro n env U ⟨i,hi,rfl,h0,h3,h5,rfl,hall⟩
   cases hv:e.args[i]? with
   | some a=>
    obtain⟨hc,hv'⟩:=qqc.1 hv;have hm:=qqd hv;simp[h0,h3,h5,qd e,hc,hv',qd a];rw[<- qd a];refine qb.call (ih a hm (hwe.arg hm)) (by simp) ?_;cases ha:Qw l a
    . simp[h0,h3,h5];exact⟨_,by omega,i+1,by omega,rfl,wr (by omega) (by omega),zb hv hall ha⟩
    . have x:Qw l e=true:=(by rw[hA'];exact qdf hm ha);rw[x];simp
   | none=>
    have hc:¬ i<e.args.length:=(by simp at hv;omega);have ht:e.args.take i=e.args:=qqk (by omega);rw[ht]at hall;have x:Qw l e=false:=(by rw[hA'];exact qjr hall);rw[x];simp[h0,h3,h5,qd e,hc]
def K7 (l:List Var)(e:Ex):Int:=if Jf e=true then 9 else if Qw l e=true then 7 else 0
theorem qkO (l:List Var)(hlv:Fits l)(e:Ex)(hwe:Wen e):Pure Tryz.prog GG 97 [.sl 4 (l.map qA) .none,.agg (qr e)] (.int .i64 (K7 l e)):=by
 refine Pure.vc qe Tryz.func97 rfl (by kernel_rfl) ?_;simp only[qd e];simp;rw[<- qd e];refine qb.call (qjk e hwe) (by simp) ?_;cases ha:Jf e
 . simp[qd e];rw[<- qd e];refine qb.call (qfY l hlv e hwe) (by simp) ?_;cases hf:Qw l e<;>simp[K7,ha,hf]
 . simp[K7,ha]
end Go.Proofs.YtkpkjbchlabaaaaGreatDoor
end
