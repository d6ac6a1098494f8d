/- A part of the proof. -/
import Derived.Test.YtpgcmnabljandaaGreatDoorPa23
import Derived.Test.YtpgcmnabljandaaGreatDoorPa24
set_option linter.unusedVariables false
set_option linter.unusedSimpArgs false
set_option maxRecDepth 100000
set_option linter.defProp false
attribute [local simp] Go.Abs.acells Go.Abs.fin Go.Abs.zh Go.Abs.ze Go.Abs.pl1 Go.Abs.plain Go.Abs.pl2 Go.Abs.AV.atom
section
namespace Go.Proofs.YtpgcmnabljandaaGreatDoor
open Go Go.Abs
def qf5 (l:List Var)(i:Nat):List Int:=((List.range i).filter fun (j:Nat)=>zW l (j:Int)).map fun (j:Nat)=>(j:Int)
theorem qjD {l:List Var}{i:Nat}:qf5 l (i+1)=if zW l (i:Int)=true then qf5 l i++[(i:Int)] else qf5 l i:=by
 unfold qf5;rw[qrX,qrI];by_cases h:zW l (i:Int)=true
 . simp[h]
 . simp[h]
theorem qf4 {l:List Var}{i:Nat}:(qf5 l i).length<=i:=by
 unfold qf5;rw[qrv];exact qrN (qrr _ _) (by simp)
noncomputable def yN (p:Problem):List Int:=if zT p≠0 then [] else qf5 p.vars p.vars.length
def qlN (s:List Int):AV:=match s with
 | []=>.sl 0 [] .nil
 | a::r=>.sl 1 ((a::r).map qY) (.chain 0 (r.length+1))
theorem qmR (s:List Int)(H:List Blk):zg (fin H (qlN s))=true/\Leq (fin H (qlN s)) (.sl 1 (s.map qY) .none):=by
 cases s with
 | nil=>simp[qlN,Leq]
 | cons a r=>simp[qlN,Leq]
def qhK (s:List Int):List (Option Nat):=match s with
 | []=>[]
 | _::r=>[some (r.length+1)]
theorem qjK (p:Problem)(h:VQ p):PZ 27 [.agg (yM p)] (.sl 1 ((yN p).map qY) .none):=by
 refine Pure.vc qg Tryz.func27 rfl (by kernel_rfl) ?_;have hv:=Ja p h;have hr:∀ i,PZ 83 [.agg [.sl 4 (p.vars.map qo) .none,.sl 4 (p.hard.map qz) .none,.sl 4 (p.soft.map qz) .none,.sl 2 (p.dists.map qG) .none,.sl 1 (p.groups.map zZ) .none],.int .i64 i] (.bool (zW p.vars i)):=fun i=>by
  have hr:=Yw GG p i;rw[qaM]at hr;simpa only[yM] using hr
 simp only[yM]at hv;have hv20:=h.vars;simp;refine qe.call hv (by simp) ?_;by_cases h0:zT p=0
 . have x:yN p=qf5 p.vars p.vars.length:=(by simp[yN,h0]);rw[x];simp[h0];refine qC.intro (fun q env O=>∃ i,i<=p.vars.length/\q=p.vars.length-i/\env 1=.ptr 0 0/\env 3=qlN (qf5 p.vars i)/\env 10=.int .i64 p.vars.length/\env 11=.int .i64 i/\O=⟨[.cells (yM p)],qhK (qf5 p.vars i)⟩) p.vars.length ⟨0,by simp[qf5,qlN,qhK]⟩ ?_;rintro q env O ⟨i,hi,rfl,h1,h3,h10,h11,rfl⟩;by_cases hc:i<p.vars.length
   . have hc':(i:Int)<p.vars.length:=(by omega);have hlen:=qf4 (l:=p.vars) (i:=i);have hs:=qjD (l:=p.vars) (i:=i);simp[h1,h3,h10,h11,hc];refine qe.call (hr i) (by simp) ?_;cases hri:zW p.vars (i:Int)
     . rw[hri]at hs;simp[h1,h3,h10,h11];exact⟨_,by omega,i+1,by omega,rfl,by rw[hs];rfl,wr (by omega) (by omega),by rw[hs];rfl⟩
     . rw[hri,if_pos rfl]at hs;generalize hR:qf5 p.vars i=R at h3 hlen hs ⊢
       cases R with
       | nil=>
        simp only[qlN]at h3;simp[h1,h3,h10,h11,qhK,qt,qI,zc,zD];exact⟨_,by omega,i+1,by omega,rfl,by rw[hs];simp[qlN],wr (by omega) (by omega),by rw[hs];simp[qhK]⟩
       | cons a r=>
        have hb:r.length<=1073741822:=(by simp at hlen;omega);simp only[qlN]at h3;simp[h1,h3,h10,h11,qhK,qt,qI,zc,zD,hb];exact⟨_,by omega,i+1,by omega,rfl,by rw[hs];simp[qlN],wr (by omega) (by omega),by rw[hs];simp[qhK]⟩
   . have hi':i=p.vars.length:=(by omega);subst hi';have he:=qmR (qf5 p.vars p.vars.length) [.cells (yM p)];simp[h1,h3,h10,h11];simpa using he
 . have x:yN p=[]:=(by simp[yN,h0]);rw[x];simp[h0,Leq]
theorem qmw (p:Problem)(h:VP p):PZ 27 [.agg (yM p)] (.sl 1 ((yN p).map qY) .none):=qjK p h.q
end Go.Proofs.YtpgcmnabljandaaGreatDoor
end
