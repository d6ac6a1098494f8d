/- A part of the proof: Walk28. -/
import Derived.Test.YtpgcmnabljandaaGreatDoorGa22
import Derived.Test.YtpgcmnabljandaaGreatDoorGa23
set_option linter.unusedVariables false
set_option linter.unusedSimpArgs false
set_option maxRecDepth 100000
section
namespace Go.Proofs.YtpgcmnabljandaaGreatDoor
open Go Go.Abs
def rndL (l:List Var) (i:Nat):List Int:=((List.range i).filter fun (j:Nat)=>rndS l (j:Int)).map fun (j:Nat)=>(j:Int)
theorem rndL_succ {l:List Var} {i:Nat}:rndL l (i+1)=if rndS l (i:Int)=true then rndL l i++[(i:Int)] else rndL l i:=by
 unfold rndL
 rw [List.range_succ,List.filter_append]
 by_cases h:rndS l (i:Int)=true
 · simp [h]
 · simp [h]
theorem rndL_len {l:List Var} {i:Nat}:(rndL l i).length≤i:=by
 unfold rndL
 rw [List.length_map]
 exact Nat.le_trans (List.length_filter_le _ _) (by simp)
noncomputable def randomI (p:Problem):List Int:=if validP p≠0 then [] else rndL p.vars p.vars.length
def outI (s:List Int):AV:=match s with
 | []=>.sl 0 [] .nil
 | a::r=>.sl 1 ((a::r).map encInt) (.chain 0 (r.length+1))
theorem outI_end (s:List Int) (H:List Blk):noRef (fin H (outI s))=true∧Leq (fin H (outI s)) (.sl 1 (s.map encInt) .none):=by
 cases s with
 | nil=>simp [outI,Leq]
 | cons a r=>simp [outI,Leq]
def outTI (s:List Int):List (Option Nat):=match s with
 | []=>[]
 | _::r=>[some (r.length+1)]
theorem random27q (p:Problem) (h:VQ p):Pure Tryz.prog GG 27 [.agg (encP p)] (.sl 1 ((randomI p).map encInt) .none):=by
 refine Pure.vc mixed Tryz.func27 rfl (by kernel_rfl) ?_
 have hv:=valid14q p h
 have hr:∀ i,Pure Tryz.prog GG 83 [.agg [.sl 4 (p.vars.map encVar) .none,.sl 4 (p.hard.map encE) .none,.sl 4 (p.soft.map encE) .none,.sl 2 (p.dists.map encDist) .none,.sl 1 (p.groups.map encInts) .none],.int .i64 i] (.bool (rndS p.vars i)):=fun i=>by
  have hr:=random GG p i
  rw [rndS_eq] at hr
  simpa only [encP] using hr
 simp only [encP] at hv
 have hv20:=h.vars
 simp
 refine vcCall.call hv (by simp) ?_
 by_cases h0:validP p=0
 · have x:randomI p=rndL p.vars p.vars.length:=by simp [randomI,h0]
   rw [x]
   simp [h0]
   refine vcLoop.intro (fun q env σ=>∃ i,i≤p.vars.length∧q=p.vars.length-i∧env 1=.ptr 0 0∧env 3=outI (rndL p.vars i)∧env 10=.int .i64 p.vars.length∧env 11=.int .i64 i∧σ=⟨[.cells (encP p)],outTI (rndL p.vars i)⟩) p.vars.length ⟨0,by simp [rndL,outI,outTI]⟩ ?_
   rintro q env σ ⟨i,hi,rfl,h1,h3,h10,h11,rfl⟩
   by_cases hc:i<p.vars.length
   · have hc':(i:Int)<p.vars.length:=by omega
     have hlen:=rndL_len (l:=p.vars) (i:=i)
     have hs:=rndL_succ (l:=p.vars) (i:=i)
     simp [h1,h3,h10,h11,hc]
     refine vcCall.call (hr i) (by simp) ?_
     cases hri:rndS p.vars (i:Int)
     · rw [hri] at hs
       simp [h1,h3,h10,h11]
       exact⟨_,by omega,i+1,by omega,rfl,by rw [hs];rfl,wr (by omega) (by omega),by rw [hs];rfl⟩
     · rw [hri,if_pos rfl] at hs
       generalize hR:rndL p.vars i=R at h3 hlen hs ⊢
       cases R with
       | nil=>
        simp only [outI] at h3
        simp [h1,h3,h10,h11,outTI,appendA,buildSliceA,rowsFill,rowsOf]
        exact⟨_,by omega,i+1,by omega,rfl,by rw [hs];simp [outI],wr (by omega) (by omega),by rw [hs];simp [outTI]⟩
       | cons a r=>
        have hb:r.length≤1073741822:=by simp at hlen;omega
        simp only [outI] at h3
        simp [h1,h3,h10,h11,outTI,appendA,buildSliceA,rowsFill,rowsOf,hb]
        exact⟨_,by omega,i+1,by omega,rfl,by rw [hs];simp [outI],wr (by omega) (by omega),by rw [hs];simp [outTI]⟩
   · have hi':i=p.vars.length:=by omega
     subst hi'
     have he:=outI_end (rndL p.vars p.vars.length) [.cells (encP p)]
     simp [h1,h3,h10,h11]
     simpa using he
 · have x:randomI p=[]:=by simp [randomI,h0]
   rw [x]
   simp [h0,Leq]
end Go.Proofs.YtpgcmnabljandaaGreatDoor
end
