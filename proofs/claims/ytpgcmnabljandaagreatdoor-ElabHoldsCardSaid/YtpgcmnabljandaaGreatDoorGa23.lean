/- A part of the proof: Walk27. -/
import Derived.Test.YtpgcmnabljandaaGreatDoorGa18
set_option linter.unusedVariables false
set_option linter.unusedSimpArgs false
set_option maxRecDepth 100000
section
namespace Go.Proofs.YtpgcmnabljandaaGreatDoor
open Go Go.Abs
theorem nodes_lo:∀ (e:Ex) (d:Nat),d+hgt e≤30→(1≤nodesS e d∧((pre e).length≤100→((pre e).length:Int)≤nodesS e d)∧(100≤(pre e).length→100≤nodesS e d))∧nodesS e d≤100*hgt e:=by
 refine Ex.ind fun e ih d hd=>?_
 rw [hgt_eq] at hd ⊢
 have gen:∀ (l:List Ex) (n:Int),(∀ a∈l,a∈e.args)→1≤n→n≤100*(hgtL e.args+1:Nat) →
  (1≤nodesL l d n∧n≤nodesL l d n∧(n+(preL l).length≤100→n+(preL l).length≤nodesL l d n)∧(100≤n+(preL l).length→100≤nodesL l d n))∧nodesL l d n≤100*(hgtL e.args+1:Nat):=by
  intro l
  induction l with
  | nil=>intro n _ h1 h2;simp;omega
  | cons a r ihr=>
   intro n hsub h1 h2
   have ham:=hsub a (by simp)
   have hga:=hgtL_mem ham
   have hga1:1≤hgt a:=by rw [hgt_eq];omega
   rw [nodesL_cons]
   by_cases c1:n<100
   · have c2:(d:Int)<30:=by omega
     rw [if_pos ⟨c1,c2⟩]
     have hw:IntKind.i64.wrap ((d:Int)+1)=((d+1:Nat):Int):=by rw [wr (by omega) (by omega)];omega
     rw [hw]
     have k:=ih a ham (d+1) (by omega)
     have hub:nodesS a ((d+1:Nat):Int)≤100*hgt a:=k.2
     have hw2:IntKind.i64.wrap (n+nodesS a ((d+1:Nat):Int))=n+nodesS a ((d+1:Nat):Int):=wr (by omega) (by omega)
     rw [hw2]
     have kr:=ihr (n+nodesS a ((d+1:Nat):Int)) (fun x hx=>hsub x (by simp [hx])) (by omega) (by omega)
     simp only [preL_cons,List.length_append]
     obtain⟨⟨k1,k2,k3⟩,k4⟩:=k
     obtain⟨⟨r1,r2,r3,r4⟩,r5⟩:=kr
     refine⟨⟨r1,by omega,fun h=>?_,fun h=>?_⟩,r5⟩
     · have a1:=k2 (by omega)
       by_cases hb:n+nodesS a ((d+1:Nat):Int)+(preL r).length≤100
       · have:=r3 hb;omega
       · have:=r4 (by omega);omega
     · by_cases ha:(pre a).length≤100
       · have a1:=k2 ha
         exact r4 (by omega)
       · have a1:=k3 (by omega)
         exact r4 (by omega)
   · rw [if_neg (fun h=>c1 h.1)]
     refine⟨⟨h1,Int.le_refl _,fun h=>?_,fun _=>by omega⟩,h2⟩
     simp only [preL_cons,List.length_append] at h ⊢
     omega
 have g:=gen e.args 1 (fun _ h=>h) (by omega) (by omega)
 rw [← nodesS_eq] at g
 have hl:(pre e).length=(preL e.args).length+1:=by rw [pre_eq,List.length_cons]
 rw [hl]
 refine⟨⟨g.1.1,fun h=>?_,fun h=>?_⟩,g.2⟩
 · have:=g.1.2.2.1 (by omega);omega
 · exact g.1.2.2.2 (by omega)
theorem brief_few {e:Ex} (h:briefS e 0=true):(pre e).length≤60:=by
 have hh:=brief_hgt e 0 h
 rw [briefS_eq] at h
 split at h
 · cases h
 · rename_i hn
   have h60:¬ 60<nodesS e 0:=fun h=>hn (.inr ⟨rfl,h⟩)
   have k:=nodes_lo e 0 (by omega)
   obtain⟨⟨_,k2,k3⟩,_⟩:=k
   apply Classical.byContradiction
   intro hgt60
   by_cases h100:(pre e).length≤100
   · have:=k2 h100
     simp only [Int.natCast_zero] at this h60
     omega
   · have:=k3 (by omega)
     simp only [Int.natCast_zero] at this h60
     omega
end Go.Proofs.YtpgcmnabljandaaGreatDoor
end
