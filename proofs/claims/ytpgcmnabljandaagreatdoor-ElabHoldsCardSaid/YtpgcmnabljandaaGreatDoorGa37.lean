/- A part of the proof: Walk45. -/
import Derived.Test.YtpgcmnabljandaaGreatDoorGa34
import Derived.Test.YtpgcmnabljandaaGreatDoorGa35
set_option linter.unusedVariables false
set_option linter.unusedSimpArgs false
set_option maxRecDepth 100000
section
namespace Go.Proofs.YtpgcmnabljandaaGreatDoor
open Go Go.Abs
section
theorem slim_mk {o n:Int} {s:Str} {a:List Ex} (h:a.length≤1000) (ha:∀ x∈a,Slim x):Slim (.mk o n s a):=by
 intro x hx
 rw [pre_eq] at hx
 rcases List.mem_cons.1 hx with rfl|hx
 · exact h
 · obtain⟨y,hy,hxy⟩:=mem_preL.1 hx
   exact ha y hy x hxy
theorem slim_item (a:Str) (i:Nat):Slim (itemE a i):=slim_mk (by simp) (by simp)
theorem slim_const (n:Int):Slim (constE n):=slim_mk (by simp) (by simp)
theorem slim_sum (a:Str):∀ k,Slim (sumE a k)
 | 0=>slim_item a 0
 | k+1=>slim_mk (by simp) (by
  intro x hx
  simp only [List.mem_cons,List.not_mem_nil,or_false] at hx
  rcases hx with rfl|rfl
  · exact slim_sum a k
  · exact slim_item _ _)
theorem slim_ifs (a:Str) {idx:Ex} (hi:Slim idx) (n:Nat):∀ k,Slim (ifsE a idx n k)
 | 0=>slim_const 0
 | k+1=>slim_mk (by simp) (by
  intro x hx
  simp only [List.mem_cons,List.not_mem_nil,or_false] at hx
  rcases hx with rfl|rfl|rfl
  · refine slim_mk (by simp) fun y hy=>?_
    simp only [List.mem_cons,List.not_mem_nil,or_false] at hy
    rcases hy with rfl|rfl
    · exact hi
    · exact slim_const _
  · exact slim_item _ _
  · exact slim_ifs a hi n k)
theorem slim_chain (a:Str) {idx:Ex} (hi:Slim idx) (n:Nat):Slim (chainE a idx n):=by
 unfold chainE
 split
 · split
   · exact slim_item _ _
   · exact slim_const _
 · exact slim_ifs a hi n n
theorem slim_sc (l:List Var):∀ e,NodesOk e→Slim (scE l e):=by
 refine Ex.ind fun e ih hn=>?_
 have hs:∀ x∈e.args.map (scE l),Slim x:=by
  intro x hx
  obtain⟨a,ha,rfl⟩:=List.mem_map.1 hx
  exact ih a ha (hn.arg ha)
 rw [scE_eq]
 split
 · exact slim_sum _ _
 split
 · refine slim_chain _ ?_ _
   cases hm:e.args.map (scE l) with
   | nil=>exact slim_const 0
   | cons x r=>exact hs x (by rw [hm];simp)
 · exact slim_mk (by have:=args_le hn;simp;omega) hs
theorem sc_const {l:List Var} {e:Ex} (hn:NodesOk e) (hu:unkB l e=false) (h1:(scE l e).op=1):0≤(scE l e).n:=by
 rcases (extOk l e hn hu).val with ⟨v0,_,vn⟩|⟨_,vo⟩
 · rw [vn];exact v0
 · exact absurd h1 vo
attribute [local simp high] acells_encE
attribute [local simp] acells_int acells_str acells_bool acells_sl acells_agg encE_atoms encE_len putAt_encE putAt_encE2 take_encE
end
end Go.Proofs.YtpgcmnabljandaaGreatDoor
end
