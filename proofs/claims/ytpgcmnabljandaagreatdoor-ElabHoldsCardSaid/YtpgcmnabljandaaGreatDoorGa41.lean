/- A part of the proof: Walk46. -/
import Derived.Test.YtpgcmnabljandaaGreatDoorGa36
import Derived.Test.YtpgcmnabljandaaGreatDoorGa37
import Derived.Test.YtpgcmnabljandaaGreatDoorGa40
import Derived.Test.YtpgcmnabljandaaGreatDoorGa26
set_option linter.unusedVariables false
set_option linter.unusedSimpArgs false
set_option maxRecDepth 100000
section
namespace Go.Proofs.YtpgcmnabljandaaGreatDoor
open Go Go.Abs
section
theorem wen_pre {e:Ex} (h:∀ x∈pre e,x.args.length≤1000∧x.name.length≤100000):Wen e:=fun x hx=>by
 have:=h x hx
 constructor<;>omega
theorem mem_item {a:Str} {i:Nat} {x:Ex} (h:x∈pre (itemE a i)):x=itemE a i:=by simpa [pre_item] using h
theorem sc_names (l:List Var) (P:Str→Prop) (h0:P []):∀ e,(∀ x∈pre e,P x.name)→(∀ x∈pre e,∀ i,i<8→P (elemS x.name i))→∀ y∈pre (scE l e),P y.name:=by
 have hitem:∀ (a:Str),(∀ i,i<8→P (elemS a i))→∀ i,i<8→∀ y∈pre (itemE a i),P y.name:=fun a ha i hi y hy=>by
  rw [mem_item hy];exact ha i hi
 have hconst:∀ n,∀ y∈pre (constE n),P y.name:=fun n y hy=>by
  have:y=constE n:=by simpa [pre_const] using hy
  rw [this];exact h0
 have hsum:∀ (a:Str),(∀ i,i<8→P (elemS a i))→∀ k,k<8→∀ y∈pre (sumE a k),P y.name:=by
  intro a ha k
  induction k with
  | zero=>intro hk;exact hitem a ha 0 hk
  | succ k ihk=>
   intro hk y hy
   rw [sumE,pre_eq] at hy
   simp only [Ex.args_mk,preL_cons,preL_nil,List.append_nil,List.mem_cons,List.mem_append] at hy
   rcases hy with rfl|hy|hy
   · exact h0
   · exact ihk (by omega) y hy
   · exact hitem a ha (k+1) hk y hy
 have hifs:∀ (a:Str) (idx:Ex) (n:Nat),(∀ i,i<8→P (elemS a i))→(∀ y∈pre idx,P y.name)→n≤8→∀ k,k≤n→∀ y∈pre (ifsE a idx n k),P y.name:=by
  intro a idx n ha hidx hn k
  induction k with
  | zero=>intro _;exact hconst 0
  | succ k ihk=>
   intro hk y hy
   rw [ifsE,pre_eq] at hy
   simp only [Ex.args_mk,preL_cons,preL_nil,List.append_nil,List.mem_cons,List.mem_append,pre_eq (Ex.mk 15 0 [] _)] at hy
   rcases hy with rfl|(rfl|hy|hy)|hy|hy
   · exact h0
   · exact h0
   · exact hidx y hy
   · exact hconst _ y hy
   · exact hitem a ha _ (by omega) y hy
   · exact ihk (by omega) y hy
 refine Ex.ind fun e ih h1 h2=>?_
 have self:e∈pre e:=by rw [pre_eq];simp
 have sub:∀ a∈e.args,∀ x∈pre a,x∈pre e:=fun a ha x hx=>by rw [pre_eq];exact List.mem_cons_of_mem _ (mem_preL.2 ⟨a,ha,hx⟩)
 have ih':∀ a∈e.args,∀ y∈pre (scE l a),P y.name:=fun a ha=>ih a ha (fun x hx=>h1 x (sub a ha x hx)) fun x hx=>h2 x (sub a ha x hx)
 have h8:=sizeA_le l e.name
 rw [scE_eq]
 split
 · exact hsum _ (h2 e self) _ (by omega)
 split
 · have hidx:∀ y∈pre (headE (e.args.map (scE l))),P y.name:=by
    cases hm:e.args with
    | nil=>exact hconst 0
    | cons a r=>exact ih' a (by rw [hm];simp)
   unfold chainE
   split
   · split
     · rename_i hlt
       intro y hy
       by_cases h0n:0≤(headE (e.args.map (scE l))).n
       · exact hitem _ (h2 e self) _ (by omega) y hy
       · have:(headE (e.args.map (scE l))).n.toNat=0:=by omega
         rw [this] at hy
         exact hitem _ (h2 e self) 0 (by omega) y hy
     · exact hconst 0
   · exact hifs _ _ _ (h2 e self) hidx h8 _ (Nat.le_refl _)
 · intro y hy
   rw [pre_eq] at hy
   rcases List.mem_cons.1 hy with rfl|hy
   · exact h1 e self
   · obtain⟨b,hb,hyb⟩:=mem_preL.1 hy
     obtain⟨a,ha,rfl⟩:=List.mem_map.1 (show b∈e.args.map (scE l) from hb)
     exact ih' a ha y hyb
theorem hgt_pre:∀ e,hgt e≤(pre e).length:=by
 refine Ex.ind fun e ih=>?_
 rw [hgt_eq,pre_eq,List.length_cons]
 have:∀ (m:List Ex),(∀ a∈m,hgt a≤(pre a).length)→hgtL m≤(preL m).length:=by
  intro m
  induction m with
  | nil=>simp
  | cons a r ihr=>
   intro h
   have h1:=h a (by simp)
   have h2:=ihr fun x hx=>h x (by simp [hx])
   simp only [hgtL_cons,preL_cons,List.length_append]
   omega
 have:=this e.args ih
 omega
theorem sc_wen {l:List Var} {e:Ex} (hn:NodesOk e) (hu:unkB l e=false) (h4:¬ 400<(extE l e).1):Wen (scE l e)∧(pre (scE l e)).length≤400∧hgt (scE l e)≤400:=by
 have hlen:=(extOk l e hn hu).len (by omega)
 have hs:=slim_sc l e hn
 have hnn:∀ y∈pre (scE l e),y.name.length≤2000:=by
  have hle:∀ x∈pre e,x.name.length≤1000:=by
   intro x hx
   have hnx:NodesOk x:=by
    intro z hz
    have tr:∀ e:Ex,∀ x∈pre e,∀ z∈pre x,z∈pre e:=by
     refine Ex.ind fun e ih x hx z hz=>?_
     rw [pre_eq] at hx
     rcases List.mem_cons.1 hx with rfl|hx
     · exact hz
     · obtain⟨a,ha,hxa⟩:=mem_preL.1 hx
       rw [pre_eq]
       exact List.mem_cons_of_mem _ (mem_preL.2 ⟨a,ha,ih a ha x hxa z hz⟩)
    exact hn z (tr e x hx z hz)
   exact name_le hnx
  refine sc_names l (fun s=>s.length≤2000) (by simp) e (fun x hx=>by have:=hle x hx;show x.name.length≤2000;omega) (fun x hx i hi=>by have:=hle x hx;simp;omega)
 have hh:=hgt_pre (scE l e)
 exact⟨wen_pre fun x hx=>⟨hs x hx,by have:=hnn x hx;omega⟩,by omega,by omega⟩
attribute [local simp high] acells_encE
attribute [local simp] acells_int acells_str acells_bool acells_sl acells_agg encE_atoms encE_len putAt_encE putAt_encE2 take_encE
end
end Go.Proofs.YtpgcmnabljandaaGreatDoor
end
