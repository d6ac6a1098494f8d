import Derived.Test.YtkodonalmdmgpaaGreatDoorSv26
import Derived.Test.YtkodonalmdmgpaaGreatDoorRows
import Derived.Test.YtkodonalmdmgpaaGreatDoorTie
import Derived.Test.YtkodonalmdmgpaaGreatDoorCards
import Derived.ProofKit
import Derived.LaidMore
import Derived.OpenShut
import Derived.Stop.Joined
import Derived.SevenTiedAt
import Derived.WideKeyArgs
import Derived.MakeChecks
set_option maxRecDepth 100000
set_option linter.all false
set_option linter.defProp false
section
namespace Go.Proofs.YtkodonalmdmgpaaGreatDoor
open Go Go.Abs Go.ChangeShapes Go.WideShapes Go.ChangeAt Go.RowKit
theorem ownTryz:ownKnob Tryz.prog.godebug=none:=by kernel_rfl
theorem laidOutTryz:laidOutB Tryz.prog=true:=by kernel_rfl
theorem gKeyw : Tryz.prog.globalNamed "testbench/lexer.keywords" = some 0 := by kernel_rfl
theorem tKeyw:(Tryz.prog.globals[0]?).map (·.type)=some 37:=by kernel_rfl
/-- A list of texts that reads as a known one. -/
theorem rd_strs {H:Type} {enc:TypeId×Value→H} {w:World} {base:Nat} {held:Bool} {n:Nat} {cs:List Value} {p:List MemPlace} {K:List Str}
 (h:DataW.trod enc Tryz.prog w base (fun _=>true) held n 37 cs=some (.slice (K.map fun k=>.lit (.string k)) [],p)) (hK:K≠[]) :
 ∃ v,cs=[v]∧VRel (KW w) (.sl 1 (K.map encStr) .none) v:=by
 have hs:∀ (m:Nat) (cs:List Value) (x:DataW H×List MemPlace),DataW.trod enc Tryz.prog w base (fun _=>true) held m 9 cs=some x→∃ k:Str,VRels (KW w) (encStr k) cs∧x.1=.lit (.string k):=by
  intro m cs x h
  obtain⟨s,rfl,rfl,_⟩:=DataW.trod_string Tryz.underlying9 h
  refine⟨s.data.toList,?_,rfl⟩
  simp only [encStr,VRels]
  exact⟨_,[],rfl,str_rel,rfl⟩
 rcases DataW.trod_slice Tryz.underlying37 h with ⟨_,e⟩|⟨a,len,cap,elems,rest,m,hm,rfl,e,hb,hl,hc,hlen,hel',hsp,_⟩
 · simp at e
 simp only [Prod.mk.injEq,DataW.slice.injEq] at e
 obtain⟨⟨e1,e2⟩,_⟩:=e
 have hlK:len=K.length:=by rw [← hlen];have:=congrArg List.length e1;simpa using this.symm
 have hK0:0<K.length:=List.length_pos_iff.2 hK
 rw [k9] at hel'
 have one:∀ i (hi:i<K.length),∃ cs',w.cells? base (a.add (i*1)) 1=some cs'∧VRels (KW w) (encStr K[i]) cs':=by
  intro i hi
  have hh:=hel' i (by omega)
  rw [List.getElem?_eq_getElem (by omega)] at hh
  obtain⟨cs',h1,h2⟩:=Option.bind_eq_some_iff.1 hh
  obtain⟨k,h3,h4⟩:=hs m cs' _ h2
  refine⟨cs',h1,?_⟩
  have e3:(elems.map (·.1))[i]?=(K.map fun k=>(DataW.lit (.string k):DataW H))[i]? := by rw [e1]
  rw [List.getElem?_map,List.getElem?_map,List.getElem?_eq_getElem (by omega),List.getElem?_eq_getElem hi] at e3
  simp only [Option.map_some,Option.some.injEq] at e3
  rw [h4] at e3
  have e4:k=K[i]:=by simpa using e3
  rw [← e4];exact h3
 have spot:a.spot=none:=by
  obtain⟨cs',h1,_⟩:=one 0 hK0
  rw [Nat.zero_mul] at h1
  obtain⟨_,hlen',hc'⟩:=World.cells?_some h1
  have:=hc' 0 (by omega)
  rw [List.getElem?_eq_getElem (by omega)] at this
  cases hs:a.spot with
  | none=>rfl
  | some s=>
   simp only [Addr.add,if_true] at this
   unfold World.cell? at this
   rw [hs] at this
   split at this<;>simp at this
 obtain⟨b,o,s⟩:=a
 simp only at spot
 subst spot
 refine⟨_,rfl,?_⟩
 simp only [VRel]
 refine .inr ⟨b,o,cap,by simp [hlK],by simp;omega,RowsAt.intro b 1 _ o fun i r e=>?_,trivial⟩
 rw [List.getElem?_map,Option.map_eq_some_iff] at e
 obtain⟨k,hk,rfl⟩:=e
 obtain⟨hi,hk'⟩:=List.getElem?_eq_some_iff.1 hk
 obtain⟨cs',h1,h2⟩:=one i hi
 rw [hk'] at h2
 obtain⟨_,hlen',hc'⟩:=World.cells?_some h1
 obtain⟨g1,g2⟩:=VRels.get h2
 refine⟨rfl,rfl,CellsAt.intro b _ _ fun j z hz=>?_⟩
 have hj:j=0:=by
  have:=(List.getElem?_eq_some_iff.1 hz).1
  simp at this
  exact this
 subst hj
 obtain⟨v,hv1,hv2⟩:=g2 0 z hz
 refine⟨v,?_,hv2⟩
 have:=hc' 0 (by omega)
 rw [hv1] at this
 show w.cell? ⟨b,o+i*1+0,none⟩=some v
 rw [← this]
 congr 1
 simp only [Addr.add,if_true]
 by_cases hi0:i*1=0
 · rw [if_pos hi0,hi0];simp
 · rw [if_neg hi0];simp
abbrev laidL:List (String×DataW Unit):=Rows.stimValidsUptoRow.laid
/-- What the condition gives: the keywords. -/
theorem of_laid {W:World} (h:laidMetH Tryz.prog laidL W):VRel (KW W) (.rptr [.sl 1 (keyw.map encStr) .none]) (.pointer (some ⟨0,0,none⟩)):=by
 rw [MakeChecks.laidMetH_plain _ _ _ (by kernel_rfl)] at h
 obtain⟨ps,⟨g0,t0,cs0,f0,p0,q0,_,_,_,_,⟨g1,t1,cs1,f1,p1,q1,_,_,_,_,⟨g2,t2,cs2,f2,p2,q2,_,_,_,_,⟨g3,t3,cs3,f3,p3,q3,hg,ht,hv,hd,_,_⟩,_⟩,_⟩,_⟩,_,_⟩:=h
 obtain rfl:=Option.some.inj (gKeyw.symm.trans hg)
 obtain rfl:=Option.some.inj (tKeyw.symm.trans ht)
 obtain⟨v,e,hr⟩:=rd_strs (K:=keyw) hd (by decide)
 have hcell:W.cell? ⟨0,0,none⟩=some v:=by
  have:=World.var?_cell hg hv 0
  rw [Array.eq_one_of_toList e] at this
  simpa using this
 have hgoal:VRel (KW W) (.rptr [.sl 1 (keyw.map encStr) .none]) (.pointer (some ⟨0,0,none⟩)):=by
  unfold VRel
  refine⟨0,0,rfl,?_⟩
  unfold CellsAt
  exact⟨⟨v,hcell,hr⟩,by unfold CellsAt;trivial⟩
 exact hgoal
theorem door_met (os:Os) (args:Array Value):laidMetH Tryz.prog laidL ((World.doorLaid Tryz.prog 400 os).forCall (fun _ _=>0) ⟨#[],args,[]⟩).memory :=
 laidMetH_of_parts3 (fuel:=8) (laidMet_of_run' 8 (by kernel_rfl) (by kernel_rfl)) (by kernel_rfl) (by kernel_rfl)
theorem glob_laid {W:World} (hL:laidMetH Tryz.prog laidL W):∀ g,VRel (KW W) (GG g) (.pointer (some ⟨g,0,none⟩)):=by
 intro g
 cases g with
 | zero=>exact of_laid hL
 | succ g=>simp only [GG,VRel]
end Go.Proofs.YtkodonalmdmgpaaGreatDoor
end
