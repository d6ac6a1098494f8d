/- A part of the proof: Walk29 AbsRead2 Join5 Join5b AbsRead3 AbsItem. -/
import Derived.Test.YtpgcmnabljandaaGreatDoorGa24
import Derived.Test.YtpgcmnabljandaaGreatDoorGa25
import Derived.Test.YtpgcmnabljandaaGreatDoorGa16
import Derived.Test.YtpgcmnabljandaaGreatDoorRows
import Derived.Test.YtpgcmnabljandaaGreatDoorTie
import Derived.Test.YtpgcmnabljandaaGreatDoorCards
import Derived.ProofKit
import Derived.LaidMore
import Derived.OpenShut
import Derived.Stop.Joined
import Derived.SevenTiedAt
import Derived.WideKeyArgs
import Derived.MakeChecks
import Derived.Test.YtpgcmnabljandaaGreatDoorGa17
import Derived.Test.YtpgcmnabljandaaGreatDoorGa18
set_option linter.unusedVariables false
set_option linter.unusedSimpArgs false
set_option maxRecDepth 100000
section
namespace Go.Proofs.YtpgcmnabljandaaGreatDoor
open Go Go.Abs
section
section
variable {H:Type} {enc:TypeId×Value→H} {w:World} {base:Nat} {held:Bool}
theorem rd_field {fs:Array Field} {t n:Nat} {cs:List Value} {x:DataW H×List MemPlace} (ht:Tryz.prog.underlying t=some (.struct fs)) (h:DataW.trod enc Tryz.prog w base (fun _=>true) held n t cs=some x) :
 ∃ m,n=m+1∧cs.length=Tryz.prog.cellsOf t∧∀ (i:Nat) (f:Field),fs[i]?=some f→∃ y,DataW.trod enc Tryz.prog w base (fun _=>true) held m f.type ((cs.drop f.offset).take (Tryz.prog.cellsOf f.type))=some y:=by
 obtain⟨xs,m,rfl,rfl,hl,hlen,hf⟩:=DataW.trod_struct ht h
 refine⟨m,rfl,hl,fun i f hi=>?_⟩
 have hlt:i<fs.size:=(Array.getElem?_eq_some_iff.1 hi).1
 exact⟨xs[i]'(by omega),by rw [hf i f hi,List.getElem?_eq_getElem]⟩
theorem k3:Tryz.prog.cellsOf 3=1:=by kernel_rfl
theorem k4:Tryz.prog.cellsOf 4=1:=by kernel_rfl
theorem k9:Tryz.prog.cellsOf 9=1:=by kernel_rfl
theorem k32:Tryz.prog.cellsOf 32=1:=by kernel_rfl
theorem k36:Tryz.prog.cellsOf 36=5:=by kernel_rfl
theorem k55:Tryz.prog.cellsOf 55=4:=by kernel_rfl
theorem k66:Tryz.prog.cellsOf 66=1:=by kernel_rfl
theorem k155:Tryz.prog.cellsOf 155=4:=by kernel_rfl
theorem str_rel {s:ByteArray}:VRel (KW w) (.str s.data.toList) (.string s):=by
 obtain⟨d⟩:=s
 unfold VRel
 show Value.string ⟨d⟩=Value.string ⟨d.toList.toArray⟩
 rw [Array.toArray_toList]
theorem rd_int {n:Nat} {c:Value} {y:DataW H×List MemPlace} (h:DataW.trod enc Tryz.prog w base (fun _=>true) held n 3 [c]=some y):∃ i:Int,c=.int .i64 i:=by
 obtain⟨i,e,_⟩:=DataW.trod_int Tryz.underlying3 h
 exact⟨i,(List.cons.inj e).1⟩
theorem rd_bool {n:Nat} {c:Value} {y:DataW H×List MemPlace} (h:DataW.trod enc Tryz.prog w base (fun _=>true) held n 4 [c]=some y):∃ i:Bool,c=.bool i:=by
 obtain⟨i,e,_⟩:=DataW.trod_bool Tryz.underlying4 h
 exact⟨i,(List.cons.inj e).1⟩
theorem rd_str {n:Nat} {c:Value} {y:DataW H×List MemPlace} (h:DataW.trod enc Tryz.prog w base (fun _=>true) held n 9 [c]=some y):∃ s:ByteArray,c=.string s∧Fits s.data.toList:=by
 obtain⟨s,e,_,hs⟩:=DataW.trod_string Tryz.underlying9 h
 refine⟨s,(List.cons.inj e).1,?_⟩
 have:s.data.toList.length=s.size:=Array.length_toList
 rw [Fits,this]
 simp only [maxLen] at hs
 omega
theorem rdWeight {n:Nat} {cs:List Value} {x:DataW H×List MemPlace} (h:DataW.trod enc Tryz.prog w base (fun _=>true) held n 155 cs=some x):∃ v:Weight,VRels (KW w) (encWeight v) cs∧True:=by
 obtain⟨m,rfl,hl,hf⟩:=rd_field Tryz.underlying155 h
 rw [k155] at hl
 match cs,hl with
 | [a,b,c,d],_=>
  obtain⟨y0,h0⟩:=hf 0 _ rfl
  obtain⟨y1,h1⟩:=hf 1 _ rfl
  obtain⟨y2,h2⟩:=hf 2 _ rfl
  obtain⟨y3,h3⟩:=hf 3 _ rfl
  have h0:DataW.trod enc Tryz.prog w base (fun _=>true) held m 3 (List.take (Tryz.prog.cellsOf 3) (List.drop 0 [a,b,c,d]))=some y0:=h0
  rw [k3] at h0
  have h1:DataW.trod enc Tryz.prog w base (fun _=>true) held m 3 (List.take (Tryz.prog.cellsOf 3) (List.drop 1 [a,b,c,d]))=some y1:=h1
  rw [k3] at h1
  have h2:DataW.trod enc Tryz.prog w base (fun _=>true) held m 3 (List.take (Tryz.prog.cellsOf 3) (List.drop 2 [a,b,c,d]))=some y2:=h2
  rw [k3] at h2
  have h3:DataW.trod enc Tryz.prog w base (fun _=>true) held m 4 (List.take (Tryz.prog.cellsOf 4) (List.drop 3 [a,b,c,d]))=some y3:=h3
  rw [k4] at h3
  obtain⟨i0,rfl⟩:=rd_int (c:=a) h0
  obtain⟨i1,rfl⟩:=rd_int (c:=b) h1
  obtain⟨i2,rfl⟩:=rd_int (c:=c) h2
  obtain⟨i3,rfl⟩:=rd_bool (c:=d) h3
  refine⟨⟨i0,i1,i2,i3⟩,?_,trivial⟩
  simp [VRels,VRel]
theorem rdInts {n:Nat} {cs:List Value} {x:DataW H×List MemPlace} (h:DataW.trod enc Tryz.prog w base (fun _=>true) held n 28 cs=some x):∃ l:List Int,VRels (KW w) (encInts l) cs∧Fits l:=by
 cases n with
 | zero=>simp [DataW.trod] at h
 | succ m=>
  obtain⟨l,v,rfl,hv,hfl,_⟩:=rd_slice (en:=encInt) (good:=fun _=>True) Tryz.underlying28 k3 (by omega) (fun y=>by simp [AV.atom]) (fun cs x h=>by
   obtain⟨i,e,_⟩:=DataW.trod_int Tryz.underlying3 h
   exact⟨i,by rw [e];simp [VRels,VRel],trivial⟩) h
  refine⟨l,?_,hfl⟩
  simp only [encInts,VRels]
  exact⟨v,[],rfl,hv,rfl⟩
theorem rdE:∀ (N n:Nat),n≤N→∀ {cs:List Value} {x:DataW H×List MemPlace},DataW.trod enc Tryz.prog w base (fun _=>true) held n 55 cs=some x→∃ e:Ex,VRels (KW w) (encE e) cs∧Wen e:=by
 intro N
 induction N with
 | zero=>
  intro n hn cs x h
  have:n=0:=by omega
  subst this
  simp [DataW.trod] at h
 | succ N ih=>
  intro n hn cs x h
  obtain⟨m,rfl,hl,hf⟩:=rd_field Tryz.underlying55 h
  rw [k55] at hl
  match cs,hl with
  | [a,b,c,d],_=>
   obtain⟨y0,h0⟩:=hf 0 _ rfl
   obtain⟨y1,h1⟩:=hf 1 _ rfl
   obtain⟨y2,h2⟩:=hf 2 _ rfl
   obtain⟨y3,h3⟩:=hf 3 _ rfl
   have h0:DataW.trod enc Tryz.prog w base (fun _=>true) held m 3 (List.take (Tryz.prog.cellsOf 3) (List.drop 0 [a,b,c,d]))=some y0:=h0
   rw [k3] at h0
   have h1:DataW.trod enc Tryz.prog w base (fun _=>true) held m 3 (List.take (Tryz.prog.cellsOf 3) (List.drop 1 [a,b,c,d]))=some y1:=h1
   rw [k3] at h1
   have h2:DataW.trod enc Tryz.prog w base (fun _=>true) held m 9 (List.take (Tryz.prog.cellsOf 9) (List.drop 2 [a,b,c,d]))=some y2:=h2
   rw [k9] at h2
   have h3:DataW.trod enc Tryz.prog w base (fun _=>true) held m 32 (List.take (Tryz.prog.cellsOf 32) (List.drop 3 [a,b,c,d]))=some y3:=h3
   rw [k32] at h3
   obtain⟨i0,rfl⟩:=rd_int (c:=a) h0
   obtain⟨i1,rfl⟩:=rd_int (c:=b) h1
   obtain⟨s,rfl,hs⟩:=rd_str (c:=c) h2
   have h3':DataW.trod enc Tryz.prog w base (fun _=>true) held m 32 [d]=some y3:=h3
   cases m with
   | zero=>simp [DataW.trod] at h3'
   | succ m=>
    obtain⟨l,v,e,hv,hfl,hg⟩:=rd_slice (en:=encE) (good:=Wen) Tryz.underlying32 k55 (by omega) (fun y=>by rw [encE_eq];simp [AV.atom]) (fun cs x h=>ih m (by omega) h) h3'
    cases e
    refine⟨.mk i0 i1 s.data.toList l,?_,?_⟩
    · rw [encE_eq]
      simp only [VRels,Ex.op_mk,Ex.n_mk,Ex.name_mk,Ex.args_mk]
      exact⟨_,_,rfl,by simp [VRel],_,_,rfl,by simp [VRel],_,_,rfl,str_rel,_,[],rfl,hv,rfl⟩
    · intro y hy
      rw [pre_eq] at hy
      rcases List.mem_cons.1 hy with rfl|hy
      · exact⟨hfl,hs⟩
      · obtain⟨a,ha,hya⟩:=mem_preL.1 hy
        exact hg a ha y hya
end
end
end Go.Proofs.YtpgcmnabljandaaGreatDoor
end
section
namespace Go.Proofs.YtpgcmnabljandaaGreatDoor
open Go Go.Abs Go.ChangeShapes Go.WideShapes Go.ChangeAt Go.RowKit
theorem ownTryz:ownKnob Tryz.prog.godebug=none:=by kernel_rfl
theorem laidOutTryz:laidOutB Tryz.prog=true:=by kernel_rfl
theorem gKeyw : Tryz.prog.globalNamed "testbench/lexer.keywords" = some 0 := by kernel_rfl
theorem tKeyw:(Tryz.prog.globals[0]?).map (·.type)=some 23:=by kernel_rfl
theorem rd_strs {H:Type} {enc:TypeId×Value→H} {w:World} {base:Nat} {held:Bool} {n:Nat} {cs:List Value} {p:List MemPlace} {K:List Str}
 (h:DataW.trod enc Tryz.prog w base (fun _=>true) held n 23 cs=some (.slice (K.map fun k=>.lit (.string k)) [],p)) (hK:K≠[]) :
 ∃ v,cs=[v]∧VRel (KW w) (.sl 1 (K.map encStr) .none) v:=by
 have hs:∀ (m:Nat) (cs:List Value) (x:DataW H×List MemPlace),DataW.trod enc Tryz.prog w base (fun _=>true) held m 9 cs=some x→∃ k:Str,VRels (KW w) (encStr k) cs∧x.1=.lit (.string k):=by
  intro m cs x h
  obtain⟨s,rfl,rfl,_⟩:=DataW.trod_string Tryz.underlying9 h
  refine⟨s.data.toList,?_,rfl⟩
  simp only [encStr,VRels]
  exact⟨_,[],rfl,str_rel,rfl⟩
 rcases DataW.trod_slice Tryz.underlying23 h with ⟨_,e⟩|⟨a,len,cap,elems,rest,m,hm,rfl,e,hb,hl,hc,hlen,hel',hsp,_⟩
 · simp at e
 simp only [Prod.mk.injEq,DataW.slice.injEq] at e
 obtain⟨⟨e1,e2⟩,_⟩:=e
 have hlK:len=K.length:=by rw [← hlen];have:=congrArg List.length e1;simpa using this.symm
 have hK0:0<K.length:=List.length_pos_iff.2 hK
 rw [k9] at hel'
 have one:∀ i (hi:i<K.length),∃ cs',w.cells? base (a.add (i*1)) 1=some cs'∧VRels (KW w) (encStr K[i]) cs':=by
  intro i hi
  have hh:=hel' i (by omega)
  rw [List.getElem?_eq_getElem (by omega)] at hh
  obtain⟨cs',h1,h2⟩:=Option.bind_eq_some_iff.1 hh
  obtain⟨k,h3,h4⟩:=hs m cs' _ h2
  refine⟨cs',h1,?_⟩
  have e3:(elems.map (·.1))[i]?=(K.map fun k=>(DataW.lit (.string k):DataW H))[i]? := by rw [e1]
  rw [List.getElem?_map,List.getElem?_map,List.getElem?_eq_getElem (by omega),List.getElem?_eq_getElem hi] at e3
  simp only [Option.map_some,Option.some.injEq] at e3
  rw [h4] at e3
  have e4:k=K[i]:=by simpa using e3
  rw [← e4];exact h3
 have spot:a.spot=none:=by
  obtain⟨cs',h1,_⟩:=one 0 hK0
  rw [Nat.zero_mul] at h1
  obtain⟨_,hlen',hc'⟩:=World.cells?_some h1
  have:=hc' 0 (by omega)
  rw [List.getElem?_eq_getElem (by omega)] at this
  cases hs:a.spot with
  | none=>rfl
  | some s=>
   simp only [Addr.add,if_true] at this
   unfold World.cell? at this
   rw [hs] at this
   split at this<;>simp at this
 obtain⟨b,o,s⟩:=a
 simp only at spot
 subst spot
 refine⟨_,rfl,?_⟩
 simp only [VRel]
 refine .inr ⟨b,o,cap,by simp [hlK],by simp;omega,RowsAt.intro b 1 _ o fun i r e=>?_,trivial⟩
 rw [List.getElem?_map,Option.map_eq_some_iff] at e
 obtain⟨k,hk,rfl⟩:=e
 obtain⟨hi,hk'⟩:=List.getElem?_eq_some_iff.1 hk
 obtain⟨cs',h1,h2⟩:=one i hi
 rw [hk'] at h2
 obtain⟨_,hlen',hc'⟩:=World.cells?_some h1
 obtain⟨g1,g2⟩:=VRels.get h2
 refine⟨rfl,rfl,CellsAt.intro b _ _ fun j z hz=>?_⟩
 have hj:j=0:=by
  have:=(List.getElem?_eq_some_iff.1 hz).1
  simp at this
  exact this
 subst hj
 obtain⟨v,hv1,hv2⟩:=g2 0 z hz
 refine⟨v,?_,hv2⟩
 have:=hc' 0 (by omega)
 rw [hv1] at this
 show w.cell? ⟨b,o+i*1+0,none⟩=some v
 rw [← this]
 congr 1
 simp only [Addr.add,if_true]
 by_cases hi0:i*1=0
 · rw [if_pos hi0,hi0];simp
 · rw [if_neg hi0];simp
abbrev laid5:List (String×DataW Unit):=Rows.elabValidsRow.laid
theorem of_laid {W:World} (h:laidMetH Tryz.prog laid5 W):VRel (KW W) (.rptr [.sl 1 (keyw.map encStr) .none]) (.pointer (some ⟨0,0,none⟩)):=by
 rw [MakeChecks.laidMetH_plain _ _ _ (by kernel_rfl)] at h
 obtain⟨ps,⟨g0,t0,cs0,f0,p0,q0,_,_,_,_,⟨g1,t1,cs1,f1,p1,q1,_,_,_,_,⟨g2,t2,cs2,f2,p2,q2,_,_,_,_,⟨g3,t3,cs3,f3,p3,q3,hg,ht,hv,hd,_,_⟩,_⟩,_⟩,_⟩,_,_⟩:=h
 obtain rfl:=Option.some.inj (gKeyw.symm.trans hg)
 obtain rfl:=Option.some.inj (tKeyw.symm.trans ht)
 obtain⟨v,e,hr⟩:=rd_strs (K:=keyw) hd (by decide)
 have hcell:W.cell? ⟨0,0,none⟩=some v:=by
  have:=World.var?_cell hg hv 0
  rw [Array.eq_one_of_toList e] at this
  simpa using this
 have hgoal:VRel (KW W) (.rptr [.sl 1 (keyw.map encStr) .none]) (.pointer (some ⟨0,0,none⟩)):=by
  unfold VRel
  refine⟨0,0,rfl,?_⟩
  unfold CellsAt
  exact⟨⟨v,hcell,hr⟩,by unfold CellsAt;trivial⟩
 exact hgoal
theorem door_met (os:Os) (args:Array Value):laidMetH Tryz.prog laid5 ((World.doorLaid Tryz.prog 400 os).forCall (fun _ _=>0) ⟨#[],args,[]⟩).memory :=
 laidMetH_of_parts3 (fuel:=8) (laidMet_of_run' 8 (by kernel_rfl) (by kernel_rfl)) (by kernel_rfl) (by kernel_rfl)
end Go.Proofs.YtpgcmnabljandaaGreatDoor
end
section
namespace Go.Proofs.YtpgcmnabljandaaGreatDoor
open Go Go.Abs
section
mutual
def preI:It→List It
 | .mk k e n i w l m b a=>.mk k e n i w l m b a::(preIL l++preIL m)
def preIL:List It→List It
 | []=>[]
 | x::r=>preI x++preIL r
end
theorem preI_eq (x:It):preI x=x::(preIL x.items++preIL x.els):=by cases x;simp [preI,It.items,It.els]
theorem mem_preIL {l:List It} {x:It}:x∈preIL l↔∃ a∈l,x∈preI a:=by
 induction l with
 | nil=>simp [preIL]
 | cons e r ih=>simp [preIL,ih]
structure Hold1 (x:It):Prop where
 expr:Wen x.expr
 name:Fits x.name
 index:Fits x.index
 ws:Fits x.ws
 items:Fits x.items
 els:Fits x.els
 before:Fits x.before
 after:Fits x.after
 names:∀ s∈x.before++x.after,Fits s
def HoldI (x:It):Prop:=∀ y∈preI x,Hold1 y
structure HoldC (c:Cls):Prop where
 name:Fits c.name
 parent:Fits c.parent
 fields:Fits c.fields
 blocks:Fits c.blocks
 fnames:∀ f∈c.fields,Fits f.name
 bnames:∀ b∈c.blocks,Fits b.name∧Fits b.items∧∀ x∈b.items,HoldI x
structure HoldA (q:Ask):Prop where
 src:Fits q.src
 classes:∀ c∈q.src,HoldC c
 name:Fits q.name
 off:Fits q.off
 offs:∀ s∈q.off,Fits s
 more:Fits q.more
 items:∀ x∈q.more,HoldI x
 state:Fits q.state
 states:∀ s∈q.state,Fits s.name
theorem k23:Tryz.prog.cellsOf 23=1:=by kernel_rfl
theorem k24:Tryz.prog.cellsOf 24=1:=by kernel_rfl
theorem k25:Tryz.prog.cellsOf 25=1:=by kernel_rfl
theorem k22:Tryz.prog.cellsOf 22=1:=by kernel_rfl
theorem k40:Tryz.prog.cellsOf 40=1:=by kernel_rfl
theorem k41:Tryz.prog.cellsOf 41=1:=by kernel_rfl
theorem k43:Tryz.prog.cellsOf 43=4:=by kernel_rfl
theorem k52:Tryz.prog.cellsOf 52=2:=by kernel_rfl
theorem k68:Tryz.prog.cellsOf 68=12:=by kernel_rfl
theorem k107:Tryz.prog.cellsOf 107=2:=by kernel_rfl
theorem k140:Tryz.prog.cellsOf 140=5:=by kernel_rfl
theorem k27:Tryz.prog.cellsOf 27=5:=by kernel_rfl
section
variable {H:Type} {enc:TypeId×Value→H} {w:World} {base:Nat} {held:Bool}
theorem rdSig {n:Nat} {cs:List Value} {x:DataW H×List MemPlace} (h:DataW.trod enc Tryz.prog w base (fun _=>true) held n 107 cs=some x):∃ v:Signal,VRels (KW w) (encSignal v) cs∧Fits v.name:=by
 obtain⟨m,rfl,hl,hf⟩:=rd_field Tryz.underlying107 h
 rw [k107] at hl
 match cs,hl with
 | [a,b],_=>
  obtain⟨y0,h0⟩:=hf 0 _ rfl
  obtain⟨y1,h1⟩:=hf 1 _ rfl
  have h0:DataW.trod enc Tryz.prog w base (fun _=>true) held m 9 (List.take (Tryz.prog.cellsOf 9) (List.drop 0 [a,b]))=some y0:=h0
  rw [k9] at h0
  have h1:DataW.trod enc Tryz.prog w base (fun _=>true) held m 3 (List.take (Tryz.prog.cellsOf 3) (List.drop 1 [a,b]))=some y1:=h1
  rw [k3] at h1
  obtain⟨s,rfl,hs⟩:=rd_str (c:=a) h0
  obtain⟨i,rfl⟩:=rd_int (c:=b) h1
  refine⟨⟨s.data.toList,i⟩,?_,hs⟩
  simp only [encSignal,VRels]
  exact⟨_,_,rfl,str_rel,_,_,rfl,by simp [VRel],rfl⟩
theorem rdFld {n:Nat} {cs:List Value} {x:DataW H×List MemPlace} (h:DataW.trod enc Tryz.prog w base (fun _=>true) held n 140 cs=some x):∃ v:Fld,VRels (KW w) (encFld v) cs∧Fits v.name:=by
 obtain⟨m,rfl,hl,hf⟩:=rd_field Tryz.underlying140 h
 rw [k140] at hl
 match cs,hl with
 | [a,b,c,d,e],_=>
  obtain⟨y0,h0⟩:=hf 0 _ rfl
  obtain⟨y1,h1⟩:=hf 1 _ rfl
  obtain⟨y2,h2⟩:=hf 2 _ rfl
  obtain⟨y3,h3⟩:=hf 3 _ rfl
  obtain⟨y4,h4⟩:=hf 4 _ rfl
  have h0:DataW.trod enc Tryz.prog w base (fun _=>true) held m 9 (List.take (Tryz.prog.cellsOf 9) (List.drop 0 [a,b,c,d,e]))=some y0:=h0
  rw [k9] at h0
  have h1:DataW.trod enc Tryz.prog w base (fun _=>true) held m 3 (List.take (Tryz.prog.cellsOf 3) (List.drop 1 [a,b,c,d,e]))=some y1:=h1
  rw [k3] at h1
  have h2:DataW.trod enc Tryz.prog w base (fun _=>true) held m 3 (List.take (Tryz.prog.cellsOf 3) (List.drop 2 [a,b,c,d,e]))=some y2:=h2
  rw [k3] at h2
  have h3:DataW.trod enc Tryz.prog w base (fun _=>true) held m 3 (List.take (Tryz.prog.cellsOf 3) (List.drop 3 [a,b,c,d,e]))=some y3:=h3
  rw [k3] at h3
  have h4:DataW.trod enc Tryz.prog w base (fun _=>true) held m 3 (List.take (Tryz.prog.cellsOf 3) (List.drop 4 [a,b,c,d,e]))=some y4:=h4
  rw [k3] at h4
  obtain⟨s,rfl,hs⟩:=rd_str (c:=a) h0
  obtain⟨i1,rfl⟩:=rd_int (c:=b) h1
  obtain⟨i2,rfl⟩:=rd_int (c:=c) h2
  obtain⟨i3,rfl⟩:=rd_int (c:=d) h3
  obtain⟨i4,rfl⟩:=rd_int (c:=e) h4
  refine⟨⟨s.data.toList,i1,i2,i3,i4⟩,?_,hs⟩
  simp only [encFld,VRels]
  exact⟨_,_,rfl,str_rel,_,_,rfl,by simp [VRel],_,_,rfl,by simp [VRel],_,_,rfl,by simp [VRel],_,_,rfl,by simp [VRel],rfl⟩
theorem rdStrs {n:Nat} {c:Value} {y:DataW H×List MemPlace} (h:DataW.trod enc Tryz.prog w base (fun _=>true) held n 23 [c]=some y):∃ l:List Str,VRel (KW w) (.sl 1 (l.map encStr) .none) c∧Fits l∧∀ s∈l,Fits s:=by
 cases n with
 | zero=>simp [DataW.trod] at h
 | succ m=>
  obtain⟨l,v,e,hv,hfl,hg⟩:=rd_slice (en:=encStr) (good:=fun s=>Fits s) Tryz.underlying23 k9 (by omega) (fun y=>by simp [AV.atom]) (fun cs x h=>by
   obtain⟨s,e,_,hs⟩:=DataW.trod_string Tryz.underlying9 h
   refine⟨s.data.toList,?_,?_⟩
   · rw [e];simp only [encStr,VRels];exact⟨_,_,rfl,str_rel,rfl⟩
   · have:s.data.toList.length=s.size:=Array.length_toList
     rw [Fits,this]
     simp only [maxLen] at hs
     omega) h
  cases e
  exact⟨l,hv,hfl,hg⟩
theorem rdIt:∀ (N n:Nat),n≤N→∀ {cs:List Value} {x:DataW H×List MemPlace},DataW.trod enc Tryz.prog w base (fun _=>true) held n 68 cs=some x→∃ v:It,VRels (KW w) (encI v) cs∧HoldI v:=by
 intro N
 induction N with
 | zero=>
  intro n hn cs x h
  have:n=0:=by omega
  subst this
  simp [DataW.trod] at h
 | succ N ih=>
  intro n hn cs x h
  obtain⟨m,rfl,hl,hf⟩:=rd_field Tryz.underlying68 h
  rw [k68] at hl
  match cs,hl with
  | [a0,a1,a2,a3,a4,a5,a6,a7,a8,a9,a10,a11],_=>
   obtain⟨y0,h0⟩:=hf 0 _ rfl
   have h0:DataW.trod enc Tryz.prog w base (fun _=>true) held m 3 (List.take (Tryz.prog.cellsOf 3) (List.drop 0 [a0,a1,a2,a3,a4,a5,a6,a7,a8,a9,a10,a11]))=some y0:=h0
   rw [k3] at h0
   obtain⟨y1,h1⟩:=hf 1 _ rfl
   have h1:DataW.trod enc Tryz.prog w base (fun _=>true) held m 55 (List.take (Tryz.prog.cellsOf 55) (List.drop 1 [a0,a1,a2,a3,a4,a5,a6,a7,a8,a9,a10,a11]))=some y1:=h1
   rw [k55] at h1
   obtain⟨y2,h2⟩:=hf 2 _ rfl
   have h2:DataW.trod enc Tryz.prog w base (fun _=>true) held m 9 (List.take (Tryz.prog.cellsOf 9) (List.drop 5 [a0,a1,a2,a3,a4,a5,a6,a7,a8,a9,a10,a11]))=some y2:=h2
   rw [k9] at h2
   obtain⟨y3,h3⟩:=hf 3 _ rfl
   have h3:DataW.trod enc Tryz.prog w base (fun _=>true) held m 9 (List.take (Tryz.prog.cellsOf 9) (List.drop 6 [a0,a1,a2,a3,a4,a5,a6,a7,a8,a9,a10,a11]))=some y3:=h3
   rw [k9] at h3
   obtain⟨y4,h4⟩:=hf 4 _ rfl
   have h4:DataW.trod enc Tryz.prog w base (fun _=>true) held m 66 (List.take (Tryz.prog.cellsOf 66) (List.drop 7 [a0,a1,a2,a3,a4,a5,a6,a7,a8,a9,a10,a11]))=some y4:=h4
   rw [k66] at h4
   obtain⟨y5,h5⟩:=hf 5 _ rfl
   have h5:DataW.trod enc Tryz.prog w base (fun _=>true) held m 24 (List.take (Tryz.prog.cellsOf 24) (List.drop 8 [a0,a1,a2,a3,a4,a5,a6,a7,a8,a9,a10,a11]))=some y5:=h5
   rw [k24] at h5
   obtain⟨y6,h6⟩:=hf 6 _ rfl
   have h6:DataW.trod enc Tryz.prog w base (fun _=>true) held m 24 (List.take (Tryz.prog.cellsOf 24) (List.drop 9 [a0,a1,a2,a3,a4,a5,a6,a7,a8,a9,a10,a11]))=some y6:=h6
   rw [k24] at h6
   obtain⟨y7,h7⟩:=hf 7 _ rfl
   have h7:DataW.trod enc Tryz.prog w base (fun _=>true) held m 23 (List.take (Tryz.prog.cellsOf 23) (List.drop 10 [a0,a1,a2,a3,a4,a5,a6,a7,a8,a9,a10,a11]))=some y7:=h7
   rw [k23] at h7
   obtain⟨y8,h8⟩:=hf 8 _ rfl
   have h8:DataW.trod enc Tryz.prog w base (fun _=>true) held m 23 (List.take (Tryz.prog.cellsOf 23) (List.drop 11 [a0,a1,a2,a3,a4,a5,a6,a7,a8,a9,a10,a11]))=some y8:=h8
   rw [k23] at h8
   obtain⟨i0,rfl⟩:=rd_int (c:=a0) h0
   have h1':DataW.trod enc Tryz.prog w base (fun _=>true) held m 55 [a1,a2,a3,a4]=some y1:=h1
   obtain⟨ex,re,ge⟩:=rdE m m (Nat.le_refl _) h1'
   obtain⟨s2,rfl,g2⟩:=rd_str (c:=a5) h2
   obtain⟨s3,rfl,g3⟩:=rd_str (c:=a6) h3
   have h4':DataW.trod enc Tryz.prog w base (fun _=>true) held m 66 [a7]=some y4:=h4
   have h5':DataW.trod enc Tryz.prog w base (fun _=>true) held m 24 [a8]=some y5:=h5
   have h6':DataW.trod enc Tryz.prog w base (fun _=>true) held m 24 [a9]=some y6:=h6
   obtain⟨l7,r7,f7,g7⟩:=rdStrs (c:=a10) h7
   obtain⟨l8,r8,f8,g8⟩:=rdStrs (c:=a11) h8
   cases m with
   | zero=>simp [DataW.trod] at h4'
   | succ m=>
    obtain⟨l4,v4,e4,r4,f4,_⟩:=rd_slice (en:=encWeight) (good:=fun _=>True) Tryz.underlying66 k155 (by omega) (fun y=>by simp [AV.atom]) (fun cs x h=>rdWeight h) h4'
    obtain⟨l5,v5,e5,r5,f5,g5⟩:=rd_slice (en:=encI) (good:=HoldI) Tryz.underlying24 k68 (by omega) (fun y=>⟨encI_atoms y,encI_len y⟩) (fun cs x h=>ih m (by omega) h) h5'
    obtain⟨l6,v6,e6,r6,f6,g6⟩:=rd_slice (en:=encI) (good:=HoldI) Tryz.underlying24 k68 (by omega) (fun y=>⟨encI_atoms y,encI_len y⟩) (fun cs x h=>ih m (by omega) h) h6'
    cases e4;cases e5;cases e6
    refine⟨.mk i0 ex s2.data.toList s3.data.toList l4 l5 l6 l7 l8,?_,?_⟩
    · rw [encI_eq]
      simp only [It.kind,It.expr,It.name,It.index,It.ws,It.items,It.els,It.before,It.after]
      rw [encE_eq] at re ⊢
      simp only [VRels] at re
      obtain⟨b1,t1,q1,re1,b2,t2,q2,re2,b3,t3,q3,re3,b4,t4,q4,re4,q5⟩:=re
      simp only [List.cons.injEq] at q1
      obtain⟨rfl,rfl⟩:=q1
      simp only [List.cons.injEq] at q2
      obtain⟨rfl,rfl⟩:=q2
      simp only [List.cons.injEq] at q3
      obtain⟨rfl,rfl⟩:=q3
      simp only [List.cons.injEq] at q4
      obtain⟨rfl,rfl⟩:=q4
      simp only [List.cons_append,List.nil_append,VRels]
      exact⟨_,_,rfl,by simp [VRel],_,_,rfl,re1,_,_,rfl,re2,_,_,rfl,re3,_,_,rfl,re4,_,_,rfl,str_rel,_,_,rfl,str_rel,_,_,rfl,r4,_,_,rfl,r5,_,_,rfl,r6,_,_,rfl,r7,_,_,rfl,r8,rfl⟩
    · intro y hy
      rw [preI_eq] at hy
      rcases List.mem_cons.1 hy with rfl|hy
      · exact⟨ge,g2,g3,f4,f5,f6,f7,f8,fun s hs=>by
         rcases List.mem_append.1 hs with hs|hs
         · exact g7 s hs
         · exact g8 s hs⟩
      · rcases List.mem_append.1 hy with hy|hy
        · obtain⟨b,hb,hyb⟩:=mem_preIL.1 hy
          exact g5 b hb y hyb
        · obtain⟨b,hb,hyb⟩:=mem_preIL.1 hy
          exact g6 b hb y hyb
theorem rdBlc {n:Nat} {cs:List Value} {x:DataW H×List MemPlace} (h:DataW.trod enc Tryz.prog w base (fun _=>true) held n 52 cs=some x):∃ b:Blc,VRels (KW w) (encBlc b) cs∧(Fits b.name∧Fits b.items∧∀ x∈b.items,HoldI x):=by
 obtain⟨m,rfl,hl,hf⟩:=rd_field Tryz.underlying52 h
 rw [k52] at hl
 match cs,hl with
 | [a,b],_=>
  obtain⟨y0,h0⟩:=hf 0 _ rfl
  obtain⟨y1,h1⟩:=hf 1 _ rfl
  have h0:DataW.trod enc Tryz.prog w base (fun _=>true) held m 9 (List.take (Tryz.prog.cellsOf 9) (List.drop 0 [a,b]))=some y0:=h0
  rw [k9] at h0
  have h1:DataW.trod enc Tryz.prog w base (fun _=>true) held m 24 (List.take (Tryz.prog.cellsOf 24) (List.drop 1 [a,b]))=some y1:=h1
  rw [k24] at h1
  obtain⟨s,rfl,hs⟩:=rd_str (c:=a) h0
  have h1':DataW.trod enc Tryz.prog w base (fun _=>true) held m 24 [b]=some y1:=h1
  cases m with
  | zero=>simp [DataW.trod] at h1'
  | succ m=>
   obtain⟨l,v,e,hv,hfl,hg⟩:=rd_slice (en:=encI) (good:=HoldI) Tryz.underlying24 k68 (by omega) (fun y=>⟨encI_atoms y,encI_len y⟩) (fun cs x h=>rdIt m m (Nat.le_refl _) h) h1'
   cases e
   refine⟨⟨s.data.toList,l⟩,?_,hs,hfl,hg⟩
   simp only [encBlc,VRels]
   exact⟨_,_,rfl,str_rel,_,_,rfl,hv,rfl⟩
theorem rdCls {n:Nat} {cs:List Value} {x:DataW H×List MemPlace} (h:DataW.trod enc Tryz.prog w base (fun _=>true) held n 43 cs=some x):∃ c:Cls,VRels (KW w) (encCls c) cs∧HoldC c:=by
 obtain⟨m,rfl,hl,hf⟩:=rd_field Tryz.underlying43 h
 rw [k43] at hl
 match cs,hl with
 | [a,b,c,d],_=>
  obtain⟨y0,h0⟩:=hf 0 _ rfl
  obtain⟨y1,h1⟩:=hf 1 _ rfl
  obtain⟨y2,h2⟩:=hf 2 _ rfl
  obtain⟨y3,h3⟩:=hf 3 _ rfl
  have h0:DataW.trod enc Tryz.prog w base (fun _=>true) held m 9 (List.take (Tryz.prog.cellsOf 9) (List.drop 0 [a,b,c,d]))=some y0:=h0
  rw [k9] at h0
  have h1:DataW.trod enc Tryz.prog w base (fun _=>true) held m 9 (List.take (Tryz.prog.cellsOf 9) (List.drop 1 [a,b,c,d]))=some y1:=h1
  rw [k9] at h1
  have h2:DataW.trod enc Tryz.prog w base (fun _=>true) held m 40 (List.take (Tryz.prog.cellsOf 40) (List.drop 2 [a,b,c,d]))=some y2:=h2
  rw [k40] at h2
  have h3:DataW.trod enc Tryz.prog w base (fun _=>true) held m 41 (List.take (Tryz.prog.cellsOf 41) (List.drop 3 [a,b,c,d]))=some y3:=h3
  rw [k41] at h3
  obtain⟨s0,rfl,g0⟩:=rd_str (c:=a) h0
  obtain⟨s1,rfl,g1⟩:=rd_str (c:=b) h1
  have h2':DataW.trod enc Tryz.prog w base (fun _=>true) held m 40 [c]=some y2:=h2
  have h3':DataW.trod enc Tryz.prog w base (fun _=>true) held m 41 [d]=some y3:=h3
  cases m with
  | zero=>simp [DataW.trod] at h2'
  | succ m=>
   obtain⟨l2,v2,e2,r2,f2,q2⟩:=rd_slice (en:=encFld) (good:=fun f=>Fits f.name) Tryz.underlying40 k140 (by omega) (fun y=>by simp [AV.atom]) (fun cs x h=>rdFld h) h2'
   obtain⟨l3,v3,e3,r3,f3,q3⟩:=rd_slice (en:=encBlc) (good:=fun b=>Fits b.name∧Fits b.items∧∀ x∈b.items,HoldI x) Tryz.underlying41 k52 (by omega) (fun y=>by simp [AV.atom]) (fun cs x h=>rdBlc h) h3'
   cases e2;cases e3
   refine⟨⟨s0.data.toList,s1.data.toList,l2,l3⟩,?_,⟨g0,g1,f2,f3,q2,q3⟩⟩
   simp only [encCls,VRels]
   exact⟨_,_,rfl,str_rel,_,_,rfl,str_rel,_,_,rfl,r2,_,_,rfl,r3,rfl⟩
theorem rdAsk {n:Nat} {cs:List Value} {x:DataW H×List MemPlace} (h:DataW.trod enc Tryz.prog w base (fun _=>true) held n 27 cs=some x):∃ q:Ask,VRels (KW w) (encAsk q) cs∧HoldA q:=by
 obtain⟨m,rfl,hl,hf⟩:=rd_field Tryz.underlying27 h
 rw [k27] at hl
 match cs,hl with
 | [a,b,c,d,e],_=>
  obtain⟨y0,h0⟩:=hf 0 _ rfl
  obtain⟨y1,h1⟩:=hf 1 _ rfl
  obtain⟨y2,h2⟩:=hf 2 _ rfl
  obtain⟨y3,h3⟩:=hf 3 _ rfl
  obtain⟨y4,h4⟩:=hf 4 _ rfl
  have h0:DataW.trod enc Tryz.prog w base (fun _=>true) held m 22 (List.take (Tryz.prog.cellsOf 22) (List.drop 0 [a,b,c,d,e]))=some y0:=h0
  rw [k22] at h0
  have h1:DataW.trod enc Tryz.prog w base (fun _=>true) held m 9 (List.take (Tryz.prog.cellsOf 9) (List.drop 1 [a,b,c,d,e]))=some y1:=h1
  rw [k9] at h1
  have h2:DataW.trod enc Tryz.prog w base (fun _=>true) held m 23 (List.take (Tryz.prog.cellsOf 23) (List.drop 2 [a,b,c,d,e]))=some y2:=h2
  rw [k23] at h2
  have h3:DataW.trod enc Tryz.prog w base (fun _=>true) held m 24 (List.take (Tryz.prog.cellsOf 24) (List.drop 3 [a,b,c,d,e]))=some y3:=h3
  rw [k24] at h3
  have h4:DataW.trod enc Tryz.prog w base (fun _=>true) held m 25 (List.take (Tryz.prog.cellsOf 25) (List.drop 4 [a,b,c,d,e]))=some y4:=h4
  rw [k25] at h4
  obtain⟨s1,rfl,g1⟩:=rd_str (c:=b) h1
  obtain⟨l2,r2,f2,g2⟩:=rdStrs (c:=c) h2
  have h0':DataW.trod enc Tryz.prog w base (fun _=>true) held m 22 [a]=some y0:=h0
  have h3':DataW.trod enc Tryz.prog w base (fun _=>true) held m 24 [d]=some y3:=h3
  have h4':DataW.trod enc Tryz.prog w base (fun _=>true) held m 25 [e]=some y4:=h4
  cases m with
  | zero=>simp [DataW.trod] at h0'
  | succ m=>
   obtain⟨l0,v0,e0,r0,f0,g0⟩:=rd_slice (en:=encCls) (good:=HoldC) Tryz.underlying22 k43 (by omega) (fun y=>by simp [AV.atom]) (fun cs x h=>rdCls h) h0'
   obtain⟨l3,v3,e3,r3,f3,g3⟩:=rd_slice (en:=encI) (good:=HoldI) Tryz.underlying24 k68 (by omega) (fun y=>⟨encI_atoms y,encI_len y⟩) (fun cs x h=>rdIt m m (Nat.le_refl _) h) h3'
   obtain⟨l4,v4,e4,r4,f4,g4⟩:=rd_slice (en:=encSignal) (good:=fun s=>Fits s.name) Tryz.underlying25 k107 (by omega) (fun y=>by simp [AV.atom]) (fun cs x h=>rdSig h) h4'
   cases e0;cases e3;cases e4
   refine⟨⟨l0,s1.data.toList,l2,l3,l4⟩,?_,⟨f0,g0,g1,f2,g2,f3,g3,f4,g4⟩⟩
   simp only [encAsk,VRels]
   exact⟨_,_,rfl,r0,_,_,rfl,str_rel,_,_,rfl,r2,_,_,rfl,r3,_,_,rfl,r4,rfl⟩
end
end
def sizeIS (l:List It):Int:=IntKind.i64.wrap (preIL l).length
def blankE (e:Ex):Bool:=decide (e.op=0)&&decide (e.n=0)&&decide (e.name=[])&&decide (e.args=[])
def knownK (k:Int):Bool:=decide (1≤k)&&decide (k≤6)
def exprK (k:Int):Bool:=decide (k=1∨k=2∨k=4)
def nameK (k:Int):Bool:=decide (k=3∨k=5)
def plainI (x:It):Bool :=
 (exprK x.kind||blankE x.expr)&&(nameK x.kind||decide (x.name=[]))&&(decide (x.kind=5)||decide (x.index=[]))&&(decide (x.kind=3)||decide (x.ws=[])) &&
 (decide (x.kind=4∨x.kind=5)||decide (x.items=[]))&&(decide (x.kind=4)||decide (x.els=[]))&&(decide (x.kind=6)||(decide (x.before=[])&&decide (x.after=[])))
def weightsE (l:List Weight):Int:=if 16<l.length then 2 else if l=[] then 1 else if l.any weightB=true then 1 else 0
noncomputable def shapeE (x:It) (d:Nat):Int :=
 if knownK x.kind=false∨plainI x=false∨4<d∨(0<d∧(x.kind=3∨x.kind=6)) then 1
 else if x.kind=3 then (if weightsE x.ws≠0 then weightsE x.ws else if varS x.name=false then 7 else 0)
 else if x.kind=6 then (if x.before=[]∨x.after=[] then 1 else if (x.before++x.after).any (fun s=>!varS s)=true then 7 else 0)
 else if x.kind=5 then (if nameS x.name=false∨nameS x.index=false then 7 else 0)
 else validE x.expr
structure Place where
 depth:Nat
 bound:List Str
def innerD (x:It) (p:Place):Place:=if x.kind=4∨x.kind=5 then ⟨p.depth+1,p.bound⟩ else p
def innerP (x:It) (p:Place):Place:=if x.kind=5 then ⟨p.depth+1,p.bound++[x.index]⟩ else innerD x p
mutual
def visI:Place→It→List (It×Place)
 | p,.mk k e n i w l m b a=>(.mk k e n i w l m b a,p)::(visIs (innerP (.mk k e n i w l m b a) p) l++visIs (innerD (.mk k e n i w l m b a) p) m)
def visIs:Place→List It→List (It×Place)
 | _,[]=>[]
 | p,x::r=>visI p x++visIs p r
end
theorem visI_eq (p:Place) (x:It):visI p x=(x,p)::(visIs (innerP x p) x.items++visIs (innerD x p) x.els):=by cases x;simp [visI,It.items,It.els]
@[simp] theorem visIs_nil {p:Place}:visIs p []=[]:=by simp [visIs]
@[simp] theorem visIs_cons {p:Place} {x:It} {r:List It}:visIs p (x::r)=visI p x++visIs p r:=by simp [visIs]
theorem visIs_append {p:Place}:∀ {l m:List It},visIs p (l++m)=visIs p l++visIs p m
 | [],m=>by simp
 | x::r,m=>by simp [visIs_append (l:=r),List.append_assoc]
theorem mem_visIs {p:Place} {l:List It} {y:It×Place}:y∈visIs p l↔∃ x∈l,y∈visI p x:=by
 induction l with
 | nil=>simp
 | cons x r ih=>simp [ih]
theorem visI_self (p:Place) (x:It):(x,p)∈visI p x:=by rw [visI_eq];simp
noncomputable def validI (l:List It):Int:=if 64<sizeIS l then 2 else firstE (fun y=>shapeE y.1 y.2.depth) (visIs ⟨0,[]⟩ l)
abbrev Flds:=Str→Option Int
def fldsOf (c:Cls):Flds:=fun s=>(c.fields.find? fun f=>f.name==s).map Fld.size
noncomputable def varF (F:Flds) (s:Str):Int:=match F s with
 | some n=>if 0<n then 9 else 0
 | none=>match elemO s with
  | some (a,i)=>(match F a with | some n=>if n=0 then 9 else if n≤i then 7 else 0 | none=>7)
  | none=>7
def arrF (F:Flds) (s:Str):Int:=match F s with
 | some n=>if n=0 then 9 else 0
 | none=>7
noncomputable def eitherF (F:Flds) (s:Str):Int:=if (F s).isSome=true∨varF F s=0 then 0 else 7
noncomputable def nodeF (F:Flds) (b:List Str) (e:Ex):Int :=
 if e.op=2 then (if b.contains e.name=true then 0 else varF F e.name) else if e.op=3∨e.op=24 then arrF F e.name else 0
noncomputable def exprF (F:Flds) (b:List Str) (e:Ex):Int:=firstE (nodeF F b) (pre e)
noncomputable def consE (F:Flds) (x:It) (b:List Str):Int :=
 if x.kind=3 then eitherF F x.name
 else if x.kind=6 then firstE (eitherF F) (x.before++x.after)
 else if x.kind=5 then (if arrF F x.name≠0 then arrF F x.name else if (F x.index).isSome=true∨b.contains x.index=true then 8 else 0)
 else exprF F b x.expr
noncomputable def checkI (F:Flds) (l:List It):Int:=if validI l≠0 then validI l else firstE (fun y=>consE F y.1 y.2.bound) (visIs ⟨0,[]⟩ l)
mutual
def substE (s:Str) (by':Ex):Ex→Ex
 | .mk o n t a=>if o=2∧t=s then by' else .mk o n t (substEs s by' a)
def substEs (s:Str) (by':Ex):List Ex→List Ex
 | []=>[]
 | e::r=>substE s by' e::substEs s by' r
end
@[simp] theorem substEs_eq (s:Str) (b:Ex):∀ l,substEs s b l=l.map (substE s b)
 | []=>by simp [substEs]
 | e::r=>by simp [substEs,substEs_eq s b r]
theorem substE_eq (s:Str) (b e:Ex):substE s b e=if e.op=2∧e.name=s then b else .mk e.op e.n e.name (e.args.map (substE s b)):=by
 cases e;simp only [substE,substEs_eq];rfl
mutual
def substI (s:Str) (b:Ex):It→It
 | .mk k e n i w l m x y=>.mk k (substE s b e) n i w (substIs s b l) (substIs s b m) x y
def substIs (s:Str) (b:Ex):List It→List It
 | []=>[]
 | x::r=>substI s b x::substIs s b r
end
@[simp] theorem substIs_eq (s:Str) (b:Ex):∀ l,substIs s b l=l.map (substI s b)
 | []=>by simp [substIs]
 | e::r=>by simp [substIs,substIs_eq s b r]
theorem substI_eq (s:Str) (b:Ex) (x:It):substI s b x=.mk x.kind (substE s b x.expr) x.name x.index x.ws (x.items.map (substI s b)) (x.els.map (substI s b)) x.before x.after:=by
 cases x;simp only [substI,substIs_eq];rfl
def zEx:Ex:=.mk 0 0 [] []
def underE (c:Option Ex) (op:Int) (e:Ex):Ex:=match c with
 | none=>e
 | some q=>.mk op 0 [] [q,e]
def notE (e:Ex):Ex:=.mk 4 0 [] [e]
def exprI (k:Int) (e:Ex):It:=.mk k e [] [] [] [] [] [] []
def expandI (F:Flds):Nat→Option Ex→It→List It
 | 0,_,_=>[]
 | h+1,c,x=>
  if x.kind=1∨x.kind=2 then [exprI x.kind (substE [] zEx (underE c 21 x.expr))]
  else if x.kind=4 then x.items.flatMap (expandI F h (some (underE c 19 x.expr)))++x.els.flatMap (expandI F h (some (underE c 19 (notE x.expr))))
  else if x.kind=5 then (List.range ((F x.name).getD 0).toNat).flatMap fun (k:Nat)=>(x.items.map (substI x.index (.mk 1 (k:Int) [] []))).flatMap (expandI F h c)
  else if x.kind=3 then [.mk 3 zEx x.name [] x.ws [] [] [] []]
  else if x.kind=6 then [.mk 6 zEx [] [] [] [] [] x.before x.after]
  else []
def expandL (F:Flds) (h:Nat) (c:Option Ex) (l:List It):List It:=l.flatMap (expandI F h c)
def asksK (k:Int):Bool:=decide (k=1∨k=2)
noncomputable def expandE (F:Flds) (l:List It):Int :=
 if checkI F l≠0 then checkI F l
 else if 400<(expandL F 6 none l).length then 2
 else if (expandL F 6 none l).any (fun x=>asksK x.kind&&!decide (validE x.expr=0))=true then 2
 else 0
noncomputable def expandS (F:Flds) (l:List It):List It:=if expandE F l≠0 then [] else expandL F 6 none l
end Go.Proofs.YtpgcmnabljandaaGreatDoor
end
