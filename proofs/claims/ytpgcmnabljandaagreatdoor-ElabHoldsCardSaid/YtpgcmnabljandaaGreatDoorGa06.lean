/- A part of the proof: AbsMapIter AbsSem8 AbsCtl. -/
import Derived.Test.YtpgcmnabljandaaGreatDoorGa05
set_option linter.unusedVariables false
set_option linter.unusedSimpArgs false
section
namespace Go.Abs
open Go Go.RowKit
inductive F2 {α β:Type} (R:α→β→Prop):List α→List β→Prop
 | nil:F2 R [] []
 | cons {a:α} {b:β} {l:List α} {m:List β} (h:R a b) (t:F2 R l m):F2 R (a::l) (b::m)
namespace F2
variable {α β γ δ:Type} {R:α→β→Prop} {S:γ→δ→Prop}
theorem len:∀ {l:List α} {m:List β},F2 R l m→l.length=m.length
 | _,_,.nil=>rfl
 | _,_,.cons _ t=>by simp [t.len]
theorem filter {p:α→Bool} {q:β→Bool} (hpq:∀ a b,R a b→p a=q b):∀ {l:List α} {m:List β},F2 R l m→F2 R (l.filter p) (m.filter q)
 | _,_,.nil=>.nil
 | _,_,.cons (a:=a) (b:=b) h t=>by
  have e:=hpq a b h
  simp only [List.filter_cons,e]
  split
  · exact .cons h (filter hpq t)
  · exact filter hpq t
theorem append:∀ {l l':List α} {m m':List β},F2 R l m→F2 R l' m'→F2 R (l++l') (m++m')
 | _,_,_,_,.nil,k=>k
 | _,_,_,_,.cons h t,k=>.cons h (append t k)
theorem map {f:α→γ} {g:β→δ} (hfg:∀ a b,R a b→S (f a) (g b)):∀ {l:List α} {m:List β},F2 R l m→F2 S (l.map f) (m.map g)
 | _,_,.nil=>.nil
 | _,_,.cons h t=>.cons (hfg _ _ h) (map hfg t)
theorem get:∀ {l:List α} {m:List β},F2 R l m→∀ {j:Nat} {b:β},m[j]?=some b→∃ a,l[j]?=some a∧R a b
 | _,_,.nil,_,_,e=>by simp at e
 | _,_,.cons h t,j,b,e=>by
  cases j with
  | zero=>simp at e;subst e;exact⟨_,rfl,h⟩
  | succ j=>simp at e;obtain⟨a,h1,h2⟩:=get t e;exact⟨a,by simpa using h1,h2⟩
theorem all {p:α→Bool} {q:β→Bool} (hpq:∀ a b,R a b→p a=q b):∀ {l:List α} {m:List β},F2 R l m→l.all p=m.all q
 | _,_,.nil=>rfl
 | _,_,.cons h t=>by simp [hpq _ _ h,all hpq t]
theorem of_get:∀ {l:List α} {m:List β},l.length=m.length→(∀ (i:Nat) (a:α),l[i]?=some a→∃ b,m[i]?=some b∧R a b)→F2 R l m
 | [],[],_,_=>.nil
 | a::l,b::m,hl,h=>by
  obtain⟨b',e,hr⟩:=h 0 a rfl
  simp at e;subst e
  exact .cons hr (of_get (by simpa using hl) fun i a e=>by
   obtain⟨b',e',hr'⟩:=h (i+1) a (by simpa using e)
   exact⟨b',by simpa using e',hr'⟩)
 | [],_::_,hl,_=>by simp at hl
 | _::_,[],hl,_=>by simp at hl
end F2
section
variable {P:Program} {G:Nat→AV} {w0:World} {ro0:Nat→Nat→Option Value} {K:Kn} {σ:St} {w w':World} {N:Nat} {env:Env} {a:Act}
theorem mrange_sound (h:WRel G w0 ro0 K σ w) {t kt et:Nat} {x:Value} {b:Nat} (hu:P.underlying t=some (.map kt et)) (hx:VRel K (.map b) x) {es:List (AV×AV×Nat)} {clock:Nat} (hb:σ.H[b]?=some (.map es clock)) :
 Ran P G w0 ro0 K w (Instr.range t x) (.iter σ.H.length) (σ.push (.miter (some b) clock [] clock)):=by
 simp only [VRel] at hx
 obtain⟨B,hm,rfl⟩:=hx
 obtain⟨B',g1,g2,g3,⟨es',g4,g5,g6⟩,g8⟩:=h.blk b _ hb
 rw [hm] at g1;cases g1
 have hle:=Kn.le_addM h w.heap.size (objSize (Obj.mapIter (some B) clock #[] clock))
 refine⟨.pointer (some ⟨w.heap.size,0,none⟩),w.alloc (.mapIter (some B) clock #[] clock),K.addM σ.H.length w.heap.size (objSize _),?_,hle,h.push ?_,?_⟩
 · simp [Instr.range,run_underlying hu,getObj,Sem.run,g4]
 · simp only [BlkRel];exact⟨some B,rfl,B,hm,rfl⟩
 · simp only [VRel];exact⟨w.heap.size,by simp [Kn.addM],rfl⟩
theorem mrange_nil (h:WRel G w0 ro0 K σ w) {t kt et:Nat} {x:Value} (hu:P.underlying t=some (.map kt et)) (hx:VRel K .nilm x) :
 Ran P G w0 ro0 K w (Instr.range t x) (.iter σ.H.length) (σ.push (.miter none 0 [] 0)):=by
 simp only [VRel] at hx
 subst hx
 refine⟨.pointer (some ⟨w.heap.size,0,none⟩),w.alloc (.mapIter none 0 #[] 0),K.addM σ.H.length w.heap.size (objSize _),?_,Kn.le_addM h _ _,h.push ?_,?_⟩
 · simp [Instr.range,run_underlying hu]
 · simp only [BlkRel];exact⟨none,rfl,rfl⟩
 · simp only [VRel];exact⟨w.heap.size,by simp [Kn.addM],rfl⟩
theorem choose_next (P:Program) (w:World) {n:Nat} (hn:0<n):∃ (j:Nat) (w1:World),j<n∧(w1=w∨w1=w.drew)∧(choose (Question.mapNext n)).run P w=.ok j w1:=by
 by_cases hf:n≤1
 · exact⟨0,w,by omega,Or.inl rfl,by simp [choose,Sem.run,Question.forced,hf]⟩
 · exact⟨_,w.drew,Nat.mod_lt _ (by omega),Or.inr rfl,by
    simp only [choose,Sem.run,Question.forced,decide_eq_true_eq,hf,if_false,Question.cut]
    rfl⟩
def ERelM (K:Kn) (e:AV×AV×Nat) (e':MapEntry):Prop:=VRel K e.1 e'.key∧VRel K e.2.1 e'.val∧e'.born=e.2.2
theorem nexts_sound (h:WRel G w0 ro0 K σ w) {t:Nat} {x:Value} {a:AV} {l:List (AV×St)} (hx:VRel K a x) (hf:nextsA σ a=some l):∃ v σ',(v,σ')∈l∧Ran P G w0 ro0 K w (Instr.next x false t) v σ':=by
 unfold nextsA at hf
 split at hf
 case h_2=>cases hf
 rename_i b
 simp only [VRel] at hx
 obtain⟨B,hm,rfl⟩:=hx
 split at hf
 · rename_i s1 s2 s3 hb
   simp only [Option.some.injEq] at hf
   subst hf
   obtain⟨B',h1,hB0,hBl,h4,_⟩:=h.blk b _ hb
   rw [hm] at h1;cases h1
   obtain⟨mB,h5,h6⟩:=h4
   simp only at h6
   subst h6
   refine⟨_,_,List.mem_singleton.2 rfl,.tuple #[.bool false],w,K,?_,Kn.le_refl K,h,by simp [VRel,VRels]⟩
   simp [Instr.next,getObj,Sem.run,h5]
 · rename_i mb since seen last hb
   obtain⟨B',h1,hB0,hBl,h4,_⟩:=h.blk b _ hb
   rw [hm] at h1;cases h1
   obtain⟨mB,h5,h6⟩:=h4
   simp only at h6
   obtain⟨M,hmM,rfl⟩:=h6
   have hbl:b<σ.H.length:=(List.getElem?_eq_some_iff.1 hb).1
   split at hf
   case h_2=>cases hf
   rename_i es clock hes
   split at hf
   · cases hf
   rename_i hcond
   simp only [Option.some.injEq] at hf
   obtain⟨M',g1,g2,g3,⟨es',g4,g5,g6⟩,g8⟩:=h.blk mb _ hes
   rw [hmM] at g1;cases g1
   have hF:F2 (ERelM K) es es'.toList:=F2.of_get (by simpa using g5.symm) fun i e he=>by
    obtain⟨k,v,n⟩:=e
    obtain⟨e',k1,k2,k3,k4⟩:=g6 i k v n he
    exact⟨e',by simpa using k1,k2,k3,k4⟩
   have hborn:∀ (a:AV×AV×Nat) (b:MapEntry),ERelM K a b→a.2.2=b.born:=fun a b hab=>hab.2.2.symm
   let left':=es'.filter fun e=>!seen.toArray.contains e.born
   have hleft:F2 (ERelM K) (es.filter fun e=>!seen.contains e.2.2) left'.toList:=by
    have:=hF.filter (p:=fun e=>!seen.contains e.2.2) (q:=fun e=>!seen.toArray.contains e.born) (fun a b hab=>by simp [hborn a b hab])
    simpa [left'] using this
   have hold:F2 (ERelM K) ((es.filter fun e=>!seen.contains e.2.2).filter fun e=>decide (e.2.2<since)) (left'.filter (fun e=>decide (e.born<since))).toList:=by
    have:=hleft.filter (p:=fun e=>decide (e.2.2<since)) (q:=fun e=>decide (e.born<since)) (fun a b hab=>by simp [hborn a b hab])
    simpa using this
   have hnew:F2 (ERelM K) ((es.filter fun e=>!seen.contains e.2.2).filter fun e=>decide (since≤e.2.2)) (left'.filter (fun e=>decide (e.born≥since))).toList:=by
    have:=hleft.filter (p:=fun e=>decide (since≤e.2.2)) (q:=fun e=>decide (e.born≥since)) (fun a b hab=>by simp [hborn a b hab])
    simpa using this
   have hc':(!seen.toArray.isEmpty&&!es'.isEmpty&&es'.all (fun e=>decide (e.born≥last)))=false:=by
    have hall:es.all (fun e=>decide (last≤e.2.2))=es'.toList.all (fun e=>decide (e.born≥last)):=hF.all (fun a b hab=>by simp [hborn a b hab])
    have hemp:es.isEmpty=es'.isEmpty:=by
     cases es with
     | nil=>simp at g5;simp [Array.isEmpty,g5]
     | cons e r=>simp at g5;simp [Array.isEmpty,g5]
    rw [← Bool.not_eq_true]
    intro hh
    simp only [Bool.and_eq_true,Bool.not_eq_true'] at hh
    exact hcond ⟨by simpa using hh.1.1,by rw [hemp];exact hh.1.2,by rw [hall];simpa using hh.2⟩
   generalize holdE:((es.filter fun e=>!seen.contains e.2.2).filter fun e=>decide (e.2.2<since))=old at hf hold
   generalize hnewE:((es.filter fun e=>!seen.contains e.2.2).filter fun e=>decide (since≤e.2.2))=new at hf hnew
   let cand:Array (Option MapEntry):=(if (left'.filter (fun e=>decide (e.born<since))).isEmpty then #[none] else #[])++((left'.filter (fun e=>decide (e.born<since)))++(left'.filter (fun e=>decide (e.born≥since)))).map some
   have hoe:(left'.filter (fun e=>decide (e.born<since))).isEmpty=old.isEmpty:=by
    have aux:∀ (A:Array MapEntry) (o:List (AV×AV×Nat)),o.length=A.toList.length→A.isEmpty=o.isEmpty:=by
     intro A o h
     rcases A with ⟨a⟩
     cases a<;>cases o<;>simp_all [Array.isEmpty]
    exact aux _ _ hold.len
   have hcand:F2 (fun (o:AV×St) (c:Option MapEntry)=>match c with
    | none=>o=(.tup [.bool false],σ)
    | some e=>∃ e0,ERelM K e0 e∧o=(.tup [.bool true,e0.1,e0.2.1],{ σ with H:=σ.H.set b (.miter (some mb) since (seen++[e0.2.2]) clock) })) l cand.toList:=by
    subst hf
    simp only [cand,Array.toList_append,Array.toList_map]
    refine F2.append ?_ ((hold.append hnew).map fun a b hab=>⟨a,hab,rfl⟩)
    rw [hoe]
    split
    · exact .cons rfl .nil
    · exact .nil
   have hsz:0<cand.size:=by
    simp only [cand,Array.size_append,Array.size_map]
    cases hE:(left'.filter (fun e=>decide (e.born<since))).isEmpty
    · have:(left'.filter (fun e=>decide (e.born<since))).size≠0:=by
       intro h0
       simp [Array.isEmpty,h0] at hE
      omega
    · simp;omega
   obtain⟨j,w1,hj,hal,hrun⟩:=choose_next P w hsz
   have hw1:WRel G w0 ro0 K σ w1:=by rcases hal with rfl | rfl;exact h;exact h.drew
   have hB1:w1.heap[B]?=some (.mapIter (some M) since seen.toArray last):=by rcases hal with rfl | rfl<;>exact h5
   have hBl1:B<w1.heap.size:=(Array.getElem?_eq_some_iff.1 hB1).1
   obtain⟨o,ho,hrel⟩:=hcand.get (j:=j) (b:=cand[j]) (by simp [hj])
   have hcj:cand[j]?=some cand[j]:=Array.getElem?_eq_getElem hj
   have hmem:=List.mem_of_getElem? ho
   obtain⟨v,σ'⟩:=o
   refine⟨v,σ',hmem,?_⟩
   have hstep:(Instr.next (.pointer (some ⟨B,0,none⟩)) false t).run P w=((match cand[j]? with
    | some (some e)=>do
     setObj B (.mapIter (some M) since (seen.toArray.push e.born) clock)
     pure (.tuple #[.bool true,e.key,e.val])
    | some none=>pure (.tuple #[.bool false])
    | none => stuck "Next: no such candidate" : Sem Value)).run P w1 := by
    simp only [Instr.next,getObj,Sem.run_bind,Sem.run,h5,g4,Result.andThen_ok,hc',Bool.false_eq_true,if_false]
    show ((choose (Question.mapNext cand.size)).run P w).andThen _=_
    rw [hrun]
    rfl
   cases hc:cand[j] with
   | none=>
    rw [hc] at hrel hcj
    simp only at hrel
    obtain⟨rfl,rfl⟩:=Prod.mk.injEq ..▸hrel
    refine⟨.tuple #[.bool false],w1,K,?_,Kn.le_refl K,hw1,by simp [VRel,VRels]⟩
    rw [hstep,hcj]
    rfl
   | some e=>
    rw [hc] at hrel hcj
    simp only at hrel
    obtain⟨e0,⟨k1,k2,k3⟩,heq⟩:=hrel
    obtain⟨rfl,rfl⟩:=Prod.mk.injEq ..▸heq
    refine⟨.tuple #[.bool true,e.key,e.val],{ w1 with heap:=w1.heap.setIfInBounds B (.mapIter (some M) since (seen.toArray.push e.born) clock) },K,?_,Kn.le_refl K,?_,?_⟩
    · rw [hstep,hcj]
      simp [setObj,Sem.run,hB1]
    · refine hw1.setBlk (B:=B) hbl hm rfl rfl rfl (by simp) (fun k hk=>by simp [Array.getElem?_setIfInBounds_ne (Ne.symm hk)]) ?_ (by rw [hb];simp) (fun cs2 el2 fr2 e2=>by simp [hBl1] at e2) (fun cs2 el2 fr2 e2=>by simp [hBl1] at e2)
      simp only [BlkRel]
      refine⟨some M,?_,M,hmM,rfl⟩
      simp [hBl1,k3]
    · simp only [VRel]
      exact⟨_,rfl,by simp only [VRels,VRel];exact⟨_,_,rfl,rfl,_,_,rfl,k1,_,_,rfl,k2,rfl⟩⟩
 · cases hf
end
end Go.Abs
end
section
namespace Go.Abs
open Go Go.RowKit
section
section
variable {P:Program} {G:Nat→AV} {w0:World} {ro0:Nat→Nat→Option Value} {K:Kn} {σ:St} {w w':World} {N:Nat} {env:Env} {a:Act}
theorem range_sound (h:WRel G w0 ro0 K σ w) {t:Nat} {x:Value} {s:List UInt8} (hu:P.underlying t=some .string) (hx:VRel K (.str s) x):Ran P G w0 ro0 K w (Instr.range t x) (.iter σ.H.length) (σ.push (.siter s 0)):=by
 simp only [VRel] at hx
 subst hx
 refine⟨.pointer (some ⟨w.heap.size,0,none⟩),w.alloc (.stringIter ⟨s.toArray⟩ 0),K.addM σ.H.length w.heap.size (objSize _),?_,Kn.le_addM h _ _,h.push ?_,?_⟩
 · simp [Instr.range,run_underlying hu]
 · simp [BlkRel]
 · simp only [VRel];exact⟨w.heap.size,by simp [Kn.addM],rfl⟩
theorem next_sound (h:WRel G w0 ro0 K σ w) {t:Nat} {x:Value} {a:AV} {v:AV} {σ':St} (hx:VRel K a x) (hf:nextA σ a=some (v,σ')):Ran P G w0 ro0 K w (Instr.next x true t) v σ':=by
 unfold nextA at hf
 split at hf
 · rename_i b
   split at hf
   · rename_i s pos hb
     simp only [VRel] at hx
     obtain⟨B,hm,rfl⟩:=hx
     obtain⟨B',h1,hB0,hBl,h4,_⟩:=h.blk b _ hb
     rw [hm] at h1;cases h1
     simp only [BlkRel] at h4
     have hbl:b<σ.H.length:=(List.getElem?_eq_some_iff.1 hb).1
     split at hf
     · rename_i hp
       simp only [Option.some.injEq,Prod.mk.injEq] at hf
       obtain⟨rfl,rfl⟩:=hf
       have hp':pos<(ByteArray.mk s.toArray).size:=by simpa [ByteArray.size] using hp
       refine⟨.tuple #[.bool true,.int .i64 pos,.int .i32 (Utf8.decode ⟨s.toArray⟩ pos).1],{ w with heap:=w.heap.setIfInBounds B (.stringIter ⟨s.toArray⟩ (pos+(Utf8.decode ⟨s.toArray⟩ pos).2)) },K,?_,Kn.le_refl K,?_,?_⟩
       · simp [Instr.next,getObj,setObj,Sem.run,h4,hp',goInt]
       · refine h.setBlk (B:=B) hbl hm rfl rfl rfl (by simp) (fun k hk=>by simp [Array.getElem?_setIfInBounds_ne (Ne.symm hk)]) ?_ (by rw [hb];simp) (fun cs2 el2 fr2 e2=>by simp [hBl] at e2) (fun cs2 el2 fr2 e2=>by simp [hBl] at e2)
         simp [BlkRel,hBl]
       · simp [VRel,VRels]
     · rename_i hp
       simp only [Option.some.injEq,Prod.mk.injEq] at hf
       obtain⟨rfl,rfl⟩:=hf
       have hp':¬ pos<(ByteArray.mk s.toArray).size:=by simpa [ByteArray.size] using hp
       refine⟨.tuple #[.bool false],w,K,?_,Kn.le_refl K,h,?_⟩
       · simp [Instr.next,getObj,Sem.run,h4,hp']
       · simp [VRel,VRels]
   · cases hf
 · cases hf
def Did (P:Program) (G:Nat→AV) (w0:World) (ro0:Nat→Nat→Option Value) (K:Kn) (w:World) (s:Sem Next) (v:AV) (σ':St):Prop :=
 ∃ v' w' K',(s.run P w=.ok (.value v') w'∨(s.run P w=.ok .skip w'∧v'=undef))∧K.le K'∧WRel G w0 ro0 K' σ' w'∧VRel K' v v'
theorem Did.of_ran {s:Sem Value} {v:AV} {σ':St} (h:Ran P G w0 ro0 K w s v σ'):Did P G w0 ro0 K w (do pure (.value (← s))) v σ':=by
 obtain⟨v',w',K',h1,h2,h3,h4⟩:=h
 exact⟨v',w',K',.inl (by simp [h1]),h2,h3,h4⟩
theorem Did.of_same (h:WRel G w0 ro0 K σ w) {s:Sem Value} {v:AV} (hr:∃ v',s.run P w=.ok v' w∧VRel K v v'):Did P G w0 ro0 K w (do pure (.value (← s))) v σ:=by
 obtain⟨v',h1,h2⟩:=hr
 exact Did.of_ran (Ran.same h h1 h2)
theorem Did.of_unit {s:Sem Unit} {σ':St} (hr:∃ w',s.run P w=.ok () w'∧WRel G w0 ro0 K σ' w'):Did P G w0 ro0 K w (do s;pure .skip) (.tup []) σ':=by
 obtain⟨w',h1,h2⟩:=hr
 exact⟨undef,w',K,.inr ⟨by simp [h1],rfl⟩,Kn.le_refl K,h2,by simp only [VRel];exact⟨#[],rfl,by simp [VRels]⟩⟩
theorem parts_rel (hw:WRel G w0 ro0 K σ w) (he:ERel K N env a) (ps:Array (Nat×Operand)) :
 (ps.map fun (i,x)=>(i,a.eval x)).toList.map (·.1)=(ps.toList.map fun p=>(p.1,ev G env p.2)).map (·.1) ∧
   VRels K ((ps.toList.map fun p=>(p.1,ev G env p.2)).map (·.2)) ((ps.map fun (i,x)=>(i,a.eval x)).toList.map (·.2)):=by
 constructor
 · simp
 · have:=opds_rel hw he (ps.toList.map (·.2))
   simpa [opds,Function.comp_def] using this
theorem sem_sound (hw:WRel G w0 ro0 K σ w) (he:ERel K N env a) (o:Oper) {v:AV} {σ':St} (h:sem (Dof P) G env σ o.op=some (v,σ')) :
 Did P G w0 ro0 K w (execOp a.eval o) v σ':=by
 have ex:=ev_rel hw he
 obtain⟨dst,op,type,pos,after,guard⟩:=o
 simp only at h
 cases op<;>simp only [sem] at h
 case move x=>
  simp only [Option.some.injEq,Prod.mk.injEq] at h
  obtain⟨rfl,rfl⟩:=h
  exact⟨a.eval x,w,K,.inl rfl,Kn.le_refl K,hw,ex x⟩
 case assign x=>
  simp only [Option.some.injEq,Prod.mk.injEq] at h
  obtain⟨rfl,rfl⟩:=h
  exact⟨a.eval x,w,K,.inl rfl,Kn.le_refl K,hw,ex x⟩
 case pick c x y=>
  split at h
  · rename_i b hb
    simp only [Option.some.injEq,Prod.mk.injEq] at h
    obtain⟨rfl,rfl⟩:=h
    have hc:=ex c
    rw [hb] at hc
    simp only [VRel] at hc
    refine⟨if b then a.eval x else a.eval y,w,K,.inl ?_,Kn.le_refl K,hw,?_⟩
    · simp [execOp,hc,asBool]
    · cases b
      · exact ex y
      · exact ex x
  · cases h
 case alloc e=>
  split at h
  · rename_i i hi
    split at h
    · rename_i hz
      simp only [Option.some.injEq,Prod.mk.injEq] at h
      obtain⟨rfl,rfl⟩:=h
      exact Did.of_ran (alloc_sound hw hi hz)
    · cases h
  · cases h
 case box e x=>
  obtain⟨c,hc,he'⟩:=Option.map_eq_some_iff.1 h
  simp only [Prod.mk.injEq] at he'
  obtain⟨rfl,rfl⟩:=he'
  exact Did.of_ran (box_sound hw (ex x) hc)
 case build t ps=>
  obtain⟨u,hu,he'⟩:=Option.map_eq_some_iff.1 h
  simp only [Prod.mk.injEq] at he'
  obtain⟨rfl,rfl⟩:=he'
  obtain⟨p1,p2⟩:=parts_rel hw he ps
  exact Did.of_ran (build_sound hw p1 p2 hu)
 case buildSlice t n ps=>
  obtain⟨u,hu,he'⟩:=Option.map_eq_some_iff.1 h
  simp only [Prod.mk.injEq] at he'
  obtain⟨rfl,rfl⟩:=he'
  obtain⟨p1,p2⟩:=parts_rel hw he ps
  exact Did.of_ran (buildSlice_sound hw p1 p2 hu)
 case load t x=>
  obtain⟨u,hu,he'⟩:=Option.map_eq_some_iff.1 h
  simp only [Prod.mk.injEq] at he'
  obtain⟨rfl,rfl⟩:=he'
  exact Did.of_ran (load_sound hw (ex x) hu)
 case store t x y=>
  obtain⟨u,hu,he'⟩:=Option.map_eq_some_iff.1 h
  simp only [Prod.mk.injEq] at he'
  obtain⟨rfl,rfl⟩:=he'
  exact Did.of_unit (store_sound hw (ex x) (ex y) hu)
 case nilCheck x=>
  have hx:=ex x
  split at h
  · rename_i b o hb
    simp only [Option.some.injEq,Prod.mk.injEq] at h
    obtain⟨rfl,rfl⟩:=h
    rw [hb] at hx
    have hx':=hx
    simp only [VRel] at hx
    obtain⟨B,_,e⟩:=hx
    exact⟨a.eval x,w,K,.inl (by simp [execOp,e]),Kn.le_refl K,hw,hx'⟩
  · rename_i c hb
    simp only [Option.some.injEq,Prod.mk.injEq] at h
    obtain⟨rfl,rfl⟩:=h
    rw [hb] at hx
    have hx':=hx
    simp only [VRel] at hx
    obtain⟨B,off,e,_⟩:=hx
    exact⟨a.eval x,w,K,.inl (by simp [execOp,e]),Kn.le_refl K,hw,hx'⟩
  · cases h
 case binOp op t x y u=>
  obtain⟨u,hu,he'⟩:=Option.map_eq_some_iff.1 h
  simp only [Prod.mk.injEq] at he'
  obtain⟨rfl,rfl⟩:=he'
  exact Did.of_same hw (bin_sound (ex x) (ex y) hu x y)
 case unOp op t x=>
  obtain⟨u,hu,he'⟩:=Option.map_eq_some_iff.1 h
  simp only [Prod.mk.injEq] at he'
  obtain⟨rfl,rfl⟩:=he'
  exact Did.of_same hw (un_sound (ex x) hu)
 case convert s d x=>
  obtain⟨u,hu,he'⟩:=Option.map_eq_some_iff.1 h
  simp only [Prod.mk.injEq] at he'
  obtain⟨rfl,rfl⟩:=he'
  exact Did.of_same hw (conv_sound hw (ex x) hu)
 case makeFunc fn x y=>
  cases fn<;>simp only at h<;>try (cases h;done)
  rename_i f
  simp only [Option.some.injEq,Prod.mk.injEq] at h
  obtain⟨rfl,rfl⟩:=h
  refine⟨.func (.func f) (x.map a.eval) (y.map a.eval),w,K,.inl (by simp [execOp,Instr.makeFunc]),Kn.le_refl K,hw,?_⟩
  simp only [VRel]
  exact⟨_,_,rfl,by simpa using opds_rel hw he x.toList,by simpa using opds_rel hw he y.toList⟩
 case makeMap t r=>
  cases r with
  | none=>
   simp only [Option.some.injEq,Prod.mk.injEq] at h
   obtain⟨rfl,rfl⟩:=h
   exact Did.of_ran (makeMap_sound hw t)
  | some r=>cases h
 case makeSlice t l c=>exact Did.of_ran (makeSlice_sound hw (ex l) (ex c) h)
 case slice t x lo hi mx=>
  obtain⟨hlo,hlo0⟩:=opt_rel hw he lo
  obtain⟨hhi,hhi0⟩:=opt_rel hw he hi
  obtain⟨hmx,hmx0⟩:=opt_rel hw he mx
  have hx:=ex x
  split at h
  · rename_i i hD
    obtain⟨inf,d,z,hi,hu,_,rfl⟩:=Dof_spec hD
    simp only at h
    split at h
    · rename_i s hd hxs
      have:=td_str hd;subst this
      obtain⟨u,hu',he'⟩:=Option.map_eq_some_iff.1 h
      simp only [Prod.mk.injEq] at he'
      obtain⟨rfl,rfl⟩:=he'
      rw [hxs] at hx
      simp only [VRel] at hx
      have:=slice_str (P:=P) (K:=K) (w:=w) hu hlo hlo0 hhi hhi0 hmx0 hu'
      rw [← hx] at this
      exact Did.of_same hw this
    · rename_i e hd
      have:=td_sl hd;subst this
      split at h
      · rename_i j sz rows tok hj hxs
        obtain⟨inf2,d2,z2,hi2,hu2,_,rfl⟩:=Dof_spec hj
        split at h
        · rename_i hsz
          obtain⟨u,hu',he'⟩:=Option.map_eq_some_iff.1 h
          simp only [Prod.mk.injEq] at he'
          obtain⟨rfl,rfl⟩:=he'
          rw [hxs] at hx
          exact Did.of_same hw (slice_sl hu hi2 hsz hx hlo hlo0 hhi hhi0 hmx hmx0 hu')
        · cases h
      · rename_i j b off len sz hj hxs
        obtain⟨inf2,d2,z2,hi2,hu2,_,rfl⟩:=Dof_spec hj
        split at h
        · rename_i hsz
          simp only at hsz
          subst hsz
          obtain⟨u,hu',he'⟩:=Option.map_eq_some_iff.1 h
          simp only [Prod.mk.injEq] at he'
          obtain⟨rfl,rfl⟩:=he'
          rw [hxs] at hx
          exact Did.of_same hw (slice_ms hu hi2 hx hlo hlo0 hhi hhi0 hmx0 hu')
        · cases h
      · cases h
    · cases h
  · cases h
 case fieldAddr s x f=>
  obtain⟨u,hu,he'⟩:=Option.map_eq_some_iff.1 h
  simp only [Prod.mk.injEq] at he'
  obtain⟨rfl,rfl⟩:=he'
  exact Did.of_same hw (fieldAddr_sound hw (ex x) hu)
 case field s x f=>
  obtain⟨u,hu,he'⟩:=Option.map_eq_some_iff.1 h
  simp only [Prod.mk.injEq] at he'
  obtain⟨rfl,rfl⟩:=he'
  exact Did.of_same hw (field_sound (ex x) hu)
 case indexAddr t x i=>
  obtain⟨u,hu,he'⟩:=Option.map_eq_some_iff.1 h
  simp only [Prod.mk.injEq] at he'
  obtain⟨rfl,rfl⟩:=he'
  exact Did.of_same hw (indexAddr_sound hw (ex x) (ex i) hu)
 case index t x i=>
  obtain⟨u,hu,he'⟩:=Option.map_eq_some_iff.1 h
  simp only [Prod.mk.injEq] at he'
  obtain⟨rfl,rfl⟩:=he'
  exact Did.of_same hw (index_sound (ex x) (ex i) hu)
 case lookup t x i ok=>
  obtain⟨u,hu,he'⟩:=Option.map_eq_some_iff.1 h
  simp only [Prod.mk.injEq] at he'
  obtain⟨rfl,rfl⟩:=he'
  exact Did.of_same hw (lookup_sound hw (ex x) (ex i) hu)
 case mapUpdate t m k x=>
  obtain⟨u,hu,he'⟩:=Option.map_eq_some_iff.1 h
  simp only [Prod.mk.injEq] at he'
  obtain⟨rfl,rfl⟩:=he'
  exact Did.of_unit (mapUpdate_sound hw (ex m) (ex k) (ex x) hu)
 case range t x=>
  have hx:=ex x
  split at h
  · rename_i i s hD hxs
    obtain⟨inf,d,z,hi,hu,_,rfl⟩:=Dof_spec hD
    simp only at h
    split at h
    · rename_i hd
      have:=td_str hd;subst this
      simp only [Option.some.injEq,Prod.mk.injEq] at h
      obtain⟨rfl,rfl⟩:=h
      rw [hxs] at hx
      exact Did.of_ran (range_sound hw hu hx)
    · cases h
  · rename_i i b hD hxs
    obtain⟨inf,d,z,hi,hu,_,rfl⟩:=Dof_spec hD
    simp only at h
    split at h
    · rename_i kt et es clock hd hb
      have:=td_map hd;subst this
      simp only [Option.some.injEq,Prod.mk.injEq] at h
      obtain⟨rfl,rfl⟩:=h
      rw [hxs] at hx
      exact Did.of_ran (mrange_sound hw hu hx hb)
    · cases h
  · rename_i i hD hxs
    obtain⟨inf,d,z,hi,hu,_,rfl⟩:=Dof_spec hD
    simp only at h
    split at h
    · rename_i kt et hd
      have:=td_map hd;subst this
      simp only [Option.some.injEq,Prod.mk.injEq] at h
      obtain⟨rfl,rfl⟩:=h
      rw [hxs] at hx
      exact Did.of_ran (mrange_nil hw hu hx)
    · cases h
  · cases h
 case next it b=>
  cases b with
  | false=>cases h
  | true=>
   simp only at h
   exact Did.of_ran (next_sound hw (ex it) h)
 case extract x i=>
  obtain⟨u,hu,he'⟩:=Option.map_eq_some_iff.1 h
  simp only [Prod.mk.injEq] at he'
  obtain⟨rfl,rfl⟩:=he'
  exact Did.of_same hw (extract_sound (ex x) hu)
 case call c=>
  obtain⟨callee,args,argTypes⟩:=c
  cases callee<;>simp only at h<;>try (cases h;done)
  rename_i b
  have ha:=opds_rel hw he args.toList
  unfold builtinA at h
  split at h
  · rename_i t x hts hvs
    obtain⟨u,hu,he'⟩:=Option.map_eq_some_iff.1 h
    simp only [Prod.mk.injEq] at he'
    obtain⟨rfl,rfl⟩:=he'
    rw [hvs] at ha
    simp only [VRels] at ha
    obtain⟨v1,vr,e1,h1,rfl⟩:=ha
    have eargs:args.map a.eval = #[v1]:=by apply Array.ext';simpa using e1
    have ets:argTypes = #[t]:=by apply Array.ext';simpa using hts
    have:=len_sound hw h1 type hu
    obtain⟨v',r1,r2⟩:=this
    exact⟨v',w,K,.inl (by simp [execOp,resolve,invoke,builtin,eargs,ets,r1]),Kn.le_refl K,hw,r2⟩
  · rename_i t u x y hts hvs
    split at h
    · rename_i hut
      subst hut
      rw [hvs] at ha
      simp only [VRels] at ha
      obtain⟨v1,vr,e1,h1,v2,vr2,e2,h2,rfl⟩:=ha
      have eargs:args.map a.eval = #[v1,v2]:=by apply Array.ext';simpa [e2] using e1
      have ets:argTypes = #[u,u]:=by apply Array.ext';simpa using hts
      obtain⟨v',w',K',r1,r2,r3,r4⟩:=append_sound hw h1 h2 type h
      exact⟨v',w',K',.inl (by simp [execOp,resolve,invoke,builtin,eargs,ets,r1]),r2,r3,r4⟩
    · cases h
  · rename_i x y hvs
    obtain⟨u,hu,he'⟩:=Option.map_eq_some_iff.1 h
    simp only [Prod.mk.injEq] at he'
    obtain⟨rfl,rfl⟩:=he'
    rw [hvs] at ha
    simp only [VRels] at ha
    obtain⟨v1,vr,e1,h1,v2,vr2,e2,h2,rfl⟩:=ha
    have eargs:args.map a.eval = #[v1,v2]:=by apply Array.ext';simpa [e2] using e1
    obtain⟨v',r1,r2⟩:=min_sound (P:=P) (w:=w) h1 h2 argTypes type hu
    exact⟨v',w,K,.inl (by simp [execOp,resolve,invoke,builtin,eargs,r1]),Kn.le_refl K,hw,r2⟩
  · rename_i x y hvs
    obtain⟨u,hu,he'⟩:=Option.map_eq_some_iff.1 h
    simp only [Prod.mk.injEq] at he'
    obtain⟨rfl,rfl⟩:=he'
    rw [hvs] at ha
    simp only [VRels] at ha
    obtain⟨v1,vr,e1,h1,v2,vr2,e2,h2,rfl⟩:=ha
    have eargs:args.map a.eval = #[v1,v2]:=by apply Array.ext';simpa [e2] using e1
    obtain⟨v',r1,r2⟩:=max_sound (P:=P) (w:=w) h1 h2 argTypes type hu
    exact⟨v',w,K,.inl (by simp [execOp,resolve,invoke,builtin,eargs,r1]),Kn.le_refl K,hw,r2⟩
  · cases h
 all_goals (first | (cases h;done) | (split at h<;>cases h))
end
end
mutual
def noRef:AV→Bool
 | .ptr .. | .ms .. | .map _ | .iter _ | .any=>false
 | .rptr c=>noRefs c
 | .sl _ rows tok=>(match tok with | .chain .. =>false | _=>true)&&noRefss rows
 | .fn _ a b=>noRefs a&&noRefs b
 | .agg c=>noRefs c
 | .tup c=>noRefs c
 | _=>true
def noRefs:List AV→Bool
 | []=>true
 | a::r=>noRef a&&noRefs r
def noRefss:List (List AV)→Bool
 | []=>true
 | a::r=>noRefs a&&noRefss r
end
theorem noRefs_eq:∀ l,noRefs l=l.all noRef
 | []=>rfl
 | a::r=>by simp [noRefs,noRefs_eq r]
theorem noRefss_eq:∀ l,noRefss l=l.all (·.all noRef)
 | []=>rfl
 | a::r=>by simp [noRefss,noRefss_eq r,noRefs_eq]
mutual
theorem VRel.toK0 {K:Kn}:∀ (a:AV) {v:Value},noRef a=true→VRel K a v→VRel (K0 K.ro) a v
 | .any,_,h,_=>by simp [noRef] at h
 | .bool b,_,_,x=>by simpa [VRel] using x
 | .int k n,_,_,x=>by simpa [VRel] using x
 | .str s,_,_,x=>by simpa [VRel] using x
 | .nilp,_,_,x=>by simpa [VRel] using x
 | .ptr b off,_,h,x=>by simp [noRef] at h
 | .rptr c,_,h,x=>by
  simp only [VRel,noRef] at h x ⊢
  obtain⟨B,off,h1,h2⟩:=x
  exact⟨B,off,h1,CellsAt.toK0 c B off h h2⟩
 | .sl sz rows tok,_,h,x=>by
  simp only [VRel,noRef,Bool.and_eq_true] at h x ⊢
  rcases x with x|⟨B,off,cap,h1,h2,h3,h4⟩
  · exact .inl x
  · refine .inr ⟨B,off,cap,h1,h2,RowsAt.toK0 rows B off sz h.2 h3,?_⟩
    cases tok<;>simp_all [TokOk]
 | .ms b off len sz,_,h,x=>by simp [noRef] at h
 | .nilm,_,_,x=>by simpa [VRel] using x
 | .map b,_,h,x=>by simp [noRef] at h
 | .iter b,_,h,x=>by simp [noRef] at h
 | .fn f a b,_,h,x=>by
  simp only [VRel,noRef,Bool.and_eq_true] at h x ⊢
  obtain⟨va,vb,h1,h2,h3⟩:=x
  exact⟨va,vb,h1,VRels.toK0 a h.1 h2,VRels.toK0 b h.2 h3⟩
 | .nilf,_,_,x=>by simpa [VRel] using x
 | .agg c,_,h,x=>by
  simp only [VRel,noRef] at h x ⊢
  obtain⟨vs,h1,h2⟩:=x
  exact⟨vs,h1,VRels.toK0 c h h2⟩
 | .tup c,_,h,x=>by
  simp only [VRel,noRef] at h x ⊢
  obtain⟨vs,h1,h2⟩:=x
  exact⟨vs,h1,VRels.toK0 c h h2⟩
theorem VRels.toK0 {K:Kn}:∀ (l:List AV) {vs:List Value},noRefs l=true→VRels K l vs→VRels (K0 K.ro) l vs
 | [],_,_,x=>by simpa [VRels] using x
 | a::r,_,h,x=>by
  simp only [VRels,noRefs,Bool.and_eq_true] at h x ⊢
  obtain⟨v,vr,h1,h2,h3⟩:=x
  exact⟨v,vr,h1,VRel.toK0 a h.1 h2,VRels.toK0 r h.2 h3⟩
theorem CellsAt.toK0 {K:Kn}:∀ (l:List AV) (B off:Nat),noRefs l=true→CellsAt K B off l→CellsAt (K0 K.ro) B off l
 | [],_,_,_,_=>by simp [CellsAt]
 | a::r,B,off,h,x=>by
  simp only [CellsAt,noRefs,Bool.and_eq_true] at h x ⊢
  obtain⟨⟨v,h1,h2⟩,h3⟩:=x
  exact⟨⟨v,h1,VRel.toK0 a h.1 h2⟩,CellsAt.toK0 r _ _ h.2 h3⟩
theorem RowsAt.toK0 {K:Kn}:∀ (l:List (List AV)) (B off sz:Nat),noRefss l=true→RowsAt K B off sz l→RowsAt (K0 K.ro) B off sz l
 | [],_,_,_,_,_=>by simp [RowsAt]
 | a::r,B,off,sz,h,x=>by
  simp only [RowsAt,noRefss,Bool.and_eq_true] at h x ⊢
  obtain⟨⟨h1,h0,h2⟩,h3⟩:=x
  exact⟨⟨h1,h0,CellsAt.toK0 a _ _ h.1 h2⟩,RowsAt.toK0 r _ _ _ h.2 h3⟩
end
end Go.Abs
end
