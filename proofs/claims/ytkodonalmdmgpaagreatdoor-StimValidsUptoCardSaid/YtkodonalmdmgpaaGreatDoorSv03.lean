import Derived.Test.YtkodonalmdmgpaaGreatDoorSv02
import Derived.ChangeKeysEq
import Derived.Laws.AppendOwn
set_option linter.all false
set_option linter.defProp false
section
namespace Go.Abs
open Go Go.RowKit
section
section
variable {P:Program} {G:Nat→AV} {w0:World} {ro0:Nat→Nat→Option Value} {K:Kn} {σ:St} {w w':World}
theorem plainT_spec {t:Nat} (h:plainT (Dof P) t=true):∃ inf,P.info? t=some inf∧(P.underlying t=some .bool∨P.underlying t=some .string∨∃ k,P.underlying t=some (.int k)):=by
 unfold plainT at h
 split at h
 · rename_i i hD
   obtain⟨inf,d,z,hi,hu,_,rfl⟩:=Dof_spec hD
   refine⟨inf,hi,?_⟩
   simp only at h
   split at h
   · rename_i k hd;exact .inr (.inr ⟨k,by rw [hu,td_int hd]⟩)
   · rename_i hd;exact .inl (by rw [hu,td_bool hd])
   · rename_i hd;exact .inr (.inl (by rw [hu,td_str hd]))
   · cases h
 · cases h
/-- The fields' types fit the cells: said of values, as the comparison meets them. -/
theorem eqFields_run (d : Nat) (xs ys : Array Value) : ∀ (fs : List Field) (k : Nat) (as bs : List AV) (p : Bool), (∀ f ∈ fs, plainT (Dof P) f.type = true ∧ f.name ≠ "_") →
 fs.map (·.offset)=List.range' k fs.length→as.length=fs.length→VRels K as (xs.toList.drop k)→VRels K bs (ys.toList.drop k)→cellsEq as bs=some p →
 (∀ (j:Nat) (f:Field) (a:AV),fs[j]?=some f→as[j]?=some a→(match P.underlying f.type,a with | some .bool,.bool _=>True | some .string,.str _=>True | some (.int _),.int .. =>True | _,_=>False)) →
 (Op.eqFields (d+1) xs ys fs).run P w=.ok p w
 | [],k,as,bs,p,_,_,hl,h1,h2,he,_=>by
  have:as=[]:=List.eq_nil_of_length_eq_zero (by simpa using hl)
  subst this
  cases bs with
  | nil=>simp [cellsEq] at he;subst he;simp [Op.eqFields]
  | cons=>simp [cellsEq] at he
 | f::fs,k,as,bs,p,hf,ho,hl,h1,h2,he,ht=>by
  cases as with
  | nil=>simp at hl
  | cons a as=>
   cases bs with
   | nil=>simp [cellsEq] at he
   | cons b bs=>
    simp only [List.map_cons,List.length_cons,List.range'_succ,List.cons.injEq] at ho
    obtain⟨ho1,ho2⟩:=ho
    simp only [VRels] at h1 h2
    obtain⟨va,ra,e1,g1,g2⟩:=h1
    obtain⟨vb,rb,e2,g3,g4⟩:=h2
    simp only [cellsEq] at he
    split at he
    · rename_i p1 q1 hp1 hq1
      simp only [Option.some.injEq] at he
      subst he
      obtain⟨hpl,hnm⟩:=hf f (by simp)
      have htk:=ht 0 f a (by simp) (by simp)
      have hxa:xs[f.offset]?=some va:=by
       have:(xs.toList.drop k)[0]?=some va:=by rw [e1];rfl
       rw [ho1];simpa using this
      have hyb:ys[f.offset]?=some vb:=by
       have:(ys.toList.drop k)[0]?=some vb:=by rw [e2];rfl
       rw [ho1];simpa using this
      have hdx:ra=xs.toList.drop (k+1):=by
       have:=congrArg List.tail e1
       simpa using this.symm
      have hdy:rb=ys.toList.drop (k+1):=by
       have:=congrArg List.tail e2
       simpa using this.symm
      have ih:=eqFields_run d xs ys fs (k+1) as bs q1 (fun x hx=>hf x (by simp [hx])) ho2 (by simpa using hl) (hdx▸g2) (hdy▸g4) hq1
       (fun j f' a' h1 h2=>ht (j+1) f' a' (by simpa using h1) (by simpa using h2))
      obtain⟨inf,hi,hu⟩:=plainT_spec hpl
      have hagg:(isAgg f.type).run P w=.ok false w:=by
       rcases hu with hu|hu|⟨k,hu⟩<;>simp [isAgg,run_underlying hu]
      have heq:(Op.equalIn (d+1) f.type va vb).run P w=.ok p1 w:=by
       rcases hu with hu|hu|⟨k',hu⟩
       · rw [hu] at htk
         cases a<;>simp at htk
         cases b<;>simp [plainEq] at hp1
         subst hp1
         simp only [VRel] at g1 g3
         subst g1;subst g3
         simp [Op.equalIn,run_underlying hu]
       · rw [hu] at htk
         cases a<;>simp at htk
         cases b<;>simp [plainEq] at hp1
         subst hp1
         simp only [VRel] at g1 g3
         subst g1;subst g3
         rw [run_equalIn_string w d f.type _ _ hu,str_toList,str_toList]
       · rw [hu] at htk
         cases a<;>simp at htk
         cases b<;>simp only [plainEq] at hp1<;>try (cases hp1;done)
         split at hp1
         · rename_i hk
           simp at hp1
           subst hp1
           subst hk
           simp only [VRel] at g1 g3
           subst g1;subst g3
           exact run_equalIn_int w d f.type _ k' _ _ hu
         · cases hp1
      simp only [Op.eqFields,if_pos hnm]
      simp [part,hagg,hxa,hyb,heq]
      cases p1
      · simp
      · simpa using ih
    · cases he
/-- A plain cell of the kind that a field's type has. -/
def fitsOne:TD→AV→Prop
 | .bool,.bool _=>True
 | .str,.str _=>True
 | .int _,.int .. =>True
 | _,_=>False
theorem fitsAll_spec:∀ (tds:List TD) (as:List AV),fitsAll tds as=true→as.length=tds.length ∧
 ∀ (j:Nat) (td:TD) (a:AV),tds[j]?=some td→as[j]?=some a→fitsOne td a
 | [],[],_=>⟨rfl,by simp⟩
 | [],a::r,h=>by simp [fitsAll] at h
 | td::r,[],h=>by cases td<;>simp [fitsAll] at h
 | td::r,a::s,h=>by
  have:fitsAll r s=true∧fitsOne td a:=by
   cases td<;>cases a<;>simp [fitsAll] at h<;>exact⟨h,trivial⟩
  obtain⟨h1,h2⟩:=this
  obtain⟨i1,i2⟩:=fitsAll_spec r s h1
  refine⟨by simp [i1],fun j td' a' e1 e2=>?_⟩
  cases j with
  | zero=>simp at e1 e2;rw [← e1,← e2];exact h2
  | succ j=>exact i2 j td' a' (by simpa using e1) (by simpa using e2)
theorem flatT_spec {t:Nat} {tds:List TD} (h:flatT (Dof P) t=some tds) :
 ∃ fields : Array Field, P.underlying t = some (.struct fields) ∧ P.stoodInHeld t = false ∧ tds = fields.toList.map (fun f => plainTD (Dof P) f.type) ∧ (∀ f ∈ fields.toList, plainT (Dof P) f.type = true ∧ f.name ≠ "_") ∧
  fields.toList.map (·.offset)=List.range fields.size:=by
 unfold flatT at h
 split at h
 · rename_i i hD
   obtain⟨inf,d,z,hi,hu,_,rfl⟩:=Dof_spec hD
   simp only at h
   split at h
   · rename_i fs hd
     obtain⟨fields,rfl,rfl,_,hnm⟩:=td_st hd
     split at h
     · rename_i hc
       simp only [Option.some.injEq] at h
       simp only [Bool.and_eq_true,Bool.not_eq_true',beq_iff_eq,List.map_map,List.length_map,Array.length_toList,List.all_map,List.all_eq_true] at hc
       obtain⟨⟨h1,h2⟩,h3⟩:=hc
       refine⟨fields,hu,h1,by rw [← h];simp,fun f hf=>⟨h2 f hf,hnm f hf⟩,?_⟩
       rw [← h3]
       rfl
     · cases h
   · cases h
 · cases h
theorem eqGuardType_plain {t:Nat} (h:plainT (Dof P) t=true) (d:Nat):P.eqGuardType (d+1) t=false:=by
 obtain⟨inf,hi,hu⟩:=plainT_spec h
 rcases hu with hu|hu|⟨k,hu⟩<;>simp [Program.eqGuardType,hu]
/-- An array's elements, one behind the other. -/
theorem eqItems_run (d:Nat) {e:Nat} (he:plainT (Dof P) e=true) (xs ys:Array Value):∀ (n k:Nat) (as bs:List AV) (p:Bool),as.length=n →
 VRels K as (xs.toList.drop k)→VRels K bs (ys.toList.drop k)→cellsEq as bs=some p →
 (∀ a∈as,(match P.underlying e,a with | some .bool,.bool _=>True | some .string,.str _=>True | some (.int _),.int .. =>True | _,_=>False)) →
 (Op.eqItems (d+1) e 1 xs ys (List.range' k n)).run P w=.ok p w
 | 0,k,as,bs,p,hl,h1,h2,hq,_=>by
  have:as=[]:=List.eq_nil_of_length_eq_zero hl
  subst this
  cases bs with
  | nil=>simp [cellsEq] at hq;subst hq;simp [Op.eqItems]
  | cons=>simp [cellsEq] at hq
 | n+1,k,as,bs,p,hl,h1,h2,hq,ht=>by
  cases as with
  | nil=>simp at hl
  | cons a as=>
   cases bs with
   | nil=>simp [cellsEq] at hq
   | cons b bs=>
    simp only [VRels] at h1 h2
    obtain⟨va,ra,e1,g1,g2⟩:=h1
    obtain⟨vb,rb,e2,g3,g4⟩:=h2
    simp only [cellsEq] at hq
    split at hq
    · rename_i p1 q1 hp1 hq1
      simp only [Option.some.injEq] at hq
      subst hq
      have htk:=ht a (by simp)
      have hxa:xs[k]?=some va:=by
       have:(xs.toList.drop k)[0]?=some va:=by rw [e1];rfl
       simpa using this
      have hyb:ys[k]?=some vb:=by
       have:(ys.toList.drop k)[0]?=some vb:=by rw [e2];rfl
       simpa using this
      have hdx:ra=xs.toList.drop (k+1):=by
       have:=congrArg List.tail e1
       simpa using this.symm
      have hdy:rb=ys.toList.drop (k+1):=by
       have:=congrArg List.tail e2
       simpa using this.symm
      have ih:=eqItems_run d he xs ys n (k+1) as bs q1 (by simpa using hl) (hdx▸g2) (hdy▸g4) hq1 (fun a' h'=>ht a' (by simp [h']))
      obtain⟨inf,hi,hu⟩:=plainT_spec he
      have hagg:(isAgg e).run P w=.ok false w:=by
       rcases hu with hu|hu|⟨k,hu⟩<;>simp [isAgg,run_underlying hu]
      have heq:(Op.equalIn (d+1) e va vb).run P w=.ok p1 w:=by
       rcases hu with hu|hu|⟨k',hu⟩
       · rw [hu] at htk
         cases a<;>simp at htk
         cases b<;>simp [plainEq] at hp1
         subst hp1
         simp only [VRel] at g1 g3
         subst g1;subst g3
         simp [Op.equalIn,run_underlying hu]
       · rw [hu] at htk
         cases a<;>simp at htk
         cases b<;>simp [plainEq] at hp1
         subst hp1
         simp only [VRel] at g1 g3
         subst g1;subst g3
         rw [run_equalIn_string w d e _ _ hu,str_toList,str_toList]
       · rw [hu] at htk
         cases a<;>simp at htk
         cases b<;>simp only [plainEq] at hp1<;>try (cases hp1;done)
         split at hp1
         · rename_i hk
           simp at hp1
           subst hp1
           subst hk
           simp only [VRel] at g1 g3
           subst g1;subst g3
           exact run_equalIn_int w d e _ k' _ _ hu
         · cases hp1
      rw [List.range'_succ]
      simp only [Op.eqItems]
      simp [part,hagg,hxa,hyb,heq]
      cases p1
      · simp
      · simpa using ih
    · cases hq
theorem arrT_spec {t:Nat} {tds:List TD} (h:arrT (Dof P) t=some tds) :
 ∃ n e inf td,P.underlying t=some (.array n e)∧P.info? e=some inf∧P.cellsOf e=1∧plainT (Dof P) e=true∧tds=List.replicate n (tdOf P td)∧P.underlying e=some td:=by
 unfold arrT at h
 split at h
 · rename_i i hD
   obtain⟨inf,d,z,hi,hu,_,rfl⟩:=Dof_spec hD
   simp only at h
   split at h
   · rename_i n e hd
     split at h
     · rename_i j hj
       obtain⟨inf2,d2,z2,hi2,hu2,_,rfl⟩:=Dof_spec hj
       split at h
       · rename_i hc
         simp only [Option.some.injEq] at h
         simp only [Bool.and_eq_true,beq_iff_eq] at hc
         exact⟨n,e,inf2,d2,by rw [hu,td_arr hd],hi2,by simp [Program.cellsOf,hi2,hc.2],hc.1,h.symm,hu2⟩
       · cases h
     · cases h
   · cases h
 · cases h
theorem eqArr_run {t:Nat} {tds:List TD} {a b:List AV} {p:Bool} (ht:arrT (Dof P) t=some tds) (hfit:fitsAll tds a=true) (h:cellsEq a b=some p) {as bs:Array Value} (ha:VRels K a as.toList) (hb:VRels K b bs.toList) :
 P.eqGuardType P.depth t=false∧(Op.equalIn 10000 t (.agg as) (.agg bs)).run P w=.ok p w:=by
 obtain⟨n,e,inf,td,hu,hi,hc,hpl,rfl,hue⟩:=arrT_spec ht
 obtain⟨hl,hk⟩:=fitsAll_spec _ _ hfit
 constructor
 · have:∃ d,P.depth=d+2:=⟨2*(P.types.size+Made.depth),rfl⟩
   obtain⟨d,hd⟩:=this
   rw [hd,Program.eqGuardType]
   simp only [hu]
   exact eqGuardType_plain hpl d
 · rw [run_equalIn_array w 9999 as bs hu hi,hc,List.range_eq_range']
   refine eqItems_run 9998 hpl as bs n 0 a b p (by simpa using hl) (by simpa using ha) (by simpa using hb) h ?_
   intro x hx
   obtain⟨j,hj⟩:=List.mem_iff_getElem?.1 hx
   have hjl:j<n:=by
    obtain⟨h1,_⟩:=List.getElem?_eq_some_iff.1 hj
    simpa [hl] using h1
   have hf:=hk j (tdOf P td) x (by simp [hjl]) hj
   rw [hue]
   cases hd:tdOf P td<;>simp only [hd] at hf<;>cases x<;>simp only [fitsOne] at hf
   · rw [td_bool hd];trivial
   · rw [td_int hd];trivial
   · rw [td_str hd];trivial
theorem eqAgg_run {t:Nat} {a b:List AV} {p:Bool} (h:eqAgg (Dof P) t a b=some p) {as bs:Array Value} (ha:VRels K a as.toList) (hb:VRels K b bs.toList) :
 P.eqGuardType P.depth t=false∧(Op.equalIn 10000 t (.agg as) (.agg bs)).run P w=.ok p w:=by
 unfold eqAgg at h
 split at h
 · rename_i tds htds
   split at h
   · rename_i hfit
     obtain⟨fields,hu,hst,rfl,hpl,hoff⟩:=flatT_spec htds
     obtain⟨hl,hk⟩:=fitsAll_spec _ _ hfit
     have hfo:P.fieldsOf t=fields:=by simp [Program.fieldsOf,hu]
     constructor
     · have:∃ d,P.depth=d+2:=⟨2*(P.types.size+Made.depth),rfl⟩
       obtain⟨d,hd⟩:=this
       rw [hd]
       rw [Program.eqGuardType]
       simp only [hu]
       rw [← Array.any_toList]
       rw [List.any_eq_false]
       intro f hf
       have:=eqGuardType_plain (hpl f hf).1 d
       simp [this]
     · rw [run_equalIn_struct w 9999 t as bs (by rw [hfo];exact hu) hst,hfo]
       refine eqFields_run 9998 as bs fields.toList 0 a b p hpl (by rw [hoff,List.range_eq_range'];simp) (by simpa using hl) (by simpa using ha) (by simpa using hb) h ?_
       intro j f x e1 e2
       have:=hk j (plainTD (Dof P) f.type) x (by simp [e1]) e2
       have hp:=(hpl f (List.mem_of_getElem? e1)).1
       unfold plainT at hp
       unfold plainTD at this
       cases hD:Dof P f.type with
       | none=>simp [hD] at hp
       | some i=>
        obtain⟨inf,d,z,hi,hu',_,rfl⟩:=Dof_spec hD
        simp only [hD] at this
        rw [hu']
        cases hd:tdOf P d<;>simp only [hd] at this<;>cases x<;>simp only [fitsOne] at this
        · rw [td_bool hd];trivial
        · rw [td_int hd];trivial
        · rw [td_str hd];trivial
   · cases h
 · split at h
   · rename_i tds htds
     split at h
     · rename_i hfit
       exact eqArr_run htds hfit h ha hb
     · cases h
   · cases h
theorem bin_sound {op:BinOp} {t:Nat} {x y v:AV} {x' y':Value} (hx:VRel K x x') (hy:VRel K y y') (hf:binA (Dof P) op t x y=some v) (ox oy:Operand) :
 ∃ v',(do eqGuard op t ox oy x' y';binOp op t x' y':Sem Value).run P w=.ok v' w∧VRel K v v':=by
 have guard:∀ {a b:Value},(∀ s,a≠.agg s)→a≠.nilIface→(eqGuard op t ox oy a b).run P w=.ok () w:=by
  intro a b h1 h2
  cases op<;>simp [eqGuard]<;>cases a<;>first | exact absurd rfl (h1 _) | exact absurd rfl h2 | rfl | simp
 unfold binA at hf
 split at hf
 · rename_i k a k' b
   simp only [VRel] at hx hy
   subst hx;subst hy
   split at hf
   · split at hf
     · cases hf
     · rename_i hb
       simp only [Option.some.injEq] at hf;subst hf
       exact⟨.int k (k.wrap (a*2 ^ (min b.toNat k.bits))),by rw [Sem.run_bind,guard (by simp) (by simp),Result.andThen_ok];simp [binOp,Op.shift,hb],by simp [VRel]⟩
   · split at hf
     · cases hf
     · rename_i hb
       simp only [Option.some.injEq] at hf;subst hf
       exact⟨.int k (a.fdiv (2 ^ (min b.toNat k.bits))),by rw [Sem.run_bind,guard (by simp) (by simp),Result.andThen_ok];simp [binOp,Op.shift,hb],by simp [VRel]⟩
   · rename_i h1 h2
     split at hf
     · rename_i hk
       subst hk
       obtain⟨v',e1,e2⟩:=intOp_sound (P:=P) (K:=K) (w:=w) hf t ⟨fun e=>h1 e,fun e=>h2 e⟩
       exact⟨v',by rw [Sem.run_bind,guard (by simp) (by simp),Result.andThen_ok];exact e1,e2⟩
     · cases hf
 · rename_i a b
   simp only [VRel] at hx hy
   subst hx;subst hy
   have key:∀ u:Value,(Op.stringOp op ⟨a.toArray⟩ ⟨b.toArray⟩).run P w=.ok u w→(do eqGuard op t ox oy (.string ⟨a.toArray⟩) (.string ⟨b.toArray⟩);binOp op t (.string ⟨a.toArray⟩) (.string ⟨b.toArray⟩):Sem Value).run P w=.ok u w:=by
    intro u hu
    rw [Sem.run_bind,guard (by simp) (by simp),Result.andThen_ok]
    cases op<;>simpa [binOp] using hu
   cases op<;>simp only [strOp] at hf
   case add=>
    split at hf
    · rename_i hl
      simp only [Option.some.injEq] at hf;subst hf
      refine⟨.string ⟨(a++b).toArray⟩,key _ ?_,by simp [VRel]⟩
      have:¬ (((⟨a.toArray⟩:ByteArray).size+(⟨b.toArray⟩:ByteArray).size:Nat):Int) > IntKind.i64.max:=by
       rw [str_size,str_size];simp [IntKind.max,IntKind.signed,IntKind.bits];omega
      simp only [Op.stringOp]
      rw [if_neg this,str_append]
      rfl
    · cases hf
   all_goals first
    | (cases hf;done)
    | (simp only [Option.some.injEq] at hf;subst hf
       exact⟨.bool _,key _ (by simp only [Op.stringOp,str_toList,pure,Sem.run];rfl),by simp [VRel]⟩)
 · rename_i a b
   simp only [VRel] at hx hy
   subst hx;subst hy
   have hty:plainTD (Dof P) t=.bool→P.underlying t=some .bool:=by
    intro e
    unfold plainTD at e
    split at e
    · rename_i i hD
      obtain⟨inf,d,z,hi,hu,_,rfl⟩:=Dof_spec hD
      rw [hu,td_bool e]
    · cases e
   split at hf
   · rename_i htd
     simp only [Option.some.injEq] at hf;subst hf
     exact⟨.bool (a==b),by rw [Sem.run_bind,guard (by simp) (by simp),Result.andThen_ok];simp [binOp,Op.equal,Op.maxDepth,run_equalIn_bool' w 9999 t a b (hty htd)],by simp [VRel]⟩
   · rename_i htd
     simp only [Option.some.injEq] at hf;subst hf
     exact⟨.bool (!(a==b)),by rw [Sem.run_bind,guard (by simp) (by simp),Result.andThen_ok];simp [binOp,Op.equal,Op.maxDepth,run_equalIn_bool' w 9999 t a b (hty htd)],by simp [VRel]⟩
   · cases hf
 · rename_i a b
   simp only [VRel] at hx hy
   obtain⟨as,rfl,ha⟩:=hx
   obtain⟨bs,rfl,hb⟩:=hy
   split at hf
   · obtain⟨p,hp,rfl⟩:=Option.map_eq_some_iff.1 hf
     obtain⟨e1,e2⟩:=eqAgg_run (w:=w) hp ha hb
     exact⟨.bool p,by simp only [Sem.run_bind,run_eqGuard_agg w _ t ox oy as bs e1,Result.andThen_ok,run_eql_struct,e2],by simp [VRel]⟩
   · obtain⟨p,hp,rfl⟩:=Option.map_eq_some_iff.1 hf
     obtain⟨e1,e2⟩:=eqAgg_run (w:=w) hp ha hb
     exact⟨.bool (!p),by simp only [Sem.run_bind,run_eqGuard_agg w _ t ox oy as bs e1,Result.andThen_ok,run_neq_struct,e2],by simp [VRel]⟩
   · cases hf
 · cases hf
theorem forIn_bytes (f:Value→ByteArray→Sem (ForInStep ByteArray)) (hf:∀ n s,f (.int .u8 n) s=pure (ForInStep.yield (s.push (UInt8.ofNat n.toNat)))) :
 ∀ (rows:List (List AV)) (vs:List Value) (l:List UInt8) (s:ByteArray),VRels K rows.flatten vs→bytesOf rows=some l →
 (forIn vs s f:Sem ByteArray).run P w=.ok ⟨(s.data.toList++l).toArray⟩ w
 | [],vs,l,s,h,hl=>by
  simp [bytesOf] at hl
  subst hl
  simp only [List.flatten_nil,VRels] at h
  subst h
  simp
 | r::rows,vs,l,s,h,hl=>by
  unfold bytesOf at hl
  split at hl
  · rename_i hx;simp at hx
  · rename_i n r' hx
    simp only [List.cons.injEq] at hx
    obtain⟨rfl,rfl⟩:=hx
    obtain⟨l',hl',rfl⟩:=Option.map_eq_some_iff.1 hl
    simp only [List.flatten_cons,List.singleton_append,VRels,VRel] at h
    obtain⟨v,vr,rfl,rfl,h2⟩:=h
    have ih:=forIn_bytes f hf rows vr l' (s.push (UInt8.ofNat n.toNat)) h2 hl'
    simp only [List.forIn_cons,hf]
    simp only [pure,Sem.run_bind,Sem.run,Result.andThen_ok]
    rw [ih]
    simp
  · cases hl
theorem conv_sound (h:WRel G w0 ro0 K σ w) {s d:Nat} {x v:AV} {x':Value} (hx:VRel K x x') (hf:convA (Dof P) s d x=some v) :
 ∃ v',(convert s d x').run P w=.ok v' w∧VRel K v v':=by
 unfold convA at hf
 split at hf
 · rename_i i j k n hi hj
   obtain⟨inf,d1,z,hi1,hu1,_,rfl⟩:=Dof_spec hi
   obtain⟨inf2,d2,z2,hi2,hu2,_,rfl⟩:=Dof_spec hj
   simp only at hf
   split at hf
   · rename_i k1 k2 e1 e2
     simp only [Option.some.injEq] at hf;subst hf
     simp only [VRel] at hx
     subst hx
     refine⟨.int k2 (k2.wrap n),?_,by simp [VRel]⟩
     have e1':=td_int e1
     have e2':=td_int e2
     subst e1' e2'
     simp [convert,run_underlying hu1,run_underlying hu2,Conv.intToInt]
   · cases hf
 · rename_i i j l hi hj
   obtain⟨inf,d1,z,hi1,hu1,_,rfl⟩:=Dof_spec hi
   obtain⟨inf2,d2,z2,hi2,hu2,_,rfl⟩:=Dof_spec hj
   simp only at hf
   split at hf
   · rename_i e1 e2
     simp only [Option.some.injEq] at hf;subst hf
     simp only [VRel] at hx
     subst hx
     refine⟨.string ⟨l.toArray⟩,?_,by simp [VRel]⟩
     have e1':=td_str e1
     have e2':=td_str e2
     subst e1' e2'
     simp [convert,run_underlying hu1,run_underlying hu2]
   · cases hf
 · rename_i i j rows tok hi hj
   obtain⟨inf,d1,z,hi1,hu1,_,rfl⟩:=Dof_spec hi
   obtain⟨inf2,d2,z2,hi2,hu2,_,rfl⟩:=Dof_spec hj
   simp only at hf
   split at hf
   · rename_i e e1 e2
     have e1':=td_sl e1
     have e2':=td_str e2
     subst e1' e2'
     split at hf
     · rename_i m hm
       obtain⟨inf3,d3,z3,hi3,hu3,_,rfl⟩:=Dof_spec hm
       simp only at hf
       split at hf
       · rename_i e3
         have e3':=td_int e3
         subst e3'
         obtain⟨l,hl,rfl⟩:=Option.map_eq_some_iff.1 hf
         simp only [VRel] at hx
         rcases hx with ⟨⟨a0,rfl,_⟩,rfl,_⟩|⟨B,off,cap,rfl,hcap,hrows,_⟩
         · simp [bytesOf] at hl
           subst hl
           refine⟨.string .empty,?_,by simp [VRel];rfl⟩
           cases a0<;>simp [convert,run_underlying hu1,run_underlying hu2,run_underlying hu3,Conv.bytesToString,loadCells,loadCellsFrom]
         · obtain⟨f1,f2,f3⟩:=RowsAt.flat B 1 rows off hrows
           obtain⟨vs,g1,g2⟩:=Lies.of_cellsAt h.ro B _ off f1
           have hcl:=run_loadCells_list (P:=P) w ⟨B,off,none⟩ vs (fun j v e=>by rw [addr_add];exact g2 j v e)
           have hlen:vs.length=rows.length:=by rw [g1.length,f2];omega
           rw [hlen] at hcl
           refine⟨.string ⟨l.toArray⟩,?_,by simp [VRel]⟩
           simp only [convert,run_underlying hu1,run_underlying hu2,run_underlying hu3,Conv.bytesToString,Sem.run_bind,Result.andThen_ok,hcl]
           rw [← Array.forIn_toList]
           simp only []
           rw [forIn_bytes (P:=P) (w:=w) _ (fun n s=>rfl) rows _ l ByteArray.empty (by simpa using g1) hl]
           simp [ByteArray.empty,ByteArray.emptyWithCapacity]
           rfl
       · cases hf
     · cases hf
   · cases hf
 · cases hf
end
end
section
section
variable {P:Program} {G:Nat→AV} {w0:World} {ro0:Nat→Nat→Option Value} {K:Kn} {σ:St} {w w':World}
theorem run_sliceBound {k:IntKind} {n:Int} {y:Nat} (h0:0≤n) (h1:n≤y) (c:BoundsCode):(Instr.sliceBound (.int k n) y c).run P w=.ok n.toNat w:=by
 simp [Instr.sliceBound,asIntOf,h0,h1]
/-- What the three bounds come to. -/
theorem run_sliceBounds {isS:Bool} {len cap:Nat} {lo hi mx:Option AV} {lo' hi' mx':Option Value} (hlo:∀ a,lo=some a→∃ v,lo'=some v∧VRel K a v) (hlo0:lo=none→lo'=none)
 (hhi:∀ a,hi=some a→∃ v,hi'=some v∧VRel K a v) (hhi0:hi=none→hi'=none) (hmx:∀ a,mx=some a→∃ v,mx'=some v∧VRel K a v) (hmx0:mx=none→mx'=none)
 {l h:Int} (el:boundA lo 0=some l) (eh:boundA hi len=some h)
 (hle:0≤l∧l≤h∧h≤len) (hlc:len≤cap) (em:∀ a,mx=some a→asIntA a=some h∧hi.isSome) :
 (Instr.sliceBounds isS len cap lo' hi' mx').run P w=.ok (l.toNat,h.toNat,if mx.isSome then h.toNat else cap) w:=by
 obtain⟨h1,h2,h3⟩:=hle
 have hlb:∀ c,(match lo' with | some v=>Instr.sliceBound v h.toNat c | none=>(pure 0:Sem Nat)).run P w=.ok l.toNat w:=by
  intro c
  cases lo with
  | none=>
   rw [hlo0 rfl]
   simp [boundA] at el
   subst el
   simp
  | some a=>
   obtain⟨v,rfl,hv⟩:=hlo a rfl
   obtain⟨k,rfl⟩:=asInt_spec el hv
   exact run_sliceBound h1 (by omega) c
 cases mx with
 | none=>
  rw [hmx0 rfl]
  cases hi with
  | none=>
   rw [hhi0 rfl]
   simp only [boundA,Option.some.injEq] at eh
   subst eh
   have:=hlb .sliceB
   cases hl':lo' with
   | none=>simp [hl'] at this;simp [Instr.sliceBounds];omega
   | some v=>simp [hl'] at this;simp [Instr.sliceBounds,this]
  | some a=>
   obtain⟨v,rfl,hv⟩:=hhi a rfl
   obtain⟨k,rfl⟩:=asInt_spec eh hv
   have hb:=fun c=>run_sliceBound (P:=P) (w:=w) (k:=k) (n:=h) (y:=cap) (by omega) (by omega) c
   have:=hlb .sliceB
   cases hl':lo' with
   | none=>simp [hl'] at this;simp [Instr.sliceBounds,hb];omega
   | some v=>simp [hl'] at this;simp [Instr.sliceBounds,hb,this]
 | some a=>
  obtain⟨v,rfl,hv⟩:=hmx a rfl
  obtain⟨e1,e2⟩:=em a rfl
  obtain⟨k,rfl⟩:=asInt_spec e1 hv
  cases hi with
  | none=>simp at e2
  | some b=>
   obtain⟨u,rfl,hu⟩:=hhi b rfl
   obtain⟨k',rfl⟩:=asInt_spec eh hu
   have hb:=fun c=>run_sliceBound (P:=P) (w:=w) (k:=k) (n:=h) (y:=cap) (by omega) (by omega) c
   have hb':=fun c=>run_sliceBound (P:=P) (w:=w) (k:=k') (n:=h) (y:=h.toNat) (by omega) (by omega) c
   have:=hlb .slice3C
   cases hl':lo' with
   | none=>simp [hl'] at this;simp [Instr.sliceBounds,hb,hb'];omega
   | some v=>simp [hl'] at this;simp [Instr.sliceBounds,hb,hb',this]
theorem RowsAt.sub {B sz:Nat} {rows:List (List AV)} {off:Nat} (h:RowsAt K B off sz rows) (l n:Nat):RowsAt K B (off+l*sz) sz ((rows.take n).drop l):=by
 refine RowsAt.intro B sz _ _ fun i r e=>?_
 rw [List.getElem?_drop,List.getElem?_take] at e
 split at e
 · obtain⟨h1,h2,h3⟩:=RowsAt.get B sz rows off h _ _ e
   exact⟨h1,h2,by rw [Nat.add_mul] at h3;rwa [Nat.add_assoc]⟩
 · cases e
theorem opt_rel {N:Nat} {env:Env} {a:Act} (hw:WRel G w0 ro0 K σ w) (he:ERel K N env a) (o:Option Operand) :
 (∀ x,o.map (ev G env)=some x→∃ v,o.map a.eval=some v∧VRel K x v)∧(o.map (ev G env)=none→o.map a.eval=none):=by
 cases o with
 | none=>simp
 | some x=>exact⟨fun y e=>by simp at e;subst e;exact⟨_,rfl,ev_rel hw he x⟩,by simp⟩
theorem slice_str {t:Nat} (hu:P.underlying t=some .string) {s:List UInt8} {lo hi mx:Option AV} {lo' hi' mx':Option Value} (hlo:∀ a,lo=some a→∃ v,lo'=some v∧VRel K a v) (hlo0:lo=none→lo'=none)
 (hhi:∀ a,hi=some a→∃ v,hi'=some v∧VRel K a v) (hhi0:hi=none→hi'=none) (hmx0:mx=none→mx'=none)
 {v:AV} (hf:sliceA (.str s) lo hi mx=some v):∃ v',(Instr.sliceAt t (.string ⟨s.toArray⟩) lo' hi' mx').run P w=.ok v' w∧VRel K v v':=by
 unfold sliceA at hf
 simp only at hf
 split at hf
 · rename_i l h el eh
   split at hf
   · rename_i hc
     simp only [Option.some.injEq] at hf
     subst hf
     rw [hmx0 rfl]
     have hb:=run_sliceBounds (P:=P) (w:=w) (K:=K) (isS:=false) (len:=s.length) (cap:=s.length) hlo hlo0 hhi hhi0 (mx:=none) (mx':=none) (by simp) (by simp) el eh hc (Nat.le_refl _) (by simp)
     refine⟨.string ⟨((s.take h.toNat).drop l.toNat).toArray⟩,?_,by simp [VRel]⟩
     simp only [Option.isSome_none,Bool.false_eq_true,if_false] at hb
     simp only [Instr.sliceAt,Instr.slice,Sem.run_bind,run_underlying hu,Result.andThen_ok,str_size]
     simp only [Option.isSome_none,Bool.false_eq_true,if_false,Sem.run_bind,pure,Sem.run,Result.andThen_ok,hb]
     rw [str_extract]
   · cases hf
 · cases hf
theorem slice_sl {t e:Nat} (hu:P.underlying t=some (.slice e)) {inf:TypeInfo} (hi2:P.info? e=some inf) {sz:Nat} {rows:List (List AV)} {tok:Tok} (hsz:sz=inf.size∨rows=[])
 {x':Value} (hx:VRel K (.sl sz rows tok) x')
 {lo hi mx:Option AV} {lo' hi' mx':Option Value} (hlo:∀ a,lo=some a→∃ v,lo'=some v∧VRel K a v) (hlo0:lo=none→lo'=none)
 (hhi:∀ a,hi=some a→∃ v,hi'=some v∧VRel K a v) (hhi0:hi=none→hi'=none) (hmx:∀ a,mx=some a→∃ v,mx'=some v∧VRel K a v) (hmx0:mx=none→mx'=none)
 {v:AV} (hf:sliceA (.sl sz rows tok) lo hi mx=some v):∃ v',(Instr.sliceAt t x' lo' hi' mx').run P w=.ok v' w∧VRel K v v':=by
 unfold sliceA at hf
 simp only at hf
 split at hf
 · rename_i l h el eh
   split at hf
   · rename_i hc
     obtain⟨c1,c2,c3,c4⟩:=hc
     simp only [Option.some.injEq] at hf
     subst hf
     have hmm:∀ a,mx=some a→asIntA a=some h∧hi.isSome:=by
      intro a ha
      subst ha
      simpa [thirdA] using c4
     simp only [VRel] at hx
     rcases hx with ⟨⟨a0,rfl,ha0⟩,rfl,htok⟩|⟨B,off,cap,rfl,hcap,hrows,htok⟩
     · have hb:=run_sliceBounds (P:=P) (w:=w) (K:=K) (isS:=true) (len:=0) (cap:=0) hlo hlo0 hhi hhi0 hmx hmx0 el (by simpa using eh) ⟨c1,c2,by simpa using c3⟩ (Nat.le_refl _) hmm
       have hl0:l.toNat=0:=by simp at c3;omega
       have hh0:h.toNat=0:=by simp at c3;omega
       rw [hl0,hh0] at hb
       refine⟨.slice a0 0 0,?_,?_⟩
       · simp only [Instr.sliceAt,Instr.slice,Sem.run_bind,run_underlying hu,Result.andThen_ok,hb]
         cases a0<;>simp [sizeOf,typeInfo,hi2]
       · simp only [VRel]
         refine .inl ⟨⟨a0,rfl,?_⟩,by simp,?_⟩
         · rcases ha0 with rfl|rfl
           · exact .inl rfl
           · refine .inr ?_
             rw [hl0,hh0]
             cases mx<;>simp [sliceTok,Tok.known]
         · rw [hl0,hh0]
           cases mx<;>cases tok<;>simp [sliceTok,Tok.known,Tok.plain]<;>exact htok.elim
     · have hb:=run_sliceBounds (P:=P) (w:=w) (K:=K) (isS:=true) (len:=rows.length) (cap:=cap) hlo hlo0 hhi hhi0 hmx hmx0 el eh ⟨c1,c2,c3⟩ hcap hmm
       have hln:l.toNat≤h.toNat:=by omega
       have hhn:h.toNat≤rows.length:=by omega
       have hM:h.toNat≤(if mx.isSome then h.toNat else cap):=by split<;>omega
       have hMc:(if mx.isSome then h.toNat else cap)≤cap:=by split<;>omega
       generalize hMe:(if mx.isSome then h.toNat else cap)=M at hb hM hMc
       have hrl:((rows.take h.toNat).drop l.toNat).length=h.toNat-l.toNat:=by simp;omega
       refine⟨.slice (some ⟨B,if M=l.toNat then off else off+l.toNat*inf.size,none⟩) (h.toNat-l.toNat) (M-l.toNat),?_,?_⟩
       · simp only [Instr.sliceAt,Instr.slice,Sem.run_bind,run_underlying hu,Result.andThen_ok,hb]
         simp [sizeOf,typeInfo,hi2,addr_add]
         split<;>rfl
       · simp only [VRel]
         refine .inr ⟨B,_,M-l.toNat,by rw [hrl],by rw [hrl];omega,?_,?_⟩
         · by_cases he:M=l.toNat
           · have:(rows.take h.toNat).drop l.toNat=[]:=List.eq_nil_of_length_eq_zero (by rw [hrl];omega)
             rw [this];simp [RowsAt]
           · rw [if_neg he]
             rcases hsz with hsz|hsz
             · rw [← hsz];exact RowsAt.sub hrows _ _
             · subst hsz;simp [RowsAt]
         · rw [hrl]
           cases hms:mx.isSome with
           | true=>
            rw [hms] at hMe
            simp only [if_true] at hMe
            simp only [if_true,sliceTok]
            by_cases hcn:True∧(0<rows.length∨tok.known=true)
            · rw [if_pos hcn];simp only [TokOk];omega
            · rw [if_neg hcn];trivial
           | false=>
            rw [hms] at hMe
            simp only [Bool.false_eq_true,if_false] at hMe
            simp only [Bool.false_eq_true,if_false,sliceTok]
            cases tok with
            | none=>trivial
            | nil=>trivial
            | tight=>
             by_cases hn:h.toNat=rows.length
             · simp only [if_pos hn,TokOk] at htok ⊢;omega
             · simp only [if_neg hn,TokOk]
            | chain ct ck=>
             by_cases hn:l.toNat=0∧h.toNat=rows.length
             · simp only [if_pos hn]
               obtain⟨h01,h02⟩:=hn
               rw [h01,h02]
               simp only [Nat.zero_mul,Nat.add_zero,Nat.sub_zero,ite_self,← hMe]
               exact htok
             · simp only [if_neg hn,TokOk]
   · cases hf
 · cases hf
theorem slice_ms {t e:Nat} (hu:P.underlying t=some (.slice e)) {inf:TypeInfo} (hi2:P.info? e=some inf) {b off len:Nat}
 {x':Value} (hx:VRel K (.ms b off len inf.size) x')
 {lo hi mx:Option AV} {lo' hi' mx':Option Value} (hlo:∀ a,lo=some a→∃ v,lo'=some v∧VRel K a v) (hlo0:lo=none→lo'=none)
 (hhi:∀ a,hi=some a→∃ v,hi'=some v∧VRel K a v) (hhi0:hi=none→hi'=none) (hmx0:mx=none→mx'=none)
 {v:AV} (hf:sliceA (.ms b off len inf.size) lo hi mx=some v):∃ v',(Instr.sliceAt t x' lo' hi' mx').run P w=.ok v' w∧VRel K v v':=by
 unfold sliceA at hf
 simp only at hf
 split at hf
 · rename_i l h el eh
   split at hf
   · rename_i hc
     obtain⟨c1,c2,c3,c4⟩:=hc
     simp only [Option.some.injEq] at hf
     subst hf
     rw [hmx0 rfl]
     simp only [VRel] at hx
     obtain⟨B,cap,hm,rfl,hcap,hpos,hbs⟩:=hx
     have hb:=run_sliceBounds (P:=P) (w:=w) (K:=K) (isS:=true) (len:=len) (cap:=cap) hlo hlo0 hhi hhi0 (mx:=none) (mx':=none) (by simp) (by simp) el eh ⟨c1,c2,c3⟩ hcap (by simp)
     simp only [Option.isSome_none,Bool.false_eq_true,if_false] at hb
     have hne:¬ cap=l.toNat:=by omega
     refine⟨.slice (some ⟨B,off+l.toNat*inf.size,none⟩) (h.toNat-l.toNat) (cap-l.toNat),?_,?_⟩
     · simp only [Instr.sliceAt,Instr.slice,Sem.run_bind,run_underlying hu,Result.andThen_ok,hb]
       simp [sizeOf,typeInfo,hi2,addr_add,hne]
     · simp only [VRel]
       refine⟨B,cap-l.toNat,hm,rfl,by omega,by omega,?_⟩
       have:cap*inf.size=l.toNat*inf.size+(cap-l.toNat)*inf.size:=by rw [← Nat.add_mul];congr 1;omega
       omega
   · rename_i hc1
     split at hf
     · rename_i hc
       obtain⟨c1,c2⟩:=hc
       simp only [Option.some.injEq] at hf
       subst hf
       rw [hmx0 rfl]
       simp only [VRel] at hx
       obtain⟨B,cap,hm,rfl,hcap,hpos,hbs⟩:=hx
       have hb:=run_sliceBounds (P:=P) (w:=w) (K:=K) (isS:=true) (len:=len) (cap:=cap) hlo hlo0 hhi hhi0 (mx:=none) (mx':=none) (by simp) (by simp) el eh ⟨by omega,by omega,by omega⟩ hcap (by simp)
       simp only [Option.isSome_none,Bool.false_eq_true,if_false] at hb
       refine⟨.slice (some (if cap=l.toNat then ⟨B,off,none⟩ else ⟨B,off+l.toNat*inf.size,none⟩)) (h.toNat-l.toNat) (cap-l.toNat),?_,?_⟩
       · simp only [Instr.sliceAt,Instr.slice,Sem.run_bind,run_underlying hu,Result.andThen_ok,hb]
         by_cases hcl:cap=l.toNat<;>simp [sizeOf,typeInfo,hi2,addr_add,hcl]
       · have e0:h.toNat-l.toNat=0:=by omega
         simp only [VRel]
         right
         by_cases hcl:cap=l.toNat
         · exact⟨B,off,cap-l.toNat,by rw [if_pos hcl,e0];rfl,by simp,by simp [RowsAt],by simp [TokOk]⟩
         · exact⟨B,off+l.toNat*inf.size,cap-l.toNat,by rw [if_neg hcl,e0];rfl,by simp,by simp [RowsAt],by simp [TokOk]⟩
     · cases hf
 · cases hf
theorem len_sound (h:WRel G w0 ro0 K σ w) {t:Nat} {x v:AV} {x':Value} (hx:VRel K x x') (ty:Nat) (hf:lenA (Dof P) σ t x=some v) :
 ∃ v',(Builtin.len_ #[t] ty #[x']).run P w=.ok v' w∧VRel K v v':=by
 unfold lenA at hf
 split at hf
 · rename_i i hD
   obtain⟨inf,d,z,hi,hu,_,rfl⟩:=Dof_spec hD
   simp only at hf
   split at hf
   · rename_i s hd
     have:=td_str hd;subst this
     simp only [Option.some.injEq] at hf;subst hf
     simp only [VRel] at hx;subst hx
     exact⟨.int .i64 s.length,by simp [Builtin.len_,run_underlying hu,goInt,str_size],by simp [VRel]⟩
   · rename_i e sz rows tok hd
     have:=td_sl hd;subst this
     simp only [Option.some.injEq] at hf;subst hf
     simp only [VRel] at hx
     rcases hx with ⟨⟨a0,rfl,_⟩,rfl,_⟩|⟨B,off,cap,rfl,_⟩
     · exact⟨.int .i64 0,by simp [Builtin.len_,run_underlying hu,goInt],by simp [VRel]⟩
     · exact⟨.int .i64 rows.length,by simp [Builtin.len_,run_underlying hu,goInt],by simp [VRel]⟩
   · rename_i e b off len sz hd
     have:=td_sl hd;subst this
     simp only [Option.some.injEq] at hf;subst hf
     simp only [VRel] at hx
     obtain⟨B,cap,hm,rfl,_⟩:=hx
     exact⟨.int .i64 len,by simp [Builtin.len_,run_underlying hu,goInt],by simp [VRel]⟩
   · rename_i n e hd
     have:=td_arr hd;subst this
     simp only [Option.some.injEq] at hf;subst hf
     exact⟨.int .i64 n,by simp [Builtin.len_,run_underlying hu,goInt],by simp [VRel]⟩
   · rename_i k e hd
     have:=td_map hd;subst this
     simp only [Option.some.injEq] at hf;subst hf
     simp only [VRel] at hx;subst hx
     exact⟨.int .i64 0,by simp [Builtin.len_,run_underlying hu,goInt],by simp [VRel]⟩
   · rename_i k e b hd
     have:=td_map hd;subst this
     split at hf
     · rename_i es clock hb
       simp only [Option.some.injEq] at hf;subst hf
       simp only [VRel] at hx
       obtain⟨B,hm,rfl⟩:=hx
       obtain⟨B',h1,_,_,⟨es',h4,h5,_⟩,_⟩:=h.blk b _ hb
       rw [hm] at h1;cases h1
       exact⟨.int .i64 es.length,by simp [Builtin.len_,run_underlying hu,goInt,getObj,Sem.run,h4,h5],by simp [VRel]⟩
     · cases hf
   · cases hf
 · cases hf
theorem min_sound {x y v:AV} {x' y':Value} (hx:VRel K x x') (hy:VRel K y y') (ts:Array Nat) (ty:Nat) (hf:min2A x y=some v) :
 ∃ v',(Builtin.min_ ts ty #[x',y']).run P w=.ok v' w∧VRel K v v':=by
 unfold min2A at hf
 split at hf
 · rename_i k a k' b
   simp only [Option.some.injEq] at hf;subst hf
   simp only [VRel] at hx hy;subst hx;subst hy
   exact⟨.int k (if b<a then b else a),by simp [Builtin.min_,Builtin.min2],by simp [VRel]⟩
 · cases hf
theorem min3_sound {x y z v:AV} {x' y' z':Value} (hx:VRel K x x') (hy:VRel K y y') (hz:VRel K z z') (ts:Array Nat) (ty:Nat) (hf:min3A x y z=some v) :
 ∃ v',(Builtin.min_ ts ty #[x',y',z']).run P w=.ok v' w∧VRel K v v':=by
 unfold min3A at hf
 split at hf
 · rename_i k a k' b k'' c
   simp only [Option.some.injEq] at hf;subst hf
   simp only [VRel] at hx hy hz;subst hx;subst hy;subst hz
   exact⟨.int k (if c<(if b<a then b else a) then c else if b<a then b else a),by simp [Builtin.min_,Builtin.min2],by simp [VRel]⟩
 · cases hf
theorem max_sound {x y v:AV} {x' y':Value} (hx:VRel K x x') (hy:VRel K y y') (ts:Array Nat) (ty:Nat) (hf:max2A x y=some v) :
 ∃ v',(Builtin.max_ ts ty #[x',y']).run P w=.ok v' w∧VRel K v v':=by
 unfold max2A at hf
 split at hf
 · rename_i k a k' b
   simp only [Option.some.injEq] at hf;subst hf
   simp only [VRel] at hx hy;subst hx;subst hy
   exact⟨.int k (if b > a then b else a),by simp [Builtin.max_,Builtin.max2],by simp [VRel]⟩
 · cases hf
end
end
section
section
variable {P:Program} {G:Nat→AV} {w0:World} {ro0:Nat→Nat→Option Value} {K:Kn} {σ:St} {w w':World}
/-- The kit's 'run_append_room', the row's own type left open. -/
theorem run_append_room' (t ty e el:TypeId) (i:TypeInfo) (ht:P.underlying t=some (.slice e)) (hi:P.info? e=some i)
 (g sLen sCap:Nat) (cur:Array Value) (hg:w.heap[g]?=some (.cells cur el (0,0)))
 (a:Addr) (m c:Nat) (news:List Value) (hl:news.length=m*i.size) (hnews:∀ (j:Nat) (u:Value),news[j]?=some u→w.cell? (a.add j)=some u) (h1:∀ u∈news,u.oneCell'=true)
 (hroom:sLen+m≤sCap) (hfit:sLen*i.size+news.length≤cur.size) :
 (Builtin.append_ #[t,t] ty #[.slice (some ⟨g,0,none⟩) sLen sCap,.slice (some a) m c]).run P w =
   .ok (.slice (some ⟨g,0,none⟩) (sLen+m) sCap) (w.setRow g (cur.toList.take (sLen*i.size)++news++cur.toList.drop (sLen*i.size+news.length)).toArray):=by
 have hf:=run_firstCells_some (P:=P) w i.size m a m c news hl hnews
 have hst:=run_storeCells_at P g (sLen*i.size) el news 0 cur w hg (by simpa using hfit) h1
 simp only [Nat.add_zero] at hst
 simp [Builtin.append_,run_underlying ht,sizeOf,typeInfo,hi,Builtin.lenOf,hroom,hf,Addr.add_lit,hst]
/-- What is read of rows in memory. -/
theorem rows_read (h:WRel G w0 ro0 K σ w) {B off sz:Nat} {rows:List (List AV)} (hr:RowsAt K B off sz rows) :
 ∃ vs:List Value,VRels K rows.flatten vs∧vs.length=rows.length*sz∧(∀ (j:Nat) (v:Value),vs[j]?=some v→w.cell? ((⟨B,off,none⟩:Addr).add j)=some v) ∧
  rows.flatten.all AV.atom=true∧∀ v∈vs,v.oneCell'=true:=by
 obtain⟨f1,f2,f3⟩:=RowsAt.flat B sz rows off hr
 obtain⟨vs,g1,g2⟩:=Lies.of_cellsAt h.ro B _ off f1
 exact⟨vs,g1,by rw [g1.length,f2],fun j v e=>by rw [addr_add];exact g2 j v e,f3,g1.oneCells f3⟩
theorem rows_len {B off sz:Nat} {rows:List (List AV)} (hr:RowsAt K B off sz rows):∀ r∈rows,r.length=sz:=by
 intro r hx
 obtain⟨i,hi⟩:=List.getElem?_of_mem hx
 exact (RowsAt.get B sz rows off hr i r hi).1
/-- The value behind growth into a new block. -/
theorem grown_rel {B' sz k t n newCap:Nat} {rows:List (List AV)} {vs:List Value} {K':Kn} (hv:VRels K rows.flatten vs) (hl:vs.length=rows.length*sz) (hrl:∀ r∈rows,r.length=sz) (hat:rows.flatten.all AV.atom=true)
 (hle:K.le K') (hro:∀ (j:Nat) (v:Value),vs[j]?=some v→K'.ro B' j=some v) (hcap:rows.length≤newCap) (ht:t<K'.nch) (C:Chn) (hC:K'.ch t=some C) (hCk:C.k=k) (hCB:C.B=B') (hCs:C.sz=sz)
 (hCf:C.fin=vs.length) (hCc:C.cap=newCap*sz):VRel K' (.sl sz rows (.chain t k)) (.slice (some ⟨B',0,none⟩) rows.length newCap):=by
 simp only [VRel]
 refine .inr ⟨B',0,newCap,rfl,hcap,rows_of_flat rows 0 hrl hat (CellsAt.intro B' _ 0 fun i a e=>?_),?_⟩
 · obtain⟨v,e1,e2⟩:=hv.get i a e
   exact⟨v,by simpa using hro i v e1,e2.mono hle⟩
 · refine⟨ht,fun C' hC'=>?_⟩
   rw [hC] at hC'
   cases hC'
   exact⟨by omega,fun _=>⟨hCB,hCs,rfl,by rw [hCf,hl],hCc.symm⟩⟩
theorem append_sound (h:WRel G w0 ro0 K σ w) {t:Nat} {s x v:AV} {s' x':Value} (hs:VRel K s s') (hx:VRel K x x') (ty:Nat) {σ':St} (hf:appendA (Dof P) σ t s x=some (v,σ')) :
 Ran P G w0 ro0 K w (Builtin.append_ #[t,t] ty #[s',x']) v σ':=by
 unfold appendA at hf
 split at hf
 · rename_i i sz rows tok sz2 rows2 hD hro
   obtain⟨inf,d,z,hi,hu,_,rfl⟩:=Dof_spec hD
   simp only at hf
   split at hf
   · rename_i e hd
     have hd':=td_sl hd
     subst hd'
     split at hf
     · rename_i j hj
       obtain⟨inf2,d2,z2,hi2,hu2,hz2,rfl⟩:=Dof_spec hj
       simp only at hf
       split at hf
       · rename_i hc
         obtain⟨hc1,hc2,hc3,hc4,hc5,hc6⟩:=hc
         have hzs:z2.cells.size=inf2.size:=by simpa using hc4
         cases x<;>simp only [rowsOf] at hro<;>try (cases hro;done)
         rename_i szx rowsx tokx
         simp only [Option.some.injEq,Prod.mk.injEq] at hro
         obtain⟨rfl,rfl⟩:=hro
         split at hf
         · -- nothing is appended
           rename_i hn
           subst hn
           simp only [Option.some.injEq,Prod.mk.injEq] at hf
           obtain⟨rfl,rfl⟩:=hf
           refine Ran.same h (v':=s') ?_ hs
           have hx0:∃ bx cx,x'=.slice bx 0 cx:=by
            simp only [VRel] at hx
            rcases hx with ⟨⟨a0,rfl,_⟩,_⟩|⟨B2,off2,cap2,rfl,_⟩
            · exact⟨_,_,rfl⟩
            · exact⟨_,_,rfl⟩
           obtain⟨bx,cx,rfl⟩:=hx0
           have hf0:(Builtin.firstCells inf2.size 0 (.slice bx 0 cx)).run P w=.ok #[] w:=by
            cases bx<;>simp [Builtin.firstCells,loadCells,loadCellsFrom]
           simp only [VRel] at hs
           rcases hs with ⟨⟨a0,rfl,_⟩,rfl,_⟩|⟨B,off,cap,rfl,hcap,_⟩
           · cases a0<;>simp [storeCells,Builtin.append_,run_underlying hu,sizeOf,typeInfo,hi2,Builtin.lenOf,hf0]
           · simp [Builtin.append_,run_underlying hu,sizeOf,typeInfo,hi2,Builtin.lenOf,hcap,hf0,storeCells]
         · rename_i hn
           have hnpos:0<rowsx.length:=List.length_pos_iff.2 hn
           have hszx:szx=inf2.size:=hc2.resolve_right hn
           subst hszx
           simp only [VRel] at hx
           rcases hx with ⟨_,rfl,_⟩|⟨B2,off2,cap2,rfl,hcap2,hrows2,_⟩
           · exact absurd rfl hn
           obtain⟨news,n1,n2,n3,n4,n5⟩:=rows_read h hrows2
           have hn48:rowsx.length*inf2.bytes≤140737488355328:=by
            calc rowsx.length*inf2.bytes≤549755813888*256:=Nat.mul_le_mul (by omega) hc5
             _≤140737488355328:=by omega
           have hb48:(rows.length+rowsx.length)*inf2.bytes≤140737488355328:=by
            calc (rows.length+rowsx.length)*inf2.bytes≤549755813888*256:=Nat.mul_le_mul hc6 hc5
             _≤140737488355328:=by omega
           have rl2:=rows_len hrows2
           -- growth into a new block,from whatever is there
           have grow:∀ (olds:List Value) (tt k n:Nat) (T':List (Option Nat)),VRels K rows.flatten olds→olds.length=rows.length*inf2.size→(∀ r∈rows,r.length=inf2.size)→rows.flatten.all AV.atom=true →
            (∀ u k',T'[u]?=some (some k')→(u=tt∧k'=k)∨(u≠tt∧σ.T[u]?=some (some k')))→T'[tt]?=some (some k)→(∀ u C,u≠tt→K.ch u=some C→∃ k',T'[u]?=some (some k'))→n=T'.length→K.nch≤n→tt<n →
            (tt<K.nch→∃ C,K.ch tt=some C∧C.k<k)→∀ old:Nat,
            ∃ K',K.le K'∧WRel G w0 ro0 K' { σ with T:=T' } (w.drew.alloc (.cells (olds.toArray++news.toArray++Builtin.zeroCells z2.cells (grownCap w (rows.length+rowsx.length) old e-(rows.length+rowsx.length))) e)) ∧
             VRel K' (.sl inf2.size (rows++rowsx) (.chain tt k)) (.slice (some ⟨w.heap.size,0,none⟩) (rows.length+rowsx.length) (grownCap w (rows.length+rowsx.length) old e)):=by
            intro olds tt k n T' o1 o2 rl1 oa hT hTt hTk hn' hnch htn hk old
            have hge:=grownCap_ge w (rows.length+rowsx.length) old e
            generalize hcapN:grownCap w (rows.length+rowsx.length) old e=newCap at hge
            have hsize:(olds.toArray++news.toArray++Builtin.zeroCells z2.cells (newCap-(rows.length+rowsx.length))).size=newCap*inf2.size:=by
             simp only [Array.size_append,List.size_toArray,size_zeroCells,hzs,o2,n2,← Nat.add_mul]
             congr 1
             omega
            have hvl:(olds++news).length=(rows++rowsx).length*inf2.size:=by simp [o2,n2,Nat.add_mul]
            obtain⟨w1,w2⟩:=h.drew.chainNew (olds++news) (olds.toArray++news.toArray++Builtin.zeroCells z2.cells (newCap-(rows.length+rowsx.length))) e
             (fun j v ev=>by
               have hjl:=(List.getElem?_eq_some_iff.1 ev).1
               rw [Array.getElem?_append_left (by simpa using hjl),← ev]
               simp) tt k n T' hT hTt hTk hn' hnch hk inf2.size (by
                rw [hsize,hvl]
                simp only [List.length_append]
                exact Nat.mul_le_mul_right _ hge)
            refine⟨_,w2,w1,?_⟩
            have:=grown_rel (K:=K) (B':=w.heap.size) (sz:=inf2.size) (k:=k) (t:=tt) (n:=n) (newCap:=newCap) (rows:=rows++rowsx) (vs:=olds++news)
             (by rw [List.flatten_append];exact o1.append n1) hvl (fun r hr=>by rcases List.mem_append.1 hr with hr | hr;exact rl1 r hr;exact rl2 r hr) (by rw [List.flatten_append,List.all_append,oa,n4];rfl)
             w2 (fun j v ev=>by
              have hjl:=(List.getElem?_eq_some_iff.1 ev).1
              show (if w.drew.heap.size=w.drew.heap.size∧0≤j∧j<0+(olds++news).length then (olds++news)[j-0]? else K.ro w.heap.size j)=some v
              rw [if_pos ⟨rfl,by omega,by omega⟩]
              exact ev) (by simpa using hge) htn ⟨k,w.heap.size,(olds++news).length,(olds.toArray++news.toArray++Builtin.zeroCells z2.cells (newCap-(rows.length+rowsx.length))).size,inf2.size⟩ (if_pos rfl) rfl rfl rfl rfl hsize
            simpa using this
           split at hf
           · cases hf
           · -- the nil slice
             simp only [Option.some.injEq,Prod.mk.injEq] at hf
             obtain⟨rfl,rfl⟩:=hf
             simp only [VRel] at hs
             rcases hs with ⟨⟨a0,rfl,ha0⟩,rfl,_⟩|⟨B,off,cap,rfl,hcap,hrows,htok⟩
             · obtain rfl:=ha0.resolve_right (by simp)
               obtain⟨K',k1,k2,k3⟩:=grow [] σ.T.length rowsx.length (σ.T.length+1) (σ.T++[some rowsx.length]) (by simp [VRels]) (by simp) (by simp) (by simp)
                (fun u k' eu=>by
                  rw [List.getElem?_append] at eu
                  split at eu
                  · rename_i hu';exact .inr ⟨by omega,eu⟩
                  · rename_i hu'
                    have:u-σ.T.length=0:=by
                     rcases Nat.eq_zero_or_pos (u-σ.T.length) with h0|h0
                     · exact h0
                     · rw [List.getElem?_eq_none (by simp;omega)] at eu;cases eu
                    rw [this] at eu
                    simp at eu
                    exact .inl ⟨by omega,eu.symm⟩)
                (by simp) (fun u C hu' hC=>by obtain⟨k',hk'⟩:=h.chd u C hC;exact⟨k',by rw [List.getElem?_append_left (List.getElem?_eq_some_iff.1 hk').1];exact hk'⟩) (by simp) (by rw [h.nch];omega) (by omega) (fun hlt=>by rw [h.nch] at hlt;omega) 0
               have hr:=run_append_nil (P:=P) w t ty e inf2 z2 hu hi2 hz2 ⟨B2,off2,none⟩ rowsx.length cap2 news n2 n3 hnpos (by omega) (by omega)
               simp only [List.length_nil,Nat.zero_add,List.nil_append,Array.empty_append] at k2 k3
               exact⟨_,_,K',hr,k1,k2,k3⟩
             · simp only [TokOk] at htok
           · -- no spare room
             simp only [Option.some.injEq,Prod.mk.injEq] at hf
             obtain⟨rfl,rfl⟩:=hf
             have hT1:∀ u k',(σ.T++[some rowsx.length])[u]?=some (some k')→(u=σ.T.length∧k'=rowsx.length)∨(u≠σ.T.length∧σ.T[u]?=some (some k')):=fun u k' eu=>by
              rw [List.getElem?_append] at eu
              split at eu
              · rename_i hu';exact .inr ⟨by omega,eu⟩
              · rename_i hu'
                have:u-σ.T.length=0:=by
                 rcases Nat.eq_zero_or_pos (u-σ.T.length) with h0|h0
                 · exact h0
                 · rw [List.getElem?_eq_none (by simp;omega)] at eu;cases eu
                rw [this] at eu
                simp at eu
                exact .inl ⟨by omega,eu.symm⟩
             have hT2:∀ u C,u≠σ.T.length→K.ch u=some C→∃ k',(σ.T++[some rowsx.length])[u]?=some (some k'):=fun u C hu' hC=>by
              obtain⟨k',hk'⟩:=h.chd u C hC;exact⟨k',by rw [List.getElem?_append_left (List.getElem?_eq_some_iff.1 hk').1];exact hk'⟩
             simp only [VRel] at hs
             rcases hs with ⟨⟨a0,rfl,ha0⟩,rfl,_⟩|⟨B,off,cap,rfl,hcap,hrows,htok⟩
             · obtain rfl:=ha0.resolve_right (by simp)
               obtain⟨K',k1,k2,k3⟩:=grow [] σ.T.length rowsx.length (σ.T.length+1) (σ.T++[some rowsx.length]) (by simp [VRels]) (by simp) (by simp) (by simp) hT1
                (by simp) hT2 (by simp) (by rw [h.nch];omega) (by omega) (fun hlt=>by rw [h.nch] at hlt;omega) 0
               have hr:=run_append_nil (P:=P) w t ty e inf2 z2 hu hi2 hz2 ⟨B2,off2,none⟩ rowsx.length cap2 news n2 n3 hnpos (by omega) (by omega)
               simp only [List.length_nil,Nat.zero_add,List.nil_append,Array.empty_append] at k2 k3
               exact⟨_,_,K',hr,k1,k2,k3⟩
             · simp only [TokOk] at htok
               subst htok
               have hrl1:∀ r∈rows,r.length=sz:=rows_len hrows
               obtain⟨olds,o1,o2,o3,o4,o5⟩:=rows_read h hrows
               have hszr:sz=inf2.size∨rows=[]:=hc1
               have o2':olds.length=rows.length*inf2.size:=by
                rcases hszr with rfl|hr0
                · exact o2
                · subst hr0;simpa using o2
               have hrl1':∀ r∈rows,r.length=inf2.size:=by
                rcases hszr with rfl|hr0
                · exact hrl1
                · subst hr0;simp
               obtain⟨K',k1,k2,k3⟩:=grow olds σ.T.length rowsx.length (σ.T.length+1) (σ.T++[some rowsx.length]) o1 o2' hrl1' o4 hT1
                (by simp) hT2 (by simp) (by rw [h.nch];omega) (by omega) (fun hlt=>by rw [h.nch] at hlt;omega) rows.length
               have hr:=run_append_grow (P:=P) w t ty e inf2 z2 hu hi2 hz2 ⟨B,off,none⟩ rows.length rows.length olds o2' o3 ⟨B2,off2,none⟩ rowsx.length cap2 news n2 n3 (by omega) (by omega) (growslice_fits (by omega) hb48)
               exact⟨_,_,K',hr,k1,k2,k3⟩
           · -- a row with a free end
             rename_i ct ck
             split at hf
             · rename_i hct
               obtain⟨hszr,hct⟩:=hct
               subst hszr
               simp only [Option.some.injEq,Prod.mk.injEq] at hf
               obtain⟨rfl,rfl⟩:=hf
               simp only [VRel] at hs
               rcases hs with ⟨_,_,hpl⟩|⟨B,off,cap,rfl,hcap,hrows,htok⟩
               · exact hpl.elim
               · obtain⟨ht1,ht2⟩:=htok
                 obtain⟨C,c1,c2,c3,c4,⟨cs,el,c5,c6⟩,c7,c8⟩:=h.ch ct ck hct
                 obtain⟨_,t2⟩:=ht2 C c1
                 obtain⟨t3,t4,t5,t6,t7⟩:=t2 c2.symm
                 have hctl:ct<σ.T.length:=(List.getElem?_eq_some_iff.1 hct).1
                 subst t5
                 have hrl1:∀ r∈rows,r.length=inf2.size:=rows_len hrows
                 obtain⟨olds,o1,o2,o3,o4,o5⟩:=rows_read h hrows
                 by_cases hroom:rows.length+rowsx.length≤cap
                 · have hB:C.B=B:=t3
                   subst hB
                   have hmul:rows.length*inf2.size+rowsx.length*inf2.size≤cap*inf2.size:=by rw [← Nat.add_mul];exact Nat.mul_le_mul_right _ hroom
                   have hr:=run_append_room' (P:=P) (w:=w) t ty e el inf2 hu hi2 C.B rows.length cap cs c5 ⟨B2,off2,none⟩ rowsx.length cap2 news n2 n3 n5 hroom (by rw [n2,c6];omega)
                   have hcsl:cs.toList.length=C.cap:=by simpa using c6
                   have hmin:min (rows.length*inf2.size) cs.toList.length=rows.length*inf2.size:=by omega
                   obtain⟨w1,w2⟩:=h.chainIn c1 (by rw [hct]) news (cs.toList.take (rows.length*inf2.size)++news++cs.toList.drop (rows.length*inf2.size+news.length)).toArray el (ck+rowsx.length) (by omega)
                    (w':=w.setRow C.B (cs.toList.take (rows.length*inf2.size)++news++cs.toList.drop (rows.length*inf2.size+news.length)).toArray) rfl rfl rfl (by simp [World.setRow]) (fun j hj=>setRow_other w C.B j _ hj)
                    (setRow_heap w C.B cs _ el _ c5) (by simp only [List.size_toArray,List.length_append,List.length_take,List.length_drop,hmin,n2];omega) (by rw [n2];omega)
                    (fun j v ev=>by
                      have hjl:=(List.getElem?_eq_some_iff.1 ev).1
                      rw [List.getElem?_toArray,List.append_assoc,List.getElem?_append_right (by simp only [List.length_take,hmin];omega),List.getElem?_append_left (by simp only [List.length_take,hmin];omega)]
                      simp only [List.length_take,hmin,← t6]
                      rw [show rows.length*inf2.size+j-rows.length*inf2.size=j by omega]
                      exact ev)
                    (fun cs2 el2 e2 j hj=>by
                      rw [c5] at e2
                      cases e2
                      rw [List.getElem?_toArray,List.append_assoc,List.getElem?_append_left (by simp only [List.length_take,hmin];omega),List.getElem?_take,if_pos (by omega)]
                      simp)
                   refine⟨_,_,_,hr,w2,w1,?_⟩
                   have hro:∀ (j:Nat) (u:Value),(olds++news)[j]?=some u→((K.addRo C.B C.fin news).setCh ct ⟨ck+rowsx.length,C.B,C.fin+news.length,C.cap,C.sz⟩ K.nch).ro C.B j=some u:=by
                    intro j u eu
                    show (if C.B=C.B∧C.fin≤j∧j<C.fin+news.length then news[j-C.fin]? else K.ro C.B j)=some u
                    rw [List.getElem?_append] at eu
                    split at eu
                    · rename_i hjl
                      rw [if_neg (by omega)]
                      have hcol:=RowsAt.flat C.B inf2.size rows 0 hrows
                      obtain⟨a0,ha0⟩:∃ a0,rows.flatten[j]?=some a0:=⟨_,List.getElem?_eq_getElem (by rw [← o1.length];exact hjl)⟩
                      obtain⟨v0,e0,_⟩:=CellsAt.get C.B _ 0 hcol.1 j a0 ha0
                      have hc0:=h.ro _ _ _ e0
                      have hu0:=o3 j u eu
                      rw [addr_add] at hu0
                      rw [hu0] at hc0
                      rw [hc0]
                      simpa using e0
                    · rename_i hjl
                      have hjl2:=(List.getElem?_eq_some_iff.1 eu).1
                      rw [if_pos ⟨rfl,by omega,by omega⟩,← t6,← o2]
                      exact eu
                   have hvl:(olds++news).length=(rows++rowsx).length*inf2.size:=by simp [o2,n2,Nat.add_mul]
                   have:=grown_rel (K:=K) (B':=C.B) (sz:=inf2.size) (k:=ck+rowsx.length) (t:=ct) (n:=0) (newCap:=cap) (rows:=rows++rowsx) (vs:=olds++news)
                    (by rw [List.flatten_append];exact o1.append n1) hvl (fun r hr=>by rcases List.mem_append.1 hr with hr | hr;exact hrl1 r hr;exact rl2 r hr) (by rw [List.flatten_append,List.all_append,o4,n4];rfl)
                    w2 hro (by simpa using hroom) (by show ct<K.nch;rw [h.nch];exact hctl) ⟨ck+rowsx.length,C.B,C.fin+news.length,C.cap,C.sz⟩ (if_pos rfl) rfl rfl t4
                    (by simp only [List.length_append,o2,t6]) (by simp only [← t7])
                   simpa using this
                 · obtain⟨K',k1,k2,k3⟩:=grow olds ct (ck+rowsx.length) σ.T.length (σ.T.set ct (some (ck+rowsx.length))) o1 o2 hrl1 o4
                    (fun u k' eu=>by
                      by_cases hu':u=ct
                      · subst hu';simp [hctl] at eu;exact .inl ⟨rfl,eu.symm⟩
                      · rw [List.getElem?_set_ne (Ne.symm hu')] at eu;exact .inr ⟨hu',eu⟩)
                    (by simp [hctl]) (fun u C' hu' hC'=>by obtain⟨k',hk'⟩:=h.chd u C' hC';exact⟨k',by rw [List.getElem?_set_ne (Ne.symm hu')];exact hk'⟩) (by simp) (by rw [h.nch];omega) hctl
                    (fun _=>⟨C,c1,by omega⟩) cap
                   have hr:=run_append_grow (P:=P) w t ty e inf2 z2 hu hi2 hz2 ⟨B,0,none⟩ rows.length cap olds o2 o3 ⟨B2,off2,none⟩ rowsx.length cap2 news n2 n3 (by omega) (by omega) (growslice_fits (by omega) hb48)
                   exact⟨_,_,K',hr,k1,k2,k3⟩
             · cases hf
       · cases hf
     · cases hf
   · cases hf
 · cases hf
end
end
end Go.Abs
end
