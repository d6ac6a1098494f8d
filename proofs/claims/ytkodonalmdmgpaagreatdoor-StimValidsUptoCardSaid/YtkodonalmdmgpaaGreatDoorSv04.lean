import Derived.Test.YtkodonalmdmgpaaGreatDoorSv03
set_option linter.all false
set_option linter.defProp false
section
namespace Go.Abs
open Go Go.RowKit
section
section
variable {P:Program} {G:Nat→AV} {w0:World} {ro0:Nat→Nat→Option Value} {K:Kn} {σ:St} {w w':World}
theorem wrap_small {n:Int} (h0:0≤n) (h1:n≤549755813888):IntKind.i64.wrap n=n:=by
 have:n % 18446744073709551616=n:=Int.emod_eq_of_lt h0 (by omega)
 simp only [IntKind.wrap,IntKind.bits,IntKind.signed,Bool.true_and]
 simp only [show ((2:Int) ^ (64:Nat))=18446744073709551616 from rfl,show ((2:Int) ^ ((64:Nat)-1))=9223372036854775808 from rfl,this]
 rw [if_neg (by simp;omega)]
theorem T_push {T:List (Option Nat)} {n:Nat} (u k':Nat) (eu:(T++[some n])[u]?=some (some k')):(u=T.length∧k'=n)∨(u≠T.length∧T[u]?=some (some k')):=by
 rw [List.getElem?_append] at eu
 split at eu
 · rename_i hu';exact .inr ⟨by omega,eu⟩
 · rename_i hu'
   have:u-T.length=0:=by
    rcases Nat.eq_zero_or_pos (u-T.length) with h0|h0
    · exact h0
    · rw [List.getElem?_eq_none (by simp;omega)] at eu;cases eu
   rw [this] at eu
   simp at eu
   exact .inl ⟨by omega,eu.symm⟩
theorem makeSlice_sound (h:WRel G w0 ro0 K σ w) {t:Nat} {l c v:AV} {l' c':Value} (hl:VRel K l l') (hc:VRel K c c') {σ':St} (hf:makeSliceA (Dof P) σ t l c=some (v,σ')) :
 Ran P G w0 ro0 K w (Instr.makeSlice t l' c') v σ':=by
 unfold makeSliceA at hf
 split at hf
 · rename_i i ln cn hD hln hcn
   obtain⟨inf,d,z,hi,hu,_,rfl⟩:=Dof_spec hD
   obtain⟨k1,rfl⟩:=asInt_spec hln hl
   obtain⟨k2,rfl⟩:=asInt_spec hcn hc
   simp only at hf
   split at hf
   · rename_i e hd
     have hd':=td_sl hd
     subst hd'
     split at hf
     · rename_i j hj
       obtain⟨inf2,d2,z2,hi2,hu2,hz2,rfl⟩:=Dof_spec hj
       simp only at hf
       split at hf
       · rename_i hcond
         obtain⟨b1,b2,b3,b4,b5,b6,b7⟩:=hcond
         have hzs:z2.cells.size=inf2.size:=by simpa using b6
         have hwl:IntKind.i64.wrap ln=ln:=wrap_small b1 (by omega)
         have hwc:IntKind.i64.wrap cn=cn:=wrap_small (by omega) b3
         have hcb:cn.toNat*inf2.bytes≤140737488355328:=by
          calc cn.toNat*inf2.bytes≤549755813888*256:=Nat.mul_le_mul (by omega) b4
           _≤140737488355328:=by omega
         have hcb':(inf2.bytes:Int)*cn≤140737488355328:=by
          have:((cn.toNat*inf2.bytes:Nat):Int)≤((140737488355328:Nat):Int):=Int.ofNat_le.2 hcb
          rw [Int.natCast_mul,Int.toNat_of_nonneg (by omega),Int.mul_comm] at this
          exact this
         have hlarge:¬ (281474976710656<(inf2.bytes:Int)*cn):=by omega
         have hn0:∀ n:Nat,n*inf2.size=0↔n=0:=by
          intro n
          rw [Nat.mul_eq_zero]
          omega
         have hrun:(Instr.makeSlice t (.int k1 ln) (.int k2 cn)).run P w=.ok (.slice (some ⟨w.heap.size,0,none⟩) ln.toNat cn.toNat)
          (w.alloc (.cells ((Array.range (cn.toNat*inf2.size)).map (fun j=>(if cn.toNat*inf2.size=0 then #[] else z2.cells)[j % (if cn.toNat*inf2.size=0 then #[] else z2.cells).size]!)) e)):=by
          simp only [Instr.makeSlice,Sem.run_bind,run_underlying hu,Result.andThen_ok]
          have hnot:¬ (cn<0):=by omega
          have hnl:¬ (ln<0):=by omega
          have hnc:¬ (ln > cn):=by omega
          have hroom:¬ (cn.toNat*inf2.bytes > roomBytes):=by simp only [roomBytes];omega
          by_cases hz:cn.toNat*inf2.size=0
          · simp [asInt,asIntOf,typeInfo,hi2,hwl,hwc,hlarge,hnot,hnl,hnc,askRoom,sizeOf,zeroValue,hz2,newRow,hz]
          · simp [asInt,asIntOf,typeInfo,hi2,hwl,hwc,hlarge,hnot,hnl,hnc,askRoom,sizeOf,zeroValue,hz2,newRow,hz]
         split at hf
         · rename_i hl0
           subst hl0
           simp only [Option.some.injEq,Prod.mk.injEq] at hf
           obtain⟨rfl,rfl⟩:=hf
           obtain⟨w1,w2⟩:=h.chainNew [] ((Array.range (cn.toNat*inf2.size)).map (fun j=>(if cn.toNat*inf2.size=0 then #[] else z2.cells)[j % (if cn.toNat*inf2.size=0 then #[] else z2.cells).size]!)) e (by simp)
            σ.T.length 0 (σ.T.length+1) (σ.T++[some 0]) T_push (by simp)
            (fun u C hu' hC=>by obtain⟨k',hk'⟩:=h.chd u C hC;exact⟨k',by rw [List.getElem?_append_left (List.getElem?_eq_some_iff.1 hk').1];exact hk'⟩) (by simp) (by rw [h.nch];omega)
            (fun hlt=>by rw [h.nch] at hlt;omega) inf2.size (by simp)
           refine⟨_,_,_,hrun,w2,w1,?_⟩
           simp only [VRel]
           refine .inr ⟨w.heap.size,0,cn.toNat,rfl,by simp,by simp [RowsAt],?_⟩
           refine⟨by show σ.T.length<σ.T.length+1;omega,fun C hC=>?_⟩
           have:C=⟨0,w.heap.size,0,cn.toNat*inf2.size,inf2.size⟩:=by
            simp [Kn.setCh] at hC
            exact hC.symm
           subst this
           exact⟨Nat.le_refl _,fun _=>⟨rfl,rfl,rfl,by simp,rfl⟩⟩
         · rename_i hl0
           simp only [Option.some.injEq,Prod.mk.injEq] at hf
           obtain⟨rfl,rfl⟩:=hf
           have hcpos:¬ cn.toNat*inf2.size=0:=by rw [hn0];omega
           rw [if_neg hcpos] at hrun
           have hz0:=zeros_rel (K:=K) (z:=z2) (n:=cn.toNat) (by omega)
           rw [hzs] at hz0
           refine⟨_,_,K.addM σ.H.length w.heap.size (objSize _),hrun,Kn.le_addM h _ _,h.push ?_,?_⟩
           · refine⟨_,e,rfl,?_,?_,?_⟩
             · rw [List.all_eq_true]
               intro x hx
               obtain⟨l,hl1,hl2⟩:=List.mem_flatten.1 hx
               rw [(List.mem_replicate.1 hl1).2] at hl2
               rw [List.all_eq_true] at b7
               exact b7 x hl2
             · have:ln.toNat*inf2.size≤cn.toNat*inf2.size:=Nat.mul_le_mul_right _ (by omega)
               simp [hzs];exact this
             · intro j a ea
               have hjl:j<ln.toNat*inf2.size:=by
                have:=(List.getElem?_eq_some_iff.1 ea).1
                simpa [hzs] using this
               have hle:ln.toNat*inf2.size≤cn.toNat*inf2.size:=Nat.mul_le_mul_right _ (by omega)
               have hzl:(z2.cells.toList.map ofAtom).length=inf2.size:=by simp [hzs]
               rw [replicate_flat_get _ _ _ (by rw [hzl];exact hjl)] at ea
               have e2:((List.replicate cn.toNat (z2.cells.toList.map ofAtom)).flatten)[j]?=some a:=by
                rw [replicate_flat_get _ _ _ (by rw [hzl];omega)];exact ea
               obtain⟨v,e3,e4⟩:=hz0.get j a e2
               refine⟨v,?_,e4⟩
               rw [← Array.getElem?_toList,hzs]
               exact e3
           · simp only [VRel]
             exact⟨w.heap.size,cn.toNat,by simp [Kn.addM],rfl,by omega,by omega,by simp [Kn.addM,objSize,hzs]⟩
       · cases hf
     · cases hf
   · cases hf
 · cases hf
theorem makeMap_sound (h:WRel G w0 ro0 K σ w) (t:Nat):Ran P G w0 ro0 K w (Instr.makeMap t none) (.map σ.H.length) (σ.push (.map [] 0)):=by
 refine⟨.map (some w.heap.size),w.alloc (.map #[] 0),K.addM σ.H.length w.heap.size (objSize _),?_,Kn.le_addM h _ _,h.push ?_,?_⟩
 · simp [Instr.makeMap]
 · exact⟨#[],rfl,rfl,by simp⟩
 · simp only [VRel];exact⟨w.heap.size,by simp [Kn.addM],rfl⟩
theorem mapKeyOk_spec {k:Nat} {v:AV} (h:mapKeyOk (Dof P) k v=true):(∃ kd kk n,P.underlying k=some (.int kd)∧v=.int kk n)∨(∃ s,P.underlying k=some .string∧v=.str s)∨∃ c tds,v=.agg c∧flatT (Dof P) k=some tds∧fitsAll tds c=true:=by
 unfold mapKeyOk at h
 split at h
 · rename_i i hD
   obtain⟨inf,d,z,hi,hu,_,rfl⟩:=Dof_spec hD
   simp only at h
   split at h
   · rename_i kd kk n hd;exact .inl ⟨kd,kk,n,by rw [hu,td_int hd],rfl⟩
   · rename_i s hd;exact .inr (.inl ⟨s,by rw [hu,td_str hd],rfl⟩)
   · rename_i c hd
     obtain⟨tds,h1,h2⟩:=(Option.any_eq_true _ _).1 h
     exact .inr (.inr ⟨c,tds,rfl,h1,h2⟩)
   · cases h
 · cases h
theorem checkFields_run {b : Bool} {m : Nat} {cs : Array Value} {K : Kn} : ∀ (fs : List Field) (k : Nat) (as : List AV), (∀ f ∈ fs, plainT (Dof P) f.type = true ∧ f.name ≠ "_") → fs.map (·.offset) = List.range' k fs.length → as.length = fs.length → VRels K as (cs.toList.drop k) →
 (forIn fs PUnit.unit (fun f (_:PUnit)=>
   if f.name ≠ "_" then do
    let x ← part f.type cs f.offset
    Instr.checkKey b (m+1) f.type x
    pure (ForInStep.yield PUnit.unit)
   else pure (ForInStep.yield PUnit.unit)):Sem PUnit).run P w=.ok PUnit.unit w
 | [],k,as,_,_,_,_=>by simp [pure]
 | f::fs,k,[],_,_,hl,_=>by simp at hl
 | f::fs,k,a::as,hf,ho,hl,hr=>by
  simp only [List.map_cons,List.length_cons,List.range'_succ,List.cons.injEq] at ho
  obtain⟨ho1,ho2⟩:=ho
  simp only [VRels] at hr
  obtain⟨v,vr,e1,hv,hvr⟩:=hr
  have hx:cs[k]?=some v:=by
   have:=List.getElem?_drop (xs:=cs.toList) (i:=k) (j:=0)
   rw [e1] at this
   simpa using this.symm
  have hd:cs.toList.drop (k+1)=vr:=by
   rw [← List.drop_drop,e1];rfl
  obtain⟨hp,hnm⟩:=hf f (by simp)
  obtain⟨inf,hi,hu⟩:=plainT_spec hp
  have hagg:(isAgg f.type).run P w=.ok false w:=by
   rcases hu with hu|hu|⟨k,hu⟩<;>simp [isAgg,run_underlying hu]
  have ih:=checkFields_run (b:=b) (m:=m) (cs:=cs) (K:=K) fs (k+1) as (fun x hx=>hf x (by simp [hx])) ho2 (by simpa using hl) (hd▸hvr)
  have hck:(Instr.checkKey b (m+1) f.type v).run P w=.ok () w:=by
   rw [Instr.checkKey]
   rcases hu with hu|hu|⟨k,hu⟩<;>simp [run_underlying hu]
  have hpt:(part f.type cs k).run P w=.ok v w:=by simp [part,hagg,hx]
  rw [List.forIn_cons]
  simp only [ne_eq,hnm,not_false_eq_true,if_true,Sem.run_bind,ho1,hpt,Result.andThen_ok,hck]
  exact ih
theorem checkKey_run {k:Nat} {v:AV} {v':Value} (h:mapKeyOk (Dof P) k v=true) (hv:VRel K v v') (b:Bool):(Instr.checkKey b 10000 k v').run P w=.ok () w:=by
 have e:Instr.checkKey b 10000 k v'=Instr.checkKey b (9998+1+1) k v':=rfl
 rw [e,Instr.checkKey]
 generalize 9998=m
 rcases mapKeyOk_spec h with ⟨kd,kk,n,hu,rfl⟩|⟨s,hu,rfl⟩|⟨c,tds,rfl,hfl,hfit⟩
 · simp only [VRel] at hv;subst hv;simp [run_underlying hu]
 · simp only [VRel] at hv;subst hv;simp [run_underlying hu]
 · simp only [VRel] at hv
   obtain⟨cs,rfl,hcs⟩:=hv
   obtain⟨fields,hu,hst,rfl,hpl,hoff⟩:=flatT_spec hfl
   obtain⟨hl,hk⟩:=fitsAll_spec _ _ hfit
   have:=checkFields_run (P:=P) (w:=w) (b:=b) (m:=m) (cs:=cs) (K:=K) fields.toList 0 c hpl (by rw [hoff,List.range_eq_range'];simp) (by simpa using hl) (by simpa using hcs)
   simp only [Sem.run_bind,run_underlying hu,Result.andThen_ok]
   rw [← Array.forIn_toList]
   rw [this]
   rfl
theorem str_beq (a b:List UInt8):((⟨a.toArray⟩:ByteArray) == ⟨b.toArray⟩)=(a==b):=by
 rw [beq_toListBytes,str_toList,str_toList]
/-- What a key finds. -/
theorem findNow_run {k:Nat} {x:AV} {x':Value} (hk:(∃ kd kk n,P.underlying k=some (.int kd)∧x=.int kk n)∨∃ s,P.underlying k=some .string∧x=.str s) (hx:VRel K x x'):∀ (es:List (AV×AV×Nat)) (es':List MapEntry) (i:Nat) (r:Option (Nat×AV)),es'.length=es.length →
 (∀ (j:Nat) (k v:AV) (b:Nat),es[j]?=some (k,v,b)→∃ e:MapEntry,es'[j]?=some e∧VRel K k e.key∧VRel K v e.val∧e.born=b)→findA x es i=some r →
 ∃ d r',P.underlying k=some d∧Instr.findNow d x' es' i=some r'∧(match r with
  | some (j,v)=>∃ v',r'=some (j,v')∧VRel K v v'∧i≤j∧∃ e:MapEntry,es'[j-i]?=some e∧Instr.sameBits 10000 e.key x'=true
  | none=>r'=none)
 | [],[],i,r,_,_,hf=>by
  simp [findA] at hf
  subst hf
  rcases hk with ⟨kd,kk,n,hu,rfl⟩|⟨s,hu,rfl⟩
  · exact⟨_,none,hu,rfl,rfl⟩
  · exact⟨_,none,hu,rfl,rfl⟩
 | [],_::_,i,r,hl,_,hf=>by simp at hl
 | _::_,[],i,r,hl,_,hf=>by simp at hl
 | (k1,v1,b1)::es,e1::es',i,r,hl,he,hf=>by
  obtain⟨e0,h1,h2,h3,h4⟩:=he 0 k1 v1 b1 (by simp)
  simp at h1
  subst h1
  have ih:=findNow_run hk hx es es' (i+1)
  simp only [findA] at hf
  have same:∀ p,keyEq x k1=some p→∀ d,P.underlying k=some d→Instr.sameNow d x' e1.key=some p∧(p=true→Instr.sameBits 10000 e1.key x'=true):=by
   intro p hp d hd
   rcases hk with ⟨kd,kk,n,hu,rfl⟩|⟨s,hu,rfl⟩
   · rw [hu] at hd;cases hd
     cases k1<;>simp only [keyEq] at hp<;>try (cases hp;done)
     split at hp
     · rename_i hkk
       subst hkk
       simp only [Option.some.injEq] at hp
       simp only [VRel] at hx h2
       rw [hx,h2]
       refine⟨by simp [Instr.sameNow,hp],fun ht=>?_⟩
       rw [ht] at hp
       have:n=_:=eq_of_beq hp
       simp [Instr.sameBits,this]
     · cases hp
   · rw [hu] at hd;cases hd
     cases k1<;>simp only [keyEq] at hp<;>try (cases hp;done)
     simp only [Option.some.injEq] at hp
     simp only [VRel] at hx h2
     rw [hx,h2]
     refine⟨by simp [Instr.sameNow,str_beq,hp],fun ht=>?_⟩
     rw [ht] at hp
     have:s=_:=eq_of_beq hp
     simp [Instr.sameBits,str_beq,this]
  split at hf
  · rename_i hke
    simp only [Option.some.injEq] at hf
    subst hf
    rcases hk with ⟨kd,kk,n,hu,_⟩|⟨s,hu,_⟩
    all_goals
     obtain⟨s1,s2⟩:=same true hke _ hu
     refine⟨_,some (i,e1.val),hu,by simp only [Instr.findNow,s1],e1.val,rfl,h3,Nat.le_refl _,e1,by simp,s2 rfl⟩
  · rename_i hke
    obtain⟨d,r',g1,g2,g3⟩:=ih r (by simpa using hl) (fun j k v b e=>by simpa using he (j+1) k v b (by simpa using e)) hf
    obtain⟨s1,_⟩:=same false hke d g1
    refine⟨d,r',g1,by simp only [Instr.findNow,s1];exact g2,?_⟩
    cases r with
    | none=>exact g3
    | some jv=>
     obtain⟨j,v⟩:=jv
     obtain⟨v',a1,a2,a3,e,a4,a5⟩:=g3
     refine⟨v',a1,a2,by omega,e,?_,a5⟩
     rw [show j-i=(j-(i+1))+1 by omega]
     simpa using a4
  · cases hf
theorem cellsEq_true:∀ {a b:List AV},cellsEq a b=some true→a=b
 | [],[],_=>rfl
 | [],_::_,h=>by simp [cellsEq] at h
 | _::_,[],h=>by simp [cellsEq] at h
 | x::a,y::b,h=>by
  simp only [cellsEq] at h
  split at h
  · rename_i p q hp hq
    simp only [Option.some.injEq,Bool.and_eq_true] at h
    rw [h.1] at hp;rw [h.2] at hq
    rw [cellsEq_true hq]
    cases x<;>cases y<;>simp only [plainEq] at hp<;>first | (cases hp;done) | skip
    · simp at hp;rw [hp]
    · split at hp
      · rename_i e;subst e;simp at hp;rw [hp]
      · cases hp
    · simp at hp;rw [hp]
  · cases h
theorem sameBits_cells {m:Nat}:∀ {tds:List TD} {a:List AV} {x y:List Value},fitsAll tds a=true→VRels K a x→VRels K a y→x.length=y.length∧((x.zip y).all fun (u,v)=>Instr.sameBits m u v)=true
 | [],[],_,_,_,hx,hy=>by simp only [VRels] at hx hy;subst hx hy;simp
 | [],_::_,_,_,h,_,_=>by simp [fitsAll] at h
 | td::_,[],_,_,h,_,_=>by cases td<;>simp [fitsAll] at h
 | td::tds,c::a,x,y,h,hx,hy=>by
  simp only [VRels] at hx hy
  obtain⟨u,x',rfl,hu,hx⟩:=hx
  obtain⟨v,y',rfl,hv,hy⟩:=hy
  have h2:fitsAll tds a=true∧Instr.sameBits m u v=true:=by
   cases td<;>cases c<;>simp [fitsAll] at h<;>simp only [VRel] at hu hv<;>subst hu hv<;>exact⟨h,by simp [Instr.sameBits,str_beq]⟩
  obtain⟨i1,i2⟩:=sameBits_cells (m:=m) h2.1 hx hy
  exact⟨by simp [i1],by simp only [List.zip_cons_cons,List.all_cons,h2.2,Bool.true_and];exact i2⟩
theorem findAsk_run {k:Nat} {c:List AV} {tds:List TD} {x':Value} (hfl:flatT (Dof P) k=some tds) (hfit:fitsAll tds c=true) (hx:VRel K (.agg c) x'):∀ (es:List (AV×AV×Nat)) (es':List MapEntry) (i:Nat) (r:Option (Nat×AV)),es'.length=es.length →
 (∀ (j:Nat) (k v:AV) (b:Nat),es[j]?=some (k,v,b)→∃ e:MapEntry,es'[j]?=some e∧VRel K k e.key∧VRel K v e.val∧e.born=b)→findA (.agg c) es i=some r →
 ∃ r',(Instr.findAsking k x' es' i).run P w=.ok r' w∧(match r with
  | some (j,v)=>∃ v',r'=some (j,v')∧VRel K v v'∧i≤j∧∃ e:MapEntry,es'[j-i]?=some e∧Instr.sameBits 10000 e.key x'=true
  | none=>r'=none)
 | [],[],i,r,_,_,hf=>by
  simp [findA] at hf
  subst hf
  exact⟨none,rfl,rfl⟩
 | [],_::_,i,r,hl,_,hf=>by simp at hl
 | _::_,[],i,r,hl,_,hf=>by simp at hl
 | (k1,v1,b1)::es,e1::es',i,r,hl,he,hf=>by
  obtain⟨e0,h1,h2,h3,h4⟩:=he 0 k1 v1 b1 (by simp)
  simp at h1
  subst h1
  have ih:=findAsk_run hfl hfit hx es es' (i+1)
  simp only [findA] at hf
  have same:∀ p,keyEq (.agg c) k1=some p→(Op.equal k x' e1.key).run P w=.ok p w∧(p=true→Instr.sameBits 10000 e1.key x'=true):=by
   intro p hp
   cases k1<;>simp only [keyEq] at hp<;>try (cases hp;done)
   rename_i d
   simp only [VRel] at hx h2
   obtain⟨xs,rfl,hxs⟩:=hx
   obtain⟨ys,hy,hys⟩:=h2
   rw [hy]
   refine⟨?_,fun ht=>?_⟩
   · refine (eqAgg_run (t:=k) (a:=c) (b:=d) ?_ hxs hys).2
     simp only [eqAgg,hfl,if_pos hfit,hp]
   · subst ht
     have:=cellsEq_true hp
     subst this
     obtain⟨g1,g2⟩:=sameBits_cells (m:=9999) hfit hys hxs
     show (ys.size==xs.size&&_)=true
     simp only [Array.length_toList] at g1
     rw [g1,beq_self_eq_true,Bool.true_and]
     exact g2
  split at hf
  · rename_i hke
    simp only [Option.some.injEq] at hf
    subst hf
    obtain⟨s1,s2⟩:=same true hke
    exact⟨some (i,e1.val),by simp [Instr.findAsking,s1],e1.val,rfl,h3,Nat.le_refl _,e1,by simp,s2 rfl⟩
  · rename_i hke
    obtain⟨r',g2,g3⟩:=ih r (by simpa using hl) (fun j k v b e=>by simpa using he (j+1) k v b (by simpa using e)) hf
    obtain⟨s1,_⟩:=same false hke
    refine⟨r',by simp [Instr.findAsking,s1];exact g2,?_⟩
    cases r with
    | none=>exact g3
    | some jv=>
     obtain⟨j,v⟩:=jv
     obtain⟨v',a1,a2,a3,e,a4,a5⟩:=g3
     refine⟨v',a1,a2,by omega,e,?_,a5⟩
     rw [show j-i=(j-(i+1))+1 by omega]
     simpa using a4
  · cases hf
theorem findKey_run {k:Nat} {x:AV} {x':Value} (hk:mapKeyOk (Dof P) k x=true) (hx:VRel K x x') (es:List (AV×AV×Nat)) (es':List MapEntry) (r:Option (Nat×AV)) (hl:es'.length=es.length)
 (he:∀ (j:Nat) (k v:AV) (b:Nat),es[j]?=some (k,v,b)→∃ e:MapEntry,es'[j]?=some e∧VRel K k e.key∧VRel K v e.val∧e.born=b) (hf:findA x es 0=some r) :
 ∃ r',(Instr.findKey k x' es').run P w=.ok r' w∧(match r with
  | some (j,v)=>∃ v',r'=some (j,v')∧VRel K v v'∧∃ e:MapEntry,es'[j]?=some e∧Instr.sameBits 10000 e.key x'=true
  | none=>r'=none):=by
 rcases mapKeyOk_spec hk with h|h|⟨c,tds,rfl,hfl,hfit⟩
 · obtain⟨d,r',g1,g2,g3⟩:=findNow_run (.inl h) hx es es' 0 r hl he hf
   refine⟨r',by simp only [Instr.findKey,Sem.run_bind,run_underlying g1,Result.andThen_ok,g2];rfl,?_⟩
   cases r with
   | none=>exact g3
   | some jv=>obtain⟨v',a1,a2,_,e,a4,a5⟩:=g3;exact⟨v',a1,a2,e,by simpa using a4,a5⟩
 · obtain⟨d,r',g1,g2,g3⟩:=findNow_run (.inr h) hx es es' 0 r hl he hf
   refine⟨r',by simp only [Instr.findKey,Sem.run_bind,run_underlying g1,Result.andThen_ok,g2];rfl,?_⟩
   cases r with
   | none=>exact g3
   | some jv=>obtain⟨v',a1,a2,_,e,a4,a5⟩:=g3;exact⟨v',a1,a2,e,by simpa using a4,a5⟩
 · obtain⟨r',g2,g3⟩:=findAsk_run (w:=w) hfl hfit hx es es' 0 r hl he hf
   obtain⟨fields,hu,_⟩:=flatT_spec hfl
   refine⟨r',?_,?_⟩
   · simp only [Instr.findKey,Sem.run_bind,run_underlying hu,Result.andThen_ok]
     cases es' with
     | nil=>simpa [Instr.findNow,Instr.findAsking] using g2
     | cons e es'=>
      have:Instr.findNow (.struct fields) x' (e::es') 0=none:=by
       simp only [VRel] at hx
       obtain⟨xs,rfl,_⟩:=hx
       simp [Instr.findNow,Instr.sameNow]
      rw [this]
      exact g2
   · cases r with
     | none=>exact g3
     | some jv=>obtain⟨v',a1,a2,_,e,a4,a5⟩:=g3;exact⟨v',a1,a2,e,by simpa using a4,a5⟩
theorem lookup_sound (h:WRel G w0 ro0 K σ w) {t:Nat} {m k v:AV} {m' k':Value} (hm:VRel K m m') (hk:VRel K k k') {ok:Bool} (hf:lookupA (Dof P) σ t m k ok=some v) :
 ∃ v',(Instr.lookup t m' k' ok).run P w=.ok v' w∧VRel K v v':=by
 unfold lookupA at hf
 split at hf
 · rename_i i hD
   obtain⟨inf,d,z,hi,hu,_,rfl⟩:=Dof_spec hD
   simp only at hf
   split at hf
   · rename_i kt et hd
     have:=td_map hd;subst this
     split at hf
     · rename_i hko
       split at hf
       · rename_i es hes
         -- the entries,as they lie
         have hent:∃ es':Array MapEntry,((m'=.map none∧es' = #[])∨∃ B clock,m'=.map (some B)∧(getObj B).run P w=.ok (.map es' clock) w)∧es'.toList.length=es.length ∧
          ∀ (j:Nat) (k v:AV) (b:Nat),es[j]?=some (k,v,b)→∃ e:MapEntry,es'.toList[j]?=some e∧VRel K k e.key∧VRel K v e.val∧e.born=b:=by
          split at hes
          · simp only [Option.some.injEq] at hes;subst hes
            simp only [VRel] at hm;subst hm
            exact⟨#[],.inl ⟨rfl,rfl⟩,rfl,by simp⟩
          · rename_i b
            split at hes
            · rename_i es0 clock hb
              simp only [Option.some.injEq] at hes;subst hes
              simp only [VRel] at hm
              obtain⟨B,hm1,rfl⟩:=hm
              obtain⟨B',h1,_,_,⟨es',h4,h5,h6⟩,_⟩:=h.blk b _ hb
              rw [hm1] at h1;cases h1
              exact⟨es',.inr ⟨B,clock,rfl,by simp [getObj,Sem.run,h4]⟩,by simpa using h5,fun j k v b e=>by simpa using h6 j k v b e⟩
            · cases hes
          · cases hes
         obtain⟨es',e1,e2,e3⟩:=hent
         have hck:=fun b=>checkKey_run (P:=P) (w:=w) hko hk b
         split at hf
         · rename_i idx v0 hfa
           simp only [Option.some.injEq] at hf;subst hf
           obtain⟨r',g2,v',rfl,g4,_⟩:=findKey_run (w:=w) hko hk es es'.toList _ e2 e3 hfa
           refine⟨if ok then .tuple #[v',.bool true] else v',?_,by split<;>simp [VRel,VRels,g4]⟩
           rcases e1 with ⟨rfl,rfl⟩|⟨B,clock,rfl,e1⟩
           · simp only [Instr.lookup,Sem.run_bind,run_underlying hu,Result.andThen_ok]
             simp only [pure,Sem.run,Result.andThen_ok,hck,g2,Sem.run_bind]
           · simp only [Instr.lookup,Sem.run_bind,run_underlying hu,Result.andThen_ok,e1]
             simp only [pure,Sem.run,Result.andThen_ok,hck,g2,Sem.run_bind]
         · rename_i hfa
           obtain⟨zv,hz,rfl⟩:=Option.map_eq_some_iff.1 hf
           obtain⟨r',g2,g3⟩:=findKey_run (w:=w) hko hk es es'.toList _ e2 e3 hfa
           simp only at g3
           subst g3
           unfold zeroA at hz
           split at hz
           · rename_i j hj
             obtain⟨inf2,d2,z2,hi2,hu2,hz2,rfl⟩:=Dof_spec hj
             simp only [Option.some.injEq] at hz
             subst hz
             have hzr:=VRel.ofV K z2
             refine⟨if ok then .tuple #[z2,.bool false] else z2,?_,by split<;>simp [VRel,VRels,hzr]⟩
             rcases e1 with ⟨rfl,rfl⟩|⟨B,clock,rfl,e1⟩
             · simp only [Instr.lookup,Sem.run_bind,run_underlying hu,Result.andThen_ok]
               simp only [pure,Sem.run,Result.andThen_ok,hck,g2,Sem.run_bind]
               simp [zeroValue,typeInfo,hi2,hz2]
             · simp only [Instr.lookup,Sem.run_bind,run_underlying hu,Result.andThen_ok,e1]
               simp only [pure,Sem.run,Result.andThen_ok,hck,g2,Sem.run_bind]
               simp [zeroValue,typeInfo,hi2,hz2]
           · cases hz
         · cases hf
       · cases hf
     · cases hf
   · cases hf
 · cases hf
theorem mapUpdate_sound (h:WRel G w0 ro0 K σ w) {t:Nat} {m k v:AV} {m' k' v':Value} (hm:VRel K m m') (hk:VRel K k k') (hv:VRel K v v') {σ':St} (hf:mapUpdateA (Dof P) σ t m k v=some σ') :
 ∃ w',(Instr.mapUpdate t m' k' v').run P w=.ok () w'∧WRel G w0 ro0 K σ' w':=by
 unfold mapUpdateA at hf
 split at hf
 · rename_i i hD
   obtain⟨inf,d,z,hi,hu,_,rfl⟩:=Dof_spec hD
   simp only at hf
   split at hf
   · rename_i kt et hd
     have:=td_map hd;subst this
     split at hf
     · rename_i hko
       split at hf
       · rename_i b
         split at hf
         · rename_i es clock hb
           simp only [VRel] at hm
           obtain⟨B,hm1,rfl⟩:=hm
           obtain⟨B',h1,hB0,hBl,⟨es',h4,h5,h6⟩,_⟩:=h.blk b _ hb
           rw [hm1] at h1;cases h1
           have hbl:b<σ.H.length:=(List.getElem?_eq_some_iff.1 hb).1
           have hck:=checkKey_run (P:=P) (w:=w) hko hk false
           have hset:∀ (o:Obj),(setObj B o).run P w=.ok () { w with heap:=w.heap.setIfInBounds B o }:=by
            intro o;simp [setObj,Sem.run,h4]
           have hkeep:∀ o:Obj,(∀ k,k≠B→({ w with heap:=w.heap.setIfInBounds B o }:World).heap[k]?=w.heap[k]?):=by
            intro o k hk;simp [Array.getElem?_setIfInBounds_ne (Ne.symm hk)]
           split at hf
           · rename_i idx v0 hfa
             simp only [Option.some.injEq] at hf;subst hf
             obtain⟨r',g2,v1,rfl,g4,e0,g5,g6⟩:=findKey_run (w:=w) hko hk es es'.toList _ (by simpa using h5) (fun j k v b e=>by simpa using h6 j k v b e) hfa
             have ge:es'[idx]?=some e0:=by simpa using g5
             refine⟨{ w with heap:=w.heap.setIfInBounds B (.map (es'.modify idx fun e=>{ e with key:=k',val:=v' }) clock) },?_,?_⟩
             · simp only [Instr.mapUpdate,Sem.run_bind,run_underlying hu,Result.andThen_ok]
               simp [getObj,Sem.run,h4,hck,g2,Instr.keyThatStays,ge,g6,hset]
             · refine h.setBlk (B:=B) hbl hm1 rfl rfl rfl (by simp) (hkeep _) ?_ (by rw [hb];simp) (fun cs2 el2 fr2 e2=>by simp [hBl] at e2) (fun cs2 el2 fr2 e2=>by simp [hBl] at e2)
               refine⟨es'.modify idx fun e=>{ e with key:=k',val:=v' },by simp [hBl],by simp [h5],?_⟩
               intro j k2 v2 b2 e2
               rw [List.getElem?_modify] at e2
               cases hj:es[j]? with
               | none=>simp [hj] at e2
               | some kvb=>
                obtain⟨k3,v3,b3⟩:=kvb
                obtain⟨e,a1,a2,a3,a4⟩:=h6 j k3 v3 b3 hj
                rw [hj] at e2
                rw [Array.getElem?_modify,a1]
                by_cases hji:idx=j
                · simp only [if_pos hji,Option.map_eq_map,Option.map_some,Option.some.injEq,Prod.mk.injEq] at e2
                  obtain⟨rfl,rfl,rfl⟩:=e2
                  rw [if_pos hji]
                  exact⟨_,rfl,hk,hv,a4⟩
                · simp only [if_neg hji,Option.map_eq_map,Option.map_some,Option.some.injEq,Prod.mk.injEq] at e2
                  obtain⟨rfl,rfl,rfl⟩:=e2
                  rw [if_neg hji]
                  exact⟨e,rfl,a2,a3,a4⟩
           · rename_i hfa
             simp only [Option.some.injEq] at hf;subst hf
             obtain⟨r',g2,g3⟩:=findKey_run (w:=w) hko hk es es'.toList _ (by simpa using h5) (fun j k v b e=>by simpa using h6 j k v b e) hfa
             simp only at g3
             subst g3
             refine⟨{ w with heap:=w.heap.setIfInBounds B (.map (es'.push { key:=k',val:=v',born:=clock }) (clock+1)) },?_,?_⟩
             · simp only [Instr.mapUpdate,Sem.run_bind,run_underlying hu,Result.andThen_ok]
               simp [getObj,Sem.run,h4,hck,g2,hset]
             · refine h.setBlk (B:=B) hbl hm1 rfl rfl rfl (by simp) (hkeep _) ?_ (by rw [hb];simp) (fun cs2 el2 fr2 e2=>by simp [hBl] at e2) (fun cs2 el2 fr2 e2=>by simp [hBl] at e2)
               refine⟨es'.push { key:=k',val:=v',born:=clock },by simp [hBl],by simp [h5],?_⟩
               intro j k2 v2 b2 e2
               rw [List.getElem?_append] at e2
               rw [Array.getElem?_push]
               split at e2
               · rename_i hj
                 rw [if_neg (by omega)]
                 exact h6 j k2 v2 b2 e2
               · rename_i hj
                 have:j-es.length=0:=by
                  rcases Nat.eq_zero_or_pos (j-es.length) with h0|h0
                  · exact h0
                  · rw [List.getElem?_eq_none (by simp;omega)] at e2;cases e2
                 rw [this] at e2
                 simp at e2
                 obtain⟨rfl,rfl,rfl⟩:=e2
                 rw [if_pos (by omega)]
                 exact⟨_,rfl,hk,hv,rfl⟩
           · cases hf
         · cases hf
       · cases hf
     · cases hf
   · cases hf
 · cases hf
end
end
end Go.Abs
end
section
namespace Go.Abs
open Go Go.RowKit
/-- Two lists, member by member. -/
inductive F2 {α β:Type} (R:α→β→Prop):List α→List β→Prop
 | nil:F2 R [] []
 | cons {a:α} {b:β} {l:List α} {m:List β} (h:R a b) (t:F2 R l m):F2 R (a::l) (b::m)
namespace F2
variable {α β γ δ:Type} {R:α→β→Prop} {S:γ→δ→Prop}
theorem len:∀ {l:List α} {m:List β},F2 R l m→l.length=m.length
 | _,_,.nil=>rfl
 | _,_,.cons _ t=>by simp [t.len]
theorem filter {p:α→Bool} {q:β→Bool} (hpq:∀ a b,R a b→p a=q b):∀ {l:List α} {m:List β},F2 R l m→F2 R (l.filter p) (m.filter q)
 | _,_,.nil=>.nil
 | _,_,.cons (a:=a) (b:=b) h t=>by
  have e:=hpq a b h
  simp only [List.filter_cons,e]
  split
  · exact .cons h (filter hpq t)
  · exact filter hpq t
theorem append:∀ {l l':List α} {m m':List β},F2 R l m→F2 R l' m'→F2 R (l++l') (m++m')
 | _,_,_,_,.nil,k=>k
 | _,_,_,_,.cons h t,k=>.cons h (append t k)
theorem map {f:α→γ} {g:β→δ} (hfg:∀ a b,R a b→S (f a) (g b)):∀ {l:List α} {m:List β},F2 R l m→F2 S (l.map f) (m.map g)
 | _,_,.nil=>.nil
 | _,_,.cons h t=>.cons (hfg _ _ h) (map hfg t)
theorem get:∀ {l:List α} {m:List β},F2 R l m→∀ {j:Nat} {b:β},m[j]?=some b→∃ a,l[j]?=some a∧R a b
 | _,_,.nil,_,_,e=>by simp at e
 | _,_,.cons h t,j,b,e=>by
  cases j with
  | zero=>simp at e;subst e;exact⟨_,rfl,h⟩
  | succ j=>simp at e;obtain⟨a,h1,h2⟩:=get t e;exact⟨a,by simpa using h1,h2⟩
theorem all {p:α→Bool} {q:β→Bool} (hpq:∀ a b,R a b→p a=q b):∀ {l:List α} {m:List β},F2 R l m→l.all p=m.all q
 | _,_,.nil=>rfl
 | _,_,.cons h t=>by simp [hpq _ _ h,all hpq t]
theorem of_get:∀ {l:List α} {m:List β},l.length=m.length→(∀ (i:Nat) (a:α),l[i]?=some a→∃ b,m[i]?=some b∧R a b)→F2 R l m
 | [],[],_,_=>.nil
 | a::l,b::m,hl,h=>by
  obtain⟨b',e,hr⟩:=h 0 a rfl
  simp at e;subst e
  exact .cons hr (of_get (by simpa using hl) fun i a e=>by
   obtain⟨b',e',hr'⟩:=h (i+1) a (by simpa using e)
   exact⟨b',by simpa using e',hr'⟩)
 | [],_::_,hl,_=>by simp at hl
 | _::_,[],hl,_=>by simp at hl
end F2
section
variable {P:Program} {G:Nat→AV} {w0:World} {ro0:Nat→Nat→Option Value} {K:Kn} {σ:St} {w w':World} {N:Nat} {env:Env} {a:Act}
theorem mrange_sound (h:WRel G w0 ro0 K σ w) {t kt et:Nat} {x:Value} {b:Nat} (hu:P.underlying t=some (.map kt et)) (hx:VRel K (.map b) x) {es:List (AV×AV×Nat)} {clock:Nat} (hb:σ.H[b]?=some (.map es clock)) :
 Ran P G w0 ro0 K w (Instr.range t x) (.iter σ.H.length) (σ.push (.miter (some b) clock [] clock)):=by
 simp only [VRel] at hx
 obtain⟨B,hm,rfl⟩:=hx
 obtain⟨B',g1,g2,g3,⟨es',g4,g5,g6⟩,g8⟩:=h.blk b _ hb
 rw [hm] at g1;cases g1
 have hle:=Kn.le_addM h w.heap.size (objSize (Obj.mapIter (some B) clock #[] clock))
 refine⟨.pointer (some ⟨w.heap.size,0,none⟩),w.alloc (.mapIter (some B) clock #[] clock),K.addM σ.H.length w.heap.size (objSize _),?_,hle,h.push ?_,?_⟩
 · simp [Instr.range,run_underlying hu,getObj,Sem.run,g4]
 · simp only [BlkRel];exact⟨some B,rfl,B,hm,rfl⟩
 · simp only [VRel];exact⟨w.heap.size,by simp [Kn.addM],rfl⟩
theorem mrange_nil (h:WRel G w0 ro0 K σ w) {t kt et:Nat} {x:Value} (hu:P.underlying t=some (.map kt et)) (hx:VRel K .nilm x) :
 Ran P G w0 ro0 K w (Instr.range t x) (.iter σ.H.length) (σ.push (.miter none 0 [] 0)):=by
 simp only [VRel] at hx
 subst hx
 refine⟨.pointer (some ⟨w.heap.size,0,none⟩),w.alloc (.mapIter none 0 #[] 0),K.addM σ.H.length w.heap.size (objSize _),?_,Kn.le_addM h _ _,h.push ?_,?_⟩
 · simp [Instr.range,run_underlying hu]
 · simp only [BlkRel];exact⟨none,rfl,rfl⟩
 · simp only [VRel];exact⟨w.heap.size,by simp [Kn.addM],rfl⟩
theorem choose_next (P:Program) (w:World) {n:Nat} (hn:0<n):∃ (j:Nat) (w1:World),j<n∧(w1=w∨w1=w.drew)∧(choose (Question.mapNext n)).run P w=.ok j w1:=by
 by_cases hf:n≤1
 · exact⟨0,w,by omega,Or.inl rfl,by simp [choose,Sem.run,Question.forced,hf]⟩
 · exact⟨_,w.drew,Nat.mod_lt _ (by omega),Or.inr rfl,by
    simp only [choose,Sem.run,Question.forced,decide_eq_true_eq,hf,if_false,Question.cut]
    rfl⟩
/-- An entry of the state's and one of memory. -/
def ERelM (K:Kn) (e:AV×AV×Nat) (e':MapEntry):Prop:=VRel K e.1 e'.key∧VRel K e.2.1 e'.val∧e'.born=e.2.2
theorem nexts_sound (h:WRel G w0 ro0 K σ w) {t:Nat} {x:Value} {a:AV} {l:List (AV×St)} (hx:VRel K a x) (hf:nextsA σ a=some l):∃ v σ',(v,σ')∈l∧Ran P G w0 ro0 K w (Instr.next x false t) v σ':=by
 unfold nextsA at hf
 split at hf
 case h_2=>cases hf
 rename_i b
 simp only [VRel] at hx
 obtain⟨B,hm,rfl⟩:=hx
 split at hf
 · rename_i s1 s2 s3 hb
   simp only [Option.some.injEq] at hf
   subst hf
   obtain⟨B',h1,hB0,hBl,h4,_⟩:=h.blk b _ hb
   rw [hm] at h1;cases h1
   obtain⟨mB,h5,h6⟩:=h4
   simp only at h6
   subst h6
   refine⟨_,_,List.mem_singleton.2 rfl,.tuple #[.bool false],w,K,?_,Kn.le_refl K,h,by simp [VRel,VRels]⟩
   simp [Instr.next,getObj,Sem.run,h5]
 · rename_i mb since seen last hb
   obtain⟨B',h1,hB0,hBl,h4,_⟩:=h.blk b _ hb
   rw [hm] at h1;cases h1
   obtain⟨mB,h5,h6⟩:=h4
   simp only at h6
   obtain⟨M,hmM,rfl⟩:=h6
   have hbl:b<σ.H.length:=(List.getElem?_eq_some_iff.1 hb).1
   split at hf
   case h_2=>cases hf
   rename_i es clock hes
   split at hf
   · cases hf
   rename_i hcond
   simp only [Option.some.injEq] at hf
   obtain⟨M',g1,g2,g3,⟨es',g4,g5,g6⟩,g8⟩:=h.blk mb _ hes
   rw [hmM] at g1;cases g1
   have hF:F2 (ERelM K) es es'.toList:=F2.of_get (by simpa using g5.symm) fun i e he=>by
    obtain⟨k,v,n⟩:=e
    obtain⟨e',k1,k2,k3,k4⟩:=g6 i k v n he
    exact⟨e',by simpa using k1,k2,k3,k4⟩
   have hborn:∀ (a:AV×AV×Nat) (b:MapEntry),ERelM K a b→a.2.2=b.born:=fun a b hab=>hab.2.2.symm
   let left':=es'.filter fun e=>!seen.toArray.contains e.born
   have hleft:F2 (ERelM K) (es.filter fun e=>!seen.contains e.2.2) left'.toList:=by
    have:=hF.filter (p:=fun e=>!seen.contains e.2.2) (q:=fun e=>!seen.toArray.contains e.born) (fun a b hab=>by simp [hborn a b hab])
    simpa [left'] using this
   have hold:F2 (ERelM K) ((es.filter fun e=>!seen.contains e.2.2).filter fun e=>decide (e.2.2<since)) (left'.filter (fun e=>decide (e.born<since))).toList:=by
    have:=hleft.filter (p:=fun e=>decide (e.2.2<since)) (q:=fun e=>decide (e.born<since)) (fun a b hab=>by simp [hborn a b hab])
    simpa using this
   have hnew:F2 (ERelM K) ((es.filter fun e=>!seen.contains e.2.2).filter fun e=>decide (since≤e.2.2)) (left'.filter (fun e=>decide (e.born≥since))).toList:=by
    have:=hleft.filter (p:=fun e=>decide (since≤e.2.2)) (q:=fun e=>decide (e.born≥since)) (fun a b hab=>by simp [hborn a b hab])
    simpa using this
   have hc':(!seen.toArray.isEmpty&&!es'.isEmpty&&es'.all (fun e=>decide (e.born≥last)))=false:=by
    have hall:es.all (fun e=>decide (last≤e.2.2))=es'.toList.all (fun e=>decide (e.born≥last)):=hF.all (fun a b hab=>by simp [hborn a b hab])
    have hemp:es.isEmpty=es'.isEmpty:=by
     cases es with
     | nil=>simp at g5;simp [Array.isEmpty,g5]
     | cons e r=>simp at g5;simp [Array.isEmpty,g5]
    rw [← Bool.not_eq_true]
    intro hh
    simp only [Bool.and_eq_true,Bool.not_eq_true'] at hh
    exact hcond ⟨by simpa using hh.1.1,by rw [hemp];exact hh.1.2,by rw [hall];simpa using hh.2⟩
   generalize holdE:((es.filter fun e=>!seen.contains e.2.2).filter fun e=>decide (e.2.2<since))=old at hf hold
   generalize hnewE:((es.filter fun e=>!seen.contains e.2.2).filter fun e=>decide (since≤e.2.2))=new at hf hnew
   let cand:Array (Option MapEntry):=(if (left'.filter (fun e=>decide (e.born<since))).isEmpty then #[none] else #[])++((left'.filter (fun e=>decide (e.born<since)))++(left'.filter (fun e=>decide (e.born≥since)))).map some
   have hoe:(left'.filter (fun e=>decide (e.born<since))).isEmpty=old.isEmpty:=by
    have aux:∀ (A:Array MapEntry) (o:List (AV×AV×Nat)),o.length=A.toList.length→A.isEmpty=o.isEmpty:=by
     intro A o h
     rcases A with ⟨a⟩
     cases a<;>cases o<;>simp_all [Array.isEmpty]
    exact aux _ _ hold.len
   have hcand:F2 (fun (o:AV×St) (c:Option MapEntry)=>match c with
    | none=>o=(.tup [.bool false],σ)
    | some e=>∃ e0,ERelM K e0 e∧o=(.tup [.bool true,e0.1,e0.2.1],{ σ with H:=σ.H.set b (.miter (some mb) since (seen++[e0.2.2]) clock) })) l cand.toList:=by
    subst hf
    simp only [cand,Array.toList_append,Array.toList_map]
    refine F2.append ?_ ((hold.append hnew).map fun a b hab=>⟨a,hab,rfl⟩)
    rw [hoe]
    split
    · exact .cons rfl .nil
    · exact .nil
   have hsz:0<cand.size:=by
    simp only [cand,Array.size_append,Array.size_map]
    cases hE:(left'.filter (fun e=>decide (e.born<since))).isEmpty
    · have:(left'.filter (fun e=>decide (e.born<since))).size≠0:=by
       intro h0
       simp [Array.isEmpty,h0] at hE
      omega
    · simp;omega
   obtain⟨j,w1,hj,hal,hrun⟩:=choose_next P w hsz
   have hw1:WRel G w0 ro0 K σ w1:=by rcases hal with rfl | rfl;exact h;exact h.drew
   have hB1:w1.heap[B]?=some (.mapIter (some M) since seen.toArray last):=by rcases hal with rfl | rfl<;>exact h5
   have hBl1:B<w1.heap.size:=(Array.getElem?_eq_some_iff.1 hB1).1
   obtain⟨o,ho,hrel⟩:=hcand.get (j:=j) (b:=cand[j]) (by simp [hj])
   have hcj:cand[j]?=some cand[j]:=Array.getElem?_eq_getElem hj
   have hmem:=List.mem_of_getElem? ho
   obtain⟨v,σ'⟩:=o
   refine⟨v,σ',hmem,?_⟩
   have hstep:(Instr.next (.pointer (some ⟨B,0,none⟩)) false t).run P w=((match cand[j]? with
    | some (some e)=>do
     setObj B (.mapIter (some M) since (seen.toArray.push e.born) clock)
     pure (.tuple #[.bool true,e.key,e.val])
    | some none=>pure (.tuple #[.bool false])
    | none => stuck "Next: no such candidate" : Sem Value)).run P w1 := by
    simp only [Instr.next,getObj,Sem.run_bind,Sem.run,h5,g4,Result.andThen_ok,hc',Bool.false_eq_true,if_false]
    show ((choose (Question.mapNext cand.size)).run P w).andThen _=_
    rw [hrun]
    rfl
   cases hc:cand[j] with
   | none=>
    rw [hc] at hrel hcj
    simp only at hrel
    obtain⟨rfl,rfl⟩:=Prod.mk.injEq ..▸hrel
    refine⟨.tuple #[.bool false],w1,K,?_,Kn.le_refl K,hw1,by simp [VRel,VRels]⟩
    rw [hstep,hcj]
    rfl
   | some e=>
    rw [hc] at hrel hcj
    simp only at hrel
    obtain⟨e0,⟨k1,k2,k3⟩,heq⟩:=hrel
    obtain⟨rfl,rfl⟩:=Prod.mk.injEq ..▸heq
    refine⟨.tuple #[.bool true,e.key,e.val],{ w1 with heap:=w1.heap.setIfInBounds B (.mapIter (some M) since (seen.toArray.push e.born) clock) },K,?_,Kn.le_refl K,?_,?_⟩
    · rw [hstep,hcj]
      simp [setObj,Sem.run,hB1]
    · refine hw1.setBlk (B:=B) hbl hm rfl rfl rfl (by simp) (fun k hk=>by simp [Array.getElem?_setIfInBounds_ne (Ne.symm hk)]) ?_ (by rw [hb];simp) (fun cs2 el2 fr2 e2=>by simp [hBl1] at e2) (fun cs2 el2 fr2 e2=>by simp [hBl1] at e2)
      simp only [BlkRel]
      refine⟨some M,?_,M,hmM,rfl⟩
      simp [hBl1,k3]
    · simp only [VRel]
      exact⟨_,rfl,by simp only [VRels,VRel];exact⟨_,_,rfl,rfl,_,_,rfl,k1,_,_,rfl,k2,rfl⟩⟩
 · cases hf
end
end Go.Abs
end
section
namespace Go.Abs
open Go Go.RowKit
section
section
variable {P:Program} {G:Nat→AV} {w0:World} {ro0:Nat→Nat→Option Value} {K:Kn} {σ:St} {w w':World} {N:Nat} {env:Env} {a:Act}
theorem range_sound (h:WRel G w0 ro0 K σ w) {t:Nat} {x:Value} {s:List UInt8} (hu:P.underlying t=some .string) (hx:VRel K (.str s) x):Ran P G w0 ro0 K w (Instr.range t x) (.iter σ.H.length) (σ.push (.siter s 0)):=by
 simp only [VRel] at hx
 subst hx
 refine⟨.pointer (some ⟨w.heap.size,0,none⟩),w.alloc (.stringIter ⟨s.toArray⟩ 0),K.addM σ.H.length w.heap.size (objSize _),?_,Kn.le_addM h _ _,h.push ?_,?_⟩
 · simp [Instr.range,run_underlying hu]
 · simp [BlkRel]
 · simp only [VRel];exact⟨w.heap.size,by simp [Kn.addM],rfl⟩
theorem next_sound (h:WRel G w0 ro0 K σ w) {t:Nat} {x:Value} {a:AV} {v:AV} {σ':St} (hx:VRel K a x) (hf:nextA σ a=some (v,σ')):Ran P G w0 ro0 K w (Instr.next x true t) v σ':=by
 unfold nextA at hf
 split at hf
 · rename_i b
   split at hf
   · rename_i s pos hb
     simp only [VRel] at hx
     obtain⟨B,hm,rfl⟩:=hx
     obtain⟨B',h1,hB0,hBl,h4,_⟩:=h.blk b _ hb
     rw [hm] at h1;cases h1
     simp only [BlkRel] at h4
     have hbl:b<σ.H.length:=(List.getElem?_eq_some_iff.1 hb).1
     split at hf
     · rename_i hp
       simp only [Option.some.injEq,Prod.mk.injEq] at hf
       obtain⟨rfl,rfl⟩:=hf
       have hp':pos<(ByteArray.mk s.toArray).size:=by simpa [ByteArray.size] using hp
       refine⟨.tuple #[.bool true,.int .i64 pos,.int .i32 (Utf8.decode ⟨s.toArray⟩ pos).1],{ w with heap:=w.heap.setIfInBounds B (.stringIter ⟨s.toArray⟩ (pos+(Utf8.decode ⟨s.toArray⟩ pos).2)) },K,?_,Kn.le_refl K,?_,?_⟩
       · simp [Instr.next,getObj,setObj,Sem.run,h4,hp',goInt]
       · refine h.setBlk (B:=B) hbl hm rfl rfl rfl (by simp) (fun k hk=>by simp [Array.getElem?_setIfInBounds_ne (Ne.symm hk)]) ?_ (by rw [hb];simp) (fun cs2 el2 fr2 e2=>by simp [hBl] at e2) (fun cs2 el2 fr2 e2=>by simp [hBl] at e2)
         simp [BlkRel,hBl]
       · simp [VRel,VRels]
     · rename_i hp
       simp only [Option.some.injEq,Prod.mk.injEq] at hf
       obtain⟨rfl,rfl⟩:=hf
       have hp':¬ pos<(ByteArray.mk s.toArray).size:=by simpa [ByteArray.size] using hp
       refine⟨.tuple #[.bool false],w,K,?_,Kn.le_refl K,h,?_⟩
       · simp [Instr.next,getObj,Sem.run,h4,hp']
       · simp [VRel,VRels]
   · cases hf
 · cases hf
/-- What one operation comes to: a value or nothing, and a state. -/
def Did (P:Program) (G:Nat→AV) (w0:World) (ro0:Nat→Nat→Option Value) (K:Kn) (w:World) (s:Sem Next) (v:AV) (σ':St):Prop :=
 ∃ v' w' K',(s.run P w=.ok (.value v') w'∨(s.run P w=.ok .skip w'∧v'=undef))∧K.le K'∧WRel G w0 ro0 K' σ' w'∧VRel K' v v'
theorem Did.of_ran {s:Sem Value} {v:AV} {σ':St} (h:Ran P G w0 ro0 K w s v σ'):Did P G w0 ro0 K w (do pure (.value (← s))) v σ':=by
 obtain⟨v',w',K',h1,h2,h3,h4⟩:=h
 exact⟨v',w',K',.inl (by simp [h1]),h2,h3,h4⟩
theorem Did.of_same (h:WRel G w0 ro0 K σ w) {s:Sem Value} {v:AV} (hr:∃ v',s.run P w=.ok v' w∧VRel K v v'):Did P G w0 ro0 K w (do pure (.value (← s))) v σ:=by
 obtain⟨v',h1,h2⟩:=hr
 exact Did.of_ran (Ran.same h h1 h2)
theorem Did.of_unit {s:Sem Unit} {σ':St} (hr:∃ w',s.run P w=.ok () w'∧WRel G w0 ro0 K σ' w'):Did P G w0 ro0 K w (do s;pure .skip) (.tup []) σ':=by
 obtain⟨w',h1,h2⟩:=hr
 exact⟨undef,w',K,.inr ⟨by simp [h1],rfl⟩,Kn.le_refl K,h2,by simp only [VRel];exact⟨#[],rfl,by simp [VRels]⟩⟩
theorem parts_rel (hw:WRel G w0 ro0 K σ w) (he:ERel K N env a) (ps:Array (Nat×Operand)) :
 (ps.map fun (i,x)=>(i,a.eval x)).toList.map (·.1)=(ps.toList.map fun p=>(p.1,ev G env p.2)).map (·.1) ∧
   VRels K ((ps.toList.map fun p=>(p.1,ev G env p.2)).map (·.2)) ((ps.map fun (i,x)=>(i,a.eval x)).toList.map (·.2)):=by
 constructor
 · simp
 · have:=opds_rel hw he (ps.toList.map (·.2))
   simpa [opds,Function.comp_def] using this
theorem sem_sound (hw:WRel G w0 ro0 K σ w) (he:ERel K N env a) (o:Oper) {v:AV} {σ':St} (h:sem (Dof P) G env σ o.op=some (v,σ')) :
 Did P G w0 ro0 K w (execOp a.eval o) v σ':=by
 have ex:=ev_rel hw he
 obtain⟨dst,op,type,pos,after,guard⟩:=o
 simp only at h
 cases op<;>simp only [sem] at h
 case move x=>
  simp only [Option.some.injEq,Prod.mk.injEq] at h
  obtain⟨rfl,rfl⟩:=h
  exact⟨a.eval x,w,K,.inl rfl,Kn.le_refl K,hw,ex x⟩
 case assign x=>
  simp only [Option.some.injEq,Prod.mk.injEq] at h
  obtain⟨rfl,rfl⟩:=h
  exact⟨a.eval x,w,K,.inl rfl,Kn.le_refl K,hw,ex x⟩
 case pick c x y=>
  split at h
  · rename_i b hb
    simp only [Option.some.injEq,Prod.mk.injEq] at h
    obtain⟨rfl,rfl⟩:=h
    have hc:=ex c
    rw [hb] at hc
    simp only [VRel] at hc
    refine⟨if b then a.eval x else a.eval y,w,K,.inl ?_,Kn.le_refl K,hw,?_⟩
    · simp [execOp,hc,asBool]
    · cases b
      · exact ex y
      · exact ex x
  · cases h
 case alloc e=>
  split at h
  · rename_i i hi
    split at h
    · rename_i hz
      simp only [Option.some.injEq,Prod.mk.injEq] at h
      obtain⟨rfl,rfl⟩:=h
      exact Did.of_ran (alloc_sound hw hi hz)
    · cases h
  · cases h
 case box e x=>
  obtain⟨c,hc,he'⟩:=Option.map_eq_some_iff.1 h
  simp only [Prod.mk.injEq] at he'
  obtain⟨rfl,rfl⟩:=he'
  exact Did.of_ran (box_sound hw (ex x) hc)
 case build t ps=>
  obtain⟨u,hu,he'⟩:=Option.map_eq_some_iff.1 h
  simp only [Prod.mk.injEq] at he'
  obtain⟨rfl,rfl⟩:=he'
  obtain⟨p1,p2⟩:=parts_rel hw he ps
  exact Did.of_ran (build_sound hw p1 p2 hu)
 case buildSlice t n ps=>
  obtain⟨u,hu,he'⟩:=Option.map_eq_some_iff.1 h
  simp only [Prod.mk.injEq] at he'
  obtain⟨rfl,rfl⟩:=he'
  obtain⟨p1,p2⟩:=parts_rel hw he ps
  exact Did.of_ran (buildSlice_sound hw p1 p2 hu)
 case load t x=>
  obtain⟨u,hu,he'⟩:=Option.map_eq_some_iff.1 h
  simp only [Prod.mk.injEq] at he'
  obtain⟨rfl,rfl⟩:=he'
  exact Did.of_ran (load_sound hw (ex x) hu)
 case store t x y=>
  obtain⟨u,hu,he'⟩:=Option.map_eq_some_iff.1 h
  simp only [Prod.mk.injEq] at he'
  obtain⟨rfl,rfl⟩:=he'
  exact Did.of_unit (store_sound hw (ex x) (ex y) hu)
 case nilCheck x=>
  have hx:=ex x
  split at h
  · rename_i b o hb
    simp only [Option.some.injEq,Prod.mk.injEq] at h
    obtain⟨rfl,rfl⟩:=h
    rw [hb] at hx
    have hx':=hx
    simp only [VRel] at hx
    obtain⟨B,_,e⟩:=hx
    exact⟨a.eval x,w,K,.inl (by simp [execOp,e]),Kn.le_refl K,hw,hx'⟩
  · rename_i c hb
    simp only [Option.some.injEq,Prod.mk.injEq] at h
    obtain⟨rfl,rfl⟩:=h
    rw [hb] at hx
    have hx':=hx
    simp only [VRel] at hx
    obtain⟨B,off,e,_⟩:=hx
    exact⟨a.eval x,w,K,.inl (by simp [execOp,e]),Kn.le_refl K,hw,hx'⟩
  · cases h
 case binOp op t x y u=>
  obtain⟨u,hu,he'⟩:=Option.map_eq_some_iff.1 h
  simp only [Prod.mk.injEq] at he'
  obtain⟨rfl,rfl⟩:=he'
  exact Did.of_same hw (bin_sound (ex x) (ex y) hu x y)
 case unOp op t x=>
  obtain⟨u,hu,he'⟩:=Option.map_eq_some_iff.1 h
  simp only [Prod.mk.injEq] at he'
  obtain⟨rfl,rfl⟩:=he'
  exact Did.of_same hw (un_sound (ex x) hu)
 case convert s d x=>
  obtain⟨u,hu,he'⟩:=Option.map_eq_some_iff.1 h
  simp only [Prod.mk.injEq] at he'
  obtain⟨rfl,rfl⟩:=he'
  exact Did.of_same hw (conv_sound hw (ex x) hu)
 case makeFunc fn x y=>
  cases fn<;>simp only at h<;>try (cases h;done)
  rename_i f
  simp only [Option.some.injEq,Prod.mk.injEq] at h
  obtain⟨rfl,rfl⟩:=h
  refine⟨.func (.func f) (x.map a.eval) (y.map a.eval),w,K,.inl (by simp [execOp,Instr.makeFunc]),Kn.le_refl K,hw,?_⟩
  simp only [VRel]
  exact⟨_,_,rfl,by simpa using opds_rel hw he x.toList,by simpa using opds_rel hw he y.toList⟩
 case makeMap t r=>
  cases r with
  | none=>
   simp only [Option.some.injEq,Prod.mk.injEq] at h
   obtain⟨rfl,rfl⟩:=h
   exact Did.of_ran (makeMap_sound hw t)
  | some r=>cases h
 case makeSlice t l c=>exact Did.of_ran (makeSlice_sound hw (ex l) (ex c) h)
 case slice t x lo hi mx=>
  obtain⟨hlo,hlo0⟩:=opt_rel hw he lo
  obtain⟨hhi,hhi0⟩:=opt_rel hw he hi
  obtain⟨hmx,hmx0⟩:=opt_rel hw he mx
  have hx:=ex x
  split at h
  · rename_i i hD
    obtain⟨inf,d,z,hi,hu,_,rfl⟩:=Dof_spec hD
    simp only at h
    split at h
    · rename_i s hd hxs
      have:=td_str hd;subst this
      obtain⟨u,hu',he'⟩:=Option.map_eq_some_iff.1 h
      simp only [Prod.mk.injEq] at he'
      obtain⟨rfl,rfl⟩:=he'
      rw [hxs] at hx
      simp only [VRel] at hx
      have:=slice_str (P:=P) (K:=K) (w:=w) hu hlo hlo0 hhi hhi0 hmx0 hu'
      rw [← hx] at this
      exact Did.of_same hw this
    · rename_i e hd
      have:=td_sl hd;subst this
      split at h
      · rename_i j sz rows tok hj hxs
        obtain⟨inf2,d2,z2,hi2,hu2,_,rfl⟩:=Dof_spec hj
        split at h
        · rename_i hsz
          obtain⟨u,hu',he'⟩:=Option.map_eq_some_iff.1 h
          simp only [Prod.mk.injEq] at he'
          obtain⟨rfl,rfl⟩:=he'
          rw [hxs] at hx
          exact Did.of_same hw (slice_sl hu hi2 hsz hx hlo hlo0 hhi hhi0 hmx hmx0 hu')
        · cases h
      · rename_i j b off len sz hj hxs
        obtain⟨inf2,d2,z2,hi2,hu2,_,rfl⟩:=Dof_spec hj
        split at h
        · rename_i hsz
          simp only at hsz
          subst hsz
          obtain⟨u,hu',he'⟩:=Option.map_eq_some_iff.1 h
          simp only [Prod.mk.injEq] at he'
          obtain⟨rfl,rfl⟩:=he'
          rw [hxs] at hx
          exact Did.of_same hw (slice_ms hu hi2 hx hlo hlo0 hhi hhi0 hmx0 hu')
        · cases h
      · cases h
    · cases h
  · cases h
 case fieldAddr s x f=>
  obtain⟨u,hu,he'⟩:=Option.map_eq_some_iff.1 h
  simp only [Prod.mk.injEq] at he'
  obtain⟨rfl,rfl⟩:=he'
  exact Did.of_same hw (fieldAddr_sound hw (ex x) hu)
 case field s x f=>
  obtain⟨u,hu,he'⟩:=Option.map_eq_some_iff.1 h
  simp only [Prod.mk.injEq] at he'
  obtain⟨rfl,rfl⟩:=he'
  exact Did.of_same hw (field_sound (ex x) hu)
 case indexAddr t x i=>
  obtain⟨u,hu,he'⟩:=Option.map_eq_some_iff.1 h
  simp only [Prod.mk.injEq] at he'
  obtain⟨rfl,rfl⟩:=he'
  exact Did.of_same hw (indexAddr_sound hw (ex x) (ex i) hu)
 case index t x i=>
  obtain⟨u,hu,he'⟩:=Option.map_eq_some_iff.1 h
  simp only [Prod.mk.injEq] at he'
  obtain⟨rfl,rfl⟩:=he'
  exact Did.of_same hw (index_sound (ex x) (ex i) hu)
 case lookup t x i ok=>
  obtain⟨u,hu,he'⟩:=Option.map_eq_some_iff.1 h
  simp only [Prod.mk.injEq] at he'
  obtain⟨rfl,rfl⟩:=he'
  exact Did.of_same hw (lookup_sound hw (ex x) (ex i) hu)
 case mapUpdate t m k x=>
  obtain⟨u,hu,he'⟩:=Option.map_eq_some_iff.1 h
  simp only [Prod.mk.injEq] at he'
  obtain⟨rfl,rfl⟩:=he'
  exact Did.of_unit (mapUpdate_sound hw (ex m) (ex k) (ex x) hu)
 case range t x=>
  have hx:=ex x
  split at h
  · rename_i i s hD hxs
    obtain⟨inf,d,z,hi,hu,_,rfl⟩:=Dof_spec hD
    simp only at h
    split at h
    · rename_i hd
      have:=td_str hd;subst this
      simp only [Option.some.injEq,Prod.mk.injEq] at h
      obtain⟨rfl,rfl⟩:=h
      rw [hxs] at hx
      exact Did.of_ran (range_sound hw hu hx)
    · cases h
  · rename_i i b hD hxs
    obtain⟨inf,d,z,hi,hu,_,rfl⟩:=Dof_spec hD
    simp only at h
    split at h
    · rename_i kt et es clock hd hb
      have:=td_map hd;subst this
      simp only [Option.some.injEq,Prod.mk.injEq] at h
      obtain⟨rfl,rfl⟩:=h
      rw [hxs] at hx
      exact Did.of_ran (mrange_sound hw hu hx hb)
    · cases h
  · rename_i i hD hxs
    obtain⟨inf,d,z,hi,hu,_,rfl⟩:=Dof_spec hD
    simp only at h
    split at h
    · rename_i kt et hd
      have:=td_map hd;subst this
      simp only [Option.some.injEq,Prod.mk.injEq] at h
      obtain⟨rfl,rfl⟩:=h
      rw [hxs] at hx
      exact Did.of_ran (mrange_nil hw hu hx)
    · cases h
  · cases h
 case next it b=>
  cases b with
  | false=>cases h
  | true=>
   simp only at h
   exact Did.of_ran (next_sound hw (ex it) h)
 case extract x i=>
  obtain⟨u,hu,he'⟩:=Option.map_eq_some_iff.1 h
  simp only [Prod.mk.injEq] at he'
  obtain⟨rfl,rfl⟩:=he'
  exact Did.of_same hw (extract_sound (ex x) hu)
 case call c=>
  obtain⟨callee,args,argTypes⟩:=c
  cases callee<;>simp only at h<;>try (cases h;done)
  rename_i b
  have ha:=opds_rel hw he args.toList
  unfold builtinA at h
  split at h
  · rename_i t x hts hvs
    obtain⟨u,hu,he'⟩:=Option.map_eq_some_iff.1 h
    simp only [Prod.mk.injEq] at he'
    obtain⟨rfl,rfl⟩:=he'
    rw [hvs] at ha
    simp only [VRels] at ha
    obtain⟨v1,vr,e1,h1,rfl⟩:=ha
    have eargs:args.map a.eval = #[v1]:=by apply Array.ext';simpa using e1
    have ets:argTypes = #[t]:=by apply Array.ext';simpa using hts
    have:=len_sound hw h1 type hu
    obtain⟨v',r1,r2⟩:=this
    exact⟨v',w,K,.inl (by simp [execOp,resolve,invoke,builtin,eargs,ets,r1]),Kn.le_refl K,hw,r2⟩
  · rename_i t u x y hts hvs
    split at h
    · rename_i hut
      subst hut
      rw [hvs] at ha
      simp only [VRels] at ha
      obtain⟨v1,vr,e1,h1,v2,vr2,e2,h2,rfl⟩:=ha
      have eargs:args.map a.eval = #[v1,v2]:=by apply Array.ext';simpa [e2] using e1
      have ets:argTypes = #[u,u]:=by apply Array.ext';simpa using hts
      obtain⟨v',w',K',r1,r2,r3,r4⟩:=append_sound hw h1 h2 type h
      exact⟨v',w',K',.inl (by simp [execOp,resolve,invoke,builtin,eargs,ets,r1]),r2,r3,r4⟩
    · cases h
  · rename_i x y hvs
    obtain⟨u,hu,he'⟩:=Option.map_eq_some_iff.1 h
    simp only [Prod.mk.injEq] at he'
    obtain⟨rfl,rfl⟩:=he'
    rw [hvs] at ha
    simp only [VRels] at ha
    obtain⟨v1,vr,e1,h1,v2,vr2,e2,h2,rfl⟩:=ha
    have eargs:args.map a.eval = #[v1,v2]:=by apply Array.ext';simpa [e2] using e1
    obtain⟨v',r1,r2⟩:=min_sound (P:=P) (w:=w) h1 h2 argTypes type hu
    exact⟨v',w,K,.inl (by simp [execOp,resolve,invoke,builtin,eargs,r1]),Kn.le_refl K,hw,r2⟩
  · rename_i x y z hvs
    obtain⟨u,hu,he'⟩:=Option.map_eq_some_iff.1 h
    simp only [Prod.mk.injEq] at he'
    obtain⟨rfl,rfl⟩:=he'
    rw [hvs] at ha
    simp only [VRels] at ha
    obtain⟨v1,vr,e1,h1,v2,vr2,e2,h2,v3,vr3,e3,h3,rfl⟩:=ha
    have eargs:args.map a.eval = #[v1,v2,v3]:=by apply Array.ext';simpa [e2,e3] using e1
    obtain⟨v',r1,r2⟩:=min3_sound (P:=P) (w:=w) h1 h2 h3 argTypes type hu
    exact⟨v',w,K,.inl (by simp [execOp,resolve,invoke,builtin,eargs,r1]),Kn.le_refl K,hw,r2⟩
  · rename_i x y hvs
    obtain⟨u,hu,he'⟩:=Option.map_eq_some_iff.1 h
    simp only [Prod.mk.injEq] at he'
    obtain⟨rfl,rfl⟩:=he'
    rw [hvs] at ha
    simp only [VRels] at ha
    obtain⟨v1,vr,e1,h1,v2,vr2,e2,h2,rfl⟩:=ha
    have eargs:args.map a.eval = #[v1,v2]:=by apply Array.ext';simpa [e2] using e1
    obtain⟨v',r1,r2⟩:=max_sound (P:=P) (w:=w) h1 h2 argTypes type hu
    exact⟨v',w,K,.inl (by simp [execOp,resolve,invoke,builtin,eargs,r1]),Kn.le_refl K,hw,r2⟩
  · cases h
 all_goals (first | (cases h;done) | (split at h<;>cases h))
end
end
/-! A read-only row may hold no reference to the state: then nothing is lost. -/
mutual
def noRef:AV→Bool
 | .ptr .. | .ms .. | .map _ | .iter _ | .any=>false
 | .rptr c=>noRefs c
 | .sl _ rows tok=>(match tok with | .chain .. =>false | _=>true)&&noRefss rows
 | .fn _ a b=>noRefs a&&noRefs b
 | .agg c=>noRefs c
 | .tup c=>noRefs c
 | _=>true
def noRefs:List AV→Bool
 | []=>true
 | a::r=>noRef a&&noRefs r
def noRefss:List (List AV)→Bool
 | []=>true
 | a::r=>noRefs a&&noRefss r
end
theorem noRefs_eq:∀ l,noRefs l=l.all noRef
 | []=>rfl
 | a::r=>by simp [noRefs,noRefs_eq r]
theorem noRefss_eq:∀ l,noRefss l=l.all (·.all noRef)
 | []=>rfl
 | a::r=>by simp [noRefss,noRefss_eq r,noRefs_eq]
mutual
theorem VRel.toK0 {K:Kn}:∀ (a:AV) {v:Value},noRef a=true→VRel K a v→VRel (K0 K.ro) a v
 | .any,_,h,_=>by simp [noRef] at h
 | .bool b,_,_,x=>by simpa [VRel] using x
 | .int k n,_,_,x=>by simpa [VRel] using x
 | .str s,_,_,x=>by simpa [VRel] using x
 | .nilp,_,_,x=>by simpa [VRel] using x
 | .ptr b off,_,h,x=>by simp [noRef] at h
 | .rptr c,_,h,x=>by
  simp only [VRel,noRef] at h x ⊢
  obtain⟨B,off,h1,h2⟩:=x
  exact⟨B,off,h1,CellsAt.toK0 c B off h h2⟩
 | .sl sz rows tok,_,h,x=>by
  simp only [VRel,noRef,Bool.and_eq_true] at h x ⊢
  rcases x with x|⟨B,off,cap,h1,h2,h3,h4⟩
  · exact .inl x
  · refine .inr ⟨B,off,cap,h1,h2,RowsAt.toK0 rows B off sz h.2 h3,?_⟩
    cases tok<;>simp_all [TokOk]
 | .ms b off len sz,_,h,x=>by simp [noRef] at h
 | .nilm,_,_,x=>by simpa [VRel] using x
 | .map b,_,h,x=>by simp [noRef] at h
 | .iter b,_,h,x=>by simp [noRef] at h
 | .fn f a b,_,h,x=>by
  simp only [VRel,noRef,Bool.and_eq_true] at h x ⊢
  obtain⟨va,vb,h1,h2,h3⟩:=x
  exact⟨va,vb,h1,VRels.toK0 a h.1 h2,VRels.toK0 b h.2 h3⟩
 | .nilf,_,_,x=>by simpa [VRel] using x
 | .agg c,_,h,x=>by
  simp only [VRel,noRef] at h x ⊢
  obtain⟨vs,h1,h2⟩:=x
  exact⟨vs,h1,VRels.toK0 c h h2⟩
 | .tup c,_,h,x=>by
  simp only [VRel,noRef] at h x ⊢
  obtain⟨vs,h1,h2⟩:=x
  exact⟨vs,h1,VRels.toK0 c h h2⟩
theorem VRels.toK0 {K:Kn}:∀ (l:List AV) {vs:List Value},noRefs l=true→VRels K l vs→VRels (K0 K.ro) l vs
 | [],_,_,x=>by simpa [VRels] using x
 | a::r,_,h,x=>by
  simp only [VRels,noRefs,Bool.and_eq_true] at h x ⊢
  obtain⟨v,vr,h1,h2,h3⟩:=x
  exact⟨v,vr,h1,VRel.toK0 a h.1 h2,VRels.toK0 r h.2 h3⟩
theorem CellsAt.toK0 {K:Kn}:∀ (l:List AV) (B off:Nat),noRefs l=true→CellsAt K B off l→CellsAt (K0 K.ro) B off l
 | [],_,_,_,_=>by simp [CellsAt]
 | a::r,B,off,h,x=>by
  simp only [CellsAt,noRefs,Bool.and_eq_true] at h x ⊢
  obtain⟨⟨v,h1,h2⟩,h3⟩:=x
  exact⟨⟨v,h1,VRel.toK0 a h.1 h2⟩,CellsAt.toK0 r _ _ h.2 h3⟩
theorem RowsAt.toK0 {K:Kn}:∀ (l:List (List AV)) (B off sz:Nat),noRefss l=true→RowsAt K B off sz l→RowsAt (K0 K.ro) B off sz l
 | [],_,_,_,_,_=>by simp [RowsAt]
 | a::r,B,off,sz,h,x=>by
  simp only [RowsAt,noRefss,Bool.and_eq_true] at h x ⊢
  obtain⟨⟨h1,h0,h2⟩,h3⟩:=x
  exact⟨⟨h1,h0,CellsAt.toK0 a _ _ h.1 h2⟩,RowsAt.toK0 r _ _ _ h.2 h3⟩
end
end Go.Abs
end
