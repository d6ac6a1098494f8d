/- A part of the proof: Walk95 AbsGrp7 AbsAsk7 Walk97 Join7b. -/
import Derived.Test.YtpgcmnabljandaaGreatDoorGa49
import Derived.Test.YtpgcmnabljandaaGreatDoorGa24
import Derived.Test.YtpgcmnabljandaaGreatDoorGa50
import Derived.Test.YtpgcmnabljandaaGreatDoorGa25
import Derived.Test.YtpgcmnabljandaaGreatDoorGa26
set_option linter.unusedVariables false
set_option linter.unusedSimpArgs false
set_option maxRecDepth 100000
section
namespace Go.Proofs.YtpgcmnabljandaaGreatDoor
open Go Go.Abs
def nameAt (l:List Var) (s:Str) (i:Int):Bool:=decide (0≤i)&&(l[i.toNat]?).any fun v=>v.name==s
def grpI (p:Problem) (s:Str):Int:=findI (fun g:List Int=>g.any (nameAt p.vars s)) p.groups 0
set_option maxHeartbeats 4000000 in
theorem group87 (p:Problem) (s:Str) (hg:Fits p.groups) (hgs:∀ g∈p.groups,Fits g) (hv:Fits p.vars):Pure Tryz.prog GG 87 [.agg (encP p),.str s] (.int .i64 (grpI p s)):=by
 refine Pure.k mixed Tryz.func87 rfl (by kernel_rfl) ?_
 have hr:grpI p s=findI (fun g:List Int=>g.any (nameAt p.vars s)) p.groups 0:=rfl
 generalize grpI p s=r at hr
 simp [-acells,-fin,-fin1,-fin2,-pl1,-pl2,-plain,-AV.atom,-getElem?_pos]
 refine kLoop.listR p.groups (fun d ev σ=>ev 1=.str s∧ev 2=.ptr 0 0∧σ.H[0]?=some (.cells [.sl 4 (p.vars.map encVar) .none,.sl 4 (p.hard.map encE) .none,.sl 4 (p.soft.map encE) .none,.sl 2 (p.dists.map encDist) .none,.sl 1 (p.groups.map encInts) .none])∧ev 5=.int .i64 d.length∧r=findI (fun g:List Int=>g.any (nameAt p.vars s)) (p.groups.drop d.length) d.length) ?_ ?_ ?_
 · exact⟨by simp,by simp,by simp,by simp,by simpa using hr⟩
 · rintro d g l ev σ Rl hRl hd hx hlt ⟨h1,h2,b0,h5,hf⟩
   have hgm:=List.mem_of_getElem? hx
   have hgl:=hgs g hgm
   rw [drop_cons hx] at hf
   simp only [findI] at hf
   have hdw:IntKind.i64.wrap ((d.length:Int)+1)=(d.length+1:Nat):=by rw [wr (by unfold Fits at hg;omega) (by unfold Fits at hg;omega)];omega
   simp [-acells,-fin,-fin1,-fin2,-pl1,-pl2,-plain,-AV.atom,-getElem?_pos,h1,h2,b0,h5,hlt]
   refine kLoop.listR g (fun e ev σ=>ev 1=.str s∧ev 2=.ptr 0 0∧σ.H[0]?=some (.cells [.sl 4 (p.vars.map encVar) .none,.sl 4 (p.hard.map encE) .none,.sl 4 (p.soft.map encE) .none,.sl 2 (p.dists.map encDist) .none,.sl 1 (p.groups.map encInts) .none])∧ev 5=.int .i64 d.length∧ev 6=.int .i64 e.length∧∀ i∈e,nameAt p.vars s i=false) ?_ ?_ ?_
   · exact⟨by simp [h1],by simp [h2],b0,by simp [h5],by simp,by simp⟩
   · clear h1 h2 h5 b0
     rintro e i m ev σ Rm hRm he hy hlt2 ⟨h1,h2,b0,h5,h6,hz⟩
     have hew:IntKind.i64.wrap ((e.length:Int)+1)=(e.length+1:Nat):=by rw [wr (by unfold Fits at hgl;omega) (by unfold Fits at hgl;omega)];omega
     have hn:nameAt p.vars s i=(decide (0≤i)&&(p.vars[i.toNat]?).any fun v=>v.name==s):=rfl
     have hbt:nameAt p.vars s i=true→g.any (nameAt p.vars s)=true:=fun h=>List.any_eq_true.2 ⟨i,List.mem_of_getElem? hy,h⟩
     by_cases h0:0≤i
     · cases hvv:p.vars[i.toNat]? with
       | none=>
        have hb:nameAt p.vars s i=false:=by rw [hn,hvv];simp
        have h7:¬ i<p.vars.length:=by simp at hvv;omega
        simp [-acells,-fin,-fin1,-fin2,-pl1,-pl2,-plain,-AV.atom,-getElem?_pos,-Int.natCast_add,h1,h2,b0,h5,h6,hlt2,hlt,hx,hy,encInts,encInt,h0,h7,hew]
        exact hRm _ _ ⟨by simp [h1],by simp [h2],b0,by simp [h5],by simp [-Int.natCast_add,hew],hz_snoc hz hb⟩
       | some v=>
        obtain⟨hl,hv'⟩:=List.getElem?_eq_some_iff.1 hvv
        have h7:i<p.vars.length:=by omega
        by_cases hs:v.name=s
        · have hb:nameAt p.vars s i=true:=by rw [hn,hvv];simp [h0,hs]
          rw [if_pos (hbt hb)] at hf
          simp [-acells,-fin,-fin1,-fin2,-pl1,-pl2,-plain,-AV.atom,-getElem?_pos,-Int.natCast_add,h1,h2,b0,h5,h6,hlt2,hlt,hx,hy,encInts,encInt,h0,h7,hvv,hs,hf]
        · have hb:nameAt p.vars s i=false:=by rw [hn,hvv];simp [hs]
          simp [-acells,-fin,-fin1,-fin2,-pl1,-pl2,-plain,-AV.atom,-getElem?_pos,-Int.natCast_add,h1,h2,b0,h5,h6,hlt2,hlt,hx,hy,encInts,encInt,h0,h7,hvv,hs,hew]
          exact hRm _ _ ⟨by simp [h1],by simp [h2],b0,by simp [h5],by simp [-Int.natCast_add,hew],hz_snoc hz hb⟩
     · have hb:nameAt p.vars s i=false:=by rw [hn];simp [h0]
       simp [-acells,-fin,-fin1,-fin2,-pl1,-pl2,-plain,-AV.atom,-getElem?_pos,-Int.natCast_add,h1,h2,b0,h5,h6,hlt2,hlt,hx,hy,encInts,encInt,h0,hew]
       exact hRm _ _ ⟨by simp [h1],by simp [h2],b0,by simp [h5],by simp [-Int.natCast_add,hew],hz_snoc hz hb⟩
   · clear h1 h2 h5 b0
     rintro ev σ ⟨h1,h2,b0,h5,h6,hz⟩
     have hany:¬ g.any (nameAt p.vars s)=true:=fun h=>by
      obtain⟨i,hi,hi2⟩:=List.any_eq_true.1 h
      rw [hz i hi] at hi2;cases hi2
     rw [if_neg hany] at hf
     simp [-acells,-fin,-fin1,-fin2,-pl1,-pl2,-plain,-AV.atom,-getElem?_pos,-Int.natCast_add,h1,h2,b0,h5,h6,hlt,hx,encInts,hdw]
     refine hRl _ _ ⟨by simp [h1],by simp [h2],b0,by simp [-Int.natCast_add,hdw],?_⟩
     rw [hf,List.length_append,List.length_singleton];simp
 · rintro ev σ ⟨h1,h2,b0,h5,hf⟩
   simp [-acells,-fin,-fin1,-fin2,-pl1,-pl2,-plain,-AV.atom,-getElem?_pos,h1,h2,b0,h5,hf,findI]
def befS (p:Problem) (a b:Str):Bool:=decide (grpI p a<0)||decide (grpI p b<0)||decide (grpI p a<grpI p b)
set_option maxHeartbeats 4000000 in
theorem before33 (p:Problem) (a b:Str) (hg:Fits p.groups) (hgs:∀ g∈p.groups,Fits g) (hv:Fits p.vars):Pure Tryz.prog GG 33 [.agg (encP p),.str a,.str b] (.bool (befS p a b)):=by
 refine Pure.k mixed Tryz.func33 rfl (by kernel_rfl) ?_
 have h1:=group87 p a hg hgs hv
 have h2:=group87 p b hg hgs hv
 have hr:befS p a b=(decide (grpI p a<0)||decide (grpI p b<0)||decide (grpI p a<grpI p b)):=rfl
 simp only [encP] at h1 h2
 generalize befS p a b=r at hr
 generalize grpI p a=x at *
 generalize grpI p b=y at *
 simp [-acells,-fin,-fin1,-fin2,-pl1,-pl2,-plain,-AV.atom,-getElem?_pos]
 refine kCall.call h1 (by simp) ?_
 simp [-acells,-fin,-fin1,-fin2,-pl1,-pl2,-plain,-AV.atom,-getElem?_pos]
 refine kCall.call h2 (by simp) ?_
 by_cases hx:x<0
 · simp [-acells,-fin,-fin1,-fin2,-pl1,-pl2,-plain,-AV.atom,-getElem?_pos,hx,hr]
 · by_cases hy:y<0
   · simp [-acells,-fin,-fin1,-fin2,-pl1,-pl2,-plain,-AV.atom,-getElem?_pos,hx,hy,hr]
   · simp [-acells,-fin,-fin1,-fin2,-pl1,-pl2,-plain,-AV.atom,-getElem?_pos,hx,hy,hr]
section
variable {V:List Var} {E:List (Int×Int)}
theorem grpN_mem {n k:Nat} {i:Int}:i∈grpN V E n k↔∃ j:Nat,j<n∧i=j∧rndS V (j:Int)=true∧levelS E V.length (j:Int)=k:=by
 unfold grpN
 simp only [List.mem_map,List.mem_filter,List.mem_range,Bool.and_eq_true,decide_eq_true_eq]
 constructor
 · rintro⟨j,⟨h1,h2,h3⟩,rfl⟩;exact⟨j,h1,rfl,h2,h3⟩
 · rintro⟨j,h1,rfl,h2,h3⟩;exact⟨j,⟨h1,h2,h3⟩,rfl⟩
theorem grpN_asc (n k:Nat):(grpN V E n k).Pairwise (· < ·):=by
 induction n with
 | zero=>simp [grpN]
 | succ n ih=>
  rw [grpN_succ]
  split
  · rw [List.pairwise_append]
    refine⟨ih,by simp,fun a ha b hb=>?_⟩
    obtain⟨j,hj,rfl,_⟩:=grpN_mem.1 ha
    simp at hb;subst hb;omega
  · exact ih
theorem groupsL_mem {g:List Int} (h:g∈groupsL V E):g≠[]∧∃ k,k≤topL E V.length∧g=grpN V E V.length k:=by
 have hgr:groupsL V E=((List.range (topL E V.length+1)).map (grpN V E V.length)).filter fun g=>!g.isEmpty:=rfl
 rw [hgr] at h
 obtain⟨h1,h2⟩:=List.mem_filter.1 h
 obtain⟨k,hk,rfl⟩:=List.mem_map.1 h1
 have:=List.mem_range.1 hk
 exact⟨by rintro e;rw [e] at h2;simp at h2,k,by omega,rfl⟩
def cntR (V:List Var) (n:Nat):Nat:=((List.range n).filter fun (i:Nat)=>rndS V (i:Int)).length
theorem sum_zero (m:Nat):((List.range m).map fun _=>0).sum=0:=by
 induction m with
 | zero=>rfl
 | succ m ih=>rw [List.range_succ,List.map_append,List.sum_append,ih];rfl
theorem sum_one (m k:Nat):((List.range m).map fun j=>if j=k then 1 else 0).sum=if k<m then 1 else 0:=by
 induction m with
 | zero=>simp
 | succ m ih=>
  rw [List.range_succ,List.map_append,List.sum_append,ih]
  simp only [List.map_cons,List.map_nil,List.sum_cons,List.sum_nil]
  split<;>split<;>split<;>omega
theorem sum_add (m:Nat) (f g:Nat→Nat):((List.range m).map fun j=>f j+g j).sum=((List.range m).map f).sum+((List.range m).map g).sum:=by
 induction m with
 | zero=>rfl
 | succ m ih=>
  rw [List.range_succ,List.map_append,List.sum_append,ih,List.map_append,List.sum_append,List.map_append,List.sum_append]
  simp only [List.map_cons,List.map_nil,List.sum_cons,List.sum_nil]
  omega
theorem grp_sum (m:Nat) (hm:topL E V.length<m):∀ n:Nat,((List.range m).map fun k=>(grpN V E n k).length).sum=cntR V n
 | 0=>by simp [grpN,cntR];exact sum_zero m
 | n+1=>by
  have ih:=grp_sum m hm n
  have h1:∀ k,(grpN V E (n+1) k).length=(grpN V E n k).length+if rndS V (n:Int)=true then (if k=levelS E V.length (n:Int) then 1 else 0) else 0:=fun k=>by
   rw [grpN_succ]
   by_cases h:rndS V (n:Int)=true
   · by_cases h2:levelS E V.length (n:Int)=k
     · rw [if_pos ⟨h,h2⟩,if_pos h,if_pos h2.symm];simp
     · rw [if_neg (fun q=>h2 q.2),if_pos h,if_neg (fun q=>h2 q.symm)];simp
   · rw [if_neg (fun q=>h q.1),if_neg h];simp
  have h2:cntR V (n+1)=cntR V n+if rndS V (n:Int)=true then 1 else 0:=by
   unfold cntR
   rw [List.range_succ,List.filter_append,List.length_append]
   congr 1
   by_cases h:rndS V (n:Int)=true<;>simp [h]
  simp only [h1]
  rw [sum_add,ih,h2]
  congr 1
  by_cases h:rndS V (n:Int)=true
  · simp only [if_pos h]
    rw [sum_one,if_pos (by have:=levelS_le (E:=E) V.length (n:Int);omega)]
  · simp only [if_neg h]
    exact sum_zero m
theorem filter_sum:∀ l:List (List Int),((l.filter fun g=>!g.isEmpty).map List.length).sum=(l.map List.length).sum
 | []=>rfl
 | a::r=>by
  cases a with
  | nil=>simpa using filter_sum r
  | cons x m=>simpa using filter_sum r
theorem groupsL_count:((groupsL V E).map List.length).sum=(rndL V V.length).length:=by
 have hgr:groupsL V E=((List.range (topL E V.length+1)).map (grpN V E V.length)).filter fun g=>!g.isEmpty:=rfl
 rw [hgr,filter_sum,List.map_map]
 have:=grp_sum (V:=V) (E:=E) (topL E V.length+1) (by omega) V.length
 rw [show (List.length∘grpN V E V.length)=fun k=>(grpN V E V.length k).length from rfl,this]
 unfold cntR rndL
 rw [List.length_map]
theorem six_edge {F:Flds} {ls:List (List It)} {l:List It} {y:It} (hl:l∈ls) (hy:y∈l) (hk:y.kind=6) {i k:Int} (hi:i∈namedL V y.after) (hk2:k∈namedL V y.before) (h1:rndS V i=true) (h2:rndS V k=true):(i,k)∈(expandedS F ls).flatMap (edgesI V):=by
 have hx:It.mk 6 zEx [] [] [] [] [] y.before y.after∈expandedS F ls:=by
  refine List.mem_flatMap.2 ⟨l,hl,List.mem_flatMap.2 ⟨y,hy,?_⟩⟩
  simp [expandI,hk]
 refine List.mem_flatMap.2 ⟨_,hx,?_⟩
 unfold edgesI
 split
 case isFalse hn=>exact absurd rfl hn
 exact List.mem_flatMap.2 ⟨i,hi,List.mem_map.2 ⟨k,List.mem_filter.2 ⟨hk2,by rw [h1,h2];rfl⟩,rfl⟩⟩
theorem named_idx {s:Str} {names:List Str} (hs:s∈names) (h:0≤idxS V s):idxS V s∈namedL V names :=
 List.mem_flatMap.2 ⟨s,hs,by unfold namedS1;rw [if_pos h];simp⟩
theorem edge_level {i k:Int} (h:(i,k)∈E) (ha:acyc E V.length=true):levelS E V.length k<levelS E V.length i:=by
 obtain⟨h1,h2⟩:=inRel_l h
 unfold levelS
 rw [if_pos h1,if_pos h2]
 exact acyc_lt ha h
theorem findI_at {α:Type} {p:α→Bool}:∀ {l:List α} {s:Int},0≤s→0≤findI p l s→∃ (n:Nat) (x:α),findI p l s=s+n∧l[n]?=some x∧p x=true
 | [],s,_,h=>by simp [findI] at h
 | a::r,s,hs,h=>by
  by_cases hp:p a=true
  · exact⟨0,a,by simp [findI,hp],by simp,hp⟩
  · have hp':p a=false:=by simpa using hp
    simp only [findI,hp',Bool.false_eq_true,if_false] at h ⊢
    obtain⟨n,x,h1,h2,h3⟩:=findI_at (l:=r) (s:=s+1) (by omega) h
    exact⟨n+1,x,by omega,by simpa using h2,h3⟩
theorem groups_order {x y:Nat} {g h:List Int} {i j:Int} (hx:(groupsL V E)[x]?=some g) (hy:(groupsL V E)[y]?=some h) (hi:i∈g) (hj:j∈h) (hlt:levelS E V.length i<levelS E V.length j):x<y:=by
 have hgr:groupsL V E=((List.range (topL E V.length+1)).filter fun k=>!(grpN V E V.length k).isEmpty).map (grpN V E V.length):=by
  rw [show groupsL V E=((List.range (topL E V.length+1)).map (grpN V E V.length)).filter fun g=>!g.isEmpty from rfl,List.filter_map]
  rfl
 rw [hgr,List.getElem?_map] at hx hy
 obtain⟨a,ha,rfl⟩:=Option.map_eq_some_iff.1 hx
 obtain⟨b,hb,rfl⟩:=Option.map_eq_some_iff.1 hy
 obtain⟨_,_,rfl,_,la⟩:=grpN_mem.1 hi
 obtain⟨_,_,rfl,_,lb⟩:=grpN_mem.1 hj
 rw [la,lb] at hlt
 have hp:((List.range (topL E V.length+1)).filter fun k=>!(grpN V E V.length k).isEmpty).Pairwise (· < ·):=List.Pairwise.filter _ List.pairwise_lt_range
 obtain⟨hxl,rfl⟩:=List.getElem?_eq_some_iff.1 ha
 obtain⟨hyl,rfl⟩:=List.getElem?_eq_some_iff.1 hb
 apply Classical.byContradiction
 intro hn
 rcases Nat.lt_or_ge y x with h1|h1
 · have:=List.pairwise_iff_getElem.1 hp y x hyl hxl h1
   omega
 · have:x=y:=by omega
   subst this
   omega
theorem idx_unique {s:Str} {k:Int} (hn:(V.map Var.name).Nodup) (h:nameAt V s k=true):idxS V s=k∧0≤k:=by
 unfold nameAt at h
 rw [Bool.and_eq_true] at h
 have h0:0≤k:=of_decide_eq_true h.1
 cases hv:V[k.toNat]? with
 | none=>rw [hv] at h;simp at h
 | some v=>
  rw [hv] at h
  have hvn:v.name=s:=by simpa using h.2
  have hf:0≤findI (fun v:Var=>v.name==s) V 0:=(findI_ge (by omega)).2 (List.any_eq_true.2 ⟨v,List.mem_of_getElem? hv,by simpa using hvn⟩)
  obtain⟨n,x,h1,h2,h3⟩:=findI_at (l:=V) (s:=0) (by omega) hf
  have hx:x.name=s:=by simpa using h3
  have:=nodup_at hn h2 hv (by rw [hx,hvn])
  refine⟨?_,h0⟩
  unfold idxS
  rw [h1];omega
theorem nameAt_map {V V':List Var} (h:V'.map Var.name=V.map Var.name) (s:Str) (k:Int):nameAt V' s k=nameAt V s k:=by
 have e:∀ n:Nat,V'[n]?.map Var.name=V[n]?.map Var.name:=fun n=>by
  have:=congrArg (fun l:List Str=>l[n]?) h
  simpa using this
 unfold nameAt
 have:=e k.toNat
 cases h1:V'[k.toNat]?<;>cases h2:V[k.toNat]?<;>rw [h1,h2] at this<;>simp at this ⊢
 rw [this]
theorem before_ok {p:Problem} (hg:p.groups=groupsL V E) (hnm:p.vars.map Var.name=V.map Var.name) (hn:(V.map Var.name).Nodup) (ha:acyc E V.length=true) {a b:Str}
 (hE:∀ i k,idxS V b=i→0≤i→idxS V a=k→0≤k→rndS V i=true→rndS V k=true→(i,k)∈E):befS p a b=true:=by
 unfold befS
 by_cases h1:grpI p a<0
 · simp [h1]
 by_cases h2:grpI p b<0
 · simp [h2]
 have look:∀ s,¬ grpI p s<0→∃ (n:Nat) (g:List Int),grpI p s=n∧(groupsL V E)[n]?=some g∧∃ k∈g,idxS V s=k∧0≤k∧rndS V k=true:=fun s hs=>by
  obtain⟨n,g,q1,q2,q3⟩:=findI_at (p:=fun g:List Int=>g.any (nameAt p.vars s)) (l:=p.groups) (s:=0) (by omega) (by unfold grpI at hs;omega)
  rw [hg] at q2
  obtain⟨k,hk,hk2⟩:=List.any_eq_true.1 q3
  rw [nameAt_map hnm] at hk2
  obtain⟨e1,e2⟩:=idx_unique hn hk2
  obtain⟨_,m,_,rfl⟩:=groupsL_mem (List.mem_of_getElem? q2)
  obtain⟨j,_,rfl,hr,_⟩:=grpN_mem.1 hk
  exact⟨n,_,by unfold grpI;omega,q2,_,hk,e1,e2,hr⟩
 obtain⟨x,g,x1,x2,k,hk,k1,k2,k3⟩:=look a h1
 obtain⟨y,g',y1,y2,i,hi,i1,i2,i3⟩:=look b h2
 have he:=hE i k i1 i2 k1 k2 i3 k3
 have:=groups_order x2 y2 hk hi (edge_level he ha)
 have h3:grpI p a<grpI p b:=by omega
 simp [h3]
end
theorem dupS_nd {l:List Var} (h:dupS l=false):(l.map Var.name).Nodup:=by
 unfold dupS at h
 rw [List.any_eq_false] at h
 rw [List.Nodup,List.pairwise_iff_getElem]
 intro i j hi hj hij e
 have hj':j<l.length:=by simpa using hj
 have hi':i<l.length:=by simpa using hi
 refine h j (List.mem_range.2 hj') ?_
 unfold dupAt
 rw [List.getElem?_eq_getElem hj']
 show hasV (l.take j) l[j].name=true
 unfold hasV
 rw [List.any_eq_true]
 refine⟨l[i],?_,?_⟩
 · rw [List.mem_take_iff_getElem]
   exact⟨i,by omega,rfl⟩
 · simp only [List.getElem_map] at e
   simp [e]
theorem ask_facts {q:Ask} (h:AskOk q) (h0:problemE q=0):VQ (problemS q)∧validP (problemS q)=0∧(∀ g∈(problemS q).groups,g≠[]∧g.Pairwise (· < ·)∧∀ i∈g,rndS (problemS q).vars i=true)∧((problemS q).groups.map List.length).sum=(randomI (problemS q)).length ∧
 ∀ y∈q.more,y.kind=6→∀ a b,a∈y.before→b∈y.after→befS (problemS q) a b=true:=by
 have hE:problemE q=if lineE q.src q.name≠0 then lineE q.src q.name else if q.off.any (fun s=>!(flattenS q.src q.name).blocks.any fun b=>b.name==s)=true then 7 else buildE (flattenS q.src q.name) q.off q.more q.state:=rfl
 have hS:problemS q=buildP (flattenS q.src q.name) q.off q.more q.state:=by
  have:problemS q=if problemE q≠0 then zProb else buildP (flattenS q.src q.name) q.off q.more q.state:=rfl
  rw [this,if_neg (by simp [h0])]
 rw [h0] at hE
 have hl:lineE q.src q.name=0:=by
  apply Classical.byContradiction
  intro hn
  rw [if_pos hn] at hE
  exact hn hE.symm
 rw [if_neg (by simp [hl])] at hE
 split at hE
 · cases hE
 rw [answers_build] at hE
 have hz:=firstE_zero.1 hE.symm
 have hc:=flat_ok hl
 have hfew:=h.few
 have hv:=hz (validP (buildP (flattenS q.src q.name) q.off q.more q.state)) (by simp [answers,buildP])
 have hac:=hz (if acyc ((expandedS (fldsOf (flattenS q.src q.name)) (listsC (flattenS q.src q.name) q.off q.more)).flatMap (edgesI (varsC (flattenS q.src q.name)))) (varsC (flattenS q.src q.name)).length=true then 0 else 10) (by simp [answers])
 have hx:=hz (firstE (expandE (fldsOf (flattenS q.src q.name))) (listsC (flattenS q.src q.name) q.off q.more)) (by simp [answers])
 have h5:=hz (firstE (fun y=>scalarE (fldsOf (flattenS q.src q.name)) (varsC (flattenS q.src q.name)) y.expr) (kindsL 1 (expandedS (fldsOf (flattenS q.src q.name)) (listsC (flattenS q.src q.name) q.off q.more)))) (by simp [answers])
 have h6:=hz (firstE (fun y=>scalarE (fldsOf (flattenS q.src q.name)) (varsC (flattenS q.src q.name)) y.expr) (kindsL 2 (expandedS (fldsOf (flattenS q.src q.name)) (listsC (flattenS q.src q.name) q.off q.more)))) (by simp [answers])
 simp only [id] at hv hac hx h5 h6
 rw [hS]
 have hxo:=expanded_ok (F:=fldsOf (flattenS q.src q.name)) hfew hx
 generalize flattenS q.src q.name=c at *
 have hnb:(listsC c q.off q.more).length≤25:=by
  have:=hc.nb
  have h1:=List.length_filter_le (onB q.off) c.blocks
  simp only [listsC,List.length_append,List.length_map,List.length_singleton]
  omega
 have hvq:=problem_vq hc (varsC_len hc) _ hxo.1 (by have:=hxo.2;omega) q.state h5 h6
 have ha:acyc ((expandedS (fldsOf c) (listsC c q.off q.more)).flatMap (edgesI (varsC c))) (varsC c).length=true:=by
  apply Classical.byContradiction
  intro hn
  rw [if_neg hn] at hac;cases hac
 have hnm:(buildP c q.off q.more q.state).vars.map Var.name=(varsC c).map Var.name:=foldV_names q.state (varsC c)
 have hlen:(buildP c q.off q.more q.state).vars.length=(varsC c).length:=foldV_len q.state (varsC c)
 have hrn:∀ i,rndS (buildP c q.off q.more q.state).vars i=rndS (varsC c) i:=rndS_states (varsC c) q.state
 have hnd:((varsC c).map Var.name).Nodup:=by
  rw [← hnm]
  refine dupS_nd ?_
  have hvs:varsS (buildP c q.off q.more q.state).vars=0:=by
   unfold validP at hv
   split at hv
   · rename_i hn;exact absurd hv hn
   · rename_i hn;exact Classical.not_not.1 hn
  cases e:dupS (buildP c q.off q.more q.state).vars with
  | false=>rfl
  | true=>
   exfalso
   unfold varsS at hvs
   split at hvs
   · cases hvs
   split at hvs
   · rename_i hn;exact hn hvs
   first
    | (rw [if_pos e] at hvs;cases hvs)
    | cases hvs
 refine⟨hvq,hv,fun g hg=>?_,?_,fun y hy hk a b haa hbb=>?_⟩
 · obtain⟨g1,k,_,rfl⟩:=groupsL_mem (show g∈groupsL (varsC c) _ from hg)
   refine⟨g1,grpN_asc _ _,fun i hi=>?_⟩
   rw [hrn]
   obtain⟨j,_,rfl,hr,_⟩:=grpN_mem.1 hi
   exact hr
 · have hr:randomI (buildP c q.off q.more q.state)=rndL (buildP c q.off q.more q.state).vars (buildP c q.off q.more q.state).vars.length:=by unfold randomI;rw [if_neg (by simp [hv])]
   have hrl:rndL (buildP c q.off q.more q.state).vars (buildP c q.off q.more q.state).vars.length=rndL (varsC c) (varsC c).length:=by
    rw [hlen]
    unfold rndL
    simp only [hrn]
   rw [hr,hrl]
   exact groupsL_count
 · refine before_ok (V:=varsC c) rfl hnm hnd ha fun i k e1 e2 e3 e4 r1 r2=>?_
   refine six_edge (l:=q.more) (by simp [listsC]) hy hk ?_ ?_ r1 r2
   · rw [← e1];exact named_idx hbb (by omega)
   · rw [← e3];exact named_idx haa (by omega)
theorem len_le_sum:∀ l:List (List Int),(∀ g∈l,g≠[])→l.length≤(l.map List.length).sum
 | [],_=>by simp
 | a::r,h=>by
  have h1:=len_le_sum r fun g hg=>h g (by simp [hg])
  have h2:=List.length_pos_iff.2 (h a (by simp))
  simp only [List.map_cons,List.sum_cons,List.length_cons]
  omega
set_option maxHeartbeats 16000000 in
theorem law7 (q:Ask) (h:HoldA q):Pure Tryz.prog GG 7 [.agg (encAsk q)] (.bool true):=by
 refine Pure.k mixed Tryz.func7 rfl (by kernel_rfl) ?_
 have hl:=light10 q h
 simp only [encAsk] at hl
 simp [-acells,-fin,-fin1,-fin2,-pl1,-pl2,-plain,-AV.atom,-getElem?_pos]
 refine kCall.call hl (by simp) ?_
 cases hlt:lightS q with
 | false=>
  simp [-acells,-fin,-fin1,-fin2,-pl1,-pl2,-plain,-AV.atom,-getElem?_pos]
  refine kCall.call works11 (by simp) ?_
  simp [-acells,-fin,-fin1,-fin2,-pl1,-pl2,-plain,-AV.atom,-getElem?_pos]
 | true=>
  have ha:=ask_ok h hlt
  have hp:=problem12 q ha
  have hfc:=ask_facts ha
  generalize problemS q=p at *
  generalize problemE q=e at *
  simp only [encP] at hp
  simp [-acells,-fin,-fin1,-fin2,-pl1,-pl2,-plain,-AV.atom,-getElem?_pos]
  refine kCall.call hp (by simp) ?_
  by_cases he:e=0
  · obtain⟨hvq,hv,hgr,hct,hbf⟩:=hfc he
    simp [-acells,-fin,-fin1,-fin2,-pl1,-pl2,-plain,-AV.atom,-getElem?_pos,he]
    have hcl:(randomI p).length≤1000:=by
     have h1:(randomI p).length≤p.vars.length:=by
      unfold randomI
      split
      · simp
      · exact rndL_len
     have:=hvq.vars
     omega
    refine kLoop.listR p.groups (fun d ev σ=>ev 1=.ptr 0 0∧ev 3=.ptr 1 0∧ev 5=.int .i64 ((d.map List.length).sum:Nat)∧ev 6=.int .i64 ((d.length:Int)-1)∧ev 7=.int .i64 d.length∧σ.H[0]?=some (.cells [.sl 4 (q.src.map encCls) .none,.str q.name,.sl 1 (q.off.map encStr) .none,.sl 12 (q.more.map encI) .none,.sl 2 (q.state.map encSignal) .none])∧σ.H[1]?=some (.cells [.sl 4 (p.vars.map encVar) .none,.sl 4 (p.hard.map encE) .none,.sl 4 (p.soft.map encE) .none,.sl 2 (p.dists.map encDist) .none,.sl 1 (p.groups.map encInts) .none])) ?_ ?_ ?_
    · exact⟨by simp,by simp,by simp,by simp,by simp,by simp,by simp⟩
    · rintro d g l ev σ Rl hRl hd hx hlt ⟨h1,h3,h5,h6,h7,b0,b1⟩
      obtain⟨g1,g2,g3⟩:=hgr g (List.mem_of_getElem? hx)
      have hsum:(d.map List.length).sum+g.length≤1000:=by
       have:(p.groups.map List.length).sum=(d.map List.length).sum+(g.length+(l.map List.length).sum):=by
        rw [hd];simp
       omega
      have hdl:d.length≤1000000000:=by
       have:=len_le_sum d fun g hg=>(hgr g (by rw [hd];simp [hg])).1
       omega
      have hdw:IntKind.i64.wrap ((d.length:Int)+1)=(d.length+1:Nat):=by rw [wr (by omega) (by omega)];omega
      simp [-acells,-fin,-fin1,-fin2,-pl1,-pl2,-plain,-AV.atom,-getElem?_pos,-Int.natCast_add,h1,h3,h5,h6,h7,b0,b1,hlt]
      refine kLoop.listR g (fun e ev σ=>ev 1=.ptr 0 0∧ev 3=.ptr 1 0∧ev 5=.int .i64 ((d.map List.length).sum+e.length:Nat)∧ev 7=.int .i64 d.length∧ev 8=.int .i64 e.length∧σ.H[0]?=some (.cells [.sl 4 (q.src.map encCls) .none,.str q.name,.sl 1 (q.off.map encStr) .none,.sl 12 (q.more.map encI) .none,.sl 2 (q.state.map encSignal) .none])∧σ.H[1]?=some (.cells [.sl 4 (p.vars.map encVar) .none,.sl 4 (p.hard.map encE) .none,.sl 4 (p.soft.map encE) .none,.sl 2 (p.dists.map encDist) .none,.sl 1 (p.groups.map encInts) .none])) ?_ ?_ ?_
      · exact⟨by simp [h1],by simp [h3],by simp [h5],by simp [h7],by simp,b0,b1⟩
      · clear h1 h3 h5 h6 h7 b0 b1
        rintro e v m ev σ Rm hRm he hy hlt2 ⟨h1,h3,h5,h7,h8,b0,b1⟩
        have hr:=g3 v (List.mem_of_getElem? hy)
        obtain⟨r1,r2⟩:=rndS_lt hr
        have hew:IntKind.i64.wrap ((e.length:Int)+1)=(e.length+1:Nat):=by rw [wr (by omega) (by omega)];omega
        have hsw:IntKind.i64.wrap ((((d.map List.length).sum+e.length:Nat):Int)+1)=((d.map List.length).sum+(e.length+1):Nat):=by rw [wr (by omega) (by omega)];omega
        obtain⟨vv,hvv,hmd⟩:∃ vv,p.vars[v.toNat]?=some vv∧vv.mode≠0:=by
         unfold rndS at hr
         rw [Bool.and_eq_true] at hr
         cases hq:p.vars[v.toNat]? with
         | none=>rw [hq] at hr;simp at hr
         | some u=>rw [hq] at hr;exact⟨u,rfl,by simpa using hr.2⟩
        have hv0:¬ v<0:=by omega
        have hv1:¬ (p.vars.length:Int)≤v:=by omega
        have hfin:∀ ev',(ev' 1=.ptr 0 0∧ev' 3=.ptr 1 0∧ev' 5=.int .i64 ((d.map List.length).sum+(e.length+1):Nat)∧ev' 7=.int .i64 d.length∧ev' 8=.int .i64 (e.length+1:Nat))→Rm ev' σ:=fun ev' hh=>by
         obtain⟨k1,k3,k5,k7,k8⟩:=hh
         exact hRm _ _ ⟨k1,k3,by rw [k5];simp,k7,by rw [k8];simp,b0,b1⟩
        by_cases he0:e=[]
        · have he2:¬ 0<e.length:=by rw [he0];simp
          simp [-acells,-fin,-fin1,-fin2,-pl1,-pl2,-plain,-AV.atom,-getElem?_pos,-Int.natCast_add,h1,h3,h5,h7,h8,b0,b1,hlt,hlt2,hx,hy,encInts,encInt,hv0,hv1,r1,r2,hvv,hmd,hew,hsw,he2]
          exact hfin _ ⟨by simp [h1],by simp [h3],by simp [-Int.natCast_add,hsw],by simp [h7],by simp [-Int.natCast_add,hew]⟩
        · have he1:0<e.length:=List.length_pos_iff.2 he0
          have he2:(0:Int)<e.length:=by omega
          have hpw:IntKind.i64.wrap ((e.length:Int)-1)=(e.length-1:Nat):=by rw [wr (by omega) (by omega)];omega
          obtain⟨u,hu⟩:∃ u,g[e.length-1]?=some u:=⟨g[e.length-1]'(by omega),List.getElem?_eq_getElem _⟩
          have huv:¬ v≤u:=by
           obtain⟨c1,c2⟩:=List.getElem?_eq_some_iff.1 hu
           obtain⟨c3,c4⟩:=List.getElem?_eq_some_iff.1 hy
           have:=List.pairwise_iff_getElem.1 g2 (e.length-1) e.length c1 c3 (by omega)
           rw [c2,c4] at this
           omega
          have hpl:((e.length-1:Nat):Int)<g.length:=by omega
          have hpl2:e.length-1<g.length:=by omega
          simp [-acells,-fin,-fin1,-fin2,-pl1,-pl2,-plain,-AV.atom,-getElem?_pos,-Int.natCast_add,h1,h3,h5,h7,h8,b0,b1,hlt,hlt2,hx,hy,encInts,encInt,hv0,hv1,r1,r2,hvv,hmd,hew,hsw,he1,he2,hpw,hu,huv,hpl,hpl2]
          exact hfin _ ⟨by simp [h1],by simp [h3],by simp [-Int.natCast_add,hsw],by simp [h7],by simp [-Int.natCast_add,hew]⟩
      · clear h1 h3 h5 h6 h7 b0 b1
        rintro ev σ ⟨h1,h3,h5,h7,h8,b0,b1⟩
        simp [-acells,-fin,-fin1,-fin2,-pl1,-pl2,-plain,-AV.atom,-getElem?_pos,-Int.natCast_add,h1,h3,h5,h7,h8,b0,b1,hlt,hx,encInts,hdw]
        refine hRl _ _ ⟨by simp [h1],by simp [h3],?_,?_,by simp [-Int.natCast_add,hdw],b0,b1⟩
        · simp [-Int.natCast_add,h5]
        · simp [h7]
    · rintro ev σ ⟨h1,h3,h5,h6,h7,b0,b1⟩
      simp [-acells,-fin,-fin1,-fin2,-pl1,-pl2,-plain,-AV.atom,-getElem?_pos,-Int.natCast_add,h1,h3,h5,h6,h7,b0,b1]
      refine kLoop.listR q.more (fun d ev σ=>ev 1=.ptr 0 0∧ev 3=.ptr 1 0∧ev 5=.int .i64 ((p.groups.map List.length).sum:Nat)∧ev 6=.int .i64 ((p.groups.length:Int)-1)∧ev 10=.int .i64 d.length∧σ.H[0]?=some (.cells [.sl 4 (q.src.map encCls) .none,.str q.name,.sl 1 (q.off.map encStr) .none,.sl 12 (q.more.map encI) .none,.sl 2 (q.state.map encSignal) .none])∧σ.H[1]?=some (.cells [.sl 4 (p.vars.map encVar) .none,.sl 4 (p.hard.map encE) .none,.sl 4 (p.soft.map encE) .none,.sl 2 (p.dists.map encDist) .none,.sl 1 (p.groups.map encInts) .none])) ?_ ?_ ?_
      · exact⟨by simp [h1],by simp [h3],by simp [h5],by simp [h6],by simp,b0,b1⟩
      · clear h1 h3 h5 h6 h7 b0 b1
        rintro d y l ev σ Rl hRl hd hy hlt ⟨h1,h3,h5,h6,h10,b0,b1⟩
        have hym:y∈q.more:=List.mem_of_getElem? hy
        have hml:=h.more
        have hdw:IntKind.i64.wrap ((d.length:Int)+1)=(d.length+1:Nat):=by rw [wr (by unfold Fits at hml;omega) (by unfold Fits at hml;omega)];omega
        have hfin:∀ ev',(ev' 1=.ptr 0 0∧ev' 3=.ptr 1 0∧ev' 5=.int .i64 ((p.groups.map List.length).sum:Nat)∧ev' 6=.int .i64 ((p.groups.length:Int)-1)∧ev' 10=.int .i64 (d.length+1:Nat))→Rl ev' σ:=fun ev' hh=>by
         obtain⟨k1,k3,k5,k6,k10⟩:=hh
         exact hRl _ _ ⟨k1,k3,k5,k6,by rw [k10];simp,b0,b1⟩
        by_cases hk:y.kind=6
        · cases hb:y.before with
          | nil=>
           simp [-acells,-fin,-fin1,-fin2,-pl1,-pl2,-plain,-AV.atom,-getElem?_pos,-Int.natCast_add,h1,h3,h5,h6,h10,b0,b1,hlt,hy,encI_eq y,encE_eq y.expr,hk,hb,hdw]
           exact hfin _ ⟨by simp [h1],by simp [h3],by simp [h5],by simp [h6],by simp [-Int.natCast_add,hdw]⟩
          | cons a ba=>
           cases hc:y.after with
           | nil=>
            simp [-acells,-fin,-fin1,-fin2,-pl1,-pl2,-plain,-AV.atom,-getElem?_pos,-Int.natCast_add,h1,h3,h5,h6,h10,b0,b1,hlt,hy,encI_eq y,encE_eq y.expr,hk,hb,hc,hdw]
            exact hfin _ ⟨by simp [h1],by simp [h3],by simp [h5],by simp [h6],by simp [-Int.natCast_add,hdw]⟩
           | cons c ca=>
            have h33:=before33 p a c hvq.groups hvq.group (by have:=hvq.vars;unfold Fits;omega)
            rw [hbf y hym hk a c (by rw [hb];simp) (by rw [hc];simp)] at h33
            simp only [encP] at h33
            simp [-acells,-fin,-fin1,-fin2,-pl1,-pl2,-plain,-AV.atom,-getElem?_pos,-Int.natCast_add,h1,h3,h5,h6,h10,b0,b1,hlt,hy,encI_eq y,encE_eq y.expr,hk,hb,hc,hdw]
            refine kCall.call h33 (by simp) ?_
            simp [-acells,-fin,-fin1,-fin2,-pl1,-pl2,-plain,-AV.atom,-getElem?_pos,-Int.natCast_add,h1,h3,h5,h6,h10,b0,b1,hlt,hy,hdw]
            exact hfin _ ⟨by simp [h1],by simp [h3],by simp [h5],by simp [h6],by simp [-Int.natCast_add,hdw]⟩
        · simp [-acells,-fin,-fin1,-fin2,-pl1,-pl2,-plain,-AV.atom,-getElem?_pos,-Int.natCast_add,h1,h3,h5,h6,h10,b0,b1,hlt,hy,encI_eq y,encE_eq y.expr,hk,hdw]
          exact hfin _ ⟨by simp [h1],by simp [h3],by simp [h5],by simp [h6],by simp [-Int.natCast_add,hdw]⟩
      · clear h1 h3 h5 h6 h7 b0 b1
        rintro ev σ ⟨h1,h3,h5,h6,h10,b0,b1⟩
        have hrd:=random27q p hvq
        simp only [encP] at hrd
        simp [-acells,-fin,-fin1,-fin2,-pl1,-pl2,-plain,-AV.atom,-getElem?_pos,-Int.natCast_add,h1,h3,h5,h6,h10,b0,b1]
        refine kCall.call hrd (by simp) ?_
        have hsz:(randomI p).length=(p.groups.map List.length).sum:=hct.symm
        have hz:(((p.groups.map List.length).sum:Int)==0)=decide (((p.groups.length:Int)-1)<0):=by
         cases hpg:p.groups with
         | nil=>simp
         | cons g r=>
          have hg:=(hgr g (by rw [hpg];simp)).1
          have:=List.length_pos_iff.2 hg
          have e1:((((g::r).map List.length).sum:Nat):Int)≠0:=by simp only [List.map_cons,List.sum_cons];omega
          rw [beq_eq_false_iff_ne.2 e1]
          symm
          simp
        simp [-acells,-fin,-fin1,-fin2,-pl1,-pl2,-plain,-AV.atom,-getElem?_pos,-Int.natCast_add,h1,h3,h5,h6,h10,b0,b1,hsz,hz]
        refine kCall.call works11 (by simp) ?_
        simp [-acells,-fin,-fin1,-fin2,-pl1,-pl2,-plain,-AV.atom,-getElem?_pos,-Int.natCast_add,h1,h3,h5,h6,h10,b0,b1,hsz,hz]
  · simp [-acells,-fin,-fin1,-fin2,-pl1,-pl2,-plain,-AV.atom,-getElem?_pos,he]
    refine kCall.call works11 (by simp) ?_
    simp [-acells,-fin,-fin1,-fin2,-pl1,-pl2,-plain,-AV.atom,-getElem?_pos]
end Go.Proofs.YtpgcmnabljandaaGreatDoor
end
section
namespace Go.Proofs.YtpgcmnabljandaaGreatDoor
open Go Go.Abs Go.ChangeShapes Go.WideShapes Go.ChangeAt Go.RowKit
theorem args_stay27_7 {H:Type} {enc:TypeId×Value→H} {W W':World} {v:Value} {d:DataW H} {ps:List MemPlace} {sp:Nat→Bool} (h:DataW.Trod enc Tryz.prog W 0 (fun _=>true) true 27 v d ps) (hb:Go.RowKit.Below W.heap.size W W') (hlt:∀ x∈ps,x.block<W.heap.size) (hs:∀ p∈ps,sp p.block=true) :
 DataW.Trod enc Tryz.prog W' 0 sp true 27 v d ps :=
 WideElems.Trod_stays laidOutTryz (by kernel_rfl) (of_decide_eq_true (by kernel_rfl)) h (fun x hx=>hb.same (hlt x hx)) hs
theorem lifted7 (os:Os) (started:os.Started) (H:Type) (enc:TypeId×Value→H) :
 ReturnsInHanded {} Tryz.checked os 7 .any (fun w args=>(Rows.elabGroupsSpec.pre enc Tryz.prog Tryz.f7 [] false w args∧laidMetH Tryz.prog laid5 w)∧sizedMet enc Tryz.prog Tryz.f7 (OpenSpec.ofChange Rows.elabGroupsSpec) false w args)
  (Rows.elabGroupsSpec.post enc Tryz.prog Tryz.f7 false true false false):=by
 refine returnsInHanded_of_change_and (C:=Tryz.checked) (X:=fun w _=>laidMetH Tryz.prog laid5 w) (fun _ _ _ hh h=>h.of_heap hh) ownTryz started (by kernel_rfl) Tryz.func7
  (ChangeSpec.witness_shaped (enc:=enc) (C:=Tryz.checked) (os:=os) (X:=fun w _=>laidMetH Tryz.prog laid5 w) false (World.doorLaid Tryz.prog 400 os) #[.agg #[.slice none 0 0,.string ⟨#[]⟩,.slice none 0 0,.slice none 0 0,.slice none 0 0]] 8 rfl (World.shaped_of_RefB (by kernel_rfl) (by kernel_rfl)) (by kernel_rfl) (by kernel_rfl) (by kernel_rfl) (door_met os _)) ?_
 intro W base args ds gs before hval0 hW _ _ hL _
 have hval:∀ (j:Nat) t v,Tryz.f7.params[j]?=some t→args[j]?=some v→Value.okWide Tryz.prog W .any base t v:=hval0
 have hW':=hW
 obtain⟨p,q,hA0,hV,rfl,hfz,hnd⟩:=hW
 have hA:DataW.TrodAll enc Tryz.prog W 0 (fun _=>true) true Tryz.f7.params.toList args.toList ds p:=hA0
 rw [Tryz.params7] at hA hval
 obtain⟨v0,d0,rfl,rfl,h0⟩:=trodAll_one hA
 obtain⟨rfl,rfl⟩:=trodVars_none hV
 have hv0:=hval 0 27 v0 rfl rfl
 unfold Value.okWide at hv0
 rw [Tryz.underlying27] at hv0
 obtain⟨cs0,rfl,_,_⟩:=hv0
 have h0':=h0
 obtain⟨fuel0,hf0⟩:=h0
 obtain⟨x0,hrel0,hg0⟩:=rdAsk hf0
 have hpure:=law7 x0 hg0
 have hglob:∀ g,VRel (KW W) (GG g) (.pointer (some ⟨g,0,none⟩)):=by
  intro g
  cases g with
  | zero=>exact of_laid hL
  | succ g=>simp only [GG,VRel]
 have hargs:VRels (KW W) [.agg (encAsk x0)] (#[Value.agg cs0]:Array Value).toList:=by
  simp only [VRels]
  have g0:VRel (KW W) (.agg (encAsk x0)) (Value.agg cs0):=by
   unfold VRel;exact⟨cs0,rfl,hrel0⟩
  exact⟨_,_,rfl,g0,rfl⟩
 refine (hpure.2 W (roAll W) #[Value.agg cs0] hglob (fun _ _ _ e=>e) hargs).mono ?_
 rintro e W' ⟨v,ro',rfl,hb,_,_,_,hv⟩
 have hv1:v=.bool true:=by simpa only [VRel] using hv
 subst hv1
 have hW2:=hW'
 simp only [List.append_nil] at hW2
 have hlt:=fun x hx=>hW2.lt x hx
 refine⟨_,rfl,[d0],[],p,[],p,[],hW2,?_,?_,?_,hb.frame _,fun h=>by cases h⟩
 · exact trodAll_mk1 (shut_bool Tryz.underlying4 true)
 · exact trodAll_mk1 (args_stay27_7 h0' hb (fun x hx=>hlt x (hx)) (fun x hx=>by simpa using hlt x (hx)))
 · rfl
end Go.Proofs.YtpgcmnabljandaaGreatDoor
end
