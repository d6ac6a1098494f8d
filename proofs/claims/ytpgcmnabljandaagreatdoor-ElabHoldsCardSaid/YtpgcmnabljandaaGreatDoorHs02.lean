/- A part of the proof: Walk48. -/
import Derived.Test.YtpgcmnabljandaaGreatDoorGa41
import Derived.Test.YtpgcmnabljandaaGreatDoorHs01
set_option linter.unusedVariables false
set_option linter.unusedSimpArgs false
set_option maxRecDepth 100000
section
namespace Go.Proofs.YtpgcmnabljandaaGreatDoor
open Go Go.Abs
theorem findV_zip:∀ {l:List Var} {a:List Int} {s:Str},a.length=l.length→(findV (envL l a) s).isSome=hasV l s
 | [],[],s,_=>rfl
 | v::l,x::a,s,h=>by
  have ih:=findV_zip (l:=l) (a:=a) (s:=s) (by simpa using h)
  unfold findV envL hasV at *
  simp only [List.zip_cons_cons,List.map_cons,List.find?_cons,List.any_cons]
  by_cases hs:v.name==s
  · simp [hs]
  · simp only [hs,Bool.false_or]
    exact ih
theorem sees_of {p:Problem} (h:validP p=0) {a:List Int} (hlen:a.length=p.vars.length):Sees p.vars (envS p.vars a):=by
 rw [envS_eq,if_pos hlen]
 refine⟨fun s=>findV_zip hlen,fun b i hi hb hh=>?_⟩
 have hg:p.vars.any (fun v=>gapS p.vars v.name)=false:=by
  unfold validP at h
  split at h
  · rename_i hn;exact absurd h hn
  rename_i hv
  have hv:varsS p.vars=0:=Classical.not_not.1 hv
  unfold varsS at hv
  split at hv
  · cases hv
  split at hv
  · rename_i hn;exact absurd hv hn
  split at hv
  · cases hv
  split at hv
  · cases hv
  rename_i hn
  simpa using hn
 unfold hasV at hh
 obtain⟨v,hm,he⟩:=List.any_eq_true.1 hh
 have hgv:gapS p.vars v.name=false:=by
  rw [Bool.eq_false_iff]
  intro hx
  have:p.vars.any (fun v=>gapS p.vars v.name)=true:=List.any_eq_true.2 ⟨v,hm,hx⟩
  rw [this] at hg;cases hg
 rw [gapS_succ (a:=b) (i:=i) ⟨by omega,hb,eq_of_beq he⟩] at hgv
 simpa using hgv
def andI (x y:Int):Int:=IntKind.i64.wrap ((BitVec.ofInt IntKind.i64.bits x &&& BitVec.ofInt IntKind.i64.bits y).toNat:Int)
theorem op_and (x y:Int):intOp .and .i64 x y=some (.int .i64 (andI x y)):=rfl
theorem op_add (k:IntKind) (x y:Int):intOp .add k x y=some (.int k (k.wrap (x+y))):=rfl
theorem op_sub (k:IntKind) (x y:Int):intOp .sub k x y=some (.int k (k.wrap (x-y))):=rfl
theorem op_lss (k:IntKind) (x y:Int):intOp .lss k x y=some (.bool (x<y)):=rfl
theorem op_eql (k:IntKind) (x y:Int):intOp .eql k x y=some (.bool (x==y)):=rfl
theorem andI_15 (n:Int):0≤andI n 15:=by
 have e:((BitVec.ofInt 64 n &&& 15#64).toNat:Int)=n % 16:=by
  rw [BitVec.toNat_and,BitVec.toNat_ofInt]
  have e:(15#64).toNat=2 ^ 4-1:=by decide
  rw [e,Nat.and_two_pow_sub_one_eq_mod]
  omega
 have h:andI n 15=IntKind.i64.wrap ((BitVec.ofInt 64 n &&& 15#64).toNat:Int):=rfl
 rw [h,e,wr (by omega) (by omega)]
 omega
def fit1 (v:Var) (n:Int):Int:=if v.mode=0 then v.value else andI n (IntKind.i64.wrap (IntKind.i64.wrap (1*2 ^ (min (andI v.width 15).toNat IntKind.i64.bits))-1))
def fitL:List Var→List Int→List Int
 | [],_=>[]
 | v::r,[]=>fit1 v 0::fitL r []
 | v::r,x::xs=>fit1 v x::fitL r xs
theorem fitL_len:∀ (l:List Var) (xs:List Int),(fitL l xs).length=l.length
 | [],_=>by simp [fitL]
 | v::r,[]=>by simp [fitL,fitL_len r []]
 | v::r,x::xs=>by simp [fitL,fitL_len r xs]
theorem fitL_get:∀ {l:List Var} {xs:List Int} {i:Nat} {v:Var},l[i]?=some v→(fitL l xs)[i]?=some (fit1 v ((xs[i]?).getD 0))
 | v::r,[],0,w,h=>by simp at h;simp [fitL,h]
 | v::r,x::xs,0,w,h=>by simp at h;simp [fitL,h]
 | v::r,[],i+1,w,h=>by
  have:=fitL_get (l:=r) (xs:=[]) (i:=i) (v:=w) (by simpa using h)
  simpa [fitL] using this
 | v::r,x::xs,i+1,w,h=>by
  have:=fitL_get (l:=r) (xs:=xs) (i:=i) (v:=w) (by simpa using h)
  simpa [fitL] using this
theorem outK_end {α:Type} {sz:Nat} {en:α→List AV} (s:List α) (H:List Blk) (hn:∀ x,noRefs (en x)=true):noRef (fin H (outK sz en s))=true∧Leq (fin H (outK sz en s)) (.sl sz (s.map en) .none):=by
 cases s with
 | nil=>simp [outK,Leq]
 | cons a r=>
  have h:=noRefss_map hn (a::r)
  refine⟨?_,Leq.sl rfl⟩
  simpa [outK] using h
set_option maxHeartbeats 2000000 in
theorem fit15 (p:Problem) (xs:List Int) (hl:p.vars.length≤1000) (ha:Fits xs):Pure Tryz.prog GG 15 [.agg (encP p),.sl 1 (xs.map encInt) .none] (.sl 1 ((fitL p.vars xs).map encInt) .none):=by
 refine Pure.vc mixed Tryz.func15 rfl (by kernel_rfl) ?_
 have hlen:=fitL_len p.vars xs
 simp
 refine vcLoop.intro (fun n ev σ=>∃ i tl,i≤p.vars.length∧n=p.vars.length-i∧ev 1=.sl 1 (xs.map encInt) .none∧ev 2=.ptr 0 0∧ev 5=outK 1 encInt ((fitL p.vars xs).take i)∧ev 6=.int .i64 i∧σ=⟨.cells (encP p)::tl,outTK ((fitL p.vars xs).take i)⟩) p.vars.length ⟨0,[],by simp,by simp,by simp,by simp,by simp,by simp,by simp⟩ ?_
 rintro n ev σ ⟨i,tl,hi,rfl,h1,h2,h5,h6,rfl⟩
 cases hvi:p.vars[i]? with
 | some v=>
  obtain⟨hc,hv'⟩:=List.getElem?_eq_some_iff.1 hvi
  have hg:=fitL_get (xs:=xs) hvi
  have ht:(fitL p.vars xs).take (i+1)=(fitL p.vars xs).take i++[fit1 v ((xs[i]?).getD 0)]:=by
   rw [List.take_add_one,hg];rfl
  have hRl:((fitL p.vars xs).take i).length≤1000:=by simp;omega
  have h15:=andI_15 v.width
  have h15':¬ andI v.width 15<0:=by omega
  have hw:IntKind.i64.wrap ((i:Int)+1)=((i+1:Nat):Int):=by rw [wr (by omega) (by omega)];omega
  generalize hX:(xs[i]?).getD 0=X at ht
  have hfin:∀ (x:Int) (R:List Int),x=fit1 v X→(fitL p.vars xs).take i=R→∃ q,q<p.vars.length-i∧∃ j,j≤p.vars.length∧q=p.vars.length-j∧outK 1 encInt (R++[x])=outK 1 encInt ((fitL p.vars xs).take j)∧IntKind.i64.wrap ((i:Int)+1)=(j:Int)∧outTK (R++[x])=outTK ((fitL p.vars xs).take j):=by
   intro x R hx hR
   subst hx
   rw [hR] at ht
   exact⟨_,by omega,i+1,by omega,rfl,by rw [ht],hw,by rw [ht]⟩
  clear ht
  have hget:i<xs.length→xs[i]?=some X:=fun h=>by
   rw [List.getElem?_eq_getElem h] at hX ⊢
   simpa using hX
  have hget0:¬ i<xs.length→X=0:=fun h=>by
   rw [List.getElem?_eq_none (by omega)] at hX
   exact hX.symm
  have hm1:¬ v.mode=0→andI X (IntKind.i64.wrap (IntKind.i64.wrap (2 ^ (min (andI v.width 15).toNat IntKind.i64.bits))-1))=fit1 v X:=fun h=>by unfold fit1;rw [if_neg h,Int.one_mul]
  have hm0:v.mode=0→v.value=fit1 v X:=fun h=>by unfold fit1;rw [if_pos h]
  by_cases hx:i<xs.length
  · have hgx':=(List.getElem?_eq_some_iff.1 (hget hx)).2
    by_cases hm:v.mode=0
    · generalize hR:(fitL p.vars xs).take i=R at h5 hRl ⊢
      cases R with
      | nil=>
       simp only [outK] at h5
       have hf:=hfin _ [] (hm0 hm) hR
       simp [h1,h2,h5,h6,hc,hv',hx,hm,List.set_append,appendA,buildSliceA,rowsFill,rowsOf]
       simpa [outK,outTK] using hf
      | cons b r=>
       have hb:r.length≤1073741822:=by simp at hRl;omega
       have hf:=hfin _ (b::r) (hm0 hm) hR
       simp only [outK] at h5
       simp [h1,h2,h5,h6,hc,hv',hx,hm,List.set_append,appendA,buildSliceA,rowsFill,rowsOf,outTK,hb]
       simpa [outK,outTK] using hf
    · generalize hR:(fitL p.vars xs).take i=R at h5 hRl ⊢
      cases R with
      | nil=>
       simp only [outK] at h5
       have hf:=hfin _ [] (hm1 hm) hR
       simp [-intOp,op_and,op_add,op_sub,op_lss,op_eql,h1,h2,h5,h6,hc,hv',hx,hgx',hm,List.set_append,appendA,buildSliceA,rowsFill,rowsOf,h15']
       simpa [outK,outTK] using hf
      | cons b r=>
       have hb:r.length≤1073741822:=by simp at hRl;omega
       have hf:=hfin _ (b::r) (hm1 hm) hR
       simp only [outK] at h5
       simp [-intOp,op_and,op_add,op_sub,op_lss,op_eql,h1,h2,h5,h6,hc,hv',hx,hgx',hm,List.set_append,appendA,buildSliceA,rowsFill,rowsOf,outTK,hb,h15']
       simpa [outK,outTK] using hf
  · have hX0:=hget0 hx
    rw [hX0] at hm1
    rw [hX0] at hm0
    rw [hX0] at hfin
    by_cases hm:v.mode=0
    · generalize hR:(fitL p.vars xs).take i=R at h5 hRl ⊢
      cases R with
      | nil=>
       simp only [outK] at h5
       have hf:=hfin _ [] (hm0 hm) hR
       simp [h1,h2,h5,h6,hc,hv',hx,hm,List.set_append,appendA,buildSliceA,rowsFill,rowsOf]
       simpa [outK,outTK] using hf
      | cons b r=>
       have hb:r.length≤1073741822:=by simp at hRl;omega
       have hf:=hfin _ (b::r) (hm0 hm) hR
       simp only [outK] at h5
       simp [h1,h2,h5,h6,hc,hv',hx,hm,List.set_append,appendA,buildSliceA,rowsFill,rowsOf,outTK,hb]
       simpa [outK,outTK] using hf
    · generalize hR:(fitL p.vars xs).take i=R at h5 hRl ⊢
      cases R with
      | nil=>
       simp only [outK] at h5
       have hf:=hfin _ [] (hm1 hm) hR
       simp [-intOp,op_and,op_add,op_sub,op_lss,op_eql,h1,h2,h5,h6,hc,hv',hx,hm,List.set_append,appendA,buildSliceA,rowsFill,rowsOf,h15']
       simpa [outK,outTK] using hf
      | cons b r=>
       have hb:r.length≤1073741822:=by simp at hRl;omega
       have hf:=hfin _ (b::r) (hm1 hm) hR
       simp only [outK] at h5
       simp [-intOp,op_and,op_add,op_sub,op_lss,op_eql,h1,h2,h5,h6,hc,hv',hx,hm,List.set_append,appendA,buildSliceA,rowsFill,rowsOf,outTK,hb,h15']
       simpa [outK,outTK] using hf
 | none=>
  have hc:¬ i<p.vars.length:=by simp at hvi;omega
  rw [List.take_of_length_le (by omega)] at h5 ⊢
  have q:=fun H=>outK_end (sz:=1) (en:=encInt) (fitL p.vars xs) H (fun x=>by simp)
  simp [h1,h2,h5,h6,hc]
  exact q _
end Go.Proofs.YtpgcmnabljandaaGreatDoor
end
