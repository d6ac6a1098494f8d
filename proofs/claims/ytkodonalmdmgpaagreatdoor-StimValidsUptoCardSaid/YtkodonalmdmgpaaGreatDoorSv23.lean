import Derived.Test.YtkodonalmdmgpaaGreatDoorSv21
set_option maxRecDepth 100000
set_option linter.all false
set_option linter.defProp false
section
namespace Go.Proofs.YtkodonalmdmgpaaGreatDoor
open Go Go.Abs
def oM:Opts:=⟨true,[],[],[]⟩
@[simp] theorem oM_mu:oM.mu=true:=rfl
@[simp] theorem oM_lw:oM.lw=[]:=rfl
theorem grow197 (n:Nat) (hn:n≤1000000) (σ:St):ACall Tryz.prog GG 223 [.sl 0 [] .nil,.int .i64 n] σ (fun r σ'=>(n=0∧r=.sl 0 [] .nil∧σ'=σ)∨(0<n∧r=.ms σ.H.length 0 0 4∧∃ c,σ'=σ.push (.cells c))):=by
 refine ACall.vcO oM mixed Tryz.func223 rfl (by kernel_rfl) ?_
 have h1:¬ (n:Int)<0:=by omega
 have hw:IntKind.i64.wrap (n:Int)=n:=wr (by omega) (by omega)
 have w0:IntKind.i64.wrap 0=0:=by decide
 by_cases h0:n=0
 · subst h0
   simp [capA,w0]
 · have h2:(0:Int)<n:=by omega
   have h3:0<n:=by omega
   have h4:(n:Int)≤549755813888:=by omega
   simp [capA,h1,hw,w0,h2,h3,h4,sliceA,boundA,thirdA,sliceTok,appendX,appendM,plainTD]
/-- What was put together so far. -/
def CR (T R:List Ex) (v:AV) (σ:St):Prop:=(T=[]∧v=.sl 0 [] .nil)∨∃ b c,v=.ms b 0 R.length 4∧σ.H[b]?=some (.cells c)∧R.length*4≤c.length∧c.take (R.length*4)=(R.map encE).flatten
@[simp] theorem encE_len (e:Ex):(encE e).length=4:=by rw [encE_eq];rfl
theorem flat_lenW:∀ (l:List Ex),((l.map encE).flatten).length=l.length*4
 | []=>rfl
 | a::r=>by simp only [List.map_cons,List.flatten_cons,List.length_append,encE_len,flat_lenW r,List.length_cons];omega
theorem chunk_flatW:∀ (R:List Ex) (c:List AV),R.length*4≤c.length→c.take (R.length*4)=(R.map encE).flatten→chunk 4 R.length c=R.map encE
 | [],c,_,_=>rfl
 | a::r,c,hl,h=>by
  have e1:c.take 4=encE a:=by
   have:=congrArg (List.take 4) h
   rw [List.take_take,List.map_cons,List.flatten_cons,List.take_left' (encE_len a)] at this
   rw [← this]
   congr 1
   simp only [List.length_cons];omega
  have e2:(c.drop 4).take (r.length*4)=(r.map encE).flatten:=by
   have:=congrArg (List.drop 4) h
   rw [List.map_cons,List.flatten_cons,List.drop_left' (encE_len a),List.drop_take] at this
   rw [← this]
   congr 1
   simp only [List.length_cons];omega
  rw [List.length_cons,chunk,e1,chunk_flatW r (c.drop 4) (by simp only [List.length_drop,List.length_cons] at hl ⊢;omega) e2,List.map_cons]
theorem app_stepW {T R X:List Ex} {b:Nat} {c:List AV} {σ:St} (hb:σ.H[b]?=some (.cells c)) (hl:R.length*4≤c.length) (h:c.take (R.length*4)=(R.map encE).flatten) (hR:R.length+X.length≤1000000) :
 ∃ v' σ',appendX (Dof Tryz.prog) σ 33 33 (.ms b 0 R.length 4) (.sl 4 (X.map encE) .none)=some (v',σ')∧CR T (R++X) v' σ':=by
 cases X with
 | nil=>
  refine⟨.ms b 0 R.length 4,σ,?_,.inr ⟨b,c,by simp,hb,by simpa using hl,by simpa using h⟩⟩
  simp [appendX,appendM,plainTD,srcA]
 | cons x X=>
  refine⟨.ms σ.H.length 0 (R.length+(X.length+1)) 4,{ σ with H:=σ.H.set b .dead++[.cells (c.take (R.length*4)++((x::X).map encE).flatten)] },?_,.inr ⟨σ.H.length,c.take (R.length*4)++((x::X).map encE).flatten,by simp,by simp,?_,?_⟩⟩
  · have h1:R.length+(X.length+1)≤549755813888:=by simp at hR;omega
    simp [appendX,appendM,plainTD,srcA,hb,h1,hl]
  · rw [h];simp only [List.length_append,flat_lenW];omega
  · rw [h,List.take_of_length_le (by simp only [List.length_append,flat_lenW];omega),List.map_append,List.flatten_append]
theorem concat127 (h s:List Ex) (hh:h.length≤10000) (hs:s.length≤10000):Pure Tryz.prog GG 170 [.sl 1 [[.sl 4 (h.map encE) .none],[.sl 4 (s.map encE) .none]] .none] (.sl 4 ((h++s).map encE) .none):=by
 refine Pure.vcO oM false mixed Tryz.func170 rfl (by kernel_rfl) ?_
 have w1:IntKind.i64.wrap (h.length:Int)=h.length:=wr (by omega) (by omega)
 have w2:IntKind.i64.wrap ((h.length:Int)+s.length)=h.length+s.length:=wr (by omega) (by omega)
 have n1:¬ (h.length:Int)<0:=by omega
 have n2:¬ (h.length:Int)+s.length<0:=by omega
 have wi:IntKind.i64.wrap 1=1:=by decide
 have wi2:IntKind.i64.wrap 2=2:=by decide
 simp
 refine vcLoop.intro (fun n env σ=>∃ i:Nat,i≤2∧n=2-i∧env 0=.sl 1 [[.sl 4 (h.map encE) .none],[.sl 4 (s.map encE) .none]] .none∧env 3=.int .i64 (if i=0 then 0 else if i=1 then h.length else h.length+s.length)∧env 9=.sl 1 [[.sl 4 (h.map encE) .none],[.sl 4 (s.map encE) .none]] .none∧env 10=.int .i64 2∧env 11=.int .i64 i∧σ=⟨[],[]⟩) 2 ⟨0,by simp⟩ ?_
 rintro n env σ ⟨i,hi,rfl,h0,h3,h9,h10,h11,rfl⟩
 have hcase:i=0∨i=1∨i=2:=by omega
 rcases hcase with rfl|rfl|rfl
 · simp [h0,h3,h9,h10,h11,w1,n1,wi]
   exact⟨1,by omega,1,by omega,rfl,rfl,rfl⟩
 · simp [h0,h3,h9,h10,h11,w2,n2,wi2]
   exact⟨2,by omega,by omega,rfl,rfl⟩
 · have hN:((h.length:Int)+s.length)=((h.length+s.length:Nat):Int):=by omega
   simp [h0,h3,h9,h10,h11]
   rw [hN]
   refine ACall.imp (grow197 (h.length+s.length) (by omega) ⟨[],[]⟩) ?_
   intro r σ' hr
   have hcr:CR (h++s) [] r σ':=by
    rcases hr with ⟨h1,h2,h3⟩|⟨h1,h2,c,h3⟩
    · exact .inl ⟨List.eq_nil_of_length_eq_zero (by rw [List.length_append];exact h1),h2⟩
    · subst h3
      exact .inr ⟨0,c,h2,rfl,by simp,by simp⟩
   clear hr
   refine vcLoop.intro (fun n env σ=>∃ i:Nat,i≤2∧n=2-i∧env 25=.sl 1 [[.sl 4 (h.map encE) .none],[.sl 4 (s.map encE) .none]] .none∧env 26=.int .i64 2∧env 27=.int .i64 i∧CR (h++s) (if i=0 then [] else if i=1 then h else h++s) (env 6) σ) 2 ⟨0,by simp [h0];exact hcr⟩ ?_
   clear h0 h3 h9 h10 h11 hcr
   rintro n env σ ⟨i,hi,rfl,h25,h26,h27,hcr⟩
   have hcase:i=0∨i=1∨i=2:=by omega
   rcases hcase with rfl|rfl|rfl
   · simp only [if_true] at hcr
     rcases hcr with ⟨ht,h6⟩|⟨b,c,h6,hb,hl,hc⟩
     · simp only [List.append_eq_nil_iff] at ht
       obtain⟨rfl,rfl⟩:=ht
       simp [h25,h26,h27,h6,wi,appendX,appendM,appendA,plainTD,srcA,rowsOf]
       exact⟨1,by omega,1,by omega,rfl,rfl,.inl ⟨rfl,rfl⟩⟩
     · obtain⟨v',σ',e1,e2⟩:=app_stepW (T:=h++s) (X:=h) hb hl hc (by simp;omega)
       simp only [List.length_nil] at h6 e1
       simp [h25,h26,h27,h6,wi,e1]
       exact⟨1,by omega,1,by omega,rfl,rfl,by simpa using e2⟩
   · simp only [Nat.one_ne_zero,if_false,if_true] at hcr
     rcases hcr with ⟨ht,h6⟩|⟨b,c,h6,hb,hl,hc⟩
     · simp only [List.append_eq_nil_iff] at ht
       obtain⟨rfl,rfl⟩:=ht
       simp [h25,h26,h27,h6,wi2,appendX,appendM,appendA,plainTD,srcA,rowsOf]
       exact⟨2,by omega,by omega,rfl,.inl ⟨rfl,rfl⟩⟩
     · obtain⟨v',σ',e1,e2⟩:=app_stepW (T:=h++s) (X:=s) hb hl hc (by omega)
       simp [h25,h26,h27,h6,wi2,e1]
       exact⟨2,by omega,by omega,rfl,by simpa using e2⟩
   · simp only [show ¬ (2:Nat)=0 by omega,show ¬ (2:Nat)=1 by omega,if_false] at hcr
     rcases hcr with ⟨ht,h6⟩|⟨b,c,h6,hb,hl,hc⟩
     · simp only [List.append_eq_nil_iff] at ht
       obtain⟨rfl,rfl⟩:=ht
       simp [h25,h26,h27,h6]
     · have hk:=chunk_flatW (h++s) c hl hc
       simp only [List.length_append] at hk hl
       rw [List.length_append] at h6
       simp [h25,h26,h27,h6,hb,hl,hk,noRefss_append]
end Go.Proofs.YtkodonalmdmgpaaGreatDoor
end
