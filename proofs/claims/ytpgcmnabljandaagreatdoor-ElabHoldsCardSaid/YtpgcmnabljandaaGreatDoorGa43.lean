/- A part of the proof: Walk78. -/
import Derived.Test.YtpgcmnabljandaaGreatDoorGa18
import Derived.Test.YtpgcmnabljandaaGreatDoorGa27
import Derived.Test.YtpgcmnabljandaaGreatDoorGa29
import Derived.Test.YtpgcmnabljandaaGreatDoorGa32
set_option linter.unusedVariables false
set_option linter.unusedSimpArgs false
set_option maxRecDepth 100000
section
namespace Go.Proofs.YtpgcmnabljandaaGreatDoor
open Go Go.Abs
theorem idx_none {l:List Var} {s:Str} (h:hasV l s=false):¬ 0≤idxS l s:=by
 unfold idxS
 rw [findI_ge (by omega)]
 unfold hasV at h
 rw [h];simp
theorem idx_some {l:List Var} {s:Str} (h:hasV l s=true):0≤idxS l s:=by
 unfold idxS
 rw [findI_ge (by omega)]
 exact h
set_option maxHeartbeats 8000000 in
theorem named105 (V:List Var) (hl:V.length≤1000) (hV:∀ v∈V,varS v.name=true) (names:List Str) (hn:∀ s∈names,s.length≤1000) (hnl:names.length≤3000) (H:List Blk) (T:List (Option Nat)) (B vb:Nat) (a0 a1 a2 a3 vv a5 a6 a7 a8 a9:AV)
 (hB:H[B]?=some (.cells [a0,a1,a2,a3,vv,a5,a6,a7,a8,a9])) (hv:OwnAt vb 4 encVar H vv V) :
 ACall Tryz.prog GG 105 [.ptr B 0,.sl 1 (names.map encStr) .none] ⟨H,T⟩ (fun r σ'=>r=.sl 1 ((namedL V names).map encInt) .none∧∃ T',σ'=⟨H,T'⟩∧T <+: T'):=by
 refine ACall.up ?_
 refine ACall.k mixed Tryz.func105 rfl (by kernel_rfl) ?_
 have hfit:Fits V:=by unfold Fits;omega
 have hfz:Leq (frz H 8 vv) (.sl 4 (V.map encVar) .none):=hv.frz (fun x=>by simp) (fun x=>by simp) (fun x=>by simp) 7
 simp [-acells,-fin,-fin1,-fin2,-pl1,-pl2,-plain,-AV.atom,-getElem?_pos]
 refine kLoop.listR names (fun d ev σ=>ev 0=.ptr B 0∧ev 10=.sl 1 (names.map encStr) .none∧ev 11=.int .i64 names.length∧ev 12=.int .i64 d.length∧(namedL V d).length≤d.length*8∧∃ T',σ=⟨H,T'⟩∧T <+: T'∧OutAt T.length 1 encInt T' (ev 5) (namedL V d)) ?_ ?_ ?_
 · exact⟨by simp,by simp,by simp,by simp,by simp [namedL],T,rfl,List.prefix_rfl,by simpa [namedL] using OutAt.nil⟩
 · rintro d s r ev σ R hR hd hx hlt ⟨h0,h10,h11,h12,hlen,T1,rfl,hT,ho⟩
   have hsl:=hn s (List.mem_of_getElem? hx)
   have hnd:namedL V (d++[s])=namedL V d++namedS1 V s:=by simp [namedL]
   have hdl:d.length≤3000:=by omega
   generalize hN:namedL V d=N at *
   generalize hv5:ev 5=v5 at *
   simp [-acells,-fin,-fin1,-fin2,-pl1,-pl2,-plain,-AV.atom,-getElem?_pos,h0,h10,h11,h12,hlt,hx,hB]
   refine kCall.lent (index GG V s hfit) rfl (by simpa [LeqL,frz_str] using hfz) ?_
   have hidx:findI (fun v:Var=>v.name==s) V 0=idxS V s:=rfl
   rw [hidx]
   by_cases hp:0≤idxS V s
   · have h1:namedS1 V s=[idxS V s]:=by unfold namedS1;rw [if_pos hp]
     obtain⟨v',T2,happ,ho2,hT2⟩:=ho.append (m:=[idxS V s]) (tok:=.tight) hT D28 rfl D3 rfl (by omega) rfl (by decide) (by simp;omega) 1 (.inl rfl)
     simp only [List.map_cons,List.map_nil,encInt] at happ
     simp [-acells,-fin,-fin1,-fin2,-pl1,-pl2,-plain,-AV.atom,-getElem?_pos,hp,h0,h10,h11,h12,hv5,happ]
     refine hR _ _ ⟨by simp [h0],by simp [h10],by simp [h11],by simp [h12];exact wr (by omega) (by omega),?_,T2,rfl,hT2,?_⟩
     · rw [hnd,h1];simp;omega
     · rw [hnd,h1];simpa using ho2
   · have h1:namedS1 V s=(List.range (sizeA V s)).map fun k=>idxS V (elemS s k):=by unfold namedS1;rw [if_neg hp]
     have h8:=sizeA_le V s
     simp [-acells,-fin,-fin1,-fin2,-pl1,-pl2,-plain,-AV.atom,-getElem?_pos,hp,h0,h10,h11,h12,hv5]
     refine kLoop.count (sizeA V s) (fun k ev σ=>ev 0=.ptr B 0∧ev 7=.str s∧ev 9=.int .i64 k∧ev 10=.sl 1 (names.map encStr) .none∧ev 11=.int .i64 names.length∧ev 12=.int .i64 d.length∧∃ T',σ=⟨H,T'⟩∧T <+: T'∧OutAt T.length 1 encInt T' (ev 5) (N++(List.range k).map fun k=>idxS V (elemS s k))) ?_ ?_ ?_
     · exact⟨by simp [h0],by simp,by simp,by simp [h10],by simp [h11],by simp [h12],T1,rfl,hT,by simpa [hv5] using ho⟩
     · clear h0 h10 h11 h12 hv5
       rintro k ev σ hk ⟨h0,h7,h9,h10,h11,h12,T2,rfl,hT2,ho2⟩
       have hpk:=idx_some (sizeA_has hk)
       have hidk:findI (fun v:Var=>v.name==elemS s k) V 0=idxS V (elemS s k):=rfl
       obtain⟨v',T3,happ,ho3,hT3⟩:=ho2.append (m:=[idxS V (elemS s k)]) (tok:=.tight) hT2 D28 rfl D3 rfl (by omega) rfl (by decide) (by simp;omega) 1 (.inl rfl)
       simp only [List.map_cons,List.map_nil,encInt] at happ
       generalize hv6:ev 5=v6 at *
       simp [-acells,-fin,-fin1,-fin2,-pl1,-pl2,-plain,-AV.atom,-getElem?_pos,h0,h7,h9,h10,h11,h12,hB]
       refine kCall.call (element181' s k (by omega) hsl) rfl ?_
       simp [-acells,-fin,-fin1,-fin2,-pl1,-pl2,-plain,-AV.atom,-getElem?_pos,h0,h7,h9,h10,h11,h12,hB]
       refine kCall.lent (index GG V (elemS s k) hfit) rfl (by simpa [LeqL,frz_str] using hfz) ?_
       rw [hidk]
       simp [-acells,-fin,-fin1,-fin2,-pl1,-pl2,-plain,-AV.atom,-getElem?_pos,hpk,h0,h7,h9,h10,h11,h12,hB]
       refine kCall.call (element181' s k (by omega) hsl) rfl ?_
       simp [-acells,-fin,-fin1,-fin2,-pl1,-pl2,-plain,-AV.atom,-getElem?_pos,h0,h7,h9,h10,h11,h12,hB]
       refine kCall.lent (index GG V (elemS s k) hfit) rfl (by simpa [LeqL,frz_str] using hfz) ?_
       rw [hidk]
       simp [-acells,-fin,-fin1,-fin2,-pl1,-pl2,-plain,-AV.atom,-getElem?_pos,hpk,h0,h7,h9,h10,h11,h12,hv6,happ]
       refine⟨wr (by omega) (by omega),hT3,?_⟩
       rw [List.range_succ,List.map_append,← List.append_assoc]
       simpa using ho3
     · clear h0 h10 h11 h12 hv5
       rintro ev σ ⟨h0,h7,h9,h10,h11,h12,T2,rfl,hT2,ho2⟩
       have hno:hasV V (elemS s (sizeA V s))=false:=by
        by_cases h:sizeA V s<8
        · exact sizeA_not h
        · have:sizeA V s=8:=by omega
          rw [this];exact hasV_8 hV
       have hpk:=idx_none hno
       have hidk:findI (fun v:Var=>v.name==elemS s (sizeA V s)) V 0=idxS V (elemS s (sizeA V s)):=rfl
       simp [-acells,-fin,-fin1,-fin2,-pl1,-pl2,-plain,-AV.atom,-getElem?_pos,h0,h7,h9,h10,h11,h12,hB]
       refine kCall.call (element181' s _ h8 hsl) rfl ?_
       simp [-acells,-fin,-fin1,-fin2,-pl1,-pl2,-plain,-AV.atom,-getElem?_pos,h0,h7,h9,h10,h11,h12,hB]
       refine kCall.lent (index GG V (elemS s (sizeA V s)) hfit) rfl (by simpa [LeqL,frz_str] using hfz) ?_
       rw [hidk]
       simp [-acells,-fin,-fin1,-fin2,-pl1,-pl2,-plain,-AV.atom,-getElem?_pos,hpk,h0,h7,h9,h10,h11,h12]
       refine hR _ _ ⟨by simp [h0],by simp [h10],by simp [h11],by simp [h12];exact wr (by omega) (by omega),?_,T2,rfl,hT2,?_⟩
       · rw [hnd,h1];simp;omega
       · rw [hnd,h1];simpa using ho2
 · rintro ev σ ⟨h0,h10,h11,h12,hlen,T1,rfl,hT,ho⟩
   have hle:=ho.leq
   generalize hv5:ev 5=v5 at *
   simp [-acells,-fin,-fin1,-fin2,-pl1,-pl2,-plain,-AV.atom,-getElem?_pos,h11,h12,hv5]
   exact⟨_,hle,rfl,hT⟩
end Go.Proofs.YtpgcmnabljandaaGreatDoor
end
