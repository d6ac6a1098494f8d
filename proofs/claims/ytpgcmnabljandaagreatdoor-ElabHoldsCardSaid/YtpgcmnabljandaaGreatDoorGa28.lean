/- A part of the proof: WalkFunc2. -/
import Derived.Test.YtpgcmnabljandaaGreatDoorGa15
import Derived.Test.YtpgcmnabljandaaGreatDoorGa17
set_option linter.unusedVariables false
set_option linter.unusedSimpArgs false
set_option maxRecDepth 100000
section
namespace Go.Proofs.YtpgcmnabljandaaGreatDoor
open Go Go.Abs
theorem indexFuncBlc (G:Nat→AV) (l:List Blc) (p:Blc→Bool) (f:FuncId) (first cap:List AV) (hl:Fits l) (h1:noRefs first=true) (h2:noRefs cap=true)
 (hp:∀ v∈l,Pure Tryz.prog G f (first++[.agg (encBlc v)]++cap) (.bool (p v))):Pure Tryz.prog G 98 [.sl 2 (l.map encBlc) .none,.fn f first cap] (.int .i64 (findI p l 0)):=by
 refine Pure.vc mixed Tryz.func98 rfl (by kernel_rfl) ?_
 simp
 refine vcLoop.intro (fun n env σ=>∃ i,i≤l.length∧n=l.length-i∧env 0=.sl 2 (l.map encBlc) .none∧env 1=.fn f first cap∧env 7=.int .i64 l.length∧env 8=.int .i64 i∧σ=⟨[],[]⟩∧findI p l 0=findI p (l.drop i) i) l.length ⟨0,by simp⟩ ?_
 rintro n env σ ⟨i,hi,rfl,h0,h1',h7,h8,rfl,hf⟩
 cases hv:l[i]? with
 | some v=>
  obtain⟨hc,hv'⟩:=List.getElem?_eq_some_iff.1 hv
  rw [drop_cons hv] at hf
  simp [h0,h1',h7,h8,hc,hv',hf]
  refine vcCall.call (r:=.bool (p v)) (by simpa using hp v (List.mem_of_getElem? hv)) (by simp [noRefs_append,h1,h2]) ?_
  simp [h0,h1',h7,h8,findI]
  refine⟨fun e=>by simp [e],fun e=>⟨_,by omega,i+1,by omega,rfl,wr (by omega) (by omega),by simp [hf,findI,e]⟩⟩
 | none=>
  have hc:¬ i<l.length:=by simp at hv;omega
  have hd:l.drop i=[]:=by simp;omega
  simp [h0,h1',h7,h8,hc,hf,hd,findI]
theorem containsFuncBlc (G:Nat→AV) (l:List Blc) (p:Blc→Bool) (f:FuncId) (first cap:List AV) (hl:Fits l) (h1:noRefs first=true) (h2:noRefs cap=true)
 (hp:∀ v∈l,Pure Tryz.prog G f (first++[.agg (encBlc v)]++cap) (.bool (p v))):Pure Tryz.prog G 43 [.sl 2 (l.map encBlc) .none,.fn f first cap] (.bool (l.any p)):=by
 refine Pure.vc mixed Tryz.func43 rfl (by kernel_rfl) ?_
 simp
 refine vcCall.call (indexFuncBlc G l p f first cap hl h1 h2 hp) (by simp [h1,h2]) ?_
 simp
theorem indexFuncSig (G:Nat→AV) (l:List Signal) (p:Signal→Bool) (f:FuncId) (first cap:List AV) (hl:Fits l) (h1:noRefs first=true) (h2:noRefs cap=true)
 (hp:∀ v∈l,Pure Tryz.prog G f (first++[.agg (encSignal v)]++cap) (.bool (p v))):Pure Tryz.prog G 184 [.sl 2 (l.map encSignal) .none,.fn f first cap] (.int .i64 (findI p l 0)):=by
 refine Pure.vc mixed Tryz.func184 rfl (by kernel_rfl) ?_
 simp
 refine vcLoop.intro (fun n env σ=>∃ i,i≤l.length∧n=l.length-i∧env 0=.sl 2 (l.map encSignal) .none∧env 1=.fn f first cap∧env 7=.int .i64 l.length∧env 8=.int .i64 i∧σ=⟨[],[]⟩∧findI p l 0=findI p (l.drop i) i) l.length ⟨0,by simp⟩ ?_
 rintro n env σ ⟨i,hi,rfl,h0,h1',h7,h8,rfl,hf⟩
 cases hv:l[i]? with
 | some v=>
  obtain⟨hc,hv'⟩:=List.getElem?_eq_some_iff.1 hv
  rw [drop_cons hv] at hf
  simp [h0,h1',h7,h8,hc,hv',hf]
  refine vcCall.call (r:=.bool (p v)) (by simpa using hp v (List.mem_of_getElem? hv)) (by simp [noRefs_append,h1,h2]) ?_
  simp [h0,h1',h7,h8,findI]
  refine⟨fun e=>by simp [e],fun e=>⟨_,by omega,i+1,by omega,rfl,wr (by omega) (by omega),by simp [hf,findI,e]⟩⟩
 | none=>
  have hc:¬ i<l.length:=by simp at hv;omega
  have hd:l.drop i=[]:=by simp;omega
  simp [h0,h1',h7,h8,hc,hf,hd,findI]
theorem containsFuncSig (G:Nat→AV) (l:List Signal) (p:Signal→Bool) (f:FuncId) (first cap:List AV) (hl:Fits l) (h1:noRefs first=true) (h2:noRefs cap=true)
 (hp:∀ v∈l,Pure Tryz.prog G f (first++[.agg (encSignal v)]++cap) (.bool (p v))):Pure Tryz.prog G 108 [.sl 2 (l.map encSignal) .none,.fn f first cap] (.bool (l.any p)):=by
 refine Pure.vc mixed Tryz.func108 rfl (by kernel_rfl) ?_
 simp
 refine vcCall.call (indexFuncSig G l p f first cap hl h1 h2 hp) (by simp [h1,h2]) ?_
 simp
theorem indexFuncFld (G:Nat→AV) (l:List Fld) (p:Fld→Bool) (f:FuncId) (first cap:List AV) (hl:Fits l) (h1:noRefs first=true) (h2:noRefs cap=true)
 (hp:∀ v∈l,Pure Tryz.prog G f (first++[.agg (encFld v)]++cap) (.bool (p v))):Pure Tryz.prog G 260 [.sl 5 (l.map encFld) .none,.fn f first cap] (.int .i64 (findI p l 0)):=by
 refine Pure.vc mixed Tryz.func260 rfl (by kernel_rfl) ?_
 simp
 refine vcLoop.intro (fun n env σ=>∃ i,i≤l.length∧n=l.length-i∧env 0=.sl 5 (l.map encFld) .none∧env 1=.fn f first cap∧env 7=.int .i64 l.length∧env 8=.int .i64 i∧σ=⟨[],[]⟩∧findI p l 0=findI p (l.drop i) i) l.length ⟨0,by simp⟩ ?_
 rintro n env σ ⟨i,hi,rfl,h0,h1',h7,h8,rfl,hf⟩
 cases hv:l[i]? with
 | some v=>
  obtain⟨hc,hv'⟩:=List.getElem?_eq_some_iff.1 hv
  rw [drop_cons hv] at hf
  simp [h0,h1',h7,h8,hc,hv',hf]
  refine vcCall.call (r:=.bool (p v)) (by simpa using hp v (List.mem_of_getElem? hv)) (by simp [noRefs_append,h1,h2]) ?_
  simp [h0,h1',h7,h8,findI]
  refine⟨fun e=>by simp [e],fun e=>⟨_,by omega,i+1,by omega,rfl,wr (by omega) (by omega),by simp [hf,findI,e]⟩⟩
 | none=>
  have hc:¬ i<l.length:=by simp at hv;omega
  have hd:l.drop i=[]:=by simp;omega
  simp [h0,h1',h7,h8,hc,hf,hd,findI]
theorem containsFuncFld (G:Nat→AV) (l:List Fld) (p:Fld→Bool) (f:FuncId) (first cap:List AV) (hl:Fits l) (h1:noRefs first=true) (h2:noRefs cap=true)
 (hp:∀ v∈l,Pure Tryz.prog G f (first++[.agg (encFld v)]++cap) (.bool (p v))):Pure Tryz.prog G 192 [.sl 5 (l.map encFld) .none,.fn f first cap] (.bool (l.any p)):=by
 refine Pure.vc mixed Tryz.func192 rfl (by kernel_rfl) ?_
 simp
 refine vcCall.call (indexFuncFld G l p f first cap hl h1 h2 hp) (by simp [h1,h2]) ?_
 simp
end Go.Proofs.YtpgcmnabljandaaGreatDoor
end
