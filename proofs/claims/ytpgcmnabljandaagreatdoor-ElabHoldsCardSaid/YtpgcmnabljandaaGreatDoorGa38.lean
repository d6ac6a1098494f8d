/- A part of the proof: Walk34. -/
import Derived.Test.YtpgcmnabljandaaGreatDoorGa33
import Derived.Test.YtpgcmnabljandaaGreatDoorGa20
set_option linter.unusedVariables false
set_option linter.unusedSimpArgs false
set_option maxRecDepth 100000
section
namespace Go.Proofs.YtpgcmnabljandaaGreatDoor
open Go Go.Abs
theorem knownV_names (env:List Signal) (e:Ex):knownV env e=((namesS [2] e).all (fun s=>(findV env s).isSome)&&(namesS [3,24] e).all fun s=>(findV env (elemS s 0)).isSome):=by
 rw [Bool.eq_iff_iff,Bool.and_eq_true,knownV]
 simp only [List.all_eq_true]
 constructor
 · intro h
   refine⟨fun s hs=>?_,fun s hs=>?_⟩
   · obtain⟨x,hx,hop,rfl⟩:=namesS_mem.1 hs
     have:=h x hx
     have h2:x.op=2:=by simpa using hop
     simpa [askV,h2] using this
   · obtain⟨x,hx,hop,rfl⟩:=namesS_mem.1 hs
     have:=h x hx
     have h3:x.op=3∨x.op=24:=by simpa using hop
     unfold askV at this
     rw [if_neg (by omega),if_pos h3] at this
     exact this
 · rintro⟨h1,h2⟩ x hx
   unfold askV
   split
   · rename_i h
     exact h1 _ (namesS_mem.2 ⟨x,hx,by simp [h],rfl⟩)
   · split
     · rename_i h
       exact h2 _ (namesS_mem.2 ⟨x,hx,by simpa using h,rfl⟩)
     · rfl
theorem all_no' {α:Type} {p:α→Bool} {l:List α} {i:Nat} {a:α} (h:l[i]?=some a) (hp:p a=false):l.all p=false:=all_bad (List.mem_of_getElem? h) hp
theorem all_take {α:Type} {p:α→Bool} {l:List α} {i:Nat} (hi:l.length≤i) (h:∀ a∈l.take i,p a=true):l.all p=true:=by
 rw [List.take_of_length_le hi] at h
 exact List.all_eq_true.2 h
theorem names_len {ops:List Int} {e:Ex}:(namesS ops e).length≤(pre e).length:=by
 unfold namesS
 have:∀ (l:List Ex) (s:List Str),(l.foldl (addN ops) s).length≤s.length+l.length:=by
  intro l
  induction l with
  | nil=>intro s;simp
  | cons a r ih=>
   intro s
   have h1:=ih (addN ops s a)
   have h2:=addN_length (ops:=ops) (s:=s) (e:=a)
   simp only [List.foldl_cons,List.length_cons]
   omega
 simpa using this (pre e) []
theorem known96 (env:List Signal) (hl:Fits env) (e:Ex) (hwe:Wen e) (hn:NodesOk e) (hsz:(pre e).length≤100000):Pure Tryz.prog GG 96 [.agg [.sl 2 (env.map encSignal) .none],.agg (encE e)] (.bool (knownV env e)):=by
 refine Pure.vc mixed Tryz.func96 rfl (by kernel_rfl) ?_
 have hnm:=names130 e hwe hsz
 have har:=arrays128 e hwe hsz
 have hk:=knownV_names env e
 generalize knownV env e=r at hk ⊢
 have harr:∀ s∈namesS [3,24] e,s.length≤1000:=by
  intro s hs
  obtain⟨x,hx,hop,rfl⟩:=namesS_mem.1 hs
  have:=name_len ((nodeE_zero (hn x hx)).2.2.2.2.2.2.1 (by simpa using hop))
  omega
 have l1:=names_len (ops:=[2]) (e:=e)
 have l2:=names_len (ops:=[3,24]) (e:=e)
 generalize namesS [2] e=A at hnm l1 hk ⊢
 generalize namesS [3,24] e=B at har harr l2 hk ⊢
 simp only [encE_eq e]
 simp
 rw [← encE_eq e]
 refine vcCall.call hnm (by simp) ?_
 try simp
 refine vcLoop.intro (fun n ev σ=>∃ i,i≤A.length∧n=A.length-i∧ev 2=.ptr 0 0∧ev 3=.ptr 1 0∧ev 14=.sl 1 (A.map encStr) .none∧ev 15=.int .i64 A.length∧ev 16=.int .i64 i∧σ=⟨[.cells [.sl 2 (env.map encSignal) .none],.cells (encE e)],[]⟩∧∀ s∈A.take i,(findV env s).isSome=true) A.length ⟨0,by simp [encE_eq e]⟩ ?_
 rintro n ev σ ⟨i,hi,rfl,h2,h3,h14,h15,h16,rfl,hz⟩
 cases hv:A[i]? with
 | some s=>
  obtain⟨hc,hv'⟩:=List.getElem?_eq_some_iff.1 hv
  simp [h2,h3,h14,h15,h16,hc,hv']
  refine vcCall.call (find164 env s hl) (by simp) ?_
  cases hf:(findV env s).isSome
  · rw [all_no' (p:=fun s=>(findV env s).isSome) hv hf,Bool.false_and] at hk
    subst hk
    simp [findR,hf]
  · simp [findR,hf,h2,h3,h14,h15,h16]
    exact⟨_,by omega,i+1,by omega,rfl,wr (by omega) (by omega),by simpa using take_succ_all (p:=fun s=>(findV env s).isSome=true) hv (by simpa using hz) hf⟩
 | none=>
  have hlen:A.length≤i:=by simpa using hv
  have hc:¬ i<A.length:=by omega
  rw [all_take (p:=fun s=>(findV env s).isSome) hlen hz,Bool.true_and] at hk
  simp [h2,h3,h14,h15,h16,hc,encE_eq e]
  rw [← encE_eq e]
  refine vcCall.call har (by simp) ?_
  try simp
  have h2':=h2
  clear h2 h14 h15 h16 hz
  refine vcLoop.intro (fun n ev σ=>∃ i,i≤B.length∧n=B.length-i∧ev 2=.ptr 0 0∧ev 30=.sl 1 (B.map encStr) .none∧ev 31=.int .i64 B.length∧ev 32=.int .i64 i∧σ=⟨[.cells [.sl 2 (env.map encSignal) .none],.cells (encE e)],[]⟩∧∀ s∈B.take i,(findV env (elemS s 0)).isSome=true) B.length ⟨0,by simp [encE_eq e,h2']⟩ ?_
  rintro n ev σ ⟨i,hi,rfl,h2,h30,h31,h32,rfl,hz⟩
  cases hv:B[i]? with
  | some s=>
   obtain⟨hc,hv'⟩:=List.getElem?_eq_some_iff.1 hv
   obtain⟨b,hb,hb0⟩:=atR_val (env:=env) (a:=s) (i:=0)
   have hb0:=hb0 rfl
   have hat:=at165 env s 0 hl (harr s (List.mem_of_getElem? hv))
   rw [hb] at hat
   simp [h2,h30,h31,h32,hc,hv']
   refine vcCall.call hat (by simp) ?_
   cases hf:(findV env (elemS s 0)).isSome
   · rw [all_no' (p:=fun s=>(findV env (elemS s 0)).isSome) hv hf] at hk
     subst hk
     simp [hb0,hf]
   · simp [hb0,hf,h2,h30,h31,h32]
     exact⟨_,by omega,i+1,by omega,rfl,wr (by omega) (by omega),by simpa using take_succ_all (p:=fun s=>(findV env (elemS s 0)).isSome=true) hv (by simpa using hz) hf⟩
  | none=>
   have hlen:B.length≤i:=by simpa using hv
   have hc:¬ i<B.length:=by omega
   rw [all_take (p:=fun s=>(findV env (elemS s 0)).isSome) hlen hz] at hk
   subst hk
   simp [h2,h30,h31,h32,hc]
theorem eval37 (env:List Signal) (hl:Fits env) (e:Ex) (hwe:Wen e) (hh:hgt e<1000000) (hsz:(pre e).length≤100000):Pure Tryz.prog GG 37 [.agg (encE e),.sl 2 (env.map encSignal) .none] (.tup [.int .i64 (evalV env e),.int .i64 (evalE env e)]):=by
 refine Pure.vc mixed Tryz.func37 rfl (by kernel_rfl) ?_
 have hva:=valid88 e hwe hh
 have hE:evalE env e=if validE e≠0 then 1 else if knownV env e=true then 0 else 7:=rfl
 have hV:evalV env e=if validE e=0∧knownV env e=true then valV env e else 0:=rfl
 by_cases h0:validE e=0
 · have hn:=validE_nodes h0
   have hkn:=known96 env hl e hwe hn hsz
   have hval:=value97 env hl e hwe hn
   cases hk:knownV env e
   · have e1:evalE env e=7:=by rw [hE];simp [h0,hk]
     have e2:evalV env e=0:=by rw [hV];simp [h0,hk]
     rw [e1,e2]
     rw [h0] at hva
     rw [hk] at hkn
     simp only [encE_eq e]
     simp [buildA,fillA,stPlace,putAt]
     rw [← encE_eq e]
     refine vcCall.call hva (by simp) ?_
     simp [encE_eq e]
     rw [← encE_eq e]
     refine vcCall.call hkn (by simp) ?_
     simp
   · have e1:evalE env e=0:=by rw [hE];simp [h0,hk]
     have e2:evalV env e=valV env e:=by rw [hV];simp [h0,hk]
     rw [e1,e2]
     rw [h0] at hva
     rw [hk] at hkn
     simp only [encE_eq e]
     simp [buildA,fillA,stPlace,putAt]
     rw [← encE_eq e]
     refine vcCall.call hva (by simp) ?_
     simp [encE_eq e]
     rw [← encE_eq e]
     refine vcCall.call hkn (by simp) ?_
     simp [encE_eq e]
     rw [← encE_eq e]
     refine vcCall.call hval (by simp) ?_
     simp
 · have e1:evalE env e=1:=by rw [hE];simp [h0]
   have e2:evalV env e=0:=by rw [hV];simp [h0]
   rw [e1,e2]
   simp only [encE_eq e]
   simp [buildA,fillA,stPlace,putAt]
   rw [← encE_eq e]
   refine vcCall.call hva (by simp) ?_
   simp [h0]
end Go.Proofs.YtpgcmnabljandaaGreatDoor
end
