import Derived.Test.YtkodonalmdmgpaaGreatDoorSv20
set_option linter.all false
set_option linter.defProp false
section
namespace Go.Abs
open Go Go.RowKit
section
/-- The second state has the first one's blocks and counts, and more. -/
def Ext (σ σ':St):Prop:=∃ t u,σ'=⟨σ.H++t,σ.T++u⟩
theorem Ext.refl {σ:St}:Ext σ σ:=⟨[],[],by simp⟩
theorem Ext.trans {σ σ' σ'':St} (h:Ext σ σ') (h':Ext σ' σ''):Ext σ σ'':=by
 obtain⟨t,u,rfl⟩:=h
 obtain⟨t',u',rfl⟩:=h'
 exact⟨t++t',u++u',by simp⟩
theorem Ext.app {H t:List Blk} {T u:List (Option Nat)}:Ext ⟨H,T⟩ ⟨H++t,T++u⟩:=⟨t,u,rfl⟩
theorem Ext.pre {H H':List Blk} {T T':List (Option Nat)} (h:H <+: H') (h':T <+: T'):Ext ⟨H,T⟩ ⟨H',T'⟩:=by
 obtain⟨t,rfl⟩:=h
 obtain⟨u,rfl⟩:=h'
 exact⟨t,u,rfl⟩
theorem Ext.at {σ σ':St} (h:Ext σ σ') {k:Nat} {x:Blk} (hk:σ.H[k]?=some x):σ'.H[k]?=some x:=by
 obtain⟨t,u,rfl⟩:=h
 exact look_app hk t
theorem Ext.tok {σ σ':St} (h:Ext σ σ') {k:Nat} {x:Option Nat} (hk:σ.T[k]?=some x):σ'.T[k]?=some x:=by
 obtain⟨t,u,rfl⟩:=h
 show (σ.T++u)[k]?=some x
 rw [List.getElem?_append_left (List.getElem?_eq_some_iff.1 hk).1,hk]
section
variable {P:Program} {G:Glo} {σ:St} {f:FuncId} {args args':List AV} {Q:AV→St→Prop}
theorem ACall.leq (h:ACall P G f args' σ Q) (ha:LeqL args args'):ACall P G f args σ Q :=
 ⟨h.1,fun w0 ro0 K w vs hw hvs=>h.2 w0 ro0 K w vs hw (LeqL.rel _ _ ha hvs)⟩
end
end
section
section
variable {P:Program} {G:Glo} {o:Opts} {ops:Array Oper} {ct:Ct} {env:Env} {σ:St} {ks:List Fr} {Q:Exit→Env→St→Prop}
/-- A cut within a region: what holds behind it. -/
theorem kT_cut {y:Code} (I:Env→St→Prop) (h1:kT P G o ops ct env σ (.loop I::ks) Q) (h2:∀ env σ,I env σ→kC P G o y env σ ks Q):kT P G o ops ct env σ (.seq y::ks) Q:=by
 unfold kT at h1 ⊢
 cases ct with
 | run d lw rest=>exact vcR_imp (fun env σ h=>h2 env σ h) rest h1
 | plan ac s=>exact vcS_imp (fun env σ h=>h2 env σ h) s h1
/-- A cut behind a branch. -/
theorem kCd_cut {v:AV} {x y z:Code} (I:Env→St→Prop) (h1:kCd P G o v x y env σ (.loop I::ks) Q) (h2:∀ env σ,I env σ→kC P G o z env σ ks Q) (hp:plainC x=true:=by rfl) (hq:plainC y=true:=by rfl):kCd P G o v x y env σ (.seq z::ks) Q:=by
 unfold kCd at h1 ⊢
 cases v with
 | bool b=>exact⟨fun e=>kC_cut I (h1.1 e) h2 hp,fun e=>kC_cut I (h1.2 e) h2 hq⟩
 | _=>exact h1
/-- A cut behind a loop. -/
theorem kLoop_cut {x z:Code} (I:Env→St→Prop) (h1:kLoop P G o x env σ (.loop I::ks) Q) (h2:∀ env σ,I env σ→kC P G o z env σ ks Q) (hp:plainC x=true:=by rfl):kLoop P G o x env σ (.seq z::ks) Q:=by
 unfold kLoop at h1 ⊢
 obtain⟨J,n,h0,hr⟩:=h1
 exact⟨J,n,h0,fun n env σ hI=>vcC_imp x hp (aThen_imp (fun _ _ h=>h) (fun e env σ h=>aThen_imp (fun env σ h=>h2 env σ h) (fun _ _ _ h=>h) e env σ h)) (hr n env σ hI)⟩
end
theorem Ext.push {H t:List Blk} {T:List (Option Nat)}:Ext ⟨H,T⟩ ⟨H++t,T⟩:=⟨t,[],by simp⟩
theorem Ext.pushT {H t:List Blk} {T T':List (Option Nat)} (h:T <+: T'):Ext ⟨H,T⟩ ⟨H++t,T'⟩:=by
 obtain⟨u,rfl⟩:=h
 exact⟨t,u,rfl⟩
end
end Go.Abs
end
