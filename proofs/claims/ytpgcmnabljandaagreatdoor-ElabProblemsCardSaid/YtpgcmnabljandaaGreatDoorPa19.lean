/- A part of the proof. -/
import Derived.Test.YtpgcmnabljandaaGreatDoorPa06
set_option linter.unusedVariables false
set_option linter.unusedSimpArgs false
set_option linter.defProp false
attribute [local simp] Go.Abs.acells Go.Abs.fin Go.Abs.zh Go.Abs.ze Go.Abs.pl1 Go.Abs.plain Go.Abs.pl2 Go.Abs.AV.atom
section
namespace Go.Abs
open Go Go.RowKit
section
section
variable {P:Program}{G:Nat->AV}{mu d lw:Bool}{ops:Array Oper}
theorem qaw {Q Q':Env->St->Prop}(hq:∀ env O,Q env O->Q' env O):∀ (l:List Oper) {env:Env} {O:St},vcR P G mu ops d lw l env O Q->vcR P G mu ops d lw l env O Q'
 | [],env,O,h=>hq _ _ h
 | o::r,env,O,h=>by
  simp only[vcR]at h ⊢;exact vcG.imp h fun env v O h=>qaw hq r h
mutual
theorem qav {ac:List Nat}{Q Q':Env->St->Prop}(hq:∀ env O,Q env O->Q' env O):∀ (s:Sch) {env:Env} {O:St},vcS P G mu ac ops s env O Q->vcS P G mu ac ops s env O Q'
 | .done,env,O,h=>by simp only[vcS]at h ⊢;exact hq _ _ h
 | .step k dp s,env,O,h=>by
  simp only[vcS]at h ⊢;split at h
  . rename_i o ho;exact vcG.imp h fun env v O h=>qav hq s h
  . exact h.elim
 | .fork a,env,O,h=>by
  simp only[vcS]at h ⊢;exact Vt hq a h
theorem Vt {ac:List Nat}{Q Q':Env->St->Prop}(hq:∀ env O,Q env O->Q' env O):∀ (a:Alts) {env:Env} {O:St},Qz P G mu ac ops a env O Q->Qz P G mu ac ops a env O Q'
 | .nil,env,O,h=>by simp only[Qz]
 | .cons k s r,env,O,h=>by
  simp only[Qz]at h ⊢;refine⟨?_,Vt hq r h.2⟩;have h1:=h.1;split at h1
  . rename_i o ho;exact vcG.imp h1 fun env v O h=>qav hq s h
  . exact h1.elim
end
theorem wh {n n':Env->St->Prop}{Q Q':Exit->Env->St->Prop}(hn:∀ env O,n env O->n' env O)(hq:∀ e env O,Q e env O->Q' e env O):∀ e env O,vW n Q e env O->vW n' Q' e env O:=by
 intro e env O h;cases e<;>first | exact hn _ _ h | exact hq _ _ _ h
theorem qiB {id:Nat}{Q Q':Exit->Env->St->Prop}(hq:∀ e env O,Q e env O->Q' e env O):∀ e env O,vX id Q e env O->vX id Q' e env O:=by
 intro e env O h
 cases e with
 | exit i=>
  simp only[qfH]at h ⊢;split at h
  . rename_i hi;rw[if_pos hi];exact hq _ _ _ h
  . rename_i hi;rw[if_neg hi];exact hq _ _ _ h
 | _=>exact hq _ _ _ h
def yi:Code->Bool
 | .seq x y=>yi x&&yi y
 | .cond _ x y=>yi x&&yi y
 | .block _ c=>yi c
 | .loop c=>yi c
 | .rangeFunc .. =>false
 | _=>true
theorem kc {o:Opts}:∀ (c:Code) {env:Env} {O:St} {Q Q':Exit->Env->St->Prop},yi c=true->(∀ e env O,Q e env O->Q' e env O)->vcC P G o c env O Q->vcC P G o c env O Q'
 | .skip,_,_,_,_,_,hq,h=>hq _ _ _ h
 | .ret,_,_,_,_,_,hq,h=>hq _ _ _ h
 | .exit _,_,_,_,_,_,hq,h=>hq _ _ _ h
 | .seq x y,env,O,Q,Q',hp,hq,h=>by
  simp only[yi,qq1]at hp;simp only[vcC]at h ⊢;exact kc x hp.1 (wh (fun env O h=>kc y hp.2 hq h) hq) h
 | .cond c x y,env,O,Q,Q',hp,hq,h=>by
  simp only[yi,qq1]at hp;simp only[vcC]at h ⊢;split at h
  . exact⟨fun e=>kc x hp.1 hq (h.1 e),fun e=>kc y hp.2 hq (h.2 e)⟩
  . exact h.elim
 | .block id c,env,O,Q,Q',hp,hq,h=>by
  simp only[yi]at hp;simp only[vcC]at h ⊢;exact kc c hp (qiB hq) h
 | .region id ops false,env,O,Q,Q',hp,hq,h=>by
  simp only[vcC]at h ⊢;exact qaw (fun env O h=>hq _ _ _ h) _ h
 | .region id ops true,env,O,Q,Q',hp,hq,h=>by
  simp only[vcC]at h ⊢;split at h
  . exact qav (fun env O h=>hq _ _ _ h) _ h
  . exact qaw (fun env O h=>hq _ _ _ h) _ h
 | .loop c,env,O,Q,Q',hp,hq,h=>by
  simp only[yi]at hp;simp only[vcC]at h ⊢;obtain⟨I,n,h0,hr⟩:=h;exact⟨I,n,h0,fun n env O hI=>kc c hp (wh (fun _ _ h=>h) hq) (hr n env O hI)⟩
 | .rangeFunc ..,_,_,_,_,hp,_,_=>by simp[yi]at hp
 | .scope c,_,_,_,_,_,_,h=>by simp only[vcC]at h
 | .label l,_,_,_,_,_,_,h=>by simp only[vcC]at h
 | .goto l,_,_,_,_,_,_,h=>by simp only[vcC]at h
 | .refuse w,_,_,_,_,_,_,h=>by simp only[vcC]at h
theorem Vs {o:Opts}{x y:Code}{env:Env}{O:St}{Q:Exit->Env->St->Prop}(I:Env->St->Prop)(hp:yi x=true)(h1:vcC P G o x env O (vW I Q))(h2:∀ env O,I env O->vcC P G o y env O Q):vcC P G o (.seq x y) env O Q:=by
 simp only[vcC];exact kc x hp (wh h2 fun _ _ _ h=>h) h1
end
end
end Go.Abs
end
