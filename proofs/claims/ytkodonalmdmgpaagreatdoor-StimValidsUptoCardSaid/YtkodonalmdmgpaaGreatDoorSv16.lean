import Derived.Test.YtkodonalmdmgpaaGreatDoorSv10
set_option linter.all false
set_option linter.defProp false
section
namespace Go.Abs
open Go Go.RowKit
section
section
variable {P:Program} {G:Glo} {mu d lw:Bool} {ops:Array Oper}
theorem vcR_imp {Q Q':Env→St→Prop} (hq:∀ env σ,Q env σ→Q' env σ):∀ (l:List Oper) {env:Env} {σ:St},vcR P G mu ops d lw l env σ Q→vcR P G mu ops d lw l env σ Q'
 | [],env,σ,h=>hq _ _ h
 | o::r,env,σ,h=>by
  simp only [vcR] at h ⊢
  exact vcG.imp h fun env v σ h=>vcR_imp hq r h
mutual
theorem vcS_imp {ac:List Nat} {Q Q':Env→St→Prop} (hq:∀ env σ,Q env σ→Q' env σ):∀ (s:Sch) {env:Env} {σ:St},vcS P G mu ac ops s env σ Q→vcS P G mu ac ops s env σ Q'
 | .done,env,σ,h=>by simp only [vcS] at h ⊢;exact hq _ _ h
 | .step k dp s,env,σ,h=>by
  simp only [vcS] at h ⊢
  split at h
  · rename_i o ho
    exact vcG.imp h fun env v σ h=>vcS_imp hq s h
  · exact h.elim
 | .fork a,env,σ,h=>by
  simp only [vcS] at h ⊢
  exact vcAlts_imp hq a h
theorem vcAlts_imp {ac:List Nat} {Q Q':Env→St→Prop} (hq:∀ env σ,Q env σ→Q' env σ):∀ (a:Alts) {env:Env} {σ:St},vcAlts P G mu ac ops a env σ Q→vcAlts P G mu ac ops a env σ Q'
 | .nil,env,σ,h=>by simp only [vcAlts]
 | .cons k s r,env,σ,h=>by
  simp only [vcAlts] at h ⊢
  refine⟨?_,vcAlts_imp hq r h.2⟩
  have h1:=h.1
  split at h1
  · rename_i o ho
    exact vcG.imp h1 fun env v σ h=>vcS_imp hq s h
  · exact h1.elim
end
theorem aThen_imp {n n':Env→St→Prop} {Q Q':Exit→Env→St→Prop} (hn:∀ env σ,n env σ→n' env σ) (hq:∀ e env σ,Q e env σ→Q' e env σ):∀ e env σ,aThen n Q e env σ→aThen n' Q' e env σ:=by
 intro e env σ h
 cases e<;>first | exact hn _ _ h | exact hq _ _ _ h
theorem aBlock_imp {id:Nat} {Q Q':Exit→Env→St→Prop} (hq:∀ e env σ,Q e env σ→Q' e env σ):∀ e env σ,aBlock id Q e env σ→aBlock id Q' e env σ:=by
 intro e env σ h
 cases e with
 | exit i=>
  simp only [aBlock_exit] at h ⊢
  split at h
  · rename_i hi;rw [if_pos hi];exact hq _ _ _ h
  · rename_i hi;rw [if_neg hi];exact hq _ _ _ h
 | _=>exact hq _ _ _ h
/-- No range over a function within. -/
def plainC:Code→Bool
 | .seq x y=>plainC x&&plainC y
 | .cond _ x y=>plainC x&&plainC y
 | .block _ c=>plainC c
 | .loop c=>plainC c
 | .scope c=>plainC c
 | .rangeFunc .. =>false
 | _=>true
theorem vcC_imp {o:Opts}:∀ (c:Code) {env:Env} {σ:St} {Q Q':Exit→Env→St→Prop},plainC c=true→(∀ e env σ,Q e env σ→Q' e env σ)→vcC P G o c env σ Q→vcC P G o c env σ Q'
 | .skip,_,_,_,_,_,hq,h=>hq _ _ _ h
 | .ret,_,_,_,_,_,hq,h=>hq _ _ _ h
 | .exit _,_,_,_,_,_,hq,h=>hq _ _ _ h
 | .seq x y,env,σ,Q,Q',hp,hq,h=>by
  simp only [plainC,Bool.and_eq_true] at hp
  simp only [vcC] at h ⊢
  exact vcC_imp x hp.1 (aThen_imp (fun env σ h=>vcC_imp y hp.2 hq h) hq) h
 | .cond c x y,env,σ,Q,Q',hp,hq,h=>by
  simp only [plainC,Bool.and_eq_true] at hp
  simp only [vcC] at h ⊢
  split at h
  · exact⟨fun e=>vcC_imp x hp.1 hq (h.1 e),fun e=>vcC_imp y hp.2 hq (h.2 e)⟩
  · exact h.elim
 | .block id c,env,σ,Q,Q',hp,hq,h=>by
  simp only [plainC] at hp
  simp only [vcC] at h ⊢
  exact vcC_imp c hp (aBlock_imp hq) h
 | .region id ops false,env,σ,Q,Q',hp,hq,h=>by
  simp only [vcC] at h ⊢
  exact vcR_imp (fun env σ h=>hq _ _ _ h) _ h
 | .region id ops true,env,σ,Q,Q',hp,hq,h=>by
  simp only [vcC] at h ⊢
  split at h
  · exact vcS_imp (fun env σ h=>hq _ _ _ h) _ h
  · exact vcR_imp (fun env σ h=>hq _ _ _ h) _ h
 | .loop c,env,σ,Q,Q',hp,hq,h=>by
  simp only [plainC] at hp
  simp only [vcC] at h ⊢
  obtain⟨I,n,h0,hr⟩:=h
  exact⟨I,n,h0,fun n env σ hI=>vcC_imp c hp (aThen_imp (fun _ _ h=>h) hq) (hr n env σ hI)⟩
 | .rangeFunc ..,_,_,_,_,hp,_,_=>by simp [plainC] at hp
 | .scope c,_,_,_,_,hp,hq,h=>by
  simp only [plainC] at hp
  simp only [vcC] at h ⊢
  refine vcC_imp c hp (fun e env σ h=>?_) h
  cases e with
  | goto l=>exact h
  | _=>exact hq _ _ _ h
 | .label l,_,_,_,_,_,hq,h=>by
  simp only [vcC] at h ⊢
  exact hq _ _ _ h
 | .goto l,_,_,_,_,_,_,h=>by simp only [vcC] at h
 | .refuse w,_,_,_,_,_,_,h=>by simp only [vcC] at h
/-- A cut. -/
theorem vc_cut {o:Opts} {x y:Code} {env:Env} {σ:St} {Q:Exit→Env→St→Prop} (I:Env→St→Prop) (hp:plainC x=true) (h1:vcC P G o x env σ (aThen I Q)) (h2:∀ env σ,I env σ→vcC P G o y env σ Q):vcC P G o (.seq x y) env σ Q:=by
 simp only [vcC]
 exact vcC_imp x hp (aThen_imp h2 fun _ _ _ h=>h) h1
end
end
section
section
variable {P:Program} {G:Glo} {o:Opts} {c:Code} {env:Env} {σ:St} {Q:Exit→Env→St→Prop} {α:Type}
/-- A loop that takes the elements of a list, one behind the other; 'J': what holds when some are done. -/
theorem vcLoop.list (l:List α) (J:List α→Env→St→Prop) (h0:J [] env σ)
 (hs:∀ d v r env σ,l=d++v::r→l[d.length]?=some v→d.length<l.length→J d env σ→vcC P G o c env σ (aThen (J (d++[v])) Q))
 (he:∀ env σ,J l env σ→vcC P G o c env σ (aThen (fun _ _=>False) Q)) (hp:plainC c=true:=by rfl):vcLoop P G o c env σ Q:=by
 refine vcLoop.intro (fun n ev σ=>∃ d r,l=d++r∧n=r.length∧J d ev σ) l.length ⟨[],l,rfl,rfl,h0⟩ ?_
 rintro n ev σ ⟨d,r,hl,rfl,hJ⟩
 cases r with
 | nil=>
  rw [List.append_nil] at hl
  subst hl
  exact vcC_imp c hp (fun e env σ h=>aThen_imp (fun _ _ h=>h.elim) (fun _ _ _ h=>h) e env σ h) (he ev σ hJ)
 | cons v r=>
  refine vcC_imp c hp (fun e env σ h=>aThen_imp (fun env σ h=>?_) (fun _ _ _ h=>h) e env σ h) (hs d v r ev σ hl (by rw [hl];simp) (by rw [hl];simp) hJ)
  exact⟨r.length,by simp,d++[v],r,by rw [hl];simp,rfl,h⟩
/-- A loop that counts up to n. -/
theorem vcLoop.count (n:Nat) (J:Nat→Env→St→Prop) (h0:J 0 env σ)
 (hs:∀ i env σ,i<n→J i env σ→vcC P G o c env σ (aThen (J (i+1)) Q))
 (he:∀ env σ,J n env σ→vcC P G o c env σ (aThen (fun _ _=>False) Q)) (hp:plainC c=true:=by rfl):vcLoop P G o c env σ Q:=by
 refine vcLoop.intro (fun m ev σ=>∃ i,i≤n∧m=n-i∧J i ev σ) n ⟨0,by omega,by omega,h0⟩ ?_
 rintro m ev σ ⟨i,hi,rfl,hJ⟩
 by_cases hn:i=n
 · subst hn
   exact vcC_imp c hp (fun e env σ h=>aThen_imp (fun _ _ h=>h.elim) (fun _ _ _ h=>h) e env σ h) (he ev σ hJ)
 · refine vcC_imp c hp (fun e env σ h=>aThen_imp (fun env σ h=>?_) (fun _ _ _ h=>h) e env σ h) (hs i ev σ (by omega) hJ)
   exact⟨n-(i+1),by omega,i+1,by omega,rfl,h⟩
end
/-! ### Lists that are appended to -/
/-- A list so far, the one with token 't'. -/
def outC {α:Type} (sz:Nat) (en:α→List AV) (t:Nat) (s:List α):AV:=match s with
 | []=>.sl 0 [] .nil
 | a::r=>.sl sz ((a::r).map en) (.chain t (r.length+1))
def outCT {α:Type} (T:List (Option Nat)) (s:List α):List (Option Nat):=match s with
 | []=>T
 | _::r=>T++[some (r.length+1)]
section
variable {α:Type} {sz t:Nat} {en:α→List AV} {T:List (Option Nat)} {s m:List α}
@[simp] theorem outC_nil:outC sz en t ([]:List α)=.sl 0 [] .nil:=rfl
@[simp] theorem outCT_nil:outCT T ([]:List α)=T:=rfl
theorem outC_ne (h:s≠[]):outC sz en t s=.sl sz (s.map en) (.chain t s.length):=by
 cases s with
 | nil=>exact absurd rfl h
 | cons a r=>rfl
theorem outCT_ne (h:s≠[]):outCT T s=T++[some s.length]:=by
 cases s with
 | nil=>exact absurd rfl h
 | cons a r=>rfl
theorem append_outC {D:Nat→Option TI} {H:List Blk} {ty e:Nat} {i j:TI} {tok:Tok} (hi:D ty=some i) (hd:i.d=.sl e) (hj:D e=some j) (hsz:j.size=sz) (h0:0<sz) (hz:j.zero.length=sz) (hb:j.bytes≤256) (hlen:s.length+m.length≤549755813888) (sz2:Nat) (h2:sz2=sz∨m=[]) :
 appendA D ⟨H,outCT T s⟩ ty (outC sz en T.length s) (.sl sz2 (m.map en) tok)=some (outC sz en T.length (s++m),⟨H,outCT T (s++m)⟩):=by
 subst hsz
 by_cases hm:m=[]
 · subst hm
   rw [List.append_nil]
   cases s with
   | nil=>simp [appendA,hi,hd,hj,h0,hz,hb,rowsOf]
   | cons a r=>
    have:r.length+1≤549755813888:=by simpa using hlen
    simp [appendA,hi,hd,hj,h0,hz,hb,rowsOf,outC,outCT,this]
 · have h2:sz2=j.size:=h2.resolve_right hm
   subst h2
   cases s with
   | nil=>
    have:m.length≤549755813888:=by simpa using hlen
    simp [appendA,hi,hd,hj,h0,hz,hb,rowsOf,outCT_ne hm,outC_ne hm,this,hm]
   | cons a r=>
    have:r.length+1+m.length≤549755813888:=by simpa using hlen
    simp only [List.cons_append,outC,outCT]
    simp [appendA,hi,hd,hj,h0,hz,hb,rowsOf,this,hm]
    omega
@[simp high] theorem outC_atom:AV.atom (outC sz en t s)=true:=by cases s<;>rfl
@[simp high] theorem outC_acells:acells (outC sz en t s)=some [outC sz en t s]:=by cases s<;>rfl
/-- A list, handed on. -/
def outR {α:Type} (sz:Nat) (en:α→List AV) (s:List α):AV:=match s with
 | []=>.sl 0 [] .nil
 | a::r=>.sl sz ((a::r).map en) .none
@[simp high] theorem pl1_outC:pl1 (outC sz en t s)=outR sz en s:=by cases s<;>rfl
@[simp high] theorem pl2_outC:pl2 (outC sz en t s)=outR sz en s:=by cases s<;>rfl
@[simp high] theorem plain_outC:plain (outC sz en t s)=outR sz en s:=by cases s<;>rfl
@[simp high] theorem fin1_outC {H:List Blk}:fin1 H (outC sz en t s)=outR sz en s:=by cases s<;>rfl
@[simp high] theorem fin2_outC {H:List Blk}:fin2 H (outC sz en t s)=outR sz en s:=by cases s<;>rfl
@[simp high] theorem fin_outC {H:List Blk}:fin H (outC sz en t s)=outR sz en s:=by cases s<;>rfl
@[simp high] theorem pl1_outR:pl1 (outR sz en s)=outR sz en s:=by cases s<;>rfl
@[simp high] theorem fin1_outR {H:List Blk}:fin1 H (outR sz en s)=outR sz en s:=by cases s<;>rfl
@[simp high] theorem outR_atom:AV.atom (outR sz en s)=true:=by cases s<;>rfl
@[simp high] theorem noRef_outR (hn:∀ x,noRefs (en x)=true):noRef (outR sz en s)=true:=by
 cases s with
 | nil=>rfl
 | cons a r=>simpa [outR] using noRefss_map hn (a::r)
theorem leq_outR:Leq (outR sz en s) (.sl sz (s.map en) .none):=by
 cases s with
 | nil=>simp [outR,Leq]
 | cons a r=>exact Leq.sl rfl
@[simp high] theorem leq_outR':Leq (outR sz en s) (.sl sz (s.map en) .none)=True:=eq_true leq_outR
end
end
end Go.Abs
end
