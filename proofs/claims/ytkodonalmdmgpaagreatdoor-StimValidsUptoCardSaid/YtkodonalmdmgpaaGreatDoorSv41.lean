import Derived.Test.YtkodonalmdmgpaaGreatDoorSv25
set_option linter.all false
set_option linter.defProp false
section
namespace Go.Abs
open Go Go.RowKit
section
/-- A list so far; its free end is known, and none of the first n. -/
def OutAt {α:Type} (n sz:Nat) (en:α→List AV) (T:List (Option Nat)) (v:AV) (l:List α):Prop :=
 (l=[]∧v=.sl 0 [] .nil)∨(l≠[]∧∃ t,n≤t∧v=.sl sz (l.map en) (.chain t l.length)∧T[t]?=some (some l.length))
section
variable {α:Type} {n sz:Nat} {en:α→List AV} {T T':List (Option Nat)} {v:AV} {l m:List α}
theorem OutAt.nil:OutAt n sz en T (.sl 0 [] .nil) ([]:List α):=.inl ⟨rfl,rfl⟩
theorem OutAt.ext (h:OutAt n sz en T v l) (hT:T <+: T'):OutAt n sz en T' v l:=by
 rcases h with h|⟨h1,t,h2,h3,h4⟩
 · exact .inl h
 · obtain⟨u,rfl⟩:=hT
   exact .inr ⟨h1,t,h2,h3,by rw [List.getElem?_append_left (List.getElem?_eq_some_iff.1 h4).1,h4]⟩
theorem OutAt.acells (h:OutAt n sz en T v l):acells v=some [v]:=by
 rcases h with ⟨_,rfl⟩|⟨_,t,_,rfl,_⟩<;>rfl
theorem OutAt.atom (h:OutAt n sz en T v l):AV.atom v=true:=by
 rcases h with ⟨_,rfl⟩|⟨_,t,_,rfl,_⟩<;>rfl
theorem OutAt.leq (h:OutAt n sz en T v l):Leq v (.sl sz (l.map en) .none):=by
 rcases h with ⟨rfl,rfl⟩|⟨_,t,_,rfl,_⟩
 · exact Leq.slnil
 · exact Leq.sl rfl
theorem OutAt.noRef (h:OutAt n sz en T v l) (hn:∀ x,noRefs (en x)=true):noRef (pl1 v)=true∧Leq (pl1 v) (.sl sz (l.map en) .none):=by
 rcases h with ⟨rfl,rfl⟩|⟨_,t,_,rfl,_⟩
 · exact⟨rfl,Leq.slnil⟩
 · exact⟨by simpa using noRefss_map hn l,Leq.sl rfl⟩
theorem prefix_set {T0 T:List (Option Nat)} (h:T0 <+: T) {t:Nat} (ht:T0.length≤t) (x:Option Nat):T0 <+: T.set t x:=by
 obtain⟨u,rfl⟩:=h
 rw [List.set_append_right _ _ ht]
 exact⟨_,rfl⟩
theorem OutAt.append {T0:List (Option Nat)} {D:Nat→Option TI} {ty e:Nat} {i j:TI} {tok:Tok} (h:OutAt T0.length sz en T v l) (hT:T0 <+: T) (hi:D ty=some i) (hd:i.d=.sl e) (hj:D e=some j) (hsz:j.size=sz) (h0:0<sz) (hz:j.zero.length=sz) (hb:j.bytes≤256)
 (hlen:l.length+m.length≤549755813888) (sz2:Nat) (h2:sz2=sz∨m=[]) :
 ∃ v' T',(∀ H,appendA D ⟨H,T⟩ ty v (.sl sz2 (m.map en) tok)=some (v',⟨H,T'⟩))∧OutAt T0.length sz en T' v' (l++m)∧T0 <+: T':=by
 subst hsz
 by_cases hm:m=[]
 · subst hm
   rw [List.append_nil]
   refine⟨v,T,fun H=>?_,h,hT⟩
   rcases h with ⟨rfl,rfl⟩|⟨hne,t,_,rfl,_⟩
   · simp [appendA,hi,hd,hj,h0,hz,hb,rowsOf]
   · have:l.length≤549755813888:=by simpa using hlen
     simp [appendA,hi,hd,hj,h0,hz,hb,rowsOf,this]
 · have h2:sz2=j.size:=h2.resolve_right hm
   subst h2
   have hml:m.length≠0:=fun h=>hm (List.length_eq_zero_iff.1 h)
   rcases h with ⟨rfl,rfl⟩|⟨hne,t,ht,rfl,hk⟩
   · have:m.length≤549755813888:=by simpa using hlen
     refine⟨.sl j.size (m.map en) (.chain T.length m.length),T++[some m.length],fun H=>?_,.inr ⟨by simpa using hm,T.length,?_,by simp,by simp⟩,hT.trans (List.prefix_append _ _)⟩
     · simp [appendA,hi,hd,hj,h0,hz,hb,rowsOf,this,hm]
     · obtain⟨u,rfl⟩:=hT;simp
   · refine⟨.sl j.size ((l++m).map en) (.chain t (l.length+m.length)),T.set t (some (l.length+m.length)),fun H=>?_,.inr ⟨by simp [hne],t,ht,by simp,?_⟩,prefix_set hT ht _⟩
     · simp [appendA,hi,hd,hj,h0,hz,hb,rowsOf,hlen,hm,hk]
     · rw [List.getElem?_set_self (List.getElem?_eq_some_iff.1 hk).1]
       simp
end
theorem frz_slm {α:Type} {sz:Nat} {en:α→List AV} (hn:∀ x,noRefs (en x)=true) (ha:∀ x,(en x).all AV.atom=true) (H:List Blk) (k:Nat) (l:List α) (tok:Tok):Leq (Abs.frz H (k+1) (.sl sz (l.map en) tok)) (.sl sz (l.map en) .none):=by
 have hr:=frz_rows (H:=H) hn (n:=k) l
 have hall:((l.map en).map (·.map (Abs.frz H k))).all (·.all AV.atom)=true:=by
  rw [hr,List.all_map,List.all_eq_true]
  intro x _
  exact ha x
 by_cases hno:Abs.noRef (.sl sz (l.map en) tok)=true
 · rw [frz_noRef hno];exact Leq.sl rfl
 · rw [Abs.frz,if_neg hno]
   simp only [if_pos hall]
   rw [hr]
   exact Leq.refl _
theorem frz_slm2 {α:Type} {sz sz':Nat} {en:α→List AV} (hn:∀ x,noRefs (en x)=true) (ha:∀ x,(en x).all AV.atom=true) (H:List Blk) (k:Nat) (l:List α) (tok:Tok) (h:sz=sz'∨l=[]):Leq (Abs.frz H (k+1) (.sl sz (l.map en) tok)) (.sl sz' (l.map en) .none):=by
 rcases h with rfl|rfl
 · exact frz_slm hn ha H k l tok
 · by_cases hno:Abs.noRef (.sl sz [] tok)=true
   · rw [List.map_nil,frz_noRef hno];exact Leq.slnil
   · rw [List.map_nil,Abs.frz,if_neg hno]
     exact Leq.slnil
theorem OutAt.frz {α:Type} {n sz:Nat} {en:α→List AV} {T:List (Option Nat)} {v:AV} {l:List α} (h:OutAt n sz en T v l) (hn:∀ x,noRefs (en x)=true) (ha:∀ x,(en x).all AV.atom=true) (H:List Blk) (k:Nat):Abs.noRef (Abs.frz H (k+1) v)=true∧Leq (Abs.frz H (k+1) v) (.sl sz (l.map en) .none):=by
 rcases h with ⟨rfl,rfl⟩|⟨_,t,_,rfl,_⟩
 · rw [frz_noRef (by simp)];simp
 · have hr:=frz_rows (H:=H) hn (n:=k) l
   have hall:((l.map en).map (·.map (Abs.frz H k))).all (·.all AV.atom)=true:=by
    rw [hr,List.all_map,List.all_eq_true]
    intro x _
    exact ha x
   by_cases hno:Abs.noRef (.sl sz (l.map en) (.chain t l.length))=true
   · rw [frz_noRef hno];exact⟨hno,Leq.sl rfl⟩
   · rw [Abs.frz,if_neg hno]
     simp only [if_pos hall]
     rw [hr]
     exact⟨by simpa using noRefss_map hn l,Leq.refl _⟩
section
variable {P:Program} {G:Glo} {f:FuncId} {args:List AV} {σ:St} {Q:AV→St→Prop}
/-- A result may be said to be less. -/
theorem ACall.up (h:ACall P G f args σ (fun r τ=>∃ w,Leq r w∧Q w τ)):ACall P G f args σ Q :=
 ⟨h.1,fun w0 ro0 K w vs hw hvs=>(h.2 w0 ro0 K w vs hw hvs).mono fun e w' h=>h.imp (fun ⟨v',v,σ',K',h1,h2,h3,h4,u,h5,h6⟩=>⟨v',u,σ',K',h1,h2,h3,Leq.rel _ _ h5 h4,h6⟩) id⟩
end
end
end Go.Abs
end
