/- A part of the proof: Walk35 Walk36. -/
import Derived.Test.YtpgcmnabljandaaGreatDoorGa33
import Derived.Test.YtpgcmnabljandaaGreatDoorGa39
import Derived.Test.YtpgcmnabljandaaGreatDoorGa22
import Derived.Test.YtpgcmnabljandaaGreatDoorGa38
set_option linter.unusedVariables false
set_option linter.unusedSimpArgs false
set_option maxRecDepth 100000
section
namespace Go.Proofs.YtpgcmnabljandaaGreatDoor
open Go Go.Abs
def outL {α:Type} (sz:Nat) (en:α→List AV) (s:List α):AV:=match s with
 | []=>.sl 0 [] .nil
 | a::r=>.sl sz ((a::r).map en) (.chain 0 (r.length+1))
def outTL {α:Type} (s:List α):List (Option Nat):=match s with
 | []=>[]
 | _::r=>[some (r.length+1)]
theorem outL_end {α:Type} {sz:Nat} {en:α→List AV} (s:List α) (H:List Blk) (hn:∀ x,noRefs (en x)=true):noRef (fin H (outL sz en s))=true∧Leq (fin H (outL sz en s)) (.sl sz (s.map en) .none):=by
 cases s with
 | nil=>simp [outL,Leq]
 | cons a r=>
  have h:=noRefss_map hn (a::r)
  refine⟨?_,Leq.sl rfl⟩
  simpa [outL] using h
def envL (l:List Var) (a:List Int):List Signal:=(l.zip a).map fun q=>⟨q.1.name,q.2⟩
theorem envS_eq (l:List Var) (a:List Int):envS l a=if a.length=l.length then envL l a else []:=rfl
theorem envL_get {l:List Var} {a:List Int} {i:Nat} {v:Var} {x:Int} (h:l[i]?=some v) (h':a[i]?=some x):(envL l a)[i]?=some ⟨v.name,x⟩:=by
 unfold envL
 rw [List.getElem?_map,(List.getElem?_zip_eq_some (z:=(v,x))).2 ⟨h,h'⟩];rfl
theorem envL_len {l:List Var} {a:List Int} (h:a.length=l.length):(envL l a).length=l.length:=by simp [envL,h]
theorem envS_len {l:List Var} {a:List Int}:(envS l a).length≤l.length:=by
 rw [envS_eq]
 split
 · rename_i h;rw [envL_len h];exact Nat.le_refl _
 · simp
set_option maxHeartbeats 1000000 in
theorem env16 (p:Problem) (a:List Int) (hl:p.vars.length≤1000) (ha:Fits a):Pure Tryz.prog GG 16 [.agg (encP p),.sl 1 (a.map encInt) .none] (.sl 2 ((envS p.vars a).map encSignal) .none):=by
 refine Pure.vc mixed Tryz.func16 rfl (by kernel_rfl) ?_
 by_cases hlen:a.length=p.vars.length
 · rw [envS_eq,if_pos hlen]
   have hE:=envL_len hlen
   simp [hlen]
   refine vcLoop.intro (fun n ev σ=>∃ i tl,i≤p.vars.length∧n=p.vars.length-i∧ev 1=.sl 1 (a.map encInt) .none∧ev 5=outL 2 encSignal ((envL p.vars a).take i)∧ev 15=.sl 4 (p.vars.map encVar) .none∧ev 16=.int .i64 p.vars.length∧ev 17=.int .i64 i∧σ=⟨tl,outTL ((envL p.vars a).take i)⟩) p.vars.length ⟨0,_,by simp,by simp,by simp,by simp [outL],by simp,by simp,by simp,by simp [outTL];rfl⟩ ?_
   rintro n ev σ ⟨i,tl,hi,rfl,h1,h5,h15,h16,h17,rfl⟩
   cases hv:p.vars[i]? with
   | some v=>
    obtain⟨hc,hv'⟩:=List.getElem?_eq_some_iff.1 hv
    have hca:i<a.length:=by omega
    obtain⟨x,hx⟩:∃ x,a[i]?=some x:=⟨_,List.getElem?_eq_getElem hca⟩
    have hx':=(List.getElem?_eq_some_iff.1 hx).2
    have ht:(envL p.vars a).take (i+1)=(envL p.vars a).take i++[⟨v.name,x⟩]:=by
     rw [List.take_add_one,envL_get hv hx];rfl
    have hRl:((envL p.vars a).take i).length≤1000:=by simp;omega
    generalize hR:(envL p.vars a).take i=R at h5 ht hRl ⊢
    cases R with
    | nil=>
     simp only [outL] at h5
     simp [h1,h5,h15,h16,h17,hc,hca,hv',hx',List.set_append,outTL,buildA,fillA,stPlace,appendA,buildSliceA,rowsFill,rowsOf,putAt]
     exact⟨_,by omega,i+1,by omega,rfl,by rw [ht];simp [outL],wr (by omega) (by omega),by rw [ht];simp⟩
    | cons b r=>
     have hb:r.length≤1073741822:=by simp at hRl;omega
     simp only [outL] at h5
     simp [h1,h5,h15,h16,h17,hc,hca,hv',hx',List.set_append,outTL,buildA,fillA,stPlace,appendA,buildSliceA,rowsFill,rowsOf,putAt,hb]
     exact⟨_,by omega,i+1,by omega,rfl,by rw [ht];simp [outL],wr (by omega) (by omega),by rw [ht];simp⟩
   | none=>
    have hc:¬ i<p.vars.length:=by simp at hv;omega
    rw [List.take_of_length_le (by omega)] at h5 ⊢
    have he:=outL_end (sz:=2) (en:=encSignal) (envL p.vars a) tl (fun x=>by simp)
    simp [h1,h5,h15,h16,h17,hc]
    exact he
 · rw [envS_eq,if_neg hlen]
   have hlen':¬ (a.length:Int)=p.vars.length:=by omega
   simp [hlen,hlen',Leq]
end Go.Proofs.YtpgcmnabljandaaGreatDoor
end
