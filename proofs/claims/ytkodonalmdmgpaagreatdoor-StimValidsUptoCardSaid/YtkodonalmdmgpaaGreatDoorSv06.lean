import Derived.Test.YtkodonalmdmgpaaGreatDoorSv01
set_option linter.all false
set_option linter.defProp false
section
namespace Go.Abs
open Go Go.RowKit
/-! ### One value in the place of another -/
mutual
/-- What 'b' says of a value, 'a' says too. -/
def Leq:AV→AV→Prop
 | a,.any=>True
 | .rptr c,.rptr c'=>LeqC c c'
 | .sl sz rows tok,.sl sz' rows' tok'=>(rows=[]∧rows'=[]∧tok'=.none)∨(sz=sz'∧LeqR rows rows'∧(tok'=.none∨tok'=tok))
 | .fn f a b,.fn f' a' b'=>f=f'∧LeqL a a'∧LeqL b b'
 | .agg c,.agg c'=>LeqL c c'
 | .tup c,.tup c'=>LeqL c c'
 | a,b=>a=b
def LeqL:List AV→List AV→Prop
 | [],[]=>True
 | a::r,a'::r'=>Leq a a'∧LeqL r r'
 | _,_=>False
def LeqC:List AV→List AV→Prop
 | _,[]=>True
 | a::r,a'::r'=>Leq a a'∧LeqC r r'
 | _,_=>False
def LeqR:List (List AV)→List (List AV)→Prop
 | [],[]=>True
 | a::r,a'::r'=>(a=a'∨(LeqL a a'∧a'.all AV.atom=true))∧LeqR r r'
 | _,_=>False
end
mutual
theorem Leq.rel {K:Kn}:∀ (a b:AV) {v:Value},Leq a b→VRel K a v→VRel K b v
 | a,.any,_,_,_=>by simp [VRel]
 | .rptr c,.rptr c',_,h,x=>by
  simp only [VRel,Leq] at h x ⊢
  obtain⟨B,off,h1,h2⟩:=x
  exact⟨B,off,h1,LeqC.rel c c' _ _ h h2⟩
 | .sl sz rows tok,.sl sz' rows' tok',_,h,x=>by
  simp only [VRel,Leq] at h x ⊢
  rcases h with ⟨rfl,rfl,rfl⟩|⟨rfl,h2,h3⟩
  · rcases x with x|⟨B,off,cap,h1,h2,h3,h4⟩
    · obtain⟨⟨a0,x1,_⟩,_⟩:=x;exact .inl ⟨⟨a0,x1,.inr rfl⟩,rfl,trivial⟩
    · exact .inr ⟨B,off,cap,h1,h2,h3,trivial⟩
  · have hl:=LeqR.len rows rows' h2
    rcases x with ⟨x1,x2,x3⟩|⟨B,off,cap,k1,k2,k3,k4⟩
    · subst x2
      cases rows' with
      | nil=>obtain⟨a0,x1,xa⟩:=x1;exact .inl ⟨⟨a0,x1,by rcases h3 with rfl | rfl;exact .inr rfl;exact xa⟩,rfl,by rcases h3 with rfl | rfl;exact trivial;exact x3⟩
      | cons _ _=>simp at hl
    · refine .inr ⟨B,off,cap,by rw [← hl];exact k1,by rw [← hl];exact k2,LeqR.rel rows rows' _ _ _ h2 k3,?_⟩
      rw [← hl]
      rcases h3 with rfl|rfl
      · exact trivial
      · exact k4
 | .fn f a b,.fn f' a' b',_,h,x=>by
  simp only [VRel,Leq] at h x ⊢
  obtain⟨rfl,h1,h2⟩:=h
  obtain⟨va,vb,x1,x2,x3⟩:=x
  exact⟨va,vb,x1,LeqL.rel a a' h1 x2,LeqL.rel b b' h2 x3⟩
 | .agg c,.agg c',_,h,x=>by
  simp only [VRel,Leq] at h x ⊢
  obtain⟨vs,x1,x2⟩:=x
  exact⟨vs,x1,LeqL.rel c c' h x2⟩
 | .tup c,.tup c',_,h,x=>by
  simp only [VRel,Leq] at h x ⊢
  obtain⟨vs,x1,x2⟩:=x
  exact⟨vs,x1,LeqL.rel c c' h x2⟩
 | .any,.bool ..,_,h,x | .any,.int ..,_,h,x | .any,.str ..,_,h,x | .any,.nilp,_,h,x | .any,.ptr ..,_,h,x | .any,.rptr ..,_,h,x | .any,.sl ..,_,h,x | .any,.ms ..,_,h,x | .any,.nilm,_,h,x | .any,.map ..,_,h,x | .any,.iter ..,_,h,x | .any,.fn ..,_,h,x | .any,.nilf,_,h,x | .any,.agg ..,_,h,x | .any,.tup ..,_,h,x=>by simp [Leq] at h
 | .bool _,b,_,h,x=>by cases b<;>simp only [Leq] at h<;>first | exact x | (rw [← h];exact x) | (cases h;done) | simp [VRel]
 | .int ..,b,_,h,x=>by cases b<;>simp only [Leq] at h<;>first | exact x | (rw [← h];exact x) | (cases h;done) | simp [VRel]
 | .str ..,b,_,h,x=>by cases b<;>simp only [Leq] at h<;>first | exact x | (rw [← h];exact x) | (cases h;done) | simp [VRel]
 | .nilp,b,_,h,x=>by cases b<;>simp only [Leq] at h<;>first | exact x | (rw [← h];exact x) | (cases h;done) | simp [VRel]
 | .ptr ..,b,_,h,x=>by cases b<;>simp only [Leq] at h<;>first | exact x | (rw [← h];exact x) | (cases h;done) | simp [VRel]
 | .ms ..,b,_,h,x=>by cases b<;>simp only [Leq] at h<;>first | exact x | (rw [← h];exact x) | (cases h;done) | simp [VRel]
 | .nilm,b,_,h,x=>by cases b<;>simp only [Leq] at h<;>first | exact x | (rw [← h];exact x) | (cases h;done) | simp [VRel]
 | .map ..,b,_,h,x=>by cases b<;>simp only [Leq] at h<;>first | exact x | (rw [← h];exact x) | (cases h;done) | simp [VRel]
 | .iter ..,b,_,h,x=>by cases b<;>simp only [Leq] at h<;>first | exact x | (rw [← h];exact x) | (cases h;done) | simp [VRel]
 | .nilf,b,_,h,x=>by cases b<;>simp only [Leq] at h<;>first | exact x | (rw [← h];exact x) | (cases h;done) | simp [VRel]
 | .rptr ..,.bool ..,_,h,x | .rptr ..,.int ..,_,h,x | .rptr ..,.str ..,_,h,x | .rptr ..,.nilp,_,h,x | .rptr ..,.ptr ..,_,h,x | .rptr ..,.sl ..,_,h,x | .rptr ..,.ms ..,_,h,x | .rptr ..,.nilm,_,h,x | .rptr ..,.map ..,_,h,x | .rptr ..,.iter ..,_,h,x | .rptr ..,.fn ..,_,h,x | .rptr ..,.nilf,_,h,x | .rptr ..,.agg ..,_,h,x | .rptr ..,.tup ..,_,h,x=>by simp [Leq] at h
 | .sl ..,.bool ..,_,h,x | .sl ..,.int ..,_,h,x | .sl ..,.str ..,_,h,x | .sl ..,.nilp,_,h,x | .sl ..,.ptr ..,_,h,x | .sl ..,.rptr ..,_,h,x | .sl ..,.ms ..,_,h,x | .sl ..,.nilm,_,h,x | .sl ..,.map ..,_,h,x | .sl ..,.iter ..,_,h,x | .sl ..,.fn ..,_,h,x | .sl ..,.nilf,_,h,x | .sl ..,.agg ..,_,h,x | .sl ..,.tup ..,_,h,x=>by simp [Leq] at h
 | .fn ..,.bool ..,_,h,x | .fn ..,.int ..,_,h,x | .fn ..,.str ..,_,h,x | .fn ..,.nilp,_,h,x | .fn ..,.ptr ..,_,h,x | .fn ..,.rptr ..,_,h,x | .fn ..,.ms ..,_,h,x | .fn ..,.nilm,_,h,x | .fn ..,.map ..,_,h,x | .fn ..,.iter ..,_,h,x | .fn ..,.sl ..,_,h,x | .fn ..,.nilf,_,h,x | .fn ..,.agg ..,_,h,x | .fn ..,.tup ..,_,h,x=>by simp [Leq] at h
 | .agg ..,.bool ..,_,h,x | .agg ..,.int ..,_,h,x | .agg ..,.str ..,_,h,x | .agg ..,.nilp,_,h,x | .agg ..,.ptr ..,_,h,x | .agg ..,.rptr ..,_,h,x | .agg ..,.ms ..,_,h,x | .agg ..,.nilm,_,h,x | .agg ..,.map ..,_,h,x | .agg ..,.iter ..,_,h,x | .agg ..,.sl ..,_,h,x | .agg ..,.nilf,_,h,x | .agg ..,.fn ..,_,h,x | .agg ..,.tup ..,_,h,x=>by simp [Leq] at h
 | .tup ..,.bool ..,_,h,x | .tup ..,.int ..,_,h,x | .tup ..,.str ..,_,h,x | .tup ..,.nilp,_,h,x | .tup ..,.ptr ..,_,h,x | .tup ..,.rptr ..,_,h,x | .tup ..,.ms ..,_,h,x | .tup ..,.nilm,_,h,x | .tup ..,.map ..,_,h,x | .tup ..,.iter ..,_,h,x | .tup ..,.sl ..,_,h,x | .tup ..,.nilf,_,h,x | .tup ..,.fn ..,_,h,x | .tup ..,.agg ..,_,h,x=>by simp [Leq] at h
theorem LeqL.rel {K:Kn}:∀ (l m:List AV) {vs:List Value},LeqL l m→VRels K l vs→VRels K m vs
 | [],[],_,_,x=>x
 | a::r,a'::r',_,h,x=>by
  simp only [VRels,LeqL] at h x ⊢
  obtain⟨v,vr,h1,h2,h3⟩:=x
  exact⟨v,vr,h1,Leq.rel a a' h.1 h2,LeqL.rel r r' h.2 h3⟩
 | [],_::_,_,h,_=>by simp [LeqL] at h
 | _::_,[],_,h,_=>by simp [LeqL] at h
theorem LeqC.rel {K:Kn}:∀ (l m:List AV) (B off:Nat),LeqC l m→CellsAt K B off l→CellsAt K B off m
 | [],[],_,_,_,_=>by simp [CellsAt]
 | _::_,[],_,_,_,_=>by simp [CellsAt]
 | a::r,a'::r',B,off,h,x=>by
  simp only [CellsAt,LeqC] at h x ⊢
  obtain⟨⟨v,h1,h2⟩,h3⟩:=x
  exact⟨⟨v,h1,Leq.rel a a' h.1 h2⟩,LeqC.rel r r' _ _ h.2 h3⟩
 | [],_::_,_,_,h,_=>by simp [LeqC] at h
theorem LeqLC.rel {K:Kn}:∀ (l m:List AV) (B off:Nat),LeqL l m→CellsAt K B off l→CellsAt K B off m
 | [],[],_,_,_,_=>by simp [CellsAt]
 | a::r,a'::r',B,off,h,x=>by
  simp only [CellsAt,LeqL] at h x ⊢
  obtain⟨⟨v,h1,h2⟩,h3⟩:=x
  exact⟨⟨v,h1,Leq.rel a a' h.1 h2⟩,LeqLC.rel r r' _ _ h.2 h3⟩
 | [],_::_,_,_,h,_=>by simp [LeqL] at h
 | _::_,[],_,_,h,_=>by simp [LeqL] at h
theorem LeqL.len:∀ (l m:List AV),LeqL l m→l.length=m.length
 | [],[],_=>rfl
 | a::r,a'::r',h=>by simp only [LeqL] at h;simp [LeqL.len r r' h.2]
 | [],_::_,h=>by simp [LeqL] at h
 | _::_,[],h=>by simp [LeqL] at h
theorem LeqR.len:∀ (l m:List (List AV)),LeqR l m→l.length=m.length
 | [],[],_=>rfl
 | a::r,a'::r',h=>by simp only [LeqR] at h;simp [LeqR.len r r' h.2]
 | [],_::_,h=>by simp [LeqR] at h
 | _::_,[],h=>by simp [LeqR] at h
theorem LeqR.rel {K:Kn}:∀ (l m:List (List AV)) (B off sz:Nat),LeqR l m→RowsAt K B off sz l→RowsAt K B off sz m
 | [],[],_,_,_,_,_=>by simp [RowsAt]
 | a::r,a'::r',B,off,sz,h,x=>by
  simp only [RowsAt,LeqR] at h x ⊢
  obtain⟨⟨h1,h0,h2⟩,h3⟩:=x
  rcases h.1 with rfl|⟨k1,k2⟩
  · exact⟨⟨h1,h0,h2⟩,LeqR.rel r r' _ _ _ h.2 h3⟩
  · exact⟨⟨by rw [← LeqL.len a a' k1];exact h1,k2,LeqLC.rel a a' _ _ k1 h2⟩,LeqR.rel r r' _ _ _ h.2 h3⟩
 | [],_::_,_,_,_,h,_=>by simp [LeqR] at h
 | _::_,[],_,_,_,h,_=>by simp [LeqR] at h
end
mutual
theorem Leq.refl:∀ a,Leq a a
 | .any=>by simp [Leq]
 | .rptr c=>by simp [Leq];exact LeqC.refl c
 | .sl sz rows tok=>by simp [Leq];exact .inr (LeqR.refl rows)
 | .fn f a b=>by simp [Leq];exact⟨LeqL.refl a,LeqL.refl b⟩
 | .agg c=>by simp [Leq];exact LeqL.refl c
 | .tup c=>by simp [Leq];exact LeqL.refl c
 | .bool _ | .int .. | .str _ | .nilp | .ptr .. | .ms .. | .nilm | .map _ | .iter _ | .nilf=>by simp [Leq]
theorem LeqL.refl:∀ l,LeqL l l
 | []=>by simp [LeqL]
 | a::r=>by simp [LeqL];exact⟨Leq.refl a,LeqL.refl r⟩
theorem LeqC.refl:∀ l,LeqC l l
 | []=>by simp [LeqC]
 | a::r=>by simp [LeqC];exact⟨Leq.refl a,LeqC.refl r⟩
theorem LeqR.refl:∀ l,LeqR l l
 | []=>by simp [LeqR]
 | a::r=>by simp [LeqR];exact LeqR.refl r
end
end Go.Abs
end
