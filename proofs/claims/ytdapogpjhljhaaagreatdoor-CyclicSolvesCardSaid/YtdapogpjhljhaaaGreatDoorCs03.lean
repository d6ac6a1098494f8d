import Derived.Test.YtdapogpjhljhaaaGreatDoorCs01
set_option linter.all false
set_option linter.defProp false
namespace Go.Abs
open Go Go.RowKit
mutual
def Leq:AV->AV->Prop
 |a,.any=>True
 |.rptr c,.rptr d=>WZ c d
 |.sl sz rows tok,.sl i g e=>(rows=[]/\g=[]/\e=.none)\/(sz=i/\ym rows g/\(e=.none\/e=tok))
 |.fn f a b,.fn f' h b'=>f=f'/\zl a h/\zl b b'
 |.agg c,.agg d=>zl c d
 |.tup c,.tup d=>zl c d
 |a,b=>a=b
def zl:List AV->List AV->Prop
 |[],[]=>True
 |a::r,b::r'=>Leq a b/\zl r r'
 |_,_=>False
def WZ:List AV->List AV->Prop
 |_,[]=>True
 |a::r,b::r'=>Leq a b/\WZ r r'
 |_,_=>False
def ym:List (List AV)->List (List AV)->Prop
 |[],[]=>True
 |a::r,b::r'=>(a=b\/(zl a b/\b.all AV.atom=true))/\ym r r'
 |_,_=>False
end
mutual
def Leq.rel{K}:∀(a b){v:Value},Leq a b->qi K a v->qi K b v
 |a,.any,_,_,_=>by simp[qi]
 | .rptr c,.rptr i,_,h,x=>by
  simp only[qi,Leq]at h x⊢;obtain⟨B,off,h1,h2⟩:=x;exact⟨B,off,h1,WZ.rel c i _ _ h h2⟩
 | .sl sz rows tok,.sl y l z,_,h,x=>by
  simp only[qi,Leq]at h x⊢;rcases h with⟨rfl,rfl,rfl⟩|⟨rfl,h2,g⟩
  . rcases x with x|⟨B,off,cap,h1,h2,g,A⟩
    . obtain⟨⟨o,d,_⟩,_⟩:=x;exact .inl ⟨⟨o,d,.inr rfl⟩,rfl,trivial⟩
    . exact .inr ⟨B,off,cap,h1,h2,g,trivial⟩
  have j:=ym.len rows l h2;rcases x with⟨d,e,m⟩|⟨B,off,cap,k1,w,k3,k4⟩
  . subst e
    cases l with
    |nil=>obtain⟨o,d,t⟩:=d;exact .inl ⟨⟨o,d,by rcases g with rfl|rfl;exact .inr rfl;exact t⟩,rfl,by rcases g with rfl|rfl;exact trivial;exact m⟩
    |cons _ _=>simp at j
  refine .inr ⟨B,off,cap,by rw[<- j];exact k1,by rw[<- j];exact w,ym.rel rows l _ _ _ h2 k3,?_⟩;rw[<- j];rcases g with rfl|rfl
  . exact trivial
  exact k4
 | .fn f a b,.fn f' s b',_,h,x=>by
  simp only[qi,Leq]at h x⊢;obtain⟨rfl,h1,h2⟩:=h;obtain⟨u,r,d,e,m⟩:=x;exact⟨u,r,d,zl.rel a s h1 e,zl.rel b b' h2 m⟩
 | .agg c,.agg i,_,h,x=>by
  simp only[qi,Leq]at h x⊢;obtain⟨vs,d,e⟩:=x;exact⟨vs,d,zl.rel c i h e⟩
 | .tup c,.tup i,_,h,x=>by
  simp only[qi,Leq]at h x⊢;obtain⟨vs,d,e⟩:=x;exact⟨vs,d,zl.rel c i h e⟩
 |.any,.bool ..,_,h,x|.any,.int ..,_,h,x|.any,.str ..,_,h,x|.any,.nilp,_,h,x|.any,.ptr ..,_,h,x|.any,.rptr ..,_,h,x|.any,.sl ..,_,h,x|.any,.ms ..,_,h,x|.any,.nilm,_,h,x|.any,.map ..,_,h,x|.any,.iter ..,_,h,x|.any,.fn ..,_,h,x|.any,.nilf,_,h,x|.any,.agg ..,_,h,x|.any,.tup ..,_,h,x=>by simp[Leq]at h
 |.bool _,b,_,h,x=>by cases b<;>simp only[Leq]at h<;>first|exact x|(rw[<- h];exact x)|(cases h;done)|simp[qi]
 |.int ..,b,_,h,x=>by cases b<;>simp only[Leq]at h<;>first|exact x|(rw[<- h];exact x)|(cases h;done)|simp[qi]
 |.str ..,b,_,h,x=>by cases b<;>simp only[Leq]at h<;>first|exact x|(rw[<- h];exact x)|(cases h;done)|simp[qi]
 |.nilp,b,_,h,x=>by cases b<;>simp only[Leq]at h<;>first|exact x|(rw[<- h];exact x)|(cases h;done)|simp[qi]
 |.ptr ..,b,_,h,x=>by cases b<;>simp only[Leq]at h<;>first|exact x|(rw[<- h];exact x)|(cases h;done)|simp[qi]
 |.ms ..,b,_,h,x=>by cases b<;>simp only[Leq]at h<;>first|exact x|(rw[<- h];exact x)|(cases h;done)|simp[qi]
 |.nilm,b,_,h,x=>by cases b<;>simp only[Leq]at h<;>first|exact x|(rw[<- h];exact x)|(cases h;done)|simp[qi]
 |.map ..,b,_,h,x=>by cases b<;>simp only[Leq]at h<;>first|exact x|(rw[<- h];exact x)|(cases h;done)|simp[qi]
 |.iter ..,b,_,h,x=>by cases b<;>simp only[Leq]at h<;>first|exact x|(rw[<- h];exact x)|(cases h;done)|simp[qi]
 |.nilf,b,_,h,x=>by cases b<;>simp only[Leq]at h<;>first|exact x|(rw[<- h];exact x)|(cases h;done)|simp[qi]
 |.rptr ..,.bool ..,_,h,x|.rptr ..,.int ..,_,h,x|.rptr ..,.str ..,_,h,x|.rptr ..,.nilp,_,h,x|.rptr ..,.ptr ..,_,h,x|.rptr ..,.sl ..,_,h,x|.rptr ..,.ms ..,_,h,x|.rptr ..,.nilm,_,h,x|.rptr ..,.map ..,_,h,x|.rptr ..,.iter ..,_,h,x|.rptr ..,.fn ..,_,h,x|.rptr ..,.nilf,_,h,x|.rptr ..,.agg ..,_,h,x|.rptr ..,.tup ..,_,h,x=>by simp[Leq]at h
 |.sl ..,.bool ..,_,h,x|.sl ..,.int ..,_,h,x|.sl ..,.str ..,_,h,x|.sl ..,.nilp,_,h,x|.sl ..,.ptr ..,_,h,x|.sl ..,.rptr ..,_,h,x|.sl ..,.ms ..,_,h,x|.sl ..,.nilm,_,h,x|.sl ..,.map ..,_,h,x|.sl ..,.iter ..,_,h,x|.sl ..,.fn ..,_,h,x|.sl ..,.nilf,_,h,x|.sl ..,.agg ..,_,h,x|.sl ..,.tup ..,_,h,x=>by simp[Leq]at h
 |.fn ..,.bool ..,_,h,x|.fn ..,.int ..,_,h,x|.fn ..,.str ..,_,h,x|.fn ..,.nilp,_,h,x|.fn ..,.ptr ..,_,h,x|.fn ..,.rptr ..,_,h,x|.fn ..,.ms ..,_,h,x|.fn ..,.nilm,_,h,x|.fn ..,.map ..,_,h,x|.fn ..,.iter ..,_,h,x|.fn ..,.sl ..,_,h,x|.fn ..,.nilf,_,h,x|.fn ..,.agg ..,_,h,x|.fn ..,.tup ..,_,h,x=>by simp[Leq]at h
 |.agg ..,.bool ..,_,h,x|.agg ..,.int ..,_,h,x|.agg ..,.str ..,_,h,x|.agg ..,.nilp,_,h,x|.agg ..,.ptr ..,_,h,x|.agg ..,.rptr ..,_,h,x|.agg ..,.ms ..,_,h,x|.agg ..,.nilm,_,h,x|.agg ..,.map ..,_,h,x|.agg ..,.iter ..,_,h,x|.agg ..,.sl ..,_,h,x|.agg ..,.nilf,_,h,x|.agg ..,.fn ..,_,h,x|.agg ..,.tup ..,_,h,x=>by simp[Leq]at h
 |.tup ..,.bool ..,_,h,x|.tup ..,.int ..,_,h,x|.tup ..,.str ..,_,h,x|.tup ..,.nilp,_,h,x|.tup ..,.ptr ..,_,h,x|.tup ..,.rptr ..,_,h,x|.tup ..,.ms ..,_,h,x|.tup ..,.nilm,_,h,x|.tup ..,.map ..,_,h,x|.tup ..,.iter ..,_,h,x|.tup ..,.sl ..,_,h,x|.tup ..,.nilf,_,h,x|.tup ..,.fn ..,_,h,x|.tup ..,.agg ..,_,h,x=>by simp[Leq]at h
def zl.rel{K}:∀(l m){vs:List Value},zl l m->qj K l vs->qj K m vs
 |[],[],_,_,x=>x
 | a::r,b::r',_,h,x=>by
  simp only[qj,zl]at h x⊢;obtain⟨v,c,h1,h2,d⟩:=x;exact⟨v,c,h1,Leq.rel a b h.1 h2,zl.rel r r' h.2 d⟩
 |[],_::_,_,h,_=>by simp[zl]at h
 |_::_,[],_,h,_=>by simp[zl]at h
def WZ.rel{K}:∀(l m) (B off),WZ l m->qq K B off l->qq K B off m
 |[],[],_,_,_,_=>by simp[qq]
 |_::_,[],_,_,_,_=>by simp[qq]
 | a::r,b::r',B,off,h,x=>by
  simp only[qq,WZ]at h x⊢;obtain⟨⟨v,h1,h2⟩,c⟩:=x;exact⟨⟨v,h1,Leq.rel a b h.1 h2⟩,WZ.rel r r' _ _ h.2 c⟩
 |[],_::_,_,_,h,_=>by simp[WZ]at h
def LeqLC.rel{K}:∀(l m) (B off),zl l m->qq K B off l->qq K B off m
 |[],[],_,_,_,_=>by simp[qq]
 | a::r,b::r',B,off,h,x=>by
  simp only[qq,zl]at h x⊢;obtain⟨⟨v,h1,h2⟩,c⟩:=x;exact⟨⟨v,h1,Leq.rel a b h.1 h2⟩,LeqLC.rel r r' _ _ h.2 c⟩
 |[],_::_,_,_,h,_=>by simp[zl]at h
 |_::_,[],_,_,h,_=>by simp[zl]at h
def zl.len:∀(l m),zl l m->l.length=m.length
 |[],[],_=>rfl
 |a::r,b::r',h=>by simp only[zl]at h;simp[zl.len r r' h.2]
 |[],_::_,h=>by simp[zl]at h
 |_::_,[],h=>by simp[zl]at h
def ym.len:∀(l m),ym l m->l.length=m.length
 |[],[],_=>rfl
 |a::r,b::r',h=>by simp only[ym]at h;simp[ym.len r r' h.2]
 |[],_::_,h=>by simp[ym]at h
 |_::_,[],h=>by simp[ym]at h
def ym.rel{K}:∀(l m) (B off sz),ym l m->qQ K B off sz l->qQ K B off sz m
 |[],[],_,_,_,_,_=>by simp[qQ]
 | a::r,b::r',B,off,sz,h,x=>by
  simp only[qQ,ym]at h x⊢;obtain⟨⟨h1,h0,h2⟩,c⟩:=x;rcases h.1 with rfl|⟨k1,d⟩
  . exact⟨⟨h1,h0,h2⟩,ym.rel r r' _ _ _ h.2 c⟩
  exact⟨⟨by rw[<- zl.len a b k1];exact h1,d,LeqLC.rel a b _ _ k1 h2⟩,ym.rel r r' _ _ _ h.2 c⟩
 |[],_::_,_,_,_,h,_=>by simp[ym]at h
 |_::_,[],_,_,_,h,_=>by simp[ym]at h
end
def qFM:=@Leq.rel
mutual
def Leq.refl:∀a,Leq a a
 |.any=>by simp[Leq]
 |.rptr c=>by simp[Leq];exact WZ.refl c
 |.sl sz rows tok=>by simp[Leq];exact .inr (ym.refl rows)
 |.fn f a b=>by simp[Leq];exact⟨zl.refl a,zl.refl b⟩
 |.agg c=>by simp[Leq];exact zl.refl c
 |.tup c=>by simp[Leq];exact zl.refl c
 |.bool _|.int ..|.str _|.nilp|.ptr ..|.ms ..|.nilm|.map _|.iter _|.nilf=>by simp[Leq]
def zl.refl:∀l,zl l l
 |[]=>by simp[zl]
 |a::r=>by simp[zl];exact⟨Leq.refl a,zl.refl r⟩
def WZ.refl:∀l,WZ l l
 |[]=>by simp[WZ]
 |a::r=>by simp[WZ];exact⟨Leq.refl a,WZ.refl r⟩
def ym.refl:∀l,ym l l
 |[]=>by simp[ym]
 |a::r=>by simp[ym];exact ym.refl r
end
def qFN:=@Leq.refl
def qFO:=@zl.refl
def qFP:=@ym.refl
