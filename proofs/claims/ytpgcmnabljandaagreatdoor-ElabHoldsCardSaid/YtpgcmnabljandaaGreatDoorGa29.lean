/- A part of the proof: Walk53 Walk53b Walk54 Walk55 AbsChain AbsAfter AbsOwn2 Walk79 AbsRange AbsLev. -/
import Derived.Test.YtpgcmnabljandaaGreatDoorGa18
import Derived.Test.YtpgcmnabljandaaGreatDoorGa27
import Derived.Test.YtpgcmnabljandaaGreatDoorGa28
import Derived.Test.YtpgcmnabljandaaGreatDoorGa19
import Derived.Test.YtpgcmnabljandaaGreatDoorGa12
import Derived.Test.YtpgcmnabljandaaGreatDoorGa15
set_option linter.unusedVariables false
set_option linter.unusedSimpArgs false
set_option maxRecDepth 100000
section
namespace Go.Proofs.YtpgcmnabljandaaGreatDoor
open Go Go.Abs
theorem repS_yes {α:Type} {nm:α→Str} {l:List α} {i k:Nat} {x y:α} (hx:l[i]?=some x) (hy:l[k]?=some y) (hk:k<i) (h:nm x=nm y):repS nm l=true:=by
 obtain⟨hi,_⟩:=List.getElem?_eq_some_iff.1 hx
 unfold repS
 rw [List.any_eq_true]
 refine⟨i,List.mem_range.2 hi,?_⟩
 unfold repAt
 rw [hx,List.any_eq_true]
 exact⟨y,List.mem_of_getElem? (by rw [List.getElem?_take,if_pos hk];exact hy),by simp [h]⟩
theorem repS_no {α:Type} {nm:α→Str} {l:List α} (h:∀ (i k:Nat) (x y:α),l[i]?=some x→l[k]?=some y→k<i→nm x≠nm y):repS nm l=false:=by
 unfold repS
 rw [List.any_eq_false]
 intro i hi
 unfold repAt
 obtain⟨x,hx⟩:∃ x,l[i]?=some x:=⟨_,List.getElem?_eq_getElem (List.mem_range.1 hi)⟩
 rw [hx]
 simp only [List.any_eq_true,not_exists,not_and]
 intro y hy
 obtain⟨k,hk⟩:=List.getElem?_of_mem hy
 rw [List.getElem?_take] at hk
 split at hk
 · rename_i hki
   have:=h i k x y hx hk hki
   simpa using this
 · cases hk
theorem name172 (x:Fld):Pure Tryz.prog GG 172 [.agg (encFld x)] (.str x.name):=by
 refine Pure.k mixed Tryz.func172 rfl (by kernel_rfl) ?_
 simp
theorem repeated171 (l:List Fld) (hl:Fits l):Pure Tryz.prog GG 171 [.sl 5 (l.map encFld) .none,.fn 172 [] []] (.bool (repS Fld.name l)):=by
 refine Pure.k mixed Tryz.func171 rfl (by kernel_rfl) ?_
 simp
 refine kLoop.count l.length (fun i ev σ=>ev 0=.sl 5 (l.map encFld) .none∧ev 1=.fn 172 [] []∧ev 8=.int .i64 l.length∧ev 9=.int .i64 i∧σ=⟨[],[]⟩∧∀ j k x y,j<i→l[j]?=some x→l[k]?=some y→k<j→x.name≠y.name) (by simp) ?_ ?_
 · rintro i ev σ hi ⟨h0,h1,h8,h9,rfl,hz⟩
   obtain⟨x,hx⟩:∃ x,l[i]?=some x:=⟨_,List.getElem?_eq_getElem hi⟩
   have hx':=(List.getElem?_eq_some_iff.1 hx).2
   simp [h0,h1,h8,h9,hi]
   refine kLoop.count i (fun k ev σ=>ev 0=.sl 5 (l.map encFld) .none∧ev 1=.fn 172 [] []∧ev 8=.int .i64 l.length∧ev 9=.int .i64 i∧ev 5=.int .i64 i∧ev 12=.int .i64 i∧ev 13=.int .i64 k∧σ=⟨[],[]⟩∧∀ m y,m<k→l[m]?=some y→x.name≠y.name) (by simp [h0,h1,h8,h9]) ?_ ?_
   · clear h0 h1 h8 h9
     rintro k ev σ hk ⟨h0,h1,h8,h9,h5,h12,h13,rfl,hzk⟩
     have hkl:k<l.length:=by omega
     obtain⟨y,hy⟩:∃ y,l[k]?=some y:=⟨_,List.getElem?_eq_getElem hkl⟩
     have hy':=(List.getElem?_eq_some_iff.1 hy).2
     simp [h0,h1,h5,h12,h13,hk,hi,hkl,hx',hy']
     refine kCall.call (name172 x) (by simp) ?_
     try simp [h0,h1,h5,h12,h13,hk,hi,hkl,hx',hy']
     refine kCall.call (name172 y) (by simp) ?_
     by_cases e:x.name=y.name
     · rw [repS_yes hx hy hk e]
       simp [e]
     · simp [e,h0,h1,h8,h9,h5,h12,h13]
       refine⟨wr (by omega) (by omega),fun m z hm hz'=>?_⟩
       rcases Nat.lt_succ_iff_lt_or_eq.1 hm with hm|rfl
       · exact hzk m z hm hz'
       · rw [hy] at hz';cases hz';exact e
   · clear h0 h1 h8 h9
     rintro ev σ ⟨h0,h1,h8,h9,h5,h12,h13,rfl,hzk⟩
     simp [h0,h1,h8,h9,h5,h12,h13]
     refine⟨wr (by omega) (by omega),fun j k a b hj ha hb hk=>?_⟩
     rcases Nat.lt_succ_iff_lt_or_eq.1 hj with hj|rfl
     · exact hz j k a b hj ha hb hk
     · rw [hx] at ha;cases ha;exact hzk k b hk hb
 · rintro ev σ ⟨h0,h1,h8,h9,rfl,hz⟩
   rw [repS_no (nm:=Fld.name) fun i k x y hx hy hk=>hz i k x y (List.getElem?_eq_some_iff.1 hx).1 hx hy hk]
   simp [h8,h9]
theorem name174 (x:Blc):Pure Tryz.prog GG 174 [.agg (encBlc x)] (.str x.name):=by
 refine Pure.k mixed Tryz.func174 rfl (by kernel_rfl) ?_
 simp
theorem repeated173 (l:List Blc) (hl:Fits l):Pure Tryz.prog GG 173 [.sl 2 (l.map encBlc) .none,.fn 174 [] []] (.bool (repS Blc.name l)):=by
 refine Pure.k mixed Tryz.func173 rfl (by kernel_rfl) ?_
 simp
 refine kLoop.count l.length (fun i ev σ=>ev 0=.sl 2 (l.map encBlc) .none∧ev 1=.fn 174 [] []∧ev 8=.int .i64 l.length∧ev 9=.int .i64 i∧σ=⟨[],[]⟩∧∀ j k x y,j<i→l[j]?=some x→l[k]?=some y→k<j→x.name≠y.name) (by simp) ?_ ?_
 · rintro i ev σ hi ⟨h0,h1,h8,h9,rfl,hz⟩
   obtain⟨x,hx⟩:∃ x,l[i]?=some x:=⟨_,List.getElem?_eq_getElem hi⟩
   have hx':=(List.getElem?_eq_some_iff.1 hx).2
   simp [h0,h1,h8,h9,hi]
   refine kLoop.count i (fun k ev σ=>ev 0=.sl 2 (l.map encBlc) .none∧ev 1=.fn 174 [] []∧ev 8=.int .i64 l.length∧ev 9=.int .i64 i∧ev 5=.int .i64 i∧ev 12=.int .i64 i∧ev 13=.int .i64 k∧σ=⟨[],[]⟩∧∀ m y,m<k→l[m]?=some y→x.name≠y.name) (by simp [h0,h1,h8,h9]) ?_ ?_
   · clear h0 h1 h8 h9
     rintro k ev σ hk ⟨h0,h1,h8,h9,h5,h12,h13,rfl,hzk⟩
     have hkl:k<l.length:=by omega
     obtain⟨y,hy⟩:∃ y,l[k]?=some y:=⟨_,List.getElem?_eq_getElem hkl⟩
     have hy':=(List.getElem?_eq_some_iff.1 hy).2
     simp [h0,h1,h5,h12,h13,hk,hi,hkl,hx',hy']
     refine kCall.call (name174 x) (by simp) ?_
     try simp [h0,h1,h5,h12,h13,hk,hi,hkl,hx',hy']
     refine kCall.call (name174 y) (by simp) ?_
     by_cases e:x.name=y.name
     · rw [repS_yes hx hy hk e]
       simp [e]
     · simp [e,h0,h1,h8,h9,h5,h12,h13]
       refine⟨wr (by omega) (by omega),fun m z hm hz'=>?_⟩
       rcases Nat.lt_succ_iff_lt_or_eq.1 hm with hm|rfl
       · exact hzk m z hm hz'
       · rw [hy] at hz';cases hz';exact e
   · clear h0 h1 h8 h9
     rintro ev σ ⟨h0,h1,h8,h9,h5,h12,h13,rfl,hzk⟩
     simp [h0,h1,h8,h9,h5,h12,h13]
     refine⟨wr (by omega) (by omega),fun j k a b hj ha hb hk=>?_⟩
     rcases Nat.lt_succ_iff_lt_or_eq.1 hj with hj|rfl
     · exact hz j k a b hj ha hb hk
     · rw [hx] at ha;cases ha;exact hzk k b hk hb
 · rintro ev σ ⟨h0,h1,h8,h9,rfl,hz⟩
   rw [repS_no (nm:=Blc.name) fun i k x y hx hy hk=>hz i k x y (List.getElem?_eq_some_iff.1 hx).1 hx hy hk]
   simp [h8,h9]
theorem name259 (x:Cls):Pure Tryz.prog GG 259 [.agg (encCls x)] (.str x.name):=by
 refine Pure.k mixed Tryz.func259 rfl (by kernel_rfl) ?_
 simp
theorem repeated258 (l:List Cls) (hl:Fits l):Pure Tryz.prog GG 258 [.sl 4 (l.map encCls) .none,.fn 259 [] []] (.bool (repS Cls.name l)):=by
 refine Pure.k mixed Tryz.func258 rfl (by kernel_rfl) ?_
 simp
 refine kLoop.count l.length (fun i ev σ=>ev 0=.sl 4 (l.map encCls) .none∧ev 1=.fn 259 [] []∧ev 8=.int .i64 l.length∧ev 9=.int .i64 i∧σ=⟨[],[]⟩∧∀ j k x y,j<i→l[j]?=some x→l[k]?=some y→k<j→x.name≠y.name) (by simp) ?_ ?_
 · rintro i ev σ hi ⟨h0,h1,h8,h9,rfl,hz⟩
   obtain⟨x,hx⟩:∃ x,l[i]?=some x:=⟨_,List.getElem?_eq_getElem hi⟩
   have hx':=(List.getElem?_eq_some_iff.1 hx).2
   simp [h0,h1,h8,h9,hi]
   refine kLoop.count i (fun k ev σ=>ev 0=.sl 4 (l.map encCls) .none∧ev 1=.fn 259 [] []∧ev 8=.int .i64 l.length∧ev 9=.int .i64 i∧ev 5=.int .i64 i∧ev 12=.int .i64 i∧ev 13=.int .i64 k∧σ=⟨[],[]⟩∧∀ m y,m<k→l[m]?=some y→x.name≠y.name) (by simp [h0,h1,h8,h9]) ?_ ?_
   · clear h0 h1 h8 h9
     rintro k ev σ hk ⟨h0,h1,h8,h9,h5,h12,h13,rfl,hzk⟩
     have hkl:k<l.length:=by omega
     obtain⟨y,hy⟩:∃ y,l[k]?=some y:=⟨_,List.getElem?_eq_getElem hkl⟩
     have hy':=(List.getElem?_eq_some_iff.1 hy).2
     simp [h0,h1,h5,h12,h13,hk,hi,hkl,hx',hy']
     refine kCall.call (name259 x) (by simp) ?_
     try simp [h0,h1,h5,h12,h13,hk,hi,hkl,hx',hy']
     refine kCall.call (name259 y) (by simp) ?_
     by_cases e:x.name=y.name
     · rw [repS_yes hx hy hk e]
       simp [e]
     · simp [e,h0,h1,h8,h9,h5,h12,h13]
       refine⟨wr (by omega) (by omega),fun m z hm hz'=>?_⟩
       rcases Nat.lt_succ_iff_lt_or_eq.1 hm with hm|rfl
       · exact hzk m z hm hz'
       · rw [hy] at hz';cases hz';exact e
   · clear h0 h1 h8 h9
     rintro ev σ ⟨h0,h1,h8,h9,h5,h12,h13,rfl,hzk⟩
     simp [h0,h1,h8,h9,h5,h12,h13]
     refine⟨wr (by omega) (by omega),fun j k a b hj ha hb hk=>?_⟩
     rcases Nat.lt_succ_iff_lt_or_eq.1 hj with hj|rfl
     · exact hz j k a b hj ha hb hk
     · rw [hx] at ha;cases ha;exact hzk k b hk hb
 · rintro ev σ ⟨h0,h1,h8,h9,rfl,hz⟩
   rw [repS_no (nm:=Cls.name) fun i k x y hx hy hk=>hz i k x y (List.getElem?_eq_some_iff.1 hx).1 hx hy hk]
   simp [h8,h9]
theorem pow2_8 {n:Nat} (h:n≤8):(2:Int) ^ n≤256∧(0:Int)<2 ^ n:=by
 have:n=0∨n=1∨n=2∨n=3∨n=4∨n=5∨n=6∨n=7∨n=8:=by omega
 rcases this with h|h|h|h|h|h|h|h|h<;>subst h<;>decide
set_option maxHeartbeats 8000000 in
theorem validField169 (f:Fld):Pure Tryz.prog GG 169 [.agg (encFld f)] (.int .i64 (fieldE f)):=by
 refine Pure.k mixed Tryz.func169 rfl (by kernel_rfl) ?_
 simp
 refine kCall.call (isName168 f.name) rfl ?_
 have hr:fieldE f=if nameS f.name=false then 7 else if f.width<1∨8<f.width∨f.size<0∨8<f.size then 1 else if f.mode≠0∧f.mode≠1∧f.mode≠2 then 1 else if f.size≠0∧f.mode=2 then 1 else if f.init<0∨topF f<f.init then 1 else 0:=rfl
 have ht:topF f=if f.mode=0 then 2 ^ f.width.toNat-1 else 0:=rfl
 generalize fieldE f=r at hr
 generalize topF f=t at hr ht
 cases hn:nameS f.name
 · rw [if_pos hn] at hr
   subst hr
   simp
 rw [if_neg (by rw [hn];decide)] at hr
 by_cases hw:1≤f.width∧f.width≤8
 · have hs:IntKind.i64.wrap (2 ^ min f.width.toNat IntKind.i64.bits)=2 ^ f.width.toNat:=shl1 (by omega) (by omega)
   have hw0:¬ f.width<0:=by omega
   have w1:¬ f.width<1:=by omega
   have w8:¬ 8<f.width:=by omega
   have hp:=pow2_8 (n:=f.width.toNat) (by omega)
   have hs2:IntKind.i64.wrap (2 ^ f.width.toNat-1)=2 ^ f.width.toNat-1:=wr (by omega) (by omega)
   simp [hs,hw0,w1,w8,hs2]
   repeat' first | (refine And.intro ?_ ?_) | (intro _)
   all_goals grind
 · by_cases w1:f.width<1
   · rw [if_pos (.inl w1)] at hr
     subst hr
     simp [w1]
   · have w8:8<f.width:=by omega
     rw [if_pos (.inr (.inl w8))] at hr
     subst hr
     simp [w1,w8]
theorem unnamed170 (b:Blc):Pure Tryz.prog GG 170 [.agg (encBlc b)] (.bool (!nameS b.name)):=by
 refine Pure.k mixed Tryz.func170 rfl (by kernel_rfl) ?_
 simp
 refine kCall.call (isName168 b.name) (by simp) ?_
 simp
theorem firstE_at {α:Type} {f:α→Int} {d r:List α} {v:α} (hz:∀ x∈d,f x=0) (hv:f v≠0):firstE f (d++v::r)=f v:=by
 rw [firstE_append,if_pos (firstE_zero.2 hz),firstE,if_neg hv]
theorem hz_snoc {α:Type} {q:α→Prop} {d:List α} {v:α} (hz:∀ x∈d,q x) (hv:q v):∀ x∈d++[v],q x:=fun x hx=>by
 rcases List.mem_append.1 hx with h|h
 · exact hz x h
 · simp at h;rw [h];exact hv
theorem hz_or {α:Type} {q:α→Prop} {d:List α} {v:α} (hz:∀ x∈d,q x) (hv:q v):∀ x,x∈d∨x=v→q x:=fun x hx=>by
 rcases hx with h|rfl
 · exact hz x h
 · exact hv
set_option maxHeartbeats 8000000 in
theorem valid99 (c:Cls) (hf:Fits c.fields) (hb:Fits c.blocks):Pure Tryz.prog GG 99 [.agg (encCls c)] (.int .i64 (clsE c)):=by
 refine Pure.k mixed Tryz.func99 rfl (by kernel_rfl) ?_
 have hr:clsE c=if nameS c.name=false∨(c.parent≠[]∧nameS c.parent=false) then 7 else if 16<c.fields.length∨16<c.blocks.length then 2
  else if firstE fieldE c.fields≠0 then firstE fieldE c.fields else if c.blocks.any (fun b=>!nameS b.name)=true then 7 else if repS Fld.name c.fields=true∨repS Blc.name c.blocks=true then 8 else 0:=rfl
 generalize clsE c=r at hr
 simp
 refine kCall.call (isName168 c.name) (by simp) ?_
 cases hn:nameS c.name
 · rw [if_pos (.inl hn)] at hr
   subst hr
   simp
 simp
 refine⟨fun hp=>?a,fun hp=>?b⟩
 case' b=>rw [if_neg (by simp [hn,hp])] at hr
 case' a=>
  refine kCall.call (isName168 c.parent) (by simp) ?_
  cases hn2:nameS c.parent
  · rw [if_pos (.inr ⟨hp,hn2⟩)] at hr
    subst hr
    simp
  rw [if_neg (by simp [hn,hn2])] at hr
  simp
 all_goals
  repeat' first | (refine And.intro ?_ ?_) | (intro _)
 all_goals try (rw [if_pos (by omega)] at hr;exact hr.symm)
 all_goals
  rw [if_neg (by omega)] at hr
  refine kLoop.list c.fields (fun d ev σ=>ev 1=.ptr 0 0∧ev 34=.sl 5 (c.fields.map encFld) .none∧ev 35=.int .i64 c.fields.length∧ev 36=.int .i64 d.length∧(∃ t,σ=⟨.cells (encCls c)::t,[]⟩)∧∀ f∈d,fieldE f=0) (by simp) ?_ ?_
  · rintro d v l ev σ hd hv hlt ⟨h1,h34,h35,h36,⟨t,rfl⟩,hz⟩
    have hv':=(List.getElem?_eq_some_iff.1 hv).2
    simp [h1,h34,h35,h36,hlt,hv']
    refine kCall.call (validField169 v) (by simp) ?_
    by_cases hf0:fieldE v=0
    · simp [hf0,h1,h34,h35,h36]
      exact⟨wr (by omega) (by omega),hz_or hz hf0⟩
    · have e:firstE fieldE c.fields=fieldE v:=by rw [hd];exact firstE_at hz hf0
      rw [e,if_pos hf0] at hr
      subst hr
      simp [hf0]
  · rintro ev σ ⟨h1,h34,h35,h36,⟨t,rfl⟩,hz⟩
    rw [if_neg (by rw [firstE_zero.2 hz];simp)] at hr
    simp [h1,h34,h35,h36]
    refine kCall.call (containsFuncBlc GG c.blocks (fun b=>!nameS b.name) 170 [] [] hb rfl rfl fun b _=>by simpa using unnamed170 b) (by simp) ?_
    cases hb0:c.blocks.any (fun b=>!nameS b.name)
    · rw [if_neg (by rw [hb0];simp)] at hr
      simp [h1]
      refine kCall.call (repeated171 c.fields hf) (by simp) ?_
      cases hr1:repS Fld.name c.fields
      · simp [h1]
        refine kCall.call (repeated173 c.blocks hb) (by simp) ?_
        cases hr2:repS Blc.name c.blocks
        · rw [if_neg (by simp [hr1,hr2])] at hr
          subst hr
          simp
        · rw [if_pos (.inr hr2)] at hr
          subst hr
          simp
      · rw [if_pos (.inl hr1)] at hr
        subst hr
        simp
    · rw [if_pos hb0] at hr
      subst hr
      simp
theorem find_at {α:Type} {p:α→Bool} {d r:List α} {v:α} (hz:∀ x∈d,p x=false) (hv:p v=true):(d++v::r).find? p=some v:=by
 rw [List.find?_append,List.find?_eq_none.2 fun x hx=>by rw [hz x hx];simp]
 simp [hv]
theorem find_not {α:Type} {p:α→Bool} {d:List α} (hz:∀ x∈d,p x=false):d.find? p=none:=List.find?_eq_none.2 fun x hx=>by rw [hz x hx];simp
@[simp] theorem zCls_name:zCls.name=[]:=rfl
@[simp] theorem zCls_parent:zCls.parent=[]:=rfl
@[simp] theorem zCls_fields:zCls.fields=[]:=rfl
@[simp] theorem zCls_blocks:zCls.blocks=[]:=rfl
@[simp] theorem encCls_zCls:encCls zCls=[.str [],.str [],.sl 5 [] .none,.sl 2 [] .none]:=rfl
theorem find119 (src:List Cls) (hl:Fits src) (name:Str):Pure Tryz.prog GG 119 [.sl 4 (src.map encCls) .none,.str name] (.tup [.agg (encCls (findD src name)),.bool (findC src name).isSome]):=by
 refine Pure.k mixed Tryz.func119 rfl (by kernel_rfl) ?_
 simp
 refine kLoop.list src (fun d ev σ=>ev 1=.str name∧ev 4=.ptr 0 0∧ev 8=.sl 4 (src.map encCls) .none∧ev 9=.int .i64 src.length∧ev 10=.int .i64 d.length∧(∃ t,σ=⟨.cells [.str [],.str [],.sl 0 [] .nil,.sl 0 [] .nil]::t,[]⟩)∧∀ x∈d,¬ x.name=name) (by simp) ?_ ?_
 · rintro d v r ev σ hd hv hlt ⟨h1,h4,h8,h9,h10,⟨t,rfl⟩,hz⟩
   have hv':=(List.getElem?_eq_some_iff.1 hv).2
   simp [h1,h4,h8,h9,h10,hlt,hv']
   by_cases hn:v.name=name
   · have e:findC src name=some v:=by rw [hd];exact find_at (fun x hx=>by simpa using hz x hx) (by simp [hn])
     simp [hn,h1,h4,findD,e]
   · simp [hn,h1,h4,h8,h9,h10]
     exact⟨wr (by omega) (by omega),hz_or hz hn⟩
 · rintro ev σ ⟨h1,h4,h8,h9,h10,⟨t,rfl⟩,hz⟩
   have e:findC src name=none:=find_not fun x hx=>by simpa using hz x hx
   simp [h4,h9,h10,findD,e]
def outA1 {α:Type} (sz:Nat) (en:α→List AV) (pre:List α) (c:α):AV:=match pre with
 | []=>.sl sz [en c] .tight
 | a::r=>.sl sz ((a::r++[c]).map en) (.chain 0 (r.length+1))
def outA1T {α:Type} (pre:List α):List (Option Nat):=match pre with
 | []=>[]
 | _::r=>[some (r.length+1)]
set_option maxHeartbeats 4000000 in
theorem ancestry120 (src:List Cls) (hl:src.length≤1000) (c0:Cls):Pure Tryz.prog GG 120 [.sl 4 (src.map encCls) .none,.agg (encCls c0)] (.tup [.sl 4 ((lineD src c0).map encCls) .none,.bool (ancS src src.length c0).isSome]):=by
 refine Pure.k mixed Tryz.func120 rfl (by kernel_rfl) ?_
 simp
 refine kLoop.gen (fun n ev σ=>∃ pre c,pre.length≤src.length∧n=src.length-pre.length∧ev 0=.sl 4 (src.map encCls) .none∧ev 3=.ptr 0 0∧ev 6=outA1 4 encCls pre c∧(∃ t,σ=⟨.cells (encCls c)::t,outA1T pre⟩)∧ancS src src.length c0=(ancS src n c).map (pre++·)) src.length ?_ ?_
 · exact⟨[],c0,by simp,by simp,by simp,by simp,by simp [outA1],⟨[],by simp [outA1T]⟩,by simp⟩
 rintro n ev σ R hR ⟨pre,c,hp,rfl,h0,h3,h6,⟨t,rfl⟩,ha⟩
 by_cases hc:c.parent=[]
 · have e:ancS src src.length c0=some (pre++[c]):=by
    rw [ha]
    cases src.length-pre.length<;>simp [ancS,hc]
   have e2:lineD src c0=pre++[c]:=by unfold lineD;rw [e];rfl
   rw [e,e2]
   cases pre with
   | nil=>simp only [outA1] at h6;simp [h3,hc,h6]
   | cons a r=>simp only [outA1] at h6;simp [h3,hc,h6,noRefss_append]
 · by_cases hs:pre.length=src.length
   · have e:ancS src src.length c0=none:=by rw [ha,hs,Nat.sub_self];simp [ancS,hc]
     have e2:lineD src c0=[]:=by unfold lineD;rw [e];rfl
     rw [e,e2]
     cases pre with
     | nil=>
      have hs0:src=[]:=List.length_eq_zero_iff.1 (by simpa using hs.symm)
      subst hs0
      simp only [outA1] at h6;simp [h0,h3,hc,h6]
     | cons a r=>
      have hs':src.length=r.length+1:=by simpa using hs.symm
      have hg:(r.length:Int)+1<r.length+1+1:=by omega
      simp only [outA1] at h6;simp [h0,h3,hc,h6,hs',hg]
   · obtain⟨f,hf⟩:∃ f,src.length-pre.length=f+1:=⟨src.length-pre.length-1,by omega⟩
     have ha':ancS src src.length c0=(ancS src f (findD src c.parent)).map ((pre++[c])++·):=by
      rw [ha,hf,ancS,if_neg hc,Option.map_map];congr 1;funext x;simp
     have hfind:=find119 src (by omega) c.parent
     have hR:=hR f
     cases pre with
     | nil=>
      have hg:¬ (src.length:Int)<1:=by simp at hs;omega
      simp only [outA1] at h6;simp [h0,h3,hc,h6,hg]
      refine kCall.call hfind (by simp) ?_
      simp [h0,h3,h6,appendA]
      refine hR _ _ (by omega) ⟨[c],findD src c.parent,?pa,?pb,?pc,?pd,?pe,⟨?w,?pf⟩,ha'⟩
      case pf=>simp [outA1T];try rfl
      case pa=>simp at hp hs ⊢;omega
      case pb=>simp at hf ⊢;omega
      case pc=>simp [h0]
      case pd=>simp [h3]
      case pe=>simp [outA1,outA1T]
     | cons a r=>
      have hg:¬ (src.length:Int)<(r.length:Int)+1+1:=by simp at hp hs;omega
      have hb:r.length+1+1+1≤1073741824:=by simp at hp;omega
      simp only [outA1] at h6;simp [h0,h3,hc,h6,hg]
      refine kCall.call hfind (by simp) ?_
      simp [h0,h3,h6,appendA,outA1T,hb]
      refine hR _ _ (by omega) ⟨a::r++[c],findD src c.parent,?pa,?pb,?pc,?pd,?pe,⟨?w,?pf⟩,ha'⟩
      case pf=>simp [outA1T];try rfl
      case pa=>simp at hp hs ⊢;omega
      case pb=>simp at hf ⊢;omega
      case pc=>simp [h0]
      case pd=>simp [h3]
      case pe=>simp [outA1,outA1T]
end Go.Proofs.YtpgcmnabljandaaGreatDoor
end
section
namespace Go.Abs
open Go Go.RowKit
section
def OutAt {α:Type} (n sz:Nat) (en:α→List AV) (T:List (Option Nat)) (v:AV) (l:List α):Prop :=
 (l=[]∧v=.sl 0 [] .nil)∨(l≠[]∧∃ t,n≤t∧v=.sl sz (l.map en) (.chain t l.length)∧T[t]?=some (some l.length))
section
variable {α:Type} {n sz:Nat} {en:α→List AV} {T T':List (Option Nat)} {v:AV} {l m:List α}
theorem OutAt.nil:OutAt n sz en T (.sl 0 [] .nil) ([]:List α):=.inl ⟨rfl,rfl⟩
theorem OutAt.ext (h:OutAt n sz en T v l) (hT:T <+: T'):OutAt n sz en T' v l:=by
 rcases h with h|⟨h1,t,h2,h3,h4⟩
 · exact .inl h
 · obtain⟨u,rfl⟩:=hT
   exact .inr ⟨h1,t,h2,h3,by rw [List.getElem?_append_left (List.getElem?_eq_some_iff.1 h4).1,h4]⟩
theorem OutAt.acells (h:OutAt n sz en T v l):acells v=some [v]:=by
 rcases h with ⟨_,rfl⟩|⟨_,t,_,rfl,_⟩<;>rfl
theorem OutAt.atom (h:OutAt n sz en T v l):AV.atom v=true:=by
 rcases h with ⟨_,rfl⟩|⟨_,t,_,rfl,_⟩<;>rfl
theorem OutAt.leq (h:OutAt n sz en T v l):Leq v (.sl sz (l.map en) .none):=by
 rcases h with ⟨rfl,rfl⟩|⟨_,t,_,rfl,_⟩
 · exact Leq.slnil
 · exact Leq.sl rfl
theorem prefix_set {T0 T:List (Option Nat)} (h:T0 <+: T) {t:Nat} (ht:T0.length≤t) (x:Option Nat):T0 <+: T.set t x:=by
 obtain⟨u,rfl⟩:=h
 rw [List.set_append_right _ _ ht]
 exact⟨_,rfl⟩
theorem OutAt.append {T0:List (Option Nat)} {D:Nat→Option TI} {ty e:Nat} {i j:TI} {tok:Tok} (h:OutAt T0.length sz en T v l) (hT:T0 <+: T) (hi:D ty=some i) (hd:i.d=.sl e) (hj:D e=some j) (hsz:j.size=sz) (h0:0<sz) (hz:j.zero.length=sz) (hb:j.bytes≤65536)
 (hlen:l.length+m.length≤1073741824) (sz2:Nat) (h2:sz2=sz∨m=[]) :
 ∃ v' T',(∀ H,appendA D ⟨H,T⟩ ty v (.sl sz2 (m.map en) tok)=some (v',⟨H,T'⟩))∧OutAt T0.length sz en T' v' (l++m)∧T0 <+: T':=by
 subst hsz
 by_cases hm:m=[]
 · subst hm
   rw [List.append_nil]
   refine⟨v,T,fun H=>?_,h,hT⟩
   rcases h with ⟨rfl,rfl⟩|⟨hne,t,_,rfl,_⟩
   · simp [appendA,hi,hd,hj,h0,hz,hb,rowsOf]
   · have:l.length≤1073741824:=by simpa using hlen
     simp [appendA,hi,hd,hj,h0,hz,hb,rowsOf,this]
 · have h2:sz2=j.size:=h2.resolve_right hm
   subst h2
   have hml:m.length≠0:=fun h=>hm (List.length_eq_zero_iff.1 h)
   rcases h with ⟨rfl,rfl⟩|⟨hne,t,ht,rfl,hk⟩
   · have:m.length≤1073741824:=by simpa using hlen
     refine⟨.sl j.size (m.map en) (.chain T.length m.length),T++[some m.length],fun H=>?_,.inr ⟨by simpa using hm,T.length,?_,by simp,by simp⟩,hT.trans (List.prefix_append _ _)⟩
     · simp [appendA,hi,hd,hj,h0,hz,hb,rowsOf,this,hm]
     · obtain⟨u,rfl⟩:=hT;simp
   · refine⟨.sl j.size ((l++m).map en) (.chain t (l.length+m.length)),T.set t (some (l.length+m.length)),fun H=>?_,.inr ⟨by simp [hne],t,ht,by simp,?_⟩,prefix_set hT ht _⟩
     · simp [appendA,hi,hd,hj,h0,hz,hb,rowsOf,hlen,hm,hk]
     · rw [List.getElem?_set_self (List.getElem?_eq_some_iff.1 hk).1]
       simp
end
theorem frz_slm {α:Type} {sz:Nat} {en:α→List AV} (hn:∀ x,noRefs (en x)=true) (ha:∀ x,(en x).all AV.atom=true) (H:List Blk) (k:Nat) (l:List α) (tok:Tok):Leq (Abs.frz H (k+1) (.sl sz (l.map en) tok)) (.sl sz (l.map en) .none):=by
 have hr:=frz_rows (H:=H) hn (n:=k) l
 have hall:((l.map en).map (·.map (Abs.frz H k))).all (·.all AV.atom)=true:=by
  rw [hr,List.all_map,List.all_eq_true]
  intro x _
  exact ha x
 by_cases hno:Abs.noRef (.sl sz (l.map en) tok)=true
 · rw [frz_noRef hno];exact Leq.sl rfl
 · rw [Abs.frz,if_neg hno]
   simp only [if_pos hall]
   rw [hr]
   exact Leq.refl _
theorem frz_slm2 {α:Type} {sz sz':Nat} {en:α→List AV} (hn:∀ x,noRefs (en x)=true) (ha:∀ x,(en x).all AV.atom=true) (H:List Blk) (k:Nat) (l:List α) (tok:Tok) (h:sz=sz'∨l=[]):Leq (Abs.frz H (k+1) (.sl sz (l.map en) tok)) (.sl sz' (l.map en) .none):=by
 rcases h with rfl|rfl
 · exact frz_slm hn ha H k l tok
 · by_cases hno:Abs.noRef (.sl sz [] tok)=true
   · rw [List.map_nil,frz_noRef hno];exact Leq.slnil
   · rw [List.map_nil,Abs.frz,if_neg hno]
     exact Leq.slnil
theorem OutAt.frz {α:Type} {n sz:Nat} {en:α→List AV} {T:List (Option Nat)} {v:AV} {l:List α} (h:OutAt n sz en T v l) (hn:∀ x,noRefs (en x)=true) (ha:∀ x,(en x).all AV.atom=true) (H:List Blk) (k:Nat):Abs.noRef (Abs.frz H (k+1) v)=true∧Leq (Abs.frz H (k+1) v) (.sl sz (l.map en) .none):=by
 rcases h with ⟨rfl,rfl⟩|⟨_,t,_,rfl,_⟩
 · rw [frz_noRef (by simp)];simp
 · have hr:=frz_rows (H:=H) hn (n:=k) l
   have hall:((l.map en).map (·.map (Abs.frz H k))).all (·.all AV.atom)=true:=by
    rw [hr,List.all_map,List.all_eq_true]
    intro x _
    exact ha x
   by_cases hno:Abs.noRef (.sl sz (l.map en) (.chain t l.length))=true
   · rw [frz_noRef hno];exact⟨hno,Leq.sl rfl⟩
   · rw [Abs.frz,if_neg hno]
     simp only [if_pos hall]
     rw [hr]
     exact⟨by simpa using noRefss_map hn l,Leq.refl _⟩
section
variable {P:Program} {G:Nat→AV} {f:FuncId} {args:List AV} {σ:St} {Q:AV→St→Prop}
theorem ACall.up (h:ACall P G f args σ (fun r τ=>∃ w,Leq r w∧Q w τ)):ACall P G f args σ Q :=
 ⟨h.1,fun w0 ro0 K w vs hw hvs=>(h.2 w0 ro0 K w vs hw hvs).mono fun e w' ⟨v',v,σ',K',h1,h2,h3,h4,u,h5,h6⟩=>⟨v',u,σ',K',h1,h2,h3,Leq.rel _ _ h5 h4,h6⟩⟩
end
end
end Go.Abs
end
section
namespace Go.Proofs.YtpgcmnabljandaaGreatDoor
open Go Go.Abs
def succs (E:List (Int×Int)) (i:Int):List Int:=(E.filter fun e=>e.1==i).map (·.2)
structure Rec where
 key:Int
 tok:Nat
 stamp:Nat
def recE (E:List (Int×Int)) (r:Rec):AV×AV×Nat:=(.int .i64 r.key,.sl 1 ((succs E r.key).map encInt) (.chain r.tok (succs E r.key).length),r.stamp)
structure AfterOk (T:List (Option Nat)) (n:Nat) (E:List (Int×Int)) (R:List Rec) (clk:Nat):Prop where
 keys:(R.map Rec.key).Nodup
 toks:(R.map Rec.tok).Nodup
 stamps:(R.map Rec.stamp).Nodup
 lt:∀ r∈R,r.stamp<clk
 cover:∀ i,succs E i≠[]↔i∈R.map Rec.key
 tok:∀ r∈R,n≤r.tok∧T[r.tok]?=some (some (succs E r.key).length)
theorem AfterOk.nil {T:List (Option Nat)} {n clk:Nat}:AfterOk T n [] [] clk:=⟨by simp,by simp,by simp,by simp,by simp [succs],by simp⟩
theorem succs_snoc (E:List (Int×Int)) (i k j:Int):succs (E++[(i,k)]) j=if i=j then succs E j++[k] else succs E j:=by
 unfold succs
 rw [List.filter_append]
 by_cases h:i=j
 · simp [h]
 · have:(i==j)=false:=by simpa using h
   simp [h,this]
theorem find_none {E:List (Int×Int)} {i:Int}:∀ (R:List Rec) (s:Nat),(∀ r∈R,r.key≠i)→findA (.int .i64 i) (R.map (recE E)) s=some none
 | [],s,_=>rfl
 | r::l,s,h=>by
  have h0:(i==r.key)=false:=by have:=h r (by simp);simpa using fun e:i=r.key=>this e.symm
  have ih:=find_none (E:=E) l (s+1) fun x hx=>h x (by simp [hx])
  simp only [List.map_cons,recE,findA,keyEq,if_true,h0]
  exact ih
theorem find_some {E:List (Int×Int)} {i:Int}:∀ (R:List Rec) (s:Nat),(R.map Rec.key).Nodup→∀ r∈R,r.key=i→∃ j,findA (.int .i64 i) (R.map (recE E)) s=some (some (s+j,(recE E r).2.1))∧R[j]?=some r
 | [],s,_,r,h,_=>by cases h
 | a::l,s,hn,r,h,e=>by
  simp only [List.map_cons,List.nodup_cons] at hn
  rcases List.mem_cons.1 h with rfl|h
  · refine⟨0,?_,by simp⟩
    have h0:(i==r.key)=true:=by simp [e]
    simp only [List.map_cons,recE,findA,keyEq,if_true,h0,Nat.add_zero]
  · have hne:¬ i=a.key:=fun h2=>hn.1 (List.mem_map.2 ⟨r,h,by rw [e,h2]⟩)
    have h0:(i==a.key)=false:=by simpa using hne
    obtain⟨j,h1,h2⟩:=find_some (E:=E) l (s+1) hn.2 r h e
    refine⟨j+1,?_,by simpa using h2⟩
    simp only [recE] at h1
    simp only [List.map_cons,recE,findA,keyEq,if_true,h0]
    rw [show s+(j+1)=s+1+j by omega]
    exact h1
theorem nodup_at {α β:Type} {f:α→β} {l:List α} (h:(l.map f).Nodup) {j k:Nat} {a b:α} (ha:l[j]?=some a) (hb:l[k]?=some b) (e:f a=f b):j=k:=by
 obtain⟨hj,ha'⟩:=List.getElem?_eq_some_iff.1 ha
 obtain⟨hk,hb'⟩:=List.getElem?_eq_some_iff.1 hb
 refine (List.getElem_inj (xs:=l.map f) (h₀:=by simpa using hj) (h₁:=by simpa using hk) h).1 ?_
 simp [ha',hb',e]
theorem AfterOk.add {T0 T:List (Option Nat)} {E:List (Int×Int)} {R:List Rec} {clk:Nat} (h:AfterOk T T0.length E R clk) (hT:T0 <+: T) (hlen:∀ i,(succs E i).length≤1000000000) (i k:Int) {D:Nat→Option TI}
 (hD86:∃ x,D 86=some x∧x.d=.map 3 28) (hD3:∃ x,D 3=some x∧x.d=.int .i64∧x.size=1∧x.zero.length=1∧x.bytes≤65536) (hD28:∃ x,D 28=some x∧x.d=.sl 3∧x.zv=.sl 0 [] .nil) :
 ∃ v v' T' R' clk',(∀ (H:List Blk) (T1:List (Option Nat)) (m:Nat),H[m]?=some (.map (R.map (recE E)) clk)→lookupA D ⟨H,T1⟩ 86 (.map m) (.int .i64 i) false=some v) ∧
  (∀ H,appendA D ⟨H,T⟩ 28 v (.sl 1 [[.int .i64 k]] .tight)=some (v',⟨H,T'⟩)) ∧
  (∀ (H:List Blk) (T1:List (Option Nat)) (m:Nat),H[m]?=some (.map (R.map (recE E)) clk)→mapUpdateA D ⟨H,T1⟩ 86 (.map m) (.int .i64 i) v'=some ⟨H.set m (.map (R'.map (recE (E++[(i,k)]))) clk'),T1⟩) ∧
  AfterOk T' T0.length (E++[(i,k)]) R' clk'∧T0 <+: T'∧T.length≤T'.length∧∀ td,td<T.length→(∀ r∈R,r.tok≠td)→T'[td]?=T[td]?∧∀ r∈R',r.tok≠td:=by
 obtain⟨x86,e86,d86⟩:=hD86
 obtain⟨x3,e3,d3,s3,z3,b3⟩:=hD3
 obtain⟨x28,e28,d28,z28⟩:=hD28
 by_cases hk:i∈R.map Rec.key
 · obtain⟨r,hr,rfl⟩:=List.mem_map.1 hk
   obtain⟨j,hf,hj⟩:=find_some (E:=E) R 0 h.keys r hr rfl
   rw [Nat.zero_add] at hf
   obtain⟨ht1,ht2⟩:=h.tok r hr
   have hne:=(h.cover r.key).2 hk
   have hl:=hlen r.key
   have hsr:=succs_snoc E r.key k r.key
   rw [if_pos rfl] at hsr
   have hl1:(succs E r.key).length+1≤1073741824:=by omega
   refine⟨(recE E r).2.1,.sl 1 ((succs E r.key++[k]).map encInt) (.chain r.tok ((succs E r.key).length+1)),T.set r.tok (some ((succs E r.key).length+1)),R,clk,?_,?_,?_,?_,?_,by simp,fun td htd hntd=>⟨?_,hntd⟩⟩
   · intro H T1 m hm
     simp only [lookupA,e86,d86,mapKeyOk,e3,d3,hm,hf]
     simp
   · intro H
     simp only [recE]
     simp [appendA,e28,d28,e3,s3,z3,b3,rowsOf,ht2,hl1]
   · intro H T1 m hm
     simp only [mapUpdateA,e86,d86,mapKeyOk,e3,d3,hm,hf]
     simp only [Bool.true_eq_false,if_true,Option.some.injEq,St.mk.injEq,and_true]
     congr 1
     congr 1
     apply List.ext_getElem?
     intro q
     rw [List.getElem?_modify,List.getElem?_map,List.getElem?_map]
     by_cases hq:j=q
     · subst hq
       rw [hj]
       simp [recE,hsr]
     · cases hRq:R[q]? with
       | none=>simp
       | some r'=>
        have:¬ r.key=r'.key:=fun e=>hq (nodup_at h.keys hj hRq e)
        simp [hq,recE,succs_snoc,this]
   · refine⟨h.keys,h.toks,h.stamps,h.lt,fun q=>?_,fun r' hr'=>?_⟩
     · rw [succs_snoc]
       split
       · rename_i e;subst e;simp [hk]
       · exact h.cover q
     · obtain⟨a1,a2⟩:=h.tok r' hr'
       refine⟨a1,?_⟩
       by_cases e:r'.tok=r.tok
       · obtain⟨j',hj'⟩:=List.getElem?_of_mem hr'
         have:=nodup_at h.toks hj hj' e.symm
         subst this
         rw [hj] at hj'
         cases hj'
         rw [List.getElem?_set_self (List.getElem?_eq_some_iff.1 a2).1,hsr]
         simp
       · have hkk:¬ r.key=r'.key:=by
          intro e2
          obtain⟨j',hj'⟩:=List.getElem?_of_mem hr'
          have:=nodup_at h.keys hj hj' e2
          subst this
          rw [hj] at hj'
          cases hj'
          exact e rfl
         rw [List.getElem?_set_ne (Ne.symm e),a2,succs_snoc,if_neg hkk]
   · exact prefix_set hT ht1 _
   · rw [List.getElem?_set_ne (hntd r hr)]
 · have hnone:succs E i=[]:=Classical.not_not.1 fun e=>hk ((h.cover i).1 e)
   have hf:∀ s,findA (.int .i64 i) (R.map (recE E)) s=some none:=fun s=>find_none R s fun r hr e=>hk (List.mem_map.2 ⟨r,hr,e⟩)
   have hsr:=succs_snoc E i k i
   rw [if_pos rfl,hnone,List.nil_append] at hsr
   have htl:∀ r∈R,r.tok<T.length:=fun r hr=>(List.getElem?_eq_some_iff.1 (h.tok r hr).2).1
   refine⟨.sl 0 [] .nil,.sl 1 [[.int .i64 k]] (.chain T.length 1),T++[some 1],R++[⟨i,T.length,clk⟩],clk+1,?_,?_,?_,?_,hT.trans (List.prefix_append _ _),by simp,fun td htd hntd=>⟨?_,?_⟩⟩
   · intro H T1 m hm
     simp only [lookupA,e86,d86,mapKeyOk,e3,d3,hm,hf,zeroA,e28,z28]
     simp
   · intro H
     simp [appendA,e28,d28,e3,s3,z3,b3,rowsOf]
   · intro H T1 m hm
     simp only [mapUpdateA,e86,d86,mapKeyOk,e3,d3,hm,hf]
     simp only [Bool.true_eq_false,if_true,Option.some.injEq,St.mk.injEq,and_true]
     congr 1
     congr 1
     rw [List.map_append]
     congr 1
     · apply List.map_congr_left
       intro r hr
       have:¬ i=r.key:=fun e=>hk (List.mem_map.2 ⟨r,hr,e.symm⟩)
       simp [recE,succs_snoc,this]
     · simp [recE,hsr]
   · refine⟨?_,?_,?_,?_,fun q=>?_,fun r' hr'=>?_⟩
     · rw [List.map_append,List.nodup_append]
       refine⟨h.keys,by simp,?_⟩
       rintro a ha b hb rfl
       simp at hb
       exact hk (by rw [← hb];exact ha)
     · rw [List.map_append,List.nodup_append]
       refine⟨h.toks,by simp,?_⟩
       rintro a ha b hb rfl
       simp at hb
       obtain⟨r,hr,rfl⟩:=List.mem_map.1 ha
       have:=htl r hr
       omega
     · rw [List.map_append,List.nodup_append]
       refine⟨h.stamps,by simp,?_⟩
       rintro a ha b hb rfl
       simp at hb
       obtain⟨r,hr,rfl⟩:=List.mem_map.1 ha
       have:=h.lt r hr
       omega
     · intro r hr
       rcases List.mem_append.1 hr with hr|hr
       · have:=h.lt r hr;omega
       · simp at hr;subst hr;simp
     · rw [succs_snoc,List.map_append,List.mem_append]
       by_cases e:i=q
       · subst e;simp
       · rw [if_neg e,h.cover q]
         have:¬ q=i:=fun h=>e h.symm
         simp [this]
     · rcases List.mem_append.1 hr' with hr' | hr'
       · obtain⟨a1,a2⟩:=h.tok r' hr'
         have:¬ i=r'.key:=fun e=>hk (List.mem_map.2 ⟨r',hr',e.symm⟩)
         refine⟨a1,?_⟩
         rw [List.getElem?_append_left (htl r' hr'),a2,succs_snoc,if_neg this]
       · simp at hr'
         subst hr'
         refine⟨?_,?_⟩
         · obtain⟨u,rfl⟩:=hT;simp
         · simp [hsr]
   · rw [List.getElem?_append_left htd]
   · intro r hr
     rcases List.mem_append.1 hr with hr|hr
     · exact hntd r hr
     · simp at hr;subst hr;simp;omega
theorem AfterOk.keep {T T':List (Option Nat)} {n:Nat} {E:List (Int×Int)} {R:List Rec} {clk:Nat} (h:AfterOk T n E R clk) (hk:∀ r∈R,T'[r.tok]?=T[r.tok]?):AfterOk T' n E R clk :=
 ⟨h.keys,h.toks,h.stamps,h.lt,h.cover,fun r hr=>⟨(h.tok r hr).1,by rw [hk r hr];exact (h.tok r hr).2⟩⟩
theorem AfterOk.ext {T T':List (Option Nat)} {n:Nat} {E:List (Int×Int)} {R:List Rec} {clk:Nat} (h:AfterOk T n E R clk) (hT:T <+: T'):AfterOk T' n E R clk:=h.keep fun r hr=>by
 obtain⟨u,rfl⟩:=hT
 rw [List.getElem?_append_left (List.getElem?_eq_some_iff.1 (h.tok r hr).2).1]
end Go.Proofs.YtpgcmnabljandaaGreatDoor
end
section
namespace Go.Abs
open Go Go.RowKit
section
def enO {α:Type} (z:List AV) (en:α→List AV):Option α→List AV
 | none=>z
 | some x=>en x
section
variable {α:Type} {b sz:Nat} {z:List AV} {en:α→List AV} {H:List Blk} {T:List (Option Nat)} {v:AV} {l:List α}
theorem flat_opt:∀ l:List α,(l.map some).flatMap (enO z en)=l.flatMap en
 | []=>rfl
 | a::r=>by rw [List.map_cons,List.flatMap_cons,List.flatMap_cons,flat_opt r];rfl
theorem OwnAt.opt (h:OwnAt b sz en H v l):OwnAt b sz (enO z en) H v (l.map some):=by
 rcases h with ⟨rfl,rfl⟩|⟨h1,rfl,h3⟩
 · exact .inl ⟨rfl,rfl⟩
 · exact .inr ⟨by simpa using h1,by simp,by rw [flat_opt];exact h3⟩
theorem OwnAt.put {D:Nat→Option TI} {ty e:Nat} {i j:TI} {tok:Tok} (h:OwnAt b sz en H v l) (hi:D ty=some i) (hd:i.d=.sl e) (hj:D e=some j) (hsz:j.size=sz) (h0:0<sz) (hz:j.zero.length=sz) (hbt:j.bytes≤65536)
 (hl:∀ x,(en x).length=sz) (hzl:z.length=sz) (hlen:l.length+1≤1073741824) (x:α) :
 ∃ H' c,appendX D ⟨H,T⟩ ty ty v (.sl sz [z] tok)=some (.ms H.length 0 (l.length+1) sz,⟨H',T⟩)∧H'[H.length]?=some (.cells c)∧c.length=(l.length+1)*sz∧putAt c (l.length*sz) (en x)=(l++[x]).flatMap en ∧
  (∀ (k:Nat) (y:Blk),H[k]?=some y→(l=[]∨k≠b)→H'[k]?=some y)∧H'.length=H.length+1:=by
 have hlo:∀ y:Option α,(enO z en y).length=sz:=fun y=>by cases y<;>simp [enO,hl,hzl]
 obtain⟨v',H',h1,h2,h3,h4⟩:=(h.opt (z:=z)).append (T:=T) (m:=[none]) (tok:=tok) hi hd hj hsz h0 hz hbt hlo (by simpa using hlen) (by simp)
 have hv:v'=.ms H.length 0 (l.length+1) sz∧H'[H.length]?=some (.cells ((l.map some++[none]).flatMap (enO z en))):=by
  have:=h2.at (by simp)
  simpa using this
 obtain⟨rfl,hc⟩:=hv
 refine⟨H',_,by simpa [enO] using h1,hc,?_,?_,fun k y hk hor=>h3 k y hk (by simpa using hor),h4⟩
 · rw [flat_len hlo];simp
 · have:=putAt_flat (en:=enO z en) hlo (l.map some++[none]) l.length (some x) (by simp)
   have e:(l.map some++[none]).set l.length (some x)=(l++[x]).map some:=by simp [List.set_append]
   rw [e,flat_opt] at this
   exact this
theorem cut_flat (hl:∀ x,(en x).length=sz):∀ (l:List α) (i:Nat) (x:α),l[i]?=some x→cut (l.flatMap en) (i*sz) sz=some (en x)
 | [],i,x,h=>by simp at h
 | a::r,0,x,h=>by
  simp only [List.getElem?_cons_zero,Option.some.injEq] at h
  subst h
  have:sz≤(en a++r.flatMap en).length:=by rw [List.length_append,hl];omega
  simp only [cut,Nat.zero_mul,Nat.zero_add,List.flatMap_cons,if_pos this,List.drop_zero]
  rw [List.take_append_of_le_length (by rw [hl];omega),List.take_of_length_le (by rw [hl];omega)]
 | a::r,i+1,x,h=>by
  have ih:=cut_flat hl r i x (by simpa using h)
  simp only [cut] at ih ⊢
  split at ih
  · rename_i hc
    rw [if_pos (by rw [List.flatMap_cons,List.length_append,hl,Nat.succ_mul];omega),← ih,List.flatMap_cons,Nat.succ_mul,Nat.add_comm (i*sz) sz]
    rw [List.drop_append,hl]
    have:(en a).drop (sz+i*sz)=[]:=List.drop_eq_nil_of_le (by rw [hl];omega)
    rw [this,List.nil_append,Nat.add_sub_cancel_left]
  · cases ih
end
end
end Go.Abs
end
section
namespace Go.Proofs.YtpgcmnabljandaaGreatDoor
open Go Go.Abs
set_option maxHeartbeats 4000000 in
theorem constraints46 (c:Cls) (off:List Str) (more:List It) (hb:c.blocks.length≤1000) (ho:Fits off) (H:List Blk) (T:List (Option Nat)) (B:Nat) (a0 a1 a2 a4 a5 a6 a7 a8 a9:AV)
 (hB:H[B]?=some (.cells [a0,a1,a2,.sl 2 (c.blocks.map encBlc) .none,a4,a5,a6,a7,a8,a9])) :
 ACall Tryz.prog GG 46 [.ptr B 0,.sl 1 (off.map encStr) .none,.sl 12 (more.map encI) .none] ⟨H,T⟩ (fun r σ'=>r=.sl 1 ((listsC c off more).map encIts) .none∧∃ t T',σ'=⟨H++t,T'⟩∧T <+: T'):=by
 refine ACall.up ?_
 refine ACall.k mixed Tryz.func46 rfl (by kernel_rfl) ?_
 simp [-acells,-fin,-fin1,-fin2,-pl1,-pl2,-plain,-AV.atom,-getElem?_pos,hB]
 refine kLoop.listR c.blocks (fun d ev σ=>ev 1=.sl 1 (off.map encStr) .none∧ev 2=.sl 12 (more.map encI) .none∧ev 14=.sl 2 (c.blocks.map encBlc) .none∧ev 15=.int .i64 c.blocks.length∧ev 16=.int .i64 d.length∧((d.filter (onB off)).map Blc.items).length≤d.length ∧
  ∃ t T',σ=⟨H++t,T'⟩∧T <+: T'∧OutAt T.length 1 encIts T' (ev 7) ((d.filter (onB off)).map Blc.items)) ?_ ?_ ?_
 · exact⟨by simp,by simp,by simp,by simp,by simp,by simp,[],T,by simp,List.prefix_rfl,by simpa using OutAt.nil⟩
 · rintro d b r ev σ R hR hd hx hlt ⟨h1,h2,h14,h15,h16,hlen,t,T1,rfl,hT,hout⟩
   have hcn:(off.any fun v=>b.name==v)=off.contains b.name:=by
    rw [Bool.eq_iff_iff,List.any_eq_true,List.contains_iff_mem]
    constructor
    · rintro⟨y,hy,h⟩;rw [eq_of_beq h];exact hy
    · intro h;exact⟨_,h,by simp⟩
   have hf:(d++[b]).filter (onB off)=d.filter (onB off)++(if onB off b=true then [b] else []):=by
    rw [List.filter_append];simp [List.filter_cons]
   generalize hv7:ev 7=v7 at *
   simp [-acells,-fin,-fin1,-fin2,-pl1,-pl2,-plain,-AV.atom,-getElem?_pos,h1,h2,h14,h15,h16,hlt,hx]
   refine kCall.call (contains101 GG off b.name ho) (by simp) ?_
   rw [hcn]
   cases hc:off.contains b.name
   · have hon:onB off b=true:=by unfold onB;rw [hc];rfl
     rw [if_pos hon] at hf
     obtain⟨v',T2,happ,ho2,hT2⟩:=hout.append (m:=[b.items]) (tok:=.tight) hT D89 rfl D24 rfl (by omega) rfl (by decide) (by simp only [List.length_singleton];omega) 1 (.inl rfl)
     simp only [List.map_cons,List.map_nil,encIts] at happ
     simp [-acells,-fin,-fin1,-fin2,-pl1,-pl2,-plain,-AV.atom,-getElem?_pos,h1,h2,h14,h15,h16,hv7,happ]
     refine hR _ _ ⟨by simp [h1],by simp [h2],by simp [h14],by simp [h15],by simp [h16];exact wr (by omega) (by omega),?_,_,T2,rfl,hT2,?_⟩
     · rw [hf];simp at hlen ⊢;omega
     · rw [hf];simpa using ho2
   · have hon:¬ onB off b=true:=by unfold onB;rw [hc];simp
     rw [if_neg hon,List.append_nil] at hf
     simp [-acells,-fin,-fin1,-fin2,-pl1,-pl2,-plain,-AV.atom,-getElem?_pos,h1,h2,h14,h15,h16,hv7]
     refine hR _ _ ⟨by simp [h1],by simp [h2],by simp [h14],by simp [h15],by simp [h16];exact wr (by omega) (by omega),?_,_,T1,rfl,hT,?_⟩
     · rw [hf];simp at hlen ⊢;omega
     · rw [hf];simpa [hv7] using hout
 · rintro ev σ ⟨h1,h2,h14,h15,h16,hlen,t,T1,rfl,hT,hout⟩
   obtain⟨v',T2,happ,ho2,hT2⟩:=hout.append (m:=[more]) (tok:=.tight) hT D89 rfl D24 rfl (by omega) rfl (by decide) (by simp only [List.length_singleton];omega) 1 (.inl rfl)
   simp only [List.map_cons,List.map_nil,encIts] at happ
   generalize hv7:ev 7=v7 at *
   simp [-acells,-fin,-fin1,-fin2,-pl1,-pl2,-plain,-AV.atom,-getElem?_pos,h1,h2,h15,h16,hv7,happ]
   exact⟨_,ho2.leq,rfl,_,_,⟨rfl,rfl⟩,hT2⟩
end Go.Proofs.YtpgcmnabljandaaGreatDoor
end
section
namespace Go.Abs
open Go Go.RowKit
section
section
variable {P:Program} {G:Nat→AV} {o:Opts} {ops:Array Oper} {ct:Ct} {env:Env} {σ:St} {ks:List Fr} {Q:Exit→Env→St→Prop} {dst:Option Nat}
theorem kY_mem {l:List (AV×St)} {x:Option (AV×St)} (h:∀ v τ,(v,τ)∈l→kT P G o ops ct (upd env dst v) τ ks Q):kY P G o ops (some l) x dst ct env ks Q:=by
 unfold kY vcX
 exact h
end
section
variable {es:List (AV×AV×Nat)} {H:List Blk} {T:List (Option Nat)} {it m clk:Nat} {seen:List Nat}
def leftE (es:List (AV×AV×Nat)) (seen:List Nat):List (AV×AV×Nat):=es.filter fun e=>!seen.contains e.2.2
theorem nexts_map (hit:H[it]?=some (.miter (some m) clk seen clk)) (hm:H[m]?=some (.map es clk)) (hlt:∀ e∈es,e.2.2<clk) :
 nextsA ⟨H,T⟩ (.iter it)=some ((if (leftE es seen).isEmpty then [(.tup [.bool false],(⟨H,T⟩:St))] else [])++(leftE es seen).map fun e=>(.tup [.bool true,e.1,e.2.1],(⟨H.set it (.miter (some m) clk (seen++[e.2.2]) clk),T⟩:St))):=by
 have hg:¬ (seen.isEmpty=false∧es.isEmpty=false∧es.all (fun e=>decide (clk≤e.2.2))=true):=by
  rintro⟨_,h2,h3⟩
  cases es with
  | nil=>cases h2
  | cons e r=>
   have h4:=hlt e (by simp)
   rw [List.all_eq_true] at h3
   have:=of_decide_eq_true (h3 e (by simp))
   omega
 have hold:(leftE es seen).filter (fun e=>decide (e.2.2<clk))=leftE es seen:=List.filter_eq_self.2 fun e he=>by
  simpa using hlt e (List.mem_filter.1 he).1
 have hnew:(leftE es seen).filter (fun e=>decide (clk≤e.2.2))=[]:=List.filter_eq_nil_iff.2 fun e he=>by
  have:=hlt e (List.mem_filter.1 he).1
  simp;omega
 unfold leftE at hold hnew ⊢
 simp only [nextsA,hit,hm,if_neg hg,hold,hnew,List.append_nil]
theorem entry_map {e:AV×AV×Nat} (hit:H[it]?=some (.miter (some m) clk (seen++[e.2.2]) clk)) (hm:H[m]?=some (.map es clk)) (he:e∈es) (hst:(es.map (·.2.2)).Nodup):entryA ⟨H,T⟩ (.iter it)=some (.tup [e.1,e.2.1]):=by
 have hf:es.find? (fun x=>x.2.2==e.2.2)=some e:=by
  clear hit hm
  induction es with
  | nil=>cases he
  | cons a r ih=>
   simp only [List.map_cons,List.nodup_cons] at hst
   rw [List.find?_cons]
   rcases List.mem_cons.1 he with rfl|he
   · simp
   · have hne:¬ a.2.2=e.2.2:=fun h=>hst.1 (by rw [h];exact List.mem_map.2 ⟨e,he,rfl⟩)
     have:(a.2.2==e.2.2)=false:=by simpa using hne
     rw [this]
     exact ih he hst.2
 simp only [entryA,hit,hm,List.getLast?_append,List.getLast?_singleton,Option.or_some,if_true,hf,Option.map_some]
 simp [hf]
theorem left_nil (h:(leftE es seen).isEmpty=true):∀ e∈es,e.2.2∈seen:=by
 intro e he
 have h':leftE es seen=[]:=by simpa using h
 unfold leftE at h'
 rw [List.filter_eq_nil_iff] at h'
 have:=h' e he
 simpa using this
theorem left_mem {e:AV×AV×Nat} (h:e∈leftE es seen):e∈es∧e.2.2∉seen:=by
 unfold leftE at h
 obtain⟨h1,h2⟩:=List.mem_filter.1 h
 exact⟨h1,by simpa using h2⟩
end
end
end Go.Abs
end
section
namespace Go.Proofs.YtpgcmnabljandaaGreatDoor
open Go Go.Abs
structure LRec where
 key:Int
 val:Int
 stamp:Nat
def lrecE (r:LRec):AV×AV×Nat:=(.int .i64 r.key,.int .i64 r.val,r.stamp)
structure LvOk (L:List LRec) (clk:Nat):Prop where
 keys:(L.map LRec.key).Nodup
 stamps:(L.map LRec.stamp).Nodup
 lt:∀ r∈L,r.stamp<clk
def valL (L:List LRec) (i:Int):Option Int:=(L.find? fun r=>r.key==i).map LRec.val
theorem LvOk.nil {clk:Nat}:LvOk [] clk:=⟨by simp,by simp,by simp⟩
theorem lfind_none {i:Int}:∀ (L:List LRec) (s:Nat),(∀ r∈L,r.key≠i)→findA (.int .i64 i) (L.map lrecE) s=some none
 | [],s,_=>rfl
 | r::l,s,h=>by
  have h0:(i==r.key)=false:=by have:=h r (by simp);simpa using fun e:i=r.key=>this e.symm
  have ih:=lfind_none (i:=i) l (s+1) fun x hx=>h x (by simp [hx])
  simp only [List.map_cons,lrecE,findA,keyEq,if_true,h0]
  exact ih
theorem lfind_some {i:Int}:∀ (L:List LRec) (s:Nat),(L.map LRec.key).Nodup→∀ r∈L,r.key=i→∃ j,findA (.int .i64 i) (L.map lrecE) s=some (some (s+j,.int .i64 r.val))∧L[j]?=some r
 | [],s,_,r,h,_=>by cases h
 | a::l,s,hn,r,h,e=>by
  simp only [List.map_cons,List.nodup_cons] at hn
  rcases List.mem_cons.1 h with rfl|h
  · refine⟨0,?_,by simp⟩
    have h0:(i==r.key)=true:=by simp [e]
    simp only [List.map_cons,lrecE,findA,keyEq,if_true,h0,Nat.add_zero]
  · have hne:¬ i=a.key:=fun h2=>hn.1 (List.mem_map.2 ⟨r,h,by rw [e,h2]⟩)
    have h0:(i==a.key)=false:=by simpa using hne
    obtain⟨j,h1,h2⟩:=lfind_some l (s+1) hn.2 r h e
    refine⟨j+1,?_,by simpa using h2⟩
    simp only [List.map_cons,lrecE,findA,keyEq,if_true,h0]
    rw [show s+(j+1)=s+1+j by omega]
    exact h1
theorem valL_mem {L:List LRec} (h:(L.map LRec.key).Nodup) {r:LRec} (hr:r∈L):valL L r.key=some r.val:=by
 unfold valL
 induction L with
 | nil=>cases hr
 | cons a l ih=>
  simp only [List.map_cons,List.nodup_cons] at h
  rcases List.mem_cons.1 hr with rfl|hr
  · simp
  · have hne:¬ a.key=r.key:=fun e=>h.1 (by rw [e];exact List.mem_map.2 ⟨r,hr,rfl⟩)
    have:(a.key==r.key)=false:=by simpa using hne
    rw [List.find?_cons,this]
    exact ih h.2 hr
theorem valL_none {L:List LRec} {i:Int} (h:∀ r∈L,r.key≠i):valL L i=none:=by
 unfold valL
 rw [Option.map_eq_none_iff,List.find?_eq_none]
 intro r hr
 simpa using h r hr
theorem valL_some {L:List LRec} {i n:Int} (h:valL L i=some n):∃ r∈L,r.key=i∧r.val=n:=by
 unfold valL at h
 obtain⟨r,hr,rfl⟩:=Option.map_eq_some_iff.1 h
 exact⟨r,List.mem_of_find?_eq_some hr,by simpa using List.find?_some hr,rfl⟩
theorem LvOk.look {D:Nat→Option TI} {L:List LRec} {clk:Nat} (h:LvOk L clk) (hD162:∃ x,D 162=some x∧x.d=.map 3 3) (hD3:∃ x,D 3=some x∧x.d=.int .i64∧x.zv=.int .i64 0) {H:List Blk} {T:List (Option Nat)} {b:Nat} (hb:H[b]?=some (.map (L.map lrecE) clk)) (i:Int) (ok:Bool) :
 lookupA D ⟨H,T⟩ 162 (.map b) (.int .i64 i) ok=some (if ok=true then .tup [.int .i64 ((valL L i).getD 0),.bool (valL L i).isSome] else .int .i64 ((valL L i).getD 0)):=by
 obtain⟨x162,e162,d162⟩:=hD162
 obtain⟨x3,e3,d3,z3⟩:=hD3
 by_cases hk:i∈L.map LRec.key
 · obtain⟨r,hr,rfl⟩:=List.mem_map.1 hk
   obtain⟨j,hf,hj⟩:=lfind_some L 0 h.keys r hr rfl
   rw [valL_mem h.keys hr]
   simp only [lookupA,e162,d162,mapKeyOk,e3,d3,hb,hf]
   cases ok<;>simp
 · have hn:∀ r∈L,r.key≠i:=fun r hr e=>hk (List.mem_map.2 ⟨r,hr,e⟩)
   rw [valL_none hn]
   simp only [lookupA,e162,d162,mapKeyOk,e3,d3,hb,lfind_none L 0 hn,zeroA,z3]
   cases ok<;>simp
theorem LvOk.upd {D:Nat→Option TI} {L:List LRec} {clk:Nat} (h:LvOk L clk) (hD162:∃ x,D 162=some x∧x.d=.map 3 3) (hD3:∃ x,D 3=some x∧x.d=.int .i64∧x.zv=.int .i64 0) (i n:Int) :
 ∃ L' clk',(∀ (H:List Blk) (T:List (Option Nat)) (b:Nat),H[b]?=some (.map (L.map lrecE) clk)→mapUpdateA D ⟨H,T⟩ 162 (.map b) (.int .i64 i) (.int .i64 n)=some ⟨H.set b (.map (L'.map lrecE) clk'),T⟩)∧LvOk L' clk' ∧
  (∀ j,valL L' j=if j=i then some n else valL L j):=by
 obtain⟨x162,e162,d162⟩:=hD162
 obtain⟨x3,e3,d3,z3⟩:=hD3
 by_cases hk:i∈L.map LRec.key
 · obtain⟨r,hr,rfl⟩:=List.mem_map.1 hk
   obtain⟨j,hf,hj⟩:=lfind_some L 0 h.keys r hr rfl
   rw [Nat.zero_add] at hf
   obtain⟨hjl,hjr⟩:=List.getElem?_eq_some_iff.1 hj
   have hks:(L.set j ⟨r.key,n,r.stamp⟩).map LRec.key=L.map LRec.key:=by
    rw [List.map_set]
    apply List.ext_getElem?
    intro q
    rw [List.getElem?_set]
    split
    · rename_i e;subst e;simp [hjl,hjr]
    · rfl
   have hss:(L.set j ⟨r.key,n,r.stamp⟩).map LRec.stamp=L.map LRec.stamp:=by
    rw [List.map_set]
    apply List.ext_getElem?
    intro q
    rw [List.getElem?_set]
    split
    · rename_i e;subst e;simp [hjl,hjr]
    · rfl
   have hok:LvOk (L.set j ⟨r.key,n,r.stamp⟩) clk:=⟨by rw [hks];exact h.keys,by rw [hss];exact h.stamps,fun q hq=>by
    rcases List.mem_or_eq_of_mem_set hq with hq|rfl
    · exact h.lt q hq
    · exact h.lt r hr⟩
   refine⟨L.set j ⟨r.key,n,r.stamp⟩,clk,?_,hok,fun q=>?_⟩
   · intro H T b hb
     simp only [mapUpdateA,e162,d162,mapKeyOk,e3,d3,hb,hf]
     simp only [Bool.true_eq_false,if_true,Option.some.injEq,St.mk.injEq,and_true]
     congr 1
     congr 1
     apply List.ext_getElem?
     intro q
     rw [List.getElem?_modify,List.getElem?_map,List.getElem?_map,List.getElem?_set]
     by_cases hq:j=q
     · subst hq
       simp [hjr,hj,hjl,lrecE]
     · simp [hq]
   · by_cases e:q=r.key
     · subst e
       rw [if_pos rfl]
       have hm:(⟨r.key,n,r.stamp⟩:LRec)∈L.set j ⟨r.key,n,r.stamp⟩:=List.mem_iff_getElem?.2 ⟨j,by rw [List.getElem?_set_self hjl]⟩
       exact valL_mem hok.keys hm
     · rw [if_neg e]
       cases hv:valL L q with
       | none=>
        refine valL_none fun a ha e2=>?_
        have:q∈(L.set j ⟨r.key,n,r.stamp⟩).map LRec.key:=List.mem_map.2 ⟨a,ha,e2⟩
        rw [hks] at this
        obtain⟨a',ha',e3⟩:=List.mem_map.1 this
        rw [← e3,valL_mem h.keys ha'] at hv
        cases hv
       | some z=>
        obtain⟨a,ha,rfl,rfl⟩:=valL_some hv
        have:a∈L.set j ⟨r.key,n,r.stamp⟩:=by
         obtain⟨q,hq⟩:=List.mem_iff_getElem?.1 ha
         refine List.mem_iff_getElem?.2 ⟨q,?_⟩
         have hqj:j≠q:=by
          rintro rfl
          rw [hj] at hq
          cases hq
          exact e rfl
         rw [List.getElem?_set_ne hqj];exact hq
        exact valL_mem hok.keys this
 · have hn:∀ r∈L,r.key≠i:=fun r hr e=>hk (List.mem_map.2 ⟨r,hr,e⟩)
   have hok:LvOk (L++[⟨i,n,clk⟩]) (clk+1):=by
    refine⟨?_,?_,?_⟩
    · rw [List.map_append,List.nodup_append]
      refine⟨h.keys,by simp,?_⟩
      rintro a ha b hb rfl
      simp at hb
      exact hk (by rw [← hb];exact ha)
    · rw [List.map_append,List.nodup_append]
      refine⟨h.stamps,by simp,?_⟩
      rintro a ha b hb rfl
      simp at hb
      obtain⟨r,hr,rfl⟩:=List.mem_map.1 ha
      have:=h.lt r hr
      omega
    · intro r hr
      rcases List.mem_append.1 hr with hr|hr
      · have:=h.lt r hr;omega
      · simp at hr;subst hr;simp
   refine⟨L++[⟨i,n,clk⟩],clk+1,?_,hok,fun q=>?_⟩
   · intro H T b hb
     simp only [mapUpdateA,e162,d162,mapKeyOk,e3,d3,hb,lfind_none L 0 hn]
     simp [lrecE]
   · by_cases e:q=i
     · subst e
       rw [if_pos rfl]
       exact valL_mem (r:=⟨q,n,clk⟩) hok.keys (by simp)
     · rw [if_neg e]
       unfold valL
       rw [List.find?_append]
       have hb:(i==q)=false:=by simpa using fun h=>e h.symm
       cases L.find? (fun r=>r.key==q)<;>simp [hb]
end Go.Proofs.YtpgcmnabljandaaGreatDoor
end
