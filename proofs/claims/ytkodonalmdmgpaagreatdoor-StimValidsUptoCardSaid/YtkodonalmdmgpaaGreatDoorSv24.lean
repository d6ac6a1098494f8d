import Derived.Test.YtkodonalmdmgpaaGreatDoorSv22
import Derived.Test.YtkodonalmdmgpaaGreatDoorSv23
set_option maxRecDepth 100000
set_option linter.all false
set_option linter.defProp false
section
namespace Go.Proofs.YtkodonalmdmgpaaGreatDoor
open Go Go.Abs
theorem grow364 (n:Nat) (hn:n≤5000000) (σ:St):ACall Tryz.prog GG 135 [.sl 0 [] .nil,.int .i64 n] σ (fun r σ'=>(n=0∧r=.sl 0 [] .nil∧σ'=σ)∨(0<n∧r=.ms σ.H.length 0 0 1∧∃ c,σ'=σ.push (.cells c))):=by
 refine ACall.vcO oM mixed Tryz.func135 rfl (by kernel_rfl) ?_
 have h1:¬ (n:Int)<0:=by omega
 have hw:IntKind.i64.wrap (n:Int)=n:=wr (by omega) (by omega)
 have w0:IntKind.i64.wrap 0=0:=by decide
 by_cases h0:n=0
 · subst h0
   simp [capA,w0]
 · have h2:(0:Int)<n:=by omega
   have h3:0<n:=by omega
   have h4:(n:Int)≤549755813888:=by omega
   simp [capA,h1,hw,w0,h2,h3,h4,sliceA,boundA,thirdA,sliceTok,appendX,appendM,plainTD]
/-- What was put together so far. -/
def CRs (T R:List Str) (v:AV) (σ:St):Prop:=(T=[]∧v=.sl 0 [] .nil)∨∃ b c,v=.ms b 0 R.length 1∧σ.H[b]?=some (.cells c)∧R.length*1≤c.length∧c.take (R.length*1)=(R.map encStr).flatten
theorem encStr_len (e:Str):(encStr e).length=1:=rfl
theorem flat_lenS:∀ (l:List Str),((l.map encStr).flatten).length=l.length*1
 | []=>rfl
 | a::r=>by simp only [List.map_cons,List.flatten_cons,List.length_append,encStr_len,flat_lenS r,List.length_cons];omega
theorem chunk_flatS:∀ (R:List Str) (c:List AV),R.length*1≤c.length→c.take (R.length*1)=(R.map encStr).flatten→chunk 1 R.length c=R.map encStr
 | [],c,_,_=>rfl
 | a::r,c,hl,h=>by
  have e1:c.take 1=encStr a:=by
   have:=congrArg (List.take 1) h
   rw [List.take_take,List.map_cons,List.flatten_cons,List.take_left' (encStr_len a)] at this
   rw [← this]
   congr 1
   try (simp only [List.length_cons];omega)
  have e2:(c.drop 1).take (r.length*1)=(r.map encStr).flatten:=by
   have:=congrArg (List.drop 1) h
   rw [List.map_cons,List.flatten_cons,List.drop_left' (encStr_len a),List.drop_take] at this
   rw [← this]
   congr 1
   try (simp only [List.length_cons];omega)
  rw [List.length_cons,chunk,e1,chunk_flatS r (c.drop 1) (by simp only [List.length_drop,List.length_cons] at hl ⊢;omega) e2,List.map_cons]
theorem app_stepS {T R X:List Str} {b:Nat} {c:List AV} {σ:St} (hb:σ.H[b]?=some (.cells c)) (hl:R.length*1≤c.length) (h:c.take (R.length*1)=(R.map encStr).flatten) (hR:R.length+X.length≤5000000) :
 ∃ v' σ',appendX (Dof Tryz.prog) σ 37 37 (.ms b 0 R.length 1) (.sl 1 (X.map encStr) .none)=some (v',σ')∧CRs T (R++X) v' σ':=by
 cases X with
 | nil=>
  refine⟨.ms b 0 R.length 1,σ,?_,.inr ⟨b,c,by simp,hb,by simpa using hl,by simpa using h⟩⟩
  simp [appendX,appendM,plainTD,Abs.srcA]
 | cons x X=>
  refine⟨.ms σ.H.length 0 (R.length+(X.length+1)) 1,{ σ with H:=σ.H.set b .dead++[.cells (c.take (R.length*1)++((x::X).map encStr).flatten)] },?_,.inr ⟨σ.H.length,c.take (R.length*1)++((x::X).map encStr).flatten,by simp,by simp,?_,?_⟩⟩
  · have h1:R.length+(X.length+1)≤549755813888:=by simp at hR;omega
    have hl2:R.length≤c.length:=by omega
    simp [appendX,appendM,plainTD,Abs.srcA,hb,h1,hl2]
  · rw [h];simp only [List.length_append,flat_lenS];omega
  · rw [h,List.take_of_length_le (by simp only [List.length_append,flat_lenS];omega),List.map_append,List.flatten_append]
theorem concat315 (h s:List Str) (hh:h.length≤2000000) (hs:s.length≤2000000):Pure Tryz.prog GG 91 [.sl 1 [[.sl 1 (h.map encStr) .none],[.sl 1 (s.map encStr) .none]] .none] (.sl 1 ((h++s).map encStr) .none):=by
 refine Pure.vcO oM false mixed Tryz.func91 rfl (by kernel_rfl) ?_
 have w1:IntKind.i64.wrap (h.length:Int)=h.length:=wr (by omega) (by omega)
 have w2:IntKind.i64.wrap ((h.length:Int)+s.length)=h.length+s.length:=wr (by omega) (by omega)
 have n1:¬ (h.length:Int)<0:=by omega
 have n2:¬ (h.length:Int)+s.length<0:=by omega
 have wi:IntKind.i64.wrap 1=1:=by decide
 have wi2:IntKind.i64.wrap 2=2:=by decide
 simp
 refine vcLoop.intro (fun n env σ=>∃ i:Nat,i≤2∧n=2-i∧env 0=.sl 1 [[.sl 1 (h.map encStr) .none],[.sl 1 (s.map encStr) .none]] .none∧env 3=.int .i64 (if i=0 then 0 else if i=1 then h.length else h.length+s.length)∧env 9=.sl 1 [[.sl 1 (h.map encStr) .none],[.sl 1 (s.map encStr) .none]] .none∧env 10=.int .i64 2∧env 11=.int .i64 i∧σ=⟨[],[]⟩) 2 ⟨0,by simp⟩ ?_
 rintro n env σ ⟨i,hi,rfl,h0,h3,h9,h10,h11,rfl⟩
 have hcase:i=0∨i=1∨i=2:=by omega
 rcases hcase with rfl|rfl|rfl
 · simp [h0,h3,h9,h10,h11,w1,n1,wi]
   exact⟨1,by omega,1,by omega,rfl,rfl,rfl⟩
 · simp [h0,h3,h9,h10,h11,w2,n2,wi2]
   exact⟨2,by omega,by omega,rfl,rfl⟩
 · have hN:((h.length:Int)+s.length)=((h.length+s.length:Nat):Int):=by omega
   simp [h0,h3,h9,h10,h11]
   rw [hN]
   refine ACall.imp (grow364 (h.length+s.length) (by omega) ⟨[],[]⟩) ?_
   intro r σ' hr
   have hcr:CRs (h++s) [] r σ':=by
    rcases hr with ⟨h1,h2,h3⟩|⟨h1,h2,c,h3⟩
    · exact .inl ⟨List.eq_nil_of_length_eq_zero (by rw [List.length_append];exact h1),h2⟩
    · subst h3
      exact .inr ⟨0,c,h2,rfl,by simp,by simp⟩
   clear hr
   refine vcLoop.intro (fun n env σ=>∃ i:Nat,i≤2∧n=2-i∧env 25=.sl 1 [[.sl 1 (h.map encStr) .none],[.sl 1 (s.map encStr) .none]] .none∧env 26=.int .i64 2∧env 27=.int .i64 i∧CRs (h++s) (if i=0 then [] else if i=1 then h else h++s) (env 6) σ) 2 ⟨0,by simp [h0];exact hcr⟩ ?_
   clear h0 h3 h9 h10 h11 hcr
   rintro n env σ ⟨i,hi,rfl,h25,h26,h27,hcr⟩
   have hcase:i=0∨i=1∨i=2:=by omega
   rcases hcase with rfl|rfl|rfl
   · simp only [if_true] at hcr
     rcases hcr with ⟨ht,h6⟩|⟨b,c,h6,hb,hl,hc⟩
     · simp only [List.append_eq_nil_iff] at ht
       obtain⟨rfl,rfl⟩:=ht
       simp [h25,h26,h27,h6,wi,appendX,appendM,appendA,plainTD,Abs.srcA,rowsOf]
       exact⟨1,by omega,1,by omega,rfl,rfl,.inl ⟨rfl,rfl⟩⟩
     · obtain⟨v',σ',e1,e2⟩:=app_stepS (T:=h++s) (X:=h) hb hl hc (by simp;omega)
       simp only [List.length_nil] at h6 e1
       simp [h25,h26,h27,h6,wi,e1]
       exact⟨1,by omega,1,by omega,rfl,rfl,by simpa using e2⟩
   · simp only [Nat.one_ne_zero,if_false,if_true] at hcr
     rcases hcr with ⟨ht,h6⟩|⟨b,c,h6,hb,hl,hc⟩
     · simp only [List.append_eq_nil_iff] at ht
       obtain⟨rfl,rfl⟩:=ht
       simp [h25,h26,h27,h6,wi2,appendX,appendM,appendA,plainTD,Abs.srcA,rowsOf]
       exact⟨2,by omega,by omega,rfl,.inl ⟨rfl,rfl⟩⟩
     · obtain⟨v',σ',e1,e2⟩:=app_stepS (T:=h++s) (X:=s) hb hl hc (by omega)
       simp [h25,h26,h27,h6,wi2,e1]
       exact⟨2,by omega,by omega,rfl,by simpa using e2⟩
   · simp only [show ¬ (2:Nat)=0 by omega,show ¬ (2:Nat)=1 by omega,if_false] at hcr
     rcases hcr with ⟨ht,h6⟩|⟨b,c,h6,hb,hl,hc⟩
     · simp only [List.append_eq_nil_iff] at ht
       obtain⟨rfl,rfl⟩:=ht
       simp [h25,h26,h27,h6]
     · have hk:=chunk_flatS (h++s) c hl hc
       simp only [List.length_append,Nat.mul_one] at hk hl
       rw [List.length_append] at h6
       simp [h25,h26,h27,h6,hb,hl,hk,noRefss_append]
def encPl (p:Place):List AV:=[I_ p.depth,sS p.bound]
def plans244:List (Nat×Sch×List Nat):=[(1,.step 1 [9,8,6,5,4,3,2] (.fork (.cons 0 (.step 2 [9,8,6,5,4,3] (.step 3 [9,8,6,5,4] (.step 4 [9,8,6,5] (.step 5 [9,8] (.step 6 [9] (.step 7 [9,8] (.step 8 [9] (.step 9 [] (.done))))))))) (.cons 2 (.fork (.cons 0 (.step 3 [9,8,6,5,4] (.step 4 [9,8,6,5] (.step 5 [9,8] (.step 6 [9] (.step 7 [9,8] (.step 8 [9] (.step 9 [] (.done)))))))) (.cons 7 (.step 0 [9,8,6,5,4,3] (.step 3 [9,8,6,5,4] (.step 4 [9,8,6,5] (.step 5 [9,8] (.step 6 [9] (.step 8 [9] (.step 9 [] (.done)))))))) (.nil)))) (.cons 7 (.fork (.cons 0 (.step 2 [9,8,6,5,4,3] (.step 3 [9,8,6,5,4] (.step 4 [9,8,6,5] (.step 5 [9,8] (.step 6 [9] (.step 8 [9] (.step 9 [] (.done)))))))) (.cons 2 (.step 0 [9,8,6,5,4,3] (.step 3 [9,8,6,5,4] (.step 4 [9,8,6,5] (.step 5 [9,8] (.step 6 [9] (.step 8 [9] (.step 9 [] (.done)))))))) (.nil)))) (.nil))))),[0])]
theorem look244 {k:Int} {H:List Blk} {T:List (Option Nat)} {b:Nat} (hb:H[b]?=some (.map kindsM 6)):lookupA (Dof Tryz.prog) ⟨H,T⟩ 153 (.map b) (I_ k) true=some (match usesOf k with
 | some us=>.tup [.agg us,.bool true]
 | none=>.tup [.agg [.bool false,.bool false,.bool false,.bool false,.bool false,.bool false,.bool false],.bool false]):=by
 simp only [lookupA,D153,mapKeyOk,D3,hb,kindsM]
 by_cases h1:k=1
 · subst h1;rfl
 by_cases h2:k=2
 · subst h2;rfl
 by_cases h3:k=3
 · subst h3;rfl
 by_cases h4:k=4
 · subst h4;rfl
 by_cases h5:k=5
 · subst h5;rfl
 by_cases h6:k=6
 · subst h6;rfl
 have e1:(k==1)=false:=by simpa using h1
 have e2:(k==2)=false:=by simpa using h2
 have e3:(k==3)=false:=by simpa using h3
 have e4:(k==4)=false:=by simpa using h4
 have e5:(k==5)=false:=by simpa using h5
 have e6:(k==6)=false:=by simpa using h6
 simp [findA,keyEq,e1,e2,e3,e4,e5,e6,h1,h2,h3,h4,h5,h6,usesOf,zeroA]
theorem usesOf_bools {k:Int} {us:List AV} (h:usesOf k=some us):∃ b1 b2 b3 b4 b5 b6 b7:Bool,us=[.bool b1,.bool b2,.bool b3,.bool b4,.bool b5,.bool b6,.bool b7]:=by
 unfold usesOf at h
 grind
theorem usesOf_some {k:Int} {us:List AV} (h:usesOf k=some us):knownK k=true:=by
 unfold usesOf at h
 unfold knownK
 grind
theorem usesOf_none {k:Int} (h:usesOf k=none):knownK k=false:=by
 unfold usesOf at h
 unfold knownK
 grind
set_option maxHeartbeats 8000000 in
theorem shape244 (x:It) (p:Place) (h:Hold1 x) (hl:Low1 x) (hd:p.depth≤1000000000) (hh:hgt x.expr<2000000):Pure Tryz.prog GG 56 [.agg (encI x),.agg (encPl p)] (I_ (shapeE x p.depth)):=by
 refine Pure.kO ⟨false,plans244,[],[]⟩ false mixed Tryz.func56 rfl (by kernel_rfl) ?_
 simp only [encI_eq,encE_eq,encPl]
 simp [-getElem?_pos]
 refine kC_cut (fun ev σ=>ev 2=.ptr 0 0∧ev 3=.ptr 1 0∧(∃ m us,ev 5=.ptr m 0∧ev 6=.bool (usesOf x.kind).isSome∧us=(usesOf x.kind).getD [.bool false,.bool false,.bool false,.bool false,.bool false,.bool false,.bool false]∧σ.H[m]?=some (.cells us))∧σ.H[0]?=some (.cells (encI x))∧σ.H[1]?=some (.cells (encPl p))∧σ.T=[]) ?_ ?_
 · rw [kC_plan rfl]
   simp [-getElem?_pos,clsB,clsA]
   repeat' with_reducible refine And.intro ?_ ?_
   all_goals
    refine kCall.acall (kinds311 _) ?_
    rintro v σ' ⟨rfl,rfl⟩
    have lk:=fun (H:List Blk) (T:List (Option Nat)) (b:Nat) (hb:H[b]?=some (.map kindsM 6))=>look244 (k:=x.kind) (T:=T) hb
    cases hu:usesOf x.kind with
    | none=>
     simp only [hu] at lk
     simp [-getElem?_pos,clsB,clsA,lk]
     simp [encI_eq,encE_eq,encPl]
    | some us=>
     simp only [hu] at lk
     obtain⟨b1,b2,b3,b4,b5,b6,b7,rfl⟩:=usesOf_bools hu
     simp [-getElem?_pos,clsB,clsA,lk]
     simp [encI_eq,encE_eq,encPl]
 · rintro ev ⟨H,T⟩ ⟨h2,h3,⟨m,us,h5,h6,hus,hm⟩,hH0,hH1,hT⟩
   simp only at hT hm hH0 hH1
   subst hT
   have hr:shapeE x p.depth=if knownK x.kind=false∨plainI x=false∨4<p.depth∨(0<p.depth∧(x.kind=3∨x.kind=6)) then 1
    else if x.kind=3 then (if weightsE x.ws≠0 then weightsE x.ws else if varS x.name=false then 7 else 0)
    else if x.kind=6 then (if x.before=[]∨x.after=[] then 1 else if (x.before++x.after).any (fun s=>!varS s)=true then 7 else 0)
    else if x.kind=5 then (if nameS x.name=false∨nameS x.index=false then 7 else 0)
    else validE x.expr:=rfl
   generalize shapeE x p.depth=r at hr
   simp only [encI_eq,encE_eq,encPl,List.cons_append,List.nil_append] at hH0 hH1
   cases hu:usesOf x.kind with
   | none=>
    rw [hu] at h6
    have hk:knownK x.kind=false:=usesOf_none hu
    rw [if_pos (.inl hk)] at hr
    subst hr
    simp [-getElem?_pos,h6]
   | some us'=>
    rw [hu] at h6 hus
    have hk:knownK x.kind=true:=usesOf_some hu
    have hus:us=us':=hus
    subst hus
    have hp:=plain312 x us hu hl.before hl.after
    obtain⟨b1,b2,b3,b4,b5,b6,b7,rfl⟩:=usesOf_bools hu
    simp only [encI_eq,encE_eq,List.cons_append,List.nil_append] at hp
    simp [-getElem?_pos,h2,h5,h6,hH0,hm]
    refine kCall.call hp (by simp) ?_
    cases hpl:plainI x
    · rw [if_pos (.inr (.inl hpl))] at hr
      subst hr
      simp [-getElem?_pos]
    by_cases c1:4<p.depth
    · have c1':(4:Int)<p.depth:=by omega
      rw [if_pos (.inr (.inr (.inl c1)))] at hr
      subst hr
      simp [-getElem?_pos,h3,hH1,c1']
    have c1':¬ (4:Int)<p.depth:=by omega
    by_cases c2:0<p.depth∧(x.kind=3∨x.kind=6)
    · have c2':(0:Int)<p.depth:=by omega
      rw [if_pos (.inr (.inr (.inr c2)))] at hr
      subst hr
      rcases c2.2 with e|e<;>simp [-getElem?_pos,h2,h3,hH0,hH1,c1',c2.1,e]
    rw [if_neg (by simp only [hk,hpl];simp;omega)] at hr
    have hkk:x.kind=1∨x.kind=2∨x.kind=3∨x.kind=4∨x.kind=5∨x.kind=6:=by
     unfold knownK at hk
     simp at hk
     omega
    by_cases k3:x.kind=3
    · have hd0:p.depth=0:=by omega
      rw [if_pos k3] at hr
      simp [-getElem?_pos,h2,h3,hH0,hH1,k3,hd0]
      refine kCall.call (weights313 x.ws h.ws) (by simp) ?_
      by_cases hw:weightsE x.ws=0
      · rw [if_neg (by rw [hw];simp)] at hr
        simp [-getElem?_pos,hw,h2,hH0]
        refine kCall.call (isVar314 x.name h.name) (by simp) ?_
        cases hv:varS x.name
        · rw [if_pos hv] at hr
          subst hr
          simp [-getElem?_pos]
        · rw [if_neg (by rw [hv];simp)] at hr
          subst hr
          simp [-getElem?_pos]
      · rw [if_pos hw] at hr
        subst hr
        simp [-getElem?_pos,hw]
    rw [if_neg k3] at hr
    by_cases k6:x.kind=6
    · have hd0:p.depth=0:=by omega
      rw [if_pos k6] at hr
      by_cases e1:x.before=[]
      · rw [if_pos (.inl e1)] at hr
        subst hr
        simp [-getElem?_pos,h2,h3,hH0,hH1,k6,hd0,e1]
      by_cases e2:x.after=[]
      · rw [if_pos (.inr e2)] at hr
        subst hr
        simp [-getElem?_pos,h2,h3,hH0,hH1,k6,hd0,e1,e2]
      rw [if_neg (by simp [e1,e2])] at hr
      simp [-getElem?_pos,h2,h3,hH0,hH1,k6,hd0,e1,e2]
      refine kCall.less (concat315 x.before x.after hl.before hl.after) (by simp) (by simp) ?_
      have hnm:=h.names
      have hlen:(x.before++x.after).length≤4000000:=by have:=hl.before;have:=hl.after;simp;omega
      generalize x.before++x.after=l at hr hnm hlen
      simp [-getElem?_pos]
      refine kLoop.list l (fun d ev σ=>ev 79=sS l∧ev 80=I_ l.length∧ev 81=I_ d.length∧(∃ H,σ=⟨H,[]⟩)∧∀ s∈d,varS s=true) (by simp) ?_ ?_
      · clear h2 h3 h5 h6
        rintro d v l' ev σ hd hv hlt ⟨h79,h80,h81,⟨H',rfl⟩,hz⟩
        simp [-getElem?_pos,h79,h80,h81,hlt,hv]
        refine kCall.call (isVar314 v (hnm v (List.mem_of_getElem? hv))) (by simp) ?_
        cases hvs:varS v
        · rw [if_pos (List.any_eq_true.2 ⟨v,List.mem_of_getElem? hv,by simp [hvs]⟩)] at hr
          subst hr
          simp [-getElem?_pos]
        · simp [-getElem?_pos,h79,h80,h81]
          exact⟨wr (by omega) (by omega),hz_or hz hvs⟩
      · clear h2 h3 h5 h6
        rintro ev σ ⟨h79,h80,h81,⟨H',rfl⟩,hz⟩
        rw [if_neg (by rw [List.any_eq_true];rintro⟨s,hs,h⟩;rw [hz s hs] at h;cases h)] at hr
        subst hr
        simp [-getElem?_pos,h80,h81]
    rw [if_neg k6] at hr
    have k36:¬ (x.kind=3∨x.kind=6):=by omega
    by_cases k5:x.kind=5
    · rw [if_pos k5] at hr
      by_cases hd0:p.depth=0
      · simp [-getElem?_pos,h2,h3,hH0,hH1,k5,hd0]
        refine kCall.call (isName168 x.name) (by simp) ?_
        cases n1:nameS x.name
        · rw [if_pos (.inl n1)] at hr
          subst hr
          simp [-getElem?_pos]
        simp [-getElem?_pos,h2,hH0]
        refine kCall.call (isName168 x.index) (by simp) ?_
        cases n2:nameS x.index
        · rw [if_pos (.inr n2)] at hr
          subst hr
          simp [-getElem?_pos]
        · rw [if_neg (by rw [n1,n2];simp)] at hr
          subst hr
          simp [-getElem?_pos]
      · have c3:(0:Int)<p.depth:=by omega
        have c3n:0<p.depth:=by omega
        simp [-getElem?_pos,h2,h3,hH0,hH1,c1',k5,c3n]
        refine kCall.call (isName168 x.name) (by simp) ?_
        cases n1:nameS x.name
        · rw [if_pos (.inl n1)] at hr
          subst hr
          simp [-getElem?_pos]
        simp [-getElem?_pos,h2,hH0]
        refine kCall.call (isName168 x.index) (by simp) ?_
        cases n2:nameS x.index
        · rw [if_pos (.inr n2)] at hr
          subst hr
          simp [-getElem?_pos]
        · rw [if_neg (by rw [n1,n2];simp)] at hr
          subst hr
          simp [-getElem?_pos]
    rw [if_neg k5] at hr
    by_cases hd0:p.depth=0
    · simp [-getElem?_pos,h2,h3,hH0,hH1,k3,k5,k6,hd0]
      have hv:=valid88 x.expr h.expr hh
      rw [encE_eq] at hv
      refine kCall.call hv (by simp) ?_
      subst hr
      simp [-getElem?_pos]
    · have c3:(0:Int)<p.depth:=by omega
      have c3n:0<p.depth:=by omega
      simp [-getElem?_pos,h2,h3,hH0,hH1,c1',k3,k5,k6,c3n]
      have hv:=valid88 x.expr h.expr hh
      rw [encE_eq] at hv
      refine kCall.call hv (by simp) ?_
      subst hr
      simp [-getElem?_pos]
end Go.Proofs.YtkodonalmdmgpaaGreatDoor
end
