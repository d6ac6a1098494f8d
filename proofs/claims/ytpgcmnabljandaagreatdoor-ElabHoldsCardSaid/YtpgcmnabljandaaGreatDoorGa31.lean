/- A part of the proof: Walk60 Walk61 Walk62 Walk63 Walk64 Walk65. -/
import Derived.Test.YtpgcmnabljandaaGreatDoorGa30
import Derived.Test.YtpgcmnabljandaaGreatDoorGa26
import Derived.Test.YtpgcmnabljandaaGreatDoorGa27
import Derived.Test.YtpgcmnabljandaaGreatDoorGa18
import Derived.Test.YtpgcmnabljandaaGreatDoorGa20
set_option linter.unusedVariables false
set_option linter.unusedSimpArgs false
set_option maxRecDepth 100000
section
namespace Go.Proofs.YtpgcmnabljandaaGreatDoor
open Go Go.Abs
theorem blank363 (e:Ex):Pure Tryz.prog GG 363 [.agg (encE e)] (.bool (blankE e)):=by
 refine Pure.k mixed Tryz.func363 rfl (by kernel_rfl) ?_
 have hr:blankE e=(decide (e.op=0)&&decide (e.n=0)&&decide (e.name=[])&&decide (e.args=[])):=rfl
 simp only [encE_eq]
 simp [-acells,-fin,-fin1,-fin2,-pl1,-pl2,-plain,-AV.atom,-getElem?_pos]
 rw [hr]
 have hlen:(((e.args.length:Int)==0):Bool)=decide (e.args=[]):=by
  cases e.args with
  | nil=>rfl
  | cons a r=>simp;omega
 rw [hlen]
 repeat' first | (refine And.intro ?_ ?_) | (intro _)
 all_goals simp_all
theorem weights313 (l:List Weight) (hl:Fits l):Pure Tryz.prog GG 313 [.sl 4 (l.map encWeight) .none] (.int .i64 (weightsE l)):=by
 refine Pure.k mixed Tryz.func313 rfl (by kernel_rfl) ?_
 have hr:weightsE l=if 16<l.length then 2 else if l=[] then 1 else if l.any weightB=true then 1 else 0:=rfl
 generalize weightsE l=r at hr
 by_cases h1:(16:Int)<l.length
 · rw [if_pos (by omega)] at hr
   subst hr
   simp [-acells,-fin,-fin1,-fin2,-pl1,-pl2,-plain,-AV.atom,-getElem?_pos,h1]
 · by_cases h2:l=[]
   · subst h2
     simp at hr
     subst hr
     simp [-acells,-fin,-fin1,-fin2,-pl1,-pl2,-plain,-AV.atom,-getElem?_pos]
   rw [if_neg (by omega),if_neg h2] at hr
   simp [-acells,-fin,-fin1,-fin2,-pl1,-pl2,-plain,-AV.atom,-getElem?_pos,h1,h2]
   refine kLoop.list l (fun d ev σ=>ev 13=.sl 4 (l.map encWeight) .none∧ev 14=.int .i64 l.length∧ev 15=.int .i64 d.length∧(∃ H,σ=⟨H,[]⟩)∧∀ x∈d,weightB x=false) (by simp) ?_ ?_
   · rintro d v r' ev σ hd hv hlt ⟨h13,h14,h15,⟨H,rfl⟩,hz⟩
     have hbad:weightB v=true→r=1:=fun h=>by rw [hr,if_pos (List.any_eq_true.2 ⟨v,List.mem_of_getElem? hv,h⟩)]
     have hw:weightB v=(decide (v.lo<0)||decide (v.hi<v.lo)||decide (65535<v.hi)||decide (v.weight<0)||decide (1000<v.weight)):=rfl
     have hwr:IntKind.i64.wrap ((d.length:Int)+1)=d.length+1:=wr (by omega) (by omega)
     have hsn:weightB v=false→∀ x,x∈d∨x=v→weightB x=false:=hz_or hz
     simp [-acells,-fin,-fin1,-fin2,-pl1,-pl2,-plain,-AV.atom,-getElem?_pos,h13,h14,h15,hlt,hv,hwr]
     rw [hw] at hbad hsn
     repeat' first | (refine And.intro ?_ ?_) | (intro _)
     all_goals first | (exact (hbad (by simp;omega)).symm) | (apply hsn<;>first | assumption | (simp;omega))
   · rintro ev σ ⟨h13,h14,h15,⟨H,rfl⟩,hz⟩
     rw [if_neg (by rw [List.any_eq_true];rintro⟨x,hx,h⟩;rw [hz x hx] at h;cases h)] at hr
     subst hr
     simp [-acells,-fin,-fin1,-fin2,-pl1,-pl2,-plain,-AV.atom,-getElem?_pos,h14,h15]
theorem preIL_append:∀ {l m:List It},preIL (l++m)=preIL l++preIL m
 | [],m=>by simp [preIL]
 | x::r,m=>by simp [preIL,preIL_append (l:=r),List.append_assoc]
theorem wrap_size (n a b:Int):IntKind.i64.wrap (IntKind.i64.wrap n+IntKind.i64.wrap (IntKind.i64.wrap (1+IntKind.i64.wrap a)+IntKind.i64.wrap b))=IntKind.i64.wrap (n+(1+a+b)):=by
 simp [IntKind.wrap,IntKind.bits,IntKind.signed]
 omega
theorem size243L (l:List It) (hl:Fits l) (h:∀ x∈l,Pure Tryz.prog GG 243 [.sl 12 (x.items.map encI) .none] (.int .i64 (sizeIS x.items))∧Pure Tryz.prog GG 243 [.sl 12 (x.els.map encI) .none] (.int .i64 (sizeIS x.els))) :
 Pure Tryz.prog GG 243 [.sl 12 (l.map encI) .none] (.int .i64 (sizeIS l)):=by
 refine Pure.k mixed Tryz.func243 rfl (by kernel_rfl) ?_
 simp [-acells,-fin,-fin1,-fin2,-pl1,-pl2,-plain,-AV.atom,-getElem?_pos]
 refine kLoop.list l (fun d ev σ=>ev 3=.int .i64 (sizeIS d)∧ev 6=.sl 12 (l.map encI) .none∧ev 7=.int .i64 l.length∧ev 8=.int .i64 d.length∧∃ H,σ=⟨H,[]⟩) (by simp [sizeIS,preIL,IntKind.wrap,IntKind.bits,IntKind.signed]) ?_ ?_
 · rintro d v r ev σ hd hv hlt ⟨h3,h6,h7,h8,⟨H,rfl⟩⟩
   obtain⟨p1,p2⟩:=h v (List.mem_of_getElem? hv)
   have hw:IntKind.i64.wrap (sizeIS d+IntKind.i64.wrap (IntKind.i64.wrap (1+sizeIS v.items)+sizeIS v.els))=sizeIS (d++[v]):=by
    unfold sizeIS
    rw [wrap_size]
    congr 1
    rw [preIL_append]
    simp [preIL,preI_eq v]
    omega
   simp [-acells,-fin,-fin1,-fin2,-pl1,-pl2,-plain,-AV.atom,-getElem?_pos,h3,h6,h7,h8,hlt,hv,encI_eq,encE_eq]
   refine kCall.call p1 (by simp) ?_
   simp [-acells,-fin,-fin1,-fin2,-pl1,-pl2,-plain,-AV.atom,-getElem?_pos,h3,h6,h7,h8]
   refine kCall.call p2 (by simp) ?_
   simp [-acells,-fin,-fin1,-fin2,-pl1,-pl2,-plain,-AV.atom,-getElem?_pos,h3,h6,h7,h8,hw]
   exact wr (by omega) (by omega)
 · rintro ev σ ⟨h3,h6,h7,h8,⟨H,rfl⟩⟩
   simp [-acells,-fin,-fin1,-fin2,-pl1,-pl2,-plain,-AV.atom,-getElem?_pos,h3,h7,h8]
theorem HoldI.itemB {x y:It} (h:HoldI x) (hy:y∈x.items):HoldI y:=fun z hz=>h z (by rw [preI_eq];exact List.mem_cons_of_mem _ (List.mem_append_left _ (mem_preIL.2 ⟨y,hy,hz⟩)))
theorem HoldI.elsB {x y:It} (h:HoldI x) (hy:y∈x.els):HoldI y:=fun z hz=>h z (by rw [preI_eq];exact List.mem_cons_of_mem _ (List.mem_append_right _ (mem_preIL.2 ⟨y,hy,hz⟩)))
theorem size243x:∀ x,HoldI x→Pure Tryz.prog GG 243 [.sl 12 (x.items.map encI) .none] (.int .i64 (sizeIS x.items))∧Pure Tryz.prog GG 243 [.sl 12 (x.els.map encI) .none] (.int .i64 (sizeIS x.els)) :=
 It.ind fun x h1 h2 hl=>⟨size243L x.items (hl x (by rw [preI_eq];simp)).items fun y hy=>h1 y hy (hl.itemB hy),size243L x.els (hl x (by rw [preI_eq];simp)).els fun y hy=>h2 y hy (hl.elsB hy)⟩
theorem size243 (l:List It) (hl:Fits l) (h:∀ x∈l,HoldI x):Pure Tryz.prog GG 243 [.sl 12 (l.map encI) .none] (.int .i64 (sizeIS l)):=size243L l hl fun x hx=>size243x x (h x hx)
theorem nodes253:∀ e,Wee e→(pre e).length≤1000000→Pure Tryz.prog GG 253 [.agg (encE e)] (.sl 4 ((pre e).map encE) .none):=by
 refine Ex.ind fun e ih hw hn=>?_
 refine Pure.k mixed Tryz.func253 rfl (by kernel_rfl) ?_
 have hfa:=hw.fits
 rw [pre_eq] at hn ⊢
 simp only [List.length_cons] at hn
 simp [-acells,-fin,-fin1,-fin2,-pl1,-pl2,-plain,-AV.atom,-getElem?_pos,encE_eq e]
 refine kLoop.list e.args (fun d ev σ=>ev 1=.ptr 0 0∧ev 3=outD 4 encE 0 [e] (preL d)∧ev 9=.sl 4 (e.args.map encE) .none∧ev 10=.int .i64 e.args.length∧ev 11=.int .i64 d.length∧∃ t,σ=⟨t,outCT [] (preL d)⟩) (by simp [outD,encE_eq e]) ?_ ?_
 · rintro d a r ev σ hd hv hlt ⟨h1,h3,h9,h10,h11,⟨t,rfl⟩⟩
   have hm:=List.mem_of_getElem? hv
   have hle:(preL d).length+(pre a).length≤(preL e.args).length:=by rw [hd,preL_append];simp
   have ih:=ih a hm (hw.arg hm) (by omega)
   have happ:∀ H,appendA (Dof Tryz.prog) ⟨H,outCT [] (preL d)⟩ 32 (outD 4 encE 0 [e] (preL d)) (.sl 4 ((pre a).map encE) .none)=some (outD 4 encE 0 [e] (preL d++pre a),⟨H,outCT [] (preL d++pre a)⟩):=fun H=>
    append_outD (sz:=4) (T:=[]) (m:=pre a) D32 rfl D55 rfl (by omega) rfl (by decide) (by simp;omega) 4 (.inl rfl)
   rw [encE_eq a] at ih
   simp [-acells,-fin,-fin1,-fin2,-pl1,-pl2,-plain,-AV.atom,-getElem?_pos,h1,h3,h9,h10,h11,hlt,hv,encE_eq a,preL_append]
   refine kCall.call ih (by simp) ?_
   simp [-acells,-fin,-fin1,-fin2,-pl1,-pl2,-plain,-AV.atom,-getElem?_pos,h1,h3,h9,h10,h11,happ]
   exact wr (by omega) (by omega)
 · rintro ev σ ⟨h1,h3,h9,h10,h11,⟨t,rfl⟩⟩
   have q:=leq_outE (sz:=4) (en:=encE) (a:=[e]) (s:=preL e.args)
   simp [-acells,-fin,-fin1,-fin2,-pl1,-pl2,-plain,-AV.atom,-getElem?_pos,h1,h3,h9,h10,h11]
   simpa [encE_eq e] using q
theorem validE_var (s:Str):decide (validE (.mk 2 0 s [])=0)=varS s:=by
 have hp:pre (Ex.mk 2 0 s [])=[.mk 2 0 s []]:=by simp [pre_eq]
 have hh:hgt (Ex.mk 2 0 s [])=1:=by simp [hgt_eq]
 unfold validE sizeS
 rw [hp,hh]
 simp [firstE,nodeE,operandsS,arityS,IntKind.wrap,IntKind.bits,IntKind.signed]
theorem isVar314 (s:Str) (hs:Fits s):Pure Tryz.prog GG 314 [.str s] (.bool (varS s)):=by
 refine Pure.k mixed Tryz.func314 rfl (by kernel_rfl) ?_
 have hp:pre (Ex.mk 2 0 s [])=[.mk 2 0 s []]:=by simp [pre_eq]
 simp [-acells,-fin,-fin1,-fin2,-pl1,-pl2,-plain,-AV.atom,-getElem?_pos]
 refine kCall.less (valid88 (.mk 2 0 s []) (fun x hx=>by rw [hp] at hx;simp at hx;subst hx;exact⟨by simp [Fits],hs⟩) (by simp [hgt_eq])) (by simp) (by simp [encE]) ?_
 simp [-acells,-fin,-fin1,-fin2,-pl1,-pl2,-plain,-AV.atom,-getElem?_pos]
 rw [← validE_var]
 rfl
def usesOf (k:Int):Option (List AV) :=
 if k=1 then some [.bool true,.bool false,.bool false,.bool false,.bool false,.bool false,.bool false]
 else if k=2 then some [.bool true,.bool false,.bool false,.bool false,.bool false,.bool false,.bool false]
 else if k=3 then some [.bool false,.bool true,.bool false,.bool true,.bool false,.bool false,.bool false]
 else if k=4 then some [.bool true,.bool false,.bool false,.bool false,.bool true,.bool true,.bool false]
 else if k=5 then some [.bool false,.bool true,.bool true,.bool false,.bool true,.bool false,.bool false]
 else if k=6 then some [.bool false,.bool false,.bool false,.bool false,.bool false,.bool false,.bool true]
 else none
def kindsM:List (AV×AV×Nat):=[(.int .i64 1,.agg [.bool true,.bool false,.bool false,.bool false,.bool false,.bool false,.bool false],0),
 (.int .i64 2,.agg [.bool true,.bool false,.bool false,.bool false,.bool false,.bool false,.bool false],1),
 (.int .i64 3,.agg [.bool false,.bool true,.bool false,.bool true,.bool false,.bool false,.bool false],2),
 (.int .i64 4,.agg [.bool true,.bool false,.bool false,.bool false,.bool true,.bool true,.bool false],3),
 (.int .i64 5,.agg [.bool false,.bool true,.bool true,.bool false,.bool true,.bool false,.bool false],4),
 (.int .i64 6,.agg [.bool false,.bool false,.bool false,.bool false,.bool false,.bool false,.bool true],5)]
theorem kinds311 (σ:St):ACall Tryz.prog GG 311 [] σ (fun r σ'=>r=.map σ.H.length∧σ'=σ.push (.map kindsM 6)):=by
 refine ACall.k mixed Tryz.func311 rfl (by kernel_rfl) ?_
 simp [-acells,-fin,-fin1,-fin2,-pl1,-pl2,-plain,-AV.atom,-getElem?_pos,mapUpdateA,mapKeyOk,findA,keyEq]
 rfl
theorem len_zero {α:Type} {l:List α}:(((l.length:Int)==0):Bool)=decide (l=[]):=by
 cases l with
 | nil=>rfl
 | cons a r=>simp;omega
set_option maxHeartbeats 8000000 in
theorem plain312 (x:It) (us:List AV) (h:usesOf x.kind=some us) (hb:x.before.length≤1000) (ha:x.after.length≤1000):Pure Tryz.prog GG 312 [.agg (encI x),.agg us] (.bool (plainI x)):=by
 refine Pure.k mixed Tryz.func312 rfl (by kernel_rfl) ?_
 have hr:plainI x=((exprK x.kind||blankE x.expr)&&(nameK x.kind||decide (x.name=[]))&&(decide (x.kind=5)||decide (x.index=[]))&&(decide (x.kind=3)||decide (x.ws=[])) &&
  (decide (x.kind=4∨x.kind=5)||decide (x.items=[]))&&(decide (x.kind=4)||decide (x.els=[]))&&(decide (x.kind=6)||(decide (x.before=[])&&decide (x.after=[])))):=rfl
 generalize plainI x=r at hr
 have hbl:=blank363 x.expr
 have hw:IntKind.i64.wrap ((x.before.length:Int)+x.after.length)=x.before.length+x.after.length:=wr (by omega) (by omega)
 have hz:((x.before.length:Int)+x.after.length==0)=(decide (x.before=[])&&decide (x.after=[])):=by
  cases x.before<;>cases x.after<;>simp<;>omega
 rw [encE_eq] at hbl
 have hk:x.kind=1∨x.kind=2∨x.kind=3∨x.kind=4∨x.kind=5∨x.kind=6:=by
  unfold usesOf at h
  grind
 simp only [encI_eq,encE_eq]
 rcases hk with hk|hk|hk|hk|hk|hk
 · rw [hk] at h
   simp [usesOf] at h
   subst h
   simp [hk,exprK,nameK] at hr
   simp [-acells,-fin,-fin1,-fin2,-pl1,-pl2,-plain,-AV.atom,-getElem?_pos,len_zero,hw,hz]
   grind
 · rw [hk] at h
   simp [usesOf] at h
   subst h
   simp [hk,exprK,nameK] at hr
   simp [-acells,-fin,-fin1,-fin2,-pl1,-pl2,-plain,-AV.atom,-getElem?_pos,len_zero,hw,hz]
   grind
 · rw [hk] at h
   simp [usesOf] at h
   subst h
   simp [hk,exprK,nameK] at hr
   simp [-acells,-fin,-fin1,-fin2,-pl1,-pl2,-plain,-AV.atom,-getElem?_pos,len_zero,hw,hz]
   refine kCall.call hbl (by simp) ?_
   cases hB:blankE x.expr
   · rw [hB] at hr
     simp [-acells,-fin,-fin1,-fin2,-pl1,-pl2,-plain,-AV.atom,-getElem?_pos]
     simp at hr
     first | exact hr | exact hr.symm
   · rw [hB] at hr
     simp [-acells,-fin,-fin1,-fin2,-pl1,-pl2,-plain,-AV.atom,-getElem?_pos,len_zero,hw,hz]
     grind
 · rw [hk] at h
   simp [usesOf] at h
   subst h
   simp [hk,exprK,nameK] at hr
   simp [-acells,-fin,-fin1,-fin2,-pl1,-pl2,-plain,-AV.atom,-getElem?_pos,len_zero,hw,hz]
   grind
 · rw [hk] at h
   simp [usesOf] at h
   subst h
   simp [hk,exprK,nameK] at hr
   simp [-acells,-fin,-fin1,-fin2,-pl1,-pl2,-plain,-AV.atom,-getElem?_pos,len_zero,hw,hz]
   refine kCall.call hbl (by simp) ?_
   cases hB:blankE x.expr
   · rw [hB] at hr
     simp [-acells,-fin,-fin1,-fin2,-pl1,-pl2,-plain,-AV.atom,-getElem?_pos]
     simp at hr
     first | exact hr | exact hr.symm
   · rw [hB] at hr
     simp [-acells,-fin,-fin1,-fin2,-pl1,-pl2,-plain,-AV.atom,-getElem?_pos,len_zero,hw,hz]
     grind
 · rw [hk] at h
   simp [usesOf] at h
   subst h
   simp [hk,exprK,nameK] at hr
   simp [-acells,-fin,-fin1,-fin2,-pl1,-pl2,-plain,-AV.atom,-getElem?_pos,len_zero,hw,hz]
   refine kCall.call hbl (by simp) ?_
   cases hB:blankE x.expr
   · rw [hB] at hr
     simp [-acells,-fin,-fin1,-fin2,-pl1,-pl2,-plain,-AV.atom,-getElem?_pos]
     simp at hr
     first | exact hr | exact hr.symm
   · rw [hB] at hr
     simp [-acells,-fin,-fin1,-fin2,-pl1,-pl2,-plain,-AV.atom,-getElem?_pos,len_zero,hw,hz]
     grind
theorem grow364 (n:Nat) (hn:n≤3000) (σ:St):ACall Tryz.prog GG 364 [.sl 0 [] .nil,.int .i64 n] σ (fun r σ'=>(n=0∧r=.sl 0 [] .nil∧σ'=σ)∨(0<n∧r=.ms σ.H.length 0 0 1∧∃ c,σ'=σ.push (.cells c))):=by
 refine ACall.vcO oM mixed Tryz.func364 rfl (by kernel_rfl) ?_
 have h1:¬ (n:Int)<0:=by omega
 have hw:IntKind.i64.wrap (n:Int)=n:=wr (by omega) (by omega)
 have w0:IntKind.i64.wrap 0=0:=by decide
 by_cases h0:n=0
 · subst h0
   simp [capA,w0]
 · have h2:(0:Int)<n:=by omega
   have h3:0<n:=by omega
   have h4:(n:Int)≤1073741824:=by omega
   simp [capA,h1,hw,w0,h2,h3,h4,sliceA,boundA,thirdA,sliceTok,appendX,appendM,plainTD]
def CRs (T R:List Str) (v:AV) (σ:St):Prop:=(T=[]∧v=.sl 0 [] .nil)∨∃ b c,v=.ms b 0 R.length 1∧σ.H[b]?=some (.cells c)∧R.length*1≤c.length∧c.take (R.length*1)=(R.map encStr).flatten
theorem encStr_len (e:Str):(encStr e).length=1:=rfl
theorem flat_lenS:∀ (l:List Str),((l.map encStr).flatten).length=l.length*1
 | []=>rfl
 | a::r=>by simp only [List.map_cons,List.flatten_cons,List.length_append,encStr_len,flat_lenS r,List.length_cons];omega
theorem chunk_flatS:∀ (R:List Str) (c:List AV),R.length*1≤c.length→c.take (R.length*1)=(R.map encStr).flatten→chunk 1 R.length c=R.map encStr
 | [],c,_,_=>rfl
 | a::r,c,hl,h=>by
  have e1:c.take 1=encStr a:=by
   have:=congrArg (List.take 1) h
   rw [List.take_take,List.map_cons,List.flatten_cons,List.take_left' (encStr_len a)] at this
   rw [← this]
   congr 1
   try (simp only [List.length_cons];omega)
  have e2:(c.drop 1).take (r.length*1)=(r.map encStr).flatten:=by
   have:=congrArg (List.drop 1) h
   rw [List.map_cons,List.flatten_cons,List.drop_left' (encStr_len a),List.drop_take] at this
   rw [← this]
   congr 1
   try (simp only [List.length_cons];omega)
  rw [List.length_cons,chunk,e1,chunk_flatS r (c.drop 1) (by simp only [List.length_drop,List.length_cons] at hl ⊢;omega) e2,List.map_cons]
theorem app_stepS {T R X:List Str} {b:Nat} {c:List AV} {σ:St} (hb:σ.H[b]?=some (.cells c)) (hl:R.length*1≤c.length) (h:c.take (R.length*1)=(R.map encStr).flatten) (hR:R.length+X.length≤3000) :
 ∃ v' σ',appendX (Dof Tryz.prog) σ 23 23 (.ms b 0 R.length 1) (.sl 1 (X.map encStr) .none)=some (v',σ')∧CRs T (R++X) v' σ':=by
 cases X with
 | nil=>
  refine⟨.ms b 0 R.length 1,σ,?_,.inr ⟨b,c,by simp,hb,by simpa using hl,by simpa using h⟩⟩
  simp [appendX,appendM,plainTD,Abs.srcA]
 | cons x X=>
  refine⟨.ms σ.H.length 0 (R.length+(X.length+1)) 1,{ σ with H:=σ.H.set b .dead++[.cells (c.take (R.length*1)++((x::X).map encStr).flatten)] },?_,.inr ⟨σ.H.length,c.take (R.length*1)++((x::X).map encStr).flatten,by simp,by simp,?_,?_⟩⟩
  · have h1:R.length+(X.length+1)≤1073741824:=by simp at hR;omega
    have hl2:R.length≤c.length:=by omega
    simp [appendX,appendM,plainTD,Abs.srcA,hb,h1,hl2]
  · rw [h];simp only [List.length_append,flat_lenS];omega
  · rw [h,List.take_of_length_le (by simp only [List.length_append,flat_lenS];omega),List.map_append,List.flatten_append]
theorem concat315 (h s:List Str) (hh:h.length≤1000) (hs:s.length≤1000):Pure Tryz.prog GG 315 [.sl 1 [[.sl 1 (h.map encStr) .none],[.sl 1 (s.map encStr) .none]] .none] (.sl 1 ((h++s).map encStr) .none):=by
 refine Pure.vcO oM false mixed Tryz.func315 rfl (by kernel_rfl) ?_
 have w1:IntKind.i64.wrap (h.length:Int)=h.length:=wr (by omega) (by omega)
 have w2:IntKind.i64.wrap ((h.length:Int)+s.length)=h.length+s.length:=wr (by omega) (by omega)
 have n1:¬ (h.length:Int)<0:=by omega
 have n2:¬ (h.length:Int)+s.length<0:=by omega
 have wi:IntKind.i64.wrap 1=1:=by decide
 have wi2:IntKind.i64.wrap 2=2:=by decide
 simp
 refine vcLoop.intro (fun n env σ=>∃ i:Nat,i≤2∧n=2-i∧env 0=.sl 1 [[.sl 1 (h.map encStr) .none],[.sl 1 (s.map encStr) .none]] .none∧env 3=.int .i64 (if i=0 then 0 else if i=1 then h.length else h.length+s.length)∧env 9=.sl 1 [[.sl 1 (h.map encStr) .none],[.sl 1 (s.map encStr) .none]] .none∧env 10=.int .i64 2∧env 11=.int .i64 i∧σ=⟨[],[]⟩) 2 ⟨0,by simp⟩ ?_
 rintro n env σ ⟨i,hi,rfl,h0,h3,h9,h10,h11,rfl⟩
 have hcase:i=0∨i=1∨i=2:=by omega
 rcases hcase with rfl|rfl|rfl
 · simp [h0,h3,h9,h10,h11,w1,n1,wi]
   exact⟨1,by omega,1,by omega,rfl,rfl,rfl⟩
 · simp [h0,h3,h9,h10,h11,w2,n2,wi2]
   exact⟨2,by omega,by omega,rfl,rfl⟩
 · have hN:((h.length:Int)+s.length)=((h.length+s.length:Nat):Int):=by omega
   simp [h0,h3,h9,h10,h11]
   rw [hN]
   refine ACall.imp (grow364 (h.length+s.length) (by omega) ⟨[],[]⟩) ?_
   intro r σ' hr
   have hcr:CRs (h++s) [] r σ':=by
    rcases hr with ⟨h1,h2,h3⟩|⟨h1,h2,c,h3⟩
    · exact .inl ⟨List.eq_nil_of_length_eq_zero (by rw [List.length_append];exact h1),h2⟩
    · subst h3
      exact .inr ⟨0,c,h2,rfl,by simp,by simp⟩
   clear hr
   refine vcLoop.intro (fun n env σ=>∃ i:Nat,i≤2∧n=2-i∧env 25=.sl 1 [[.sl 1 (h.map encStr) .none],[.sl 1 (s.map encStr) .none]] .none∧env 26=.int .i64 2∧env 27=.int .i64 i∧CRs (h++s) (if i=0 then [] else if i=1 then h else h++s) (env 6) σ) 2 ⟨0,by simp [h0];exact hcr⟩ ?_
   clear h0 h3 h9 h10 h11 hcr
   rintro n env σ ⟨i,hi,rfl,h25,h26,h27,hcr⟩
   have hcase:i=0∨i=1∨i=2:=by omega
   rcases hcase with rfl|rfl|rfl
   · simp only [if_true] at hcr
     rcases hcr with ⟨ht,h6⟩|⟨b,c,h6,hb,hl,hc⟩
     · simp only [List.append_eq_nil_iff] at ht
       obtain⟨rfl,rfl⟩:=ht
       simp [h25,h26,h27,h6,wi,appendX,appendM,appendA,plainTD,Abs.srcA,rowsOf]
       exact⟨1,by omega,1,by omega,rfl,rfl,.inl ⟨rfl,rfl⟩⟩
     · obtain⟨v',σ',e1,e2⟩:=app_stepS (T:=h++s) (X:=h) hb hl hc (by simp;omega)
       simp only [List.length_nil] at h6 e1
       simp [h25,h26,h27,h6,wi,e1]
       exact⟨1,by omega,1,by omega,rfl,rfl,by simpa using e2⟩
   · simp only [Nat.one_ne_zero,if_false,if_true] at hcr
     rcases hcr with ⟨ht,h6⟩|⟨b,c,h6,hb,hl,hc⟩
     · simp only [List.append_eq_nil_iff] at ht
       obtain⟨rfl,rfl⟩:=ht
       simp [h25,h26,h27,h6,wi2,appendX,appendM,appendA,plainTD,Abs.srcA,rowsOf]
       exact⟨2,by omega,by omega,rfl,.inl ⟨rfl,rfl⟩⟩
     · obtain⟨v',σ',e1,e2⟩:=app_stepS (T:=h++s) (X:=s) hb hl hc (by omega)
       simp [h25,h26,h27,h6,wi2,e1]
       exact⟨2,by omega,by omega,rfl,by simpa using e2⟩
   · simp only [show ¬ (2:Nat)=0 by omega,show ¬ (2:Nat)=1 by omega,if_false] at hcr
     rcases hcr with ⟨ht,h6⟩|⟨b,c,h6,hb,hl,hc⟩
     · simp only [List.append_eq_nil_iff] at ht
       obtain⟨rfl,rfl⟩:=ht
       simp [h25,h26,h27,h6]
     · have hk:=chunk_flatS (h++s) c hl hc
       simp only [List.length_append,Nat.mul_one] at hk hl
       rw [List.length_append] at h6
       simp [h25,h26,h27,h6,hb,hl,hk,noRefss_append]
def encPl (p:Place):List AV:=[.int .i64 p.depth,.sl 1 (p.bound.map encStr) .none]
def plans244:List (Nat×Sch×List Nat):=[(1,.step 1 [9,8,6,5,4,3,2] (.fork (.cons 0 (.step 2 [9,8,6,5,4,3] (.step 3 [9,8,6,5,4] (.step 4 [9,8,6,5] (.step 5 [9,8] (.step 6 [9] (.step 7 [9,8] (.step 8 [9] (.step 9 [] (.done))))))))) (.cons 2 (.fork (.cons 0 (.step 3 [9,8,6,5,4] (.step 4 [9,8,6,5] (.step 5 [9,8] (.step 6 [9] (.step 7 [9,8] (.step 8 [9] (.step 9 [] (.done)))))))) (.cons 7 (.step 0 [9,8,6,5,4,3] (.step 3 [9,8,6,5,4] (.step 4 [9,8,6,5] (.step 5 [9,8] (.step 6 [9] (.step 8 [9] (.step 9 [] (.done)))))))) (.nil)))) (.cons 7 (.fork (.cons 0 (.step 2 [9,8,6,5,4,3] (.step 3 [9,8,6,5,4] (.step 4 [9,8,6,5] (.step 5 [9,8] (.step 6 [9] (.step 8 [9] (.step 9 [] (.done)))))))) (.cons 2 (.step 0 [9,8,6,5,4,3] (.step 3 [9,8,6,5,4] (.step 4 [9,8,6,5] (.step 5 [9,8] (.step 6 [9] (.step 8 [9] (.step 9 [] (.done)))))))) (.nil)))) (.nil))))),[0])]
theorem look244 {k:Int} {H:List Blk} {T:List (Option Nat)} {b:Nat} (hb:H[b]?=some (.map kindsM 6)):lookupA (Dof Tryz.prog) ⟨H,T⟩ 311 (.map b) (.int .i64 k) true=some (match usesOf k with
 | some us=>.tup [.agg us,.bool true]
 | none=>.tup [.agg [.bool false,.bool false,.bool false,.bool false,.bool false,.bool false,.bool false],.bool false]):=by
 simp only [lookupA,D311,mapKeyOk,D3,hb,kindsM]
 by_cases h1:k=1
 · subst h1;rfl
 by_cases h2:k=2
 · subst h2;rfl
 by_cases h3:k=3
 · subst h3;rfl
 by_cases h4:k=4
 · subst h4;rfl
 by_cases h5:k=5
 · subst h5;rfl
 by_cases h6:k=6
 · subst h6;rfl
 have e1:(k==1)=false:=by simpa using h1
 have e2:(k==2)=false:=by simpa using h2
 have e3:(k==3)=false:=by simpa using h3
 have e4:(k==4)=false:=by simpa using h4
 have e5:(k==5)=false:=by simpa using h5
 have e6:(k==6)=false:=by simpa using h6
 simp [findA,keyEq,e1,e2,e3,e4,e5,e6,h1,h2,h3,h4,h5,h6,usesOf,zeroA]
theorem usesOf_bools {k:Int} {us:List AV} (h:usesOf k=some us):∃ b1 b2 b3 b4 b5 b6 b7:Bool,us=[.bool b1,.bool b2,.bool b3,.bool b4,.bool b5,.bool b6,.bool b7]:=by
 unfold usesOf at h
 grind
theorem usesOf_some {k:Int} {us:List AV} (h:usesOf k=some us):knownK k=true:=by
 unfold usesOf at h
 unfold knownK
 grind
theorem usesOf_none {k:Int} (h:usesOf k=none):knownK k=false:=by
 unfold usesOf at h
 unfold knownK
 grind
set_option maxHeartbeats 8000000 in
theorem shape244 (x:It) (p:Place) (h:Hold1 x) (hl:Low1 x) (hd:p.depth≤1000000000) (hh:hgt x.expr<1000000):Pure Tryz.prog GG 244 [.agg (encI x),.agg (encPl p)] (.int .i64 (shapeE x p.depth)):=by
 refine Pure.kO ⟨false,plans244,[],[]⟩ false mixed Tryz.func244 rfl (by kernel_rfl) ?_
 simp only [encI_eq,encE_eq,encPl]
 simp [-acells,-fin,-fin1,-fin2,-pl1,-pl2,-plain,-AV.atom,-getElem?_pos]
 refine kC_cut (fun ev σ=>ev 2=.ptr 0 0∧ev 3=.ptr 1 0∧(∃ m us,ev 5=.ptr m 0∧ev 6=.bool (usesOf x.kind).isSome∧us=(usesOf x.kind).getD [.bool false,.bool false,.bool false,.bool false,.bool false,.bool false,.bool false]∧σ.H[m]?=some (.cells us))∧σ.H[0]?=some (.cells (encI x))∧σ.H[1]?=some (.cells (encPl p))∧σ.T=[]) ?_ ?_
 · rw [kC_plan rfl]
   simp [-acells,-fin,-fin1,-fin2,-pl1,-pl2,-plain,-AV.atom,-getElem?_pos,clsB,clsA]
   repeat' with_reducible refine And.intro ?_ ?_
   all_goals
    refine kCall.acall (kinds311 _) ?_
    rintro v σ' ⟨rfl,rfl⟩
    have lk:=fun (H:List Blk) (T:List (Option Nat)) (b:Nat) (hb:H[b]?=some (.map kindsM 6))=>look244 (k:=x.kind) (T:=T) hb
    cases hu:usesOf x.kind with
    | none=>
     simp only [hu] at lk
     simp [-acells,-fin,-fin1,-fin2,-pl1,-pl2,-plain,-AV.atom,-getElem?_pos,clsB,clsA,lk]
     simp [encI_eq,encE_eq,encPl]
    | some us=>
     simp only [hu] at lk
     obtain⟨b1,b2,b3,b4,b5,b6,b7,rfl⟩:=usesOf_bools hu
     simp [-acells,-fin,-fin1,-fin2,-pl1,-pl2,-plain,-AV.atom,-getElem?_pos,clsB,clsA,lk]
     simp [encI_eq,encE_eq,encPl]
 · rintro ev ⟨H,T⟩ ⟨h2,h3,⟨m,us,h5,h6,hus,hm⟩,hH0,hH1,hT⟩
   simp only at hT hm hH0 hH1
   subst hT
   have hr:shapeE x p.depth=if knownK x.kind=false∨plainI x=false∨4<p.depth∨(0<p.depth∧(x.kind=3∨x.kind=6)) then 1
    else if x.kind=3 then (if weightsE x.ws≠0 then weightsE x.ws else if varS x.name=false then 7 else 0)
    else if x.kind=6 then (if x.before=[]∨x.after=[] then 1 else if (x.before++x.after).any (fun s=>!varS s)=true then 7 else 0)
    else if x.kind=5 then (if nameS x.name=false∨nameS x.index=false then 7 else 0)
    else validE x.expr:=rfl
   generalize shapeE x p.depth=r at hr
   simp only [encI_eq,encE_eq,encPl,List.cons_append,List.nil_append] at hH0 hH1
   cases hu:usesOf x.kind with
   | none=>
    rw [hu] at h6
    have hk:knownK x.kind=false:=usesOf_none hu
    rw [if_pos (.inl hk)] at hr
    subst hr
    simp [-acells,-fin,-fin1,-fin2,-pl1,-pl2,-plain,-AV.atom,-getElem?_pos,h2,h3,h5,h6,hH0,hH1,hm]
   | some us'=>
    rw [hu] at h6 hus
    have hk:knownK x.kind=true:=usesOf_some hu
    have hus:us=us':=hus
    subst hus
    have hp:=plain312 x us hu hl.before hl.after
    obtain⟨b1,b2,b3,b4,b5,b6,b7,rfl⟩:=usesOf_bools hu
    simp only [encI_eq,encE_eq,List.cons_append,List.nil_append] at hp
    simp [-acells,-fin,-fin1,-fin2,-pl1,-pl2,-plain,-AV.atom,-getElem?_pos,h2,h3,h5,h6,hH0,hH1,hm]
    refine kCall.call hp (by simp) ?_
    cases hpl:plainI x
    · rw [if_pos (.inr (.inl hpl))] at hr
      subst hr
      simp [-acells,-fin,-fin1,-fin2,-pl1,-pl2,-plain,-AV.atom,-getElem?_pos,h2,h3,h5,h6,hH0,hH1,hm]
    by_cases c1:4<p.depth
    · have c1':(4:Int)<p.depth:=by omega
      rw [if_pos (.inr (.inr (.inl c1)))] at hr
      subst hr
      simp [-acells,-fin,-fin1,-fin2,-pl1,-pl2,-plain,-AV.atom,-getElem?_pos,h2,h3,h5,h6,hH0,hH1,hm,c1']
    have c1':¬ (4:Int)<p.depth:=by omega
    by_cases c2:0<p.depth∧(x.kind=3∨x.kind=6)
    · have c2':(0:Int)<p.depth:=by omega
      rw [if_pos (.inr (.inr (.inr c2)))] at hr
      subst hr
      rcases c2.2 with e|e<;>simp [-acells,-fin,-fin1,-fin2,-pl1,-pl2,-plain,-AV.atom,-getElem?_pos,h2,h3,h5,h6,hH0,hH1,hm,c1',c2.1,e]
    rw [if_neg (by simp only [hk,hpl];simp;omega)] at hr
    have hkk:x.kind=1∨x.kind=2∨x.kind=3∨x.kind=4∨x.kind=5∨x.kind=6:=by
     unfold knownK at hk
     simp at hk
     omega
    by_cases k3:x.kind=3
    · have hd0:p.depth=0:=by omega
      rw [if_pos k3] at hr
      simp [-acells,-fin,-fin1,-fin2,-pl1,-pl2,-plain,-AV.atom,-getElem?_pos,h2,h3,h5,h6,hH0,hH1,hm,c1',k3,hd0]
      refine kCall.call (weights313 x.ws h.ws) (by simp) ?_
      by_cases hw:weightsE x.ws=0
      · rw [if_neg (by rw [hw];simp)] at hr
        simp [-acells,-fin,-fin1,-fin2,-pl1,-pl2,-plain,-AV.atom,-getElem?_pos,hw,h2,hH0]
        refine kCall.call (isVar314 x.name h.name) (by simp) ?_
        cases hv:varS x.name
        · rw [if_pos hv] at hr
          subst hr
          simp [-acells,-fin,-fin1,-fin2,-pl1,-pl2,-plain,-AV.atom,-getElem?_pos]
        · rw [if_neg (by rw [hv];simp)] at hr
          subst hr
          simp [-acells,-fin,-fin1,-fin2,-pl1,-pl2,-plain,-AV.atom,-getElem?_pos]
      · rw [if_pos hw] at hr
        subst hr
        simp [-acells,-fin,-fin1,-fin2,-pl1,-pl2,-plain,-AV.atom,-getElem?_pos,hw]
    rw [if_neg k3] at hr
    by_cases k6:x.kind=6
    · have hd0:p.depth=0:=by omega
      rw [if_pos k6] at hr
      by_cases e1:x.before=[]
      · rw [if_pos (.inl e1)] at hr
        subst hr
        simp [-acells,-fin,-fin1,-fin2,-pl1,-pl2,-plain,-AV.atom,-getElem?_pos,h2,h3,h5,h6,hH0,hH1,hm,c1',k6,hd0,e1]
      by_cases e2:x.after=[]
      · rw [if_pos (.inr e2)] at hr
        subst hr
        simp [-acells,-fin,-fin1,-fin2,-pl1,-pl2,-plain,-AV.atom,-getElem?_pos,h2,h3,h5,h6,hH0,hH1,hm,c1',k6,hd0,e1,e2]
      rw [if_neg (by simp [e1,e2])] at hr
      simp [-acells,-fin,-fin1,-fin2,-pl1,-pl2,-plain,-AV.atom,-getElem?_pos,h2,h3,h5,h6,hH0,hH1,hm,c1',k6,hd0,e1,e2]
      refine kCall.less (concat315 x.before x.after hl.before hl.after) (by simp) (by simp) ?_
      have hnm:=h.names
      have hlen:(x.before++x.after).length≤2000:=by have:=hl.before;have:=hl.after;simp;omega
      generalize x.before++x.after=l at hr hnm hlen
      simp [-acells,-fin,-fin1,-fin2,-pl1,-pl2,-plain,-AV.atom,-getElem?_pos]
      refine kLoop.list l (fun d ev σ=>ev 79=.sl 1 (l.map encStr) .none∧ev 80=.int .i64 l.length∧ev 81=.int .i64 d.length∧(∃ H,σ=⟨H,[]⟩)∧∀ s∈d,varS s=true) (by simp) ?_ ?_
      · clear h2 h3 h5 h6
        rintro d v l' ev σ hd hv hlt ⟨h79,h80,h81,⟨H',rfl⟩,hz⟩
        simp [-acells,-fin,-fin1,-fin2,-pl1,-pl2,-plain,-AV.atom,-getElem?_pos,h79,h80,h81,hlt,hv]
        refine kCall.call (isVar314 v (hnm v (List.mem_of_getElem? hv))) (by simp) ?_
        cases hvs:varS v
        · rw [if_pos (List.any_eq_true.2 ⟨v,List.mem_of_getElem? hv,by simp [hvs]⟩)] at hr
          subst hr
          simp [-acells,-fin,-fin1,-fin2,-pl1,-pl2,-plain,-AV.atom,-getElem?_pos]
        · simp [-acells,-fin,-fin1,-fin2,-pl1,-pl2,-plain,-AV.atom,-getElem?_pos,h79,h80,h81]
          exact⟨wr (by omega) (by omega),hz_or hz hvs⟩
      · clear h2 h3 h5 h6
        rintro ev σ ⟨h79,h80,h81,⟨H',rfl⟩,hz⟩
        rw [if_neg (by rw [List.any_eq_true];rintro⟨s,hs,h⟩;rw [hz s hs] at h;cases h)] at hr
        subst hr
        simp [-acells,-fin,-fin1,-fin2,-pl1,-pl2,-plain,-AV.atom,-getElem?_pos,h80,h81]
    rw [if_neg k6] at hr
    have k36:¬ (x.kind=3∨x.kind=6):=by omega
    by_cases k5:x.kind=5
    · rw [if_pos k5] at hr
      by_cases hd0:p.depth=0
      · simp [-acells,-fin,-fin1,-fin2,-pl1,-pl2,-plain,-AV.atom,-getElem?_pos,h2,h3,h5,h6,hH0,hH1,hm,c1',k5,hd0]
        refine kCall.call (isName168 x.name) (by simp) ?_
        cases n1:nameS x.name
        · rw [if_pos (.inl n1)] at hr
          subst hr
          simp [-acells,-fin,-fin1,-fin2,-pl1,-pl2,-plain,-AV.atom,-getElem?_pos,n1]
        simp [-acells,-fin,-fin1,-fin2,-pl1,-pl2,-plain,-AV.atom,-getElem?_pos,n1,h2,hH0]
        refine kCall.call (isName168 x.index) (by simp) ?_
        cases n2:nameS x.index
        · rw [if_pos (.inr n2)] at hr
          subst hr
          simp [-acells,-fin,-fin1,-fin2,-pl1,-pl2,-plain,-AV.atom,-getElem?_pos]
        · rw [if_neg (by rw [n1,n2];simp)] at hr
          subst hr
          simp [-acells,-fin,-fin1,-fin2,-pl1,-pl2,-plain,-AV.atom,-getElem?_pos]
      · have c3:(0:Int)<p.depth:=by omega
        have c3n:0<p.depth:=by omega
        simp [-acells,-fin,-fin1,-fin2,-pl1,-pl2,-plain,-AV.atom,-getElem?_pos,h2,h3,h5,h6,hH0,hH1,hm,c1',k5,c3,c3n]
        refine kCall.call (isName168 x.name) (by simp) ?_
        cases n1:nameS x.name
        · rw [if_pos (.inl n1)] at hr
          subst hr
          simp [-acells,-fin,-fin1,-fin2,-pl1,-pl2,-plain,-AV.atom,-getElem?_pos,n1]
        simp [-acells,-fin,-fin1,-fin2,-pl1,-pl2,-plain,-AV.atom,-getElem?_pos,n1,h2,hH0]
        refine kCall.call (isName168 x.index) (by simp) ?_
        cases n2:nameS x.index
        · rw [if_pos (.inr n2)] at hr
          subst hr
          simp [-acells,-fin,-fin1,-fin2,-pl1,-pl2,-plain,-AV.atom,-getElem?_pos]
        · rw [if_neg (by rw [n1,n2];simp)] at hr
          subst hr
          simp [-acells,-fin,-fin1,-fin2,-pl1,-pl2,-plain,-AV.atom,-getElem?_pos]
    rw [if_neg k5] at hr
    by_cases hd0:p.depth=0
    · simp [-acells,-fin,-fin1,-fin2,-pl1,-pl2,-plain,-AV.atom,-getElem?_pos,h2,h3,h5,h6,hH0,hH1,hm,c1',k3,k5,k6,hd0]
      have hv:=valid88 x.expr h.expr hh
      rw [encE_eq] at hv
      refine kCall.call hv (by simp) ?_
      subst hr
      simp [-acells,-fin,-fin1,-fin2,-pl1,-pl2,-plain,-AV.atom,-getElem?_pos]
    · have c3:(0:Int)<p.depth:=by omega
      have c3n:0<p.depth:=by omega
      simp [-acells,-fin,-fin1,-fin2,-pl1,-pl2,-plain,-AV.atom,-getElem?_pos,h2,h3,h5,h6,hH0,hH1,hm,c1',k3,k5,k6,c3,c3n]
      have hv:=valid88 x.expr h.expr hh
      rw [encE_eq] at hv
      refine kCall.call hv (by simp) ?_
      subst hr
      simp [-acells,-fin,-fin1,-fin2,-pl1,-pl2,-plain,-AV.atom,-getElem?_pos]
section
theorem clone245A (l:List Str) (hl:l.length≤1000000) (σ:St):ACall Tryz.prog GG 245 [.sl 1 (l.map encStr) .none] σ (fun r σ'=>(l=[]∧σ'=σ∧(r=.sl 0 [] .nil∨r=.sl 1 [] .tight))∨(l≠[]∧r=.sl 1 (l.map encStr) (.chain σ.T.length l.length)∧σ'=⟨σ.H,σ.T++[some l.length]⟩)):=by
 refine ACall.k mixed Tryz.func245 rfl (by kernel_rfl) ?_
 cases l with
 | nil=>simp [appendA]
 | cons a r=>
  have hb:r.length+1≤1073741824:=by simp at hl;omega
  simp [appendA,hb]
def plans178:List (Nat×Sch×List Nat):=[(12,.step 0 [8,7,6,2,1] (.step 1 [8,7,6,2] (.step 3 [8,7,6,5,4] (.fork (.cons 2 (.step 4 [8,7,6,5] (.step 5 [8,7,6] (.step 6 [8,7] (.step 7 [8] (.step 8 [] (.done)))))) (.cons 4 (.step 5 [8,7,6] (.step 2 [8,7,6] (.step 6 [8,7] (.step 7 [8] (.step 8 [] (.done)))))) (.nil)))))),[2])]
section
variable {f:It→Place→Int} {vf:FuncId} {first cap:List AV} {S:St→Prop} {good:It→Prop}
def VisitOk (f:It→Place→Int) (vf:FuncId) (first cap:List AV) (S:St→Prop) (good:It→Prop):Prop :=
 ∀ x p σ,good x→p.depth≤1000000000→p.bound.length≤1000000→S σ→ACall Tryz.prog GG vf (first++[.agg (encI x),.agg (encPl p)]++cap) σ (fun r σ'=>r=.int .i64 (f x p)∧Ext σ σ')
def WalkOk (f:It→Place→Int) (vf:FuncId) (first cap:List AV) (S:St→Prop) (l:List It):Prop :=
 ∀ p σ,p.depth+(preIL l).length≤1000000000→p.bound.length+(preIL l).length≤1000000→S σ→ACall Tryz.prog GG 178 [.sl 12 (l.map encI) .none,.agg (encPl p),.fn vf first cap] σ (fun r σ'=>r=.int .i64 (firstE (fun y=>f y.1 y.2) (visIs p l))∧Ext σ σ')
theorem first_vis {g:It×Place→Int} {p:Place} {l d r:List It} {x:It} (hl:l=d++x::r) (hz:firstE g (visIs p d)=0) :
 firstE g (visIs p l)=if g (x,p)≠0 then g (x,p) else if firstE g (visIs (innerP x p) x.items)≠0 then firstE g (visIs (innerP x p) x.items) else if firstE g (visIs (innerD x p) x.els)≠0 then firstE g (visIs (innerD x p) x.els) else firstE g (visIs p r):=by
 rw [hl,visIs_append,firstE_append,if_pos hz,visIs_cons,visI_eq,List.cons_append,firstE]
 by_cases h0:g (x,p)=0
 · by_cases h1:firstE g (visIs (innerP x p) x.items)=0
   · by_cases h2:firstE g (visIs (innerD x p) x.els)=0
     · simp [firstE_append,h0,h1,h2]
     · simp [firstE_append,h0,h1,h2]
   · simp [firstE_append,h0,h1]
 · rw [if_neg h0,if_pos h0]
theorem first_vis_next {g:It×Place→Int} {p:Place} {d:List It} {x:It} (hz:firstE g (visIs p d)=0) (h0:g (x,p)=0) (h1:firstE g (visIs (innerP x p) x.items)=0) (h2:firstE g (visIs (innerD x p) x.els)=0):firstE g (visIs p (d++[x]))=0:=by
 rw [first_vis (r:=[]) rfl hz,if_neg (by simp [h0]),if_neg (by simp [h1]),if_neg (by simp [h2])]
 rfl
theorem innerP_bound (x:It) (p:Place):(innerP x p).bound=if x.kind=5 then p.bound++[x.index] else p.bound:=by
 unfold innerP innerD
 split
 · rfl
 · split<;>rfl
theorem innerD_bound (x:It) (p:Place):(innerD x p).bound=p.bound:=by
 unfold innerD
 split<;>rfl
theorem innerD_depth (x:It) (p:Place):(innerD x p).depth=if x.kind=4∨x.kind=5 then p.depth+1 else p.depth:=by
 unfold innerD
 split<;>rfl
theorem innerP_depth (x:It) (p:Place):(innerP x p).depth=(innerD x p).depth:=by
 unfold innerP innerD
 by_cases h5:x.kind=5
 · simp [h5]
 · simp [h5]
set_option maxHeartbeats 8000000 in
theorem walk178L (hS:∀ σ σ',S σ→Ext σ σ'→S σ') (hv:VisitOk f vf first cap S good) (l:List It) (hl:Fits l) (h:∀ x∈l,good x∧WalkOk f vf first cap S x.items∧WalkOk f vf first cap S x.els):WalkOk f vf first cap S l:=by
 intro p σ hd hb hs
 refine ACall.kO ⟨false,plans178,[],[]⟩ mixed Tryz.func178 rfl (by kernel_rfl) ?_
 obtain⟨H,T⟩:=σ
 simp [-acells,-fin,-fin1,-fin2,-pl1,-pl2,-plain,-AV.atom,-getElem?_pos,encPl]
 refine kLoop.listR l (fun d ev σ=>ev 2=.fn vf first cap∧ev 4=.ptr H.length 0∧ev 14=.sl 12 (l.map encI) .none∧ev 15=.int .i64 l.length∧ev 16=.int .i64 d.length∧Ext ⟨H++[.cells (encPl p)],T⟩ σ∧firstE (fun y=>f y.1 y.2) (visIs p d)=0) ?_ ?_ ?_
 · exact⟨by simp,by simp,by simp,by simp,by simp,Ext.refl,by simp [firstE]⟩
 · rintro d x r ev ⟨H1,T1⟩ R hR hdl hx hlt ⟨h2,h4,h14,h15,h16,he,hz⟩
   obtain⟨gx,w1,w2⟩:=h x (List.mem_of_getElem? hx)
   have hfst:=first_vis (g:=fun y=>f y.1 y.2) hdl hz
   have hE0:Ext ⟨H,T⟩ ⟨H1,T1⟩:=Ext.push.trans he
   have e4:H1[H.length]?=some (.cells [.int .i64 p.depth,.sl 1 (p.bound.map encStr) .none]):=he.at (by simp [encPl])
   have hsub:(preI x).length≤(preIL l).length:=by
    rw [hdl,preIL_append];simp [preIL];omega
   have hsz:(preI x).length=1+(preIL x.items).length+(preIL x.els).length:=by rw [preI_eq];simp;omega
   simp [-acells,-fin,-fin1,-fin2,-pl1,-pl2,-plain,-AV.atom,-getElem?_pos,h2,h4,h14,h15,h16,hx,hlt,encI_eq,encE_eq,look_app e4]
   have hvis:=hv x p ⟨H1++[.cells (encI x)],T1⟩ gx (by omega) (by omega) (hS _ _ hs (hE0.trans Ext.push))
   simp only [encI_eq,encE_eq,encPl,List.cons_append,List.nil_append,List.append_assoc] at hvis
   refine kCall.acall (by simpa using hvis) ?_
   rintro v ⟨H2,T2⟩ ⟨rfl,he2⟩
   have hE2:Ext ⟨H,T⟩ ⟨H2,T2⟩:=hE0.trans (Ext.push.trans he2)
   have e42:H2[H.length]?=some (.cells [.int .i64 p.depth,.sl 1 (p.bound.map encStr) .none]):=he2.at (look_app e4 _)
   have e82:H2[H1.length]?=some (.cells (encI x)):=by
    have:=he2.at (k:=H1.length) (x:=.cells (encI x)) (by simp [encI_eq,encE_eq])
    exact this
   simp only [encI_eq,encE_eq,List.cons_append,List.nil_append] at e82
   by_cases hf:f x p=0
   · simp [-acells,-fin,-fin1,-fin2,-pl1,-pl2,-plain,-AV.atom,-getElem?_pos,-kT_guard,hf,h2,h4,h14,h15,h16,e42,e82,look_app e42,look_app e82]
     refine kT_cut (fun ev σ=>ev 2=.fn vf first cap∧ev 4=.ptr H.length 0∧ev 8=.ptr H1.length 0∧ev 10=.ptr H2.length 0∧ev 14=.sl 12 (l.map encI) .none∧ev 15=.int .i64 l.length∧ev 16=.int .i64 d.length ∧
      ev 39=.bool (decide (x.kind=4∨x.kind=5))∧σ=⟨H2++[.cells [.int .i64 p.depth,.sl 1 (p.bound.map encStr) .none]],T2⟩) ?_ ?_
     · by_cases k4:x.kind=4
       · simp [-acells,-fin,-fin1,-fin2,-pl1,-pl2,-plain,-AV.atom,-getElem?_pos,h2,h4,h14,h15,h16,k4]
       · simp [-acells,-fin,-fin1,-fin2,-pl1,-pl2,-plain,-AV.atom,-getElem?_pos,h2,h4,h14,h15,h16,k4,look_app e82]
         rfl
     clear h2 h4 h14 h15 h16
     rintro ev σ ⟨h2,h4,h8,h10,h14,h15,h16,h39,rfl⟩
     simp [-acells,-fin,-fin1,-fin2,-pl1,-pl2,-plain,-AV.atom,-getElem?_pos,-kCd_bool,h39]
     refine kCd_cut (fun ev σ=>ev 2=.fn vf first cap∧ev 4=.ptr H.length 0∧ev 8=.ptr H1.length 0∧ev 10=.ptr H2.length 0∧ev 14=.sl 12 (l.map encI) .none∧ev 15=.int .i64 l.length∧ev 16=.int .i64 d.length ∧
      σ=⟨H2++[.cells [.int .i64 (innerD x p).depth,.sl 1 (p.bound.map encStr) .none]],T2⟩) ?_ ?_
     · rw [innerD_depth]
       by_cases k45:x.kind=4∨x.kind=5
       · have hw:IntKind.i64.wrap ((p.depth:Int)+1)=p.depth+1:=wr (by omega) (by omega)
         simp [-acells,-fin,-fin1,-fin2,-pl1,-pl2,-plain,-AV.atom,-getElem?_pos,h2,h4,h8,h10,h14,h15,h16,k45,hw]
         omega
       · simp [-acells,-fin,-fin1,-fin2,-pl1,-pl2,-plain,-AV.atom,-getElem?_pos,h2,h4,h8,h10,h14,h15,h16,k45]
     clear h2 h4 h8 h10 h14 h15 h16 h39
     rintro ev σ ⟨h2,h4,h8,h10,h14,h15,h16,rfl⟩
     simp [-acells,-fin,-fin1,-fin2,-pl1,-pl2,-plain,-AV.atom,-getElem?_pos,-kCd_bool,h2,h4,h8,h10,h14,h15,h16,look_app e82]
     refine kCd_cut (fun ev σ=>ev 2=.fn vf first cap∧ev 4=.ptr H.length 0∧ev 8=.ptr H1.length 0∧ev 10=.ptr H2.length 0∧ev 11=.ptr (H2.length+1) 0∧ev 14=.sl 12 (l.map encI) .none∧ev 15=.int .i64 l.length∧ev 16=.int .i64 d.length ∧
      ∃ bv T3,σ=⟨H2++[.cells [.int .i64 (innerP x p).depth,bv],.cells [.int .i64 (innerD x p).depth,.sl 1 (p.bound.map encStr) .none]],T3⟩∧T2 <+: T3∧Leq bv (.sl 1 ((innerP x p).bound.map encStr) .none)) ?_ ?_
     · rw [innerP_bound,innerP_depth]
       by_cases k5:x.kind=5
       · simp [-acells,-fin,-fin1,-fin2,-pl1,-pl2,-plain,-AV.atom,-getElem?_pos,h2,h4,h8,h10,h14,h15,h16,k5,look_app e82]
         rw [kC_plan rfl]
         simp [-acells,-fin,-fin1,-fin2,-pl1,-pl2,-plain,-AV.atom,-getElem?_pos,clsB,clsA,h2,h4,h8,h10,h14,h15,h16,k5,look_app e82,look_app e42]
         repeat' with_reducible refine And.intro ?_ ?_
         all_goals
          refine kCall.acall (clone245A p.bound (by omega) _) ?_
          rintro v ⟨H3,T3⟩ (⟨hb0,hσ,rfl|rfl⟩|⟨hb0,rfl,hσ⟩)<;>cases hσ
          · simp [-acells,-fin,-fin1,-fin2,-pl1,-pl2,-plain,-AV.atom,-getElem?_pos,clsB,clsA,h2,h4,h8,h10,h14,h15,h16,k5,look_app e82,look_app e42,appendA,hb0]
            exact⟨_,_,⟨rfl,rfl⟩,List.prefix_append _ _,Leq.sl rfl⟩
          · simp [-acells,-fin,-fin1,-fin2,-pl1,-pl2,-plain,-AV.atom,-getElem?_pos,clsB,clsA,h2,h4,h8,h10,h14,h15,h16,k5,look_app e82,look_app e42,appendA,hb0]
            exact⟨_,_,⟨rfl,rfl⟩,List.prefix_append _ _,Leq.sl rfl⟩
          · have hbl:p.bound.length+1≤1073741824:=by omega
            have htk:(T2++[some p.bound.length])[T2.length]?=some (some p.bound.length):=by simp
            simp [-acells,-fin,-fin1,-fin2,-pl1,-pl2,-plain,-AV.atom,-getElem?_pos,clsB,clsA,h2,h4,h8,h10,h14,h15,h16,k5,look_app e82,look_app e42,appendA,hb0,hbl,htk]
            exact⟨_,_,⟨rfl,rfl⟩,List.prefix_append _ _,Leq.sl (by simp)⟩
       · simp [-acells,-fin,-fin1,-fin2,-pl1,-pl2,-plain,-AV.atom,-getElem?_pos,h2,h4,h8,h10,h14,h15,h16,k5]
         exact⟨_,_,⟨rfl,rfl⟩,List.prefix_rfl,Leq.refl _⟩
     clear h2 h4 h8 h10 h14 h15 h16
     rintro ev σ ⟨h2,h4,h8,h10,h11,h14,h15,h16,bv,T3,rfl,hT3,hbv⟩
     have hE3:Ext ⟨H,T⟩ ⟨H2++[.cells [.int .i64 (innerP x p).depth,bv],.cells [.int .i64 (innerD x p).depth,.sl 1 (p.bound.map encStr) .none]],T3⟩:=hE2.trans (Ext.pushT hT3)
     simp [-acells,-fin,-fin1,-fin2,-pl1,-pl2,-plain,-AV.atom,-getElem?_pos,h2,h4,h8,h10,h11,h14,h15,h16,look_app e82]
     have hpd:(innerP x p).depth+(preIL x.items).length≤1000000000∧(innerD x p).depth+(preIL x.els).length≤1000000000:=by
      rw [innerP_depth,innerD_depth]
      split<;>omega
     have hpb:(innerP x p).bound.length+(preIL x.items).length≤1000000∧(innerD x p).bound.length+(preIL x.els).length≤1000000:=by
      rw [innerP_bound,innerD_bound]
      split
      · rw [List.length_append,List.length_singleton];omega
      · omega
     refine kCall.acall ((w1 (innerP x p) _ hpd.1 hpb.1 (hS _ _ hs hE3)).leq (by simp [encPl,LeqL,Leq,hbv])) ?_
     rintro v ⟨H4,T4⟩ ⟨rfl,he4⟩
     have hE4:=hE3.trans he4
     by_cases hf1:firstE (fun y=>f y.1 y.2) (visIs (innerP x p) x.items)=0
     · have e84:=he4.at (look_app e82 _)
       have e11:H4[H2.length+1]?=some (.cells [.int .i64 (innerD x p).depth,.sl 1 (p.bound.map encStr) .none]):=he4.at (by simp)
       simp [-acells,-fin,-fin1,-fin2,-pl1,-pl2,-plain,-AV.atom,-getElem?_pos,hf1,h2,h4,h8,h10,h11,h14,h15,h16,e84,e11]
       refine kCall.acall ((w2 (innerD x p) _ hpd.2 hpb.2 (hS _ _ hs hE4)).leq (by simp [encPl,LeqL,Leq,innerD_bound])) ?_
       rintro v ⟨H5,T5⟩ ⟨rfl,he5⟩
       by_cases hf2:firstE (fun y=>f y.1 y.2) (visIs (innerD x p) x.els)=0
       · simp [-acells,-fin,-fin1,-fin2,-pl1,-pl2,-plain,-AV.atom,-getElem?_pos,hf2,h2,h4,h14,h15,h16]
         refine hR _ _ ⟨by simp [h2],by simp [h4],by simp [h14],by simp [h15],by simp [h16];exact wr (by omega) (by omega),?_,first_vis_next hz hf hf1 hf2⟩
         exact he.trans (Ext.push.trans (he2.trans ((Ext.pushT hT3).trans (he4.trans he5))))
       · rw [hfst,if_neg (by simp [hf]),if_neg (by simp [hf1]),if_pos hf2]
         simp [-acells,-fin,-fin1,-fin2,-pl1,-pl2,-plain,-AV.atom,-getElem?_pos,hf2]
         exact hE4.trans he5
     · rw [hfst,if_neg (by simp [hf]),if_pos hf1]
       simp [-acells,-fin,-fin1,-fin2,-pl1,-pl2,-plain,-AV.atom,-getElem?_pos,hf1]
       exact hE4
   · rw [hfst,if_pos hf]
     simp [-acells,-fin,-fin1,-fin2,-pl1,-pl2,-plain,-AV.atom,-getElem?_pos,hf]
     exact hE2
 · rintro ev σ ⟨h2,h4,h14,h15,h16,he,hz⟩
   simp [-acells,-fin,-fin1,-fin2,-pl1,-pl2,-plain,-AV.atom,-getElem?_pos,h14,h15,h16,hz]
   exact Ext.push.trans he
end
theorem walk178 {f:It→Place→Int} {vf:FuncId} {first cap:List AV} {S:St→Prop} {good:It→Prop} (hS:∀ σ σ',S σ→Ext σ σ'→S σ') (hv:VisitOk f vf first cap S good) (l:List It) (hg:∀ y∈preIL l,good y) (hfit:∀ y∈preIL l,Fits y.items∧Fits y.els) (hl:Fits l):WalkOk f vf first cap S l:=by
 have one:∀ x:It,(∀ y∈preI x,good y∧Fits y.items∧Fits y.els)→WalkOk f vf first cap S x.items∧WalkOk f vf first cap S x.els:=by
  refine It.ind fun x ih1 ih2 hx=>?_
  have hi:∀ a∈x.items,∀ y∈preI a,y∈preI x:=fun a ha y hy=>by
   rw [preI_eq];exact List.mem_cons_of_mem _ (List.mem_append.2 (.inl (mem_preIL.2 ⟨a,ha,hy⟩)))
  have he:∀ a∈x.els,∀ y∈preI a,y∈preI x:=fun a ha y hy=>by
   rw [preI_eq];exact List.mem_cons_of_mem _ (List.mem_append.2 (.inr (mem_preIL.2 ⟨a,ha,hy⟩)))
  have hself:∀ a:It,a∈preI a:=fun a=>by rw [preI_eq];simp
  exact⟨walk178L hS hv x.items (hx x (hself x)).2.1 fun a ha=>⟨(hx a (hi a ha a (hself a))).1,ih1 a ha fun y hy=>hx y (hi a ha y hy)⟩,
   walk178L hS hv x.els (hx x (hself x)).2.2 fun a ha=>⟨(hx a (he a ha a (hself a))).1,ih2 a ha fun y hy=>hx y (he a ha y hy)⟩⟩
 exact walk178L hS hv l hl fun x hx=>⟨hg x (mem_preIL.2 ⟨x,hx,by rw [preI_eq];simp⟩),one x fun y hy=>⟨hg y (mem_preIL.2 ⟨x,hx,hy⟩),hfit y (mem_preIL.2 ⟨x,hx,hy⟩)⟩⟩
end
end Go.Proofs.YtpgcmnabljandaaGreatDoor
end
