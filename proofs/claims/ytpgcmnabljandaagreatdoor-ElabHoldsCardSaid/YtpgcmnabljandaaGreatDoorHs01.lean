/- A part of the proof: Walk37 AbsVal. -/
import Derived.Test.YtpgcmnabljandaaGreatDoorGa40
import Derived.Test.YtpgcmnabljandaaGreatDoorGa17
set_option linter.unusedVariables false
set_option linter.unusedSimpArgs false
set_option maxRecDepth 100000
section
namespace Go.Proofs.YtpgcmnabljandaaGreatDoor
open Go Go.Abs
theorem zip_get {l:List Var} {a:List Int} {i:Nat} {v:Var} {x:Int} (h:l[i]?=some v) (h':a[i]?=some x):(l.zip a)[i]?=some (v,x):=(List.getElem?_zip_eq_some (z:=(v,x))).2 ⟨h,h'⟩
theorem assignsS_no {l:List Var} {a:List Int} (h:¬ a.length=l.length):assignsS l a=false:=by simp [assignsS,h]
theorem assignsS_bad {l:List Var} {a:List Int} {i:Nat} {v:Var} {x:Int} (h:l[i]?=some v) (h':a[i]?=some x) (hb:assign1 (v,x)=false):assignsS l a=false:=by
 unfold assignsS
 rw [all_bad (List.mem_of_getElem? (zip_get h h')) hb,Bool.and_false]
theorem assignsS_good {l:List Var} {a:List Int} {i:Nat} (hlen:a.length=l.length) (hi:l.length≤i) (hz:∀ q∈(l.zip a).take i,assign1 q=true):assignsS l a=true:=by
 unfold assignsS
 rw [decide_eq_true hlen,Bool.true_and]
 exact all_take (by simp;omega) hz
theorem varE_range {v:Var} (h:varE v=0):1≤v.width∧v.width≤8:=(varE_zero h).2
set_option maxHeartbeats 4000000 in
theorem assigns71 (p:Problem) (a:List Int) (hl:p.vars.length≤1000) (ha:Fits a) (hv:∀ v∈p.vars,varE v=0):Pure Tryz.prog GG 71 [.agg (encP p),.sl 1 (a.map encInt) .none] (.bool (assignsS p.vars a)):=by
 refine Pure.vc mixed Tryz.func71 rfl (by kernel_rfl) ?_
 by_cases hlen:a.length=p.vars.length
 · generalize hr:assignsS p.vars a=r
   simp [hlen]
   refine vcLoop.intro (fun n ev σ=>∃ i tl,i≤p.vars.length∧n=p.vars.length-i∧ev 1=.sl 1 (a.map encInt) .none∧ev 14=.sl 4 (p.vars.map encVar) .none∧ev 15=.int .i64 p.vars.length∧ev 16=.int .i64 i∧σ=⟨tl,[]⟩∧∀ q∈(p.vars.zip a).take i,assign1 q=true) p.vars.length ⟨0,_,by simp,by simp,by simp,by simp,by simp,by simp,rfl,by simp⟩ ?_
   rintro n ev σ ⟨i,tl,hi,rfl,h1,h14,h15,h16,rfl,hz⟩
   cases hvi:p.vars[i]? with
   | some v=>
    obtain⟨hc,hv'⟩:=List.getElem?_eq_some_iff.1 hvi
    have hca:i<a.length:=by omega
    obtain⟨x,hx⟩:∃ x,a[i]?=some x:=⟨_,List.getElem?_eq_getElem hca⟩
    have hx':=(List.getElem?_eq_some_iff.1 hx).2
    obtain⟨w1,w8⟩:=varE_range (hv v (List.mem_of_getElem? hvi))
    have hs:IntKind.i64.wrap (2 ^ min v.width.toNat IntKind.i64.bits)=2 ^ v.width.toNat:=shl1 w1 w8
    have hw0:¬ v.width<0:=by omega
    have bad:assign1 (v,x)=false→r=false:=fun hb=>by rw [← hr];exact assignsS_bad hvi hx hb
    have good:assign1 (v,x)=true→∀ q∈(p.vars.zip a).take (i+1),assign1 q=true:=fun hg=>take_succ_all (p:=fun q=>assign1 q=true) (zip_get hvi hx) hz hg
    by_cases c1:x<0
    · rw [bad (by simp only [assign1];rw [decide_eq_false (by omega:¬ 0≤x)];rfl)]
      simp [h1,h14,h15,h16,hc,hca,hv',hx',List.set_append,c1]
    by_cases c2:(2:Int) ^ v.width.toNat≤x
    · rw [bad (by simp only [assign1];rw [decide_eq_false (by omega:¬ x<2 ^ v.width.toNat)];simp)]
      simp [h1,h14,h15,h16,hc,hca,hv',hx',List.set_append,c1,hs,hw0,c2]
    by_cases c3:v.mode=0
    · by_cases c4:x=v.value
      · have g:=good (by simp only [assign1];rw [decide_eq_true (by omega:0≤x),decide_eq_true (by omega:x<2 ^ v.width.toNat),decide_eq_true c4];simp)
        subst c4
        simp [h1,h14,h15,h16,hc,hca,hv',hx',List.set_append,c1,hs,hw0,c2,c3]
        exact⟨_,by omega,i+1,by omega,rfl,wr (by omega) (by omega),by simpa using g⟩
      · rw [bad (by simp only [assign1];rw [decide_eq_true c3,decide_eq_false c4];simp)]
        simp [h1,h14,h15,h16,hc,hca,hv',hx',List.set_append,c1,hs,hw0,c2,c3,c4]
    · have g:=good (by simp only [assign1];rw [decide_eq_true (by omega:0≤x),decide_eq_true (by omega:x<2 ^ v.width.toNat),decide_eq_false c3];simp)
      simp [h1,h14,h15,h16,hc,hca,hv',hx',List.set_append,c1,hs,hw0,c2,c3]
      exact⟨_,by omega,i+1,by omega,rfl,wr (by omega) (by omega),by simpa using g⟩
   | none=>
    have hle:p.vars.length≤i:=by simpa using hvi
    have hc:¬ i<p.vars.length:=by omega
    rw [assignsS_good hlen hle hz] at hr
    subst hr
    simp [h1,h14,h15,h16,hc]
 · rw [assignsS_no hlen]
   have hlen':¬ (a.length:Int)=p.vars.length:=by omega
   simp [hlen,hlen']
theorem holdsS_eq (p:Problem) (a:List Int) (e:Ex):holdsS p a e=(decide (validP p=0)&&assignsS p.vars a&&decide (evalE (envS p.vars a) e=0)&&!decide (evalV (envS p.vars a) e=0)):=rfl
theorem holds19q (p:Problem) (a:List Int) (e:Ex) (h:VQ p) (ha:Fits a) (hwe:Wen e) (hh:hgt e≤1000) (hsz:(pre e).length≤100000):Pure Tryz.prog GG 19 [.agg (encP p),.sl 1 (a.map encInt) .none,.agg (encE e)] (.bool (holdsS p a e)):=by
 refine Pure.vc mixed Tryz.func19 rfl (by kernel_rfl) ?_
 have hva:=valid14q p h
 have hen:=env16 p a h.vars ha
 have hev:=eval37 (envS p.vars a) (by have:=envS_len (l:=p.vars) (a:=a);have:=h.vars;omega) e hwe (by omega) hsz
 have hr:=holdsS_eq p a e
 generalize holdsS p a e=r at hr ⊢
 simp only [encP] at hva hen
 simp only [encE_eq e]
 simp
 refine vcCall.call hva (by simp) ?_
 by_cases h0:validP p=0
 · have has:=assigns71 p a h.vars ha (validP_vars h0)
   simp only [encP] at has
   simp [h0]
   refine vcCall.call has (by simp) ?_
   rw [decide_eq_true h0,Bool.true_and] at hr
   cases hc:assignsS p.vars a
   · rw [hc] at hr
     subst hr
     simp
   · rw [hc,Bool.true_and] at hr
     simp
     refine vcCall.call hen (by simp) ?_
     try simp [encE_eq e]
     try rw [← encE_eq e]
     refine vcCall.call hev (by simp) ?_
     by_cases h1:evalE (envS p.vars a) e=0
     · by_cases h2:evalV (envS p.vars a) e=0
       · rw [decide_eq_true h1,decide_eq_true h2] at hr
         subst hr
         simp [h1,h2]
       · rw [decide_eq_true h1,decide_eq_false h2] at hr
         subst hr
         simp [h1,h2]
     · rw [decide_eq_false h1] at hr
       simp at hr
       subst hr
       simp [h1]
 · rw [decide_eq_false h0] at hr
   simp at hr
   subst hr
   simp [h0]
structure Sees (l:List Var) (env:List Signal):Prop where
 has:∀ s,(findV env s).isSome=hasV l s
 down:∀ a i,i<7→nameS a=true→hasV l (elemS a (i+1))=true→hasV l (elemS a i)=true
theorem Sees.none_of {l:List Var} {env:List Signal} (h:Sees l env) {a:Str} (ha:nameS a=true):∀ i,sizeA l a≤i→i<8→findV env (elemS a i)=none:=by
 intro i hi h8
 have hnot:hasV l (elemS a (sizeA l a))=false:=sizeA_not (by omega)
 have key:∀ k,sizeA l a+k<8→hasV l (elemS a (sizeA l a+k))=false:=by
  intro k
  induction k with
  | zero=>intro _;exact hnot
  | succ k ih=>
   intro hk
   rw [Bool.eq_false_iff]
   intro hh
   have:=h.down a (sizeA l a+k) (by omega) ha hh
   rw [ih (by omega)] at this;cases this
 have:=key (i-sizeA l a) (by omega)
 rw [show sizeA l a+(i-sizeA l a)=i by omega] at this
 have h2:=h.has (elemS a i)
 rw [this] at h2
 simpa using h2
theorem atV_out {l:List Var} {env:List Signal} (h:Sees l env) {a:Str} (ha:nameS a=true) {x:Int} (hx:(sizeA l a:Int)≤x):atV env a x=0:=by
 unfold atV
 split
 · rename_i hr
   rw [h.none_of ha x.toNat (by omega) (by omega)];rfl
 · rfl
theorem valV_item (env:List Signal) (a:Str) (i:Nat) (hi:i<8):valV env (itemE a i)=atV env a i:=by
 unfold itemE
 rw [valV_eq]
 unfold atV
 rw [if_pos (by omega)]
 simp [nodeV]
theorem valV_const (env:List Signal) (n:Int):valV env (constE n)=n:=by
 unfold constE
 rw [valV_eq]
 simp [nodeV]
theorem valV_sum (env:List Signal) (a:Str):∀ k,k<8→valV env (sumE a k)=sumV env a (k+1)
 | 0,_=>by
  have hr:=atV_range env a 0
  rw [sumE,valV_item env a 0 (by omega)]
  simp only [sumV,Int.zero_add]
  rw [wrapW_id]<;>simp<;>omega
 | k+1,h=>by
  have ih:=valV_sum env a k (by omega)
  rw [sumE,valV_eq]
  simp only [Ex.op_mk,Ex.n_mk,Ex.name_mk,Ex.args_mk,List.map_cons,List.map_nil]
  rw [ih,valV_item env a (k+1) h]
  simp [nodeV,opW,binW,sumV]
theorem sumV_over {l:List Var} {env:List Signal} (h:Sees l env) {a:Str} (ha:nameS a=true):∀ k,sizeA l a+k≤8→sumV env a (sizeA l a+k)=sumV env a (sizeA l a)
 | 0,_=>rfl
 | k+1,hk=>by
  have ih:=sumV_over h ha k (by omega)
  have hr:=sumV_range env a (sizeA l a)
  rw [← Nat.add_assoc,sumV,ih,atV_out h ha (by omega),Int.add_zero,wrapW_id hr.1 hr.2]
theorem valV_ifs (env:List Signal) (a:Str) (idx:Ex) (n:Nat) (h8:n≤8) (hr:0≤valV env idx):∀ k,k≤n→valV env (ifsE a idx n k)=if (n:Int)-k≤valV env idx∧valV env idx<n then atV env a (valV env idx) else 0
 | 0,_=>by
  rw [ifsE,valV_const,if_neg (by omega)]
 | k+1,hk=>by
  have ih:=valV_ifs env a idx n h8 hr k (by omega)
  rw [ifsE,valV_eq]
  simp only [Ex.op_mk,Ex.n_mk,Ex.name_mk,Ex.args_mk,List.map_cons,List.map_nil]
  rw [ih,valV_item env a _ (by omega),valV_eq env (Ex.mk 15 0 [] _)]
  simp only [Ex.op_mk,Ex.n_mk,Ex.name_mk,Ex.args_mk,List.map_cons,List.map_nil]
  rw [valV_const]
  generalize valV env idx=x at *
  have e1:((n-1-k:Nat):Int)=(n:Int)-1-k:=by omega
  have hq:nodeV env 15 0 [] [x,((n-1-k:Nat):Int)]=b2i (decide (x=(n:Int)-1-k)):=by
   rw [e1];simp [nodeV,opW,binW]
  rw [hq]
  have hn22:∀ c y z:Int,nodeV env 22 0 [] [c,y,z]=if c≠0 then y else z:=fun c y z=>by simp [nodeV,opW]
  rw [hn22]
  by_cases hx:x=(n:Int)-1-k
  · rw [decide_eq_true hx]
    rw [if_pos (by decide),if_pos (by omega),e1,← hx]
  · rw [decide_eq_false hx]
    rw [if_neg (by decide)]
    by_cases hy:(n:Int)-k≤x∧x<n
    · rw [if_pos hy,if_pos (by omega)]
    · rw [if_neg hy,if_neg (by omega)]
theorem sc_val {l:List Var} {env:List Signal} (h:Sees l env):∀ e,NodesOk e→unkB l e=false→valV env (scE l e)=valV env e:=by
 refine Ex.ind fun e ih hn hu=>?_
 have ih':∀ a∈e.args,valV env (scE l a)=valV env a:=fun a ha=>ih a ha (hn.arg ha) (unkB_arg hu ha)
 obtain⟨k1,k2,k3,k4,k5,k6,k7,k8⟩:=nodeE_zero hn.self
 have h8:=sizeA_le l e.name
 rw [scE_eq]
 by_cases c24:e.op=24
 · have hs:=unk1_size (unkB_self hu) (.inr c24)
   have hnm:=k7 (.inr c24)
   rw [if_pos c24,valV_sum env e.name _ (by omega),valV_eq env e]
   have e1:sizeA l e.name-1+1=sizeA l e.name:=by omega
   have e2:=sumV_over h hnm (8-sizeA l e.name) (by omega)
   rw [show sizeA l e.name+(8-sizeA l e.name)=8 by omega] at e2
   rw [e1,← e2]
   unfold nodeV
   rw [if_neg (by omega),if_neg (by omega),if_neg (by omega),if_pos c24]
 rw [if_neg c24]
 by_cases c3:e.op=3
 · have hnm:=k7 (.inl c3)
   obtain⟨a,ha⟩:=args1 hn c3
   have ia:=ih' a (by rw [ha];simp)
   have hra:=valV_range env a (hn.arg (by rw [ha];simp))
   have hoa:=extOk l a (hn.arg (by rw [ha];simp)) (unkB_arg hu (by rw [ha];simp))
   have xh:headE (e.args.map (scE l))=scE l a:=by rw [ha];rfl
   have hve:valV env e=atV env e.name (valV env a):=by
    rw [valV_eq,ha]
    unfold nodeV
    rw [if_neg (by omega),if_neg (by omega),if_pos c3]
    rfl
   rw [if_pos c3,xh,hve]
   unfold chainE
   by_cases co:(scE l a).op=1
   · rw [if_pos co]
     have hval:valV env (scE l a)=(scE l a).n:=by
      rw [valV_eq];unfold nodeV;rw [if_pos co]
     rw [ia] at hval
     by_cases cl:(scE l a).n<(sizeA l e.name:Int)
     · rw [if_pos cl,valV_item env e.name _ (by omega)]
       congr 1
       omega
     · rw [if_neg cl,valV_const,atV_out h hnm (by omega)]
   · rw [if_neg co,valV_ifs env e.name (scE l a) _ h8 (by rw [ia];exact hra.1) _ (Nat.le_refl _),ia]
     by_cases cl:valV env a<(sizeA l e.name:Int)
     · rw [if_pos ⟨by omega,cl⟩]
     · rw [if_neg (fun hh=>cl hh.2),atV_out h hnm (by omega)]
 · rw [if_neg c3,valV_eq,valV_eq env e]
   simp only [Ex.op_mk,Ex.n_mk,Ex.name_mk,Ex.args_mk]
   congr 1
   rw [List.map_map]
   exact List.map_congr_left fun a ha=>ih' a ha
theorem known_mem {env:List Signal} {e:Ex}:knownV env e=true↔∀ x∈pre e,askV env x=true:=by unfold knownV;exact List.all_eq_true
theorem known_item {l:List Var} {env:List Signal} (h:Sees l env) {a:Str} {i:Nat} (hi:i<sizeA l a):knownV env (itemE a i)=true:=by
 rw [knownV_eq]
 unfold askV itemE
 simp only [Ex.op_mk,Ex.name_mk,Ex.args_mk,if_true,List.all_nil,Bool.and_true]
 rw [h.has,sizeA_has hi]
theorem known_const (env:List Signal) (n:Int):knownV env (constE n)=true:=by
 rw [knownV_eq];unfold askV constE;simp
theorem known_mk {env:List Signal} {o n:Int} {s:Str} {a:List Ex} (h2:o≠2) (h3:o≠3) (h24:o≠24) (h:∀ x∈a,knownV env x=true):knownV env (.mk o n s a)=true:=by
 have h1:askV env (.mk o n s a)=true:=by
  unfold askV
  rw [if_neg (show ¬ (Ex.mk o n s a).op=2 from h2),if_neg (show ¬ ((Ex.mk o n s a).op=3∨(Ex.mk o n s a).op=24) from fun hh=>hh.elim h3 h24)]
 rw [knownV_eq,h1,Bool.true_and]
 exact List.all_eq_true.2 h
theorem known_sum {l:List Var} {env:List Signal} (h:Sees l env) {a:Str}:∀ k,k<sizeA l a→knownV env (sumE a k)=true
 | 0,hk=>known_item h hk
 | k+1,hk=>known_mk (by decide) (by decide) (by decide) fun x hx=>by
  simp only [List.mem_cons,List.not_mem_nil,or_false] at hx
  rcases hx with rfl|rfl
  · exact known_sum h k (by omega)
  · exact known_item h hk
theorem known_ifs {l:List Var} {env:List Signal} (h:Sees l env) {a:Str} {idx:Ex} (hi:knownV env idx=true) (h1:1≤sizeA l a):∀ k,knownV env (ifsE a idx (sizeA l a) k)=true
 | 0=>known_const env 0
 | k+1=>known_mk (by decide) (by decide) (by decide) fun x hx=>by
  simp only [List.mem_cons,List.not_mem_nil,or_false] at hx
  rcases hx with rfl|rfl|rfl
  · refine known_mk (by decide) (by decide) (by decide) fun y hy=>?_
    simp only [List.mem_cons,List.not_mem_nil,or_false] at hy
    rcases hy with rfl|rfl
    · exact hi
    · exact known_const env _
  · exact known_item h (by omega)
  · exact known_ifs h hi h1 k
theorem sc_known {l:List Var} {env:List Signal} (h:Sees l env):∀ e,NodesOk e→unkB l e=false→knownV env (scE l e)=true:=by
 refine Ex.ind fun e ih hn hu=>?_
 have ih':∀ a∈e.args,knownV env (scE l a)=true:=fun a ha=>ih a ha (hn.arg ha) (unkB_arg hu ha)
 rw [scE_eq]
 by_cases c24:e.op=24
 · have hs:=unk1_size (unkB_self hu) (.inr c24)
   rw [if_pos c24]
   exact known_sum h _ (by omega)
 rw [if_neg c24]
 by_cases c3:e.op=3
 · have hs:=unk1_size (unkB_self hu) (.inl c3)
   obtain⟨a,ha⟩:=args1 hn c3
   have xh:headE (e.args.map (scE l))=scE l a:=by rw [ha];rfl
   have ia:=ih' a (by rw [ha];simp)
   have hoa:=extOk l a (hn.arg (by rw [ha];simp)) (unkB_arg hu (by rw [ha];simp))
   rw [if_pos c3,xh]
   unfold chainE
   split
   · rename_i co
     split
     · rename_i cl
       rcases hoa.val with ⟨v0,_,vn⟩|⟨_,vo⟩
       · exact known_item h (by omega)
       · exact absurd co vo
     · exact known_const env 0
   · exact known_ifs h ia hs _
 rw [if_neg c3]
 by_cases c2:e.op=2
 · rw [knownV_eq]
   have hs:e.args=[]:=by
    obtain⟨_,_,_,_,ho,_⟩:=nodeE_zero hn.self
    have:=operands_args ho (by omega)
    have h0:arityS e.op=0:=by rw [c2];decide
    rw [h0] at this
    exact List.length_eq_zero_iff.1 (by omega)
   have h1:askV env (.mk e.op e.n e.name (e.args.map (scE l)))=true:=by
    unfold askV
    rw [if_pos (show (Ex.mk e.op e.n e.name (e.args.map (scE l))).op=2 from c2)]
    show (findV env e.name).isSome=true
    rw [h.has]
    exact unk1_var (unkB_self hu) c2
   rw [h1,hs]
   rfl
 · refine known_mk c2 c3 c24 fun x hx=>?_
   obtain⟨a,ha,rfl⟩:=List.mem_map.1 hx
   exact ih' a ha
theorem e_known {l:List Var} {env:List Signal} (h:Sees l env) {e:Ex} (hu:unkB l e=false):knownV env e=true:=by
 rw [known_mem]
 intro x hx
 have hx1:unk1 l x=false:=by
  rw [Bool.eq_false_iff]
  intro hh
  have:unkB l e=true:=List.any_eq_true.2 ⟨x,hx,hh⟩
  rw [this] at hu;cases hu
 unfold askV
 split
 · rename_i h2
   rw [h.has];exact unk1_var hx1 h2
 split
 · rename_i h3
   rw [h.has];exact sizeA_has (unk1_size hx1 h3)
 · rfl
end Go.Proofs.YtpgcmnabljandaaGreatDoor
end
