/- A part of the proof: Walk71 Walk72 Walk73 Walk74 Walk74b Walk85 Walk86. -/
import Derived.Test.YtpgcmnabljandaaGreatDoorGa42
import Derived.Test.YtpgcmnabljandaaGreatDoorGa29
import Derived.Test.YtpgcmnabljandaaGreatDoorGa44
set_option linter.unusedVariables false
set_option linter.unusedSimpArgs false
set_option maxRecDepth 100000
section
namespace Go.Proofs.YtpgcmnabljandaaGreatDoor
open Go Go.Abs
set_option maxHeartbeats 4000000 in
theorem substituted252L (s:Str) (b:Ex) (hb:Slim b) (l:List It) (hl:l.length≤1000) (h:∀ x∈l,Low1 x∧Pure Tryz.prog GG 252 [.sl 12 (x.items.map encI) .none,.str s,.agg (encE b)] (.sl 12 ((x.items.map (substI s b)).map encI) .none)∧Pure Tryz.prog GG 252 [.sl 12 (x.els.map encI) .none,.str s,.agg (encE b)] (.sl 12 ((x.els.map (substI s b)).map encI) .none)) :
 Pure Tryz.prog GG 252 [.sl 12 (l.map encI) .none,.str s,.agg (encE b)] (.sl 12 ((l.map (substI s b)).map encI) .none):=by
 refine Pure.k mixed Tryz.func252 rfl (by kernel_rfl) ?_
 simp only [encE_eq b] at h ⊢
 simp [-acells,-fin,-fin1,-fin2,-pl1,-pl2,-plain,-AV.atom,-getElem?_pos]
 refine kLoop.list l (fun d ev σ=>ev 1=.str s∧ev 5=.ptr 0 0∧ev 7=outC 12 encI 0 (d.map (substI s b))∧ev 10=.sl 12 (l.map encI) .none∧ev 11=.int .i64 l.length∧ev 12=.int .i64 d.length∧∃ t,σ=⟨.cells [.int .i64 b.op,.int .i64 b.n,.str b.name,.sl 4 (b.args.map encE) .none]::t,outCT [] (d.map (substI s b))⟩) (by simp) ?_ ?_
 · rintro d v r ev σ hd hv hlt ⟨h1,h5,h7,h10,h11,h12,⟨t,rfl⟩⟩
   have hv':=(List.getElem?_eq_some_iff.1 hv).2
   obtain⟨lo,p1,p2⟩:=h v (List.mem_of_getElem? hv)
   have hx:=subst316 s b hb v.expr lo.slim
   have happ:∀ H,appendA (Dof Tryz.prog) ⟨H,outCT [] (d.map (substI s b))⟩ 24 (outC 12 encI 0 (d.map (substI s b))) (.sl 12 [encI (substI s b v)] .tight)=some (outC 12 encI 0 (d.map (substI s b)++[substI s b v]),⟨H,outCT [] (d.map (substI s b)++[substI s b v])⟩):=fun H=>
    append_outC (sz:=12) (T:=[]) (m:=[substI s b v]) D24 rfl D68 rfl (by omega) rfl (by decide) (by simp;omega) 12 (.inl rfl)
   have hsi:=substI_eq s b v
   have e1:(substI s b v).kind=v.kind:=by rw [hsi];rfl
   have e2:(substI s b v).expr=substE s b v.expr:=by rw [hsi];rfl
   have e3:(substI s b v).name=v.name:=by rw [hsi];rfl
   have e4:(substI s b v).index=v.index:=by rw [hsi];rfl
   have e5:(substI s b v).ws=v.ws:=by rw [hsi];rfl
   have e6:(substI s b v).items=v.items.map (substI s b):=by rw [hsi];rfl
   have e7:(substI s b v).els=v.els.map (substI s b):=by rw [hsi];rfl
   have e8:(substI s b v).before=v.before:=by rw [hsi];rfl
   have e9:(substI s b v).after=v.after:=by rw [hsi];rfl
   simp only [encI_eq (substI s b v),e1,e2,e3,e4,e5,e6,e7,e8,e9,encE_eq,List.cons_append,List.nil_append,List.map_map] at happ
   simp only [encE_eq v.expr,encE_eq b,encE_eq (substE s b v.expr)] at hx
   rw [List.map_append]
   simp only [List.map_cons,List.map_nil]
   generalize d.map (substI s b)=D at *
   generalize substI s b v=V at *
   simp [-acells,-fin,-fin1,-fin2,-pl1,-pl2,-plain,-AV.atom,-getElem?_pos,h1,h5,h7,h10,h11,h12,hlt,hv,encI_eq v,encE_eq v.expr]
   refine kCall.call hx (by simp) ?_
   simp [-acells,-fin,-fin1,-fin2,-pl1,-pl2,-plain,-AV.atom,-getElem?_pos,h1,h5]
   refine kCall.call p1 (by simp) ?_
   simp [-acells,-fin,-fin1,-fin2,-pl1,-pl2,-plain,-AV.atom,-getElem?_pos,h1,h5]
   refine kCall.call p2 (by simp) ?_
   simp [-acells,-fin,-fin1,-fin2,-pl1,-pl2,-plain,-AV.atom,-getElem?_pos,happ,h1,h5,h7,h10,h11,h12]
   exact wr (by omega) (by omega)
 · rintro ev σ ⟨h1,h5,h7,h10,h11,h12,⟨t,rfl⟩⟩
   have q:=leq_outR (sz:=12) (en:=encI) (s:=l.map (substI s b))
   simp [-acells,-fin,-fin1,-fin2,-pl1,-pl2,-plain,-AV.atom,-getElem?_pos,h7,h11,h12]
   simpa using q
theorem substituted252x (s:Str) (b:Ex) (hb:Slim b):∀ x,LowI x→Pure Tryz.prog GG 252 [.sl 12 (x.items.map encI) .none,.str s,.agg (encE b)] (.sl 12 ((x.items.map (substI s b)).map encI) .none)∧Pure Tryz.prog GG 252 [.sl 12 (x.els.map encI) .none,.str s,.agg (encE b)] (.sl 12 ((x.els.map (substI s b)).map encI) .none) :=
 It.ind fun x h1 h2 hl=>⟨substituted252L s b hb x.items hl.self.items fun y hy=>⟨(hl.item hy).self,h1 y hy (hl.item hy)⟩,substituted252L s b hb x.els hl.self.els fun y hy=>⟨(hl.els hy).self,h2 y hy (hl.els hy)⟩⟩
theorem substituted252 (s:Str) (b:Ex) (hb:Slim b) (l:List It) (hl:l.length≤1000) (h:∀ x∈l,LowI x):Pure Tryz.prog GG 252 [.sl 12 (l.map encI) .none,.str s,.agg (encE b)] (.sl 12 ((l.map (substI s b)).map encI) .none) :=
 substituted252L s b hb l hl fun x hx=>⟨(h x hx).self,substituted252x s b hb x (h x hx)⟩
def CondAt (H:List Blk) (cp:AV):Option Ex→Prop
 | none=>cp=.nilp
 | some q=>∃ b,cp=.ptr b 0∧H[b]?=some (.cells (encE q))
theorem CondAt.keep {H H':List Blk} {cp:AV} {c:Option Ex} (h:CondAt H cp c) (hk:∀ (k:Nat) (cs:List AV),H[k]?=some (.cells cs)→cs.length=4→H'[k]?=some (.cells cs)):CondAt H' cp c:=by
 cases c with
 | none=>exact h
 | some q=>
  obtain⟨b,h1,h2⟩:=h
  exact⟨b,h1,hk b _ h2 (encE_len q)⟩
theorem CondAt.app {H t:List Blk} {cp:AV} {c:Option Ex} (h:CondAt H cp c):CondAt (H++t) cp c:=h.keep fun k cs hk _=>look_app hk t
def plans251:List (Nat×Sch×List Nat):=[(3,.step 0 [7,6] (.step 1 [7,6,5,3,2] (.step 2 [7,6,5,3] (.step 3 [7,6,5] (.step 4 [7,6,5] (.step 5 [7,6] (.step 6 [7] (.step 7 [] (.done)))))))),[])]
theorem under251 {H:List Blk} {cp:AV} {c:Option Ex} (hc:CondAt H cp c) (op:Int) (e:Ex) (T:List (Option Nat)) :
 ACall Tryz.prog GG 251 [cp,.int .i64 op,.agg (encE e)] ⟨H,T⟩ (fun r σ'=>r=.agg (encE (underE c op e))∧∃ t,σ'=⟨H++t,T⟩):=by
 refine ACall.up ?_
 cases c with
 | none=>
  simp only [CondAt] at hc
  subst hc
  refine ACall.kO ⟨false,plans251,[],[]⟩ mixed Tryz.func251 rfl (by kernel_rfl) ?_
  simp only [encE_eq e]
  simp [-acells,-fin,-fin1,-fin2,-pl1,-pl2,-plain,-AV.atom,-getElem?_pos]
  show LeqL _ (encE e)
  rw [encE_eq e]
  exact LeqL.refl _
 | some q=>
  obtain⟨b,rfl,hb⟩:=hc
  refine ACall.kO ⟨false,plans251,[],[]⟩ mixed Tryz.func251 rfl (by kernel_rfl) ?_
  simp only [encE_eq] at hb
  simp only [encE_eq e]
  simp [-acells,-fin,-fin1,-fin2,-pl1,-pl2,-plain,-AV.atom,-getElem?_pos,look_app hb,hb]
  rw [kC_plan rfl]
  simp [-acells,-fin,-fin1,-fin2,-pl1,-pl2,-plain,-AV.atom,-getElem?_pos,clsB,clsA,look_app hb,hb]
  simp [underE,encE_eq,LeqL,Leq,LeqR]
section
attribute [local simp high] acells_encE acells_encI
attribute [local simp] acells_int acells_str acells_bool acells_sl acells_agg encI_len encI_atoms take_encI
structure XAt (H:List Blk) (b ob mb:Nat) (F:Flds) (L:List It):Prop where
 cell:∃ v,H[b]?=some (.cells [.map mb,v,.bool (decide (400<L.length))])∧OwnAt ob 12 encI H v (L.take 400)
 map:MapF H mb F
theorem take400 (L:List It):L.take 400=[]↔L=[]:=by cases L<;>simp
structure Grow (F:Flds) (b ob mb:Nat) (L M:List It) (σ σ':St) (ob':Nat):Prop where
 now:XAt σ'.H b ob' mb F (L++M)
 who:L++M=[]∨(ob'=ob∧L≠[])∨σ.H.length≤ob'
 len:σ.H.length≤σ'.H.length
 keep:∀ (k:Nat) (x:Blk),σ.H[k]?=some x→k≠b→(L=[]∨k≠ob)→σ'.H[k]?=some x
 tok:σ'.T=σ.T
section
variable {F:Flds} {b ob ob' ob'' mb:Nat} {L M N:List It} {σ σ' σ'':St} {H t:List Blk} {T:List (Option Nat)}
theorem XAt.lt (h:XAt H b ob mb F L):b<H.length∧(L≠[]→ob<H.length):=by
 obtain⟨⟨v,h1,h2⟩,h3⟩:=h
 refine⟨(List.getElem?_eq_some_iff.1 h1).1,fun hL=>h2.lt fun e=>hL ((take400 L).1 e)⟩
theorem XAt.row (h:XAt H b ob mb F L) (hL:L≠[]):∃ c,H[ob]?=some (.cells c)∧12≤c.length:=by
 obtain⟨⟨v,h1,h2⟩,h3⟩:=h
 have hne:L.take 400≠[]:=fun e=>hL ((take400 L).1 e)
 refine⟨_,(h2.at hne).2,?_⟩
 rw [Go.Abs.flat_len encI_len]
 have:0<(L.take 400).length:=List.length_pos_iff.2 hne
 omega
theorem XAt.ne (h:XAt H b ob mb F L) (hL:L≠[]):ob≠b:=by
 obtain⟨c,hc,hlen⟩:=h.row hL
 obtain⟨⟨v,h1,h2⟩,h3⟩:=h
 rintro rfl
 rw [hc] at h1
 cases h1
 simp at hlen
theorem XAt.app (h:XAt H b ob mb F L):XAt (H++t) b ob mb F L:=by
 obtain⟨⟨v,h1,h2⟩,h3⟩:=h
 exact⟨⟨v,look_app h1 _,h2.keep fun x _ hx=>look_app hx _⟩,h3.app⟩
theorem XAt.full (h:XAt H b ob mb F L) (h4:400<L.length) (N:List It):XAt H b ob mb F (L++N):=by
 obtain⟨⟨v,h1,h2⟩,h3⟩:=h
 have e1:decide (400<(L++N).length)=decide (400<L.length):=by rw [List.length_append,decide_eq_true (by omega),decide_eq_true h4]
 have e2:(L++N).take 400=L.take 400:=List.take_append_of_le_length (by omega)
 exact⟨⟨v,by rw [e1];exact h1,by rw [e2];exact h2⟩,h3⟩
theorem Grow.push (h:XAt H b ob mb F L):Grow F b ob mb L [] ⟨H,T⟩ ⟨H++t,T⟩ ob :=
 ⟨by rw [List.append_nil];exact h.app,by
  by_cases hL:L=[]
  · exact .inl (by simp [hL])
  · exact .inr (.inl ⟨rfl,hL⟩),by simp,fun k x hk _ _=>look_app hk t,rfl⟩
theorem Grow.trans (h:Grow F b ob mb L M σ σ' ob') (h':Grow F b ob' mb (L++M) N σ' σ'' ob''):Grow F b ob mb L (M++N) σ σ'' ob'':=by
 refine⟨by rw [← List.append_assoc];exact h'.now,?_,Nat.le_trans h.len h'.len,fun k x hk hb hL=>?_,h'.tok.trans h.tok⟩
 · rcases h'.who with e|⟨e1,e2⟩|e
   · left;rw [← List.append_assoc];exact e
   · rcases h.who with e3|⟨e3,e4⟩|e3
     · exact absurd e3 e2
     · exact .inr (.inl ⟨e1.trans e3,e4⟩)
     · exact .inr (.inr (by omega))
   · have:=h.len;exact .inr (.inr (by omega))
 · have hlt:=(List.getElem?_eq_some_iff.1 hk).1
   refine h'.keep k x (h.keep k x hk hb hL) hb ?_
   rcases h.who with e|⟨e1,e2⟩|e
   · exact .inl e
   · subst e1
     exact .inr (hL.resolve_left e2)
   · exact .inr (by omega)
theorem Grow.cond {cp:AV} {c:Option Ex} (h:Grow F b ob mb L M σ σ' ob') (h0:XAt σ.H b ob mb F L) (hc:CondAt σ.H cp c):CondAt σ'.H cp c:=by
 refine hc.keep fun k cs hk h4=>h.keep k _ hk ?_ ?_
 · rintro rfl
   obtain⟨⟨v,h1,h2⟩,h3⟩:=h0
   rw [hk] at h1
   cases h1
   simp at h4
 · by_cases hL:L=[]
   · exact .inl hL
   · right
     rintro rfl
     obtain⟨c,h1,h2⟩:=h0.row hL
     rw [hk] at h1
     cases h1
     omega
theorem Grow.mine (h:Grow F b ob mb L M σ σ' ob') (h0:XAt H b ob mb F L) {k:Nat} {x:Blk} (hk:σ.H[k]?=some x) (hge:H.length≤k):σ'.H[k]?=some x:=by
 obtain⟨l1,l2⟩:=h0.lt
 refine h.keep k x hk (by omega) ?_
 by_cases hL:L=[]
 · exact .inl hL
 · have:=l2 hL;exact .inr (by omega)
theorem Grow.full (h:Grow F b ob mb L M σ σ' ob') (h4:400<(L++M).length) (N:List It):Grow F b ob mb L (M++N) σ σ' ob' :=
 ⟨by rw [← List.append_assoc];exact h.now.full h4 N,by
  rcases h.who with e|e|e
  · rw [e] at h4;simp at h4
  · exact .inr (.inl e)
  · exact .inr (.inr e),h.len,h.keep,h.tok⟩
end
def zItC:List AV:=[.int .i64 0,.int .i64 0,.int .i64 0,.str [],.sl 0 [] .nil,.str [],.str [],.sl 0 [] .nil,.sl 0 [] .nil,.sl 0 [] .nil,.sl 0 [] .nil,.sl 0 [] .nil]
def plans249:List (Nat×Sch×List Nat):=[(3,.step 0 [12,11,10,9,8,7,5,3,2,1] (.step 1 [12,11,10,9,8,7,5,3,2] (.step 2 [12,11,10,9,8,7,5,3] (.step 3 [12,11,10,9,8,7,5] (.step 4 [12,11,10,9,8,7] (.step 5 [12,11,10,9,8,7] (.step 6 [12,11,10,9,8,7] (.step 7 [12,11,10,9,8] (.step 8 [9] (.step 10 [12,11] (.step 11 [12] (.fork (.cons 9 (.step 12 [] (.done)) (.cons 12 (.step 9 [] (.done)) (.nil)))))))))))))),[])]
set_option maxHeartbeats 4000000 in
theorem add249 {F:Flds} {b ob mb:Nat} {L:List It} (x:It) (H:List Blk) (T:List (Option Nat)) (h:XAt H b ob mb F L) :
 ACall Tryz.prog GG 249 [.ptr b 0,.agg (encI x)] ⟨H,T⟩ (fun _ σ'=>∃ ob',Grow F b ob mb L [x] ⟨H,T⟩ σ' ob'):=by
 refine ACall.kO ⟨true,plans249,[],[]⟩ mixed Tryz.func249 rfl (by kernel_rfl) ?_
 have h0:=h
 obtain⟨⟨v,hb,ho⟩,hm⟩:=h
 have hlt:=(List.getElem?_eq_some_iff.1 hb).1
 by_cases h4:400≤L.length
 · have hl4:(L.take 400).length=400:=by simp;omega
   obtain⟨rfl,hrow⟩:=ho.at (by intro e;rw [e] at hl4;simp at hl4)
   simp [-acells,-fin,-fin1,-fin2,-pl1,-pl2,-plain,-AV.atom,-getElem?_pos,look_app hb,hl4,set_left hb]
   have e1:(L++[x]).take 400=L.take 400:=List.take_append_of_le_length h4
   have hne:L≠[]:=by rintro rfl;simp at h4
   have hob:ob≠b:=h0.ne hne
   refine⟨ob,⟨⟨⟨.ms ob 0 400 12,?_,?_⟩,?_⟩,.inr (.inl ⟨rfl,hne⟩),by simp,fun k y hk hkb _=>?_,rfl⟩⟩
   · rw [set_look hb]
     have:400<L.length+1:=by omega
     simp [this]
   · rw [e1]
     have hk:=ho.keep (H':=H.set b (.cells [.map mb,.ms ob 0 400 12,.bool true])++[.cells (encI x)]) fun y _ hy=>set_look_ne hy hob
     rw [hl4] at hk
     exact hk
   · obtain⟨es,clk,h1,h2⟩:=hm
     refine⟨es,clk,set_look_ne h1 ?_,h2⟩
     rintro rfl
     rw [hb] at h1;cases h1
   · exact set_look_ne hk hkb
 · have hL:L.take 400=L:=List.take_of_length_le (by omega)
   rw [hL] at ho
   obtain⟨H',c,ha,hc,hcl,hput,hkeep,hlen⟩:=(ho.keep (H':=H++[.cells (encI x)]) fun y _ hy=>look_app hy _).put (T:=T) (z:=zItC) (tok:=.tight) D24 rfl D68 rfl (by omega) rfl (by decide) encI_len rfl (by omega) x
   have hbv:b≠ob∨L=[]:=by
    by_cases e:L=[]
    · exact .inr e
    · exact .inl (Ne.symm (h0.ne e))
   have hb':H'[b]?=some (.cells [.map mb,v,.bool (decide (400<L.length))]):=hkeep _ _ (look_app hb _) (by rcases hbv with e | e;exact .inr e;exact .inl e)
   have hx':H'[H.length]?=some (.cells (encI x)):=hkeep _ _ (by simp) (by
    by_cases e:L=[]
    · exact .inl e
    · have:=ho.lt e;exact .inr (by omega))
   have hd4:decide (400<L.length)=false:=by simp;omega
   rw [hd4] at hb hb'
   have hlenL:¬ (400:Int)≤L.length:=by omega
   have hvl:∀ H1:List Blk,lenA (Dof Tryz.prog) ⟨H1,T⟩ 24 v=some (.int .i64 L.length):=fun H1=>by
    rcases ho with ⟨rfl,rfl⟩|⟨_,rfl,_⟩<;>simp [lenA]
   have hva:=ho.acells
   have hvt:=ho.atom
   have hcb:H.length+1≠b:=by omega
   simp only [List.length_append,List.length_cons,List.length_nil,Nat.zero_add] at ha hc
   simp only [zItC] at ha
   have hle:L.length*12+12≤c.length:=by omega
   have hvf:(L=[]∧v=.sl 0 [] .nil)∨(L≠[]∧v=.ms ob 0 L.length 12):=by
    rcases ho with h|⟨h1,h2,_⟩
    · exact .inl h
    · exact .inr ⟨h1,h2⟩
   have hl1:H'.length=H.length+1+1:=by simpa using hlen
   have hbs:∀ y,(H'.set (H.length+1) y)[b]?=some (.cells [.map mb,v,.bool false]):=fun y=>by rw [List.getElem?_set_ne hcb];exact hb'
   have hcs:∀ y,(H'.set b y)[H.length+1]?=some (.cells c):=fun y=>by rw [List.getElem?_set_ne (Ne.symm hcb)];exact hc
   have hmine:∃ ob',Grow F b ob mb L [x] ⟨H,T⟩ ⟨(H'.set (H.length+1) (.cells ((L++[x]).flatMap encI))).set b (.cells [.map mb,.ms (H.length+1) 0 (L.length+1) 12,.bool false]),T⟩ ob':=by
    have hk4:∀ (k:Nat) (y:Blk),H[k]?=some y→k≠b→(L=[]∨k≠ob)→((H'.set (H.length+1) (.cells ((L++[x]).flatMap encI))).set b (.cells [.map mb,.ms (H.length+1) 0 (L.length+1) 12,.bool false]))[k]?=some y:=by
     intro k y hk hkb hkL
     have hlt:=(List.getElem?_eq_some_iff.1 hk).1
     rw [List.getElem?_set_ne (Ne.symm hkb),List.getElem?_set_ne (by omega)]
     exact hkeep _ _ (look_app hk _) hkL
    refine⟨H.length+1,⟨⟨⟨.ms (H.length+1) 0 (L.length+1) 12,?_,?_⟩,?_⟩,.inr (.inr (by simp)),by simp;omega,hk4,rfl⟩⟩
    · have h4:¬ 400<L.length+1:=by omega
      rw [List.getElem?_set_self (by simp;omega)]
      simp [h4]
    · rw [List.take_of_length_le (by simp;omega)]
      refine .inr ⟨by simp,by simp,?_⟩
      show ((H'.set (H.length+1) _).set b _)[H.length+1]?=_
      rw [List.getElem?_set_ne (Ne.symm hcb),List.getElem?_set_self (by omega)]
    · obtain⟨es,clk,h1,h2⟩:=hm
      refine⟨es,clk,hk4 _ _ h1 ?_ ?_,h2⟩
      · rintro rfl
        rw [hb] at h1;cases h1
      · by_cases e:L=[]
        · exact .inl e
        · right
          rintro rfl
          obtain⟨c',h3,_⟩:=h0.row e
          rw [h3] at h1;cases h1
   rcases hvf with ⟨rfl,rfl⟩|⟨hne,rfl⟩
   · simp [-acells,-fin,-fin1,-fin2,-pl1,-pl2,-plain,-AV.atom,-getElem?_pos,look_app hb,hlenL]
     rw [kC_plan rfl]
     simp only [List.length_nil] at *
     simp [-acells,-fin,-fin1,-fin2,-pl1,-pl2,-plain,-AV.atom,-getElem?_pos,clsB,look_app hb,hlenL,ha,hb',hc,hle,hput,hx',set_left hb',List.getElem?_set_ne hcb,hbs,hcs]
     simp only [List.length_nil,List.nil_append,List.flatMap_cons,List.flatMap_nil,List.append_nil,Nat.zero_add] at hmine
     exact⟨hmine,by rw [List.set_comm _ _ (Ne.symm hcb)];exact hmine⟩
   · have hi1:(L.length:Int)<(L.length:Int)+1:=by omega
     have hi2:(L.length:Int)<((L.length+1:Nat):Int):=by omega
     simp [-acells,-fin,-fin1,-fin2,-pl1,-pl2,-plain,-AV.atom,-getElem?_pos,look_app hb,hlenL]
     rw [kC_plan rfl]
     simp [-acells,-fin,-fin1,-fin2,-pl1,-pl2,-plain,-AV.atom,-getElem?_pos,clsB,look_app hb,hlenL,ha,hb',hc,hle,hput,hx',set_left hb',List.getElem?_set_ne hcb,hbs,hcs,hi1,hi2]
     exact⟨by simpa using hmine,by rw [List.set_comm _ _ (Ne.symm hcb)];simpa using hmine⟩
end
section
def plans180:List (Nat×Sch×List Nat):=[(4,.step 0 [9] (.step 1 [9,8,2] (.step 3 [9,8,7,6] (.step 4 [9,8,7,6,5] (.step 5 [9,8,7,6] (.fork (.cons 2 (.step 6 [9,8,7] (.step 7 [9,8] (.step 8 [9] (.step 9 [] (.done))))) (.cons 6 (.step 2 [9,8] (.step 7 [9,8] (.step 8 [9] (.step 9 [] (.done))))) (.nil)))))))),[6,9]),(17,.step 0 [9] (.step 1 [9,8,2] (.step 2 [9,8] (.step 3 [9,8,4] (.step 4 [9,8] (.step 5 [9,8,7,6] (.step 6 [9,8,7] (.step 7 [9,8] (.step 8 [9] (.step 9 [] (.done)))))))))),[9]),(19,.step 0 [10] (.step 1 [10,9,2] (.step 2 [10,9] (.step 3 [10,9,8,5,4] (.step 4 [10,9,8,5] (.step 5 [10,9,8] (.step 6 [10,9,8,7] (.step 7 [10,9,8] (.step 8 [10,9] (.step 9 [10] (.step 10 [] (.done))))))))))),[10])]
def OneOk (F:Flds) (h:Nat) (c:Option Ex) (x:It):Prop :=
 ∀ (H:List Blk) (T:List (Option Nat)) (b ob mb:Nat) (L:List It) (cp:AV),XAt H b ob mb F L→CondAt H cp c→ACall Tryz.prog GG 180 [.ptr b 0,.agg (encI x),cp] ⟨H,T⟩ (fun _ σ'=>∃ ob',Grow F b ob mb L (expandI F h c x) ⟨H,T⟩ σ' ob')
def ListOk (F:Flds) (h:Nat) (c:Option Ex) (l:List It):Prop :=
 ∀ (H:List Blk) (T:List (Option Nat)) (b ob mb:Nat) (L:List It) (cp:AV),XAt H b ob mb F L→CondAt H cp c→ACall Tryz.prog GG 104 [.ptr b 0,.sl 12 (l.map encI) .none,cp] ⟨H,T⟩ (fun _ σ'=>∃ ob',Grow F b ob mb L (expandL F h c l) ⟨H,T⟩ σ' ob')
set_option maxHeartbeats 8000000 in
theorem list104 (F:Flds) (h:Nat) (c:Option Ex) (l:List It) (hl:Fits l) (ho:∀ x∈l,OneOk F h c x):ListOk F h c l:=by
 intro H T b ob mb L cp hX hC
 refine ACall.k mixed Tryz.func104 rfl (by kernel_rfl) ?_
 simp [-acells,-fin,-fin1,-fin2,-pl1,-pl2,-plain,-AV.atom,-getElem?_pos]
 refine kLoop.listR l (fun d ev σ=>ev 0=.ptr b 0∧ev 2=cp∧ev 8=.sl 12 (l.map encI) .none∧ev 9=.int .i64 l.length∧ev 10=.int .i64 d.length∧∃ ob',Grow F b ob mb L (expandL F h c d) ⟨H,T⟩ σ ob') ?_ ?_ ?_
 · exact⟨by simp,by simp,by simp,by simp,by simp,ob,by simpa [expandL] using Grow.push (t:=[]) (T:=T) hX⟩
 · rintro d x r ev ⟨H1,T1⟩ R hR hdl hx hlt ⟨h0,h2,h8,h9,h10,ob1,hg⟩
   have hxo:=ho x (List.mem_of_getElem? hx)
   obtain⟨v,hb,hv⟩:=hg.now.cell
   simp only at hb
   have hxe:expandL F h c l=expandL F h c d++(expandI F h c x++expandL F h c r):=by rw [hdl];simp [expandL]
   by_cases h4:400<(L++expandL F h c d).length
   · have hd:decide (400<(L++expandL F h c d).length)=true:=decide_eq_true h4
     rw [hd] at hb
     simp [-acells,-fin,-fin1,-fin2,-pl1,-pl2,-plain,-AV.atom,-getElem?_pos,h0,h2,h8,h9,h10,hlt,hx,encI_eq,encE_eq,look_app hb]
     have hp:=hg.trans (Grow.push (T:=T1) (t:=[.cells (encI x)]) hg.now)
     rw [List.append_nil] at hp
     simp only [encI_eq,encE_eq,List.cons_append,List.nil_append] at hp
     rw [hxe]
     exact⟨ob1,hp.full h4 _⟩
   · have hd:decide (400<(L++expandL F h c d).length)=false:=decide_eq_false h4
     rw [hd] at hb
     have hp:=hg.trans (Grow.push (T:=T1) (t:=[.cells (encI x)]) hg.now)
     rw [List.append_nil] at hp
     have hone:=hxo (H1++[.cells (encI x)]) T1 b ob1 mb (L++expandL F h c d) cp hp.now (hp.cond hX hC)
     simp only [encI_eq,encE_eq,List.cons_append,List.nil_append] at hone hp
     simp [-acells,-fin,-fin1,-fin2,-pl1,-pl2,-plain,-AV.atom,-getElem?_pos,h0,h2,h8,h9,h10,hlt,hx,encI_eq,encE_eq,look_app hb]
     refine kCall.acall hone ?_
     rintro v2 ⟨H2,T2⟩ ⟨ob2,hg2⟩
     simp [-acells,-fin,-fin1,-fin2,-pl1,-pl2,-plain,-AV.atom,-getElem?_pos,h0,h2,h8,h9,h10]
     refine hR _ _ ⟨by simp [h0],by simp [h2],by simp [h8],by simp [h9],by simp [h10];exact wr (by omega) (by omega),ob2,?_⟩
     have e:expandL F h c (d++[x])=expandL F h c d++expandI F h c x:=by simp [expandL]
     rw [e]
     exact hp.trans hg2
 · rintro ev σ ⟨h0,h2,h8,h9,h10,ob1,hg⟩
   simp [-acells,-fin,-fin1,-fin2,-pl1,-pl2,-plain,-AV.atom,-getElem?_pos,h9,h10]
   exact⟨ob1,hg⟩
theorem expand_hard {F:Flds} {h:Nat} {c:Option Ex} {x:It} (hk:x.kind=1∨x.kind=2):expandI F (h+1) c x=[exprI x.kind (substE [] zEx (underE c 21 x.expr))]:=by simp only [expandI,if_pos hk]
theorem expand_if {F:Flds} {h:Nat} {c:Option Ex} {x:It} (hk:x.kind=4):expandI F (h+1) c x=expandL F h (some (underE c 19 x.expr)) x.items++expandL F h (some (underE c 19 (notE x.expr))) x.els:=by
 simp only [expandI];rw [if_neg (by omega),if_pos hk];rfl
theorem expand_each {F:Flds} {h:Nat} {c:Option Ex} {x:It} (hk:x.kind=5):expandI F (h+1) c x=(List.range ((F x.name).getD 0).toNat).flatMap fun (k:Nat)=>expandL F h c (x.items.map (substI x.index (cEx k))):=by
 simp only [expandI];rw [if_neg (by omega),if_neg (by omega),if_pos hk];rfl
theorem expand_dist {F:Flds} {h:Nat} {c:Option Ex} {x:It} (hk:x.kind=3):expandI F (h+1) c x=[.mk 3 zEx x.name [] x.ws [] [] [] []]:=by
 simp only [expandI];rw [if_neg (by omega),if_neg (by omega),if_neg (by omega),if_pos hk]
theorem expand_solve {F:Flds} {h:Nat} {c:Option Ex} {x:It} (hk:x.kind=6):expandI F (h+1) c x=[.mk 6 zEx [] [] [] [] [] x.before x.after]:=by
 simp only [expandI];rw [if_neg (by omega),if_neg (by omega),if_neg (by omega),if_neg (by omega),if_pos hk]
theorem expand_none {F:Flds} {h:Nat} {c:Option Ex} {x:It} (hk:x.kind<1∨6<x.kind):expandI F (h+1) c x=[]:=by
 simp only [expandI];rw [if_neg (by omega),if_neg (by omega),if_neg (by omega),if_neg (by omega),if_neg (by omega)]
section
variable {F:Flds} {h:Nat} {c:Option Ex} {x:It} {n:Nat}
theorem grow_push {b ob mb:Nat} {L M:List It} {H t:List Blk} {T:List (Option Nat)} {σ':St} (hX:XAt H b ob mb F L) (h:∃ ob',Grow F b ob mb L M ⟨H++t,T⟩ σ' ob'):∃ ob',Grow F b ob mb L M ⟨H,T⟩ σ' ob':=by
 obtain⟨ob',hg⟩:=h
 have h1:=Grow.push (T:=T) (t:=t) hX
 refine⟨ob',?_⟩
 have:=h1.trans (by rw [List.append_nil];exact hg)
 simpa using this
theorem grow_pre {b ob ob' mb:Nat} {L M:List It} {H t:List Blk} {T:List (Option Nat)} {σ':St} (hX:XAt H b ob mb F L) (hg:Grow F b ob mb L M ⟨H++t,T⟩ σ' ob'):Grow F b ob mb L M ⟨H,T⟩ σ' ob':=by
 have h1:=Grow.push (T:=T) (t:=t) hX
 have:=h1.trans (by rw [List.append_nil];exact hg)
 simpa using this
set_option maxHeartbeats 8000000 in
theorem one180hard (hk:x.kind=1∨x.kind=2) (hc:CondOk c n) (hx:Wee1 x):OneOk F (h+1) c x:=by
 intro H T b ob mb L cp hX hC
 refine ACall.kO ⟨false,plans180,[],[]⟩ mixed Tryz.func180 rfl (by kernel_rfl) ?_
 rw [expand_hard hk]
 have hu:=fun (t:List Blk)=>under251 (hC.app (t:=t)) 21 x.expr T
 have hcp:=copied250 (underE c 21 x.expr) (slim_underE hc hx.low.slim)
 have ha:=fun (t:List Blk)=>add249 (exprI x.kind (substE [] zEx (underE c 21 x.expr))) (H++t) T (hX.app (t:=t))
 generalize substE [] zEx (underE c 21 x.expr)=R at *
 generalize underE c 21 x.expr=U at *
 simp only [encE_eq U,encE_eq R,encE_eq x.expr] at hu hcp
 rcases hk with hk|hk
 all_goals
  rw [hk] at ha ⊢
  simp [-acells,-fin,-fin1,-fin2,-pl1,-pl2,-plain,-AV.atom,-getElem?_pos,encI_eq x,encE_eq x.expr,hk]
  rw [kC_plan rfl]
  simp [-acells,-fin,-fin1,-fin2,-pl1,-pl2,-plain,-AV.atom,-getElem?_pos,clsB,clsA,hk]
  refine And.intro ?_ ?_
  all_goals
   refine kCall.acall (hu _) ?_
   rintro v σ' ⟨rfl,t,rfl⟩
   simp [-acells,-fin,-fin1,-fin2,-pl1,-pl2,-plain,-AV.atom,-getElem?_pos,clsB,clsA,hk]
   refine kCall.call hcp (by simp) ?_
   simp [-acells,-fin,-fin1,-fin2,-pl1,-pl2,-plain,-AV.atom,-getElem?_pos,clsB,clsA,hk]
   refine kCall.acall ((ha _).leq (by simp [encI_eq,exprI,It.kind,It.expr,It.name,It.index,It.ws,It.items,It.els,It.before,It.after,encE_eq R,LeqL,Leq])) ?_
   rintro v σ' hg
   simp [-acells,-fin,-fin1,-fin2,-pl1,-pl2,-plain,-AV.atom,-getElem?_pos]
   exact grow_push hX hg
set_option maxHeartbeats 8000000 in
theorem one180if (hk:x.kind=4) (hc:CondOk c n) (hx:Wee1 x) (hfi:Fits x.items) (h1:ListOk F h (some (underE c 19 x.expr)) x.items) (h2:ListOk F h (some (underE c 19 (notE x.expr))) x.els):OneOk F (h+1) c x:=by
 intro H T b ob mb L cp hX hC
 refine ACall.kO ⟨false,plans180,[],[]⟩ mixed Tryz.func180 rfl (by kernel_rfl) ?_
 rw [expand_if hk]
 have hu:=fun (t:List Blk)=>under251 (hC.app (t:=t)) 19 x.expr T
 have hw:=fun (H':List Blk) (T':List (Option Nat)) (hC':CondAt H' cp c)=>under251 hC' 19 (notE x.expr) T'
 generalize hU1:underE c 19 x.expr=U1 at *
 generalize hU2:underE c 19 (notE x.expr)=U2 at *
 simp only [encE_eq U1,encE_eq x.expr] at hu
 simp [-acells,-fin,-fin1,-fin2,-pl1,-pl2,-plain,-AV.atom,-getElem?_pos,encI_eq x,encE_eq x.expr,hk]
 refine kCall.acall (hu _) ?_
 rintro v σ' ⟨rfl,t,rfl⟩
 simp [-acells,-fin,-fin1,-fin2,-pl1,-pl2,-plain,-AV.atom,-getElem?_pos,hk]
 refine kCall.acall (h1 _ T b ob mb L _ hX.app ⟨_,rfl,by simp [encE_eq U1]⟩) ?_
 rintro v ⟨H2,T2⟩ ⟨ob1,hg1⟩
 have hg0:=grow_pre hX hg1
 have e4:=hg1.mine (k:=H.length) (x:=.cells (encI x)) hX (by simp [encI_eq x,encE_eq x.expr,hk]) (Nat.le_refl _)
 simp only [encI_eq x,encE_eq x.expr,hk,List.cons_append,List.nil_append] at e4
 have hC2:=hg0.cond hX hC
 simp [-acells,-fin,-fin1,-fin2,-pl1,-pl2,-plain,-AV.atom,-getElem?_pos,hk,e4]
 refine kCall.acall ((hw _ _ hC2).leq (by simp [notE,encE_eq (Ex.mk _ _ _ _),encE_eq x.expr,LeqL,Leq,LeqR])) ?_
 rintro v σ' ⟨rfl,t2,rfl⟩
 simp [-acells,-fin,-fin1,-fin2,-pl1,-pl2,-plain,-AV.atom,-getElem?_pos,hk,e4,look_app e4,encE_eq U2]
 refine kCall.acall (h2 _ T2 b ob1 mb _ _ hg0.now.app ⟨_,rfl,by simp [encE_eq U2]⟩) ?_
 rintro v ⟨H3,T3⟩ ⟨ob2,hg2⟩
 simp [-acells,-fin,-fin1,-fin2,-pl1,-pl2,-plain,-AV.atom,-getElem?_pos]
 exact⟨ob2,hg0.trans (grow_pre hg0.now hg2)⟩
end
end
section
section
variable {F:Flds} {h:Nat} {c:Option Ex} {x:It} {n:Nat}
set_option maxHeartbeats 8000000 in
theorem one180dist (hk:x.kind=3) (hx:Wee1 x):OneOk F (h+1) c x:=by
 intro H T b ob mb L cp hX hC
 refine ACall.kO ⟨false,plans180,[],[]⟩ mixed Tryz.func180 rfl (by kernel_rfl) ?_
 rw [expand_dist hk]
 have hw:=clone106 x.ws (by have:=hx.low.ws;omega)
 have ha:=fun (t:List Blk)=>add249 (.mk 3 zEx x.name [] x.ws [] [] [] []) (H++t) T (hX.app (t:=t))
 simp [-acells,-fin,-fin1,-fin2,-pl1,-pl2,-plain,-AV.atom,-getElem?_pos,encI_eq x,encE_eq x.expr,hk]
 rw [kC_plan rfl]
 simp [-acells,-fin,-fin1,-fin2,-pl1,-pl2,-plain,-AV.atom,-getElem?_pos,clsB,clsA,hk]
 refine kCall.call hw (by simp) ?_
 simp [-acells,-fin,-fin1,-fin2,-pl1,-pl2,-plain,-AV.atom,-getElem?_pos,clsB,clsA,hk]
 refine kCall.acall ((ha _).leq (by simp [encI_eq,It.kind,It.expr,It.name,It.index,It.ws,It.items,It.els,It.before,It.after,zEx,encE_eq (Ex.mk _ _ _ _),LeqL,Leq])) ?_
 rintro v σ' hg
 simp [-acells,-fin,-fin1,-fin2,-pl1,-pl2,-plain,-AV.atom,-getElem?_pos]
 exact grow_push hX hg
set_option maxHeartbeats 8000000 in
theorem one180solve (hk:x.kind=6) (hx:Wee1 x):OneOk F (h+1) c x:=by
 intro H T b ob mb L cp hX hC
 refine ACall.kO ⟨false,plans180,[],[]⟩ mixed Tryz.func180 rfl (by kernel_rfl) ?_
 rw [expand_solve hk]
 have hb:=clone245 x.before (by have:=hx.low.before;omega)
 have hf:=clone245 x.after (by have:=hx.low.after;omega)
 have ha:=fun (t:List Blk) (T':List (Option Nat))=>add249 (.mk 6 zEx [] [] [] [] [] x.before x.after) (H++t) T' (hX.app (t:=t))
 simp [-acells,-fin,-fin1,-fin2,-pl1,-pl2,-plain,-AV.atom,-getElem?_pos,encI_eq x,encE_eq x.expr,hk]
 rw [kC_plan rfl]
 simp [-acells,-fin,-fin1,-fin2,-pl1,-pl2,-plain,-AV.atom,-getElem?_pos,clsB,clsA,hk]
 refine kCall.call hb (by simp) ?_
 simp [-acells,-fin,-fin1,-fin2,-pl1,-pl2,-plain,-AV.atom,-getElem?_pos,clsB,clsA,hk]
 refine kCall.call hf (by simp) ?_
 simp [-acells,-fin,-fin1,-fin2,-pl1,-pl2,-plain,-AV.atom,-getElem?_pos,clsB,clsA,hk]
 refine kCall.acall ((ha _ _).leq (by simp [encI_eq,It.kind,It.expr,It.name,It.index,It.ws,It.items,It.els,It.before,It.after,zEx,encE_eq (Ex.mk _ _ _ _),LeqL,Leq])) ?_
 rintro v σ' hg
 simp [-acells,-fin,-fin1,-fin2,-pl1,-pl2,-plain,-AV.atom,-getElem?_pos]
 exact grow_push hX hg
set_option maxHeartbeats 8000000 in
theorem one180none (hk:x.kind<1∨6<x.kind):OneOk F (h+1) c x:=by
 intro H T b ob mb L cp hX hC
 refine ACall.kO ⟨false,plans180,[],[]⟩ mixed Tryz.func180 rfl (by kernel_rfl) ?_
 rw [expand_none hk]
 have k1:¬ x.kind=1:=by omega
 have k2:¬ x.kind=2:=by omega
 have k3:¬ x.kind=3:=by omega
 have k4:¬ x.kind=4:=by omega
 have k5:¬ x.kind=5:=by omega
 have k6:¬ x.kind=6:=by omega
 simp [-acells,-fin,-fin1,-fin2,-pl1,-pl2,-plain,-AV.atom,-getElem?_pos,encI_eq x,encE_eq x.expr,k1,k2,k3,k4,k5,k6]
 exact⟨ob,Grow.push hX⟩
set_option maxHeartbeats 8000000 in
theorem one180each (hk:x.kind=5) (hx:WeeI x) (hr:∀ n,F x.name=some n→n≤1000) (hl:∀ k:Nat,ListOk F h c (x.items.map (substI x.index (cEx k)))):OneOk F (h+1) c x:=by
 intro H T b ob mb L cp hX hC
 refine ACall.kO ⟨false,plans180,[],[]⟩ mixed Tryz.func180 rfl (by kernel_rfl) ?_
 rw [expand_each hk]
 have hm:=hX.map
 obtain⟨v,hb,hov⟩:=hX.cell
 obtain⟨es,clk,hmb,hkv⟩:=hm
 have lk:=fun (H':List Blk) (T':List (Option Nat)) (b:Nat) (s:Str) (ok:Bool) (h:H'[b]?=some (.map es clk))=>look147 hkv (T:=T') h s ok
 have hsub:=fun k:Nat=>substituted252 x.index (cEx k) (slim_cEx k) x.items hx.self.low.items fun y hy=>(hx.item hy).lowI
 simp [-acells,-fin,-fin1,-fin2,-pl1,-pl2,-plain,-AV.atom,-getElem?_pos,encI_eq x,encE_eq x.expr,hk]
 rw [kC_draw rfl]
 simp [-acells,-fin,-fin1,-fin2,-pl1,-pl2,-plain,-AV.atom,-getElem?_pos,encI_eq x,encE_eq x.expr,hk,look_app hb,lk,look_app hmb]
 obtain⟨m,hmm⟩:∃ m:Nat,m=((F x.name).getD 0).toNat:=⟨_,rfl⟩
 rw [← hmm]
 have hm1:m≤1000:=by
  rw [hmm]
  cases e:F x.name with
  | none=>simp
  | some n=>have:=hr n e;simp;omega
 have hlt:∀ k:Nat,((k:Int)<(F x.name).getD 0)↔k<m:=fun k=>by omega
 generalize (F x.name).getD 0=N at hmm hlt
 refine kLoop.count m (fun k ev σ=>ev 0=.ptr b 0∧ev 2=cp∧ev 4=.ptr H.length 0∧ev 52=.int .i64 N∧ev 53=.int .i64 k∧∃ ob',Grow F b ob mb L ((List.range k).flatMap fun (k:Nat)=>expandL F h c (x.items.map (substI x.index (cEx k)))) ⟨H++[.cells (encI x)],T⟩ σ ob') ?_ ?_ ?_
 · have:=Grow.push (T:=T) (t:=[]) (hX.app (t:=[.cells (encI x)]))
   refine⟨by simp,by simp,by simp,by simp,by simp,ob,?_⟩
   simpa [encI_eq x,encE_eq x.expr,hk] using this
 · rintro k ev ⟨H1,T1⟩ hkm ⟨h0,h2,h4,h52,h53,ob1,hg⟩
   have hkn:(k:Int)<N:=(hlt k).2 hkm
   have he4:=hg.mine hX (k:=H.length) (x:=.cells (encI x)) (by simp) (Nat.le_refl _)
   simp only [encI_eq x,encE_eq x.expr,hk,List.cons_append,List.nil_append] at he4
   simp [-acells,-fin,-fin1,-fin2,-pl1,-pl2,-plain,-AV.atom,-getElem?_pos,h0,h2,h4,h52,h53,hkn,he4]
   refine kCall.less (hsub k) (by simp) (by simp [cEx,encE_eq (Ex.mk _ _ _ _),LeqL,Leq]) ?_
   simp [-acells,-fin,-fin1,-fin2,-pl1,-pl2,-plain,-AV.atom,-getElem?_pos,h0,h2,h4,h52,h53]
   have hl1:=hl k H1 T1 b ob1 mb _ cp hg.now (hg.cond hX.app hC.app)
   simp only [List.map_map] at hl1
   refine kCall.acall hl1 ?_
   rintro v ⟨H2,T2⟩ ⟨ob2,hg2⟩
   simp [-acells,-fin,-fin1,-fin2,-pl1,-pl2,-plain,-AV.atom,-getElem?_pos,h0,h2,h4,h52,h53]
   refine⟨wr (by omega) (by omega),ob2,?_⟩
   rw [List.range_succ,List.flatMap_append]
   simpa using hg.trans hg2
 · rintro ev σ ⟨h0,h2,h4,h52,h53,ob1,hg⟩
   have hkn:¬ (m:Int)<N:=fun h=>by have:=(hlt m).1 h;omega
   simp [-acells,-fin,-fin1,-fin2,-pl1,-pl2,-plain,-AV.atom,-getElem?_pos,h52,h53,hkn]
   exact⟨ob1,grow_pre hX hg⟩
end
end
theorem nestI_pos (x:It):1≤nestI x:=by rw [nestI_eq];omega
theorem expand_all {F:Flds} (hF:∀ a n,F a=some n→n≤1000):∀ (h:Nat) (c:Option Ex) (n:Nat) (l:List It),CondOk c n→(∀ x∈l,WeeI x∧nestI x≤h)→l.length≤1000→ListOk F h c l
 | 0,c,n,l,_,hx,hl=>by
  refine list104 F 0 c l (by unfold Fits;omega) fun x hxm=>?_
  have:=(hx x hxm).2
  have:=nestI_pos x
  omega
 | h+1,c,n,l,hc,hx,hl=>by
  refine list104 F (h+1) c l (by unfold Fits;omega) fun x hxm=>?_
  obtain⟨hw,hn⟩:=hx x hxm
  have hs:=hw.self
  have hi:∀ y∈x.items,WeeI y∧nestI y≤h:=fun y hy=>⟨hw.item hy,by have:=nestI_item hy;omega⟩
  have he:∀ y∈x.els,WeeI y∧nestI y≤h:=fun y hy=>⟨hw.els hy,by have:=nestI_els hy;omega⟩
  by_cases k12:x.kind=1∨x.kind=2
  · exact one180hard k12 hc hs
  by_cases k3:x.kind=3
  · exact one180dist k3 hs
  by_cases k4:x.kind=4
  · exact one180if k4 hc hs (by have:=hs.low.items;unfold Fits;omega)
     (expand_all hF h _ _ x.items (hc.under (op:=19) hs.low.slim hs.low.wen hs.size) hi hs.low.items)
     (expand_all hF h _ _ x.els (hc.under (op:=19) (e:=notE x.expr) (k:=1001) (slim_notE hs.low.slim) (wen_notE hs.low.wen) (by rw [pre_notE];have:=hs.size;omega)) he hs.low.els)
  by_cases k5:x.kind=5
  · refine one180each k5 hw (fun n e=>hF _ _ e) fun k=>expand_all hF h c n _ hc (fun y hy=>?_) (by simpa using hs.low.items)
    obtain⟨z,hz,rfl⟩:=List.mem_map.1 hy
    exact⟨(hi z hz).1.subst x.index k,by rw [nestI_subst];exact (hi z hz).2⟩
  by_cases k6:x.kind=6
  · exact one180solve k6 hs
  · exact one180none (by omega)
theorem Few.wee {l:List It} (h:Few l):∀ x∈l,WeeI x:=fun x hx y hy=>⟨h.low y (mem_preIL.2 ⟨x,hx,hy⟩),h.size y (mem_preIL.2 ⟨x,hx,hy⟩)⟩
theorem expandL_out {F:Flds} {l:List It} (h:Few l):∀ y∈expandL F 6 none l,OutOk 7014 y:=by
 intro y hy
 obtain⟨x,hx,hxy⟩:=List.mem_flatMap.1 hy
 exact (expandI_out 6 none 0 x CondOk.none (h.wee x hx) y hxy).mono (by omega)
noncomputable def badX (x:It):Bool:=asksK x.kind&&!decide (validE x.expr=0)
set_option maxHeartbeats 8000000 in
theorem expand48 (l:List It) (c:Cls) (h:Few l) (hf:c.fields.length≤1000) (hF:∀ f∈c.fields,f.size≤1000):Pure Tryz.prog GG 48 [.sl 12 (l.map encI) .none,.agg (encCls c)] (.tup [.sl 12 ((expandS (fldsOf c) l).map encI) .none,.int .i64 (expandE (fldsOf c) l)]):=by
 refine Pure.k mixed Tryz.func48 rfl (by kernel_rfl) ?_
 have hF':∀ a n,fldsOf c a=some n→n≤1000:=fun a n e=>by
  obtain⟨f,hfm,_,rfl⟩:=fldsOf_some e
  exact hF f hfm
 have hr:expandE (fldsOf c) l=if checkI (fldsOf c) l≠0 then checkI (fldsOf c) l
  else if 400<(expandL (fldsOf c) 6 none l).length then 2 else if (expandL (fldsOf c) 6 none l).any badX=true then 2 else 0:=rfl
 have hs:expandS (fldsOf c) l=if expandE (fldsOf c) l≠0 then [] else expandL (fldsOf c) 6 none l:=rfl
 generalize expandS (fldsOf c) l=S at hs
 generalize expandE (fldsOf c) l=r at hr hs
 have hck:=check102 l c h (by unfold Fits;omega)
 have hof:=fun σ=>of103 c (by unfold Fits;omega) σ
 simp only [encCls] at hck hof
 simp [-acells,-fin,-fin1,-fin2,-pl1,-pl2,-plain,-AV.atom,-getElem?_pos]
 refine kCall.call hck (by simp) ?_
 by_cases h0:checkI (fldsOf c) l=0
 · rw [if_neg (by simp [h0])] at hr
   have hv:validI l=0:=by
    unfold checkI at h0
    split at h0
    · rename_i hn;exact absurd h0 hn
    · rename_i hn;exact Classical.not_not.1 hn
   simp [-acells,-fin,-fin1,-fin2,-pl1,-pl2,-plain,-AV.atom,-getElem?_pos,h0]
   refine kCall.acall (hof _) ?_
   rintro v ⟨H1,T1⟩ ⟨mb,rfl,hm,he⟩
   simp [-acells,-fin,-fin1,-fin2,-pl1,-pl2,-plain,-AV.atom,-getElem?_pos]
   have hX:XAt (H1++[.cells [.map mb,.sl 0 [] .nil,.bool false]]) H1.length 0 mb (fldsOf c) []:=⟨⟨.sl 0 [] .nil,by simp,.inl ⟨rfl,rfl⟩⟩,hm.app⟩
   refine kCall.acall (expand_all hF' 6 none 0 l CondOk.none (fun x hx=>⟨h.wee x hx,by have:=valid_nest hv x hx;omega⟩) h.len _ T1 _ 0 mb [] .nilp hX rfl) ?_
   rintro v ⟨H2,T2⟩ ⟨ob,hg⟩
   have hnow:=hg.now
   rw [List.nil_append] at hnow
   have hout:=expandL_out (F:=fldsOf c) h
   generalize expandL (fldsOf c) 6 none l=L at *
   obtain⟨v,hb,hov⟩:=hnow.cell
   simp only at hb hov
   by_cases h4:400<L.length
   · rw [if_pos h4] at hr
     subst hr
     rw [if_pos (by decide)] at hs
     subst hs
     simp [-acells,-fin,-fin1,-fin2,-pl1,-pl2,-plain,-AV.atom,-getElem?_pos,hb,h4]
   rw [if_neg h4] at hr
   have hd4:decide (400<L.length)=false:=decide_eq_false h4
   rw [hd4] at hb
   rw [List.take_of_length_le (by omega)] at hov
   rcases hov with ⟨rfl,rfl⟩|⟨hne,rfl,hrow⟩
   · simp only [List.any_nil,Bool.false_eq_true,if_false,List.length_nil,Nat.not_lt_zero] at hr hs
     subst hr
     rw [if_neg (by decide)] at hs
     subst hs
     simp [-acells,-fin,-fin1,-fin2,-pl1,-pl2,-plain,-AV.atom,-getElem?_pos,hb]
     refine kLoop.listR ([]:List It) (fun d ev σ=>ev 7=.ptr H1.length 0∧ev 31=.int .i64 0∧ev 32=.int .i64 0∧σ.H[H1.length]?=some (.cells [.map mb,.sl 0 [] .nil,.bool false])) ?_ ?_ ?_
     · exact⟨by simp,by simp,by simp,hb⟩
     · rintro d x l ev σ R hR hd hx hlt _
       simp at hlt
     · rintro ev ⟨H3,T3⟩ ⟨h7,h31,h32,hb3⟩
       simp only at hb3
       simp [-acells,-fin,-fin1,-fin2,-pl1,-pl2,-plain,-AV.atom,-getElem?_pos,h7,h31,h32,hb3]
   · have hcut:∀ (i:Nat) (x:It),L[i]?=some x→cut (L.flatMap encI) (i*12) 12=some (encI x):=fun i x hx=>cut_flat encI_len L i x hx
     simp [-acells,-fin,-fin1,-fin2,-pl1,-pl2,-plain,-AV.atom,-getElem?_pos,hb]
     refine kLoop.listR L (fun d ev σ=>ev 7=.ptr H1.length 0∧ev 30=.ms ob 0 L.length 12∧ev 31=.int .i64 L.length∧ev 32=.int .i64 d.length∧(∃ t,σ=⟨H2++t,T2⟩)∧∀ y∈d,badX y=false) ?_ ?_ ?_
     · exact⟨by simp,by simp,by simp,by simp,⟨[],by simp⟩,by simp⟩
     · rintro d x l' ev σ R hR hd hx hlt ⟨h7,h30,h31,h32,⟨t,rfl⟩,hz⟩
       have hxm:=List.mem_of_getElem? hx
       have hxo:=hout x hxm
       have hc1:=hcut d.length x hx
       have hlt':(d.length:Int)<L.length:=by omega
       have hwr:IntKind.i64.wrap ((d.length:Int)+1)=d.length+1:=wr (by omega) (by omega)
       have hva:=valid88 x.expr hxo.wen (by have:=hgt_pre x.expr;have:=hxo.size;omega)
       have hbx:badX x=(asksK x.kind&&!decide (validE x.expr=0)):=rfl
       simp only [encI_eq x,encE_eq x.expr,List.cons_append,List.nil_append] at hc1
       simp only [encE_eq x.expr] at hva
       have next:badX x=false→∀ y,y∈d∨y=x→badX y=false:=hz_or hz
       have bad:badX x=true→r=2:=fun e=>by rw [hr,if_pos (List.any_eq_true.2 ⟨x,hxm,e⟩)]
       by_cases k12:x.kind=1∨x.kind=2
       · have hb12:badX x = !decide (validE x.expr=0):=by rw [hbx];simp [asksK,k12]
         have kk:(x.kind==1)=true∨((x.kind==1)=false∧(x.kind==2)=true):=by
          rcases k12 with e|e
          · exact .inl (by simp [e])
          · exact .inr ⟨by simp [e],by simp [e]⟩
         have tail:∀ q:Bool,q=badX x→(q=true→r=2)∧(q=false→∀ y,y∈d∨y=x→badX y=false):=fun q e=>⟨fun e'=>bad (by rw [← e,e']),fun e'=>next (by rw [← e,e'])⟩
         rcases k12 with k1|k2
         · rw [k1] at hc1
           simp [-cut,-acells,-fin,-fin1,-fin2,-pl1,-pl2,-plain,-AV.atom,-getElem?_pos,h7,h30,h31,h32,hlt,hlt',look_app hrow,hc1,k1,hwr]
           simp [-acells,-fin,-fin1,-fin2,-pl1,-pl2,-plain,-AV.atom,-getElem?_pos,h7,h30,h31,h32,hwr]
           refine kCall.call hva (by simp) ?_
           by_cases hz0:validE x.expr=0
           · simp [-acells,-fin,-fin1,-fin2,-pl1,-pl2,-plain,-AV.atom,-getElem?_pos,hz0,h7,h30,h31,h32,hwr]
             exact hR _ _ ⟨by simp [h7],by simp [h30],by simp [h31],by simp [h32,hwr],⟨_,by simp;rfl⟩,fun y hy=>next (by rw [hb12,hz0];rfl) y (by simpa using hy)⟩
           · have e2:=bad (by rw [hb12];simp [hz0])
             subst e2
             rw [if_pos (by decide)] at hs
             subst hs
             simp [-acells,-fin,-fin1,-fin2,-pl1,-pl2,-plain,-AV.atom,-getElem?_pos,hz0]
         · rw [k2] at hc1
           simp [-cut,-acells,-fin,-fin1,-fin2,-pl1,-pl2,-plain,-AV.atom,-getElem?_pos,h7,h30,h31,h32,hlt,hlt',look_app hrow,hc1,k2,hwr]
           simp [-acells,-fin,-fin1,-fin2,-pl1,-pl2,-plain,-AV.atom,-getElem?_pos,h7,h30,h31,h32,hwr]
           refine kCall.call hva (by simp) ?_
           by_cases hz0:validE x.expr=0
           · simp [-acells,-fin,-fin1,-fin2,-pl1,-pl2,-plain,-AV.atom,-getElem?_pos,hz0,h7,h30,h31,h32,hwr]
             exact hR _ _ ⟨by simp [h7],by simp [h30],by simp [h31],by simp [h32,hwr],⟨_,by simp;rfl⟩,fun y hy=>next (by rw [hb12,hz0];rfl) y (by simpa using hy)⟩
           · have e2:=bad (by rw [hb12];simp [hz0])
             subst e2
             rw [if_pos (by decide)] at hs
             subst hs
             simp [-acells,-fin,-fin1,-fin2,-pl1,-pl2,-plain,-AV.atom,-getElem?_pos,hz0]
       · have hb12:badX x=false:=by rw [hbx];simp [asksK,k12]
         have k1:¬ x.kind=1:=fun e=>k12 (.inl e)
         have k2:¬ x.kind=2:=fun e=>k12 (.inr e)
         simp [-cut,-acells,-fin,-fin1,-fin2,-pl1,-pl2,-plain,-AV.atom,-getElem?_pos,h7,h30,h31,h32,hlt,hlt',look_app hrow,hc1,k1,k2,hwr]
         simp [-acells,-fin,-fin1,-fin2,-pl1,-pl2,-plain,-AV.atom,-getElem?_pos,h7,h30,h31,h32,k1,k2,hwr]
         exact hR _ _ ⟨by simp [h7],by simp [h30],by simp [h31],by simp [h32,hwr],⟨_,by simp;rfl⟩,fun y hy=>next hb12 y (by simpa using hy)⟩
     · rintro ev σ ⟨h7,h30,h31,h32,⟨t,rfl⟩,hz⟩
       have hno:¬ L.any badX=true:=by
        rw [List.any_eq_true]
        rintro⟨y,hy,e⟩
        rw [hz y hy] at e;cases e
       rw [if_neg hno] at hr
       subst hr
       rw [if_neg (by decide)] at hs
       subst hs
       simp [-acells,-fin,-fin1,-fin2,-pl1,-pl2,-plain,-AV.atom,-getElem?_pos,h7,h31,h32,look_app hb]
       have hfl:=Go.Abs.flat_len encI_len S
       have hch:=Go.Abs.chunk_flat encI_len S []
       rw [List.append_nil] at hch
       simp only [fin2,fin1,look_app hrow,List.drop_zero,hch]
       rw [if_pos (by omega)]
       exact⟨by simp [noRef],Leq.refl _⟩
 · rw [if_pos h0] at hr
   subst hr
   rw [if_pos h0] at hs
   subst hs
   simp [-acells,-fin,-fin1,-fin2,-pl1,-pl2,-plain,-AV.atom,-getElem?_pos,h0]
section
structure Named1 (x:It):Prop where
 dist:x.kind=3→varS x.name=true
 solve:x.kind=6→∀ s∈x.before++x.after,varS s=true
 before:x.before.length≤8
 after:x.after.length≤8
theorem Named1.subst {x:It} (h:Named1 x) (s:Str) (b:Ex):Named1 (substI s b x):=by
 refine⟨fun k=>?_,fun k=>?_,?_,?_⟩
 · rw [substI_kind] at k;rw [substI_name];exact h.dist k
 · rw [substI_kind] at k;rw [substI_before,substI_after];exact h.solve k
 · rw [substI_before];exact h.before
 · rw [substI_after];exact h.after
theorem expandI_named {F:Flds}:∀ (h:Nat) (c:Option Ex) (x:It),(∀ y∈preI x,Named1 y)→∀ z∈expandI F h c x,Named1 z
 | 0,c,x,_,z,hz=>by simp [expandI] at hz
 | h+1,c,x,hx,z,hz=>by
  have hself:x∈preI x:=by rw [preI_eq];simp
  have hi:∀ a∈x.items,∀ y∈preI a,Named1 y:=fun a ha y hy=>hx y (by rw [preI_eq];exact List.mem_cons_of_mem _ (List.mem_append_left _ (mem_preIL.2 ⟨a,ha,hy⟩)))
  have he:∀ a∈x.els,∀ y∈preI a,Named1 y:=fun a ha y hy=>hx y (by rw [preI_eq];exact List.mem_cons_of_mem _ (List.mem_append_right _ (mem_preIL.2 ⟨a,ha,hy⟩)))
  have h1:=hx x hself
  simp only [expandI] at hz
  split at hz
  · rename_i k
    simp only [List.mem_cons,List.not_mem_nil,or_false] at hz
    subst hz
    refine⟨fun k3=>?_,fun k6=>?_,by simp [exprI,It.before],by simp [exprI,It.after]⟩
    · have k3':x.kind=3:=k3
      omega
    · have k6':x.kind=6:=k6
      omega
  split at hz
  · rcases List.mem_append.1 hz with hz|hz
    · obtain⟨a,ha,hza⟩:=List.mem_flatMap.1 hz
      exact expandI_named h _ a (hi a ha) z hza
    · obtain⟨a,ha,hza⟩:=List.mem_flatMap.1 hz
      exact expandI_named h _ a (he a ha) z hza
  split at hz
  · obtain⟨k,_,hzk⟩:=List.mem_flatMap.1 hz
    obtain⟨a,ha,hza⟩:=List.mem_flatMap.1 hzk
    obtain⟨b,hb,rfl⟩:=List.mem_map.1 ha
    refine expandI_named h c _ (fun y hy=>?_) z hza
    rw [preI_subst] at hy
    obtain⟨w,hw,rfl⟩:=List.mem_map.1 hy
    exact (hi b hb w hw).subst _ _
  split at hz
  · rename_i k
    simp only [List.mem_cons,List.not_mem_nil,or_false] at hz
    subst hz
    exact⟨fun _=>h1.dist k,fun k6=>by simp [It.kind] at k6,by simp [It.before],by simp [It.after]⟩
  split at hz
  · rename_i k
    simp only [List.mem_cons,List.not_mem_nil,or_false] at hz
    subst hz
    exact⟨fun k3=>by simp [It.kind] at k3,fun _=>h1.solve k,h1.before,h1.after⟩
  · cases hz
theorem varS_len {s:Str} (h:varS s=true):s.length≤19:=by
 unfold varS at h
 rcases Bool.or_eq_true_iff.1 h with h|h
 · have:=name_len h;omega
 · cases e:elemO s with
   | none=>rw [e] at h;cases h
   | some p=>
    have:=elemO_some.1 (show elemO s=some (p.1,p.2) from e)
    rw [this.2.2,elemS_length]
    have:=name_len this.2.1
    omega
theorem namedL_len (V:List Var):∀ l:List Str,(namedL V l).length≤l.length*8
 | []=>by simp [namedL]
 | s::r=>by
  have h1:=namedS1_len V s
  have h2:=namedL_len V r
  unfold namedL at h2 ⊢
  rw [List.flatMap_cons,List.length_append,List.length_cons]
  omega
section
variable {T0:List (Option Nat)} {B vb m:Nat} {c:Cls} {V:List Var}
theorem distsI_len (V:List Var) (x:It):(distsI V x).length≤8:=by
 unfold distsI
 split
 · have:=namedS1_len V x.name;simpa using this
 · simp
theorem edgesI_len {V:List Var} {x:It} (h:Named1 x):(edgesI V x).length≤4096:=by
 unfold edgesI
 split
 · have h1:=edges_len V (namedL V x.before) (namedL V x.after)
   have h2:=namedL_len V x.before
   have h3:=namedL_len V x.after
   have h4:=h.before
   have h5:=h.after
   have:(namedL V x.after).length*(namedL V x.before).length≤64*64:=Nat.mul_le_mul (by omega) (by omega)
   omega
 · simp
set_option maxHeartbeats 4000000 in
theorem add49 (x:It) (n:Nat) (ho:OutOk n x) (hn:Named1 x) (hV:∀ v∈V,varS v.name=true) (hl:V.length≤1000) (H:List Blk) (T:List (Option Nat)) {D:List Dist} {E:List (Int×Int)} {td:Nat} {R:List Rec} {clk:Nat} (hD:D.length+8≤1000000) (hE:E.length+4096≤1000000000)
 (h:BX T0 B vb m c V ⟨H,T⟩ D E td R clk):ACall Tryz.prog GG 49 [.ptr B 0,.agg (encI x)] ⟨H,T⟩ (fun _ σ'=>∃ td' R' clk',BX T0 B vb m c V σ' (D++distsI V x) (E++edgesI V x) td' R' clk'∧Kp2 B m H σ'.H):=by
 by_cases k3:x.kind=3
 · have e:edgesI V x=[]:=by unfold edgesI;rw [if_neg (by omega)]
   rw [e,List.append_nil]
   exact add49dist x k3 hV hl (by have:=varS_len (hn.dist k3);omega) ho.ws H T hD h
 by_cases k6:x.kind=6
 · have e:distsI V x=[]:=by unfold distsI;rw [if_neg k3]
   rw [e,List.append_nil]
   have h2:=namedL_len V x.before
   have h3:=namedL_len V x.after
   have h4:=hn.before
   have h5:=hn.after
   have h6:(namedL V x.after).length*(namedL V x.before).length≤64*64:=Nat.mul_le_mul (by omega) (by omega)
   have hs:=hn.solve k6
   exact add49solve x k6 hV hl (fun s hs'=>by have:=varS_len (hs s (by simp [hs']));omega) (fun s hs'=>by have:=varS_len (hs s (by simp [hs']));omega) (by omega) (by omega) H T (by omega) h (by omega) (by omega)
 · have e:edgesI V x=[]:=by unfold edgesI;rw [if_neg k6]
   have e2:distsI V x=[]:=by unfold distsI;rw [if_neg k3]
   rw [e,e2,List.append_nil,List.append_nil]
   refine ACall.kO ⟨false,plans49,[],[]⟩ mixed Tryz.func49 rfl (by kernel_rfl) ?_
   simp [-acells,-fin,-fin1,-fin2,-pl1,-pl2,-plain,-AV.atom,-getElem?_pos,encI_eq x,encE_eq x.expr,k3,k6]
   exact⟨⟨td,R,clk,h.ext _ List.prefix_rfl⟩,Kp2.app⟩
end
end
section
section
variable {B vb m:Nat} {c:Cls} {V:List Var}
theorem BX.rowlen {T0:List (Option Nat)} {σ:St} {D:List Dist} {E:List (Int×Int)} {td:Nat} {R:List Rec} {clk:Nat} (h:BX T0 B vb m c V σ D E td R clk) (hV:V≠[]) {bx:Nat} {cs:List AV} (hx:σ.H[bx]?=some (.cells cs)) (hl:cs.length<4):vb≠bx:=by
 obtain⟨vv,dv,h1,h2,h3⟩:=h.cell
 rintro rfl
 have hr:=(h2.at hV).2
 rw [hx] at hr
 simp only [Option.some.injEq,Blk.cells.injEq] at hr
 have:=Go.Abs.flat_len (en:=encVar) (sz:=4) (fun x=>rfl) V
 rw [← hr] at this
 have:0<V.length:=List.length_pos_iff.2 hV
 omega
theorem BX.other {σ:St} {td clk bx:Nat} (h:BX [] B vb m c V σ [] [] td [] clk) (h1:bx≠B) (h2:bx≠m) (h3:V≠[]→vb≠bx) (y:Blk) (T':List (Option Nat)):BX [] B vb m c V ⟨σ.H.set bx y,T'⟩ [] [] td [] clk:=by
 obtain⟨vv,dv,a1,a2,a3⟩:=h.cell
 refine⟨⟨vv,dv,?_,a2.keep fun x hl hx=>?_,.inl ?_⟩,?_,AfterOk.nil,List.nil_prefix⟩
 · show (σ.H.set bx y)[B]?=_
   rw [List.getElem?_set_ne h1];exact a1
 · rw [List.getElem?_set_ne (Ne.symm (h3 hl))];exact hx
 · rcases a3 with a3|⟨a,_⟩
   · exact a3
   · exact absurd rfl a
 · show (σ.H.set bx y)[m]?=_
   rw [List.getElem?_set_ne h2];exact h.map
def KpL (bs:List Nat) (H H':List Blk):Prop:=H.length≤H'.length∧∀ (k:Nat) (x:Blk),H[k]?=some x→k∉bs→H'[k]?=some x
theorem KpL.refl {bs:List Nat} {H:List Blk}:KpL bs H H:=⟨Nat.le_refl _,fun _ _ h _=>h⟩
theorem KpL.trans {bs:List Nat} {H H' H'':List Blk} (h:KpL bs H H') (h':KpL bs H' H''):KpL bs H H'':=⟨Nat.le_trans h.1 h'.1,fun k x hk h1=>h'.2 k x (h.2 k x hk h1) h1⟩
theorem KpL.app {bs:List Nat} {H t:List Blk}:KpL bs H (H++t):=⟨by simp,fun k x hk _=>look_app hk t⟩
theorem KpL.set {bs:List Nat} {H:List Blk} {b:Nat} {y:Blk} (hb:b∈bs):KpL bs H (H.set b y):=⟨by simp,fun k x hk hn=>by
 rw [List.getElem?_set_ne (by rintro rfl;exact hn hb)];exact hk⟩
theorem KpL.of2 {bs:List Nat} {H H':List Blk} (h:Kp2 B m H H') (hB:B∈bs) (hm:m∈bs):KpL bs H H':=⟨h.1,fun k x hk hn=>h.2 k x hk (by rintro rfl;exact hn hB) (by rintro rfl;exact hn hm)⟩
structure FewN (l:List It):Prop where
 few:Few l
 lens:∀ y∈preIL l,y.before.length≤8∧y.after.length≤8
theorem FewN.named {F:Flds} {l:List It} (h:FewN l) (h0:expandE F l=0):∀ y∈expandL F 6 none l,Named1 y:=by
 have hv:validI l=0:=by
  have hc:checkI F l=0:=by
   unfold expandE at h0
   split at h0
   · rename_i hn;exact absurd h0 hn
   · rename_i hn;exact Classical.not_not.1 hn
  unfold checkI at hc
  split at hc
  · rename_i hn;exact absurd hc hn
  · rename_i hn;exact Classical.not_not.1 hn
 intro y hy
 obtain⟨x,hx,hxy⟩:=List.mem_flatMap.1 hy
 refine expandI_named 6 none x (fun z hz=>?_) y hxy
 have hzm:z∈preIL l:=mem_preIL.2 ⟨x,hx,hz⟩
 have hs:=h.few.sound hv hzm
 have hl:=h.lens z hzm
 exact⟨hs.dist,hs.solve,hl.1,hl.2⟩
theorem expandE_zero {F:Flds} {l:List It} (h0:expandE F l=0):(expandL F 6 none l).length≤400∧expandS F l=expandL F 6 none l∧∀ y∈expandL F 6 none l,badX y=false:=by
 refine⟨?_,by unfold expandS;rw [if_neg (by simp [h0])],?_⟩
 · unfold expandE at h0
   split at h0
   · rename_i hn;exact absurd h0 hn
   split at h0
   · cases h0
   · omega
 · intro y hy
   cases e:badX y with
   | false=>rfl
   | true=>
    unfold expandE at h0
    split at h0
    · rename_i hn;exact absurd h0 hn
    split at h0
    · cases h0
    split at h0
    · cases h0
    · rename_i hn;exact absurd (List.any_eq_true.2 ⟨y,hy,e⟩) hn
set_option maxHeartbeats 16000000 in
theorem expand47 (hc:ClsOk c) (hV:∀ v∈V,varS v.name=true) (hl:V.length≤1000) (ls:List (List It)) (hls:ls.length≤100) (hfw:∀ l∈ls,FewN l) (H:List Blk) (T:List (Option Nat)) (bl bc bx bp clk td:Nat)
 (e1:H[bl]?=some (.cells [.sl 1 (ls.map encIts) .none])) (e2:H[bc]?=some (.cells (encCls c))) (e3:H[bx]?=some (.cells [.sl 0 [] .nil])) (e4:H[bp]?=some (.cells [.ptr B 0]))
 (n1:bl∉[B,m,bx]) (n2:bc∉[B,m,bx]) (n4:bp∉[B,m,bx]) (hxB:bx≠B) (hxm:bx≠m) (h:BX [] B vb m c V ⟨H,T⟩ [] [] td [] clk) :
 ACall Tryz.prog GG 47 [.ptr bl 0,.ptr bc 0,.ptr bx 0,.ptr bp 0] ⟨H,T⟩ (fun r σ'=>r=.int .i64 (firstE (expandE (fldsOf c)) ls)∧KpL [B,m,bx] H σ'.H∧(firstE (expandE (fldsOf c)) ls=0 →
  ∃ td' R' clk' sz tok,BX [] B vb m c V σ' ((expandedS (fldsOf c) ls).flatMap (distsI V)) ((expandedS (fldsOf c) ls).flatMap (edgesI V)) td' R' clk'∧σ'.H[bx]?=some (.cells [.sl sz ((expandedS (fldsOf c) ls).map encI) tok])∧(sz=12∨expandedS (fldsOf c) ls=[]))):=by
 refine ACall.k mixed Tryz.func47 rfl (by kernel_rfl) ?_
 have hF:∀ f∈c.fields,f.size≤1000:=fun f hf=>by have:=(fieldE_zero (hc.fields f hf)).s8;omega
 have hcf:c.fields.length≤1000:=by have:=hc.nf;omega
 have hex:∀ d,expandedS (fldsOf c) d=d.flatMap (expandL (fldsOf c) 6 none):=fun d=>rfl
 simp only [encCls] at e2
 simp [-acells,-fin,-fin1,-fin2,-pl1,-pl2,-plain,-AV.atom,-getElem?_pos,e1]
 refine kLoop.listR ls (fun d ev σ=>ev 1=.ptr bc 0∧ev 2=.ptr bx 0∧ev 3=.ptr bp 0∧ev 11=.sl 1 (ls.map encIts) .none∧ev 12=.int .i64 ls.length∧ev 13=.int .i64 d.length∧KpL [B,m,bx] H σ.H∧BX [] B vb m c V σ [] [] td [] clk∧(∀ l∈d,expandE (fldsOf c) l=0)∧(expandedS (fldsOf c) d).length≤d.length*400 ∧
  ∃ vx,σ.H[bx]?=some (.cells [vx])∧OutAt 0 12 encI σ.T vx (expandedS (fldsOf c) d)) ?_ ?_ ?_
 · exact⟨by simp,by simp,by simp,by simp,by simp,by simp,KpL.refl,h,by simp,by simp [hex],_,e3,by simpa [hex] using OutAt.nil⟩
 · rintro d l r ev ⟨H1,T1⟩ Rl hRl hd hx hlt ⟨h1,h2,h3,h11,h12,h13,hkp,hB,hz,hln,vx,hvx,hout⟩
   have hlm:=List.mem_of_getElem? hx
   have hf:=hfw l hlm
   have hxp:=expand48 l c hf.few hcf hF
   have hc2:=hkp.2 _ _ e2 n2
   have hdl:d.length≤100:=by omega
   simp only [encCls] at hxp
   simp [-acells,-fin,-fin1,-fin2,-pl1,-pl2,-plain,-AV.atom,-getElem?_pos,h1,h2,h3,h11,h12,h13,hlt,hx,encIts,hc2]
   refine kCall.call hxp (by simp) ?_
   by_cases h0:expandE (fldsOf c) l=0
   · obtain⟨q1,q2,q3⟩:=expandE_zero h0
     rw [q2]
     obtain⟨v',T2,happ,ho2,hT2⟩:=OutAt.append (T0:=[]) (sz:=12) (en:=encI) (T:=T1) (v:=vx) (l:=expandedS (fldsOf c) d) (m:=expandL (fldsOf c) 6 none l) (tok:=.none) (by simpa using hout) List.nil_prefix D24 rfl D68 rfl (by omega) rfl (by decide) (by omega) 12 (.inl rfl)
     have hac:=ho2.acells
     have hes:expandedS (fldsOf c) (d++[l])=expandedS (fldsOf c) d++expandL (fldsOf c) 6 none l:=by simp [hex]
     generalize expandL (fldsOf c) 6 none l=M at *
     simp [-acells,-fin,-fin1,-fin2,-pl1,-pl2,-plain,-AV.atom,-getElem?_pos,h0,h1,h2,h3,h11,h12,h13,hvx,happ,hac]
     refine hRl _ _ ⟨by simp [h1],by simp [h2],by simp [h3],by simp [h11],by simp [h12],by simp [h13];exact wr (by omega) (by omega),hkp.trans (KpL.set (by simp)),hB.other hxB hxm (fun hVn=>hB.rowlen hVn hvx (by simp)) _ _,?_,?_,v',?_,?_⟩
     · intro y hy
       rcases List.mem_append.1 hy with hy|hy
       · exact hz y hy
       · simp at hy;subst hy;exact h0
     · rw [hes,List.length_append,List.length_append,List.length_singleton];omega
     · show (H1.set bx _)[bx]?=_
       rw [List.getElem?_set_self (List.getElem?_eq_some_iff.1 hvx).1]
     · rw [hes];simpa using ho2
   · have e:firstE (expandE (fldsOf c)) ls=expandE (fldsOf c) l:=by rw [hd];exact firstE_at hz h0
     rw [e]
     simp [-acells,-fin,-fin1,-fin2,-pl1,-pl2,-plain,-AV.atom,-getElem?_pos,h0]
     exact hkp
 · rintro ev ⟨H1,T1⟩ ⟨h1,h2,h3,h11,h12,h13,hkp,hB,hz,hln,vx,hvx,hout⟩
   have hfz:firstE (expandE (fldsOf c)) ls=0:=firstE_zero.2 hz
   have hXo:∀ y∈expandedS (fldsOf c) ls,OutOk 7014 y∧Named1 y:=fun y hy=>by
    obtain⟨l,hlm,hyl⟩:=List.mem_flatMap.1 (show y∈ls.flatMap (expandL (fldsOf c) 6 none) from hy)
    exact⟨expandL_out (hfw l hlm).few y hyl,(hfw l hlm).named (hz l hlm) y hyl⟩
   have hp2:=hkp.2 _ _ e4 n4
   rw [hfz]
   generalize expandedS (fldsOf c) ls=X at *
   have hXl:X.length≤40000:=by omega
   obtain⟨sz,tok,rfl,hsz⟩:∃ sz tok,vx=.sl sz (X.map encI) tok∧(sz=12∨X=[]):=by
    rcases hout with ⟨rfl,rfl⟩|⟨_,t,_,rfl,_⟩
    · exact⟨0,.nil,rfl,.inr rfl⟩
    · exact⟨12,_,rfl,.inl rfl⟩
   simp [-acells,-fin,-fin1,-fin2,-pl1,-pl2,-plain,-AV.atom,-getElem?_pos,h1,h2,h3,h12,h13,hvx]
   refine kLoop.listR X (fun d ev σ=>ev 3=.ptr bp 0∧ev 30=.sl sz (X.map encI) tok∧ev 31=.int .i64 X.length∧ev 32=.int .i64 d.length∧KpL [B,m] H1 σ.H∧(d.flatMap (distsI V)).length≤d.length*8∧(d.flatMap (edgesI V)).length≤d.length*4096∧∃ td' R' clk',BX [] B vb m c V σ (d.flatMap (distsI V)) (d.flatMap (edgesI V)) td' R' clk') ?_ ?_ ?_
   · exact⟨by simp [h3],by simp,by simp,by simp,KpL.refl,by simp,by simp,td,[],clk,by simpa using hB⟩
   · clear h1 h2 h3 h11 h12 h13 hB hout
     rintro d x r ev ⟨H2,T2⟩ Rl hRl hd hx hlt ⟨h3,h30,h31,h32,hk2,hl1,hl2,td2,R2,clk2,hB2⟩
     have hs2:sz=12:=hsz.resolve_right (by rintro rfl;simp at hlt)
     subst hs2
     obtain⟨ho,hnm⟩:=hXo x (List.mem_of_getElem? hx)
     have hp3:=hk2.2 _ _ hp2 (by simp at n4 ⊢;exact⟨n4.1,n4.2.1⟩)
     have ha:=add49 x 7014 ho hnm hV hl (H2++[.cells (encI x)]) T2 (by omega) (by omega) (hB2.ext [.cells (encI x)] List.prefix_rfl)
     have hd1:=distsI_len V x
     have hd2:=edgesI_len (V:=V) hnm
     simp only [encI_eq x,encE_eq x.expr,List.cons_append,List.nil_append] at ha
     simp [-acells,-fin,-fin1,-fin2,-pl1,-pl2,-plain,-AV.atom,-getElem?_pos,h3,h30,h31,h32,hlt,hx,encI_eq x,encE_eq x.expr,look_app hp3]
     refine kCall.acall ha ?_
     rintro v ⟨H3,T3⟩ ⟨td3,R3,clk3,hB3,hk3⟩
     simp [-acells,-fin,-fin1,-fin2,-pl1,-pl2,-plain,-AV.atom,-getElem?_pos,h3,h30,h31,h32]
     refine hRl _ _ ⟨by simp [h3],by simp [h30],by simp [h31],by simp [h32];exact wr (by omega) (by omega),hk2.trans (KpL.app.trans (KpL.of2 hk3 (by simp) (by simp))),?_,?_,td3,R3,clk3,?_⟩
     · simp only [List.flatMap_append,List.length_append,List.flatMap_cons,List.flatMap_nil,List.append_nil,List.length_cons,List.length_nil];omega
     · simp only [List.flatMap_append,List.length_append,List.flatMap_cons,List.flatMap_nil,List.append_nil,List.length_cons,List.length_nil];omega
     · simpa using hB3
   · clear h1 h2 h3 h11 h12 h13 hB hout
     rintro ev ⟨H2,T2⟩ ⟨h3,h30,h31,h32,hk2,hl1,hl2,td2,R2,clk2,hB2⟩
     simp [-acells,-fin,-fin1,-fin2,-pl1,-pl2,-plain,-AV.atom,-getElem?_pos,h31,h32]
     have hk2':KpL [B,m,bx] H1 H2:=⟨hk2.1,fun k x hk hn=>hk2.2 k x hk (by simp at hn ⊢;exact⟨hn.1,hn.2.1⟩)⟩
     exact⟨hkp.trans hk2',⟨td2,R2,clk2,hB2⟩,sz,⟨tok,hk2.2 _ _ hvx (by simp;exact⟨hxB,hxm⟩)⟩,hsz⟩
end
end
end Go.Proofs.YtpgcmnabljandaaGreatDoor
end
