/- For every input that fits the row, the law ElabHolds returns true and each argument reads afterwards as it read before: an assignment satisfies all hard constraints of a problem exactly if it satisfies those of the class that are switched on, and the additional ones. No further condition; the package-level variables that the row lists start as the text of the program lays them; the card ties them to that text. -/
import Derived.Test.YtpgcmnabljandaaGreatDoorHs03
import Derived.Test.YtpgcmnabljandaaGreatDoorGa25
import Derived.Test.YtpgcmnabljandaaGreatDoorGa26
import Derived.Test.YtpgcmnabljandaaGreatDoorRows
import Derived.ProofKit
import Derived.Stop.Joined
import Derived.SevenTiedAt
import Derived.Test.YtpgcmnabljandaaGreatDoorTie
import Derived.Test.YtpgcmnabljandaaGreatDoorCards
set_option linter.unusedVariables false
set_option linter.unusedSimpArgs false
set_option maxRecDepth 100000
section
namespace Go.Proofs.YtpgcmnabljandaaGreatDoor
open Go Go.Abs
theorem meaning17x (c:Cls) (hf:Fits c.fields) (h8:∀ s,(fldsOf c s).getD 0≤1000):∀ x,WeeI x→∀ env:List Signal,env.length+nestI x≤100000 →
 Pure Tryz.prog GG 17 [.sl 12 (x.items.map encI) .none,.agg (encCls c),.sl 2 (env.map encSignal) .none] (.bool (mL (fldsOf c) x.items env)) ∧
 Pure Tryz.prog GG 17 [.sl 12 (x.els.map encI) .none,.agg (encCls c),.sl 2 (env.map encSignal) .none] (.bool (mL (fldsOf c) x.els env)):=by
 refine It.ind fun x h1 h2 hw env he=>⟨?_,?_⟩
 · refine m17S c hf h8 x.items hw.self.low.items (fun y hy=>(hw.item hy).self) env (by omega) fun y hy env' he'=>?_
   exact h1 y hy (hw.item hy) env' (by have:=nestI_item hy;omega)
 · refine m17S c hf h8 x.els hw.self.low.els (fun y hy=>(hw.els hy).self) env (by omega) fun y hy env' he'=>?_
   exact h2 y hy (hw.els hy) env' (by have:=nestI_els hy;omega)
theorem meaning17 (c:Cls) (hf:Fits c.fields) (h8:∀ s,(fldsOf c s).getD 0≤1000) (l:List It) (hl:l.length≤1000) (hw:∀ x∈l,WeeI x) (hn:∀ x∈l,nestI x≤5) (env:List Signal) (he:env.length≤10000) :
 Pure Tryz.prog GG 17 [.sl 12 (l.map encI) .none,.agg (encCls c),.sl 2 (env.map encSignal) .none] (.bool (mL (fldsOf c) l env)) :=
 m17S c hf h8 l hl (fun x hx=>(hw x hx).self) env (by omega) fun x hx env' he'=>meaning17x c hf h8 x (hw x hx) env' (by have:=hn x hx;omega)
set_option maxHeartbeats 16000000 in
theorem law3 (q:Ask) (xs:List Int) (h:HoldA q) (hxs:Fits xs):Pure Tryz.prog GG 3 [.agg (encAsk q),.sl 1 (xs.map encInt) .none] (.bool true):=by
 refine Pure.k mixed Tryz.func3 rfl (by kernel_rfl) ?_
 have hl:=light10 q h
 simp only [encAsk] at hl
 simp [-acells,-fin,-fin1,-fin2,-pl1,-pl2,-plain,-AV.atom,-getElem?_pos]
 refine kCall.call hl (by simp) ?_
 cases hlt:lightS q with
 | false=>
  simp [-acells,-fin,-fin1,-fin2,-pl1,-pl2,-plain,-AV.atom,-getElem?_pos]
  refine kCall.call works11 (by simp) ?_
  simp [-acells,-fin,-fin1,-fin2,-pl1,-pl2,-plain,-AV.atom,-getElem?_pos]
 | true=>
  have ha:=ask_ok h hlt
  have hp:=problem12 q ha
  by_cases he:problemE q=0
  · obtain⟨hvq,hv⟩:=ask_vq ha he
    obtain⟨hl0,_,hx0,_,_⟩:=ask_parts he
    have hfl:=flatten13 q.src ha.src ha.low q.name
    rw [hl0] at hfl
    have hth:=ask_holds ha he xs
    have hva:=valid14q _ hvq
    rw [hv] at hva
    have hfit:=fit15 (problemS q) xs hvq.vars hxs
    have hfl2:=fitL_len (problemS q).vars xs
    have hvl:=hvq.vars
    have hen:=env16 (problemS q) (fitL (problemS q).vars xs) hvq.vars (by unfold Fits;omega)
    have hel:=envS_len (l:=(problemS q).vars) (a:=fitL (problemS q).vars xs)
    have hc:=flat_ok hl0
    have hho:=fun e he=>holds19q (problemS q) (fitL (problemS q).vars xs) e hvq (by unfold Fits;omega) (hvq.exprs e he).1 (hvq.exprs e he).2.1 (hvq.exprs e he).2.2
    have hcf:Fits (flattenS q.src q.name).fields:=by have:=hc.nf;unfold Fits;omega
    have hc8:∀ s,(fldsOf (flattenS q.src q.name) s).getD 0≤1000:=fun s=>by
     cases hF:fldsOf (flattenS q.src q.name) s with
     | none=>simp
     | some n=>
      obtain⟨f,hf,_,rfl⟩:=fldsOf_some hF
      have:=(fieldE_zero (hc.fields f hf)).s8
      simp;omega
    have hzx:=firstE_zero.1 hx0
    have hfew:=ha.few
    have hmn:∀ l∈listsC (flattenS q.src q.name) q.off q.more,Pure Tryz.prog GG 17 [.sl 12 (l.map encI) .none,.agg (encCls (flattenS q.src q.name)),.sl 2 ((envS (problemS q).vars (fitL (problemS q).vars xs)).map encSignal) .none] (.bool (mL (fldsOf (flattenS q.src q.name)) l (envS (problemS q).vars (fitL (problemS q).vars xs)))):=fun l hlm=>
     meaning17 _ hcf hc8 l (hfew l hlm).few.len (hfew l hlm).few.wee (cPa (hzx l hlm)).1 _ (by omega)
    have hof:=fun s=>off18 q.off s ha.off
    have hhl:=hvq.hard
    rw [he] at hp
    clear hzx hfew hx0 hfl2 hel ha
    generalize problemS q=p at *
    generalize flattenS q.src q.name=c at *
    generalize fitL p.vars xs=A at *
    generalize envS p.vars A=E at *
    have hmore:=hmn q.more (by simp [listsC])
    have hblk:∀ b∈c.blocks,q.off.contains b.name=false→Pure Tryz.prog GG 17 [.sl 12 (b.items.map encI) .none,.agg (encCls c),.sl 2 (E.map encSignal) .none] (.bool (mL (fldsOf c) b.items E)):=fun b hb hob=>hmn b.items (by
     unfold listsC
     exact List.mem_append_left _ (List.mem_map.2 ⟨b,List.mem_filter.2 ⟨hb,by unfold onB;rw [hob];rfl⟩,rfl⟩))
    clear hmn
    generalize hF:fldsOf c=F at *
    simp only [encP,encCls] at hp hfl hva hfit hen hmore hblk hho
    simp [-acells,-fin,-fin1,-fin2,-pl1,-pl2,-plain,-AV.atom,-getElem?_pos]
    refine kCall.call hp (by simp) ?_
    simp [-acells,-fin,-fin1,-fin2,-pl1,-pl2,-plain,-AV.atom,-getElem?_pos]
    refine kCall.call hfl (by simp) ?_
    simp [-acells,-fin,-fin1,-fin2,-pl1,-pl2,-plain,-AV.atom,-getElem?_pos]
    refine kCall.call hva (by simp) ?_
    simp [-acells,-fin,-fin1,-fin2,-pl1,-pl2,-plain,-AV.atom,-getElem?_pos]
    refine kCall.call hfit (by simp) ?_
    simp [-acells,-fin,-fin1,-fin2,-pl1,-pl2,-plain,-AV.atom,-getElem?_pos]
    refine kCall.call hen (by simp) ?_
    simp [-acells,-fin,-fin1,-fin2,-pl1,-pl2,-plain,-AV.atom,-getElem?_pos]
    refine kCall.call hmore (by simp) ?_
    simp [-acells,-fin,-fin1,-fin2,-pl1,-pl2,-plain,-AV.atom,-getElem?_pos]
    refine kLoop.listR c.blocks (fun d ev σ=>ev 2=.ptr 0 0∧ev 5=.ptr 1 0∧ev 7=.ptr 2 0∧ev 9=.sl 1 (A.map encInt) .none∧ev 10=.sl 2 (E.map encSignal) .none∧ev 11=.bool (mL F q.more E&&d.all fun b=>q.off.contains b.name||mL F b.items E)∧ev 12=.int .i64 d.length∧σ.H[0]?=some (.cells [.sl 4 (q.src.map encCls) .none,.str q.name,.sl 1 (q.off.map encStr) .none,.sl 12 (q.more.map encI) .none,.sl 2 (q.state.map encSignal) .none])∧σ.H[1]?=some (.cells [.sl 4 (p.vars.map encVar) .none,.sl 4 (p.hard.map encE) .none,.sl 4 (p.soft.map encE) .none,.sl 2 (p.dists.map encDist) .none,.sl 1 (p.groups.map encInts) .none])∧σ.H[2]?=some (.cells [.str c.name,.str c.parent,.sl 5 (c.fields.map encFld) .none,.sl 2 (c.blocks.map encBlc) .none])) ?_ ?_ ?_
    · exact⟨by simp,by simp,by simp,by simp,by simp,by simp,by simp,by simp,by simp,by simp⟩
    · rintro d b rest ev σ R hR hd hx hlt2 ⟨h2,h5,h7,h9,h10,h11,h12,b0,b1,b2⟩
      have hbm:=List.mem_of_getElem? hx
      have hnb:=hc.nb
      have hdw:IntKind.i64.wrap ((d.length:Int)+1)=(d.length+1:Nat):=by rw [wr (by omega) (by omega)];omega
      have hob:=hof b.name
      have hbk:=hblk b hbm
      have hall:((d++[b]).all fun b=>q.off.contains b.name||mL F b.items E)=((d.all fun b=>q.off.contains b.name||mL F b.items E)&&(q.off.contains b.name||mL F b.items E)):=by simp
      have hfin:∀ (w:Bool) ev',w=(mL F q.more E&&((d++[b]).all fun b=>q.off.contains b.name||mL F b.items E))→(ev' 2=.ptr 0 0∧ev' 5=.ptr 1 0∧ev' 7=.ptr 2 0∧ev' 9=.sl 1 (A.map encInt) .none∧ev' 10=.sl 2 (E.map encSignal) .none∧ev' 11=.bool w∧ev' 12=.int .i64 (d.length+1:Nat))→R ev' σ:=fun w ev' hw hh=>by
       obtain⟨k2,k5,k7,k9,k10,k11,k12⟩:=hh
       exact hR _ _ ⟨k2,k5,k7,k9,k10,by rw [k11,hw],by rw [k12];simp,b0,b1,b2⟩
      rw [hall] at hfin
      generalize q.off.contains b.name=o at *
      generalize mL F b.items E=m at *
      generalize hw:mL F q.more E=mm at *
      generalize (d.all fun b=>q.off.contains b.name||mL F b.items E)=da at *
      cases hv1:(mm&&da) with
      | false=>
       rw [hv1] at h11
       simp [-acells,-fin,-fin1,-fin2,-pl1,-pl2,-plain,-AV.atom,-getElem?_pos,-Int.natCast_add,h2,h5,h7,h9,h10,h11,h12,b0,b1,b2,hlt2,hx,hdw]
       exact hfin false _ (by rw [← Bool.and_assoc,hv1];rfl) ⟨by simp [h2],by simp [h5],by simp [h7],by simp [h9],by simp [h10],by simp,by simp [-Int.natCast_add,hdw]⟩
      | true=>
       rw [hv1] at h11
       simp [-acells,-fin,-fin1,-fin2,-pl1,-pl2,-plain,-AV.atom,-getElem?_pos,-Int.natCast_add,h2,h5,h7,h9,h10,h11,h12,b0,b1,b2,hlt2,hx]
       refine kCall.call hob (by simp) ?_
       cases o with
       | true=>
        simp [-acells,-fin,-fin1,-fin2,-pl1,-pl2,-plain,-AV.atom,-getElem?_pos,-Int.natCast_add,h2,h5,h7,h9,h10,h11,h12,b0,b1,b2,hlt2,hx,hdw]
        exact hfin true _ (by rw [← Bool.and_assoc,hv1];rfl) ⟨by simp [h2],by simp [h5],by simp [h7],by simp [h9],by simp [h10],by simp,by simp [-Int.natCast_add,hdw]⟩
       | false=>
        simp [-acells,-fin,-fin1,-fin2,-pl1,-pl2,-plain,-AV.atom,-getElem?_pos,-Int.natCast_add,h2,h5,h7,h9,h10,h11,h12,b0,b1,b2,hlt2,hx]
        refine kCall.call (hbk rfl) (by simp) ?_
        simp [-acells,-fin,-fin1,-fin2,-pl1,-pl2,-plain,-AV.atom,-getElem?_pos,-Int.natCast_add,h2,h5,h7,h9,h10,h11,h12,b0,b1,b2,hlt2,hx,hdw]
        exact hfin m _ (by rw [← Bool.and_assoc,hv1];simp) ⟨by simp [h2],by simp [h5],by simp [h7],by simp [h9],by simp [h10],by simp,by simp [-Int.natCast_add,hdw]⟩
    · rintro ev σ ⟨h2,h5,h7,h9,h10,h11,h12,b0,b1,b2⟩
      rw [← hth] at h11
      simp [-acells,-fin,-fin1,-fin2,-pl1,-pl2,-plain,-AV.atom,-getElem?_pos,-Int.natCast_add,h2,h5,h7,h9,h10,h11,h12,b0,b1,b2]
      generalize hw:(p.hard.all fun e=>holdsS p A e)=w at *
      refine kLoop.listR p.hard (fun d ev σ=>ev 5=.ptr 1 0∧ev 9=.sl 1 (A.map encInt) .none∧ev 11=.bool w∧ev 13=.bool (d.all fun e=>holdsS p A e)∧ev 14=.int .i64 d.length∧σ.H[1]?=some (.cells [.sl 4 (p.vars.map encVar) .none,.sl 4 (p.hard.map encE) .none,.sl 4 (p.soft.map encE) .none,.sl 2 (p.dists.map encDist) .none,.sl 1 (p.groups.map encInts) .none])) ?_ ?_ ?_
      · exact⟨by simp [h5],by simp [h9],by simp [h11],by simp,by simp,b1⟩
      · clear h2 h5 h7 h9 h10 h11 h12 b0 b1 b2
        rintro d e rest ev σ R hR hd hx hlt2 ⟨h5,h9,h11,h13,h14,b1⟩
        have hem:=List.mem_of_getElem? hx
        have hoe:=hho e (List.mem_append_left _ hem)
        simp only [encE_eq e] at hoe
        have hdw:IntKind.i64.wrap ((d.length:Int)+1)=(d.length+1:Nat):=by rw [wr (by omega) (by omega)];omega
        have hfin:∀ (v:Bool) ev',v=((d.all fun e=>holdsS p A e)&&holdsS p A e)→(ev' 5=.ptr 1 0∧ev' 9=.sl 1 (A.map encInt) .none∧ev' 11=.bool w∧ev' 13=.bool v∧ev' 14=.int .i64 (d.length+1:Nat))→R ev' σ:=fun v ev' hv hh=>by
         obtain⟨k5,k9,k11,k13,k14⟩:=hh
         exact hR _ _ ⟨k5,k9,k11,by rw [k13,hv];simp,by rw [k14];simp,b1⟩
        generalize holdsS p A e=o at *
        cases hd1:(d.all fun e=>holdsS p A e) with
        | false=>
         rw [hd1] at h13 hfin
         simp [-acells,-fin,-fin1,-fin2,-pl1,-pl2,-plain,-AV.atom,-getElem?_pos,-Int.natCast_add,h5,h9,h11,h13,h14,b1,hlt2,hx,hdw]
         exact hfin false _ rfl ⟨by simp [h5],by simp [h9],by simp [h11],by simp,by simp [-Int.natCast_add,hdw]⟩
        | true=>
         rw [hd1] at h13 hfin
         simp [-acells,-fin,-fin1,-fin2,-pl1,-pl2,-plain,-AV.atom,-getElem?_pos,-Int.natCast_add,h5,h9,h11,h13,h14,b1,hlt2,hx,encE_eq e]
         refine kCall.call hoe (by simp) ?_
         simp [-acells,-fin,-fin1,-fin2,-pl1,-pl2,-plain,-AV.atom,-getElem?_pos,-Int.natCast_add,h5,h9,h11,h13,h14,b1,hlt2,hx,hdw]
         exact hfin o _ (by simp) ⟨by simp [h5],by simp [h9],by simp [h11],by simp,by simp [-Int.natCast_add,hdw]⟩
      · clear h2 h5 h7 h9 h10 h11 h12 b0 b1 b2
        rintro ev σ ⟨h5,h9,h11,h13,h14,b1⟩
        rw [hw] at h13
        simp [-acells,-fin,-fin1,-fin2,-pl1,-pl2,-plain,-AV.atom,-getElem?_pos,-Int.natCast_add,h5,h9,h11,h13,h14,b1]
        refine kCall.call works11 (by simp) ?_
        simp [-acells,-fin,-fin1,-fin2,-pl1,-pl2,-plain,-AV.atom,-getElem?_pos]
  · have hz:problemS q=zProb:=by
     have:problemS q=if problemE q≠0 then zProb else buildP (flattenS q.src q.name) q.off q.more q.state:=rfl
     rw [this,if_pos he]
    rw [hz] at hp
    generalize problemE q=e at *
    simp only [encP,zProb] at hp
    simp [-acells,-fin,-fin1,-fin2,-pl1,-pl2,-plain,-AV.atom,-getElem?_pos]
    refine kCall.call hp (by simp) ?_
    simp [-acells,-fin,-fin1,-fin2,-pl1,-pl2,-plain,-AV.atom,-getElem?_pos,he]
    refine kCall.call works11 (by simp) ?_
    simp [-acells,-fin,-fin1,-fin2,-pl1,-pl2,-plain,-AV.atom,-getElem?_pos]
end Go.Proofs.YtpgcmnabljandaaGreatDoor
end
section
namespace Go.Proofs.YtpgcmnabljandaaGreatDoor
open Go Go.Abs Go.ChangeShapes Go.WideShapes Go.ChangeAt Go.RowKit
theorem args_stay27_3 {H:Type} {enc:TypeId×Value→H} {W W':World} {v:Value} {d:DataW H} {ps:List MemPlace} {sp:Nat→Bool} (h:DataW.Trod enc Tryz.prog W 0 (fun _=>true) true 27 v d ps) (hb:Go.RowKit.Below W.heap.size W W') (hlt:∀ x∈ps,x.block<W.heap.size) (hs:∀ p∈ps,sp p.block=true) :
 DataW.Trod enc Tryz.prog W' 0 sp true 27 v d ps :=
 WideElems.Trod_stays laidOutTryz (by kernel_rfl) (of_decide_eq_true (by kernel_rfl)) h (fun x hx=>hb.same (hlt x hx)) hs
theorem args_stay28_3 {H:Type} {enc:TypeId×Value→H} {W W':World} {v:Value} {d:DataW H} {ps:List MemPlace} {sp:Nat→Bool} (h:DataW.Trod enc Tryz.prog W 0 (fun _=>true) true 28 v d ps) (hb:Go.RowKit.Below W.heap.size W W') (hlt:∀ x∈ps,x.block<W.heap.size) (hs:∀ p∈ps,sp p.block=true) :
 DataW.Trod enc Tryz.prog W' 0 sp true 28 v d ps :=
 WideElems.Trod_stays laidOutTryz (by kernel_rfl) (of_decide_eq_true (by kernel_rfl)) h (fun x hx=>hb.same (hlt x hx)) hs
theorem lifted3 (os:Os) (started:os.Started) (H:Type) (enc:TypeId×Value→H) :
 ReturnsInHanded {} Tryz.checked os 3 .any (fun w args=>(Rows.elabHoldsSpec.pre enc Tryz.prog Tryz.f3 [] false w args∧laidMetH Tryz.prog laid5 w)∧sizedMet enc Tryz.prog Tryz.f3 (OpenSpec.ofChange Rows.elabHoldsSpec) false w args)
  (Rows.elabHoldsSpec.post enc Tryz.prog Tryz.f3 false true false false):=by
 refine returnsInHanded_of_change_and (C:=Tryz.checked) (X:=fun w _=>laidMetH Tryz.prog laid5 w) (fun _ _ _ hh h=>h.of_heap hh) ownTryz started (by kernel_rfl) Tryz.func3
  (ChangeSpec.witness_shaped (enc:=enc) (C:=Tryz.checked) (os:=os) (X:=fun w _=>laidMetH Tryz.prog laid5 w) false (World.doorLaid Tryz.prog 400 os) #[.agg #[.slice none 0 0,.string ⟨#[]⟩,.slice none 0 0,.slice none 0 0,.slice none 0 0],.slice none 0 0] 8 rfl (World.shaped_of_RefB (by kernel_rfl) (by kernel_rfl)) (by kernel_rfl) (by kernel_rfl) (by kernel_rfl) (door_met os _)) ?_
 intro W base args ds gs before hval0 hW _ _ hL _
 have hval:∀ (j:Nat) t v,Tryz.f3.params[j]?=some t→args[j]?=some v→Value.okWide Tryz.prog W .any base t v:=hval0
 have hW':=hW
 obtain⟨p,q,hA0,hV,rfl,hfz,hnd⟩:=hW
 have hA:DataW.TrodAll enc Tryz.prog W 0 (fun _=>true) true Tryz.f3.params.toList args.toList ds p:=hA0
 rw [Tryz.params3] at hA hval
 obtain⟨v0,v1,d0,d1,p0,p1,rfl,rfl,rfl,h0,h1⟩:=trodAll_two hA
 obtain⟨rfl,rfl⟩:=trodVars_none hV
 have hv0:=hval 0 27 v0 rfl rfl
 unfold Value.okWide at hv0
 rw [Tryz.underlying27] at hv0
 obtain⟨cs0,rfl,_,_⟩:=hv0
 have h0':=h0
 obtain⟨fuel0,hf0⟩:=h0
 obtain⟨x0,hrel0,hg0⟩:=rdAsk hf0
 have hv1:=hval 1 28 v1 rfl rfl
 obtain⟨a1,len1,cap1,rfl⟩:=okWide_slice Tryz.underlying28 hv1
 have h1':=h1
 obtain⟨fuel1,hf1⟩:=h1
 obtain⟨x1,hrel1,hg1⟩:=rdInts hf1
 simp only [encInts,VRels] at hrel1
 obtain⟨w1,r1,e1,hrel1,er1⟩:=hrel1
 obtain rfl:w1=.slice a1 len1 cap1:=(List.cons.inj e1).1.symm
 have hpure:=law3 x0 x1 hg0 hg1
 have hglob:∀ g,VRel (KW W) (GG g) (.pointer (some ⟨g,0,none⟩)):=by
  intro g
  cases g with
  | zero=>exact of_laid hL
  | succ g=>simp only [GG,VRel]
 have hargs:VRels (KW W) [.agg (encAsk x0),.sl 1 (x1.map encInt) .none] (#[Value.agg cs0,Value.slice a1 len1 cap1]:Array Value).toList:=by
  simp only [VRels]
  have g0:VRel (KW W) (.agg (encAsk x0)) (Value.agg cs0):=by
   unfold VRel;exact⟨cs0,rfl,hrel0⟩
  have g1:VRel (KW W) (.sl 1 (x1.map encInt) .none) (Value.slice a1 len1 cap1):=by
   exact hrel1
  exact⟨_,_,rfl,g0,_,_,rfl,g1,rfl⟩
 refine (hpure.2 W (roAll W) #[Value.agg cs0,Value.slice a1 len1 cap1] hglob (fun _ _ _ e=>e) hargs).mono ?_
 rintro e W' ⟨v,ro',rfl,hb,_,_,_,hv⟩
 have hv1:v=.bool true:=by simpa only [VRel] using hv
 subst hv1
 have hW2:=hW'
 simp only [List.append_nil] at hW2
 have hlt:=fun x hx=>hW2.lt x hx
 refine⟨_,rfl,[d0,d1],[],p0++p1,[],p0++p1,[],hW2,?_,?_,?_,hb.frame _,fun h=>by cases h⟩
 · exact trodAll_mk1 (shut_bool Tryz.underlying4 true)
 · exact trodAll_mk2 (args_stay27_3 h0' hb (fun x hx=>hlt x (List.mem_append_left _ hx)) (fun x hx=>by simpa using hlt x (List.mem_append_left _ hx))) (args_stay28_3 h1' hb (fun x hx=>hlt x (List.mem_append_right _ hx)) (fun x hx=>by simpa using hlt x (List.mem_append_right _ hx)))
 · rfl
end Go.Proofs.YtpgcmnabljandaaGreatDoor
end
section
namespace Go.Proofs.YtpgcmnabljandaaGreatDoor
open Go
theorem fn3 : Tryz.prog.funcNamed "testbench/testbenchlaw14.ElabHolds" = some 3 := by kernel_rfl
theorem inst3:Tryz.f3.isInstance Tryz.prog Rows.elabHoldsRow.origin Rows.elabHoldsRow.targs:=of_decide_eq_true (by kernel_rfl)
theorem wrap3:Tryz.f3.isWrapper Tryz.prog Rows.elabHoldsRow.wrapper Rows.elabHoldsRow.mainSum:=by unfold Func.isWrapper;first | (rw [if_pos (by decide +kernel)];kernel_rfl) | (rw [if_neg (by decide +kernel)];exact⟨rfl,rfl⟩)
theorem facts3_inPlace:(Rows.elabHoldsRow.inPlace==Tryz.prog.inPlace 3)=true:=by kernel_rfl
theorem facts3_unfollowed:(Rows.elabHoldsRow.unfollowed==Tryz.prog.unfollowed 3)=true:=by kernel_rfl
theorem facts3_recurses:(Rows.elabHoldsRow.recurses==Tryz.prog.recurses 3)=true:=by kernel_rfl
theorem facts3_named:(Rows.elabHoldsRow.named==Tryz.prog.varsNamed 3)=true:=by kernel_rfl
theorem facts3_head:(Rows.elabHoldsRow.wf (OpenSpec.ofChange Rows.elabHoldsSpec)&&laidOutB Tryz.prog&&mapsRowed Tryz.prog &&
 Tryz.f3.params.all (Tryz.prog.readableRec ·)&&namedTie Tryz.prog Rows.elabHoldsRow.named Rows.elabHoldsSpec.vars &&
 (Rows.elabHoldsRow.stops == [])&&(Tryz.prog.stops == [])&&(Rows.elabHoldsRow.knobs == [])&&(Tryz.prog.stopKnobs == []))=true:=by kernel_rfl
theorem facts3_tail:((Rows.elabHoldsRow.maps==(Tryz.f3.params.toList++Rows.elabHoldsSpec.plain.varTypes Tryz.prog).any (Tryz.prog.mapsRec ·))&&(Rows.elabHoldsRow.ifaces==(Tryz.f3.params.toList++Rows.elabHoldsSpec.plain.varTypes Tryz.prog).any (Tryz.prog.ifacesRec ·))&&(Rows.elabHoldsRow.mapsOut==Tryz.prog.mapsAmong Tryz.f3.resultTypes.toList) &&
 (Rows.elabHoldsRow.loops==(Tryz.f3.params.toList++Rows.elabHoldsSpec.plain.varTypes Tryz.prog).any (Tryz.prog.loopsFrom ·))&&(Rows.elabHoldsRow.wideKeys==(Tryz.f3.params.toList++Rows.elabHoldsSpec.plain.varTypes Tryz.prog++Tryz.f3.resultTypes.toList).any (Tryz.prog.wideKeysFrom ·)) &&
 Rows.elabHoldsSpec.vars.all (Tryz.prog.varReadable ·)&&Tryz.f3.resultTypes.all (fun t=>Tryz.prog.readableRec t&&decide (t<Tryz.prog.types.size))&&(Rows.elabHoldsRow.ifacesOut==Tryz.f3.resultTypes.toList.any (Tryz.prog.ifacesRec ·))&&(Rows.elabHoldsRow.loopsOut==Tryz.f3.resultTypes.toList.any (Tryz.prog.loopsFrom ·))&&(Rows.elabHoldsRow.plainKeys==Tryz.prog.plainKeys)&&Rows.elabHoldsRow.shortTexts.isNone&&Tryz.prog.stopsHeard&&Tryz.prog.mayEnter&&(Rows.elabHoldsRow.lifted==Tryz.prog.liftsFinal)&&(Tryz.prog.make==some Rows.elabHoldsRow.make))=true:=by kernel_rfl
theorem facts3_end:((Rows.elabHoldsRow.kinds==(if Rows.elabHoldsRow.domain.isEmpty then [] else Tryz.f3.params.toList.map fun t=>match Tryz.prog.underlying t with | some (.int k)=>some k | _=>none))&&(Rows.elabHoldsRow.pinned==Rows.elabHoldsRow.pinnedBy) &&
 (Rows.elabHoldsRow.veiled==(Tryz.f3.params.toList++Rows.elabHoldsSpec.plain.varTypes Tryz.prog++Tryz.f3.resultTypes.toList).any (Tryz.prog.veiledRec ·))&&Rows.elabHoldsRow.veiledFits Tryz.prog Tryz.f3.params.toList (Tryz.f3.params.toList++Rows.elabHoldsSpec.plain.varTypes Tryz.prog++Tryz.f3.resultTypes.toList))=true:=by kernel_rfl
theorem facts3:joinedFacts Tryz.prog 3 Tryz.f3 Rows.elabHoldsSpec Rows.elabHoldsRow=true:=by
 have h1:=facts3_head
 have h2:=facts3_tail
 have h3:=facts3_end
 simp only [Bool.and_eq_true,and_assoc] at h1 h2 h3
 unfold joinedFacts
 simp only [Bool.and_eq_true,and_assoc]
 obtain⟨a1,a2,a3,a4,a5,a6,a7,a8,a9⟩:=h1
 obtain⟨b1,b2,b3,b4,b5,b6,b7,b8,b9,b10,b11,b12,b13,b14,b15⟩:=h2
 obtain⟨c1,c2,c3,c4⟩:=h3
 exact⟨a1,a2,a3,a4,a5,a6,a7,a8,a9,facts3_inPlace,facts3_unfollowed,facts3_recurses,facts3_named,b1,b2,b3,b4,b5,b6,b7,b8,b9,b10,b11,b12,b13,b14,b15,c1,c2,c3,c4⟩
theorem elabHolds_row:Rows.ElabHoldsSaid :=
 OpenClaim.holds_of_wide 3 Tryz.f3 rfl rfl rfl rfl rfl rfl rfl ⟨rfl,rfl,rfl,rfl,rfl⟩ rfl rfl rfl rfl rfl fn3 Tryz.func3 facts3 inst3 wrap3
  (fun os started H enc _=>lifted3 os started H enc)
#print axioms elabHolds_row
theorem card3_text:Rows.elabHoldsRow.wfByText (OpenSpec.ofChange Rows.elabHoldsSpec)=true:=by kernel_rfl
theorem card3_main : Tryz.prog.mainIs = some (true, "438c544592da4d0fde47ce508cfbd717d9eaee5c99ea4794d263a81d85aa15ca".toList) := by kernel_rfl
theorem card3_looks:false=Tryz.prog.looks []:=by kernel_rfl
theorem card3_params:([27,28].all fun u=>!Tryz.prog.wantsStandIn u)=true:=by kernel_rfl
theorem card3_goes:false=Rows.elabHoldsRow.goesBy Tryz.prog:=by kernel_rfl
theorem elabHolds_card:Rows.ElabHoldsCardSaid :=
 Claim7.holds_tied_plain_at .later [] [.data, .data, .data, .widerDeep] true (true, "438c544592da4d0fde47ce508cfbd717d9eaee5c99ea4794d263a81d85aa15ca") false
  elabHolds_row (fun _ h=>by cases h) card3_text (fun _ h=>by cases h) elabHolds_row_tie rfl ⟨rfl,rfl⟩ card3_main rfl
  (fun f fn hf hfn=>by
    obtain rfl:f=3:=Option.some.inj (fn3.symm.trans hf) |>.symm
    obtain rfl:fn=Tryz.f3:=(Option.some.inj (Tryz.func3.symm.trans hfn)).symm
    exact⟨card3_looks,fun j t ht=>by
     rw [Tryz.params3] at ht
     have hm:t∈[27,28]:=by simpa using Array.mem_of_getElem? ht
     exact (show Tryz.prog.wantsStandIn t=false by simpa using List.all_eq_true.1 card3_params t hm)⟩)
  card3_goes
#print axioms elabHolds_card
end Go.Proofs.YtpgcmnabljandaaGreatDoor
end
