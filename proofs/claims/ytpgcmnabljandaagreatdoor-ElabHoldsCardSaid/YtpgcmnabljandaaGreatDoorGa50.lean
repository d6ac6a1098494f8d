/- A part of the proof: Walk51 Walk96 AbsAsk6. -/
import Derived.Test.YtpgcmnabljandaaGreatDoorGa49
import Derived.Test.YtpgcmnabljandaaGreatDoorGa23
import Derived.Test.YtpgcmnabljandaaGreatDoorGa30
set_option linter.unusedVariables false
set_option linter.unusedSimpArgs false
set_option maxRecDepth 100000
section
namespace Go.Proofs.YtpgcmnabljandaaGreatDoor
open Go Go.Abs
section
attribute [local simp high] acells_encE acells_encI
attribute [local simp] acells_int acells_str acells_bool acells_sl acells_agg encE_atoms encE_len putAt_encE putAt_encE2 take_encE encI_len encI_atoms take_encI cutI_expr cutI_kind cutI_name cutI_index cutI_ws cutI_items cutI_els cutI_before cutI_after
def okC (c:Cls):Bool:=decide (c.fields.length≤8)&&decide (c.blocks.length≤4)&&c.blocks.all fun b=>fewN 5 b.items
def lightS (q:Ask):Bool:=decide (q.src.length≤4)&&decide (q.off.length≤8)&&decide (q.state.length≤8)&&fewN 5 q.more&&q.src.all okC
set_option maxHeartbeats 8000000 in
theorem light10 (q:Ask) (h:HoldA q):Pure Tryz.prog GG 10 [.agg (encAsk q)] (.bool (lightS q)):=by
 refine Pure.vc mixed Tryz.func10 rfl (by kernel_rfl) ?_
 have hfm:=few38 5 q.more (by omega) h.more h.items
 simp only [Nat.sub_self,Int.natCast_zero] at hfm
 have hls:Fits q.src:=h.src
 have hr:lightS q=(decide (q.src.length≤4)&&decide (q.off.length≤8)&&decide (q.state.length≤8)&&fewN 5 q.more&&q.src.all okC):=rfl
 generalize lightS q=r at hr
 have bad:∀ c∈q.src,okC c=false→r=false:=fun c hc hb=>by rw [hr,all_bad hc hb,Bool.and_false]
 simp [-acells]
 refine vcLoop.intro (fun n ev σ=>∃ i,i≤q.src.length∧n=q.src.length-i∧ev 1=.ptr 0 0∧ev 3=.int .i64 i∧σ=⟨[.cells (encAsk q)],[]⟩∧∀ c∈q.src.take i,okC c=true) q.src.length ⟨0,by simp,by simp,by simp,by simp,by simp,by simp⟩ ?_
 rintro n ev σ ⟨i,hi,rfl,h1,h3,rfl,hz⟩
 have fin:q.src.all okC=true∨4<q.src.length→r=(decide (q.src.length≤4)&&decide (q.off.length≤8)&&decide (q.state.length≤8)&&fewN 5 q.more):=fun hor=>by
  rcases hor with hor|hor
  · rw [hr,hor,Bool.and_true]
  · rw [hr,decide_eq_false (by omega:¬ q.src.length≤4)];simp
 by_cases hgo:i<q.src.length∧i<5
 · obtain⟨hc,h5⟩:=hgo
   have hc':(i:Int)<q.src.length:=by omega
   have h5':(i:Int)<5:=by omega
   obtain⟨c,hvi⟩:∃ c,q.src[i]?=some c:=⟨_,List.getElem?_eq_getElem hc⟩
   have hv':=(List.getElem?_eq_some_iff.1 hvi).2
   have hm:=List.mem_of_getElem? hvi
   have hcl:=h.classes c hm
   have bad:=bad c hm
   have hok:okC c=(decide (c.fields.length≤8)&&decide (c.blocks.length≤4)&&c.blocks.all fun b=>fewN 5 b.items):=rfl
   by_cases f1:8<c.fields.length
   · have f1':(8:Int)<c.fields.length:=by omega
     rw [bad (by rw [hok,decide_eq_false (by omega:¬ c.fields.length≤8)];rfl)]
     simp [-acells,h1,h3,hc,hc',h5,h5',hv',f1']
   have f1':¬ (8:Int)<c.fields.length:=by omega
   by_cases f2:4<c.blocks.length
   · have f2':(4:Int)<c.blocks.length:=by omega
     rw [bad (by rw [hok,decide_eq_false (by omega:¬ c.blocks.length≤4)];simp)]
     simp [-acells,h1,h3,hc,hc',h5,h5',hv',f1',f2']
   have f2':¬ (4:Int)<c.blocks.length:=by omega
   rw [decide_eq_true (by omega:c.fields.length≤8),decide_eq_true (by omega:c.blocks.length≤4),Bool.true_and,Bool.true_and] at hok
   simp [-acells,h1,h3,hc,hc',h5,h5',hv',f1',f2']
   refine vcLoop.intro (fun n ev σ=>∃ k,k≤c.blocks.length∧n=c.blocks.length-k∧ev 1=.ptr 0 0∧ev 3=.int .i64 i∧ev 4=.int .i64 k∧σ=⟨[.cells (encAsk q)],[]⟩∧∀ b∈c.blocks.take k,fewN 5 b.items=true) c.blocks.length ⟨0,by simp,by simp,by simp [h1],by simp [h3],by simp,by simp,by simp⟩ ?_
   clear h1 h3
   rintro n ev σ ⟨k,hk,rfl,h1,h3,h4,rfl,hzk⟩
   cases hbk:c.blocks[k]? with
   | some b=>
    obtain⟨hck,hb'⟩:=List.getElem?_eq_some_iff.1 hbk
    have hbm:=List.mem_of_getElem? hbk
    obtain⟨g1,g2,g3⟩:=hcl.bnames b hbm
    have hfb:=few38 5 b.items (by omega) g2 g3
    simp only [Nat.sub_self,Int.natCast_zero] at hfb
    simp [-acells,h1,h3,h4,hc,hv',hck,hb']
    refine vcCall.call hfb (by simp) ?_
    cases hf:fewN 5 b.items
    · rw [bad (by rw [hok];exact all_bad hbm hf)]
      simp [-acells]
    · simp [-acells,h1,h3,h4]
      exact⟨_,by omega,k+1,by omega,rfl,wr (by omega) (by omega),by simpa using take_succ_all (p:=fun b:Blc=>fewN 5 b.items=true) hbk hzk hf⟩
   | none=>
    have hle:c.blocks.length≤k:=by simpa using hbk
    have hck:¬ k<c.blocks.length:=by omega
    have hall:=all_take (p:=fun b:Blc=>fewN 5 b.items) hle hzk
    simp [-acells,h1,h3,h4,hc,hv',hck]
    exact⟨_,by omega,i+1,by omega,rfl,wr (by omega) (by omega),take_succ_all (p:=fun c=>okC c=true) hvi hz (by rw [hok,hall])⟩
 · have hstop:q.src.all okC=true∨4<q.src.length:=by
    by_cases hc:i<q.src.length
    · exact .inr (by omega)
    · exact .inl (all_take (by omega) hz)
   have hfin:=fin hstop
   by_cases hc:i<q.src.length
   · have hc':(i:Int)<q.src.length:=by omega
     have h5:¬ (i:Int)<5:=by omega
     have h5n:¬ i<5:=by omega
     have l4:¬ (q.src.length:Int)≤4:=by omega
     rw [decide_eq_false (by omega:¬ q.src.length≤4)] at hfin
     simp at hfin
     subst hfin
     simp [-acells,h1,h3,hc,hc',h5,h5n,l4]
   · have hc':¬ (i:Int)<q.src.length:=by omega
     by_cases l4:q.src.length≤4
     · have l4':(q.src.length:Int)≤4:=by omega
       by_cases o8:q.off.length≤8
       · have o8':(q.off.length:Int)≤8:=by omega
         by_cases s8:q.state.length≤8
         · have s8':(q.state.length:Int)≤8:=by omega
           rw [decide_eq_true l4,decide_eq_true o8,decide_eq_true s8] at hfin
           simp at hfin
           subst hfin
           simp [-acells,h1,h3,hc,hc',l4',o8',s8']
           refine vcCall.call hfm (by simp) ?_
           simp [-acells]
         · have s8':¬ (q.state.length:Int)≤8:=by omega
           rw [decide_eq_false s8] at hfin
           simp at hfin
           subst hfin
           simp [-acells,h1,h3,hc,hc',l4',o8',s8']
       · have o8':¬ (q.off.length:Int)≤8:=by omega
         rw [decide_eq_false o8] at hfin
         simp at hfin
         subst hfin
         simp [-acells,h1,h3,hc,hc',l4',o8']
     · have l4':¬ (q.src.length:Int)≤4:=by omega
       rw [decide_eq_false l4] at hfin
       simp at hfin
       subst hfin
       simp [-acells,h1,h3,hc,hc',l4']
end
theorem preL_le:∀ (l:List Ex) (x:Ex),x∈l→(pre x).length≤(preL l).length
 | [],x,h=>by cases h
 | a::r,x,h=>by
  rw [preL_cons,List.length_append]
  rcases List.mem_cons.1 h with rfl|h
  · omega
  · have:=preL_le r x h;omega
theorem pre_pos (e:Ex):1≤(pre e).length:=by rw [pre_eq];simp
theorem args_len:∀ l:List Ex,l.length≤(preL l).length
 | []=>by simp
 | a::r=>by
  have:=args_len r
  have:=pre_pos a
  rw [preL_cons,List.length_append,List.length_cons];omega
theorem pre_sub:∀ (e x:Ex),x∈pre e→(pre x).length≤(pre e).length:=by
 refine Ex.ind fun e ih x hx=>?_
 rw [pre_eq] at hx
 rcases List.mem_cons.1 hx with rfl|hx
 · exact Nat.le_refl _
 · obtain⟨a,ha,hxa⟩:=mem_preL.1 hx
   have h1:=ih a ha x hxa
   have h2:=preL_le e.args a ha
   rw [pre_eq e,List.length_cons];omega
theorem slim_pre {e:Ex} (h:(pre e).length≤1000):Slim e:=fun x hx=>by
 have h1:=pre_sub e x hx
 have h2:=args_len x.args
 rw [pre_eq x,List.length_cons] at h1
 omega
theorem fewN_at:∀ (r:Nat) (l:List It),fewN r l=true→∀ y∈preIL l,(pre y.expr).length≤60∧y.ws.length≤20∧y.before.length≤8∧y.after.length≤8∧y.items.length≤8∧y.els.length≤8
 | 0,l,h,y,hy=>by simp [fewN] at h
 | r+1,l,h,y,hy=>by
  obtain⟨x,hx,hyx⟩:=mem_preIL.1 hy
  simp only [fewN,Bool.and_eq_true,decide_eq_true_eq,List.all_eq_true] at h
  obtain⟨⟨⟨⟨⟨h1,h2⟩,h3⟩,h4⟩,h5⟩,h6⟩:=h.2 x hx
  rw [preI_eq] at hyx
  rcases List.mem_cons.1 hyx with rfl|hyx
  · have hl:∀ m,fewN r m=true→m.length≤8:=fun m hm=>by
     cases r with
     | zero=>simp [fewN] at hm
     | succ r=>simp only [fewN,Bool.and_eq_true,decide_eq_true_eq] at hm;exact hm.1
    exact⟨brief_few h1,h2,h3,h4,hl _ h5,hl _ h6⟩
  · rcases List.mem_append.1 hyx with hyx|hyx
    · exact fewN_at r x.items h5 y hyx
    · exact fewN_at r x.els h6 y hyx
def capF:Nat→Nat
 | 0=>0
 | r+1=>8*(1+2*capF r)
theorem fewN_size:∀ (r:Nat) (l:List It),fewN r l=true→(preIL l).length≤capF r
 | 0,l,h=>by simp [fewN] at h
 | r+1,l,h=>by
  simp only [fewN,Bool.and_eq_true,decide_eq_true_eq,List.all_eq_true] at h
  have hx:∀ x∈l,(preI x).length≤1+2*capF r:=fun x hx=>by
   obtain⟨⟨_,h5⟩,h6⟩:=h.2 x hx
   have g1:=fewN_size r x.items h5
   have g2:=fewN_size r x.els h6
   rw [preI_eq,List.length_cons,List.length_append];omega
  have hf:preIL l=l.flatMap preI:=by
   clear h hx
   induction l with
   | nil=>simp [preIL]
   | cons a r ih=>rw [List.flatMap_cons,← ih];simp [preIL]
  rw [hf]
  have:=flat_bound hx
  have h8:=h.1
  show _≤8*(1+2*capF r)
  exact Nat.le_trans this (Nat.mul_le_mul_right _ h8)
theorem fewN_ok {l:List It} (h:fewN 5 l=true) (hh:∀ x∈l,HoldI x):FewN l∧l.length≤8:=by
 have ha:=fewN_at 5 l h
 have hs:=fewN_size 5 l h
 have h8:l.length≤8:=by
  simp only [fewN,Bool.and_eq_true,decide_eq_true_eq] at h
  exact h.1
 have hc:capF 5=559240:=by decide
 have hho:∀ y∈preIL l,Hold1 y:=fun y hy=>by
  obtain⟨x,hx,hyx⟩:=mem_preIL.1 hy
  exact hh x hx y hyx
 refine⟨⟨⟨hho,fun y hy=>?_,by omega,by omega,fun y hy=>by have:=(ha y hy).1;omega⟩,fun y hy=>⟨(ha y hy).2.2.1,(ha y hy).2.2.2.1⟩⟩,h8⟩
 obtain⟨g1,g2,g3,g4,g5,g6⟩:=ha y hy
 exact⟨slim_pre (by omega),(hho y hy).expr,by omega,by omega,by omega,by omega,by omega⟩
theorem putB_mem7 {l:List Blc} {b x:Blc} (h:x∈putB l b):x∈l∨x=b:=by
 unfold putB at h
 split at h
 · exact List.mem_or_eq_of_mem_set h
 · rcases List.mem_append.1 h with h|h
   · exact .inl h
   · simp at h;exact .inr h
theorem foldB_mem7:∀ (m l:List Blc) (x:Blc),x∈m.foldl putB l→x∈l∨x∈m
 | [],l,x,h=>.inl h
 | b::r,l,x,h=>by
  rcases foldB_mem7 r _ x h with h|h
  · rcases putB_mem7 h with h|rfl
    · exact .inl h
    · exact .inr (by simp)
  · exact .inr (List.mem_cons_of_mem _ h)
theorem flatS_blocks7:∀ (line:List Cls) (x:Blc),x∈(flatS line).1.blocks→∃ c∈line,x∈c.blocks
 | [],x,h=>by simp [flatS,zCls] at h
 | c::r,x,h=>by
  have h':x∈c.blocks.foldl putB (flatS r).1.blocks:=h
  rcases foldB_mem7 _ _ _ h' with h|h
  · obtain⟨d,hd,hx⟩:=flatS_blocks7 r x h
    exact⟨d,List.mem_cons_of_mem _ hd,hx⟩
  · exact⟨c,by simp,h⟩
theorem flatten_blocks {src:List Cls} {name:Str} {x:Blc} (h:x∈(flattenS src name).blocks):∃ c∈src,x∈c.blocks:=by
 unfold flattenS at h
 split at h
 · simp [zCls] at h
 rename_i h0
 have hlin:lineS src name=lineD src (findD src name):=by unfold lineS;rw [if_neg h0]
 rw [hlin] at h
 obtain⟨c,hc,hx⟩:=flatS_blocks7 _ x h
 have hfd:findD src name∈src∨findD src name=zCls:=by
  unfold findD
  cases e:findC src name with
  | none=>exact .inr rfl
  | some d=>exact .inl (List.mem_of_find?_eq_some e)
 unfold lineD at hc
 cases e:ancS src src.length (findD src name) with
 | none=>rw [e] at hc;simp at hc
 | some l=>
  rw [e] at hc
  rcases ancS_mem e c hc with rfl|h' | rfl
  · rcases hfd with h1|h1
    · exact⟨_,h1,hx⟩
    · rw [h1] at hx;simp [zCls] at hx
  · exact⟨c,h',hx⟩
  · simp [zCls] at hx
theorem ask_ok {q:Ask} (h:HoldA q) (hl:lightS q=true):AskOk q:=by
 unfold lightS at hl
 simp only [Bool.and_eq_true,decide_eq_true_eq,List.all_eq_true] at hl
 obtain⟨⟨⟨⟨h1,h2⟩,h3⟩,h4⟩,h5⟩:=hl
 have hb:∀ c∈q.src,c.fields.length≤8∧c.blocks.length≤4∧∀ b∈c.blocks,FewN b.items∧b.items.length≤8:=fun c hc=>by
  have:=h5 c hc
  unfold okC at this
  simp only [Bool.and_eq_true,decide_eq_true_eq,List.all_eq_true] at this
  exact⟨this.1.1,this.1.2,fun b hb=>fewN_ok (this.2 b hb) (((h.classes c hc).bnames b hb).2.2)⟩
 refine⟨by omega,fun c hc=>?_,by unfold Fits;omega,by unfold Fits;omega,fun l hl=>?_⟩
 · obtain⟨g1,g2,g3⟩:=hb c hc
   refine⟨by omega,by omega,fun b hb=>⟨by have:=(g3 b hb).2;omega,fun x hx y hy=>?_⟩⟩
   exact (g3 b hb).1.few.low y (mem_preIL.2 ⟨x,hx,hy⟩)
 · unfold listsC at hl
   rcases List.mem_append.1 hl with hl|hl
   · obtain⟨b,hb2,rfl⟩:=List.mem_map.1 hl
     obtain⟨c,hc,hx⟩:=flatten_blocks (List.mem_filter.1 hb2).1
     exact ((hb c hc).2.2 b hx).1
   · simp at hl
     subst hl
     exact (fewN_ok h4 h.items).1
theorem ask_vq {q:Ask} (h:AskOk q) (h0:problemE q=0):VQ (problemS q)∧validP (problemS q)=0:=by
 have hE:problemE q=if lineE q.src q.name≠0 then lineE q.src q.name else if q.off.any (fun s=>!(flattenS q.src q.name).blocks.any fun b=>b.name==s)=true then 7 else buildE (flattenS q.src q.name) q.off q.more q.state:=rfl
 have hS:problemS q=buildP (flattenS q.src q.name) q.off q.more q.state:=by
  have:problemS q=if problemE q≠0 then zProb else buildP (flattenS q.src q.name) q.off q.more q.state:=rfl
  rw [this,if_neg (by simp [h0])]
 rw [h0] at hE
 have hl:lineE q.src q.name=0:=by
  apply Classical.byContradiction
  intro hn
  rw [if_pos hn] at hE
  exact hn hE.symm
 rw [if_neg (by simp [hl])] at hE
 split at hE
 · cases hE
 rw [answers_build] at hE
 have hz:=firstE_zero.1 hE.symm
 have hc:=flat_ok hl
 have hfew:=h.few
 have hv:=hz (validP (buildP (flattenS q.src q.name) q.off q.more q.state)) (by simp [answers,buildP])
 have hac:=hz (if acyc ((expandedS (fldsOf (flattenS q.src q.name)) (listsC (flattenS q.src q.name) q.off q.more)).flatMap (edgesI (varsC (flattenS q.src q.name)))) (varsC (flattenS q.src q.name)).length=true then 0 else 10) (by simp [answers])
 have hx:=hz (firstE (expandE (fldsOf (flattenS q.src q.name))) (listsC (flattenS q.src q.name) q.off q.more)) (by simp [answers])
 have h5:=hz (firstE (fun y=>scalarE (fldsOf (flattenS q.src q.name)) (varsC (flattenS q.src q.name)) y.expr) (kindsL 1 (expandedS (fldsOf (flattenS q.src q.name)) (listsC (flattenS q.src q.name) q.off q.more)))) (by simp [answers])
 have h6:=hz (firstE (fun y=>scalarE (fldsOf (flattenS q.src q.name)) (varsC (flattenS q.src q.name)) y.expr) (kindsL 2 (expandedS (fldsOf (flattenS q.src q.name)) (listsC (flattenS q.src q.name) q.off q.more)))) (by simp [answers])
 simp only [id] at hv hac hx h5 h6
 rw [hS]
 have hxo:=expanded_ok (F:=fldsOf (flattenS q.src q.name)) hfew hx
 generalize flattenS q.src q.name=c at *
 have hnb:(listsC c q.off q.more).length≤25:=by
  have:=hc.nb
  have h1:=List.length_filter_le (onB q.off) c.blocks
  simp only [listsC,List.length_append,List.length_map,List.length_singleton]
  omega
 have hvq:=problem_vq hc (varsC_len hc) _ hxo.1 (by have:=hxo.2;omega) q.state h5 h6
 exact⟨hvq,hv⟩
end Go.Proofs.YtpgcmnabljandaaGreatDoor
end
