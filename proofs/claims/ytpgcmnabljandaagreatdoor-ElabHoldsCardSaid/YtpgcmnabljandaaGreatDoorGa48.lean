/- A part of the proof: Walk91 Walk92 Walk93. -/
import Derived.Test.YtpgcmnabljandaaGreatDoorGa47
import Derived.Test.YtpgcmnabljandaaGreatDoorGa34
import Derived.Test.YtpgcmnabljandaaGreatDoorGa44
set_option linter.unusedVariables false
set_option linter.unusedSimpArgs false
set_option maxRecDepth 100000
section
namespace Go.Proofs.YtpgcmnabljandaaGreatDoor
open Go Go.Abs
theorem kindsL_snoc (k:Int) (d:List It) (x:It):kindsL k (d++[x])=if x.kind=k then kindsL k d++[x] else kindsL k d:=by
 unfold kindsL
 rw [List.filter_append]
 by_cases h:x.kind=k<;>simp [h]
theorem kindsL_mid {k:Int} {d r:List It} {x:It} (h:x.kind=k):kindsL k (d++x::r)=kindsL k d++x::kindsL k r:=by
 unfold kindsL
 rw [List.filter_append,List.filter_cons,if_pos (by simp [h])]
theorem scalarE_valid {F:Flds} {l:List Var} {e:Ex} (h:scalarE F l e=0):validE e=0:=by
 unfold scalarE at h
 split at h
 · exact h
 · rename_i hn;exact Classical.not_not.1 hn
def zExC:List AV:=[.int .i64 0,.int .i64 0,.str [],.sl 0 [] .nil]
def plans56:List (Nat×Sch×List Nat):=[(5,.step 0 [12,11,9,8,7,6,1] (.step 1 [12,11,9,8,7,6] (.step 2 [12,11,9,8,7,6,5,4,3] (.step 3 [12,11,9,8,7,6,5,4] (.step 4 [12,11,9,8,7,6,5] (.step 5 [12,11,9,8,7,6] (.step 6 [12,11,9,8,7] (.step 7 [12,11,9,8] (.step 8 [12,11] (.step 9 [12] (.step 10 [12,11] (.step 11 [12] (.step 12 [] (.done))))))))))))),[]),(8,.step 0 [11,10,9,8,7,5,2,1] (.step 1 [11,10,9,8,7,5,2] (.step 2 [11,10,9,8,7,5] (.step 3 [11,10,9,8,7,4] (.step 4 [11,10,9,8,7] (.step 5 [11,10,9,8,7] (.step 6 [11,10,9,8,7] (.step 7 [11,10,9,8] (.step 8 [9] (.step 10 [11] (.fork (.cons 9 (.step 11 [] (.done)) (.cons 11 (.step 9 [] (.done)) (.nil))))))))))))),[])]
set_option maxHeartbeats 16000000 in
theorem hard56 (c:Cls) (hcl:ClsOk c) (xs:List It) (hxs:∀ x∈xs,OutOk 7014 x) (hl:xs.length≤40000) (k:Int) (H:List Blk) (T:List (Option Nat)) (B m:Nat) (vv sv dv gvv:AV) (sz:Nat) (tok:Abs.Tok) (hsz:sz=12∨xs=[])
 (hB:H[B]?=some (.cells [.str c.name,.str c.parent,.sl 5 (c.fields.map encFld) .none,.sl 2 (c.blocks.map encBlc) .none,vv,.sl 0 [] .nil,sv,dv,gvv,.map m])) :
 ACall Tryz.prog GG 56 [.ptr B 0,.sl sz (xs.map encI) tok,.int .i64 k,.ptr B 5] ⟨H,T⟩ (fun r σ'=>r=.int .i64 (firstE (fun y=>scalarE (fldsOf c) (varsC c) y.expr) (kindsL k xs))∧σ'.T=T∧KpL [B] H σ'.H∧(firstE (fun y=>scalarE (fldsOf c) (varsC c) y.expr) (kindsL k xs)=0 →
  ∃ ob ov,σ'.H[B]?=some (.cells [.str c.name,.str c.parent,.sl 5 (c.fields.map encFld) .none,.sl 2 (c.blocks.map encBlc) .none,vv,ov,sv,dv,gvv,.map m])∧OwnAt ob 4 encE σ'.H ov ((kindsL k xs).map fun y=>scE (varsC c) y.expr)∧(kindsL k xs≠[]→H.length≤ob))):=by
 refine ACall.kO ⟨true,plans56,[],[]⟩ mixed Tryz.func56 rfl (by kernel_rfl) ?_
 have hBl:=(List.getElem?_eq_some_iff.1 hB).1
 simp [-acells,-fin,-fin1,-fin2,-pl1,-pl2,-plain,-AV.atom,-getElem?_pos]
 refine kLoop.listR xs (fun d ev σ=>ev 0=.ptr B 0∧ev 2=.int .i64 k∧ev 3=.ptr B 5∧ev 13=.sl sz (xs.map encI) tok∧ev 14=.int .i64 xs.length∧ev 15=.int .i64 d.length∧σ.T=T∧KpL [B] H σ.H∧(∀ y∈kindsL k d,scalarE (fldsOf c) (varsC c) y.expr=0) ∧
  ∃ ob ov,σ.H[B]?=some (.cells [.str c.name,.str c.parent,.sl 5 (c.fields.map encFld) .none,.sl 2 (c.blocks.map encBlc) .none,vv,ov,sv,dv,gvv,.map m])∧OwnAt ob 4 encE σ.H ov ((kindsL k d).map fun y=>scE (varsC c) y.expr)∧(kindsL k d≠[]→H.length≤ob)) ?_ ?_ ?_
 · exact⟨by simp,by simp,by simp,by simp,by simp,by simp,rfl,KpL.refl,by simp [kindsL],0,.sl 0 [] .nil,hB,.inl ⟨rfl,rfl⟩,by simp [kindsL]⟩
 · rintro d x r ev ⟨H1,T1⟩ Rl hRl hd hx hlt ⟨h0,h2,h3,h13,h14,h15,hT,hkp,hz,ob,ov,hc1,hov,hge⟩
   obtain rfl:T=T1:=hT.symm
   obtain rfl:sz=12:=hsz.resolve_right (by rintro rfl;simp at hlt)
   simp only at hc1 hov
   have ho:=hxs x (List.mem_of_getElem? hx)
   have hdw:IntKind.i64.wrap ((d.length:Int)+1)=(d.length+1:Nat):=by rw [wr (by omega) (by omega)];omega
   have hB1:=(List.getElem?_eq_some_iff.1 hc1).1
   have hkn:=kindsL_snoc k d x
   by_cases hkd:x.kind=k
   · rw [if_pos hkd] at hkn
     have hsc:=scalar116 x.expr c hcl ho.wen (Nat.le_trans ho.size (by omega))
     simp only [encCls,encE_eq x.expr] at hsc
     have hXd:scalarX (fldsOf c) (varsC c) x.expr=if scalarE (fldsOf c) (varsC c) x.expr=0 then scE (varsC c) x.expr else zEx:=rfl
     generalize hXX:scalarX (fldsOf c) (varsC c) x.expr=X at *
     simp [-acells,-fin,-fin1,-fin2,-pl1,-pl2,-plain,-AV.atom,-getElem?_pos,-Int.natCast_add,h0,h2,h3,h13,h14,h15,hlt,hx,encI_eq x,encE_eq x.expr,look_app hc1,hkd]
     rw [kC_plan rfl]
     simp [-acells,-fin,-fin1,-fin2,-pl1,-pl2,-plain,-AV.atom,-getElem?_pos,-Int.natCast_add,clsB,h0,h2,h3,look_app hc1]
     refine kCall.call hsc (by simp) ?_
     by_cases h6:scalarE (fldsOf c) (varsC c) x.expr=0
     · rw [if_pos h6] at hXd
       subst hXd
       have hn:=validE_nodes (scalarE_valid h6)
       have hcp:=copied117 _ (slim_sc (varsC c) x.expr hn)
       have hzz:=hz_snoc (q:=fun y:It=>scalarE (fldsOf c) (varsC c) y.expr=0) hz h6
       generalize hY:scE (varsC c) x.expr=Y at *
       simp only [encE_eq Y] at hcp
       simp [-acells,-fin,-fin1,-fin2,-pl1,-pl2,-plain,-AV.atom,-getElem?_pos,-Int.natCast_add,h0,h2,h3,h13,h14,h15,h6,encE_eq Y]
       obtain⟨H',cc,ha,hc',hcl',hput,hkeep,hlen⟩:=(hov.keep (H':=H1++[Blk.cells [.int .i64 k,.int .i64 x.expr.op,.int .i64 x.expr.n,.str x.expr.name,.sl 4 (x.expr.args.map encE) .none,.str x.name,.str x.index,.sl 4 (x.ws.map encWeight) .none,.sl 12 (x.items.map encI) .none,.sl 12 (x.els.map encI) .none,.sl 1 (x.before.map encStr) .none,.sl 1 (x.after.map encStr) .none],.cells [.int .i64 Y.op,.int .i64 Y.n,.str Y.name,.sl 4 (Y.args.map encE) .none]]) fun y _ hy=>look_app hy _).put (T:=T) (z:=zExC) (tok:=.tight) D32 rfl D55 rfl (by omega) rfl (by decide) encE_len rfl (by rw [List.length_map];have:(kindsL k d).length≤d.length:=List.length_filter_le _ _;omega) Y
       have hkl:(kindsL k d).length≤d.length:=List.length_filter_le _ _
       have hvl:∀ H1:List Blk,lenA (Dof Tryz.prog) ⟨H1,T⟩ 32 ov=some (.int .i64 ((kindsL k d).map fun y=>scE (varsC c) y.expr).length):=fun H1=>by
        rcases hov with ⟨h,rfl⟩|⟨_,rfl,_⟩
        · rw [h];simp
        · simp
       have hac:=hov.acells
       have hor:((kindsL k d).map fun y=>scE (varsC c) y.expr)=[]∨∀ q,q<H.length→q≠ob:=by
        by_cases e:kindsL k d=[]
        · exact .inl (by rw [e];rfl)
        · right;intro q hq;have:=hge e;omega
       have hB':=hkeep B _ (look_app hc1 _) (hor.imp id fun f=>f B hBl)
       have hmp:((kindsL k (d++[x])).map fun y=>scE (varsC c) y.expr)=((kindsL k d).map fun y=>scE (varsC c) y.expr)++[Y]:=by rw [hkn,List.map_append,List.map_singleton,hY]
       generalize hL:((kindsL k d).map fun y=>scE (varsC c) y.expr)=L at *
       have hLl:L.length≤40000:=by rw [← hL,List.length_map];omega
       simp only [List.length_append,List.length_cons,List.length_nil,Nat.zero_add] at ha hc' hlen
       simp only [zExC] at ha
       obtain⟨FL,hFL⟩:∃ FL,FL=(L++[Y]).flatMap encE:=⟨_,rfl⟩
       rw [← hFL] at hput
       simp only [encE_eq Y] at hput
       have hHl:H.length≤H1.length:=hkp.1
       have hcb:H1.length+(1+1)≠B:=by omega
       have hle:L.length*4+4≤cc.length:=by omega
       have hi1:(L.length:Int)<(L.length:Int)+1:=by omega
       have hi2:(L.length:Int)<((L.length+1:Nat):Int):=by omega
       have hbs:∀ y,(H'.set (H1.length+(1+1)) y)[B]?=H'[B]? := fun y=>by rw [List.getElem?_set_ne hcb]
       have hcs:∀ y,(H'.set B y)[H1.length+(1+1)]?=some (.cells cc):=fun y=>by rw [List.getElem?_set_ne (Ne.symm hcb)];exact hc'
       have hlB:B<H'.length:=by omega
       rw [kC_plan rfl]
       simp [-acells,-fin,-fin1,-fin2,-pl1,-pl2,-plain,-AV.atom,-getElem?_pos,-Int.natCast_add,-lenA,clsB,h0,h2,h3,look_app hc1,hac]
       refine kCall.call hcp (by simp) ?_
       simp [-acells,-fin,-fin1,-fin2,-pl1,-pl2,-plain,-AV.atom,-getElem?_pos,-Int.natCast_add,-lenA,clsB,hvl,ha,hB',hc',hle,hput,hbs,hcs,hi1,hi2,set_left hB',hdw,h15]
       have hmine:∀ env,(env 0=.ptr B 0∧env 2=.int .i64 k∧env 3=.ptr B 5∧env 13=.sl 12 (xs.map encI) tok∧env 14=.int .i64 xs.length∧env 15=.int .i64 (d.length+1:Nat))→Rl env ⟨(H'.set (H1.length+(1+1)) (.cells FL)).set B (.cells [.str c.name,.str c.parent,.sl 5 (c.fields.map encFld) .none,.sl 2 (c.blocks.map encBlc) .none,vv,.ms (H1.length+(1+1)) 0 (L.length+1) 4,sv,dv,gvv,.map m]),T⟩:=by
        rintro env ⟨g0,g2,g3,g13,g14,g15⟩
        refine hRl _ _ ⟨g0,g2,g3,g13,g14,by rw [g15];simp,rfl,⟨by simp;omega,fun q y hq hn=>?_⟩,by rw [hkn];exact hzz,H1.length+(1+1),_,by rw [List.getElem?_set_self (by simpa using hlB)],?_,fun _=>by omega⟩
        · have hql:=(List.getElem?_eq_some_iff.1 hq).1
          have hqB:q≠B:=by simpa using hn
          rw [List.getElem?_set_ne (Ne.symm hqB),List.getElem?_set_ne (by omega)]
          exact hkeep q y (look_app (hkp.2 q y hq hn) _) (hor.imp id fun f=>f q hql)
        · rw [hmp]
          refine .inr ⟨by simp,by simp,?_⟩
          show ((H'.set (H1.length+(1+1)) _).set B _)[H1.length+(1+1)]?=_
          rw [List.getElem?_set_ne (Ne.symm hcb),List.getElem?_set_self (by omega),hFL]
       have hfin:∀ env σ,(env 0=.ptr B 0∧env 2=.int .i64 k∧env 3=.ptr B 5∧env 13=.sl 12 (xs.map encI) tok∧env 14=.int .i64 xs.length∧env 15=.int .i64 (d.length+1:Nat))→σ=⟨(H'.set (H1.length+(1+1)) (.cells FL)).set B (.cells [.str c.name,.str c.parent,.sl 5 (c.fields.map encFld) .none,.sl 2 (c.blocks.map encBlc) .none,vv,.ms (H1.length+(1+1)) 0 (L.length+1) 4,sv,dv,gvv,.map m]),T⟩→Rl env σ:=fun env σ he e=>by rw [e];exact hmine env he
       refine⟨hfin _ _ ?_ ?_,hfin _ _ ?_ ?_⟩
       · exact⟨by simp [h0],by simp [h2],by simp [h3],by simp [h13],by simp [h14],by simp [-Int.natCast_add,hdw]⟩
       · first | (rw [← hput];rfl) | (rw [← hput,List.set_comm _ _ hcb];rfl)
       · exact⟨by simp [h0],by simp [h2],by simp [h3],by simp [h13],by simp [h14],by simp [-Int.natCast_add,hdw]⟩
       · first | (rw [← hput];rfl) | (rw [← hput,List.set_comm _ _ hcb];rfl)
     · have hfe:firstE (fun y=>scalarE (fldsOf c) (varsC c) y.expr) (kindsL k xs)=scalarE (fldsOf c) (varsC c) x.expr:=by
        rw [hd,kindsL_mid hkd];exact firstE_at (f:=fun y:It=>scalarE (fldsOf c) (varsC c) y.expr) hz h6
       simp [-acells,-fin,-fin1,-fin2,-pl1,-pl2,-plain,-AV.atom,-getElem?_pos,-Int.natCast_add,h0,h2,h3,h13,h14,h15,h6,hfe,encE_eq X]
       exact hkp.trans KpL.app
   · rw [if_neg hkd] at hkn
     simp [-acells,-fin,-fin1,-fin2,-pl1,-pl2,-plain,-AV.atom,-getElem?_pos,-Int.natCast_add,h0,h2,h3,h13,h14,h15,hlt,hx,encI_eq x,encE_eq x.expr,hkd,hdw]
     refine hRl _ _ ⟨by simp [h0],by simp [h2],by simp [h3],by simp [h13],by simp [h14],by simp [-Int.natCast_add,hdw],rfl,hkp.trans KpL.app,by rw [hkn];exact hz,ob,ov,look_app hc1 _,?_,by rw [hkn];exact hge⟩
     rw [hkn]
     exact hov.keep fun y _ hy=>look_app hy _
 · rintro ev ⟨H1,T1⟩ ⟨h0,h2,h3,h13,h14,h15,hT,hkp,hz,ob,ov,hc1,hov,hge⟩
   obtain rfl:T=T1:=hT.symm
   have hfz:firstE (fun y=>scalarE (fldsOf c) (varsC c) y.expr) (kindsL k xs)=0:=firstE_zero.2 hz
   simp [-acells,-fin,-fin1,-fin2,-pl1,-pl2,-plain,-AV.atom,-getElem?_pos,-Int.natCast_add,h0,h2,h3,h13,h14,h15,hfz]
   exact⟨hkp,ob,ov,hc1,hov,hge⟩
set_option maxHeartbeats 16000000 in
theorem soft56 (c:Cls) (hcl:ClsOk c) (xs:List It) (hxs:∀ x∈xs,OutOk 7014 x) (hl:xs.length≤40000) (k:Int) (H:List Blk) (T:List (Option Nat)) (B m:Nat) (vv hv dv gvv:AV) (sz:Nat) (tok:Abs.Tok) (hsz:sz=12∨xs=[])
 (hB:H[B]?=some (.cells [.str c.name,.str c.parent,.sl 5 (c.fields.map encFld) .none,.sl 2 (c.blocks.map encBlc) .none,vv,hv,.sl 0 [] .nil,dv,gvv,.map m])) :
 ACall Tryz.prog GG 56 [.ptr B 0,.sl sz (xs.map encI) tok,.int .i64 k,.ptr B 6] ⟨H,T⟩ (fun r σ'=>r=.int .i64 (firstE (fun y=>scalarE (fldsOf c) (varsC c) y.expr) (kindsL k xs))∧σ'.T=T∧KpL [B] H σ'.H∧(firstE (fun y=>scalarE (fldsOf c) (varsC c) y.expr) (kindsL k xs)=0 →
  ∃ ob ov,σ'.H[B]?=some (.cells [.str c.name,.str c.parent,.sl 5 (c.fields.map encFld) .none,.sl 2 (c.blocks.map encBlc) .none,vv,hv,ov,dv,gvv,.map m])∧OwnAt ob 4 encE σ'.H ov ((kindsL k xs).map fun y=>scE (varsC c) y.expr)∧(kindsL k xs≠[]→H.length≤ob))):=by
 refine ACall.kO ⟨true,plans56,[],[]⟩ mixed Tryz.func56 rfl (by kernel_rfl) ?_
 have hBl:=(List.getElem?_eq_some_iff.1 hB).1
 simp [-acells,-fin,-fin1,-fin2,-pl1,-pl2,-plain,-AV.atom,-getElem?_pos]
 refine kLoop.listR xs (fun d ev σ=>ev 0=.ptr B 0∧ev 2=.int .i64 k∧ev 3=.ptr B 6∧ev 13=.sl sz (xs.map encI) tok∧ev 14=.int .i64 xs.length∧ev 15=.int .i64 d.length∧σ.T=T∧KpL [B] H σ.H∧(∀ y∈kindsL k d,scalarE (fldsOf c) (varsC c) y.expr=0) ∧
  ∃ ob ov,σ.H[B]?=some (.cells [.str c.name,.str c.parent,.sl 5 (c.fields.map encFld) .none,.sl 2 (c.blocks.map encBlc) .none,vv,hv,ov,dv,gvv,.map m])∧OwnAt ob 4 encE σ.H ov ((kindsL k d).map fun y=>scE (varsC c) y.expr)∧(kindsL k d≠[]→H.length≤ob)) ?_ ?_ ?_
 · exact⟨by simp,by simp,by simp,by simp,by simp,by simp,rfl,KpL.refl,by simp [kindsL],0,.sl 0 [] .nil,hB,.inl ⟨rfl,rfl⟩,by simp [kindsL]⟩
 · rintro d x r ev ⟨H1,T1⟩ Rl hRl hd hx hlt ⟨h0,h2,h3,h13,h14,h15,hT,hkp,hz,ob,ov,hc1,hov,hge⟩
   obtain rfl:T=T1:=hT.symm
   obtain rfl:sz=12:=hsz.resolve_right (by rintro rfl;simp at hlt)
   simp only at hc1 hov
   have ho:=hxs x (List.mem_of_getElem? hx)
   have hdw:IntKind.i64.wrap ((d.length:Int)+1)=(d.length+1:Nat):=by rw [wr (by omega) (by omega)];omega
   have hB1:=(List.getElem?_eq_some_iff.1 hc1).1
   have hkn:=kindsL_snoc k d x
   by_cases hkd:x.kind=k
   · rw [if_pos hkd] at hkn
     have hsc:=scalar116 x.expr c hcl ho.wen (Nat.le_trans ho.size (by omega))
     simp only [encCls,encE_eq x.expr] at hsc
     have hXd:scalarX (fldsOf c) (varsC c) x.expr=if scalarE (fldsOf c) (varsC c) x.expr=0 then scE (varsC c) x.expr else zEx:=rfl
     generalize hXX:scalarX (fldsOf c) (varsC c) x.expr=X at *
     simp [-acells,-fin,-fin1,-fin2,-pl1,-pl2,-plain,-AV.atom,-getElem?_pos,-Int.natCast_add,h0,h2,h3,h13,h14,h15,hlt,hx,encI_eq x,encE_eq x.expr,look_app hc1,hkd]
     rw [kC_plan rfl]
     simp [-acells,-fin,-fin1,-fin2,-pl1,-pl2,-plain,-AV.atom,-getElem?_pos,-Int.natCast_add,clsB,h0,h2,h3,look_app hc1]
     refine kCall.call hsc (by simp) ?_
     by_cases h6:scalarE (fldsOf c) (varsC c) x.expr=0
     · rw [if_pos h6] at hXd
       subst hXd
       have hn:=validE_nodes (scalarE_valid h6)
       have hcp:=copied117 _ (slim_sc (varsC c) x.expr hn)
       have hzz:=hz_snoc (q:=fun y:It=>scalarE (fldsOf c) (varsC c) y.expr=0) hz h6
       generalize hY:scE (varsC c) x.expr=Y at *
       simp only [encE_eq Y] at hcp
       simp [-acells,-fin,-fin1,-fin2,-pl1,-pl2,-plain,-AV.atom,-getElem?_pos,-Int.natCast_add,h0,h2,h3,h13,h14,h15,h6,encE_eq Y]
       obtain⟨H',cc,ha,hc',hcl',hput,hkeep,hlen⟩:=(hov.keep (H':=H1++[Blk.cells [.int .i64 k,.int .i64 x.expr.op,.int .i64 x.expr.n,.str x.expr.name,.sl 4 (x.expr.args.map encE) .none,.str x.name,.str x.index,.sl 4 (x.ws.map encWeight) .none,.sl 12 (x.items.map encI) .none,.sl 12 (x.els.map encI) .none,.sl 1 (x.before.map encStr) .none,.sl 1 (x.after.map encStr) .none],.cells [.int .i64 Y.op,.int .i64 Y.n,.str Y.name,.sl 4 (Y.args.map encE) .none]]) fun y _ hy=>look_app hy _).put (T:=T) (z:=zExC) (tok:=.tight) D32 rfl D55 rfl (by omega) rfl (by decide) encE_len rfl (by rw [List.length_map];have:(kindsL k d).length≤d.length:=List.length_filter_le _ _;omega) Y
       have hkl:(kindsL k d).length≤d.length:=List.length_filter_le _ _
       have hvl:∀ H1:List Blk,lenA (Dof Tryz.prog) ⟨H1,T⟩ 32 ov=some (.int .i64 ((kindsL k d).map fun y=>scE (varsC c) y.expr).length):=fun H1=>by
        rcases hov with ⟨h,rfl⟩|⟨_,rfl,_⟩
        · rw [h];simp
        · simp
       have hac:=hov.acells
       have hor:((kindsL k d).map fun y=>scE (varsC c) y.expr)=[]∨∀ q,q<H.length→q≠ob:=by
        by_cases e:kindsL k d=[]
        · exact .inl (by rw [e];rfl)
        · right;intro q hq;have:=hge e;omega
       have hB':=hkeep B _ (look_app hc1 _) (hor.imp id fun f=>f B hBl)
       have hmp:((kindsL k (d++[x])).map fun y=>scE (varsC c) y.expr)=((kindsL k d).map fun y=>scE (varsC c) y.expr)++[Y]:=by rw [hkn,List.map_append,List.map_singleton,hY]
       generalize hL:((kindsL k d).map fun y=>scE (varsC c) y.expr)=L at *
       have hLl:L.length≤40000:=by rw [← hL,List.length_map];omega
       simp only [List.length_append,List.length_cons,List.length_nil,Nat.zero_add] at ha hc' hlen
       simp only [zExC] at ha
       obtain⟨FL,hFL⟩:∃ FL,FL=(L++[Y]).flatMap encE:=⟨_,rfl⟩
       rw [← hFL] at hput
       simp only [encE_eq Y] at hput
       have hHl:H.length≤H1.length:=hkp.1
       have hcb:H1.length+(1+1)≠B:=by omega
       have hle:L.length*4+4≤cc.length:=by omega
       have hi1:(L.length:Int)<(L.length:Int)+1:=by omega
       have hi2:(L.length:Int)<((L.length+1:Nat):Int):=by omega
       have hbs:∀ y,(H'.set (H1.length+(1+1)) y)[B]?=H'[B]? := fun y=>by rw [List.getElem?_set_ne hcb]
       have hcs:∀ y,(H'.set B y)[H1.length+(1+1)]?=some (.cells cc):=fun y=>by rw [List.getElem?_set_ne (Ne.symm hcb)];exact hc'
       have hlB:B<H'.length:=by omega
       rw [kC_plan rfl]
       simp [-acells,-fin,-fin1,-fin2,-pl1,-pl2,-plain,-AV.atom,-getElem?_pos,-Int.natCast_add,-lenA,clsB,h0,h2,h3,look_app hc1,hac]
       refine kCall.call hcp (by simp) ?_
       simp [-acells,-fin,-fin1,-fin2,-pl1,-pl2,-plain,-AV.atom,-getElem?_pos,-Int.natCast_add,-lenA,clsB,hvl,ha,hB',hc',hle,hput,hbs,hcs,hi1,hi2,set_left hB',hdw,h15]
       have hmine:∀ env,(env 0=.ptr B 0∧env 2=.int .i64 k∧env 3=.ptr B 6∧env 13=.sl 12 (xs.map encI) tok∧env 14=.int .i64 xs.length∧env 15=.int .i64 (d.length+1:Nat))→Rl env ⟨(H'.set (H1.length+(1+1)) (.cells FL)).set B (.cells [.str c.name,.str c.parent,.sl 5 (c.fields.map encFld) .none,.sl 2 (c.blocks.map encBlc) .none,vv,hv,.ms (H1.length+(1+1)) 0 (L.length+1) 4,dv,gvv,.map m]),T⟩:=by
        rintro env ⟨g0,g2,g3,g13,g14,g15⟩
        refine hRl _ _ ⟨g0,g2,g3,g13,g14,by rw [g15];simp,rfl,⟨by simp;omega,fun q y hq hn=>?_⟩,by rw [hkn];exact hzz,H1.length+(1+1),_,by rw [List.getElem?_set_self (by simpa using hlB)],?_,fun _=>by omega⟩
        · have hql:=(List.getElem?_eq_some_iff.1 hq).1
          have hqB:q≠B:=by simpa using hn
          rw [List.getElem?_set_ne (Ne.symm hqB),List.getElem?_set_ne (by omega)]
          exact hkeep q y (look_app (hkp.2 q y hq hn) _) (hor.imp id fun f=>f q hql)
        · rw [hmp]
          refine .inr ⟨by simp,by simp,?_⟩
          show ((H'.set (H1.length+(1+1)) _).set B _)[H1.length+(1+1)]?=_
          rw [List.getElem?_set_ne (Ne.symm hcb),List.getElem?_set_self (by omega),hFL]
       have hfin:∀ env σ,(env 0=.ptr B 0∧env 2=.int .i64 k∧env 3=.ptr B 6∧env 13=.sl 12 (xs.map encI) tok∧env 14=.int .i64 xs.length∧env 15=.int .i64 (d.length+1:Nat))→σ=⟨(H'.set (H1.length+(1+1)) (.cells FL)).set B (.cells [.str c.name,.str c.parent,.sl 5 (c.fields.map encFld) .none,.sl 2 (c.blocks.map encBlc) .none,vv,hv,.ms (H1.length+(1+1)) 0 (L.length+1) 4,dv,gvv,.map m]),T⟩→Rl env σ:=fun env σ he e=>by rw [e];exact hmine env he
       refine⟨hfin _ _ ?_ ?_,hfin _ _ ?_ ?_⟩
       · exact⟨by simp [h0],by simp [h2],by simp [h3],by simp [h13],by simp [h14],by simp [-Int.natCast_add,hdw]⟩
       · first | (rw [← hput];rfl) | (rw [← hput,List.set_comm _ _ hcb];rfl)
       · exact⟨by simp [h0],by simp [h2],by simp [h3],by simp [h13],by simp [h14],by simp [-Int.natCast_add,hdw]⟩
       · first | (rw [← hput];rfl) | (rw [← hput,List.set_comm _ _ hcb];rfl)
     · have hfe:firstE (fun y=>scalarE (fldsOf c) (varsC c) y.expr) (kindsL k xs)=scalarE (fldsOf c) (varsC c) x.expr:=by
        rw [hd,kindsL_mid hkd];exact firstE_at (f:=fun y:It=>scalarE (fldsOf c) (varsC c) y.expr) hz h6
       simp [-acells,-fin,-fin1,-fin2,-pl1,-pl2,-plain,-AV.atom,-getElem?_pos,-Int.natCast_add,h0,h2,h3,h13,h14,h15,h6,hfe,encE_eq X]
       exact hkp.trans KpL.app
   · rw [if_neg hkd] at hkn
     simp [-acells,-fin,-fin1,-fin2,-pl1,-pl2,-plain,-AV.atom,-getElem?_pos,-Int.natCast_add,h0,h2,h3,h13,h14,h15,hlt,hx,encI_eq x,encE_eq x.expr,hkd,hdw]
     refine hRl _ _ ⟨by simp [h0],by simp [h2],by simp [h3],by simp [h13],by simp [h14],by simp [-Int.natCast_add,hdw],rfl,hkp.trans KpL.app,by rw [hkn];exact hz,ob,ov,look_app hc1 _,?_,by rw [hkn];exact hge⟩
     rw [hkn]
     exact hov.keep fun y _ hy=>look_app hy _
 · rintro ev ⟨H1,T1⟩ ⟨h0,h2,h3,h13,h14,h15,hT,hkp,hz,ob,ov,hc1,hov,hge⟩
   obtain rfl:T=T1:=hT.symm
   have hfz:firstE (fun y=>scalarE (fldsOf c) (varsC c) y.expr) (kindsL k xs)=0:=firstE_zero.2 hz
   simp [-acells,-fin,-fin1,-fin2,-pl1,-pl2,-plain,-AV.atom,-getElem?_pos,-Int.natCast_add,h0,h2,h3,h13,h14,h15,hfz]
   exact⟨hkp,ob,ov,hc1,hov,hge⟩
section
structure Stp where
 f:FuncId
 a:List AV
 b:List AV
 r:Int
def Stp.v (s:Stp):AV:=.fn s.f s.a s.b
set_option maxHeartbeats 4000000 in
theorem checks50A (fs:List Stp) (hl:fs.length≤1000) (J:Nat→St→Prop) (K:St→Prop) (tok:Abs.Tok)
 (hs:∀ (i:Nat) (s:Stp) (σ:St),fs[i]?=some s→J i σ→ACall Tryz.prog GG s.f (s.a++s.b) σ (fun v σ'=>v=.int .i64 s.r∧K σ'∧(s.r=0→J (i+1) σ'))) (σ:St) (h0:J 0 σ) (hK:K σ) :
 ACall Tryz.prog GG 50 [.sl 1 (fs.map fun s=>[s.v]) tok] σ (fun v σ'=>v=.int .i64 (firstE Stp.r fs)∧K σ'∧(firstE Stp.r fs=0→J fs.length σ')):=by
 refine ACall.k mixed Tryz.func50 rfl (by kernel_rfl) ?_
 simp [-acells,-fin,-fin1,-fin2,-pl1,-pl2,-plain,-AV.atom,-getElem?_pos]
 refine kLoop.listR fs (fun d ev σ=>ev 6=.sl 1 (fs.map fun s=>[s.v]) tok∧ev 7=.int .i64 fs.length∧ev 8=.int .i64 d.length∧(∀ s∈d,s.r=0)∧K σ∧J d.length σ) ?_ ?_ ?_
 · exact⟨by simp,by simp,by simp,by simp,hK,h0⟩
 · rintro d s r ev σ Rl hRl hd hx hlt ⟨h6,h7,h8,hz,hKd,hJ⟩
   have hdw:IntKind.i64.wrap ((d.length:Int)+1)=(d.length+1:Nat):=by rw [wr (by omega) (by omega)];omega
   have hc:=hs d.length s σ hx hJ
   simp [-acells,-fin,-fin1,-fin2,-pl1,-pl2,-plain,-AV.atom,-getElem?_pos,h6,h7,h8,hlt,hx,Stp.v]
   refine kCall.acall hc ?_
   rintro v σ' ⟨rfl,hK',hn⟩
   by_cases hr:s.r=0
   · simp [-acells,-fin,-fin1,-fin2,-pl1,-pl2,-plain,-AV.atom,-getElem?_pos,-Int.natCast_add,h6,h7,h8,hr,hdw]
     refine hRl _ _ ⟨by simp [h6],by simp [h7],by simp [-Int.natCast_add,hdw],hz_snoc hz hr,hK',by simpa using hn hr⟩
   · have hf:firstE Stp.r fs=s.r:=by rw [hd];exact firstE_at hz hr
     simp [-acells,-fin,-fin1,-fin2,-pl1,-pl2,-plain,-AV.atom,-getElem?_pos,-Int.natCast_add,h6,h7,h8,hr,hf]
     exact hK'
 · rintro ev σ ⟨h6,h7,h8,hz,hKd,hJ⟩
   have hf:firstE Stp.r fs=0:=firstE_zero.2 hz
   simp [-acells,-fin,-fin1,-fin2,-pl1,-pl2,-plain,-AV.atom,-getElem?_pos,h6,h7,h8,hf]
   exact⟨hKd,hJ⟩
section
variable {H:List Blk} {T:List (Option Nat)} {B bp bs bx:Nat}
def plans55:List (Nat×Sch×List Nat):=[(1,.step 0 [7,6] (.step 1 [7,6] (.step 2 [7,6,5,4,3] (.step 3 [7,6,5,4] (.step 4 [7,6,5] (.step 5 [7,6] (.step 6 [7] (.step 7 [] (.done)))))))),[6])]
def plans57:List (Nat×Sch×List Nat):=[(1,.step 0 [7,6] (.step 1 [7,6] (.step 2 [7,6,5,4,3] (.step 3 [7,6,5,4] (.step 4 [7,6,5] (.step 5 [7,6] (.step 6 [7] (.step 7 [] (.done)))))))),[6])]
theorem step51 {S:AV} {Q:AV→St→Prop} (e1:H[bp]?=some (.cells [.ptr B 0])) (e2:H[bs]?=some (.cells [S])) (hS:acells S=some [S]) (hSa:asVal (some false) [S]=some S) (h:ACall Tryz.prog GG 52 [.ptr B 0,S] ⟨H,T⟩ (fun v σ'=>∃ n,v=.int .i64 n∧Q v σ')):ACall Tryz.prog GG 51 [.ptr bp 0,.ptr bs 0] ⟨H,T⟩ Q:=by
 refine ACall.k mixed Tryz.func51 rfl (by kernel_rfl) ?_
 simp [-acells,-fin,-fin1,-fin2,-pl1,-pl2,-plain,-AV.atom,-getElem?_pos,e1,e2,hSa]
 refine kCall.acall h ?_
 rintro v σ' ⟨n,rfl,hq⟩
 simp [-acells,-fin,-fin1,-fin2,-pl1,-pl2,-plain,-AV.atom,-getElem?_pos]
 exact hq
theorem step55 {S:AV} {Q:AV→St→Prop} (e1:H[bp]?=some (.cells [.ptr B 0])) (e2:H[bs]?=some (.cells [S])) (hSa:asVal (some false) [S]=some S) (h:ACall Tryz.prog GG 56 [.ptr B 0,S,.int .i64 1,.ptr B 5] ⟨H,T⟩ (fun v σ'=>∃ n,v=.int .i64 n∧Q v σ')):ACall Tryz.prog GG 55 [.ptr bp 0,.ptr bs 0] ⟨H,T⟩ Q:=by
 refine ACall.kO ⟨true,plans55,[],[]⟩ mixed Tryz.func55 rfl (by kernel_rfl) ?_
 simp [-acells,-fin,-fin1,-fin2,-pl1,-pl2,-plain,-AV.atom,-getElem?_pos]
 rw [kC_plan rfl]
 simp [-acells,-fin,-fin1,-fin2,-pl1,-pl2,-plain,-AV.atom,-getElem?_pos,clsB,e1,e2,hSa]
 refine kCall.acall h ?_
 rintro v σ' ⟨n,rfl,hq⟩
 simp [-acells,-fin,-fin1,-fin2,-pl1,-pl2,-plain,-AV.atom,-getElem?_pos,clsB]
 exact hq
theorem step57 {S:AV} {Q:AV→St→Prop} (e1:H[bp]?=some (.cells [.ptr B 0])) (e2:H[bs]?=some (.cells [S])) (hSa:asVal (some false) [S]=some S) (h:ACall Tryz.prog GG 56 [.ptr B 0,S,.int .i64 2,.ptr B 6] ⟨H,T⟩ (fun v σ'=>∃ n,v=.int .i64 n∧Q v σ')):ACall Tryz.prog GG 57 [.ptr bp 0,.ptr bs 0] ⟨H,T⟩ Q:=by
 refine ACall.kO ⟨true,plans57,[],[]⟩ mixed Tryz.func57 rfl (by kernel_rfl) ?_
 simp [-acells,-fin,-fin1,-fin2,-pl1,-pl2,-plain,-AV.atom,-getElem?_pos]
 rw [kC_plan rfl]
 simp [-acells,-fin,-fin1,-fin2,-pl1,-pl2,-plain,-AV.atom,-getElem?_pos,clsB,e1,e2,hSa]
 refine kCall.acall h ?_
 rintro v σ' ⟨n,rfl,hq⟩
 simp [-acells,-fin,-fin1,-fin2,-pl1,-pl2,-plain,-AV.atom,-getElem?_pos,clsB]
 exact hq
theorem frz_gv {k:Nat} {p:GP} (h:p.1=1∧∃ t n,p.2.2=.chain t n):frz H (k+1) (gv p)=.sl 1 (p.2.1.map encInt) .none:=by
 obtain⟨z,l,t⟩:=p
 obtain⟨h1,a,n,h2⟩:=h
 simp only at h1 h2
 subst h1 h2
 have hr:=frz_rows (H:=H) (en:=encInt) (fun x=>by simp [encInt]) (n:=k) l
 unfold gv
 rw [Abs.frz,if_neg (by simp [noRef])]
 simp only [hr]
 rw [if_pos (by rw [List.all_map,List.all_eq_true];intro x _;simp [encInt])]
theorem GAt.frz {gb:Nat} {v:AV} {gs:List (List Int)} (h:GAt gb H v gs) (k:Nat):Abs.frz H (k+2) v=.sl 1 (gs.map encInts) .none:=by
 obtain⟨ps,tl,rfl,hb,rfl,hp⟩:=h
 have hfm:∀ ps:List GP,ps.map gv=ps.flatMap fun p=>[gv p]:=fun ps=>by
  induction ps with
  | nil=>rfl
  | cons a r ih=>rw [List.map_cons,List.flatMap_cons,ih];rfl
 have hch:chunk 1 ps.length (ps.map gv++tl)=ps.map fun p=>[gv p]:=by
  rw [hfm]
  exact Go.Abs.chunk_flat (sz:=1) (en:=fun p=>[gv p]) (fun _=>rfl) ps tl
 have hrw:(ps.map fun p=>[gv p]).map (·.map (Abs.frz H (k+1)))=(ps.map fun p=>p.2.1).map encInts:=by
  rw [List.map_map,List.map_map]
  refine List.map_congr_left fun p hpm=>?_
  simp only [Function.comp,List.map_cons,List.map_nil,frz_gv (hp p hpm)]
  rfl
 rw [Abs.frz,if_neg (by simp [noRef])]
 simp only [hb,List.drop_zero,hch,hrw]
 rw [if_pos ⟨by simp,by rw [List.all_map,List.all_eq_true];intro x _;simp⟩]
theorem frz_slm2no {α:Type} {sz:Nat} {en:α→List AV} (hn:∀ x,noRefs (en x)=true) (ha:∀ x,(en x).all AV.atom=true) (H:List Blk) (k:Nat) (l:List α) (tok:Abs.Tok):noRef (Abs.frz H (k+1) (.sl sz (l.map en) tok))=true:=by
 have hr:=frz_rows (H:=H) hn (n:=k) l
 by_cases hno:Abs.noRef (.sl sz (l.map en) tok)=true
 · rw [frz_noRef hno];exact hno
 · have hall:((l.map en).map (·.map (Abs.frz H k))).all (·.all AV.atom)=true:=by
    rw [hr,List.all_map,List.all_eq_true]
    intro x _
    exact ha x
   rw [Abs.frz,if_neg hno]
   simp only [if_pos hall]
   rw [hr]
   simpa using noRefss_map hn l
theorem frz_done {vb hb sb gb:Nat} {vv hv sv dv gvv:AV} {p:Problem} (hV:OwnAt vb 4 encVar H vv p.vars) (hH:OwnAt hb 4 encE H hv p.hard) (hS:OwnAt sb 4 encE H sv p.soft) (hD:∃ sz tok,dv=.sl sz (p.dists.map encDist) tok∧(sz=2∨p.dists=[])) (hG:GAt gb H gvv p.groups) (k:Nat) :
 noRef (frz H (k+3) (.agg [vv,hv,sv,dv,gvv]))=true∧Leq (frz H (k+3) (.agg [vv,hv,sv,dv,gvv])) (.agg (encP p)):=by
 have a1:=hV.frz (fun x=>by simp) (fun x=>by simp) (fun x=>by simp) (k+1)
 have a2:=hH.frz encE_len (fun x=>by simp [encE_eq]) (fun x=>by simp [encE_eq]) (k+1)
 have a3:=hS.frz encE_len (fun x=>by simp [encE_eq]) (fun x=>by simp [encE_eq]) (k+1)
 have n1:=hV.frzNo (fun x=>by simp) (fun x=>by simp) (fun x=>by simp) (k+1)
 have n2:=hH.frzNo encE_len (fun x=>by simp [encE_eq]) (fun x=>by simp [encE_eq]) (k+1)
 have n3:=hS.frzNo encE_len (fun x=>by simp [encE_eq]) (fun x=>by simp [encE_eq]) (k+1)
 obtain⟨sz,tok,rfl,hsz⟩:=hD
 have a4:=frz_slm2 (sz:=sz) (sz':=2) (en:=encDist) (fun x=>by simp) (fun x=>by simp) H (k+1) p.dists tok hsz
 have n4:=frz_slm2no (sz:=sz) (en:=encDist) (fun x=>by simp) (fun x=>by simp) H (k+1) p.dists tok
 have a5:=hG.frz k
 rw [frz_aggE]
 simp only [List.map_cons,List.map_nil,encP]
 rw [a5]
 refine⟨?_,?_⟩
 · simp only [noRef,noRefs,n1,n2,n3,n4,Bool.and_true,Bool.true_and]
   simp
 · simp only [Leq,LeqL,and_true]
   exact⟨a1,a2,a3,a4,by simp⟩
theorem step58 {vb hb sb gb:Nat} {a0 a1 a2 a3 a9 vv hv sv dv gvv:AV} {p:Problem} (hq:VQ p) (e1:H[bp]?=some (.cells [.ptr B 0])) (e2:H[B]?=some (.cells [a0,a1,a2,a3,vv,hv,sv,dv,gvv,a9]))
 (hV:OwnAt vb 4 encVar H vv p.vars) (hH:OwnAt hb 4 encE H hv p.hard) (hS:OwnAt sb 4 encE H sv p.soft) (hD:∃ sz tok,dv=.sl sz (p.dists.map encDist) tok∧(sz=2∨p.dists=[])) (hG:GAt gb H gvv p.groups) :
 ACall Tryz.prog GG 58 [.ptr bp 0] ⟨H,T⟩ (fun v σ'=>v=.int .i64 (validP p)∧σ'=⟨H,T⟩):=by
 refine ACall.k mixed Tryz.func58 rfl (by kernel_rfl) ?_
 have hf:=(frz_done hV hH hS hD hG 5).2
 have d1:acells dv=some [dv]:=by obtain⟨sz,tok,rfl,_⟩:=hD;rfl
 have d2:acells gvv=some [gvv]:=by obtain⟨ps,tl,rfl,_⟩:=hG;rfl
 simp [-acells,-fin,-fin1,-fin2,-pl1,-pl2,-plain,-AV.atom,-getElem?_pos,e1,e2,hV.acells,hH.acells,hS.acells,d1,d2]
 refine kCall.lent (valid14q p hq) rfl (by simp only [List.map_cons,List.map_nil,LeqL,and_true];exact hf) ?_
 simp [-acells,-fin,-fin1,-fin2,-pl1,-pl2,-plain,-AV.atom,-getElem?_pos]
end
end
section
theorem rndS_states (V:List Var) (S:List Signal) (i:Int):rndS (statesV V S) i=rndS V i:=by
 have h:=foldV_at S V i.toNat
 unfold rndS
 rw [show statesV V S=S.foldl setV V from rfl]
 cases h1:(S.foldl setV V)[i.toNat]? with
 | none=>
  rw [h1] at h
  cases h2:V[i.toNat]? with
  | none=>rfl
  | some v=>rw [h2] at h;cases h
 | some u=>
  rw [h1] at h
  cases h2:V[i.toNat]? with
  | none=>rw [h2] at h;cases h
  | some v=>
   rw [h2] at h
   simp only [Option.map_some,Option.some.injEq,Prod.mk.injEq] at h
   simp [h.2.2]
theorem distribE_states (V:List Var) (S:List Signal) (D:List Dist):distribE (statesV V S) D=distribE V D:=by
 unfold distribE
 simp only [rndS_states]
theorem groupsL_states (V:List Var) (S:List Signal) (E:List (Int×Int)):groupsL (statesV V S) E=groupsL V E:=by
 unfold groupsL
 rw [show (statesV V S).length=V.length from foldV_len S V]
 simp only [rndS_states]
theorem rndS_lt {V:List Var} {i:Int} (h:rndS V i=true):0≤i∧i<V.length:=by
 unfold rndS at h
 rw [Bool.and_eq_true] at h
 have h1:0≤i:=of_decide_eq_true h.1
 cases h2:V[i.toNat]? with
 | none=>rw [h2] at h;simp at h
 | some v=>
  have:=(List.getElem?_eq_some_iff.1 h2).1
  omega
theorem edges_below {V:List Var} {X:List It}:Below (X.flatMap (edgesI V)) V.length:=by
 intro e he
 obtain⟨x,hx,he⟩:=List.mem_flatMap.1 he
 unfold edgesI at he
 split at he
 · obtain⟨i,hi,he⟩:=List.mem_flatMap.1 he
   unfold edges1 at he
   obtain⟨k,hk,rfl⟩:=List.mem_map.1 he
   obtain⟨_,h2⟩:=List.mem_filter.1 hk
   rw [Bool.and_eq_true] at h2
   exact⟨rndS_lt h2.1,rndS_lt h2.2⟩
 · cases he
theorem flat_bound {α β:Type} {f:α→List β} {n:Nat}:∀ {l:List α},(∀ x∈l,(f x).length≤n)→(l.flatMap f).length≤l.length*n
 | [],_=>by simp
 | a::r,h=>by
  have h1:=h a (by simp)
  have h2:=flat_bound (l:=r) fun x hx=>h x (by simp [hx])
  rw [List.flatMap_cons,List.length_append,List.length_cons,Nat.succ_mul]
  omega
theorem expanded_ok {F:Flds} {ls:List (List It)} (hf:∀ l∈ls,FewN l) (h0:firstE (expandE F) ls=0):(∀ y∈expandedS F ls,OutOk 7014 y∧Named1 y)∧(expandedS F ls).length≤ls.length*400:=by
 have hz:=firstE_zero.1 h0
 refine⟨fun y hy=>?_,flat_bound fun l hl=>(expandE_zero (hz l hl)).1⟩
 obtain⟨l,hlm,hyl⟩:=List.mem_flatMap.1 (show y∈ls.flatMap (expandL F 6 none) from hy)
 exact⟨expandL_out (hf l hlm).few y hyl,(hf l hlm).named (hz l hlm) y hyl⟩
def Kept (bs:List Nat) (H H':List Blk):Prop:=∀ (k:Nat) (x:Blk),k∈bs→H[k]?=some x→H'[k]?=some x
theorem Kept.of {bs cs:List Nat} {H H1 H2:List Blk} (h:Kept bs H H1) (hk:KpL cs H1 H2) (hd:∀ k∈bs,k∉cs):Kept bs H H2:=fun k x hm hx=>hk.2 k x (h k x hm hx) (hd k hm)
noncomputable def answers (c:Cls) (ls:List (List It)) (S:List Signal):List Int :=
 let F:=fldsOf c
 let l:=varsC c
 let x:=expandedS F ls
 let d:=x.flatMap (distsI l)
 let E:=x.flatMap (edgesI l)
 [firstE (expandE F) ls,statesE l S,distribE l d,if acyc E l.length=true then 0 else 10,firstE (fun y=>scalarE F l y.expr) (kindsL 1 x),firstE (fun y=>scalarE F l y.expr) (kindsL 2 x),
  validP ⟨statesV l S,(kindsL 1 x).map fun y=>scE l y.expr,(kindsL 2 x).map fun y=>scE l y.expr,d,groupsL l E⟩]
theorem answers_build (c:Cls) (off:List Str) (more:List It) (S:List Signal):buildE c off more S=firstE id (answers c (listsC c off more) S):=by
 unfold buildE answers
 simp only [firstE,id]
 by_cases h1:firstE (expandE (fldsOf c)) (listsC c off more)=0
 · by_cases h2:statesE (varsC c) S=0
   · by_cases h3:distribE (varsC c) ((expandedS (fldsOf c) (listsC c off more)).flatMap (distsI (varsC c)))=0
     · by_cases h4:acyc ((expandedS (fldsOf c) (listsC c off more)).flatMap (edgesI (varsC c))) (varsC c).length=true
       · by_cases h5:firstE (fun y=>scalarE (fldsOf c) (varsC c) y.expr) (kindsL 1 (expandedS (fldsOf c) (listsC c off more)))=0
         · by_cases h6:firstE (fun y=>scalarE (fldsOf c) (varsC c) y.expr) (kindsL 2 (expandedS (fldsOf c) (listsC c off more)))=0
           · simp only [h1,h2,h3,h4,h5,h6]
             simp
           · simp [h1,h2,h3,h4,h5,h6]
         · simp [h1,h2,h3,h4,h5]
       · simp [h1,h2,h3,h4]
     · simp [h1,h2,h3]
   · simp [h1,h2]
 · simp [h1]
theorem scalar_wen {c:Cls} (hc:ClsOk c) {e:Ex} (h:scalarE (fldsOf c) (varsC c) e=0):Wen (scE (varsC c) e)∧(pre (scE (varsC c) e)).length≤400∧hgt (scE (varsC c) e)≤400:=by
 have hn:=validE_nodes (scalarE_valid h)
 unfold scalarE at h
 split at h
 · rename_i h1;exact absurd h h1
 split at h
 · rename_i h1;exact absurd h h1
 rename_i h2
 split at h
 · cases h
 rename_i h3
 exact sc_wen hn (exprF_unk hc hn (Classical.not_not.1 h2)) h3
theorem problem_vq {c:Cls} (hc:ClsOk c) (hl:(varsC c).length≤1000) (X:List It) (hX:∀ y∈X,OutOk 7014 y∧Named1 y) (hXl:X.length≤10000) (S:List Signal)
 (h5:firstE (fun y=>scalarE (fldsOf c) (varsC c) y.expr) (kindsL 1 X)=0) (h6:firstE (fun y=>scalarE (fldsOf c) (varsC c) y.expr) (kindsL 2 X)=0) :
 VQ ⟨statesV (varsC c) S,(kindsL 1 X).map fun y=>scE (varsC c) y.expr,(kindsL 2 X).map fun y=>scE (varsC c) y.expr,X.flatMap (distsI (varsC c)),groupsL (varsC c) (X.flatMap (edgesI (varsC c)))⟩:=by
 have hk:∀ k,(kindsL k X).length≤X.length:=fun k=>List.length_filter_le _ _
 have htop:topL (X.flatMap (edgesI (varsC c))) (varsC c).length≤(varsC c).length:=topL_le fun e _=>chainL_fuel _ _
 have hgr:groupsL (varsC c) (X.flatMap (edgesI (varsC c)))=((List.range (topL (X.flatMap (edgesI (varsC c))) (varsC c).length+1)).map (grpN (varsC c) (X.flatMap (edgesI (varsC c))) (varsC c).length)).filter fun g=>!g.isEmpty:=rfl
 refine⟨?_,fun v hv=>?_,?_,?_,fun e he=>?_,?_,fun d hd=>?_,?_,fun g hg=>?_⟩
 · show (statesV (varsC c) S).length≤1000
   rw [show (statesV (varsC c) S).length=(varsC c).length from foldV_len S _];exact hl
 · have hm:v.name∈(statesV (varsC c) S).map Var.name:=List.mem_map.2 ⟨v,hv,rfl⟩
   rw [show (statesV (varsC c) S).map Var.name=(varsC c).map Var.name from foldV_names S _] at hm
   obtain⟨u,hu,e⟩:=List.mem_map.1 hm
   have:=varsC_name hc u hu
   rw [← e]
   have:=varS_len this
   unfold Fits;omega
 · simp only [List.length_map];have:=hk 1;omega
 · simp only [List.length_map];have:=hk 2;omega
 · have:∃ y,scalarE (fldsOf c) (varsC c) y=0∧e=scE (varsC c) y:=by
    rcases List.mem_append.1 he with he|he
    · obtain⟨y,hy,rfl⟩:=List.mem_map.1 he
      exact⟨y.expr,firstE_zero.1 h5 y hy,rfl⟩
    · obtain⟨y,hy,rfl⟩:=List.mem_map.1 he
      exact⟨y.expr,firstE_zero.1 h6 y hy,rfl⟩
   obtain⟨y,hy,rfl⟩:=this
   obtain⟨w1,w2,w3⟩:=scalar_wen hc hy
   exact⟨w1,by omega,by omega⟩
 · have:(X.flatMap (distsI (varsC c))).length≤X.length*8:=flat_bound fun x _=>distsI_len _ x
   show (X.flatMap (distsI (varsC c))).length<9223372036854775808
   omega
 · obtain⟨x,hx,hd⟩:=List.mem_flatMap.1 hd
   have:=(hX x hx).1.ws
   unfold distsI at hd
   split at hd
   · obtain⟨i,_,rfl⟩:=List.mem_map.1 hd
     show Fits x.ws
     unfold Fits;omega
   · cases hd
 · show Fits (groupsL _ _)
   rw [hgr]
   have:=List.length_filter_le (fun g:List Int=>!g.isEmpty) ((List.range (topL (X.flatMap (edgesI (varsC c))) (varsC c).length+1)).map (grpN (varsC c) (X.flatMap (edgesI (varsC c))) (varsC c).length))
   rw [List.length_map,List.length_range] at this
   unfold Fits;omega
 · rw [hgr] at hg
   obtain⟨hg,_⟩:=List.mem_filter.1 hg
   obtain⟨k,_,rfl⟩:=List.mem_map.1 hg
   have:=grpN_len (varsC c) (X.flatMap (edgesI (varsC c))) (varsC c).length k
   unfold Fits;omega
structure BD (B br:Nat) (c:Cls) (p:Problem) (H:List Blk):Prop where
 cell:∃ vb hb sb gb m vv hv sv dv gvv,H[B]?=some (.cells [.str c.name,.str c.parent,.sl 5 (c.fields.map encFld) .none,.sl 2 (c.blocks.map encBlc) .none,vv,hv,sv,dv,gvv,.map m]) ∧
  OwnAt vb 4 encVar H vv p.vars∧OwnAt hb 4 encE H hv p.hard∧OwnAt sb 4 encE H sv p.soft∧(∃ sz tok,dv=.sl sz (p.dists.map encDist) tok∧(sz=2∨p.dists=[]))∧GAt gb H gvv p.groups∧gb≠br
theorem GAt.keep {gb:Nat} {H H':List Blk} {v:AV} {gs:List (List Int)} (h:GAt gb H v gs) (hk:∀ x,H[gb]?=some x→H'[gb]?=some x):GAt gb H' v gs:=by
 obtain⟨ps,tl,h1,h2,h3,h4⟩:=h
 exact⟨ps,tl,h1,hk _ h2,h3,h4⟩
section
variable {B vb m:Nat} {c:Cls}
set_option maxHeartbeats 16000000 in
theorem build50 (hc:ClsOk c) (hl:(varsC c).length≤1000) (hw:∀ v∈varsC c,0≤v.width∧v.width≤8) (ls:List (List It)) (hls:ls.length≤25) (hfw:∀ l∈ls,FewN l) (S:List Signal) (hS:Fits S) (H:List Blk) (T:List (Option Nat)) (bl bc bx bp bs br td clk:Nat)
 (e1:H[bl]?=some (.cells [.sl 1 (ls.map encIts) .none])) (e2:H[bc]?=some (.cells (encCls c))) (e3:H[bx]?=some (.cells [.sl 0 [] .nil])) (e4:H[bp]?=some (.cells [.ptr B 0])) (e5:H[bs]?=some (.cells [.sl 2 (S.map encSignal) .none])) (e6:∃ z,H[br]?=some (.cells z)∧z.length=5)
 (n1:∀ k∈[bl,bc,bp,bs,br],k∉[B,m,bx]∧k≠vb) (n2:bx≠B∧bx≠m∧bx≠vb) (n3:B≠vb) (h:BX [] B vb m c (varsC c) ⟨H,T⟩ [] [] td [] clk) (tok:Abs.Tok) :
 ACall Tryz.prog GG 50 [.sl 1 [[.fn 47 [] [.ptr bl 0,.ptr bc 0,.ptr bx 0,.ptr bp 0]],[.fn 51 [] [.ptr bp 0,.ptr bs 0]],[.fn 53 [.ptr B 0] []],[.fn 54 [.ptr B 0] []],[.fn 55 [] [.ptr bp 0,.ptr bx 0]],[.fn 57 [] [.ptr bp 0,.ptr bx 0]],[.fn 58 [] [.ptr bp 0]]] tok] ⟨H,T⟩
  (fun r σ'=>r=.int .i64 (firstE id (answers c ls S))∧(∃ z,σ'.H[br]?=some (.cells z)∧z.length=5)∧(firstE id (answers c ls S)=0→σ'.H[bp]?=some (.cells [.ptr B 0]) ∧
    BD B br c ⟨statesV (varsC c) S,(kindsL 1 (expandedS (fldsOf c) ls)).map fun y=>scE (varsC c) y.expr,(kindsL 2 (expandedS (fldsOf c) ls)).map fun y=>scE (varsC c) y.expr,(expandedS (fldsOf c) ls).flatMap (distsI (varsC c)),groupsL (varsC c) ((expandedS (fldsOf c) ls).flatMap (edgesI (varsC c)))⟩ σ'.H)):=by
 have hans:answers c ls S=[firstE (expandE (fldsOf c)) ls,statesE (varsC c) S,distribE (varsC c) ((expandedS (fldsOf c) ls).flatMap (distsI (varsC c))),if acyc ((expandedS (fldsOf c) ls).flatMap (edgesI (varsC c))) (varsC c).length=true then 0 else 10,firstE (fun y=>scalarE (fldsOf c) (varsC c) y.expr) (kindsL 1 (expandedS (fldsOf c) ls)),firstE (fun y=>scalarE (fldsOf c) (varsC c) y.expr) (kindsL 2 (expandedS (fldsOf c) ls)),
  validP ⟨statesV (varsC c) S,(kindsL 1 (expandedS (fldsOf c) ls)).map fun y=>scE (varsC c) y.expr,(kindsL 2 (expandedS (fldsOf c) ls)).map fun y=>scE (varsC c) y.expr,(expandedS (fldsOf c) ls).flatMap (distsI (varsC c)),groupsL (varsC c) ((expandedS (fldsOf c) ls).flatMap (edgesI (varsC c)))⟩]:=rfl
 rw [hans]
 clear hans
 have hVn:=varsC_name hc
 have hxo:=expanded_ok (F:=fldsOf c) hfw
 have hvq:=fun hX hXl=>problem_vq hc hl (expandedS (fldsOf c) ls) hX hXl S
 have hst:=states52 (B:=B) (vb:=vb) (m:=m) (c:=c) (V:=varsC c) (T0:=[]) hl S hS hw
 have hbel:=edges_below (V:=varsC c) (X:=expandedS (fldsOf c) ls)
 have hV'l:(statesV (varsC c) S).length=(varsC c).length:=foldV_len S _
 have hdS:=distribE_states (varsC c) S ((expandedS (fldsOf c) ls).flatMap (distsI (varsC c)))
 have hgS:=groupsL_states (varsC c) S ((expandedS (fldsOf c) ls).flatMap (edgesI (varsC c)))
 have hEl:firstE (expandE (fldsOf c)) ls=0→((expandedS (fldsOf c) ls).flatMap (edgesI (varsC c))).length≤1000000000∧((expandedS (fldsOf c) ls).flatMap (distsI (varsC c))).length≤1000000∧(expandedS (fldsOf c) ls).length≤10000:=fun h0=>by
  obtain⟨q1,q2⟩:=hxo h0
  have g1:=flat_bound (f:=edgesI (varsC c)) (l:=expandedS (fldsOf c) ls) fun x hx=>edgesI_len (q1 x hx).2
  have g2:=flat_bound (f:=distsI (varsC c)) (l:=expandedS (fldsOf c) ls) fun x hx=>distsI_len (varsC c) x
  omega
 have hex:=expand47 (B:=B) (vb:=vb) (m:=m) hc hVn hl ls (by omega) hfw H T bl bc bx bp clk td e1 e2 e3 e4 (n1 bl (by simp)).1 (n1 bc (by simp)).1 (n1 bp (by simp)).1 n2.1 n2.2.1 h
 generalize hVdef:varsC c=V at *
 generalize hXX:expandedS (fldsOf c) ls=X at *
 generalize hr0:firstE (expandE (fldsOf c)) ls=r0 at *
 generalize hr1:statesE V S=r1 at *
 generalize hr2:distribE V (X.flatMap (distsI V))=r2 at *
 generalize hVV:statesV V S=V' at *
 generalize hr4:firstE (fun y=>scalarE (fldsOf c) V y.expr) (kindsL 1 X)=r4 at *
 generalize hr5:firstE (fun y=>scalarE (fldsOf c) V y.expr) (kindsL 2 X)=r5 at *
 generalize hDD:X.flatMap (distsI V)=D at *
 generalize hEE:X.flatMap (edgesI V)=E at *
 generalize hGG:groupsL V E=gs at *
 generalize hHD:(kindsL 1 X).map (fun y=>scE V y.expr)=hd at *
 generalize hSF:(kindsL 2 X).map (fun y=>scE V y.expr)=sf at *
 have hk0:∀ k∈[bp,bs,br],k∉[B,m,bx]∧k≠vb:=fun k hk=>n1 k (by simp at hk ⊢;rcases hk with rfl | rfl | rfl<;>simp)
 have hkB:∀ k∈[bp,bs,br],k∉[B]:=fun k hk=>by have:=(hk0 k hk).1;simp at this ⊢;exact this.1
 have hbp:bp∈[bp,bs,br]:=by simp
 have hbs:bs∈[bp,bs,br]:=by simp
 have hbr:br∈[bp,bs,br]:=by simp
 let CC (vv hv sv dv gvv:AV) (σ:St):Prop:=σ.H[B]?=some (.cells [.str c.name,.str c.parent,.sl 5 (c.fields.map encFld) .none,.sl 2 (c.blocks.map encBlc) .none,vv,hv,sv,dv,gvv,.map m])
 let XC (σ:St):Prop:=∃ sz tok,σ.H[bx]?=some (.cells [.sl sz (X.map encI) tok])∧(sz=12∨X=[])
 let DC (dv:AV):Prop:=∃ sz tok,dv=.sl sz (D.map encDist) tok∧(sz=2∨D=[])
 let J:Nat→St→Prop:=fun i σ=>match i with
  | 0=>σ=⟨H,T⟩
  | 1=>r0=0∧Kept [bp,bs,br] H σ.H∧XC σ∧∃ td R clk,BX [] B vb m c V σ D E td R clk
  | 2=>r0=0∧Kept [bp,bs,br] H σ.H∧XC σ∧∃ td R clk,BX [] B vb m c V' σ D E td R clk
  | 3=>r0=0∧Kept [bp,bs,br] H σ.H∧XC σ∧∃ td R clk,BX [] B vb m c V' σ D E td R clk
  | 4=>r0=0∧Kept [bp,bs,br] H σ.H∧XC σ∧∃ gb vv dv gvv,CC vv (.sl 0 [] .nil) (.sl 0 [] .nil) dv gvv σ∧OwnAt vb 4 encVar σ.H vv V'∧DC dv∧GAt gb σ.H gvv gs∧(gb≠B∧gb≠br)
  | 5=>r0=0∧r4=0∧Kept [bp,bs,br] H σ.H∧XC σ∧∃ hb gb vv hv dv gvv,CC vv hv (.sl 0 [] .nil) dv gvv σ∧OwnAt vb 4 encVar σ.H vv V'∧OwnAt hb 4 encE σ.H hv hd∧DC dv∧GAt gb σ.H gvv gs∧(gb≠B∧gb≠br)∧(hd≠[]→hb≠B)
  | 6=>r0=0∧r4=0∧r5=0∧Kept [bp,bs,br] H σ.H∧BD B br c ⟨V',hd,sf,D,gs⟩ σ.H
  | _=>Kept [bp,bs,br] H σ.H∧BD B br c ⟨V',hd,sf,D,gs⟩ σ.H
 have hfs:=checks50A [⟨47,[],[.ptr bl 0,.ptr bc 0,.ptr bx 0,.ptr bp 0],r0⟩,⟨51,[],[.ptr bp 0,.ptr bs 0],r1⟩,⟨53,[.ptr B 0],[],r2⟩,⟨54,[.ptr B 0],[],if acyc E V.length=true then 0 else 10⟩,⟨55,[],[.ptr bp 0,.ptr bx 0],r4⟩,⟨57,[],[.ptr bp 0,.ptr bx 0],r5⟩,⟨58,[],[.ptr bp 0],validP ⟨V',hd,sf,D,gs⟩⟩] (by simp) J (fun σ=>Kept [bp,bs,br] H σ.H) tok ?_ ⟨H,T⟩ rfl (fun _ _ _ h=>h)
 · refine hfs.imp fun v σ'=>?_
   rintro⟨rfl,q1,hJ⟩
   obtain⟨z,hz1,hz2⟩:=e6
   refine⟨by simp [firstE],⟨z,q1 _ _ hbr hz1,hz2⟩,fun hz=>?_⟩
   obtain⟨_,q2⟩:J 7 σ':=hJ (Eq.trans (by simp [firstE]) hz)
   exact⟨q1 _ _ hbp e4,q2⟩
 · rintro i st ⟨H1,T1⟩ hi hJ
   match i,hi,hJ with
   | 0,hi,hJ=>
    cases hi
    cases hJ
    refine hex.imp fun v σ'=>?_
    rintro⟨rfl,hkp,hpost⟩
    refine⟨rfl,Kept.of (fun _ _ _ h=>h) hkp fun k hk=>(hk0 k hk).1,fun h0=>?_⟩
    obtain⟨td',R',clk',sz,tok',hB,hx,hsz⟩:=hpost h0
    exact⟨h0,Kept.of (fun _ _ _ h=>h) hkp fun k hk=>(hk0 k hk).1,⟨sz,tok',hx,hsz⟩,td',R',clk',hB⟩
   | 1,hi,hJ=>
    cases hi
    obtain⟨h0,hk,hx,td,R,clk,hB⟩:=hJ
    refine step51 (hk _ _ hbp e4) (hk _ _ hbs e5) rfl rfl ((hst H1 T1 hB).imp fun v σ'=>?_)
    rintro⟨rfl,hT,hkp,hpost⟩
    refine⟨_,rfl,rfl,hk.of hkp fun k hk=>by have:=(hk0 k hk).2;simpa using this,fun h1=>?_⟩
    obtain⟨sz,tok',hx,hsz⟩:=hx
    exact⟨h0,hk.of hkp fun k hk=>by have:=(hk0 k hk).2;simpa using this,⟨sz,tok',hkp.2 _ _ hx (by simpa using n2.2.2),hsz⟩,td,R,clk,hpost h1⟩
   | 2,hi,hJ=>
    cases hi
    obtain⟨h0,hk,hx,td,R,clk,hB⟩:=hJ
    obtain⟨vv,dv,hc1,hv1,hd1⟩:=hB.cell
    have hda:OutAt 0 2 encDist T1 dv D:=by
     rcases hd1 with ⟨rfl,rfl⟩|⟨g1,rfl,g2,g3,_⟩
     · exact .inl ⟨rfl,rfl⟩
     · exact .inr ⟨g1,_,Nat.zero_le _,rfl,g3⟩
    have hds:=distributed53 V' D (hEl h0).2.1 H1 T1 0 B vb _ _ _ _ vv dv _ (by simp) hc1 hv1 hda
    rw [hdS] at hds
    refine hds.imp fun v σ'=>?_
    rintro⟨rfl,t,rfl⟩
    refine⟨rfl,fun k x hm hx=>look_app (hk k x hm hx) t,fun h2=>⟨h0,fun k x hm hx=>look_app (hk k x hm hx) t,?_,td,R,clk,hB.ext t List.prefix_rfl⟩⟩
    obtain⟨sz,tok',hx,hsz⟩:=hx
    exact⟨sz,tok',look_app hx t,hsz⟩
   | 3,hi,hJ=>
    cases hi
    obtain⟨h0,hk,hx,td,R,clk,hB⟩:=hJ
    obtain⟨vv,dv,hc1,hv1,hd1⟩:=hB.cell
    have hg:=grouped54 (by rw [hV'l];exact hl) (hEl h0).1 (by rw [hV'l];exact hbel) H1 T1 hB hc1
    rw [hV'l,hgS] at hg
    refine hg.imp fun v σ'=>?_
    rintro⟨rfl,hT,hkp,hpost⟩
    refine⟨rfl,hk.of hkp hkB,fun h3=>?_⟩
    have ha:acyc E V.length=true:=by
     cases e:acyc E V.length with
     | true=>rfl
     | false=>simp [e] at h3
    obtain⟨gvv,gb,hgb,hga,hc2⟩:=hpost ha
    obtain⟨sz,tok',hx,hsz⟩:=hx
    have hBl:=(List.getElem?_eq_some_iff.1 hc1).1
    exact⟨h0,hk.of hkp hkB,⟨sz,tok',hkp.2 _ _ hx (by simpa using n2.1),hsz⟩,gb,vv,dv,gvv,hc2,hv1.keep fun x _ hx=>hkp.2 _ _ hx (by simpa using Ne.symm n3),BX.dists hd1,hga,by simp only at hBl;omega,by
     obtain⟨z,hz1,_⟩:=e6
     have:=(List.getElem?_eq_some_iff.1 (hk _ _ hbr hz1)).1
     simp only at this;omega⟩
   | 4,hi,hJ=>
    cases hi
    obtain⟨h0,hk,⟨sz,tok',hx,hsz⟩,gb,vv,dv,gvv,hC,hv,hd',hg,hgB⟩:=hJ
    have hh:=hard56 c hc X (fun x hx=>((hxo h0).1 x hx).1) (by have:=(hEl h0).2.2;omega) 1 H1 T1 B m vv (.sl 0 [] .nil) dv gvv sz tok' hsz hC
    rw [hVdef,hr4,hHD] at hh
    refine step55 (hk _ _ hbp e4) hx rfl (hh.imp fun v σ'=>?_)
    rintro⟨rfl,hT,hkp,hpost⟩
    refine⟨_,rfl,rfl,hk.of hkp hkB,fun h4=>?_⟩
    obtain⟨hb,hv',hc2,hov,hge⟩:=hpost h4
    have hBl:=(List.getElem?_eq_some_iff.1 hC).1
    exact⟨h0,h4,hk.of hkp hkB,⟨sz,tok',hkp.2 _ _ hx (by simpa using n2.1),hsz⟩,hb,gb,vv,hv',dv,gvv,hc2,hv.keep fun x _ hx=>hkp.2 _ _ hx (by simpa using Ne.symm n3),hov,hd',hg.keep fun x hx=>hkp.2 _ _ hx (by simpa using hgB.1),hgB,fun hne=>by
     have:=hge (by rintro e;rw [← hHD,e] at hne;exact hne rfl)
     simp only at hBl;omega⟩
   | 5,hi,hJ=>
    cases hi
    obtain⟨h0,h4,hk,⟨sz,tok',hx,hsz⟩,hb,gb,vv,hv,dv,gvv,hC,hvv,hh,hd',hg,hgB,hhB⟩:=hJ
    have hh2:=soft56 c hc X (fun x hx=>((hxo h0).1 x hx).1) (by have:=(hEl h0).2.2;omega) 2 H1 T1 B m vv hv dv gvv sz tok' hsz hC
    rw [hVdef,hr5,hSF] at hh2
    refine step57 (hk _ _ hbp e4) hx rfl (hh2.imp fun v σ'=>?_)
    rintro⟨rfl,hT,hkp,hpost⟩
    refine⟨_,rfl,rfl,hk.of hkp hkB,fun h5=>?_⟩
    obtain⟨sb,sv',hc2,hov,hge⟩:=hpost h5
    exact⟨h0,h4,h5,hk.of hkp hkB,vb,hb,sb,gb,m,vv,hv,sv',dv,gvv,hc2,hvv.keep fun x _ hx=>hkp.2 _ _ hx (by simpa using Ne.symm n3),hh.keep fun x hne hx=>hkp.2 _ _ hx (by simpa using hhB hne),hov,hd',hg.keep fun x hx=>hkp.2 _ _ hx (by simpa using hgB.1),hgB.2⟩
   | 6,hi,hJ=>
    cases hi
    obtain⟨h0,h4,h5,hk,vb',hb,sb,gb,m',vv,hv,sv,dv,gvv,hC,hvv,hh,hs,hd',hg,hgr⟩:=hJ
    refine (step58 (p:=⟨V',hd,sf,D,gs⟩) (hvq (hxo h0).1 (hEl h0).2.2 h4 h5) (hk _ _ hbp e4) hC hvv hh hs hd' hg).imp fun v σ'=>?_
    rintro⟨rfl,rfl⟩
    exact⟨rfl,hk,fun _=>⟨hk,vb',hb,sb,gb,m',vv,hv,sv,dv,gvv,hC,hvv,hh,hs,hd',hg,hgr⟩⟩
   | k+7,hi,hJ=>simp at hi
end
end
end Go.Proofs.YtpgcmnabljandaaGreatDoor
end
