/- A part of the proof: Walk80 Walk82 Walk83 Walk84 AbsField AbsLevels. -/
import Derived.Test.YtpgcmnabljandaaGreatDoorGa18
import Derived.Test.YtpgcmnabljandaaGreatDoorGa29
import Derived.Test.YtpgcmnabljandaaGreatDoorGa15
import Derived.Test.YtpgcmnabljandaaGreatDoorGa17
import Derived.Test.YtpgcmnabljandaaGreatDoorGa19
import Derived.Test.YtpgcmnabljandaaGreatDoorGa42
import Derived.Test.YtpgcmnabljandaaGreatDoorGa43
import Derived.Test.YtpgcmnabljandaaGreatDoorGa30
set_option linter.unusedVariables false
set_option linter.unusedSimpArgs false
set_option maxRecDepth 100000
section
namespace Go.Proofs.YtpgcmnabljandaaGreatDoor
open Go Go.Abs
theorem randomG (l:List Var) (a b c d:AV) (ha:AV.atom a=true) (hb:AV.atom b=true) (hc:AV.atom c=true) (hd:AV.atom d=true) (i:Int):Pure Tryz.prog GG 83 [.agg [.sl 4 (l.map encVar) .none,a,b,c,d],.int .i64 i] (.bool (rndS l i)):=by
 refine Pure.k mixed Tryz.func83 rfl (by kernel_rfl) ?_
 have hr:rndS l i=(decide (0≤i)&&(l[i.toNat]?).any fun v=>v.mode != 0):=rfl
 rw [hr]
 by_cases h0:0≤i
 · cases hv:l[i.toNat]? with
   | none=>
    have h1:¬ i<l.length:=by simp at hv;omega
    simp [-acells,-fin,-fin1,-fin2,-pl1,-pl2,-plain,-AV.atom,-getElem?_pos,h0,h1,ha,hb,hc,hd]
   | some v=>
    obtain⟨hl,hv'⟩:=List.getElem?_eq_some_iff.1 hv
    have h1:i<l.length:=by omega
    simp [-acells,-fin,-fin1,-fin2,-pl1,-pl2,-plain,-AV.atom,-getElem?_pos,h0,h1,hv,ha,hb,hc,hd]
 · simp [-acells,-fin,-fin1,-fin2,-pl1,-pl2,-plain,-AV.atom,-getElem?_pos,h0,ha,hb,hc,hd]
theorem same111 (x d:Dist):Pure Tryz.prog GG 111 [.agg (encDist x),.rptr (encDist d)] (.bool (x.var==d.var)):=by
 refine Pure.k mixed Tryz.func111 rfl (by kernel_rfl) ?_
 simp
theorem same112 (l:List Var) (x:Dist) (z0 z1 z2 z3 b c d e:AV) (hb:AV.atom b=true) (hc:AV.atom c=true) (hd:AV.atom d=true) (he:AV.atom e=true) (hno:noRefs [b,c,d,e]=true):Pure Tryz.prog GG 112 [.agg (encDist x),.rptr [.rptr [z0,z1,z2,z3,.sl 4 (l.map encVar) .none,b,c,d,e]]] (.bool (!rndS l x.var)):=by
 refine Pure.k mixed Tryz.func112 rfl (by kernel_rfl) ?_
 simp only [noRefs,Bool.and_true,Bool.and_eq_true] at hno
 simp [-acells,-fin,-fin1,-fin2,-pl1,-pl2,-plain,-AV.atom,-getElem?_pos]
 refine kCall.call (randomG l b c d e hb hc hd he x.var) (by simp [hno]) ?_
 simp [-acells,-fin,-fin1,-fin2,-pl1,-pl2,-plain,-AV.atom,-getElem?_pos]
set_option maxHeartbeats 8000000 in
theorem distributed53 (V:List Var) (D:List Dist) (hD:D.length≤1000000) (H:List Blk) (T:List (Option Nat)) (n B vb:Nat) (a0 a1 a2 a3 vv dv a9:AV)
 (hno:noRefs [a0,a1,a2,a3]=true) (hB:H[B]?=some (.cells [a0,a1,a2,a3,vv,.sl 0 [] .nil,.sl 0 [] .nil,dv,.sl 0 [] .nil,a9])) (hv:OwnAt vb 4 encVar H vv V) (hd:OutAt n 2 encDist T dv D) :
 ACall Tryz.prog GG 53 [.ptr B 0] ⟨H,T⟩ (fun r σ'=>r=.int .i64 (distribE V D)∧∃ t,σ'=⟨H++t,T⟩):=by
 refine ACall.k mixed Tryz.func53 rfl (by kernel_rfl) ?_
 have hr:distribE V D=if (List.range D.length).any (dupD D)=true then 8 else if D.any (fun x=>!rndS V x.var)=true then 1 else 0:=rfl
 generalize distribE V D=r at hr
 have hfz:=fun H=>hd.frz (fun x=>by simp) (fun x=>by simp) H 7
 obtain⟨sz,tok,rfl,hsz⟩:∃ sz tok,dv=.sl sz (D.map encDist) tok∧(sz=2∨D=[]):=by
  rcases hd with ⟨rfl,rfl⟩|⟨_,t,_,rfl,_⟩
  · exact⟨0,.nil,rfl,.inr rfl⟩
  · exact⟨2,_,rfl,.inl rfl⟩
 have hvz:∀ H',(∀ (k:Nat) (x:Blk),H[k]?=some x→H'[k]?=some x)→Leq (frz H' 5 vv) (.sl 4 (V.map encVar) .none):=fun H' hk=>(hv.keep fun x _ hx=>hk _ _ hx).frz (fun x=>by simp) (fun x=>by simp) (fun x=>by simp) 4
 simp [-acells,-fin,-fin1,-fin2,-pl1,-pl2,-plain,-AV.atom,-getElem?_pos,hB,look_app hB]
 refine kLoop.listR D (fun d ev σ=>ev 1=.ptr H.length 0∧ev 9=.sl sz (D.map encDist) tok∧ev 10=.int .i64 D.length∧ev 11=.int .i64 d.length∧(∃ t,σ=⟨H++.cells [.ptr B 0]::t,T⟩)∧∀ k,k<d.length→dupD D k=false) ?_ ?_ ?_
 · exact⟨by simp,by simp,by simp,by simp,⟨[],by simp⟩,by simp⟩
 · rintro d x l ev σ R hR hdl hx hlt ⟨h1,h9,h10,h11,⟨t,rfl⟩,hz⟩
   have hs2:sz=2:=hsz.resolve_right (by rintro rfl;simp at hlt)
   subst hs2
   have hdup:dupD D d.length=d.any fun y=>y.var==x.var:=by
    unfold dupD
    rw [hx]
    simp only
    congr 1
    rw [hdl,List.take_left']
    rfl
   have htk:D.take d.length=d:=by rw [hdl,List.take_left'];rfl
   have hle:d.length≤D.length:=by omega
   simp [-acells,-fin,-fin1,-fin2,-pl1,-pl2,-plain,-AV.atom,-getElem?_pos,h1,h9,h10,h11,hlt,hx,look_app hB,sliceA,boundA,thirdA,htk,hle]
   rw [← List.map_take,htk]
   refine kCall.lent (args':=[.sl 2 (d.map encDist) .none,.fn 111 [] [.rptr (encDist x)]]) (containsFuncDist GG d (fun y=>y.var==x.var) 111 [] [.rptr (encDist x)] (by unfold Fits;omega) rfl (by simp) fun y _=>same111 y x) rfl ?_ ?_
   · simp only [List.map_cons,List.map_nil,LeqL,and_true]
     refine⟨frz_slm (fun x=>by simp) (fun x=>by simp) _ 7 d _,?_⟩
     simp [frz]
   · rw [← hdup]
     cases hc:dupD D d.length
     · simp [-acells,-fin,-fin1,-fin2,-pl1,-pl2,-plain,-AV.atom,-getElem?_pos,h1,h9,h10,h11]
       refine hR _ _ ⟨by simp [h1],by simp [h9],by simp [h10],by simp [h11];exact wr (by omega) (by omega),⟨_,by simp;rfl⟩,fun k hk=>?_⟩
       have hk':k<d.length∨k=d.length:=by simp at hk;omega
       rcases hk' with hk' | rfl
       · exact hz k hk'
       · exact hc
     · rw [if_pos (List.any_eq_true.2 ⟨d.length,List.mem_range.2 hlt,hc⟩)] at hr
       subst hr
       simp [-acells,-fin,-fin1,-fin2,-pl1,-pl2,-plain,-AV.atom,-getElem?_pos]
 · rintro ev σ ⟨h1,h9,h10,h11,⟨t,rfl⟩,hz⟩
   have hnd:¬ (List.range D.length).any (dupD D)=true:=by
    rw [List.any_eq_true]
    rintro⟨k,hk,h⟩
    rw [hz k (List.mem_range.1 hk)] at h;cases h
   rw [if_neg hnd] at hr
   simp [-acells,-fin,-fin1,-fin2,-pl1,-pl2,-plain,-AV.atom,-getElem?_pos,h1,h9,h10,h11,look_app hB]
   have hB2:(H++.cells [.ptr B 0]::t)[B]?=some (.cells [a0,a1,a2,a3,vv,.sl 0 [] .nil,.sl 0 [] .nil,.sl sz (D.map encDist) tok,.sl 0 [] .nil,a9]):=look_app hB _
   have hb2:(H++.cells [.ptr B 0]::t)[H.length]?=some (.cells [.ptr B 0]):=by simp
   have hvz2:=hvz (H++.cells [.ptr B 0]::t) fun k x hk=>look_app hk _
   have hdz:=fun k=>frz_slm2 (sz:=sz) (sz':=2) (en:=encDist) (fun x=>by simp) (fun x=>by simp) (H++.cells [.ptr B 0]::t) k D tok hsz
   have hxt:∃ t',H++.cells [.ptr B 0]::t=H++t':=⟨_,rfl⟩
   generalize H++.cells [.ptr B 0]::t=H' at hB2 hb2 hvz2 hdz hxt ⊢
   simp only [noRefs,Bool.and_true,Bool.and_eq_true] at hno
   refine kCall.lent (args':=[.sl 2 (D.map encDist) .none,.fn 112 [] [.rptr [.rptr [a0,a1,a2,a3,.sl 4 (V.map encVar) .none,.sl 0 [] .nil,.sl 0 [] .nil,.sl 2 (D.map encDist) .none,.sl 0 [] .nil]]]]) (containsFuncDist GG D (fun x=>!rndS V x.var) 112 [] _ (by unfold Fits;omega) rfl (by simp [hno]) fun y _=>same112 V y _ _ _ _ _ _ _ _ (by simp) (by simp) (by simp) (by simp) (by simp)) rfl ?_ ?_
   · simp only [List.map_cons,List.map_nil,LeqL,and_true]
     refine⟨hdz 7,?_⟩
     · have f1:frz H' 8 (.fn 112 [] [.ptr H.length 0])=.fn 112 [] [frz H' 7 (.ptr H.length 0)]:=by rw [frz,if_neg (by simp [noRef,noRefs])];rfl
       have f2:frz H' 7 (.ptr H.length 0)=.rptr [frz H' 6 (.ptr B 0)]:=by rw [frz_ptr hb2];rfl
       have f3:frz H' 6 (.ptr B 0)=.rptr ([a0,a1,a2,a3,vv,.sl 0 [] .nil,.sl 0 [] .nil,.sl sz (D.map encDist) tok,.sl 0 [] .nil,a9].map (frz H' 5)):=by rw [frz_ptr hB2];rfl
       rw [f1,f2,f3]
       simp only [List.map_cons,List.map_nil,Leq,LeqL,LeqC,and_true,true_and]
       rw [frz_noRef hno.1,frz_noRef hno.2.1,frz_noRef hno.2.2.1,frz_noRef hno.2.2.2,frz_noRef (a:=.sl 0 [] .nil) rfl]
       exact⟨Leq.refl _,Leq.refl _,Leq.refl _,Leq.refl _,hvz2,Leq.refl _,Leq.refl _,hdz 4,Leq.refl _⟩
   · cases hc:D.any (fun x=>!rndS V x.var)
     · rw [hc,if_neg (by simp)] at hr
       subst hr
       simp [-acells,-fin,-fin1,-fin2,-pl1,-pl2,-plain,-AV.atom,-getElem?_pos]
       exact hxt
     · rw [hc,if_pos rfl] at hr
       subst hr
       simp [-acells,-fin,-fin1,-fin2,-pl1,-pl2,-plain,-AV.atom,-getElem?_pos]
       exact hxt
section
structure BX (T0:List (Option Nat)) (B vb m:Nat) (c:Cls) (V:List Var) (σ:St) (D:List Dist) (E:List (Int×Int)) (td:Nat) (R:List Rec) (clk:Nat):Prop where
 cell:∃ vv dv,σ.H[B]?=some (.cells [.str c.name,.str c.parent,.sl 5 (c.fields.map encFld) .none,.sl 2 (c.blocks.map encBlc) .none,vv,.sl 0 [] .nil,.sl 0 [] .nil,dv,.sl 0 [] .nil,.map m])∧OwnAt vb 4 encVar σ.H vv V ∧
  ((D=[]∧dv=.sl 0 [] .nil)∨(D≠[]∧dv=.sl 2 (D.map encDist) (.chain td D.length)∧T0.length≤td∧σ.T[td]?=some (some D.length)∧∀ r∈R,r.tok≠td))
 map:σ.H[m]?=some (.map (R.map (recE E)) clk)
 after:AfterOk σ.T T0.length E R clk
 pre:T0 <+: σ.T
def Kp2 (B m:Nat) (H H':List Blk):Prop:=H.length≤H'.length∧∀ (k:Nat) (x:Blk),H[k]?=some x→k≠B→k≠m→H'[k]?=some x
theorem Kp2.app {B m:Nat} {H t:List Blk}:Kp2 B m H (H++t):=⟨by simp,fun k x hk _ _=>look_app hk t⟩
section
variable {T0:List (Option Nat)} {B vb m:Nat} {c:Cls} {V:List Var} {σ:St} {D:List Dist} {E:List (Int×Int)} {td:Nat} {R:List Rec} {clk:Nat} {H:List Blk} {T T':List (Option Nat)}
theorem BX.ne (h:BX T0 B vb m c V σ D E td R clk):B≠m:=by
 rintro rfl
 obtain⟨vv,dv,h1,_⟩:=h.cell
 have h2:=h.map
 rw [h1] at h2;cases h2
theorem BX.ext (h:BX T0 B vb m c V ⟨H,T⟩ D E td R clk) (t:List Blk) (hT:T <+: T'):BX T0 B vb m c V ⟨H++t,T'⟩ D E td R clk:=by
 obtain⟨vv,dv,h1,h2,h3⟩:=h.cell
 refine⟨⟨vv,dv,look_app h1 t,h2.keep fun x _ hx=>look_app hx t,?_⟩,look_app h.map t,h.after.ext hT,h.pre.trans hT⟩
 rcases h3 with h3|⟨a,b,c,d,e⟩
 · exact .inl h3
 · obtain⟨u,rfl⟩:=hT
   exact .inr ⟨a,b,c,by show (T++u)[td]?=_;rw [List.getElem?_append_left (List.getElem?_eq_some_iff.1 d).1];exact d,e⟩
theorem BX.dist (h:BX T0 B vb m c V ⟨H,T⟩ D E td R clk) (hD:D.length≤1000000) (d:Dist) :
 ∃ vv dv v' T' td',H[B]?=some (.cells [.str c.name,.str c.parent,.sl 5 (c.fields.map encFld) .none,.sl 2 (c.blocks.map encBlc) .none,vv,.sl 0 [] .nil,.sl 0 [] .nil,dv,.sl 0 [] .nil,.map m]) ∧
  (∀ H,appendA (Dof Tryz.prog) ⟨H,T⟩ 33 dv (.sl 2 [encDist d] .tight)=some (v',⟨H,T'⟩))∧acells v'=some [v'] ∧
  BX T0 B vb m c V ⟨H.set B (.cells [.str c.name,.str c.parent,.sl 5 (c.fields.map encFld) .none,.sl 2 (c.blocks.map encBlc) .none,vv,.sl 0 [] .nil,.sl 0 [] .nil,v',.sl 0 [] .nil,.map m]),T'⟩ (D++[d]) E td' R clk:=by
 obtain⟨vv,dv,h1,h2,h3⟩:=h.cell
 simp only at h1 h2 h3
 have hne:=h.ne
 have hlt:=(List.getElem?_eq_some_iff.1 h1).1
 have hvB:V≠[]→vb≠B:=fun hV=>by
  have hr:=(h2.at hV).2
  rintro rfl
  rw [h1] at hr
  cases V with
  | nil=>exact hV rfl
  | cons v r=>
   simp only [Option.some.injEq,Blk.cells.injEq,List.flatMap_cons,encVar,List.cons_append,List.nil_append,List.cons.injEq] at hr
   have:=hr.2.1
   cases this
 have hvars:∀ y,OwnAt vb 4 encVar (H.set B y) vv V:=fun y=>h2.keep fun x hl hx=>by rw [List.getElem?_set_ne (Ne.symm (hvB hl))];exact hx
 have hmap:∀ y,(H.set B y)[m]?=some (.map (R.map (recE E)) clk):=fun y=>by rw [List.getElem?_set_ne hne];exact h.map
 rcases h3 with ⟨rfl,rfl⟩|⟨hDn,rfl,ht1,ht2,ht3⟩
 · refine⟨vv,.sl 0 [] .nil,.sl 2 [encDist d] (.chain T.length 1),T++[some 1],T.length,h1,fun H=>by simp [appendA,rowsOf],rfl,⟨vv,_,by rw [List.getElem?_set_self hlt],hvars _,.inr ⟨by simp,by simp,by obtain⟨u,hu⟩:=h.pre;simp only at hu;rw [← hu];simp,by simp,fun r hr=>?_⟩⟩,hmap _,h.after.ext (List.prefix_append _ _),h.pre.trans (List.prefix_append _ _)⟩
   have:=(List.getElem?_eq_some_iff.1 (h.after.tok r hr).2).1
   simp only at this
   omega
 · have hl:D.length+1≤1073741824:=by omega
   refine⟨vv,_,.sl 2 ((D++[d]).map encDist) (.chain td (D.length+1)),T.set td (some (D.length+1)),td,h1,fun H=>by simp [appendA,rowsOf,ht2,hl],rfl,⟨vv,_,by rw [List.getElem?_set_self hlt],hvars _,.inr ⟨by simp,by simp,ht1,?_,ht3⟩⟩,hmap _,h.after.keep fun r hr=>?_,prefix_set h.pre ht1 _⟩
   · rw [List.getElem?_set_self (List.getElem?_eq_some_iff.1 ht2).1];simp
   · rw [List.getElem?_set_ne (Ne.symm (ht3 r hr))]
theorem D86x:∃ x,Dof Tryz.prog 86=some x∧x.d=.map 3 28:=⟨_,D86,rfl⟩
theorem D3x:∃ x,Dof Tryz.prog 3=some x∧x.d=.int .i64∧x.size=1∧x.zero.length=1∧x.bytes≤65536:=⟨_,D3,rfl,rfl,rfl,by decide⟩
theorem D28x:∃ x,Dof Tryz.prog 28=some x∧x.d=.sl 3∧x.zv=.sl 0 [] .nil:=⟨_,D28,rfl,rfl⟩
theorem succs_len (E:List (Int×Int)) (i:Int):(succs E i).length≤E.length:=by
 unfold succs
 rw [List.length_map]
 exact List.length_filter_le _ _
theorem BX.edge (h:BX T0 B vb m c V ⟨H,T⟩ D E td R clk) (hE:E.length≤1000000000) (i k:Int) :
 ∃ v v' T' R' clk',(∀ H',H'[m]?=some (.map (R.map (recE E)) clk)→∀ T1,lookupA (Dof Tryz.prog) ⟨H',T1⟩ 86 (.map m) (.int .i64 i) false=some v) ∧
  (∀ H',appendA (Dof Tryz.prog) ⟨H',T⟩ 28 v (.sl 1 [[.int .i64 k]] .tight)=some (v',⟨H',T'⟩)) ∧
  (∀ H',H'[m]?=some (.map (R.map (recE E)) clk)→∀ T1,mapUpdateA (Dof Tryz.prog) ⟨H',T1⟩ 86 (.map m) (.int .i64 i) v'=some ⟨H'.set m (.map (R'.map (recE (E++[(i,k)]))) clk'),T1⟩) ∧
  BX T0 B vb m c V ⟨H.set m (.map (R'.map (recE (E++[(i,k)]))) clk'),T'⟩ D (E++[(i,k)]) td R' clk':=by
 obtain⟨v,v',T',R',clk',k1,k2,k3,k4,k5,k6,k7⟩:=h.after.add h.pre (fun i=>Nat.le_trans (succs_len E i) hE) i k D86x D3x D28x
 have hne:=h.ne
 obtain⟨vv,dv,h1,h2,h3⟩:=h.cell
 have hm:=h.map
 simp only at h1 h2 h3 hm
 have hvm:V≠[]→vb≠m:=fun hV=>by
  have hr:=(h2.at hV).2
  rintro rfl
  rw [hm] at hr;cases hr
 refine⟨v,v',T',R',clk',fun H' hH T1=>k1 H' T1 m hH,k2,fun H' hH T1=>k3 H' T1 m hH,⟨vv,dv,?_,?_,?_⟩,?_,k4,k5⟩
 · show (H.set m _)[B]?=_
   rw [List.getElem?_set_ne (Ne.symm hne)];exact h1
 · exact h2.keep fun x hl hx=>by rw [List.getElem?_set_ne (Ne.symm (hvm hl))];exact hx
 · rcases h3 with h3|⟨a,b,c,d,e⟩
   · exact .inl h3
   · obtain⟨q1,q2⟩:=k7 td (List.getElem?_eq_some_iff.1 d).1 e
     exact .inr ⟨a,b,c,by show T'[td]?=_;rw [q1];exact d,q2⟩
 · show (H.set m _)[m]?=_
   rw [List.getElem?_set_self (List.getElem?_eq_some_iff.1 hm).1]
end
end
section
def plans49:List (Nat×Sch×List Nat):=[(6,.step 0 [16,15,14,13] (.step 1 [16,15,14,13,12,5,4,3,2] (.step 2 [16,15,14,13,12,5,4,3] (.step 3 [16,15,14,13,12,5,4] (.step 4 [16,15,14,13,12,5] (.step 5 [16,15,14,13,12] (.step 6 [16,15,14,13,12,11,10] (.step 7 [16,15,14,13,12,11,10,9,8] (.step 8 [16,15,14,13,12,11,10,9] (.step 9 [16,15,14,13,12,11,10] (.step 10 [16,15,14,13,12,11] (.step 11 [16,15,14,13,12] (.step 12 [16,15,14,13] (.step 13 [16,15,14] (.step 14 [16,15] (.step 15 [16] (.step 16 [] (.done))))))))))))))))),[]),(16,.step 0 [14,3,2,1] (.step 1 [14,3,2] (.step 2 [14,3] (.step 3 [14] (.step 4 [14] (.step 5 [14,13,10,8,7,6] (.step 6 [14,13,10,8,7] (.step 7 [14,13,10,8] (.step 8 [14,13,10] (.step 9 [14,13,10] (.step 10 [14,13] (.step 11 [14,13,12] (.step 12 [14,13] (.step 13 [14] (.step 14 [] (.done))))))))))))))),[])]
section
variable {T0:List (Option Nat)} {B vb m:Nat} {c:Cls} {V:List Var}
theorem dupBX {σ:St} {D:List Dist} {E:List (Int×Int)} {td:Nat} {R:List Rec} {clk:Nat} (h:BX T0 B vb m c V σ D E td R clk):B<σ.H.length∧m<σ.H.length:=by
 obtain⟨vv,dv,h1,_⟩:=h.cell
 exact⟨(List.getElem?_eq_some_iff.1 h1).1,(List.getElem?_eq_some_iff.1 h.map).1⟩
theorem namedS1_len (V:List Var) (s:Str):(namedS1 V s).length≤8:=by
 unfold namedS1
 split
 · simp
 · have:=sizeA_le V s;simpa using this
set_option maxHeartbeats 16000000 in
theorem add49dist (x:It) (hk:x.kind=3) (hV:∀ v∈V,varS v.name=true) (hl:V.length≤1000) (hn:x.name.length≤1000) (hw:x.ws.length≤1000) (H:List Blk) (T:List (Option Nat)) {D:List Dist} {E:List (Int×Int)} {td:Nat} {R:List Rec} {clk:Nat} (hD:D.length+8≤1000000)
 (h:BX T0 B vb m c V ⟨H,T⟩ D E td R clk):ACall Tryz.prog GG 49 [.ptr B 0,.agg (encI x)] ⟨H,T⟩ (fun _ σ'=>∃ td' R' clk',BX T0 B vb m c V σ' (D++distsI V x) E td' R' clk'∧Kp2 B m H σ'.H):=by
 refine ACall.kO ⟨false,plans49,[],[]⟩ mixed Tryz.func49 rfl (by kernel_rfl) ?_
 have hds:distsI V x=(namedL V [x.name]).map fun i=>⟨i,x.ws⟩:=by unfold distsI;rw [if_pos hk];simp [namedL]
 have hlen:(namedL V [x.name]).length≤8:=by have:=namedS1_len V x.name;simpa [namedL] using this
 rw [hds]
 have h1:=h.ext [.cells (encI x)] List.prefix_rfl
 obtain⟨vv,dv,hb,hv,hdv⟩:=h1.cell
 have hnm:=named105 V hl hV [x.name] (by simpa using hn) (by simp) _ T B vb _ _ _ _ vv _ _ dv _ _ hb hv
 have hc106:=clone106 x.ws (by omega)
 generalize namedL V [x.name]=L at *
 simp only [encI_eq x,encE_eq x.expr,hk,List.cons_append,List.nil_append,List.map_cons,List.map_nil,encStr] at hnm
 simp [-acells,-fin,-fin1,-fin2,-pl1,-pl2,-plain,-AV.atom,-getElem?_pos,encI_eq x,encE_eq x.expr,hk]
 refine kCall.acall (hnm.leq (by simp [LeqL,Leq])) ?_
 rintro v σ' ⟨rfl,T1,rfl,hT1⟩
 have h2:=h.ext [.cells (encI x)] hT1
 simp [-acells,-fin,-fin1,-fin2,-pl1,-pl2,-plain,-AV.atom,-getElem?_pos]
 refine kLoop.listR L (fun d ev σ=>ev 0=.ptr B 0∧ev 3=.ptr H.length 0∧ev 18=.sl 1 (L.map encInt) .none∧ev 19=.int .i64 L.length∧ev 20=.int .i64 d.length∧σ.H[H.length]?=some (.cells (encI x))∧(∃ td' R' clk',BX T0 B vb m c V σ (D++d.map fun i=>⟨i,x.ws⟩) E td' R' clk')∧Kp2 B m H σ.H) ?_ ?_ ?_
 · refine⟨by simp,by simp,by simp,by simp,by simp,by simp [encI_eq x,encE_eq x.expr,hk],⟨td,R,clk,?_⟩,Kp2.app⟩
   simpa [encI_eq x,encE_eq x.expr,hk] using h2
 · rintro d i l ev ⟨H2,T2⟩ Rl hRl hd hx hlt ⟨h0,h3,h18,h19,h20,he,⟨td2,R2,clk2,hB⟩,hkp⟩
   have hdl:d.length<L.length:=hlt
   obtain⟨vv2,dv2,v',T3,td3,hb2,happ,hac,hB3⟩:=hB.dist (by simp;omega) ⟨i,x.ws⟩
   have hBne:H.length≠B∧H.length≠m:=by have:=dupBX h;simp only at this;omega
   have hs4:=fun (y:Blk) (t:List Blk)=>set_left hb2 t y
   simp only [encI_eq x,encE_eq x.expr,hk,List.cons_append,List.nil_append] at he
   simp only [encDist] at happ
   have hseq:∀ y,(H2.set B y)[H.length]?=some (.cells [.int .i64 3,.int .i64 x.expr.op,.int .i64 x.expr.n,.str x.expr.name,.sl 4 (x.expr.args.map encE) .none,.str x.name,.str x.index,.sl 4 (x.ws.map encWeight) .none,.sl 12 (x.items.map encI) .none,.sl 12 (x.els.map encI) .none,.sl 1 (x.before.map encStr) .none,.sl 1 (x.after.map encStr) .none]):=fun y=>by
    rw [List.getElem?_set_ne (Ne.symm hBne.1)];exact he
   simp [-acells,-fin,-fin1,-fin2,-pl1,-pl2,-plain,-AV.atom,-getElem?_pos,h0,h3,h18,h19,h20,hlt,hx]
   rw [kC_plan rfl]
   simp [-acells,-fin,-fin1,-fin2,-pl1,-pl2,-plain,-AV.atom,-getElem?_pos,clsB,h0,h3,h18,h19,h20,hb2,he]
   refine kCall.call hc106 (by simp) ?_
   simp [-acells,-fin,-fin1,-fin2,-pl1,-pl2,-plain,-AV.atom,-getElem?_pos,clsB,h0,h3,h18,h19,h20,hb2,he,happ,hac]
   refine hRl _ _ ⟨by simp [h0],by simp [h3],by simp [h18],by simp [h19],by simp [h20];exact wr (by omega) (by omega),?_,⟨td3,R2,clk2,?_⟩,?_⟩
   · simp only [encI_eq x,encE_eq x.expr,hk,List.cons_append,List.nil_append]
     exact hseq _
   · rw [List.map_append,← List.append_assoc]
     exact hB3
   · refine⟨by simpa using hkp.1,fun k y hky hkB hkm=>?_⟩
     rw [List.getElem?_set_ne (Ne.symm hkB)]
     exact hkp.2 k y hky hkB hkm
 · rintro ev σ ⟨h0,h3,h18,h19,h20,he,⟨td2,R2,clk2,hB⟩,hkp⟩
   simp [-acells,-fin,-fin1,-fin2,-pl1,-pl2,-plain,-AV.atom,-getElem?_pos,h19,h20]
   exact⟨⟨td2,R2,clk2,hB⟩,hkp⟩
end
end
section
theorem frz_aggE {H:List Blk} {n:Nat} {c:List AV}:frz H (n+1) (.agg c)=.agg (c.map (frz H n)):=by
 by_cases h:noRef (.agg c)=true
 · rw [frz_noRef h]
   congr 1
   simp only [noRef] at h
   induction c with
   | nil=>rfl
   | cons a r ih=>
    simp only [noRefs,Bool.and_eq_true] at h
    rw [List.map_cons,frz_noRef h.1,← ih h.2]
 · rw [frz,if_neg h]
section
variable {T0:List (Option Nat)} {B vb m:Nat} {c:Cls} {V:List Var}
theorem frz_prob {H:List Blk} {vv dv:AV} {D:List Dist} (hv:OwnAt vb 4 encVar H vv V) (hd:∃ sz tok,dv=.sl sz (D.map encDist) tok∧(sz=2∨D=[])) (i:Int) :
 LeqL ([.agg [vv,.sl 0 [] .nil,.sl 0 [] .nil,dv,.sl 0 [] .nil],.int .i64 i].map (frz H 8)) [.agg [.sl 4 (V.map encVar) .none,.sl 0 [] .nil,.sl 0 [] .nil,.sl 2 (D.map encDist) .none,.sl 0 [] .nil],.int .i64 i]:=by
 obtain⟨sz,tok,rfl,hsz⟩:=hd
 have h1:=hv.frz (fun x=>by simp) (fun x=>by simp) (fun x=>by simp) 6
 have h2:=frz_slm2 (sz:=sz) (sz':=2) (en:=encDist) (fun x=>by simp) (fun x=>by simp) H 6 D tok hsz
 have h3:frz H 7 (.sl 0 [] .nil)=.sl 0 [] .nil:=frz_noRef rfl
 simp only [List.map_cons,List.map_nil,frz_aggE,frz_int,LeqL,Leq,and_true,true_and,h3]
 exact⟨h1,by simp,by simp,h2,by simp⟩
theorem BX.dists {σ:St} {D:List Dist} {td:Nat} {R:List Rec} {dv:AV} (h:(D=[]∧dv=.sl 0 [] .nil)∨(D≠[]∧dv=.sl 2 (D.map encDist) (.chain td D.length)∧T0.length≤td∧σ.T[td]?=some (some D.length)∧∀ r∈R,r.tok≠td)) :
 ∃ sz tok,dv=.sl sz (D.map encDist) tok∧(sz=2∨D=[]):=by
 rcases h with ⟨rfl,rfl⟩|⟨_,rfl,_⟩
 · exact⟨0,.nil,rfl,.inr rfl⟩
 · exact⟨2,_,rfl,.inl rfl⟩
theorem edges1_len (V:List Var) (ks:List Int) (i:Int):(edges1 V ks i).length≤ks.length:=by
 unfold edges1
 rw [List.length_map]
 exact List.length_filter_le _ _
theorem edges_len (V:List Var) (ks:List Int):∀ l:List Int,(l.flatMap (edges1 V ks)).length≤l.length*ks.length
 | []=>by simp
 | i::r=>by
  have h1:=edges1_len V ks i
  have h2:=edges_len V ks r
  rw [List.flatMap_cons,List.length_append,List.length_cons,Nat.succ_mul]
  omega
set_option maxHeartbeats 16000000 in
theorem add49solve (x:It) (hk:x.kind=6) (hV:∀ v∈V,varS v.name=true) (hl:V.length≤1000) (hb:∀ s∈x.before,s.length≤1000) (ha:∀ s∈x.after,s.length≤1000) (hbl:x.before.length≤1000) (hal:x.after.length≤1000) (H:List Blk) (T:List (Option Nat)) {D:List Dist} {E:List (Int×Int)} {td:Nat} {R:List Rec} {clk:Nat} (hE:E.length+(namedL V x.after).length*(namedL V x.before).length≤1000000000)
 (h:BX T0 B vb m c V ⟨H,T⟩ D E td R clk) (hL1:(namedL V x.after).length≤100000) (hL2:(namedL V x.before).length≤100000) :
 ACall Tryz.prog GG 49 [.ptr B 0,.agg (encI x)] ⟨H,T⟩ (fun _ σ'=>∃ td' R' clk',BX T0 B vb m c V σ' D (E++edgesI V x) td' R' clk'∧Kp2 B m H σ'.H):=by
 refine ACall.kO ⟨false,plans49,[],[]⟩ mixed Tryz.func49 rfl (by kernel_rfl) ?_
 have hds:edgesI V x=(namedL V x.after).flatMap (edges1 V (namedL V x.before)):=by unfold edgesI;rw [if_pos hk]
 rw [hds]
 have hnmB:=fun (H':List Blk) (T':List (Option Nat)) (a0 a1 a2 a3 vv a5 a6 a7 a8 a9:AV) hB hv=>named105 V hl hV x.before hb (by omega) H' T' B vb a0 a1 a2 a3 vv a5 a6 a7 a8 a9 hB hv
 have hbx:=h.ext [.cells (encI x)] List.prefix_rfl
 obtain⟨vv,dv,hb1,hv1,hdv1⟩:=hbx.cell
 have hnmA:=named105 V hl hV x.after ha (by omega) _ T B vb _ _ _ _ vv _ _ dv _ _ hb1 hv1
 have hBne:H.length≠B∧H.length≠m:=by have:=dupBX h;simp only at this;omega
 generalize namedL V x.after=L at *
 generalize namedL V x.before=K at *
 simp only [encI_eq x,encE_eq x.expr,hk,List.cons_append,List.nil_append] at hnmA
 simp [-acells,-fin,-fin1,-fin2,-pl1,-pl2,-plain,-AV.atom,-getElem?_pos,encI_eq x,encE_eq x.expr,hk]
 refine kCall.acall hnmA ?_
 rintro v σ' ⟨rfl,T1,rfl,hT1⟩
 have h2:=h.ext [.cells (encI x)] hT1
 simp [-acells,-fin,-fin1,-fin2,-pl1,-pl2,-plain,-AV.atom,-getElem?_pos]
 refine kLoop.listR L (fun d ev σ=>ev 0=.ptr B 0∧ev 3=.ptr H.length 0∧ev 46=.sl 1 (L.map encInt) .none∧ev 47=.int .i64 L.length∧ev 48=.int .i64 d.length∧σ.H[H.length]?=some (.cells (encI x))∧(∃ td' R' clk',BX T0 B vb m c V σ D (E++d.flatMap (edges1 V K)) td' R' clk')∧Kp2 B m H σ.H) ?_ ?_ ?_
 · refine⟨by simp,by simp,by simp,by simp,by simp,by simp [encI_eq x,encE_eq x.expr,hk],⟨td,R,clk,?_⟩,Kp2.app⟩
   simpa [encI_eq x,encE_eq x.expr,hk] using h2
 · rintro d i l ev ⟨H2,T2⟩ Rl hRl hd hx hlt ⟨h0,h3,h46,h47,h48,he,⟨td2,R2,clk2,hB⟩,hkp⟩
   obtain⟨vv2,dv2,hb2,hv2,hdv2⟩:=hB.cell
   have hnm2:=hnmB H2 T2 _ _ _ _ vv2 _ _ dv2 _ _ hb2 hv2
   simp only [encI_eq x,encE_eq x.expr,hk,List.cons_append,List.nil_append] at he
   simp [-acells,-fin,-fin1,-fin2,-pl1,-pl2,-plain,-AV.atom,-getElem?_pos,h0,h3,h46,h47,h48,hlt,hx,he]
   refine kCall.acall hnm2 ?_
   rintro v σ' ⟨rfl,T3,rfl,hT3⟩
   have hB3:=hB.ext [] hT3
   rw [List.append_nil] at hB3
   have hfm:(d++[i]).flatMap (edges1 V K)=d.flatMap (edges1 V K)++edges1 V K i:=by simp
   have hdE:E.length+(d.flatMap (edges1 V K)).length+K.length≤1000000000:=by
    have h1:=edges_len V K d
    have h4:(d.length+1)*K.length≤L.length*K.length:=Nat.mul_le_mul_right _ hlt
    rw [Nat.succ_mul] at h4
    omega
   have hEl:(E++d.flatMap (edges1 V K)).length+K.length≤1000000000:=by rw [List.length_append];exact hdE
   have hdl:d.length≤100000:=by omega
   generalize hE2:E++d.flatMap (edges1 V K)=E2 at *
   simp [-acells,-fin,-fin1,-fin2,-pl1,-pl2,-plain,-AV.atom,-getElem?_pos,h0,h3,h46,h47,h48]
   refine kLoop.listR K (fun d2 ev σ=>ev 0=.ptr B 0∧ev 3=.ptr H.length 0∧ev 7=.int .i64 i∧ev 46=.sl 1 (L.map encInt) .none∧ev 47=.int .i64 L.length∧ev 48=.int .i64 d.length∧ev 55=.sl 1 (K.map encInt) .none∧ev 56=.int .i64 K.length∧ev 57=.int .i64 d2.length∧σ.H[H.length]?=some (.cells (encI x))∧(∃ td' R' clk',BX T0 B vb m c V σ D (E2++edges1 V d2 i) td' R' clk')∧Kp2 B m H σ.H) ?_ ?_ ?_
   · refine⟨by simp [h0],by simp [h3],by simp,by simp [h46],by simp [h47],by simp [h48],by simp,by simp,by simp,?_,⟨td2,R2,clk2,?_⟩,hkp⟩
     · simp only [encI_eq x,encE_eq x.expr,hk,List.cons_append,List.nil_append];exact he
     · simpa [edges1] using hB3
   · clear h0 h3 h46 h47 h48 hb2 hv2 hdv2 hnm2 hB hB3 he hkp
     rintro d2 k l2 ev ⟨H4,T4⟩ Rm hRm hd2 hx2 hlt2 ⟨h0,h3,h7,h46,h47,h48,h55,h56,h57,he,⟨td4,R4,clk4,hB⟩,hkp⟩
     obtain⟨vv4,dv4,hb4,hv4,hdv4⟩:=hB.cell
     have hr1:=randomG V (.sl 0 [] .nil) (.sl 0 [] .nil) (.sl 2 (D.map encDist) .none) (.sl 0 [] .nil) rfl rfl rfl rfl
     have hfz:=frz_prob hv4 (BX.dists hdv4)
     have hd2l:d2.length≤100000:=by omega
     have hed:edges1 V (d2++[k]) i=edges1 V d2 i++(if (rndS V i&&rndS V k)=true then [(i,k)] else []):=by
      unfold edges1
      rw [List.filter_append,List.map_append]
      by_cases e:(rndS V i&&rndS V k)=true
      · simp [e]
      · have e':(rndS V i&&rndS V k)=false:=by simpa using e
        simp [e']
     have hd2e:=edges1_len V d2 i
     have hE5:(E2++edges1 V d2 i).length≤1000000000:=by rw [List.length_append];omega
     have keep:∀ (env:Env),env 0=.ptr B 0→env 3=.ptr H.length 0→True:=fun _ _ _=>trivial
     simp [-acells,-fin,-fin1,-fin2,-pl1,-pl2,-plain,-AV.atom,-getElem?_pos,h0,h3,h7,h46,h47,h48,h55,h56,h57,hlt2,hx2,hb4]
     refine kCall.lent (hr1 i) rfl (hfz i) ?_
     cases hri:rndS V i
     · rw [hri] at hed
       simp only [Bool.false_and,Bool.false_eq_true,if_false,List.append_nil] at hed
       simp [-acells,-fin,-fin1,-fin2,-pl1,-pl2,-plain,-AV.atom,-getElem?_pos,h0,h3,h7,h46,h47,h48,h55,h56,h57,hb4]
       refine hRm _ _ ⟨by simp [h0],by simp [h3],by simp [h7],by simp [h46],by simp [h47],by simp [h48],by simp [h55],by simp [h56],by simp [h57];exact wr (by omega) (by omega),he,⟨td4,R4,clk4,by rw [hed];exact hB⟩,hkp⟩
     · simp [-acells,-fin,-fin1,-fin2,-pl1,-pl2,-plain,-AV.atom,-getElem?_pos,h0,h3,h7,h46,h47,h48,h55,h56,h57,hb4]
       refine kCall.lent (hr1 k) rfl (hfz k) ?_
       cases hrk:rndS V k
       · rw [hri,hrk] at hed
         simp only [Bool.and_false,Bool.false_eq_true,if_false,List.append_nil] at hed
         simp [-acells,-fin,-fin1,-fin2,-pl1,-pl2,-plain,-AV.atom,-getElem?_pos,h0,h3,h7,h46,h47,h48,h55,h56,h57,hb4]
         refine hRm _ _ ⟨by simp [h0],by simp [h3],by simp [h7],by simp [h46],by simp [h47],by simp [h48],by simp [h55],by simp [h56],by simp [h57];exact wr (by omega) (by omega),he,⟨td4,R4,clk4,by rw [hed];exact hB⟩,hkp⟩
       · rw [hri,hrk] at hed
         simp only [Bool.and_self,if_true] at hed
         obtain⟨v,v',T5,R5,clk5,k1,k2,k3,hB5⟩:=hB.edge hE5 i k
         have hm4:=hB.map
         simp only at hm4
         simp [-acells,-fin,-fin1,-fin2,-pl1,-pl2,-plain,-AV.atom,-getElem?_pos,h0,h3,h7,h46,h47,h48,h55,h56,h57,hb4]
         rw [kC_plan rfl]
         have k1':=fun T1=>k1 H4 hm4 T1
         have k3':=fun T1=>k3 H4 hm4 T1
         simp [-acells,-fin,-fin1,-fin2,-pl1,-pl2,-plain,-AV.atom,-getElem?_pos,clsB,h0,h3,h7,h46,h47,h48,h55,h56,h57,hb4,k1',k2,k3']
         refine hRm _ _ ⟨by simp [h0],by simp [h3],by simp [h7],by simp [h46],by simp [h47],by simp [h48],by simp [h55],by simp [h56],by simp [h57];exact wr (by omega) (by omega),?_,⟨td4,R5,clk5,by rw [hed,← List.append_assoc];exact hB5⟩,?_⟩
         · show (H4.set m _)[H.length]?=_
           rw [List.getElem?_set_ne (Ne.symm hBne.2)];exact he
         · refine⟨by simpa using hkp.1,fun q y hq hqB hqm=>?_⟩
           show (H4.set m _)[q]?=_
           rw [List.getElem?_set_ne (Ne.symm hqm)]
           exact hkp.2 q y hq hqB hqm
   · clear h0 h3 h46 h47 h48 hb2 hv2 hdv2 hnm2 hB hB3 he hkp
     rintro ev σ ⟨h0,h3,h7,h46,h47,h48,h55,h56,h57,he,hBx,hkp⟩
     simp [-acells,-fin,-fin1,-fin2,-pl1,-pl2,-plain,-AV.atom,-getElem?_pos,h0,h3,h7,h46,h47,h48,h55,h56,h57]
     refine hRl _ _ ⟨by simp [h0],by simp [h3],by simp [h46],by simp [h47],by simp [h48];exact wr (by omega) (by omega),he,?_,hkp⟩
     rw [hfm,← List.append_assoc,hE2]
     exact hBx
 · rintro ev σ ⟨h0,h3,h46,h47,h48,he,⟨td2,R2,clk2,hB⟩,hkp⟩
   simp [-acells,-fin,-fin1,-fin2,-pl1,-pl2,-plain,-AV.atom,-getElem?_pos,h47,h48]
   exact⟨⟨td2,R2,clk2,hB⟩,hkp⟩
end
end
theorem nodup_repS {α:Type} {nm:α→Str} {l:List α} (h:(l.map nm).Nodup):repS nm l=false:=by
 refine repS_no fun i k x y hx hy hk e=>?_
 rw [List.Nodup,List.pairwise_iff_getElem] at h
 obtain⟨hi,hx'⟩:=List.getElem?_eq_some_iff.1 hx
 obtain⟨hk',hy'⟩:=List.getElem?_eq_some_iff.1 hy
 refine h k i (by simpa using hk') (by simpa using hi) hk ?_
 simp [hx',hy',e]
theorem clsE_of {c:Cls} (h:ClsOk c):clsE c=0:=by
 unfold clsE
 rw [if_neg,if_neg,if_neg,if_neg,if_neg]
 · simp [nodup_repS h.fnd,nodup_repS h.bnd]
 · rw [List.any_eq_true]
   rintro⟨b,hb,h'⟩
   rw [h.blocks b hb] at h'
   cases h'
 · rw [Classical.not_not];exact firstE_zero.2 h.fields
 · have:=h.nf;have:=h.nb;omega
 · rintro (e|⟨e1,e2⟩)
   · rw [h.name] at e;cases e
   · rcases h.parent with p|p
     · exact e1 p
     · rw [p] at e2;cases e2
theorem putB_names {l:List Blc} {b:Blc} (h:(l.map Blc.name).Nodup):((putB l b).map Blc.name).Nodup:=by
 unfold putB
 have hf:=findI_ge (p:=fun y:Blc=>y.name==b.name) (l:=l) (i:=0) (by omega)
 split
 · rename_i h0
   have hr:=findI_range (p:=fun y:Blc=>y.name==b.name) (l:=l) (i:=0) (by omega) h0
   have hat:∀ (m:List Blc) (i:Int),0≤findI (fun y:Blc=>y.name==b.name) m i→0≤i→∃ y,m[(findI (fun y:Blc=>y.name==b.name) m i-i).toNat]?=some y∧y.name=b.name:=by
    intro m
    induction m with
    | nil=>intro i h;simp [findI] at h
    | cons a r ih=>
     intro i h hi
     simp only [findI] at h ⊢
     by_cases e:(a.name==b.name)=true
     · rw [if_pos e];exact⟨a,by simp,by simpa using e⟩
     · rw [if_neg e] at h ⊢
       obtain⟨y,hy,hn⟩:=ih (i+1) h (by omega)
       have:=findI_range (p:=fun y:Blc=>y.name==b.name) (l:=r) (i:=i+1) (by omega) h
       refine⟨y,?_,hn⟩
       have e2:(findI (fun y:Blc=>y.name==b.name) r (i+1)-i).toNat=(findI (fun y:Blc=>y.name==b.name) r (i+1)-(i+1)).toNat+1:=by omega
       rw [e2,List.getElem?_cons_succ]
       exact hy
   obtain⟨y,hy,hn⟩:=hat l 0 h0 (by omega)
   rw [Int.sub_zero] at hy
   generalize (findI (fun y:Blc=>y.name==b.name) l 0).toNat=k at hy
   have e:(l.set k b).map Blc.name=l.map Blc.name:=by
    rw [List.map_set,← hn]
    obtain⟨hk,hky⟩:=List.getElem?_eq_some_iff.1 hy
    apply List.ext_getElem?
    intro i
    rw [List.getElem?_set]
    split
    · rename_i hi;subst hi
      simp [hk,hky]
    · rfl
   rw [e];exact h
 · rename_i h0
   have hn:¬ l.any (fun y=>y.name==b.name)=true:=fun e=>h0 (hf.2 e)
   rw [List.map_append,List.nodup_append]
   refine⟨h,by simp,?_⟩
   rintro x hx y hy rfl
   simp only [List.map_cons,List.map_nil,List.mem_cons,List.not_mem_nil,or_false] at hy
   obtain⟨z,hz,hzn⟩:=List.mem_map.1 hx
   exact hn (List.any_eq_true.2 ⟨z,hz,by rw [hzn,hy];simp⟩)
theorem foldB_names:∀ {m:List Blc} {l:List Blc},(l.map Blc.name).Nodup→((m.foldl putB l).map Blc.name).Nodup
 | [],l,h=>h
 | b::r,l,h=>foldB_names (m:=r) (putB_names h)
theorem flatS_names:∀ {l:List Cls},(∀ c∈l,(c.fields.map Fld.name).Nodup)→(flatS l).2=false→((flatS l).1.fields.map Fld.name).Nodup
 | [],_,_=>by simp [flatS,zCls]
 | c::r,h,hc=>by
  have e:flatS (c::r)=extS c (flatS r):=rfl
  rw [e] at hc ⊢
  simp only [extS,Bool.or_eq_false_iff] at hc
  have ih:=flatS_names (l:=r) (fun x hx=>h x (by simp [hx])) hc.1
  simp only [extS,List.map_append]
  rw [List.nodup_append]
  refine⟨ih,h c (by simp),?_⟩
  rintro x hx y hy rfl
  obtain⟨f,hf,hfn⟩:=List.mem_map.1 hx
  obtain⟨g,hg,hgn⟩:=List.mem_map.1 hy
  have:clashB (flatS r).1.fields c.fields=true:=List.any_eq_true.2 ⟨g,hg,List.any_eq_true.2 ⟨f,hf,by rw [hfn,hgn];simp⟩⟩
  rw [this] at hc
  cases hc.2
theorem flatS_bnames:∀ (l:List Cls),((flatS l).1.blocks.map Blc.name).Nodup
 | []=>by simp [flatS,zCls]
 | c::r=>by
  have e:flatS (c::r)=extS c (flatS r):=rfl
  rw [e]
  exact foldB_names (flatS_bnames r)
theorem ancS_head {src:List Cls}:∀ {f:Nat} {c:Cls} {l:List Cls},ancS src f c=some l→∃ r,l=c::r
 | 0,c,l,h=>by
  simp only [ancS] at h
  split at h
  · cases h;exact⟨[],rfl⟩
  · cases h
 | f+1,c,l,h=>by
  simp only [ancS] at h
  split at h
  · cases h;exact⟨[],rfl⟩
  · obtain⟨m,_,rfl⟩:=Option.map_eq_some_iff.1 h
    exact⟨m,rfl⟩
structure SrcOk (src:List Cls):Prop where
 cls:∀ c∈src,ClsOk c
 names:∀ c∈src,c.parent=[]∨(findC src c.parent).isSome=true
 line:∀ c∈src,(ancS src src.length c).isSome=true
 clash:∀ c∈src,(flatS (lineD src c)).2=false
 small:∀ c∈src,largeB (flatS (lineD src c)).1=false
theorem checkS_zero {src:List Cls} (h:checkS src=0):SrcOk src:=by
 unfold checkS at h
 split at h
 · cases h
 split at h
 · rename_i hn;exact absurd h hn
 rename_i h2
 split at h
 · rename_i hn;exact absurd h hn
 rename_i h3
 split at h
 · cases h
 rename_i h4
 split at h
 · cases h
 rename_i h5
 split at h
 · cases h
 rename_i h6
 have h3:namesE src=0:=Classical.not_not.1 h3
 unfold namesE at h3
 split at h3
 · cases h3
 rename_i h7
 split at h3
 · cases h3
 rename_i h8
 refine⟨fun c hc=>clsE_zero (firstE_zero.1 (Classical.not_not.1 h2) c hc),fun c hc=>?_,fun c hc=>?_,fun c hc=>?_,fun c hc=>?_⟩
 · by_cases hp:c.parent=[]
   · exact .inl hp
   · right
     cases e:findC src c.parent with
     | some x=>rfl
     | none=>exact absurd (List.any_eq_true.2 ⟨c,hc,by simp [hp,e]⟩) h8
 · cases e:ancS src src.length c with
   | some x=>rfl
   | none=>exact absurd (List.any_eq_true.2 ⟨c,hc,by simp [e]⟩) h4
 · cases e:(flatS (lineD src c)).2 with
   | false=>rfl
   | true=>exact absurd (List.any_eq_true.2 ⟨c,hc,e⟩) h5
 · cases e:largeB (flatS (lineD src c)).1 with
   | false=>rfl
   | true=>exact absurd (List.any_eq_true.2 ⟨c,hc,e⟩) h6
theorem ancS_in {src:List Cls} (hs:∀ c∈src,c.parent=[]∨(findC src c.parent).isSome=true):∀ {f:Nat} {c:Cls} {l:List Cls},c∈src→ancS src f c=some l→∀ x∈l,x∈src
 | 0,c,l,hc,h,x,hx=>by
  simp only [ancS] at h
  split at h
  · cases h;simp at hx;subst hx;exact hc
  · cases h
 | f+1,c,l,hc,h,x,hx=>by
  simp only [ancS] at h
  split at h
  · cases h;simp at hx;subst hx;exact hc
  · rename_i hp
    obtain⟨m,hm,rfl⟩:=Option.map_eq_some_iff.1 h
    rcases List.mem_cons.1 hx with rfl|hx
    · exact hc
    · have:=(hs c hc).resolve_left hp
      refine ancS_in hs ?_ hm x hx
      unfold findD
      cases e:findC src c.parent with
      | none=>rw [e] at this;cases this
      | some y=>exact List.mem_of_find?_eq_some e
theorem flat_ok {src:List Cls} {name:Str} (h:lineE src name=0):ClsOk (flattenS src name):=by
 have hne:flattenS src name=(flatS (lineS src name)).1:=by unfold flattenS;rw [if_neg (by simp [h])]
 have hl:lineS src name=lineD src (findD src name):=by unfold lineS;rw [if_neg (by simp [h])]
 unfold lineE at h
 split at h
 · rename_i hn;exact absurd h hn
 rename_i hc
 split at h
 · cases h
 rename_i hf
 have hs:=checkS_zero (Classical.not_not.1 hc)
 have hfs:∃ c,findC src name=some c:=by
  cases e:findC src name with
  | none=>rw [e] at hf;simp at hf
  | some c=>exact⟨c,rfl⟩
 obtain⟨c,hfc⟩:=hfs
 have hcm:c∈src:=List.mem_of_find?_eq_some hfc
 have hd:findD src name=c:=by unfold findD;rw [hfc];rfl
 rw [hd] at hl
 have hsm:=hs.line c hcm
 cases ha:ancS src src.length c with
 | none=>rw [ha] at hsm;cases hsm
 | some l=>
  have hld:lineD src c=l:=by unfold lineD;rw [ha];rfl
  have hin:=ancS_in hs.names hcm ha
  obtain⟨r,rfl⟩:=ancS_head ha
  have hcl:=hs.clash c hcm
  have hsl:=hs.small c hcm
  rw [hld] at hl hcl hsl
  rw [hne,hl]
  have e:flatS (c::r)=extS c (flatS r):=rfl
  simp only [largeB,Bool.or_eq_false_iff,decide_eq_false_iff_not] at hsl
  refine⟨?_,.inl (flatS_parent _),by omega,by omega,fun f hf=>?_,fun b hb=>?_,flatS_names (fun x hx=>(hs.cls x (hin x hx)).fnd) hcl,flatS_bnames _⟩
  · rw [e];exact (hs.cls c hcm).name
  · obtain⟨d,hd,hfd⟩:=flatS_fields hf
    exact (hs.cls d (hin d hd)).fields f hfd
  · obtain⟨d,hd,hbd⟩:=flatS_blocks hb
    exact (hs.cls d (hin d hd)).blocks b hbd
theorem varsC_eq {c:Cls} (h:ClsOk c):varsC c=c.fields.flatMap varsF:=by unfold varsC;rw [if_neg (by simp [clsE_of h])]
theorem mem_varsC {c:Cls} (h:ClsOk c) {v:Var}:v∈varsC c↔∃ f∈c.fields,(f.size=0∧v=⟨f.name,f.width,f.mode,f.init⟩)∨∃ i:Nat,(i:Int)<f.size∧v=⟨elemS f.name i,f.width,f.mode,f.init⟩:=by
 rw [varsC_eq h,List.mem_flatMap]
 constructor
 · rintro⟨f,hf,hv⟩
   refine⟨f,hf,?_⟩
   unfold varsF at hv
   rcases List.mem_append.1 hv with hv|hv
   · split at hv
     · rename_i h0;simp at hv;exact .inl ⟨h0,hv⟩
     · cases hv
   · obtain⟨i,hi,rfl⟩:=List.mem_map.1 hv
     have:=List.mem_range.1 hi
     exact .inr ⟨i,by omega,rfl⟩
 · rintro⟨f,hf,⟨h0,rfl⟩|⟨i,hi,rfl⟩⟩
   · exact⟨f,hf,by unfold varsF;simp [h0]⟩
   · refine⟨f,hf,?_⟩
     unfold varsF
     exact List.mem_append.2 (.inr (List.mem_map.2 ⟨i,List.mem_range.2 (by omega),rfl⟩))
theorem varsC_name {c:Cls} (h:ClsOk c):∀ v∈varsC c,varS v.name=true:=by
 intro v hv
 obtain⟨f,hf,⟨h0,rfl⟩|⟨i,hi,rfl⟩⟩:=(mem_varsC h).1 hv
 · have:=(fieldE_zero (h.fields f hf)).name
   simp [varS,this]
 · have hk:=fieldE_zero (h.fields f hf)
   have:elemO (elemS f.name i)=some (f.name,i):=elemO_eq ⟨by have:=hk.s8;omega,hk.name,rfl⟩
   simp [varS,this]
theorem fldsOf_mem {c:Cls} (h:ClsOk c) {f:Fld} (hf:f∈c.fields):fldsOf c f.name=some f.size:=by
 unfold fldsOf
 have hnd:=h.fnd
 generalize c.fields=l at hf hnd
 induction l with
 | nil=>cases hf
 | cons a r ih=>
  simp only [List.map_cons,List.nodup_cons] at hnd
  rcases List.mem_cons.1 hf with rfl|hf
  · simp
  · have:¬ a.name=f.name:=fun e=>hnd.1 (by rw [e];exact List.mem_map.2 ⟨f,hf,rfl⟩)
    have hb:(a.name==f.name)=false:=by simpa using this
    rw [List.find?_cons,hb]
    exact ih hf hnd.2
theorem fldsOf_some {c:Cls} {a:Str} {n:Int} (h:fldsOf c a=some n):∃ f∈c.fields,f.name=a∧f.size=n:=by
 unfold fldsOf at h
 obtain⟨f,hf,rfl⟩:=Option.map_eq_some_iff.1 h
 exact⟨f,List.mem_of_find?_eq_some hf,by simpa using List.find?_some hf,rfl⟩
theorem hasV_mem {l:List Var} {s:Str}:hasV l s=true↔∃ v∈l,v.name=s:=by
 unfold hasV
 rw [List.any_eq_true]
 simp
theorem hasV_elem {c:Cls} (h:ClsOk c) {a:Str} (ha:nameS a=true) {i:Nat} (hi:i<8):hasV (varsC c) (elemS a i)=true↔∃ f∈c.fields,f.name=a∧(i:Int)<f.size:=by
 rw [hasV_mem]
 constructor
 · rintro⟨v,hv,hn⟩
   obtain⟨f,hf,⟨h0,rfl⟩|⟨j,hj,rfl⟩⟩:=(mem_varsC h).1 hv
   · have hk:=(fieldE_zero (h.fields f hf)).name
     simp only at hn
     rw [hn,name_no91] at hk;cases hk
   · have hk:=fieldE_zero (h.fields f hf)
     obtain⟨e1,e2⟩:=elemS_inj (by have:=hk.s8;omega) hi hn
     exact⟨f,hf,e1,by omega⟩
 · rintro⟨f,hf,rfl,hi⟩
   exact⟨_,(mem_varsC h).2 ⟨f,hf,.inr ⟨i,hi,rfl⟩⟩,rfl⟩
theorem hasV_name {c:Cls} (h:ClsOk c) {a:Str} (ha:nameS a=true):hasV (varsC c) a=true↔∃ f∈c.fields,f.name=a∧f.size=0:=by
 rw [hasV_mem]
 constructor
 · rintro⟨v,hv,hn⟩
   obtain⟨f,hf,⟨h0,rfl⟩|⟨j,hj,rfl⟩⟩:=(mem_varsC h).1 hv
   · exact⟨f,hf,hn,h0⟩
   · simp only at hn
     rw [← hn,name_no91] at ha;cases ha
 · rintro⟨f,hf,rfl,h0⟩
   exact⟨_,(mem_varsC h).2 ⟨f,hf,.inl ⟨h0,rfl⟩⟩,rfl⟩
theorem size_flds {c:Cls} (h:ClsOk c) {a:Str} (ha:nameS a=true):(fldsOf c a).getD 0=(sizeA (varsC c) a:Int):=by
 cases hF:fldsOf c a with
 | none=>
  have:sizeA (varsC c) a=0:=sizeA_of (by omega) (by omega) fun _=>by
   rw [Bool.eq_false_iff]
   intro e
   obtain⟨f,hf,hn,_⟩:=(hasV_elem h ha (by omega)).1 e
   have:=fldsOf_mem h hf
   rw [hn,hF] at this;cases this
  rw [this];rfl
 | some n=>
  obtain⟨f,hf,rfl,rfl⟩:=fldsOf_some hF
  have hk:=fieldE_zero (h.fields f hf)
  have hs0:=hk.s0
  have hs8:=hk.s8
  have:sizeA (varsC c) f.name=f.size.toNat:=sizeA_of (by omega) (fun j hj=>(hasV_elem h ha (by omega)).2 ⟨f,hf,rfl,by omega⟩) fun h8=>by
   rw [Bool.eq_false_iff]
   intro e
   obtain⟨g,hg,hn,hlt⟩:=(hasV_elem h ha (by omega)).1 e
   have h1:=fldsOf_mem h hg
   have h2:=fldsOf_mem h hf
   rw [hn,h2] at h1
   have:=Option.some.inj h1
   omega
  rw [this]
  show f.size=_
  omega
section
theorem foldMax_le {α:Type} (g:α→Nat) (n:Nat):∀ (l:List α) (a:Nat),l.foldl (fun m e=>max m (g e)) a≤n↔a≤n∧∀ e∈l,g e≤n
 | [],a=>by simp
 | x::l,a=>by
  rw [List.foldl_cons,foldMax_le g n l]
  simp only [List.mem_cons,forall_eq_or_imp]
  rw [← and_assoc]
  refine and_congr_left fun _=>?_
  show max a (g x)≤n↔_
  omega
variable {E:List (Int×Int)}
theorem chainL_le {f:Nat} {i:Int} {n:Nat}:chainL E (f+1) i≤n↔∀ e∈E,e.1=i→chainL E f e.2+1≤n:=by
 rw [show chainL E (f+1) i=(E.filter fun e=>e.1==i).foldl (fun n e=>max n (chainL E f e.2+1)) 0 from rfl,foldMax_le (fun e:Int×Int=>chainL E f e.2+1)]
 constructor
 · rintro⟨_,h⟩ e he rfl
   exact h e (List.mem_filter.2 ⟨he,by simp⟩)
 · intro h
   exact⟨Nat.zero_le _,fun e he=>by
    obtain⟨h1,h2⟩:=List.mem_filter.1 he
    exact h e h1 (by simpa using h2)⟩
theorem chainL_ge {f:Nat} {e:Int×Int} (he:e∈E):chainL E f e.2+1≤chainL E (f+1) e.1:=chainL_le.1 (Nat.le_refl _) e he rfl
theorem chainL_ex {f:Nat} {i:Int} {n:Nat} (h:n+1≤chainL E (f+1) i):∃ e∈E,e.1=i∧n≤chainL E f e.2:=by
 apply Classical.byContradiction
 intro hn
 have:chainL E (f+1) i≤n:=chainL_le.2 fun e he h1=>by
  have:¬ n≤chainL E f e.2:=fun h2=>hn ⟨e,he,h1,h2⟩
  omega
 omega
theorem chainL_mono:∀ (f:Nat) (i:Int),chainL E f i≤chainL E (f+1) i
 | 0,i=>Nat.zero_le _
 | f+1,i=>chainL_le.2 fun e he h=>by
  subst h
  have:=chainL_mono f e.2
  have:=chainL_ge (E:=E) (f:=f+1) he
  omega
theorem chainL_mono' {f g:Nat} (h:f≤g) (i:Int):chainL E f i≤chainL E g i:=by
 induction h with
 | refl=>exact Nat.le_refl _
 | step _ ih=>exact Nat.le_trans ih (chainL_mono _ i)
theorem chainL_new:∀ (f:Nat) (i:Int),chainL E f i<chainL E (f+1) i→chainL E (f+1) i=f+1
 | 0,i,h=>by
  have h0:chainL E 1 i≤1:=chainL_le.2 fun e he _=>by simp [chainL]
  have:chainL E 0 i=0:=rfl
  rw [Nat.zero_add] at h ⊢
  omega
 | f+1,i,h=>by
  obtain⟨n,hn⟩:∃ n,chainL E (f+1+1) i=n+1:=⟨chainL E (f+1+1) i-1,by omega⟩
  obtain⟨e,he,rfl,h2⟩:=chainL_ex (E:=E) (f:=f+1) (n:=n) (i:=i) (by omega)
  have h3:=chainL_ge (E:=E) (f:=f) he
  have h4:=chainL_ge (E:=E) (f:=f+1) he
  have h5:=chainL_new f e.2 (by omega)
  omega
def Falls (E:List (Int×Int)) (lv:Int→Int):Prop:=(∀ i,0≤lv i)∧∀ e∈E,lv e.2<lv e.1
theorem Falls.ge {lv:Int→Int} (h:Falls E lv):∀ (f:Nat) (i:Int),(chainL E f i:Int)≤lv i
 | 0,i=>h.1 i
 | f+1,i=>by
  cases hn:chainL E (f+1) i with
  | zero=>exact h.1 i
  | succ n=>
   obtain⟨e,he,rfl,h2⟩:=chainL_ex (E:=E) (f:=f) (n:=n) (i:=i) (by omega)
   have:=Falls.ge h f e.2
   have:=h.2 e he
   omega
theorem Falls.path {lv:Int→Int} (h:Falls E lv):∀ (f n:Nat) (i:Int),n≤chainL E f i→∃ p:List Int,p.length=n∧p.Nodup∧(∀ x∈p,lv x≤lv i∧∃ e∈E,e.1=x)
 | _,0,i,_=>⟨[],rfl,by simp,by simp⟩
 | 0,n+1,i,hn=>by simp [chainL] at hn
 | f+1,n+1,i,hn=>by
  obtain⟨e,he,rfl,h2⟩:=chainL_ex hn
  obtain⟨p,h3,h4,h5⟩:=Falls.path h f n e.2 h2
  have hlt:=h.2 e he
  refine⟨e.1::p,by simp [h3],List.nodup_cons.2 ⟨fun hm=>?_,h4⟩,fun x hx=>?_⟩
  · have:=(h5 _ hm).1;omega
  · rcases List.mem_cons.1 hx with rfl|hx
    · exact⟨Int.le_refl _,e,he,rfl⟩
    · obtain⟨a,b⟩:=h5 x hx
      exact⟨by omega,b⟩
theorem nodup_below:∀ (n:Nat) (p:List Int),p.Nodup→(∀ x∈p,0≤x∧x<n)→p.length≤n
 | 0,p,_,h=>by
  cases p with
  | nil=>simp
  | cons a l=>have:=h a (by simp);omega
 | n+1,p,hd,h=>by
  have ih:=nodup_below n (p.erase (n:Int)) (hd.erase _) fun x hx=>by
   obtain⟨h1,h2⟩:=(List.Nodup.mem_erase_iff hd).1 hx
   have:=h x h2
   omega
  have:=List.length_erase (a:=(n:Int)) (l:=p)
  split at this<;>omega
def Below (E:List (Int×Int)) (n:Nat):Prop:=∀ e∈E,(0≤e.1∧e.1<n)∧0≤e.2∧e.2<n
theorem Falls.fix {lv:Int→Int} (h:Falls E lv) {n:Nat} (hb:Below E n) (i:Int):chainL E (n+1) i=chainL E n i:=by
 have hm:=chainL_mono (E:=E) n i
 apply Classical.byContradiction
 intro hne
 have h1:=chainL_new (E:=E) n i (by omega)
 obtain⟨p,h2,h3,h4⟩:=h.path (n+1) (n+1) i (by omega)
 have:=nodup_below n p h3 fun x hx=>by
  obtain⟨_,e,he,rfl⟩:=h4 x hx
  exact (hb e he).1
 omega
theorem Falls.acyc {lv:Int→Int} (h:Falls E lv) {n:Nat} (hb:Below E n):acyc E n=true:=by
 unfold Proofs.YtpgcmnabljandaaGreatDoor.acyc
 rw [List.all_eq_true]
 intro e he
 have h1:=chainL_ge (E:=E) (f:=n) he
 rw [h.fix hb e.1] at h1
 exact decide_eq_true (by omega)
theorem acyc_lt {n:Nat} (h:acyc E n=true) {e:Int×Int} (he:e∈E):chainL E n e.2<chainL E n e.1:=by
 unfold acyc at h
 exact of_decide_eq_true (List.all_eq_true.1 h e he)
structure Rnd (E:List (Int×Int)) (N r:Nat) (lv:Int→Int):Prop where
 lo:∀ i,(chainL E r i:Int)≤lv i
 hi:acyc E N=true→∀ i,lv i≤(chainL E N i:Int)
theorem Rnd.nn {N r:Nat} {lv:Int→Int} (h:Rnd E N r lv) (i:Int):0≤lv i:=by have:=h.lo i;omega
theorem Rnd.init (N:Nat):Rnd E N 0 fun _=>0:=⟨fun i=>by simp [chainL],fun _ i=>by omega⟩
structure Mid (E:List (Int×Int)) (N r:Nat) (lv0:Int→Int) (d:Int×Int→Prop) (lv:Int→Int) (ch:Bool):Prop where
 rnd:Rnd E N r lv
 up:∀ e∈E,d e→(chainL E r e.2:Int)+1≤lv e.1
 same:ch=false→∀ e∈E,d e→lv e.2<lv e.1
 last:acyc E N=true→N≤r→ch=false
theorem Mid.keep {N r:Nat} {lv0 lv:Int→Int} {d d':Int×Int→Prop} {ch:Bool} (h:Mid E N r lv0 d lv ch) {e:Int×Int} (hlt:lv e.2<lv e.1) (hd:∀ x,d' x→d x∨x=e):Mid E N r lv0 d' lv ch:=by
 refine⟨h.rnd,fun x hx hdx=>?_,fun hc x hx hdx=>?_,h.last⟩
 · rcases hd x hdx with h1|rfl
   · exact h.up x hx h1
   · have:=h.rnd.lo x.2;omega
 · rcases hd x hdx with h1|rfl
   · exact h.same hc x hx h1
   · exact hlt
theorem Mid.raise {N r:Nat} {lv0 lv:Int→Int} {d d':Int×Int→Prop} {ch:Bool} (h:Mid E N r lv0 d lv ch) {e:Int×Int} (he:e∈E) (hle:lv e.1≤lv e.2) (hd:∀ x,d' x→d x∨x=e):Mid E N r lv0 d' (fun j=>if j=e.1 then lv e.2+1 else lv j) true:=by
 have hge:∀ j,lv j≤(if j=e.1 then lv e.2+1 else lv j):=fun j=>by
  split
  · rename_i q;subst q;omega
  · omega
 refine⟨⟨fun i=>Int.le_trans (h.rnd.lo i) (hge i),fun ha i=>?_⟩,fun x hx hdx=>?_,?_,fun ha hn=>?_⟩
 · have hl:=acyc_lt ha he
   have h2:=h.rnd.hi ha e.2
   split
   · rename_i q;subst q;omega
   · exact h.rnd.hi ha i
 · rcases hd x hdx with h1|rfl
   · exact Int.le_trans (h.up x hx h1) (hge _)
   · have:=h.rnd.lo x.2
     rw [if_pos rfl];omega
 · intro hc;cases hc
 · exfalso
   have hl:=acyc_lt ha he
   have h1:=h.rnd.lo e.1
   have h2:=h.rnd.hi ha e.2
   have h3:=chainL_mono' (E:=E) hn e.1
   omega
theorem Mid.next {N r:Nat} {lv0 lv:Int→Int} {d:Int×Int→Prop} {ch:Bool} (h:Mid E N r lv0 d lv ch) (hd:∀ e∈E,d e):Rnd E N (r+1) lv:=by
 refine⟨fun i=>?_,h.rnd.hi⟩
 cases hn:chainL E (r+1) i with
 | zero=>exact h.rnd.nn i
 | succ n=>
  obtain⟨e,he,rfl,h2⟩:=chainL_ex (E:=E) (f:=r) (n:=n) (i:=i) (by omega)
  have:=h.up e he (hd e he)
  omega
theorem Mid.done {N r:Nat} {lv0 lv:Int→Int} {d:Int×Int→Prop} (h:Mid E N r lv0 d lv false) (hd:∀ e∈E,d e) (hb:Below E N):acyc E N=true∧∀ i,lv i=chainL E N i:=by
 have hf:Falls E lv:=⟨h.rnd.nn,fun e he=>h.same rfl e he (hd e he)⟩
 have ha:=hf.acyc hb
 exact⟨ha,fun i=>by
  have:=hf.ge N i
  have:=h.rnd.hi ha i
  omega⟩
theorem Mid.cyc {N r:Nat} {lv0 lv:Int→Int} {d:Int×Int→Prop} (h:Mid E N r lv0 d lv true) (hn:N≤r):acyc E N=false:=by
 cases ha:acyc E N with
 | false=>rfl
 | true=>cases h.last ha hn
end
end Go.Proofs.YtpgcmnabljandaaGreatDoor
end
