/- A part of the proof: Walk56 Walk57 Walk58 Walk59. -/
import Derived.Test.YtpgcmnabljandaaGreatDoorGa29
import Derived.Test.YtpgcmnabljandaaGreatDoorGa26
import Derived.Test.YtpgcmnabljandaaGreatDoorGa27
import Derived.Test.YtpgcmnabljandaaGreatDoorGa14
set_option linter.unusedVariables false
set_option linter.unusedSimpArgs false
set_option maxRecDepth 100000
section
namespace Go.Proofs.YtpgcmnabljandaaGreatDoor
open Go Go.Abs
theorem expression261:∀ e,Slim e→Pure Tryz.prog GG 261 [.agg (encE e)] (.agg (encE e)):=by
 refine Ex.ind fun e ih hs=>?_
 refine Pure.k mixed Tryz.func261 rfl (by kernel_rfl) ?_
 have hfa:=hs.self
 simp [-acells,-fin,-fin1,-fin2,-pl1,-pl2,-plain,-AV.atom,encE_eq e]
 refine kLoop.list e.args (fun d ev σ=>ev 1=.ptr 0 0∧ev 2=.ptr 1 0∧ev 3=outC 4 encE 0 d∧ev 7=.sl 4 (e.args.map encE) .none∧ev 8=.int .i64 e.args.length∧ev 9=.int .i64 d.length∧∃ t,σ=⟨.cells (encE e)::.cells [.int .i64 0,.int .i64 0,.str [],.sl 0 [] .nil]::t,outCT [] d⟩) (by simp [encE_eq e]) ?_ ?_
 · rintro d a r ev σ hd hv hlt ⟨h1,h2,h3,h7,h8,h9,⟨t,rfl⟩⟩
   have hv':=(List.getElem?_eq_some_iff.1 hv).2
   have hm:=List.mem_of_getElem? hv
   have ih:=ih a hm (hs.arg hm)
   have happ:∀ H,appendA (Dof Tryz.prog) ⟨H,outCT [] d⟩ 32 (outC 4 encE 0 d) (.sl 4 [encE a] .tight)=some (outC 4 encE 0 (d++[a]),⟨H,outCT [] (d++[a])⟩):=fun H=>
    append_outC (sz:=4) (T:=[]) (m:=[a]) D32 rfl D55 rfl (by omega) rfl (by decide) (by simp;omega) 4 (.inl rfl)
   rw [encE_eq a] at happ ih
   simp [-acells,-fin,-fin1,-fin2,-pl1,-pl2,-plain,-AV.atom,h1,h2,h3,h7,h8,h9,hlt,hv',encE_eq a]
   refine kCall.call ih (by simp) ?_
   simp [-acells,-fin,-fin1,-fin2,-pl1,-pl2,-plain,-AV.atom,h1,h2,h3,h7,h8,h9,happ]
   exact wr (by omega) (by omega)
 · rintro ev σ ⟨h1,h2,h3,h7,h8,h9,⟨t,rfl⟩⟩
   simp [-acells,-fin,-fin1,-fin2,-pl1,-pl2,-plain,-AV.atom,h1,h2,h3,h7,h8,h9,encE_eq e]
theorem clone106 (l:List Weight) (hl:l.length≤1000000):Pure Tryz.prog GG 106 [.sl 4 (l.map encWeight) .none] (.sl 4 (l.map encWeight) .none):=by
 refine Pure.k mixed Tryz.func106 rfl (by kernel_rfl) ?_
 cases l with
 | nil=>simp [appendA]
 | cons a r=>
  have hb:r.length+1≤1073741824:=by simp at hl;omega
  simp [-acells,-fin,-fin1,-fin2,-pl1,-pl2,-plain,-AV.atom,appendA,hb]
theorem clone245 (l:List Str) (hl:l.length≤1000000):Pure Tryz.prog GG 245 [.sl 1 (l.map encStr) .none] (.sl 1 (l.map encStr) .none):=by
 refine Pure.k mixed Tryz.func245 rfl (by kernel_rfl) ?_
 cases l with
 | nil=>simp [appendA]
 | cons a r=>
  have hb:r.length+1≤1073741824:=by simp at hl;omega
  simp [-acells,-fin,-fin1,-fin2,-pl1,-pl2,-plain,-AV.atom,appendA,hb]
structure Low1 (x:It):Prop where
 slim:Slim x.expr
 wen:Wen x.expr
 ws:x.ws.length≤1000
 items:x.items.length≤1000
 els:x.els.length≤1000
 before:x.before.length≤1000
 after:x.after.length≤1000
def LowI (x:It):Prop:=∀ y∈preI x,Low1 y
theorem LowI.self {x:It} (h:LowI x):Low1 x:=h x (by rw [preI_eq];simp)
theorem LowI.item {x y:It} (h:LowI x) (hy:y∈x.items):LowI y:=fun z hz=>h z (by rw [preI_eq];exact List.mem_cons_of_mem _ (List.mem_append_left _ (mem_preIL.2 ⟨y,hy,hz⟩)))
theorem LowI.els {x y:It} (h:LowI x) (hy:y∈x.els):LowI y:=fun z hz=>h z (by rw [preI_eq];exact List.mem_cons_of_mem _ (List.mem_append_right _ (mem_preIL.2 ⟨y,hy,hz⟩)))
set_option maxHeartbeats 4000000 in
theorem items194L (l:List It) (hl:l.length≤1000) (h:∀ x∈l,Low1 x∧Pure Tryz.prog GG 194 [.sl 12 (x.items.map encI) .none] (.sl 12 (x.items.map encI) .none)∧Pure Tryz.prog GG 194 [.sl 12 (x.els.map encI) .none] (.sl 12 (x.els.map encI) .none)) :
 Pure Tryz.prog GG 194 [.sl 12 (l.map encI) .none] (.sl 12 (l.map encI) .none):=by
 refine Pure.k mixed Tryz.func194 rfl (by kernel_rfl) ?_
 simp [-acells,-fin,-fin1,-fin2,-pl1,-pl2,-plain,-AV.atom]
 refine kLoop.list l (fun d ev σ=>ev 3=outC 12 encI 0 d∧ev 6=.sl 12 (l.map encI) .none∧ev 7=.int .i64 l.length∧ev 8=.int .i64 d.length∧∃ t,σ=⟨t,outCT [] d⟩) (by simp) ?_ ?_
 · rintro d v r ev σ hd hv hlt ⟨h3,h6,h7,h8,⟨t,rfl⟩⟩
   have hv':=(List.getElem?_eq_some_iff.1 hv).2
   obtain⟨lo,p1,p2⟩:=h v (List.mem_of_getElem? hv)
   have hx:=expression261 v.expr lo.slim
   have hw:=clone106 v.ws (by have:=lo.ws;omega)
   have hb:=clone245 v.before (by have:=lo.before;omega)
   have ha:=clone245 v.after (by have:=lo.after;omega)
   have happ:∀ H,appendA (Dof Tryz.prog) ⟨H,outCT [] d⟩ 24 (outC 12 encI 0 d) (.sl 12 [encI v] .tight)=some (outC 12 encI 0 (d++[v]),⟨H,outCT [] (d++[v])⟩):=fun H=>
    append_outC (sz:=12) (T:=[]) (m:=[v]) D24 rfl D68 rfl (by omega) rfl (by decide) (by simp;omega) 12 (.inl rfl)
   simp only [encI_eq,encE_eq,List.cons_append,List.nil_append] at happ
   rw [encE_eq] at hx
   simp [-acells,-fin,-fin1,-fin2,-pl1,-pl2,-plain,-AV.atom,h3,h6,h7,h8,hlt,hv',encI_eq,encE_eq]
   refine kCall.call hx (by simp) ?_
   simp [-acells,-fin,-fin1,-fin2,-pl1,-pl2,-plain,-AV.atom]
   refine kCall.call hw (by simp) ?_
   simp [-acells,-fin,-fin1,-fin2,-pl1,-pl2,-plain,-AV.atom]
   refine kCall.call p1 (by simp) ?_
   simp [-acells,-fin,-fin1,-fin2,-pl1,-pl2,-plain,-AV.atom]
   refine kCall.call p2 (by simp) ?_
   simp [-acells,-fin,-fin1,-fin2,-pl1,-pl2,-plain,-AV.atom]
   refine kCall.call hb (by simp) ?_
   simp [-acells,-fin,-fin1,-fin2,-pl1,-pl2,-plain,-AV.atom]
   refine kCall.call ha (by simp) ?_
   simp [happ,h3,h6,h7,h8]
   exact wr (by omega) (by omega)
 · rintro ev σ ⟨h3,h6,h7,h8,⟨t,rfl⟩⟩
   simp [-acells,-fin,-fin1,-fin2,-pl1,-pl2,-plain,-AV.atom,h3,h7,h8]
theorem items194x:∀ x,LowI x→Pure Tryz.prog GG 194 [.sl 12 (x.items.map encI) .none] (.sl 12 (x.items.map encI) .none)∧Pure Tryz.prog GG 194 [.sl 12 (x.els.map encI) .none] (.sl 12 (x.els.map encI) .none) :=
 It.ind fun x h1 h2 hl=>⟨items194L x.items hl.self.items fun y hy=>⟨(hl.item hy).self,h1 y hy (hl.item hy)⟩,items194L x.els hl.self.els fun y hy=>⟨(hl.els hy).self,h2 y hy (hl.els hy)⟩⟩
theorem items194 (l:List It) (hl:l.length≤1000) (h:∀ x∈l,LowI x):Pure Tryz.prog GG 194 [.sl 12 (l.map encI) .none] (.sl 12 (l.map encI) .none) :=
 items194L l hl fun x hx=>⟨(h x hx).self,items194x x (h x hx)⟩
theorem same193 (x y:Fld):Pure Tryz.prog GG 193 [.agg (encFld y),.rptr (encFld x)] (.bool (y.name==x.name)):=by
 refine Pure.k mixed Tryz.func193 rfl (by kernel_rfl) ?_
 simp
theorem same195 (x y:Blc):Pure Tryz.prog GG 195 [.agg (encBlc y),.rptr (encBlc x)] (.bool (y.name==x.name)):=by
 refine Pure.k mixed Tryz.func195 rfl (by kernel_rfl) ?_
 simp
def plans122:List (Nat×Sch×List Nat):=[(7,.step 0 [12,11,10,9] (.step 1 [12,11,10,9,8,5,4,3,2] (.step 2 [12,11,10,9,8,5,4,3] (.step 3 [12,11,10,9,8,5,4] (.step 4 [12,11,10,9,8,5] (.step 5 [12,11,10,9,8] (.step 6 [12,11,10,9,8,7] (.step 7 [12,11,10,9,8] (.step 8 [12,11,10,9] (.step 9 [12,11,10] (.step 10 [12,11] (.step 11 [12] (.step 12 [] (.done))))))))))))),[]),(14,.step 0 [8,7,4,3,2,1] (.step 1 [8,7,4,3,2] (.step 2 [8,7,4,3] (.step 3 [8,7,4] (.step 4 [8,7] (.step 5 [8,7] (.step 6 [8,7] (.step 7 [8] (.step 8 [] (.done))))))))),[]),(15,.step 0 [12,11,10,9] (.step 1 [12,11,10,9,8,5,4,3,2] (.step 2 [12,11,10,9,8,5,4,3] (.step 3 [12,11,10,9,8,5,4] (.step 4 [12,11,10,9,8,5] (.step 5 [12,11,10,9,8] (.step 6 [12,11,10,9,8,7] (.step 7 [12,11,10,9,8] (.step 8 [12,11,10,9] (.step 9 [12,11,10] (.step 10 [12,11] (.step 11 [12] (.step 12 [] (.done))))))))))))),[])]
def FlatAt (H:List Blk) (b fb bb:Nat) (s:Cls×Bool):Prop :=
 ∃ fv bv,H[b]?=some (.cells [.str s.1.name,.str s.1.parent,fv,bv,.bool s.2])∧OwnAt fb 5 encFld H fv s.1.fields∧OwnAt bb 2 encBlc H bv s.1.blocks
theorem fld1 {l:List Fld} (h:l≠[]):∃ n,(l.flatMap encFld)[1]?=some (.int .i64 n):=by
 match l,h with
 | f::r,_=>exact⟨f.width,by simp⟩
theorem blc1 {l:List Blc} (h:l≠[]):∃ n,(l.flatMap encBlc)[1]?=some (.sl 12 n .none):=by
 match l,h with
 | f::r,_=>exact⟨f.items.map encI,by simp⟩
theorem ne_fld {H:List Blk} {b fb:Nat} {n p:Str} {x y z fv:AV} {l:List Fld} (hb:H[b]?=some (.cells [.str n,.str p,x,y,z])) (hf:OwnAt fb 5 encFld H fv l) (hl:l≠[]):fb≠b:=by
 obtain⟨m,hm⟩:=fld1 hl
 refine blk_ne (hf.at hl).2 hb ?_
 rw [hm];simp
theorem ne_blc {H:List Blk} {b fb:Nat} {n p:Str} {x y z fv:AV} {l:List Blc} (hb:H[b]?=some (.cells [.str n,.str p,x,y,z])) (hf:OwnAt fb 2 encBlc H fv l) (hl:l≠[]):fb≠b:=by
 obtain⟨m,hm⟩:=blc1 hl
 refine blk_ne (hf.at hl).2 hb ?_
 rw [hm];simp
theorem ne_fb {H:List Blk} {fb bb:Nat} {fv bv:AV} {l:List Fld} {k:List Blc} (hf:OwnAt fb 5 encFld H fv l) (hb:OwnAt bb 2 encBlc H bv k) (hl:l≠[]) (hk:k≠[]):fb≠bb:=by
 obtain⟨m,hm⟩:=fld1 hl
 obtain⟨m',hm'⟩:=blc1 hk
 refine blk_ne (hf.at hl).2 (hb.at hk).2 ?_
 rw [hm,hm'];simp
def Fr3 (H:List Blk) (b fb bb:Nat) (s:Cls×Bool) (H':List Blk):Prop:=H.length≤H'.length∧∀ (k:Nat) (x:Blk),H[k]?=some x→k≠b→(s.1.fields=[]∨k≠fb)→(s.1.blocks=[]∨k≠bb)→H'[k]?=some x
set_option maxHeartbeats 8000000 in
theorem extend122 (c:Cls) (s:Cls×Bool) (σ:St) (b fb bb:Nat) (hfl:c.fields.length+s.1.fields.length≤100000) (hbl:c.blocks.length+s.1.blocks.length≤100000) (hit:∀ x∈c.blocks,x.items.length≤1000∧∀ y∈x.items,LowI y)
 (hs:FlatAt σ.H b fb bb s):ACall Tryz.prog GG 122 [.ptr b 0,.agg (encCls c)] σ (fun _ σ'=>∃ fb' bb',FlatAt σ'.H b fb' bb' (extS c s)∧Fr3 σ.H b fb bb s σ'.H∧σ'.T=σ.T):=by
 refine ACall.kO ⟨true,plans122,[],[]⟩ mixed Tryz.func122 rfl (by kernel_rfl) ?_
 obtain⟨H,T⟩:=σ
 obtain⟨fv,bv,hb,hf,hbk⟩:=hs
 simp only at hb hf hbk
 have hbl':=(List.getElem?_eq_some_iff.1 hb).1
 have hfit:Fits c.fields:=by unfold Fits;omega
 simp [-acells,-fin,-fin1,-fin2,-pl1,-pl2,-plain,-AV.atom,-getElem?_pos,look_app hb,set_left hb,at_set]
 refine kLoop.list c.fields (fun d ev σ=>ev 0=.ptr b 0∧ev 3=.ptr H.length 0∧ev 16=.sl 5 (c.fields.map encFld) .none∧ev 17=.int .i64 c.fields.length∧ev 18=.int .i64 d.length ∧
  ∃ H',σ=⟨H',T⟩∧H'[b]?=some (.cells [.str c.name,.str s.1.parent,fv,bv,.bool (s.2||clashB s.1.fields d)])∧H'[H.length]?=some (.cells (encCls c))∧Kp H b H') ?_ ?_ ?_
 · refine⟨by simp,by simp,by simp,by simp,by simp,_,rfl,?_,?_,?_⟩
   · rw [set_look hb];simp [clashB]
   · rw [at_set];rfl
   · exact Kp.set
 · rintro d v r ev σ hd hv hlt ⟨h0,h3,h16,h17,h18,H',rfl,hb',hn0,hkp⟩
   have hv':=(List.getElem?_eq_some_iff.1 hv).2
   have hf':=hf.keep fun x hl hx=>hkp.2 _ x hx (ne_fld hb hf hl)
   have hcl:clashB s.1.fields (d++[v])=(clashB s.1.fields d||s.1.fields.any fun y=>y.name==v.name):=by simp [clashB]
   simp [-acells,-fin,-fin1,-fin2,-pl1,-pl2,-plain,-AV.atom,-getElem?_pos,h0,h3,h16,h17,h18,hlt,hv,look_app hb',set_left hb']
   have post:∀ (q:Bool) (x:List AV) (t:List Blk),q=(s.2||clashB s.1.fields (d++[v]))→∃ H2,(⟨H'.set b (.cells [.str c.name,.str s.1.parent,fv,bv,.bool q])++t,T⟩:St)=⟨H2,T⟩∧H2[b]?=some (.cells [.str c.name,.str s.1.parent,fv,bv,.bool (s.2||clashB s.1.fields (d++[v]))])∧H2[H.length]?=some (.cells (encCls c))∧Kp H b H2:=fun q x t hq=>
    ⟨_,rfl,by rw [set_look hb',hq],set_look_ne hn0 (by omega),hkp.trans Kp.set⟩
   refine⟨fun e1 e2=>?_,fun e=>?_⟩
   · refine kCall.lent (args':=[.sl 5 (s.1.fields.map encFld) .none,.fn 193 [] [.rptr (encFld v)]]) (containsFuncFld GG s.1.fields (fun y=>y.name==v.name) 193 [] [.rptr (encFld v)] (by unfold Fits;omega) rfl (by simp) fun y _=>same193 v y) rfl ?_ ?_
     · have q:=(hf'.keep (H':=H'++[.cells (encFld v)]) fun x _ hx=>look_app hx _).frz (fun x=>by simp) (fun x=>by simp) (fun x=>by simp) 7
       simp only [List.map_cons,List.map_nil,LeqL,and_true]
       refine⟨by simpa using q,?_⟩
       simp [frz]
     · simp [-acells,-fin,-fin1,-fin2,-pl1,-pl2,-plain,-AV.atom,-getElem?_pos,h0,h3,h16,h17,h18,look_app hb',set_left hb']
       refine⟨wr (by omega) (by omega),?_⟩
       simpa using post _ [] _ (by rw [hcl,e1,e2];simp)
   · refine⟨wr (by omega) (by omega),?_⟩
     simpa using post true [] _ (by rw [hcl];revert e;cases s.2<;>cases clashB s.1.fields d<;>simp)
 · rintro ev σ ⟨h0,h3,h16,h17,h18,H',rfl,hb',hn0,hkp⟩
   have hf':=hf.keep fun x hl hx=>hkp.2 _ x hx (ne_fld hb hf hl)
   have hk':=hbk.keep fun x hl hx=>hkp.2 _ x hx (ne_blc hb hbk hl)
   simp [-acells,-fin,-fin1,-fin2,-pl1,-pl2,-plain,-AV.atom,-getElem?_pos,h0,h3,h16,h17,h18,look_app hb',set_left hb',hb',hn0]
   rw [kC_plan rfl]
   simp [-acells,-fin,-fin1,-fin2,-pl1,-pl2,-plain,-AV.atom,-getElem?_pos,clsB,h0,h3,h16,h17,h18,look_app hb',set_left hb',hb',hn0]
   obtain⟨fv2,fb2,H2,hY,hf2,hfb2,hk2,hl2⟩:=hf'.appendK (P:=Tryz.prog) (G:=GG) (o:=⟨true,plans122,[],[]⟩) (T:=T) (m:=c.fields) (tok:=.none) D40 rfl D140 rfl (by omega) rfl (by decide) (fun x=>rfl) (by omega)
   have hb2:=hk2 _ _ hb' (by
    by_cases e:s.1.fields=[]
    · exact .inl e
    · exact .inr (Ne.symm (ne_fld hb' hf' e)))
   have hn2:=hk2 _ _ hn0 (by
    by_cases e:s.1.fields=[]
    · exact .inl e
    · have:=hf.lt e;exact .inr (by omega))
   have hac:=hf2.acells
   simp [-acells,-fin,-fin1,-fin2,-pl1,-pl2,-plain,-AV.atom,-getElem?_pos,hY,h0,h3,look_app hb2,set_left hb2,hb2,hac]
   have hn3:∀ y,(H2.set b y)[H.length]?=some (.cells (encCls c)):=fun y=>by
    rw [List.getElem?_set_ne (by omega)];exact hn2
   simp [-acells,-fin,-fin1,-fin2,-pl1,-pl2,-plain,-AV.atom,-getElem?_pos,hn3,h3]
   refine kLoop.listR c.blocks (fun d ev σ=>ev 0=.ptr b 0∧ev 52=.sl 2 (c.blocks.map encBlc) .none∧ev 53=.int .i64 c.blocks.length∧ev 54=.int .i64 d.length ∧
    ∃ H3 bv3 bb3,σ=⟨H3,T⟩∧H3[b]?=some (.cells [.str c.name,.str s.1.parent,fv2,bv3,.bool (s.2||clashB s.1.fields c.fields)])∧OwnAt fb2 5 encFld H3 fv2 (s.1.fields++c.fields)∧OwnAt bb3 2 encBlc H3 bv3 (d.foldl putB s.1.blocks) ∧
     (d.foldl putB s.1.blocks).length≤s.1.blocks.length+d.length∧H.length≤H3.length∧∀ (k:Nat) (x:Blk),H[k]?=some x→k≠b→(s.1.fields=[]∨k≠fb)→(s.1.blocks=[]∨k≠bb)→H3[k]?=some x∧(d.foldl putB s.1.blocks=[]∨k≠bb3)) ?_ ?_ ?_
   · refine⟨by simp [h0],by simp,by simp,by simp,H2.set b _,bv,bb,rfl,?_,?_,?_,by simp,by simpa using Nat.le_trans hkp.1 hl2,fun k x hk h1 h2 h3=>⟨?_,h3⟩⟩
     · rw [List.getElem?_set_self (List.getElem?_eq_some_iff.1 hb2).1]
     · exact hf2.keep fun x hl hx=>by rw [List.getElem?_set_ne (Ne.symm (ne_fld hb2 hf2 hl))];exact hx
     · exact hk'.keep fun x hl hx=>by
        rw [List.getElem?_set_ne (Ne.symm (ne_blc hb' hk' hl))]
        refine hk2 _ _ hx ?_
        by_cases e:s.1.fields=[]
        · exact .inl e
        · exact .inr (Ne.symm (ne_fb hf' hk' e hl))
     · rw [List.getElem?_set_ne (Ne.symm h1)]
       exact hk2 _ _ (hkp.2 _ _ hk h1) h2
   · clear h0 h3 h16 h17 h18
     rintro d v r ev σ R hR hd hv hlt ⟨h0,h52,h53,h54,H3,bv3,bb3,rfl,hb3,hf3,hbb3,hln,hle3,hk3⟩
     have hvm:=List.mem_of_getElem? hv
     obtain⟨hi1,hi2⟩:=hit v hvm
     generalize hL:d.foldl putB s.1.blocks=L at hbb3 hln hk3
     have hLn:L.length≤100000:=by omega
     simp [-acells,-fin,-fin1,-fin2,-pl1,-pl2,-plain,-AV.atom,-getElem?_pos,h0,h52,h53,h54,hlt,hv]
     refine kCall.call (items194 v.items hi1 hi2) (by simp) ?_
     simp [-acells,-fin,-fin1,-fin2,-pl1,-pl2,-plain,-AV.atom,-getElem?_pos,h0,look_app hb3]
     have hbB:=hbb3.keep (H':=H3++[.cells (encBlc v)]) fun x _ hx=>look_app hx _
     refine kCall.lent (args':=[.sl 2 (L.map encBlc) .none,.fn 195 [] [.rptr (encBlc v)]]) (indexFuncBlc GG L (fun y=>y.name==v.name) 195 [] [.rptr (encBlc v)] (by unfold Fits;omega) rfl (by simp) fun y _=>same195 v y) rfl ?_ ?_
     · have q:=hbB.frz (fun x=>by simp) (fun x=>by simp) (fun x=>by simp) 7
       simp only [List.map_cons,List.map_nil,LeqL,and_true]
       refine⟨by simpa using q,?_⟩
       simp [frz]
     have hput2:putB L v=if 0≤findI (fun y:Blc=>y.name==v.name) L 0 then L.set (findI (fun y:Blc=>y.name==v.name) L 0).toNat v else L++[v]:=rfl
     have hrng:=findI_range (p:=fun y:Blc=>y.name==v.name) (l:=L) (i:=0) (Int.le_refl 0)
     have hfold:(d++[v]).foldl putB s.1.blocks=putB L v:=by rw [List.foldl_append,hL];rfl
     generalize findI (fun y:Blc=>y.name==v.name) L 0=r at hput2 hrng ⊢
     by_cases hr:0≤r
     · rw [if_pos hr] at hput2
       obtain⟨n,rfl⟩:=Int.eq_ofNat_of_zero_le hr
       have hn:n<L.length:=by have:=(hrng hr).2;omega
       have hne:L≠[]:=by rintro rfl;simp at hn
       obtain⟨rfl,hbc⟩:=hbb3.at hne
       have hms:(n:Int)<L.length:=by omega
       simp [-acells,-fin,-fin1,-fin2,-pl1,-pl2,-plain,-AV.atom,-getElem?_pos,h0,hr]
       rw [kC_plan rfl]
       simp [-acells,-fin,-fin1,-fin2,-pl1,-pl2,-plain,-AV.atom,-getElem?_pos,clsB,h0,look_app hb3,hms,look_app hbc]
       have hle:n*2+2≤(L.map fun _=>2).sum:=by
        have:∀ l:List Blc,(l.map fun _=>2).sum=l.length*2:=fun l=>by
         induction l with
         | nil=>rfl
         | cons a r ih=>simp [ih];omega
        rw [this];omega
       have hp3:((L.flatMap encBlc).set (n*2) (.str v.name)).set (n*2+1) (.sl 12 (v.items.map encI) .none)=(L.set n v).flatMap encBlc:=putAt_flat (en:=encBlc) (fun x=>rfl) L n v hn
       simp [-acells,-fin,-fin1,-fin2,-pl1,-pl2,-plain,-AV.atom,-getElem?_pos,hle,hp3,set_left hbc,h0,h52,h53,h54]
       have hb3n:=ne_blc hb3 hbb3 hne
       refine hR _ _ ⟨by simp [h0],by simp [h52],by simp [h53],by simp [h54];exact wr (by omega) (by omega),_,.ms bb3 0 L.length 2,bb3,rfl,?_,?_,?_,?_,?_,?_⟩
       · exact set_look_ne hb3 (Ne.symm hb3n)
       · exact hf3.keep fun x hl hx=>set_look_ne hx (ne_fb hf3 hbb3 hl hne)
       · rw [hfold,hput2]
         exact .inr ⟨by simp [hne],by simp,set_look hbc⟩
       · rw [hfold,hput2];simp;omega
       · simp;omega
       · intro k x hk h1 h2 h3
         obtain⟨q1,q2⟩:=hk3 k x hk h1 h2 h3
         have q3:=q2.resolve_left hne
         exact⟨set_look_ne q1 q3,.inr q3⟩
     · rw [if_neg hr] at hput2
       simp [-acells,-fin,-fin1,-fin2,-pl1,-pl2,-plain,-AV.atom,-getElem?_pos,h0,hr]
       rw [kC_plan rfl]
       simp [-acells,-fin,-fin1,-fin2,-pl1,-pl2,-plain,-AV.atom,-getElem?_pos,clsB,h0,look_app hb3]
       obtain⟨bv4,H5,happ,hbb4,hk5,hl5⟩:=hbB.append (D:=Dof Tryz.prog) (T:=T) (m:=[v]) (tok:=.tight) D41 rfl D52 rfl (by omega) rfl (by decide) (fun x=>rfl) (by simp;omega) (by simp)
       have hb5:=hk5 _ _ (look_app hb3 _) (by
        by_cases e:L=[]
        · exact .inl e
        · exact .inr (Ne.symm (ne_blc hb3 hbb3 e)))
       have hac4:=hbb4.acells
       simp only [List.map_cons,List.map_nil,encBlc] at happ
       simp [-acells,-fin,-fin1,-fin2,-pl1,-pl2,-plain,-AV.atom,-getElem?_pos,happ,h0,h52,h53,h54,hb5,hac4]
       have hl5':H5.length=H3.length+1+1:=by simpa using hl5
       refine hR _ _ ⟨by simp [h0],by simp [h52],by simp [h53],by simp [h54];exact wr (by omega) (by omega),_,bv4,(H3++[Blk.cells (encBlc v)]).length,rfl,?_,?_,?_,?_,?_,?_⟩
       rotate_left 2
       · rw [hfold,hput2]
         exact hbb4.keep fun x hl hx=>by rw [List.getElem?_set_ne (Ne.symm (ne_blc hb5 hbb4 hl))];exact hx
       · rw [hfold,hput2];simp;omega
       · simp;omega
       · intro k x hk h1 h2 h3
         obtain⟨q1,q2⟩:=hk3 k x hk h1 h2 h3
         have:=(List.getElem?_eq_some_iff.1 q1).1
         exact⟨by rw [List.getElem?_set_ne (Ne.symm h1)];exact hk5 _ _ (look_app q1 _) q2,.inr (by simp;omega)⟩
       · rw [List.getElem?_set_self (List.getElem?_eq_some_iff.1 hb5).1]
       · refine hf3.keep fun x hl hx=>?_
         rw [List.getElem?_set_ne (Ne.symm (ne_fld hb3 hf3 hl))]
         refine hk5 _ _ (look_app hx _) ?_
         by_cases e:L=[]
         · exact .inl e
         · exact .inr (ne_fb hf3 hbb3 hl e)
   · clear h0 h3
     rintro ev σ ⟨h0,h52,h53,h54,H3,bv3,bb3,rfl,hb3,hf3,hbb3,hln,hle3,hk3⟩
     simp [-acells,-fin,-fin1,-fin2,-pl1,-pl2,-plain,-AV.atom,-getElem?_pos,h52,h53,h54]
     exact⟨⟨fb2,bb3,fv2,bv3,hb3,hf3,hbb3⟩,hle3,fun k x a b c d=>(hk3 k x a b c d).1⟩
theorem backward121 (l:AV) (σ:St) (hl:AV.atom l=true):ACall Tryz.prog GG 121 [l] σ (fun r σ'=>r=.fn 191 [] [.ptr σ.H.length 0]∧σ'=σ.push (.cells [l])):=by
 refine ACall.k mixed Tryz.func121 rfl (by kernel_rfl) ?_
 have hac:acells l=some [l]:=by cases l<;>simp [AV.atom] at hl<;>rfl
 simp [-acells,-fin,-fin1,-fin2,-pl1,-pl2,-plain,-AV.atom,-getElem?_pos,hac]
def encFlat (s:Cls×Bool):List AV:=[.str s.1.name,.str s.1.parent,.sl 5 (s.1.fields.map encFld) .none,.sl 2 (s.1.blocks.map encBlc) .none,.bool s.2]
theorem fold_take {α β:Type} (f:α→β→β) (z:β):∀ (l:List α) (i:Nat) (v:α),l[i]?=some v→(l.drop i).foldr f z=f v ((l.drop (i+1)).foldr f z):=fun l i v h=>by
 rw [drop_cons h,List.foldr_cons]
set_option maxHeartbeats 8000000 in
theorem flatten60 (l:List Cls) (hll:l.length≤1000) (hc:∀ c∈l,c.fields.length≤50∧c.blocks.length≤50∧∀ b∈c.blocks,b.items.length≤1000∧∀ x∈b.items,LowI x):Pure Tryz.prog GG 60 [.sl 4 (l.map encCls) .none] (.rptr (encFlat (flatS l))):=by
 refine Pure.kO o0 true mixed Tryz.func60 rfl (by kernel_rfl) ?_
 simp [-acells,-fin,-fin1,-fin2,-pl1,-pl2,-plain,-AV.atom,-getElem?_pos]
 refine kCall.acall (backward121 _ _ rfl) ?_
 rintro v σ' ⟨rfl,rfl⟩
 simp [-acells,-fin,-fin1,-fin2,-pl1,-pl2,-plain,-AV.atom,-getElem?_pos]
 refine kC_range (gb:=191) (b:=2) (k:=4) (tok:=.none) l encCls (fun i σ=>∃ fb bb H,σ=⟨H,[]⟩∧FlatAt H 0 fb bb (flatS (l.drop i))∧H[1]?=some (.cells [.ptr 0 0])∧H[2]?=some (.cells [.sl 4 (l.map encCls) .none])) (by simp [ev]) (bw191 GG) (by omega) ?_ ?_ ?_ ?_
 · refine⟨5,6,_,rfl,⟨.sl 0 [] .nil,.sl 0 [] .nil,?_,.inl ⟨by simp [flatS,zCls],rfl⟩,.inl ⟨by simp [flatS,zCls],rfl⟩⟩,rfl,rfl⟩
   simp [flatS,zCls]
 · rintro i σ ⟨fb,bb,H,rfl,_,_,h2⟩
   exact h2
 · rintro i c σ hi ⟨fb,bb,H,rfl,hfl,hp1,hp2⟩
   obtain⟨hc1,hc2,hc3⟩:=hc c (List.mem_of_getElem? hi)
   have hs:flatS (l.drop i)=extS c (flatS (l.drop (i+1))):=fold_take extS _ l i c hi
   have hb:=flatS_len (k:=50) (l:=l.drop (i+1)) fun x hx=>⟨(hc x (List.mem_of_mem_drop hx)).1,(hc x (List.mem_of_mem_drop hx)).2.1⟩
   have hlen:(l.drop (i+1)).length≤1000:=by simp;omega
   have hfl2:FlatAt (H++[.cells (encCls c)]) 0 fb bb (flatS (l.drop (i+1))):=by
    obtain⟨fv,bv,q1,q2,q3⟩:=hfl
    exact⟨fv,bv,look_app q1 _,q2.keep fun x _ hx=>look_app hx _,q3.keep fun x _ hx=>look_app hx _⟩
   have hcall:=extend122 c (flatS (l.drop (i+1))) ⟨H++[.cells (encCls c)],[]⟩ 0 fb bb (by omega) (by omega) hc3 hfl2
   simp [-acells,-fin,-fin1,-fin2,-pl1,-pl2,-plain,-AV.atom,-getElem?_pos,look_app hp1]
   refine kCall.acall hcall ?_
   rintro v σ' ⟨fb',bb',hf',hfr,hT⟩
   simp [-acells,-fin,-fin1,-fin2,-pl1,-pl2,-plain,-AV.atom,-getElem?_pos]
   obtain⟨H',T'⟩:=σ'
   simp only at hT hf' hfr
   subst hT
   have keep:∀ (k:Nat) (y:List AV),H[k]?=some (.cells y)→k≠0→y[1]?=none→H'[k]?=some (.cells y):=fun k y hk h0 hy=>by
    obtain⟨fv,bv,q1,q2,q3⟩:=hfl2
    refine hfr.2 k _ (look_app hk _) h0 ?_ ?_
    · by_cases e:(flatS (l.drop (i+1))).1.fields=[]
      · exact .inl e
      · obtain⟨m,hm⟩:=fld1 e
        exact .inr (blk_ne (look_app hk _) (q2.at e).2 (by rw [hy,hm];simp))
    · by_cases e:(flatS (l.drop (i+1))).1.blocks=[]
      · exact .inl e
      · obtain⟨m,hm⟩:=blc1 e
        exact .inr (blk_ne (look_app hk _) (q3.at e).2 (by rw [hy,hm];simp))
   rw [hs]
   exact⟨fb',bb',H',rfl,hf',keep 1 _ hp1 (by omega) rfl,keep 2 _ hp2 (by omega) rfl⟩
 · rintro σ ⟨fb,bb,H,rfl,⟨fv,bv,q1,q2,q3⟩,hp1,hp2⟩
   rw [List.drop_zero] at q1 q2 q3
   simp [-acells,-fin,-fin1,-fin2,-pl1,-pl2,-plain,-AV.atom,-getElem?_pos,hp1]
   have e:frz H 8 (.ptr 0 0)=.rptr [.str (flatS l).1.name,.str (flatS l).1.parent,frz H 7 fv,frz H 7 bv,.bool (flatS l).2]:=by
    rw [frz_ptr q1];simp [frz_str,frz_bool]
   have a1:=q2.frzNo (fun x=>by simp) (fun x=>by simp) (fun x=>by simp) 6
   have a2:=q3.frzNo (fun x=>by simp) (fun x=>by simp) (fun x=>by simp) 6
   have b1:=q2.frz (fun x=>by simp) (fun x=>by simp) (fun x=>by simp) 6
   have b2:=q3.frz (fun x=>by simp) (fun x=>by simp) (fun x=>by simp) 6
   rw [e]
   simp [a1,a2,encFlat,LeqC,b1,b2]
def badPar (src:List Cls) (c:Cls):Bool:=!decide (c.parent=[])&&(findC src c.parent).isNone
theorem names190 (src:List Cls) (hl:Fits src):Pure Tryz.prog GG 190 [.sl 4 (src.map encCls) .none] (.int .i64 (namesE src)):=by
 refine Pure.k mixed Tryz.func190 rfl (by kernel_rfl) ?_
 have hr:namesE src=if repS Cls.name src=true then 8 else if src.any (badPar src)=true then 7 else 0:=rfl
 generalize namesE src=r at hr
 simp [-acells,-fin,-fin1,-fin2,-pl1,-pl2,-plain,-AV.atom,-getElem?_pos]
 refine kCall.call (repeated258 src hl) (by simp) ?_
 cases h8:repS Cls.name src
 · rw [if_neg (by rw [h8];decide)] at hr
   simp [-acells,-fin,-fin1,-fin2,-pl1,-pl2,-plain,-AV.atom,-getElem?_pos]
   refine kLoop.list src (fun d ev σ=>ev 0=.sl 4 (src.map encCls) .none∧ev 9=.sl 4 (src.map encCls) .none∧ev 10=.int .i64 src.length∧ev 11=.int .i64 d.length∧(∃ H,σ=⟨H,[]⟩)∧∀ x∈d,badPar src x=false) (by simp) ?_ ?_
   · rintro d v l ev σ hd hv hlt ⟨h0,h9,h10,h11,⟨H,rfl⟩,hz⟩
     simp [-acells,-fin,-fin1,-fin2,-pl1,-pl2,-plain,-AV.atom,-getElem?_pos,h0,h9,h10,h11,hlt,hv]
     refine kCall.call (find119 src hl v.parent) (by simp) ?_
     cases hb:badPar src v
     · have hb':=hb
       simp only [badPar,Bool.and_eq_false_iff,Bool.not_eq_false',decide_eq_true_eq,Option.isNone_eq_false_iff] at hb'
       by_cases hp:v.parent=[]
       · simp [-acells,-fin,-fin1,-fin2,-pl1,-pl2,-plain,-AV.atom,-getElem?_pos,h0,h9,h10,h11,hp]
         exact⟨wr (by omega) (by omega),hz_or hz hb⟩
       · simp [-acells,-fin,-fin1,-fin2,-pl1,-pl2,-plain,-AV.atom,-getElem?_pos,h0,h9,h10,h11,hp,hb'.resolve_left hp]
         exact⟨wr (by omega) (by omega),hz_or hz hb⟩
     · rw [if_pos (List.any_eq_true.2 ⟨v,List.mem_of_getElem? hv,hb⟩)] at hr
       subst hr
       simp only [badPar,Bool.and_eq_true,Bool.not_eq_true',decide_eq_false_iff_not,Option.isNone_iff_eq_none] at hb
       simp [-acells,-fin,-fin1,-fin2,-pl1,-pl2,-plain,-AV.atom,-getElem?_pos,h0,h9,h10,h11,hb.1,hb.2]
   · rintro ev σ ⟨h0,h9,h10,h11,⟨H,rfl⟩,hz⟩
     rw [if_neg (by rw [List.any_eq_true];rintro⟨x,hx,h⟩;rw [hz x hx] at h;cases h)] at hr
     subst hr
     simp [-acells,-fin,-fin1,-fin2,-pl1,-pl2,-plain,-AV.atom,-getElem?_pos,h10,h11]
 · rw [if_pos h8] at hr
   subst hr
   simp [-acells,-fin,-fin1,-fin2,-pl1,-pl2,-plain,-AV.atom,-getElem?_pos]
structure LowC (c:Cls):Prop where
 nf:c.fields.length≤50
 nb:c.blocks.length≤50
 items:∀ b∈c.blocks,b.items.length≤1000∧∀ x∈b.items,LowI x
theorem LowC.z:LowC zCls:=⟨by simp,by simp,by simp⟩
theorem LowC.line {src:List Cls} (h:∀ c∈src,LowC c) {c:Cls} (hc:LowC c):∀ x∈lineD src c,LowC x:=by
 intro x hx
 unfold lineD at hx
 cases e:ancS src src.length c with
 | none=>rw [e] at hx;simp at hx
 | some l=>
  rw [e] at hx
  rcases ancS_mem e x hx with rfl|h' | rfl
  · exact hc
  · exact h x h'
  · exact LowC.z
theorem line_len {src:List Cls} {c:Cls}:(lineD src c).length≤src.length+1:=by
 unfold lineD
 cases e:ancS src src.length c with
 | none=>simp
 | some l=>exact (ancS_len e).2
def cl7 (src:List Cls) (c:Cls):Bool:=(flatS (lineD src c)).2
def lg8 (src:List Cls) (c:Cls):Bool:=largeB (flatS (lineD src c)).1
set_option maxHeartbeats 8000000 in
theorem check118 (src:List Cls) (hl:src.length≤900) (hc:∀ c∈src,LowC c):Pure Tryz.prog GG 118 [.sl 4 (src.map encCls) .none] (.int .i64 (checkS src)):=by
 refine Pure.k mixed Tryz.func118 rfl (by kernel_rfl) ?_
 have hfit:Fits src:=by unfold Fits;omega
 have hr:checkS src=if 32<src.length then 2 else if firstE clsE src≠0 then firstE clsE src else if namesE src≠0 then namesE src
  else if src.any (fun c=>(ancS src src.length c).isNone)=true then 10 else if src.any (cl7 src)=true then 8 else if src.any (lg8 src)=true then 2 else 0:=rfl
 generalize checkS src=r at hr
 by_cases h32:32<src.length
 · rw [if_pos h32] at hr
   have:(32:Int)<src.length:=by omega
   subst hr
   simp [-acells,-fin,-fin1,-fin2,-pl1,-pl2,-plain,-AV.atom,-getElem?_pos,this]
 rw [if_neg h32] at hr
 have:¬ (32:Int)<src.length:=by omega
 simp [-acells,-fin,-fin1,-fin2,-pl1,-pl2,-plain,-AV.atom,-getElem?_pos,this]
 refine kLoop.list src (fun d ev σ=>ev 0=.sl 4 (src.map encCls) .none∧ev 17=.sl 4 (src.map encCls) .none∧ev 18=.int .i64 src.length∧ev 19=.int .i64 d.length∧(∃ H,σ=⟨H,[]⟩)∧∀ x∈d,clsE x=0) (by simp) ?_ ?_
 · rintro d v l ev σ hd hv hlt ⟨h0,h17,h18,h19,⟨H,rfl⟩,hz⟩
   have hcv:=hc v (List.mem_of_getElem? hv)
   simp [-acells,-fin,-fin1,-fin2,-pl1,-pl2,-plain,-AV.atom,-getElem?_pos,h0,h17,h18,h19,hlt,hv]
   refine kCall.call (valid99 v (by have:=hcv.nf;unfold Fits;omega) (by have:=hcv.nb;unfold Fits;omega)) (by simp) ?_
   by_cases h:clsE v=0
   · simp [-acells,-fin,-fin1,-fin2,-pl1,-pl2,-plain,-AV.atom,-getElem?_pos,h,h0,h17,h18,h19]
     exact⟨wr (by omega) (by omega),hz_or hz h⟩
   · have e:firstE clsE src=clsE v:=by rw [hd];exact firstE_at hz h
     rw [e,if_pos h] at hr
     subst hr
     simp [-acells,-fin,-fin1,-fin2,-pl1,-pl2,-plain,-AV.atom,-getElem?_pos,h]
 · rintro ev σ ⟨h0,h17,h18,h19,⟨H,rfl⟩,hz⟩
   rw [if_neg (by rw [firstE_zero.2 hz];simp)] at hr
   simp [-acells,-fin,-fin1,-fin2,-pl1,-pl2,-plain,-AV.atom,-getElem?_pos,h0,h18,h19]
   refine kCall.call (names190 src hfit) (by simp) ?_
   by_cases hn:namesE src=0
   · rw [if_neg (by rw [hn];simp)] at hr
     simp [-acells,-fin,-fin1,-fin2,-pl1,-pl2,-plain,-AV.atom,-getElem?_pos,hn,h0]
     have h0':=h0
     clear h0 h17 h18 h19
     refine kLoop.list src (fun d ev σ=>ev 0=.sl 4 (src.map encCls) .none∧ev 34=.sl 4 (src.map encCls) .none∧ev 35=.int .i64 src.length∧ev 36=.int .i64 d.length∧(∃ H,σ=⟨H,[]⟩) ∧
      (∀ x∈d,(ancS src src.length x).isNone=false)∧ev 7=.bool (d.any (cl7 src))∧ev 8=.bool (d.any (lg8 src))) (by simp [h0']) ?_ ?_
     · rintro d v l ev σ hd hv hlt ⟨h0,h34,h35,h36,⟨H,rfl⟩,hz,h7,h8⟩
       have hcv:=hc v (List.mem_of_getElem? hv)
       simp [-acells,-fin,-fin1,-fin2,-pl1,-pl2,-plain,-AV.atom,-getElem?_pos,h0,h34,h35,h36,hlt,hv]
       refine kCall.call (ancestry120 src (by omega) v) (by simp) ?_
       generalize d.any (cl7 src)=A at h7 ⊢
       generalize d.any (lg8 src)=B at h8 ⊢
       have e7:(flatS (lineD src v)).2=cl7 src v:=rfl
       have e8:lg8 src v=(decide (16<(flatS (lineD src v)).1.fields.length)||decide (16<(flatS (lineD src v)).1.blocks.length)):=rfl
       cases ha:(ancS src src.length v).isNone
       · have ha':(ancS src src.length v).isSome=true:=by cases h:ancS src src.length v<;>simp_all
         simp [-acells,-fin,-fin1,-fin2,-pl1,-pl2,-plain,-AV.atom,-getElem?_pos,ha',h0,h34,h35,h36,h7,h8]
         have hlow:=LowC.line hc hcv
         refine kCall.call (flatten60 (lineD src v) (by have:=line_len (src:=src) (c:=v);omega) fun c h=>⟨(hlow c h).nf,(hlow c h).nb,(hlow c h).items⟩) (by simp) ?_
         simp [-acells,-fin,-fin1,-fin2,-pl1,-pl2,-plain,-AV.atom,-getElem?_pos,encFlat,h0,h34,h35,h36,h7,h8]
         rw [e7,e8]
         have hw:IntKind.i64.wrap ((d.length:Int)+1)=d.length+1:=wr (by omega) (by omega)
         have hall:∀ x,x∈d∨x=v→(ancS src src.length x).isSome=true:=by
          intro x hx
          have:=hz_or hz ha x hx
          cases h:ancS src src.length x<;>simp_all
         generalize (flatS (lineD src v)).1.fields.length=n1
         generalize (flatS (lineD src v)).1.blocks.length=n2
         have c1:decide ((16:Int)<n1)=decide (16<n1):=by simp;omega
         have c2:decide ((16:Int)<n2)=decide (16<n2):=by simp;omega
         cases A<;>cases B<;>simp [hw]<;>grind
       · rw [if_pos (List.any_eq_true.2 ⟨v,List.mem_of_getElem? hv,ha⟩)] at hr
         subst hr
         have ha':(ancS src src.length v).isSome=false:=by cases h:ancS src src.length v<;>simp_all
         simp [-acells,-fin,-fin1,-fin2,-pl1,-pl2,-plain,-AV.atom,-getElem?_pos,ha',h0,h34,h35,h36]
     · rintro ev σ ⟨h0,h34,h35,h36,⟨H,rfl⟩,hz,h7,h8⟩
       rw [if_neg (by rw [List.any_eq_true];rintro⟨x,hx,h⟩;rw [hz x hx] at h;cases h)] at hr
       generalize src.any (cl7 src)=A at h7 hr
       generalize src.any (lg8 src)=B at h8 hr
       simp [-acells,-fin,-fin1,-fin2,-pl1,-pl2,-plain,-AV.atom,-getElem?_pos,h35,h36,h7,h8]
       cases A<;>cases B<;>simp at hr ⊢<;>exact hr.symm
   · rw [if_pos hn] at hr
     subst hr
     simp [-acells,-fin,-fin1,-fin2,-pl1,-pl2,-plain,-AV.atom,-getElem?_pos,hn]
theorem line59 (src:List Cls) (hl:src.length≤900) (hc:∀ c∈src,LowC c) (name:Str):Pure Tryz.prog GG 59 [.sl 4 (src.map encCls) .none,.str name] (.tup [.sl 4 ((lineS src name).map encCls) .none,.int .i64 (lineE src name)]):=by
 refine Pure.k mixed Tryz.func59 rfl (by kernel_rfl) ?_
 have hfit:Fits src:=by unfold Fits;omega
 have hr:lineE src name=if checkS src≠0 then checkS src else if (findC src name).isNone=true then 12 else 0:=rfl
 have hs:lineS src name=if lineE src name≠0 then [] else lineD src (findD src name):=rfl
 generalize lineS src name=l at hs
 generalize lineE src name=r at hr hs
 simp [-acells,-fin,-fin1,-fin2,-pl1,-pl2,-plain,-AV.atom,-getElem?_pos]
 refine kCall.call (check118 src hl hc) (by simp) ?_
 by_cases h0:checkS src=0
 · rw [if_neg (by rw [h0];simp)] at hr
   simp [-acells,-fin,-fin1,-fin2,-pl1,-pl2,-plain,-AV.atom,-getElem?_pos,h0]
   refine kCall.call (find119 src hfit name) (by simp) ?_
   cases hf:findC src name with
   | none=>
    rw [hf] at hr
    simp at hr
    subst hr
    rw [if_pos (by decide)] at hs
    subst hs
    simp [-acells,-fin,-fin1,-fin2,-pl1,-pl2,-plain,-AV.atom,-getElem?_pos]
   | some c=>
    rw [hf] at hr
    simp at hr
    subst hr
    rw [if_neg (by decide)] at hs
    subst hs
    simp [-acells,-fin,-fin1,-fin2,-pl1,-pl2,-plain,-AV.atom,-getElem?_pos]
    refine kCall.call (ancestry120 src (by omega) (findD src name)) (by simp) ?_
    simp [-acells,-fin,-fin1,-fin2,-pl1,-pl2,-plain,-AV.atom,-getElem?_pos]
 · rw [if_pos h0] at hr
   subst hr
   rw [if_pos h0] at hs
   subst hs
   simp [-acells,-fin,-fin1,-fin2,-pl1,-pl2,-plain,-AV.atom,-getElem?_pos,h0]
theorem lineS_low {src:List Cls} (hc:∀ c∈src,LowC c) (name:Str):∀ x∈lineS src name,LowC x:=by
 intro x hx
 unfold lineS at hx
 split at hx
 · simp at hx
 · refine LowC.line hc ?_ x hx
   rcases findD_mem (src:=src) (name:=name) with h|h
   · exact hc _ h
   · rw [h];exact LowC.z
theorem flatten13 (src:List Cls) (hl:src.length≤900) (hc:∀ c∈src,LowC c) (name:Str):Pure Tryz.prog GG 13 [.sl 4 (src.map encCls) .none,.str name] (.tup [.agg (encCls (flattenS src name)),.int .i64 (lineE src name)]):=by
 refine Pure.k mixed Tryz.func13 rfl (by kernel_rfl) ?_
 have hs:flattenS src name=if lineE src name≠0 then zCls else (flatS (lineS src name)).1:=rfl
 generalize flattenS src name=c at hs
 simp [-acells,-fin,-fin1,-fin2,-pl1,-pl2,-plain,-AV.atom,-getElem?_pos]
 refine kCall.call (line59 src hl hc name) (by simp) ?_
 by_cases h0:lineE src name=0
 · rw [if_neg (by rw [h0];simp)] at hs
   subst hs
   have hlow:=lineS_low hc name
   simp [-acells,-fin,-fin1,-fin2,-pl1,-pl2,-plain,-AV.atom,-getElem?_pos,h0]
   refine kCall.call (flatten60 (lineS src name) (by
    unfold lineS
    split
    · simp
    · have:=line_len (src:=src) (c:=findD src name);omega) fun c h=>⟨(hlow c h).nf,(hlow c h).nb,(hlow c h).items⟩) (by simp) ?_
   simp [-acells,-fin,-fin1,-fin2,-pl1,-pl2,-plain,-AV.atom,-getElem?_pos,encFlat]
 · rw [if_pos h0] at hs
   subst hs
   simp [-acells,-fin,-fin1,-fin2,-pl1,-pl2,-plain,-AV.atom,-getElem?_pos,h0]
end Go.Proofs.YtpgcmnabljandaaGreatDoor
end
