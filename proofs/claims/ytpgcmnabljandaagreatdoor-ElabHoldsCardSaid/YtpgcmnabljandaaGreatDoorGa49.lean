/- A part of the proof: Walk77 Walk94 Walk50. -/
import Derived.Test.YtpgcmnabljandaaGreatDoorGa44
import Derived.Test.YtpgcmnabljandaaGreatDoorGa29
import Derived.Test.YtpgcmnabljandaaGreatDoorGa27
import Derived.Test.YtpgcmnabljandaaGreatDoorGa16
import Derived.Test.YtpgcmnabljandaaGreatDoorGa48
import Derived.Test.YtpgcmnabljandaaGreatDoorGa30
import Derived.Test.YtpgcmnabljandaaGreatDoorGa26
import Derived.Test.YtpgcmnabljandaaGreatDoorGa41
set_option linter.unusedVariables false
set_option linter.unusedSimpArgs false
set_option maxRecDepth 100000
section
namespace Go.Proofs.YtpgcmnabljandaaGreatDoor
open Go Go.Abs
section
def plans45:List (Nat×Sch×List Nat):=[(13,.step 0 [8,7,6,5,2,1] (.step 1 [8,7,6,5,2] (.step 2 [8,7,6,5] (.step 3 [8,7,6,5,4] (.step 4 [8,7,6,5] (.step 5 [8,7,6] (.step 6 [8,7] (.step 7 [8] (.step 8 [] (.done))))))))),[])]
def NewRow {α:Type} (H0:List Blk) (sz:Nat) (en:α→List AV) (H:List Blk) (v:AV) (l:List α):Prop :=
 ∃ ob,OwnAt ob sz en H v l∧(l=[]∨H0.length≤ob)∧H0.length≤H.length∧∀ (k:Nat) (x:Blk),H0[k]?=some x→H[k]?=some x
section
variable {α:Type} {H0 H:List Blk} {sz:Nat} {en:α→List AV} {v:AV} {l m:List α}
end
set_option maxHeartbeats 8000000 in
theorem cvars45 (c:Cls) (hc:c.fields.length≤50) (hb:c.blocks.length≤50) (H:List Blk) (T:List (Option Nat)) :
 ACall Tryz.prog GG 45 [.agg (encCls c)] ⟨H,T⟩ (fun r σ'=>∃ H',σ'=⟨H',T⟩∧NewRow H 4 encVar H' r (varsC c)):=by
 refine ACall.kO ⟨true,plans45,[],[]⟩ mixed Tryz.func45 rfl (by kernel_rfl) ?_
 have hr:varsC c=if clsE c≠0 then [] else c.fields.flatMap varsF:=rfl
 generalize varsC c=R at hr
 simp [-acells,-fin,-fin1,-fin2,-pl1,-pl2,-plain,-AV.atom,-getElem?_pos]
 refine kCall.call (valid99 c (by unfold Fits;omega) (by unfold Fits;omega)) (by simp) ?_
 by_cases h0:clsE c=0
 · rw [if_neg (by simp [h0])] at hr
   subst hr
   have hok:=clsE_zero h0
   simp [-acells,-fin,-fin1,-fin2,-pl1,-pl2,-plain,-AV.atom,-getElem?_pos,h0]
   refine kLoop.listR c.fields (fun d ev σ=>ev 12=.sl 5 (c.fields.map encFld) .none∧ev 13=.int .i64 c.fields.length∧ev 14=.int .i64 d.length∧(d.flatMap varsF).length≤d.length*8∧∃ H',σ=⟨H',T⟩∧NewRow H 4 encVar H' (ev 3) (d.flatMap varsF)) ?_ ?_ ?_
   · refine⟨by simp,by simp,by simp,by simp,_,by simp;rfl,0,.inl ⟨rfl,by simp⟩,.inl rfl,by simp,fun k x hk=>look_app hk _⟩
   · rintro d f r ev σ R hR hd hv hlt ⟨h12,h13,h14,hln,H1,rfl,hrow⟩
     have hf:=fieldE_zero (hok.fields f (List.mem_of_getElem? hv))
     have hs0:=hf.s0
     have hs8:=hf.s8
     obtain⟨n,hn8⟩:=Int.eq_ofNat_of_zero_le hs0
     have hn8':n≤8:=by omega
     have hdl:d.length<50:=by omega
     have hvf:varsF f=(if f.size=0 then [⟨f.name,f.width,f.mode,f.init⟩] else [])++(List.range n).map fun i=>⟨elemS f.name i,f.width,f.mode,f.init⟩:=by
      unfold varsF;rw [hn8];rfl
     have hnl:f.name.length≤16:=name_len hf.name
     obtain⟨ob,ho,hob,hle,hkp⟩:=hrow
     have hoblt:d.flatMap varsF=[]∨ob<H1.length:=by
      by_cases e:d.flatMap varsF=[]
      · exact .inl e
      · exact .inr (ho.lt e)
     have hdv:(d++[f]).flatMap varsF=d.flatMap varsF++varsF f:=by simp
     generalize d.flatMap varsF=D at *
     generalize hv3:ev 3=v3 at *
     simp [-acells,-fin,-fin1,-fin2,-pl1,-pl2,-plain,-AV.atom,-getElem?_pos,-kCd_bool,h12,h13,h14,hlt,hv]
     refine kCd_cut (fun ev σ=>ev 5=.ptr H1.length 0∧ev 6=.ptr (H1.length+1) 0∧ev 12=.sl 5 (c.fields.map encFld) .none∧ev 13=.int .i64 c.fields.length∧ev 14=.int .i64 d.length ∧
      ∃ H2 ob2,σ=⟨H2,T⟩∧H2[H1.length]?=some (.cells (encFld f))∧H2[H1.length+1]?=some (.cells [.str f.name,.int .i64 f.width,.int .i64 f.mode,.int .i64 f.init])∧OwnAt ob2 4 encVar H2 (ev 3) (D++(if f.size=0 then [⟨f.name,f.width,f.mode,f.init⟩] else [])) ∧
       ((D++(if f.size=0 then [⟨f.name,f.width,f.mode,f.init⟩] else []))=[]∨(H.length≤ob2∧ob2≠H1.length∧ob2≠H1.length+1))∧H1.length+2≤H2.length∧∀ (k:Nat) (x:Blk),H[k]?=some x→H2[k]?=some x) ?_ ?_
     · by_cases z0:f.size=0
       · have ho2:=ho.keep (H':=H1++[.cells (encFld f),.cells [.str f.name,.int .i64 f.width,.int .i64 f.mode,.int .i64 f.init]]) fun x _ hx=>look_app hx _
         obtain⟨v',H2,hX,k1,k2,k3⟩:=ho2.append (T:=T) (m:=[⟨f.name,f.width,f.mode,f.init⟩]) (tok:=.tight) D31 rfl D65 rfl (by omega) rfl (by decide) (fun x=>rfl) (by simp only [List.length_singleton];omega) (by simp)
         simp only [List.map_cons,List.map_nil,encVar,encFld,z0] at hX k2
         rw [if_pos z0]
         simp [-acells,-fin,-fin1,-fin2,-pl1,-pl2,-plain,-AV.atom,-getElem?_pos,h12,h13,h14,z0,hv3,hX]
         have hne:∀ k,H1.length≤k→(D=[]∨k≠ob):=fun k hk=>by
          rcases hoblt with e|e
          · exact .inl e
          · exact .inr (by omega)
         refine⟨k2 _ _ (by simp) (hne _ (Nat.le_refl _)),k2 _ _ (by simp) (hne _ (by omega)),H1.length+2,by simpa using k1,⟨by omega,by omega,by omega⟩,by simp at k3;omega,fun k x hk=>k2 k x (look_app (hkp k x hk) _) ?_⟩
         have:=(List.getElem?_eq_some_iff.1 hk).1
         rcases hob with e|e
         · exact .inl e
         · exact .inr (by omega)
       · rw [if_neg z0]
         simp [-acells,-fin,-fin1,-fin2,-pl1,-pl2,-plain,-AV.atom,-getElem?_pos,h12,h13,h14,z0,hv3]
         refine⟨ob,ho.keep fun x _ hx=>look_app hx _,?_,fun k x hk=>look_app (hkp k x hk) _⟩
         rcases hob with e|e
         · exact .inl e
         · rcases hoblt with e2|e2
           · exact .inl e2
           · exact .inr ⟨e,by omega,by omega⟩
     clear h12 h13 h14 hv3
     rintro ev σ ⟨h5,h6,h12,h13,h14,H2,ob2,rfl,hf2,hv2,ho2,hob2,hl2,hk2⟩
     simp only [encFld] at hf2
     have hDl:(D++(if f.size=0 then [(⟨f.name,f.width,f.mode,f.init⟩:Var)] else [])).length≤d.length*8+1:=by
      rw [List.length_append]
      split<;>simp<;>omega
     have hDl0:f.size≠0→(D++(if f.size=0 then [(⟨f.name,f.width,f.mode,f.init⟩:Var)] else [])).length≤d.length*8:=fun e=>by
      rw [if_neg e];simp;omega
     have hDe:(d++[f]).flatMap varsF=(D++(if f.size=0 then [(⟨f.name,f.width,f.mode,f.init⟩:Var)] else []))++(List.range n).map fun i=>⟨elemS f.name i,f.width,f.mode,f.init⟩:=by rw [hdv,hvf,List.append_assoc]
     generalize hE:D++(if f.size=0 then [(⟨f.name,f.width,f.mode,f.init⟩:Var)] else [])=E at *
     simp [-acells,-fin,-fin1,-fin2,-pl1,-pl2,-plain,-AV.atom,-getElem?_pos,h5,h6,h12,h13,h14,hf2]
     rw [hn8]
     refine kLoop.count n (fun k ev σ=>ev 5=.ptr H1.length 0∧ev 6=.ptr (H1.length+1) 0∧ev 12=.sl 5 (c.fields.map encFld) .none∧ev 13=.int .i64 c.fields.length∧ev 14=.int .i64 d.length∧ev 35=.int .i64 n∧ev 36=.int .i64 k ∧
      ∃ H3 ob3 nm,σ=⟨H3,T⟩∧H3[H1.length]?=some (.cells [.str f.name,.int .i64 f.width,.int .i64 f.size,.int .i64 f.mode,.int .i64 f.init])∧H3[H1.length+1]?=some (.cells [.str nm,.int .i64 f.width,.int .i64 f.mode,.int .i64 f.init])∧OwnAt ob3 4 encVar H3 (ev 3) (E++(List.range k).map fun i=>⟨elemS f.name i,f.width,f.mode,f.init⟩) ∧
       ((E++(List.range k).map fun i=>(⟨elemS f.name i,f.width,f.mode,f.init⟩:Var))=[]∨(H.length≤ob3∧ob3≠H1.length∧ob3≠H1.length+1))∧H1.length+2≤H3.length∧∀ (k:Nat) (x:Blk),H[k]?=some x→H3[k]?=some x) ?_ ?_ ?_
     · exact⟨by simp [h5],by simp [h6],by simp [h12],by simp [h13],by simp [h14],by simp,by simp,H2,ob2,f.name,rfl,hf2,hv2,by simpa using ho2,by simpa using hob2,hl2,hk2⟩
     · clear h5 h6 h12 h13 h14 hf2 hv2 ho2 hob2 hl2 hk2
       rintro k ev σ hkn ⟨h5,h6,h12,h13,h14,h35,h36,H3,ob3,nm,rfl,hf3,hv3,ho3,hob3,hl3,hk3⟩
       have hkn':(k:Int)<n:=by omega
       have hit:=itoa100 k (by omega)
       have hnm:∃ ch,UInt8.ofNat (48+k)=ch∧f.name++[91,ch,93]=elemS f.name k:=⟨_,rfl,rfl⟩
       obtain⟨ch,hch,hnm⟩:=hnm
       rw [hch] at hit
       have hl1:f.name.length+1≤4611686018427387904:=by omega
       have hl2':f.name.length+1+1≤4611686018427387904:=by omega
       have hl3':f.name.length+1+1+1≤4611686018427387904:=by omega
       have hEl:E.length+k+1≤1073741824:=by omega
       have hrs:(List.range (k+1)).map (fun i=>(⟨elemS f.name i,f.width,f.mode,f.init⟩:Var))=(List.range k).map (fun i=>(⟨elemS f.name i,f.width,f.mode,f.init⟩:Var))++[⟨elemS f.name k,f.width,f.mode,f.init⟩]:=by rw [List.range_succ,List.map_append];rfl
       generalize hQ:(List.range k).map (fun i=>(⟨elemS f.name i,f.width,f.mode,f.init⟩:Var))=Q at *
       have hQl:Q.length=k:=by rw [← hQ];simp
       generalize hv9:ev 3=v9 at *
       simp [-acells,-fin,-fin1,-fin2,-pl1,-pl2,-plain,-AV.atom,-getElem?_pos,h5,h6,h12,h13,h14,h35,h36,hkn']
       rw [kC_plan rfl]
       simp [-acells,-fin,-fin1,-fin2,-pl1,-pl2,-plain,-AV.atom,-getElem?_pos,clsB,h5,h6,h12,h13,h14,h35,h36,hf3,hl1]
       refine kCall.call hit rfl ?_
       simp [-acells,-fin,-fin1,-fin2,-pl1,-pl2,-plain,-AV.atom,-getElem?_pos,clsB,h5,h6,h12,h13,h14,h35,h36,hf3,hv3,hl1,hl2',hl3']
       have hsv:(H3.set (H1.length+1) (.cells [.str (elemS f.name k),.int .i64 f.width,.int .i64 f.mode,.int .i64 f.init]))[H1.length+1]?=some (.cells [.str (elemS f.name k),.int .i64 f.width,.int .i64 f.mode,.int .i64 f.init]):=by rw [List.getElem?_set_self (by omega)]
       rw [hnm]
       have hkeep4:∀ (k':Nat) (x:Blk),k'≠H1.length+1→H3[k']?=some x→(H3.set (H1.length+1) (.cells [.str (elemS f.name k),.int .i64 f.width,.int .i64 f.mode,.int .i64 f.init]))[k']?=some x:=fun k' x hne hx=>by rw [List.getElem?_set_ne (Ne.symm hne)];exact hx
       have hlen4:(H3.set (H1.length+1) (.cells [.str (elemS f.name k),.int .i64 f.width,.int .i64 f.mode,.int .i64 f.init])).length=H3.length:=by simp
       have ho4:=ho3.keep (H':=H3.set (H1.length+1) (.cells [.str (elemS f.name k),.int .i64 f.width,.int .i64 f.mode,.int .i64 f.init])) fun x hl hx=>hkeep4 _ _ (by
        rcases hob3 with e|e
        · exact absurd e hl
        · exact e.2.2) hx
       generalize H3.set (H1.length+1) (.cells [.str (elemS f.name k),.int .i64 f.width,.int .i64 f.mode,.int .i64 f.init])=H4 at *
       obtain⟨v',H5,hX,k1,k2,k3⟩:=ho4.append (T:=T) (m:=[⟨elemS f.name k,f.width,f.mode,f.init⟩]) (tok:=.tight) D31 rfl D65 rfl (by omega) rfl (by decide) (fun x=>rfl) (by simp only [List.length_append,List.length_singleton,hQl];omega) (by simp)
       simp only [List.map_cons,List.map_nil,encVar] at hX
       have hne5:∀ k',(k'=H1.length∨k'=H1.length+1∨k' < H.length)→((E++Q)=[]∨k'≠ob3):=fun k' hk'=>by
        rcases hob3 with e|e
        · exact .inl e
        · right;omega
       have hw:IntKind.i64.wrap ((k:Int)+1)=k+1:=wr (by omega) (by omega)
       simp [-acells,-fin,-fin1,-fin2,-pl1,-pl2,-plain,-AV.atom,-getElem?_pos,h5,h6,h12,h13,h14,h35,h36,hsv,hv9,hX,hw]
       refine⟨k2 _ _ (hkeep4 _ _ (by omega) hf3) (hne5 _ (.inl rfl)),⟨_,k2 _ _ hsv (hne5 _ (.inr (.inl rfl)))⟩,H4.length,?_,?_,by omega,fun k' x hk'=>?_⟩
       · rw [hrs,← List.append_assoc];exact k1
       · omega
       · have:=(List.getElem?_eq_some_iff.1 hk').1
         exact k2 _ _ (hkeep4 _ _ (by omega) (hk3 _ _ hk')) (hne5 _ (.inr (.inr this)))
     · clear h5 h6 h12 h13 h14 hf2 hv2 ho2 hob2 hl2 hk2
       rintro ev σ ⟨h5,h6,h12,h13,h14,h35,h36,H3,ob3,nm,rfl,hf3,hv3,ho3,hob3,hl3,hk3⟩
       simp [-acells,-fin,-fin1,-fin2,-pl1,-pl2,-plain,-AV.atom,-getElem?_pos,h5,h6,h12,h13,h14,h35,h36]
       refine hR _ _ ⟨by simp [h12],by simp [h13],by simp [h14];exact wr (by omega) (by omega),?_,H3,rfl,ob3,by rw [hDe];simpa using ho3,?_,by omega,hk3⟩
       · rw [hDe];simp
         by_cases z0:f.size=0
         · omega
         · have:=hDl0 z0;omega
       · rw [hDe]
         rcases hob3 with e|e
         · exact .inl e
         · exact .inr e.1
   · rintro ev σ ⟨h12,h13,h14,hln,H1,rfl,hrow⟩
     simp [-acells,-fin,-fin1,-fin2,-pl1,-pl2,-plain,-AV.atom,-getElem?_pos,h13,h14]
     exact hrow
 · rw [if_pos h0] at hr
   subst hr
   simp [-acells,-fin,-fin1,-fin2,-pl1,-pl2,-plain,-AV.atom,-getElem?_pos,h0]
   exact⟨0,.inl ⟨rfl,rfl⟩,.inl rfl,by simp,fun k x hk=>look_app hk _⟩
end
theorem same44 (b:Blc) (s:Str):Pure Tryz.prog GG 44 [.agg (encBlc b),.rptr [.str s]] (.bool (b.name==s)):=by
 refine Pure.k mixed Tryz.func44 rfl (by kernel_rfl) ?_
 simp [encBlc]
theorem contains43 (l:List Blc) (hl:Fits l) (s:Str):Pure Tryz.prog GG 43 [.sl 2 (l.map encBlc) .none,.fn 44 [] [.rptr [.str s]]] (.bool (l.any fun b=>b.name==s)) :=
 containsFuncBlc GG l (fun b=>b.name==s) 44 [] [.rptr [.str s]] hl rfl rfl fun b _=>by simpa using same44 b s
theorem zfin (H:List Blk) (n:Int):noRef (frz H 8 (.tup [.agg [.sl 0 [] .nil,.sl 0 [] .nil,.sl 0 [] .nil,.sl 0 [] .nil,.sl 0 [] .nil],.int .i64 n]))=true∧Leq (frz H 8 (.tup [.agg [.sl 0 [] .nil,.sl 0 [] .nil,.sl 0 [] .nil,.sl 0 [] .nil,.sl 0 [] .nil],.int .i64 n])) (.tup [.agg [.sl 4 [] .none,.sl 4 [] .none,.sl 4 [] .none,.sl 2 [] .none,.sl 1 [] .none],.int .i64 n]):=by
 rw [frz_noRef (by simp)]
 simp [Leq,LeqL]
theorem varsC_wid {c:Cls} (hc:ClsOk c):∀ v∈varsC c,0≤v.width∧v.width≤8:=fun v hv=>by
 obtain⟨f,hf,⟨_,rfl⟩|⟨i,_,rfl⟩⟩:=(mem_varsC hc).1 hv <;>
 · have h:=fieldE_zero (hc.fields f hf)
   have:=h.w1
   have:=h.w8
   exact⟨by show 0≤f.width;omega,by show f.width≤8;omega⟩
theorem varsC_len {c:Cls} (hc:ClsOk c):(varsC c).length≤1000:=by
 rw [varsC_eq hc]
 have h:=flat_bound (f:=varsF) (n:=9) (l:=c.fields) fun f hf=>by
  have:=(fieldE_zero (hc.fields f hf)).s8
  unfold varsF
  rw [List.length_append,List.length_map,List.length_range]
  split<;>simp<;>omega
 have:=hc.nf
 omega
theorem frz_tupE {H:List Blk} {n:Nat} {c:List AV}:frz H (n+1) (.tup c)=.tup (c.map (frz H n)):=by
 by_cases h:noRef (.tup c)=true
 · rw [frz_noRef h]
   congr 1
   simp only [noRef] at h
   induction c with
   | nil=>rfl
   | cons a r ih=>
    simp only [noRefs,Bool.and_eq_true] at h
    rw [List.map_cons,frz_noRef h.1,← ih h.2]
 · rw [frz,if_neg h]
theorem own_five {α:Type} {b:Nat} {en:α→List AV} {H:List Blk} {v:AV} {l:List α} (h:OwnAt b 4 en H v l) (hl:∀ x,(en x).length=4) (hne:l≠[]) {z0 z1 z2 z3 z4:AV} (h1:H[1]?=some (.cells [z0,z1,z2,z3,z4])):b≠1:=by
 obtain⟨_,hr⟩:=h.at hne
 rintro rfl
 rw [h1] at hr
 simp only [Option.some.injEq,Blk.cells.injEq] at hr
 have:=Go.Abs.flat_len hl l
 rw [← hr] at this
 simp at this
 omega
def Laid (c:Cls) (off:List Str) (more:List It) (state:List Signal) (ev:Env) (σ:St):Prop :=
 ev 2=.sl 1 (off.map encStr) .none∧ev 3=.sl 12 (more.map encI) .none∧ev 9=.ptr 0 0∧ev 10=.ptr 1 0∧ev 12=.ptr 2 0 ∧
 σ.H[0]?=some (.cells [.sl 2 (state.map encSignal) .none])∧σ.H[1]?=some (.cells [.sl 0 [] .nil,.sl 0 [] .nil,.sl 0 [] .nil,.sl 0 [] .nil,.sl 0 [] .nil])∧σ.H[2]?=some (.cells [.str c.name,.str c.parent,.sl 5 (c.fields.map encFld) .none,.sl 2 (c.blocks.map encBlc) .none]) ∧
 ∃ B m bp vb vv,ev 16=.ptr bp 0∧3≤B∧3≤m∧3≤bp∧bp≠B∧bp≠m∧B≠m∧(varsC c≠[]→3≤vb∧vb≠B∧vb≠bp∧vb≠m)∧σ.H[bp]?=some (.cells [.ptr B 0])∧σ.H[m]?=some (.map [] 0) ∧
  σ.H[B]?=some (.cells [.str c.name,.str c.parent,.sl 5 (c.fields.map encFld) .none,.sl 2 (c.blocks.map encBlc) .none,vv,.sl 0 [] .nil,.sl 0 [] .nil,.sl 0 [] .nil,.sl 0 [] .nil,.map m])∧OwnAt vb 4 encVar σ.H vv (varsC c)
theorem laid_of {c:Cls} {off:List Str} {more:List It} {state:List Signal} {ev:Env} {H1 Hf:List Blk} {T1:List (Option Nat)} {B m bp ob:Nat} {vv:AV} (hl:3≤H1.length)
 (b0:H1[0]?=some (.cells [.sl 2 (state.map encSignal) .none])) (b1:H1[1]?=some (.cells [.sl 0 [] .nil,.sl 0 [] .nil,.sl 0 [] .nil,.sl 0 [] .nil,.sl 0 [] .nil])) (b2:H1[2]?=some (.cells [.str c.name,.str c.parent,.sl 5 (c.fields.map encFld) .none,.sl 2 (c.blocks.map encBlc) .none]))
 (h2:ev 2=.sl 1 (off.map encStr) .none) (h3:ev 3=.sl 12 (more.map encI) .none) (h9:ev 9=.ptr 0 0) (h10:ev 10=.ptr 1 0) (h12:ev 12=.ptr 2 0) (h16:ev 16=.ptr bp 0)
 (g1:H1.length≤B) (g2:H1.length≤m) (g3:H1.length≤bp) (hbp:Hf[bp]?=some (.cells [.ptr B 0])) (hm:Hf[m]?=some (.map [] 0))
 (hB:Hf[B]?=some (.cells [.str c.name,.str c.parent,.sl 5 (c.fields.map encFld) .none,.sl 2 (c.blocks.map encBlc) .none,vv,.sl 0 [] .nil,.sl 0 [] .nil,.sl 0 [] .nil,.sl 0 [] .nil,.map m]))
 (hold:∀ (k:Nat) (x:Blk),H1[k]?=some x→Hf[k]?=some x) (hown:OwnAt ob 4 encVar Hf vv (varsC c)) (hob:varsC c=[]∨H1.length≤ob):Laid c off more state ev ⟨Hf,T1⟩:=by
 refine⟨h2,h3,h9,h10,h12,hold _ _ b0,hold _ _ b1,hold _ _ b2,B,m,bp,ob,vv,h16,by omega,by omega,by omega,?_,?_,?_,fun hne=>?_,hbp,hm,hB,hown⟩
 · rintro rfl;rw [hbp] at hB;simp at hB
 · rintro rfl;rw [hbp] at hm;cases hm
 · rintro rfl;rw [hB] at hm;cases hm
 · obtain⟨_,hr⟩:=hown.at hne
   refine⟨by have:=hob.resolve_left hne;omega,?_,?_,?_⟩
   · rintro rfl
     rw [hB] at hr
     revert hr
     cases hv:varsC c with
     | nil=>exact absurd hv hne
     | cons v r=>intro hr;simp [encVar] at hr
   · rintro rfl
     rw [hbp] at hr
     revert hr
     cases hv:varsC c with
     | nil=>exact absurd hv hne
     | cons v r=>intro hr;simp [encVar] at hr
   · rintro rfl
     rw [hm] at hr;cases hr
structure AskOk (q:Ask):Prop where
 src:q.src.length≤900
 low:∀ c∈q.src,LowC c
 off:Fits q.off
 state:Fits q.state
 few:∀ l∈listsC (flattenS q.src q.name) q.off q.more,FewN l
def plans12:List (Nat×Sch×List Nat):=[(10,.step 1 [8,6,5,3,2] (.fork (.cons 0 (.fork (.cons 2 (.step 3 [8,6,5] (.fork (.cons 4 (.step 5 [8,6] (.fork (.cons 6 (.step 7 [8] (.step 8 [] (.done))) (.cons 7 (.step 6 [8] (.step 8 [] (.done))) (.nil))))) (.cons 7 (.step 4 [8,6,5] (.step 5 [8,6] (.step 6 [8] (.step 8 [] (.done))))) (.nil))))) (.cons 4 (.fork (.cons 2 (.step 3 [8,6,5] (.step 5 [8,6] (.fork (.cons 6 (.step 7 [8] (.step 8 [] (.done))) (.cons 7 (.step 6 [8] (.step 8 [] (.done))) (.nil)))))) (.cons 7 (.step 2 [8,6,5,3] (.step 3 [8,6,5] (.step 5 [8,6] (.step 6 [8] (.step 8 [] (.done)))))) (.nil)))) (.cons 7 (.fork (.cons 2 (.step 3 [8,6,5] (.step 4 [8,6,5] (.step 5 [8,6] (.step 6 [8] (.step 8 [] (.done)))))) (.cons 4 (.step 2 [8,6,5,3] (.step 3 [8,6,5] (.step 5 [8,6] (.step 6 [8] (.step 8 [] (.done)))))) (.nil)))) (.nil))))) (.cons 2 (.step 0 [8,6,5] (.step 3 [8,6,5] (.fork (.cons 4 (.step 5 [8,6] (.fork (.cons 6 (.step 7 [8] (.step 8 [] (.done))) (.cons 7 (.step 6 [8] (.step 8 [] (.done))) (.nil))))) (.cons 7 (.step 4 [8,6,5] (.step 5 [8,6] (.step 6 [8] (.step 8 [] (.done))))) (.nil)))))) (.cons 4 (.fork (.cons 0 (.fork (.cons 2 (.step 3 [8,6,5] (.step 5 [8,6] (.fork (.cons 6 (.step 7 [8] (.step 8 [] (.done))) (.cons 7 (.step 6 [8] (.step 8 [] (.done))) (.nil)))))) (.cons 7 (.step 2 [8,6,5,3] (.step 3 [8,6,5] (.step 5 [8,6] (.step 6 [8] (.step 8 [] (.done)))))) (.nil)))) (.cons 2 (.step 0 [8,6,5] (.step 3 [8,6,5] (.step 5 [8,6] (.fork (.cons 6 (.step 7 [8] (.step 8 [] (.done))) (.cons 7 (.step 6 [8] (.step 8 [] (.done))) (.nil))))))) (.cons 7 (.fork (.cons 0 (.step 2 [8,6,5,3] (.step 3 [8,6,5] (.step 5 [8,6] (.step 6 [8] (.step 8 [] (.done)))))) (.cons 2 (.step 0 [8,6,5] (.step 3 [8,6,5] (.step 5 [8,6] (.step 6 [8] (.step 8 [] (.done)))))) (.nil)))) (.nil))))) (.cons 7 (.fork (.cons 0 (.fork (.cons 2 (.step 3 [8,6,5] (.step 4 [8,6,5] (.step 5 [8,6] (.step 6 [8] (.step 8 [] (.done)))))) (.cons 4 (.step 2 [8,6,5,3] (.step 3 [8,6,5] (.step 5 [8,6] (.step 6 [8] (.step 8 [] (.done)))))) (.nil)))) (.cons 2 (.step 0 [8,6,5] (.step 3 [8,6,5] (.step 4 [8,6,5] (.step 5 [8,6] (.step 6 [8] (.step 8 [] (.done))))))) (.cons 4 (.fork (.cons 0 (.step 2 [8,6,5,3] (.step 3 [8,6,5] (.step 5 [8,6] (.step 6 [8] (.step 8 [] (.done)))))) (.cons 2 (.step 0 [8,6,5] (.step 3 [8,6,5] (.step 5 [8,6] (.step 6 [8] (.step 8 [] (.done)))))) (.nil)))) (.nil))))) (.nil)))))),[2])]
set_option maxHeartbeats 16000000 in
theorem problem12 (q:Ask) (h:AskOk q):Pure Tryz.prog GG 12 [.sl 4 (q.src.map encCls) .none,.str q.name,.sl 1 (q.off.map encStr) .none,.sl 12 (q.more.map encI) .none,.sl 2 (q.state.map encSignal) .none] (.tup [.agg (encP (problemS q)),.int .i64 (problemE q)]):=by
 refine Pure.kO ⟨true,plans12,[],[]⟩ true mixed Tryz.func12 rfl (by kernel_rfl) ?_
 have hfl:=flatten13 q.src h.src h.low q.name
 have hE:problemE q=if lineE q.src q.name≠0 then lineE q.src q.name else if q.off.any (fun s=>!(flattenS q.src q.name).blocks.any fun b=>b.name==s)=true then 7 else buildE (flattenS q.src q.name) q.off q.more q.state:=rfl
 have hS:problemS q=if problemE q≠0 then zProb else buildP (flattenS q.src q.name) q.off q.more q.state:=rfl
 have hok:lineE q.src q.name=0→ClsOk (flattenS q.src q.name):=fun h=>flat_ok h
 have hfew:=h.few
 have hoff:=h.off
 have hst:=h.state
 generalize problemS q=PS at *
 generalize hPE:problemE q=pe at *
 generalize flattenS q.src q.name=c at *
 generalize lineE q.src q.name=le at *
 obtain⟨src,name,off,more,state⟩:=q
 simp only at *
 have hzp:∀ n:Int,pe=n→n≠0→PS=zProb:=fun n e1 e2=>by rw [hS,if_pos (by rw [e1];exact e2)]
 simp only [encCls] at hfl
 simp [-acells,-fin,-fin1,-fin2,-pl1,-pl2,-plain,-AV.atom,-getElem?_pos]
 refine kCall.call hfl (by simp) ?_
 by_cases hl:le=0
 · subst hl
   rw [if_neg (by simp)] at hE
   have hc:=hok rfl
   simp [-acells,-fin,-fin1,-fin2,-pl1,-pl2,-plain,-AV.atom,-getElem?_pos]
   simp only [encCls] at *
   refine kLoop.listR off (fun d ev σ=>ev 2=.sl 1 (off.map encStr) .none∧ev 3=.sl 12 (more.map encI) .none∧ev 9=.ptr 0 0∧ev 10=.ptr 1 0∧ev 12=.ptr 2 0∧ev 30=.sl 1 (off.map encStr) .none∧ev 31=.int .i64 off.length∧ev 32=.int .i64 d.length∧(∀ s∈d,(c.blocks.any fun b=>b.name==s)=true) ∧
    σ.H[0]?=some (.cells [.sl 2 (state.map encSignal) .none])∧σ.H[1]?=some (.cells [.sl 0 [] .nil,.sl 0 [] .nil,.sl 0 [] .nil,.sl 0 [] .nil,.sl 0 [] .nil])∧σ.H[2]?=some (.cells [.str c.name,.str c.parent,.sl 5 (c.fields.map encFld) .none,.sl 2 (c.blocks.map encBlc) .none])) ?_ ?_ ?_
   · exact⟨by simp,by simp,by simp,by simp,by simp,by simp,by simp,by simp,by simp,by simp,by simp,by simp⟩
   · rintro d s r ev ⟨H1,T1⟩ Rl hRl hd hx hlt ⟨h2,h3,h9,h10,h12,h30,h31,h32,hz,b0,b1,b2⟩
     simp only at b0 b1 b2
     have hcn:=contains43 c.blocks (by have:=hc.nb;unfold Fits;omega) s
     have hdw:IntKind.i64.wrap ((d.length:Int)+1)=(d.length+1:Nat):=by rw [wr (by omega) (by omega)];omega
     simp [-acells,-fin,-fin1,-fin2,-pl1,-pl2,-plain,-AV.atom,-getElem?_pos,h2,h3,h9,h10,h12,h30,h31,h32,hlt,hx,encStr,look_app b2]
     refine kCall.lent hcn rfl ?_ ?_
     · have hb3:(H1++[Blk.cells [AV.str s]])[H1.length]?=some (.cells [.str s]):=by simp
       have f1:frz (H1++[Blk.cells [AV.str s]]) 8 (.fn 44 [] [.ptr H1.length 0])=.fn 44 [] [.rptr [.str s]]:=by
        rw [frz,if_neg (by simp [noRef,noRefs])]
        simp only [List.map_cons,List.map_nil,frz_ptr hb3,List.drop_zero,frz_str]
       simp only [List.map_cons,List.map_nil,f1,LeqL,and_true]
       exact⟨by rw [frz_noRef (by simp)];exact Leq.refl _,Leq.refl _⟩
     · by_cases hin:(c.blocks.any fun b=>b.name==s)=true
       · simp [-acells,-fin,-fin1,-fin2,-pl1,-pl2,-plain,-AV.atom,-getElem?_pos,-Int.natCast_add,hin,hdw,h32]
         refine hRl _ _ ⟨by simp [h2],by simp [h3],by simp [h9],by simp [h10],by simp [h12],by simp [h30],by simp [h31],by simp [-Int.natCast_add,hdw],hz_snoc hz hin,look_app b0 _,look_app b1 _,look_app b2 _⟩
       · have hany:off.any (fun s=>!c.blocks.any fun b=>b.name==s)=true:=List.any_eq_true.2 ⟨s,List.mem_of_getElem? hx,by simpa using hin⟩
         rw [if_pos hany] at hE
         have hz0:=hzp 7 hE (by decide)
         subst hE hz0
         have b1':=look_app b1 [Blk.cells [AV.str s]]
         have sb1:=fun y:Blk=>(by have:=set_look (y:=y) (t:=[]) b1';simpa using this:((H1++[Blk.cells [AV.str s]]).set 1 y)[1]?=some y)
         simp [-acells,-fin,-fin1,-fin2,-pl1,-pl2,-plain,-AV.atom,-getElem?_pos,-Int.natCast_add,hin,h10,b1',sb1,zProb]
         exact zfin _ _
   · rintro ev ⟨H1,T1⟩ ⟨h2,h3,h9,h10,h12,h30,h31,h32,hz,b0,b1,b2⟩
     simp only at b0 b1 b2
     have hany:¬ off.any (fun s=>!c.blocks.any fun b=>b.name==s)=true:=by
      intro hh
      obtain⟨s,hs,hs2⟩:=List.any_eq_true.1 hh
      rw [hz s hs] at hs2;cases hs2
     rw [if_neg hany] at hE
     simp [-acells,-fin,-fin1,-fin2,-pl1,-pl2,-plain,-AV.atom,-getElem?_pos,h31,h32]
     rw [kC_plan rfl]
     refine kT_cut (Laid c off more state) ?_ ?_
     · have hlen3:3≤H1.length:=(List.getElem?_eq_some_iff.1 b2).1
       have hcv:=fun (H:List Blk) (T:List (Option Nat))=>cvars45 c (by have:=hc.nf;omega) (by have:=hc.nb;omega) H T
       simp only [encCls] at hcv
       simp [-acells,-fin,-fin1,-fin2,-pl1,-pl2,-plain,-AV.atom,-getElem?_pos,clsB,h12,b2,look_app b2]
       repeat' with_reducible apply And.intro
       · refine kCall.acall (hcv _ _) ?_
         rintro v σ' ⟨H',rfl,ob,hrow,hob,hlen,hkeep⟩
         have hb2:=hkeep 2 _ (by first | exact b2 | exact look_app b2 _)
         have hac:=hrow.acells
         have hat:=hrow.atom
         simp [-acells,-fin,-fin1,-fin2,-pl1,-pl2,-plain,-AV.atom,-getElem?_pos,clsB,hac,hat,hb2,look_app hb2,h12]
         have hge:H1.length≤H'.length:=by first | exact hlen | (simp at hlen;omega)
         refine⟨⟨?_,?_⟩,?_⟩
         · exact laid_of hlen3 b0 b1 b2 (by simp [h2]) (by simp [h3]) (by simp [h9]) (by simp [h10]) (by simp [h12]) (B:=H'.length+1) (m:=H'.length) (bp:=H'.length+2) (by simp) (by omega) (by omega) (by omega) (by simp) (by simp) (by simp) (fun k x hk=>look_app (hkeep k x (by first | exact hk | exact look_app hk _)) _) (hrow.keep fun x _ hx=>look_app hx _) (hob.imp id fun h=>by first | exact h | (simp at h;omega))
         · exact laid_of hlen3 b0 b1 b2 (by simp [h2]) (by simp [h3]) (by simp [h9]) (by simp [h10]) (by simp [h12]) (B:=H'.length+2) (m:=H'.length) (bp:=H'.length+1) (by simp) (by omega) (by omega) (by omega) (by simp) (by simp) (by simp) (fun k x hk=>look_app (hkeep k x (by first | exact hk | exact look_app hk _)) _) (hrow.keep fun x _ hx=>look_app hx _) (hob.imp id fun h=>by first | exact h | (simp at h;omega))
         · exact laid_of hlen3 b0 b1 b2 (by simp [h2]) (by simp [h3]) (by simp [h9]) (by simp [h10]) (by simp [h12]) (B:=H'.length+2) (m:=H'.length+1) (bp:=H'.length) (by simp) (by omega) (by omega) (by omega) (by simp) (by simp) (by simp) (fun k x hk=>look_app (hkeep k x (by first | exact hk | exact look_app hk _)) _) (hrow.keep fun x _ hx=>look_app hx _) (hob.imp id fun h=>by first | exact h | (simp at h;omega))
       · refine kCall.acall (hcv _ _) ?_
         rintro v σ' ⟨H',rfl,ob,hrow,hob,hlen,hkeep⟩
         have hb2:=hkeep 2 _ (by first | exact b2 | exact look_app b2 _)
         have hac:=hrow.acells
         have hat:=hrow.atom
         have hm1:H'[H1.length]?=some (.map [] 0):=hkeep _ _ (by simp)
         simp [-acells,-fin,-fin1,-fin2,-pl1,-pl2,-plain,-AV.atom,-getElem?_pos,clsB,hac,hat,hb2,look_app hb2,h12]
         have hge:H1.length≤H'.length:=by first | exact hlen | (simp at hlen;omega)
         refine⟨?_,?_⟩
         · exact laid_of hlen3 b0 b1 b2 (by simp [h2]) (by simp [h3]) (by simp [h9]) (by simp [h10]) (by simp [h12]) (B:=H'.length) (m:=H1.length) (bp:=H'.length+1) (by simp) (by omega) (by omega) (by omega) (by simp) (look_app hm1 _) (by simp) (fun k x hk=>look_app (hkeep k x (by first | exact hk | exact look_app hk _)) _) (hrow.keep fun x _ hx=>look_app hx _) (hob.imp id fun h=>by first | exact h | (simp at h;omega))
         · exact laid_of hlen3 b0 b1 b2 (by simp [h2]) (by simp [h3]) (by simp [h9]) (by simp [h10]) (by simp [h12]) (B:=H'.length+1) (m:=H1.length) (bp:=H'.length) (by simp) (by omega) (by omega) (by omega) (by simp) (look_app hm1 _) (by simp) (fun k x hk=>look_app (hkeep k x (by first | exact hk | exact look_app hk _)) _) (hrow.keep fun x _ hx=>look_app hx _) (hob.imp id fun h=>by first | exact h | (simp at h;omega))
       · refine kCall.acall (hcv _ _) ?_
         rintro v σ' ⟨H',rfl,ob,hrow,hob,hlen,hkeep⟩
         have hb2:=hkeep 2 _ (by first | exact b2 | exact look_app b2 _)
         have hac:=hrow.acells
         have hat:=hrow.atom
         have hm1:H'[H1.length]?=some (.map [] 0):=hkeep _ _ (by simp)
         have hp1:H'[H1.length+1]?=some (.cells [.nilp]):=hkeep _ _ (by simp)
         simp [-acells,-fin,-fin1,-fin2,-pl1,-pl2,-plain,-AV.atom,-getElem?_pos,clsB,hac,hat,hb2,look_app hb2,h12,hp1,look_app hp1,set_left hp1]
         have hge:H1.length≤H'.length:=by first | exact hlen | (simp at hlen;omega)
         exact laid_of hlen3 b0 b1 b2 (by simp [h2]) (by simp [h3]) (by simp [h9]) (by simp [h10]) (by simp [h12]) (B:=H'.length) (m:=H1.length) (bp:=H1.length+1) (by simp) (by omega) (by omega) (by omega) (look_app (List.getElem?_set_self (List.getElem?_eq_some_iff.1 hp1).1) _) (look_app (by rw [List.getElem?_set_ne (by omega)];exact hm1) _) (by simp) (fun k x hk=>look_app (by rw [List.getElem?_set_ne (by have:=(List.getElem?_eq_some_iff.1 hk).1;omega)];exact hkeep k x (look_app hk _)) _) (hrow.keep fun x hne hx=>look_app (by rw [List.getElem?_set_ne (by have:=hob.resolve_left hne;simp at this;omega)];exact hx) _) (hob.imp id fun h=>by first | exact h | (simp at h;omega))
       · refine kCall.acall (hcv _ _) ?_
         rintro v σ' ⟨H',rfl,ob,hrow,hob,hlen,hkeep⟩
         have hb2:=hkeep 2 _ (by first | exact b2 | exact look_app b2 _)
         have hac:=hrow.acells
         have hat:=hrow.atom
         have hp1:H'[H1.length]?=some (.cells [.nilp]):=hkeep _ _ (by simp)
         simp [-acells,-fin,-fin1,-fin2,-pl1,-pl2,-plain,-AV.atom,-getElem?_pos,clsB,hac,hat,hb2,look_app hb2,h12,hp1,look_app hp1,set_left hp1]
         have hge:H1.length≤H'.length:=by first | exact hlen | (simp at hlen;omega)
         exact laid_of hlen3 b0 b1 b2 (by simp [h2]) (by simp [h3]) (by simp [h9]) (by simp [h10]) (by simp [h12]) (B:=H'.length+1) (m:=H'.length) (bp:=H1.length) (by simp) (by omega) (by omega) (by omega) (look_app (List.getElem?_set_self (List.getElem?_eq_some_iff.1 hp1).1) _) (by simp) (by simp) (fun k x hk=>look_app (by rw [List.getElem?_set_ne (by have:=(List.getElem?_eq_some_iff.1 hk).1;omega)];exact hkeep k x (look_app hk _)) _) (hrow.keep fun x hne hx=>look_app (by rw [List.getElem?_set_ne (by have:=hob.resolve_left hne;simp at this;omega)];exact hx) _) (hob.imp id fun h=>by first | exact h | (simp at h;omega))
       · refine kCall.acall (hcv _ _) ?_
         rintro v σ' ⟨H',rfl,ob,hrow,hob,hlen,hkeep⟩
         have hb2:=hkeep 2 _ (by first | exact b2 | exact look_app b2 _)
         have hac:=hrow.acells
         have hat:=hrow.atom
         have hm1:H'[H1.length+1]?=some (.map [] 0):=hkeep _ _ (by simp)
         have hp1:H'[H1.length]?=some (.cells [.nilp]):=hkeep _ _ (by simp)
         simp [-acells,-fin,-fin1,-fin2,-pl1,-pl2,-plain,-AV.atom,-getElem?_pos,clsB,hac,hat,hb2,look_app hb2,h12,hp1,look_app hp1,set_left hp1]
         have hge:H1.length≤H'.length:=by first | exact hlen | (simp at hlen;omega)
         exact laid_of hlen3 b0 b1 b2 (by simp [h2]) (by simp [h3]) (by simp [h9]) (by simp [h10]) (by simp [h12]) (B:=H'.length) (m:=H1.length+1) (bp:=H1.length) (by simp) (by omega) (by omega) (by omega) (look_app (List.getElem?_set_self (List.getElem?_eq_some_iff.1 hp1).1) _) (look_app (by rw [List.getElem?_set_ne (by omega)];exact hm1) _) (by simp) (fun k x hk=>look_app (by rw [List.getElem?_set_ne (by have:=(List.getElem?_eq_some_iff.1 hk).1;omega)];exact hkeep k x (look_app hk _)) _) (hrow.keep fun x hne hx=>look_app (by rw [List.getElem?_set_ne (by have:=hob.resolve_left hne;simp at this;omega)];exact hx) _) (hob.imp id fun h=>by first | exact h | (simp at h;omega))
       · refine kCall.acall (hcv _ _) ?_
         rintro v σ' ⟨H',rfl,ob,hrow,hob,hlen,hkeep⟩
         have hb2:=hkeep 2 _ (by first | exact b2 | exact look_app b2 _)
         have hac:=hrow.acells
         have hat:=hrow.atom
         simp [-acells,-fin,-fin1,-fin2,-pl1,-pl2,-plain,-AV.atom,-getElem?_pos,clsB,hac,hat,hb2,look_app hb2,h12]
         have hge:H1.length≤H'.length:=by first | exact hlen | (simp at hlen;omega)
         refine⟨⟨?_,?_⟩,?_⟩
         · exact laid_of hlen3 b0 b1 b2 (by simp [h2]) (by simp [h3]) (by simp [h9]) (by simp [h10]) (by simp [h12]) (B:=H'.length+1) (m:=H'.length) (bp:=H'.length+2) (by simp) (by omega) (by omega) (by omega) (by simp) (by simp) (by simp) (fun k x hk=>look_app (hkeep k x (by first | exact hk | exact look_app hk _)) _) (hrow.keep fun x _ hx=>look_app hx _) (hob.imp id fun h=>by first | exact h | (simp at h;omega))
         · exact laid_of hlen3 b0 b1 b2 (by simp [h2]) (by simp [h3]) (by simp [h9]) (by simp [h10]) (by simp [h12]) (B:=H'.length+2) (m:=H'.length) (bp:=H'.length+1) (by simp) (by omega) (by omega) (by omega) (by simp) (by simp) (by simp) (fun k x hk=>look_app (hkeep k x (by first | exact hk | exact look_app hk _)) _) (hrow.keep fun x _ hx=>look_app hx _) (hob.imp id fun h=>by first | exact h | (simp at h;omega))
         · exact laid_of hlen3 b0 b1 b2 (by simp [h2]) (by simp [h3]) (by simp [h9]) (by simp [h10]) (by simp [h12]) (B:=H'.length+2) (m:=H'.length+1) (bp:=H'.length) (by simp) (by omega) (by omega) (by omega) (by simp) (by simp) (by simp) (fun k x hk=>look_app (hkeep k x (by first | exact hk | exact look_app hk _)) _) (hrow.keep fun x _ hx=>look_app hx _) (hob.imp id fun h=>by first | exact h | (simp at h;omega))
       · refine kCall.acall (hcv _ _) ?_
         rintro v σ' ⟨H',rfl,ob,hrow,hob,hlen,hkeep⟩
         have hb2:=hkeep 2 _ (by first | exact b2 | exact look_app b2 _)
         have hac:=hrow.acells
         have hat:=hrow.atom
         have hm1:H'[H1.length]?=some (.map [] 0):=hkeep _ _ (by simp)
         simp [-acells,-fin,-fin1,-fin2,-pl1,-pl2,-plain,-AV.atom,-getElem?_pos,clsB,hac,hat,hb2,look_app hb2,h12]
         have hge:H1.length≤H'.length:=by first | exact hlen | (simp at hlen;omega)
         refine⟨?_,?_⟩
         · exact laid_of hlen3 b0 b1 b2 (by simp [h2]) (by simp [h3]) (by simp [h9]) (by simp [h10]) (by simp [h12]) (B:=H'.length) (m:=H1.length) (bp:=H'.length+1) (by simp) (by omega) (by omega) (by omega) (by simp) (look_app hm1 _) (by simp) (fun k x hk=>look_app (hkeep k x (by first | exact hk | exact look_app hk _)) _) (hrow.keep fun x _ hx=>look_app hx _) (hob.imp id fun h=>by first | exact h | (simp at h;omega))
         · exact laid_of hlen3 b0 b1 b2 (by simp [h2]) (by simp [h3]) (by simp [h9]) (by simp [h10]) (by simp [h12]) (B:=H'.length+1) (m:=H1.length) (bp:=H'.length) (by simp) (by omega) (by omega) (by omega) (by simp) (look_app hm1 _) (by simp) (fun k x hk=>look_app (hkeep k x (by first | exact hk | exact look_app hk _)) _) (hrow.keep fun x _ hx=>look_app hx _) (hob.imp id fun h=>by first | exact h | (simp at h;omega))
       · refine kCall.acall (hcv _ _) ?_
         rintro v σ' ⟨H',rfl,ob,hrow,hob,hlen,hkeep⟩
         have hb2:=hkeep 2 _ (by first | exact b2 | exact look_app b2 _)
         have hac:=hrow.acells
         have hat:=hrow.atom
         have hm1:H'[H1.length]?=some (.map [] 0):=hkeep _ _ (by simp)
         have hp1:H'[H1.length+1]?=some (.cells [.nilp]):=hkeep _ _ (by simp)
         simp [-acells,-fin,-fin1,-fin2,-pl1,-pl2,-plain,-AV.atom,-getElem?_pos,clsB,hac,hat,hb2,look_app hb2,h12,hp1,look_app hp1,set_left hp1]
         have hge:H1.length≤H'.length:=by first | exact hlen | (simp at hlen;omega)
         exact laid_of hlen3 b0 b1 b2 (by simp [h2]) (by simp [h3]) (by simp [h9]) (by simp [h10]) (by simp [h12]) (B:=H'.length) (m:=H1.length) (bp:=H1.length+1) (by simp) (by omega) (by omega) (by omega) (look_app (List.getElem?_set_self (List.getElem?_eq_some_iff.1 hp1).1) _) (look_app (by rw [List.getElem?_set_ne (by omega)];exact hm1) _) (by simp) (fun k x hk=>look_app (by rw [List.getElem?_set_ne (by have:=(List.getElem?_eq_some_iff.1 hk).1;omega)];exact hkeep k x (look_app hk _)) _) (hrow.keep fun x hne hx=>look_app (by rw [List.getElem?_set_ne (by have:=hob.resolve_left hne;simp at this;omega)];exact hx) _) (hob.imp id fun h=>by first | exact h | (simp at h;omega))
       · refine kCall.acall (hcv _ _) ?_
         rintro v σ' ⟨H',rfl,ob,hrow,hob,hlen,hkeep⟩
         have hb2:=hkeep 2 _ (by first | exact b2 | exact look_app b2 _)
         have hac:=hrow.acells
         have hat:=hrow.atom
         have hm1:H'[H1.length]?=some (.map [] 0):=hkeep _ _ (by simp)
         simp [-acells,-fin,-fin1,-fin2,-pl1,-pl2,-plain,-AV.atom,-getElem?_pos,clsB,hac,hat,hb2,look_app hb2,h12]
         have hge:H1.length≤H'.length:=by first | exact hlen | (simp at hlen;omega)
         refine⟨?_,?_⟩
         · exact laid_of hlen3 b0 b1 b2 (by simp [h2]) (by simp [h3]) (by simp [h9]) (by simp [h10]) (by simp [h12]) (B:=H'.length) (m:=H1.length) (bp:=H'.length+1) (by simp) (by omega) (by omega) (by omega) (by simp) (look_app hm1 _) (by simp) (fun k x hk=>look_app (hkeep k x (by first | exact hk | exact look_app hk _)) _) (hrow.keep fun x _ hx=>look_app hx _) (hob.imp id fun h=>by first | exact h | (simp at h;omega))
         · exact laid_of hlen3 b0 b1 b2 (by simp [h2]) (by simp [h3]) (by simp [h9]) (by simp [h10]) (by simp [h12]) (B:=H'.length+1) (m:=H1.length) (bp:=H'.length) (by simp) (by omega) (by omega) (by omega) (by simp) (look_app hm1 _) (by simp) (fun k x hk=>look_app (hkeep k x (by first | exact hk | exact look_app hk _)) _) (hrow.keep fun x _ hx=>look_app hx _) (hob.imp id fun h=>by first | exact h | (simp at h;omega))
       · refine kCall.acall (hcv _ _) ?_
         rintro v σ' ⟨H',rfl,ob,hrow,hob,hlen,hkeep⟩
         have hb2:=hkeep 2 _ (by first | exact b2 | exact look_app b2 _)
         have hac:=hrow.acells
         have hat:=hrow.atom
         have hm1:H'[H1.length]?=some (.map [] 0):=hkeep _ _ (by simp)
         have hp1:H'[H1.length+1]?=some (.cells [.nilp]):=hkeep _ _ (by simp)
         simp [-acells,-fin,-fin1,-fin2,-pl1,-pl2,-plain,-AV.atom,-getElem?_pos,clsB,hac,hat,hb2,look_app hb2,h12,hp1,look_app hp1,set_left hp1]
         have hge:H1.length≤H'.length:=by first | exact hlen | (simp at hlen;omega)
         exact laid_of hlen3 b0 b1 b2 (by simp [h2]) (by simp [h3]) (by simp [h9]) (by simp [h10]) (by simp [h12]) (B:=H'.length) (m:=H1.length) (bp:=H1.length+1) (by simp) (by omega) (by omega) (by omega) (look_app (List.getElem?_set_self (List.getElem?_eq_some_iff.1 hp1).1) _) (look_app (by rw [List.getElem?_set_ne (by omega)];exact hm1) _) (by simp) (fun k x hk=>look_app (by rw [List.getElem?_set_ne (by have:=(List.getElem?_eq_some_iff.1 hk).1;omega)];exact hkeep k x (look_app hk _)) _) (hrow.keep fun x hne hx=>look_app (by rw [List.getElem?_set_ne (by have:=hob.resolve_left hne;simp at this;omega)];exact hx) _) (hob.imp id fun h=>by first | exact h | (simp at h;omega))
       · refine kCall.acall (hcv _ _) ?_
         rintro v σ' ⟨H',rfl,ob,hrow,hob,hlen,hkeep⟩
         have hb2:=hkeep 2 _ (by first | exact b2 | exact look_app b2 _)
         have hac:=hrow.acells
         have hat:=hrow.atom
         have hm1:H'[H1.length]?=some (.map [] 0):=hkeep _ _ (by simp)
         have hp1:H'[H1.length+1]?=some (.cells [.nilp]):=hkeep _ _ (by simp)
         simp [-acells,-fin,-fin1,-fin2,-pl1,-pl2,-plain,-AV.atom,-getElem?_pos,clsB,hac,hat,hb2,look_app hb2,h12,hp1,look_app hp1,set_left hp1]
         have hge:H1.length≤H'.length:=by first | exact hlen | (simp at hlen;omega)
         exact laid_of hlen3 b0 b1 b2 (by simp [h2]) (by simp [h3]) (by simp [h9]) (by simp [h10]) (by simp [h12]) (B:=H'.length) (m:=H1.length) (bp:=H1.length+1) (by simp) (by omega) (by omega) (by omega) (look_app (List.getElem?_set_self (List.getElem?_eq_some_iff.1 hp1).1) _) (look_app (by rw [List.getElem?_set_ne (by omega)];exact hm1) _) (by simp) (fun k x hk=>look_app (by rw [List.getElem?_set_ne (by have:=(List.getElem?_eq_some_iff.1 hk).1;omega)];exact hkeep k x (look_app hk _)) _) (hrow.keep fun x hne hx=>look_app (by rw [List.getElem?_set_ne (by have:=hob.resolve_left hne;simp at this;omega)];exact hx) _) (hob.imp id fun h=>by first | exact h | (simp at h;omega))
       · refine kCall.acall (hcv _ _) ?_
         rintro v σ' ⟨H',rfl,ob,hrow,hob,hlen,hkeep⟩
         have hb2:=hkeep 2 _ (by first | exact b2 | exact look_app b2 _)
         have hac:=hrow.acells
         have hat:=hrow.atom
         have hp1:H'[H1.length]?=some (.cells [.nilp]):=hkeep _ _ (by simp)
         simp [-acells,-fin,-fin1,-fin2,-pl1,-pl2,-plain,-AV.atom,-getElem?_pos,clsB,hac,hat,hb2,look_app hb2,h12,hp1,look_app hp1,set_left hp1]
         have hge:H1.length≤H'.length:=by first | exact hlen | (simp at hlen;omega)
         exact laid_of hlen3 b0 b1 b2 (by simp [h2]) (by simp [h3]) (by simp [h9]) (by simp [h10]) (by simp [h12]) (B:=H'.length+1) (m:=H'.length) (bp:=H1.length) (by simp) (by omega) (by omega) (by omega) (look_app (List.getElem?_set_self (List.getElem?_eq_some_iff.1 hp1).1) _) (by simp) (by simp) (fun k x hk=>look_app (by rw [List.getElem?_set_ne (by have:=(List.getElem?_eq_some_iff.1 hk).1;omega)];exact hkeep k x (look_app hk _)) _) (hrow.keep fun x hne hx=>look_app (by rw [List.getElem?_set_ne (by have:=hob.resolve_left hne;simp at this;omega)];exact hx) _) (hob.imp id fun h=>by first | exact h | (simp at h;omega))
       · refine kCall.acall (hcv _ _) ?_
         rintro v σ' ⟨H',rfl,ob,hrow,hob,hlen,hkeep⟩
         have hb2:=hkeep 2 _ (by first | exact b2 | exact look_app b2 _)
         have hac:=hrow.acells
         have hat:=hrow.atom
         have hm1:H'[H1.length+1]?=some (.map [] 0):=hkeep _ _ (by simp)
         have hp1:H'[H1.length]?=some (.cells [.nilp]):=hkeep _ _ (by simp)
         simp [-acells,-fin,-fin1,-fin2,-pl1,-pl2,-plain,-AV.atom,-getElem?_pos,clsB,hac,hat,hb2,look_app hb2,h12,hp1,look_app hp1,set_left hp1]
         have hge:H1.length≤H'.length:=by first | exact hlen | (simp at hlen;omega)
         exact laid_of hlen3 b0 b1 b2 (by simp [h2]) (by simp [h3]) (by simp [h9]) (by simp [h10]) (by simp [h12]) (B:=H'.length) (m:=H1.length+1) (bp:=H1.length) (by simp) (by omega) (by omega) (by omega) (look_app (List.getElem?_set_self (List.getElem?_eq_some_iff.1 hp1).1) _) (look_app (by rw [List.getElem?_set_ne (by omega)];exact hm1) _) (by simp) (fun k x hk=>look_app (by rw [List.getElem?_set_ne (by have:=(List.getElem?_eq_some_iff.1 hk).1;omega)];exact hkeep k x (look_app hk _)) _) (hrow.keep fun x hne hx=>look_app (by rw [List.getElem?_set_ne (by have:=hob.resolve_left hne;simp at this;omega)];exact hx) _) (hob.imp id fun h=>by first | exact h | (simp at h;omega))
       · refine kCall.acall (hcv _ _) ?_
         rintro v σ' ⟨H',rfl,ob,hrow,hob,hlen,hkeep⟩
         have hb2:=hkeep 2 _ (by first | exact b2 | exact look_app b2 _)
         have hac:=hrow.acells
         have hat:=hrow.atom
         have hp1:H'[H1.length]?=some (.cells [.nilp]):=hkeep _ _ (by simp)
         simp [-acells,-fin,-fin1,-fin2,-pl1,-pl2,-plain,-AV.atom,-getElem?_pos,clsB,hac,hat,hb2,look_app hb2,h12,hp1,look_app hp1,set_left hp1]
         have hge:H1.length≤H'.length:=by first | exact hlen | (simp at hlen;omega)
         exact laid_of hlen3 b0 b1 b2 (by simp [h2]) (by simp [h3]) (by simp [h9]) (by simp [h10]) (by simp [h12]) (B:=H'.length+1) (m:=H'.length) (bp:=H1.length) (by simp) (by omega) (by omega) (by omega) (look_app (List.getElem?_set_self (List.getElem?_eq_some_iff.1 hp1).1) _) (by simp) (by simp) (fun k x hk=>look_app (by rw [List.getElem?_set_ne (by have:=(List.getElem?_eq_some_iff.1 hk).1;omega)];exact hkeep k x (look_app hk _)) _) (hrow.keep fun x hne hx=>look_app (by rw [List.getElem?_set_ne (by have:=hob.resolve_left hne;simp at this;omega)];exact hx) _) (hob.imp id fun h=>by first | exact h | (simp at h;omega))
       · refine kCall.acall (hcv _ _) ?_
         rintro v σ' ⟨H',rfl,ob,hrow,hob,hlen,hkeep⟩
         have hb2:=hkeep 2 _ (by first | exact b2 | exact look_app b2 _)
         have hac:=hrow.acells
         have hat:=hrow.atom
         have hm1:H'[H1.length+1]?=some (.map [] 0):=hkeep _ _ (by simp)
         have hp1:H'[H1.length]?=some (.cells [.nilp]):=hkeep _ _ (by simp)
         simp [-acells,-fin,-fin1,-fin2,-pl1,-pl2,-plain,-AV.atom,-getElem?_pos,clsB,hac,hat,hb2,look_app hb2,h12,hp1,look_app hp1,set_left hp1]
         have hge:H1.length≤H'.length:=by first | exact hlen | (simp at hlen;omega)
         exact laid_of hlen3 b0 b1 b2 (by simp [h2]) (by simp [h3]) (by simp [h9]) (by simp [h10]) (by simp [h12]) (B:=H'.length) (m:=H1.length+1) (bp:=H1.length) (by simp) (by omega) (by omega) (by omega) (look_app (List.getElem?_set_self (List.getElem?_eq_some_iff.1 hp1).1) _) (look_app (by rw [List.getElem?_set_ne (by omega)];exact hm1) _) (by simp) (fun k x hk=>look_app (by rw [List.getElem?_set_ne (by have:=(List.getElem?_eq_some_iff.1 hk).1;omega)];exact hkeep k x (look_app hk _)) _) (hrow.keep fun x hne hx=>look_app (by rw [List.getElem?_set_ne (by have:=hob.resolve_left hne;simp at this;omega)];exact hx) _) (hob.imp id fun h=>by first | exact h | (simp at h;omega))
       · refine kCall.acall (hcv _ _) ?_
         rintro v σ' ⟨H',rfl,ob,hrow,hob,hlen,hkeep⟩
         have hb2:=hkeep 2 _ (by first | exact b2 | exact look_app b2 _)
         have hac:=hrow.acells
         have hat:=hrow.atom
         have hm1:H'[H1.length+1]?=some (.map [] 0):=hkeep _ _ (by simp)
         have hp1:H'[H1.length]?=some (.cells [.nilp]):=hkeep _ _ (by simp)
         simp [-acells,-fin,-fin1,-fin2,-pl1,-pl2,-plain,-AV.atom,-getElem?_pos,clsB,hac,hat,hb2,look_app hb2,h12,hp1,look_app hp1,set_left hp1]
         have hge:H1.length≤H'.length:=by first | exact hlen | (simp at hlen;omega)
         exact laid_of hlen3 b0 b1 b2 (by simp [h2]) (by simp [h3]) (by simp [h9]) (by simp [h10]) (by simp [h12]) (B:=H'.length) (m:=H1.length+1) (bp:=H1.length) (by simp) (by omega) (by omega) (by omega) (look_app (List.getElem?_set_self (List.getElem?_eq_some_iff.1 hp1).1) _) (look_app (by rw [List.getElem?_set_ne (by omega)];exact hm1) _) (by simp) (fun k x hk=>look_app (by rw [List.getElem?_set_ne (by have:=(List.getElem?_eq_some_iff.1 hk).1;omega)];exact hkeep k x (look_app hk _)) _) (hrow.keep fun x hne hx=>look_app (by rw [List.getElem?_set_ne (by have:=hob.resolve_left hne;simp at this;omega)];exact hx) _) (hob.imp id fun h=>by first | exact h | (simp at h;omega))
     · clear h2 h3 h9 h10 h12 h30 h31 h32 hz b0 b1 b2
       rintro ev ⟨H2,T2⟩ ⟨h2,h3,h9,h10,h12,b0,b1,b2,B,m,bp,vb,vv,h16,g1,g2,g3,g4,g5,g6,hvb,hbp,hm,hB,hown⟩
       simp only at b0 b1 b2 hbp hm hB hown
       have hls:(listsC c off more).length≤25:=by
        have:=hc.nb
        have h1:=List.length_filter_le (onB off) c.blocks
        simp only [listsC,List.length_append,List.length_map,List.length_singleton]
        omega
       have hcon:=constraints46 c off more (by have:=hc.nb;omega) hoff H2 T2 B _ _ _ _ _ _ _ _ _ hB
       simp [-acells,-fin,-fin1,-fin2,-pl1,-pl2,-plain,-AV.atom,-getElem?_pos,h2,h3,h16,hbp]
       refine kCall.acall hcon ?_
       rintro v σ' ⟨rfl,t,T3,rfl,hT3⟩
       simp [-acells,-fin,-fin1,-fin2,-pl1,-pl2,-plain,-AV.atom,-getElem?_pos,h2,h3,h16,h9,h10,h12,hbp,look_app hbp]
       have hl1:(varsC c).length≤1000:=varsC_len hc
       have hw1:∀ v∈varsC c,0≤v.width∧v.width≤8:=varsC_wid hc
       have lB:=(List.getElem?_eq_some_iff.1 hB).1
       have lm:=(List.getElem?_eq_some_iff.1 hm).1
       have lp:=(List.getElem?_eq_some_iff.1 hbp).1
       obtain⟨vb',hown',hvb'⟩:∃ vb',OwnAt vb' 4 encVar H2 vv (varsC c)∧(vb'=H2.length+t.length+100∨(3≤vb'∧vb' < H2.length∧vb'≠B∧vb'≠bp∧vb'≠m)):=by
        by_cases hV:varsC c=[]
        · refine⟨_,?_,.inl rfl⟩
          rcases hown with h|⟨h,_⟩
          · exact .inl h
          · exact absurd hV h
        · obtain⟨k1,k2,k3,k4⟩:=hvb hV
          exact⟨vb,hown,.inr ⟨k1,hown.lt hV,k2,k3,k4⟩⟩
       have hBX:BX [] B vb' m c (varsC c) ⟨H2++(t++[.cells [.sl 1 ((listsC c off more).map encIts) .none],.cells [.sl 0 [] .nil]]),T3⟩ [] [] 0 [] 0 :=
        ⟨⟨vv,.sl 0 [] .nil,look_app hB _,hown'.keep fun x _ hx=>look_app hx _,.inl ⟨rfl,rfl⟩⟩,look_app hm _,AfterOk.nil,List.nil_prefix⟩
       have hans:=answers_build c off more state
       rw [← hE] at hans
       have hbd:=build50 (B:=B) (vb:=vb') (m:=m) hc hl1 hw1 (listsC c off more) hls hfew state hst (H2++(t++[.cells [.sl 1 ((listsC c off more).map encIts) .none],.cells [.sl 0 [] .nil]])) T3 (H2.length+t.length) 2 (H2.length+(t.length+1)) bp 0 1 0 0 (by simp) (look_app b2 _) (by simp) (look_app hbp _) (look_app b0 _) ⟨_,look_app b1 _,rfl⟩
        (by
          intro k hk
          simp only [List.mem_cons,List.not_mem_nil,or_false] at hk ⊢
          omega) (by omega) (by omega) hBX .tight
       rw [← hans] at hbd
       refine kCall.acall hbd ?_
       rintro v ⟨H5,T5⟩ ⟨rfl,⟨z,hz1,hz2⟩,hpost⟩
       simp only at hz1
       obtain⟨z0,z1,z2,z3,z4,rfl⟩:∃ z0 z1 z2 z3 z4,z=[z0,z1,z2,z3,z4]:=by
        match z,hz2 with
        | [z0,z1,z2,z3,z4],_=>exact⟨z0,z1,z2,z3,z4,rfl⟩
       have hz1l:=(List.getElem?_eq_some_iff.1 hz1).1
       have sz1:=fun y:Blk=>(by have:=set_look (y:=y) (t:=[]) hz1;simpa using this:(H5.set 1 y)[1]?=some y)
       by_cases h0:pe=0
       · obtain⟨hbp5,vb5,hb,sb,gb,m5,vv5,hv,sv,dv,gvv,hC,hV5,hH5,hS5,hD5,hG5,hgb5⟩:=hpost h0
         simp only at hbp5 hC hV5 hH5 hS5 hG5
         have d1:acells dv=some [dv]:=by obtain⟨sz,tok,rfl,_⟩:=hD5;rfl
         have d2:acells gvv=some [gvv]:=by obtain⟨ps,tl,rfl,_⟩:=hG5;rfl
         have d3:AV.atom dv=true:=by obtain⟨sz,tok,rfl,_⟩:=hD5;rfl
         have d4:AV.atom gvv=true:=by obtain⟨ps,tl,rfl,_⟩:=hG5;rfl
         simp [-acells,-fin,-fin1,-fin2,-pl1,-pl2,-plain,-AV.atom,-getElem?_pos,h0,h16,h10,hbp5,hC,hz1,sz1,hV5.acells,hH5.acells,hS5.acells,d1,d2,hV5.atom,hH5.atom,hS5.atom,d3,d4]
         have hPS:PS=buildP c off more state:=by rw [hS,if_neg (by simp [h0])]
         rw [hPS]
         obtain⟨r1,r2⟩:=frz_done (H:=H5.set 1 (.cells [vv5,hv,sv,dv,gvv])) (p:=buildP c off more state) (hV5.keep fun x hne hx=>by rw [List.getElem?_set_ne (Ne.symm (own_five hV5 (fun x=>by simp) hne hz1))];exact hx) (hH5.keep fun x hne hx=>by rw [List.getElem?_set_ne (Ne.symm (own_five hH5 encE_len hne hz1))];exact hx) (hS5.keep fun x hne hx=>by rw [List.getElem?_set_ne (Ne.symm (own_five hS5 encE_len hne hz1))];exact hx) hD5 (hG5.keep fun x hx=>by rw [List.getElem?_set_ne (Ne.symm hgb5)];exact hx) 4
         rw [frz_tupE]
         simp only [List.map_cons,List.map_nil,frz_int]
         simp only [encP] at r2
         exact⟨by simp only [noRef,noRefs,r1,Bool.and_true],by simp only [Leq,LeqL,and_true];exact r2⟩
       · have hz0:=hzp pe rfl h0
         subst hz0
         simp [-acells,-fin,-fin1,-fin2,-pl1,-pl2,-plain,-AV.atom,-getElem?_pos,h0,h16,h10,hz1,sz1,zProb]
         exact zfin _ _
 · rw [if_pos hl] at hE
   have hz:=hzp le hE hl
   subst hE hz
   simp [-acells,-fin,-fin1,-fin2,-pl1,-pl2,-plain,-AV.atom,-getElem?_pos,hl,zProb]
   exact zfin _ _
section
theorem encI_cut (x:It):((encI x).drop 1).take 4=encE x.expr∧(encI x).take 1=[.int .i64 x.kind]∧((encI x).drop 5).take 1=[.str x.name]∧((encI x).drop 6).take 1=[.str x.index]∧((encI x).drop 7).take 1=[.sl 4 (x.ws.map encWeight) .none]∧((encI x).drop 8).take 1=[.sl 12 (x.items.map encI) .none]∧((encI x).drop 9).take 1=[.sl 12 (x.els.map encI) .none]∧((encI x).drop 10).take 1=[.sl 1 (x.before.map encStr) .none]∧((encI x).drop 11).take 1=[.sl 1 (x.after.map encStr) .none]:=by
 rw [encI_eq,encE_eq]
 exact⟨rfl,rfl,rfl,rfl,rfl,rfl,rfl,rfl,rfl⟩
theorem cutI_expr (x:It):((encI x).tail).take 4=encE x.expr:=by rw [← List.drop_one];exact (encI_cut x).1
theorem cutI_kind (x:It):(encI x).take 1=[.int .i64 x.kind]:=(encI_cut x).2.1
theorem cutI_name (x:It):((encI x).drop 5).take 1=[.str x.name]:=(encI_cut x).2.2.1
theorem cutI_index (x:It):((encI x).drop 6).take 1=[.str x.index]:=(encI_cut x).2.2.2.1
theorem cutI_ws (x:It):((encI x).drop 7).take 1=[.sl 4 (x.ws.map encWeight) .none]:=(encI_cut x).2.2.2.2.1
theorem cutI_items (x:It):((encI x).drop 8).take 1=[.sl 12 (x.items.map encI) .none]:=(encI_cut x).2.2.2.2.2.1
theorem cutI_els (x:It):((encI x).drop 9).take 1=[.sl 12 (x.els.map encI) .none]:=(encI_cut x).2.2.2.2.2.2.1
theorem cutI_before (x:It):((encI x).drop 10).take 1=[.sl 1 (x.before.map encStr) .none]:=(encI_cut x).2.2.2.2.2.2.2.1
theorem cutI_after (x:It):((encI x).drop 11).take 1=[.sl 1 (x.after.map encStr) .none]:=(encI_cut x).2.2.2.2.2.2.2.2
attribute [local simp high] acells_encE acells_encI
attribute [local simp] acells_int acells_str acells_bool acells_sl acells_agg encE_atoms encE_len putAt_encE putAt_encE2 take_encE encI_len encI_atoms take_encI cutI_expr cutI_kind cutI_name cutI_index cutI_ws cutI_items cutI_els cutI_before cutI_after
def fewN:Nat→List It→Bool
 | 0,_=>false
 | r+1,l=>decide (l.length≤8)&&l.all fun x=>briefS x.expr 0&&decide (x.ws.length≤20)&&decide (x.before.length≤8)&&decide (x.after.length≤8)&&fewN r x.items&&fewN r x.els
theorem HoldI.self {x:It} (h:HoldI x):Hold1 x:=h x (by rw [preI_eq];simp)
theorem HoldI.item {x a:It} (h:HoldI x) (ha:a∈x.items):HoldI a:=fun y hy=>h y (by rw [preI_eq];exact List.mem_cons_of_mem _ (List.mem_append_left _ (mem_preIL.2 ⟨a,ha,hy⟩)))
theorem HoldI.else {x a:It} (h:HoldI x) (ha:a∈x.els):HoldI a:=fun y hy=>h y (by rw [preI_eq];exact List.mem_cons_of_mem _ (List.mem_append_right _ (mem_preIL.2 ⟨a,ha,hy⟩)))
set_option maxHeartbeats 4000000 in
theorem few38:∀ (r:Nat) (l:List It),r≤5→Fits l→(∀ x∈l,HoldI x)→Pure Tryz.prog GG 38 [.sl 12 (l.map encI) .none,.int .i64 ((5-r:Nat):Int)] (.bool (fewN r l)):=by
 intro r
 induction r with
 | zero=>
  intro l _ hl _
  refine Pure.vc mixed Tryz.func38 rfl (by kernel_rfl) ?_
  by_cases h8:8<l.length
  · have h8':(8:Int)<l.length:=by omega
    simp [-acells,fewN,h8']
  · have h8':¬ (8:Int)<l.length:=by omega
    simp [-acells,fewN,h8']
 | succ r ihr=>
  intro l hr5 hl hh
  refine Pure.vc mixed Tryz.func38 rfl (by kernel_rfl) ?_
  have hd:¬ (4:Int)<((5-(r+1):Nat):Int):=by omega
  have hd1:IntKind.i64.wrap (((5-(r+1):Nat):Int)+1)=((5-r:Nat):Int):=by rw [wr (by omega) (by omega)];omega
  have he:fewN (r+1) l=(decide (l.length≤8)&&l.all fun x=>briefS x.expr 0&&decide (x.ws.length≤20)&&decide (x.before.length≤8)&&decide (x.after.length≤8)&&fewN r x.items&&fewN r x.els):=rfl
  generalize fewN (r+1) l=res at he
  generalize ((5-(r+1):Nat):Int)=D at hd hd1
  by_cases h8:8<l.length
  · have h8':(8:Int)<l.length:=by omega
    rw [decide_eq_false (by omega:¬ l.length≤8)] at he
    simp at he
    subst he
    simp [-acells,h8']
  have h8':¬ (8:Int)<l.length:=by omega
  rw [decide_eq_true (by omega:l.length≤8),Bool.true_and] at he
  simp [-acells,h8',hd]
  refine vcLoop.intro (fun n ev σ=>∃ i,i≤l.length∧n=l.length-i∧ev 0=.sl 12 (l.map encI) .none∧ev 1=.int .i64 D∧ev 5=.int .i64 i∧σ=⟨[],[]⟩∧∀ x∈l.take i,(briefS x.expr 0&&decide (x.ws.length≤20)&&decide (x.before.length≤8)&&decide (x.after.length≤8)&&fewN r x.items&&fewN r x.els)=true) l.length ⟨0,by simp,by simp,by simp,by simp,by simp,rfl,by simp⟩ ?_
  rintro n ev σ ⟨i,hi,rfl,h0,h1,h5,rfl,hz⟩
  cases hvi:l[i]? with
  | some x=>
   obtain⟨hc,hv'⟩:=List.getElem?_eq_some_iff.1 hvi
   have hm:=List.mem_of_getElem? hvi
   have hx:=hh x hm
   have hx1:=hx.self
   have bad:(briefS x.expr 0&&decide (x.ws.length≤20)&&decide (x.before.length≤8)&&decide (x.after.length≤8)&&fewN r x.items&&fewN r x.els)=false→res=false:=fun hb=>by rw [he];exact all_bad hm hb
   have hbr:=brief29 x.expr hx1.expr 0 (by omega)
   have hi1:=ihr x.items (by omega) hx1.items fun y hy=>hx.item hy
   have hi2:=ihr x.els (by omega) hx1.els fun y hy=>hx.else hy
   simp [-acells,h0,h1,h5,hc,hv']
   refine vcCall.call hbr (by simp) ?_
   cases hb:briefS x.expr 0
   · rw [bad (by rw [hb];simp)]
     simp [-acells]
   rw [hb] at bad
   by_cases c1:20<x.ws.length
   · have c1':(20:Int)<x.ws.length:=by omega
     rw [bad (by rw [decide_eq_false (by omega:¬ x.ws.length≤20)];simp)]
     simp [-acells,h0,h5,hc,hv',c1']
   have c1':¬ (20:Int)<x.ws.length:=by omega
   by_cases c2:8<x.before.length
   · have c2':(8:Int)<x.before.length:=by omega
     rw [bad (by rw [decide_eq_false (by omega:¬ x.before.length≤8)];simp)]
     simp [-acells,h0,h5,hc,hv',c1',c2']
   have c2':¬ (8:Int)<x.before.length:=by omega
   by_cases c3:8<x.after.length
   · have c3':(8:Int)<x.after.length:=by omega
     rw [bad (by rw [decide_eq_false (by omega:¬ x.after.length≤8)];simp)]
     simp [-acells,h0,h5,hc,hv',c1',c2',c3']
   have c3':¬ (8:Int)<x.after.length:=by omega
   simp [-acells,h0,h1,h5,hc,hv',c1',c2',c3',hd1]
   refine vcCall.call hi1 (by simp) ?_
   cases hf1:fewN r x.items
   · rw [bad (by rw [hf1];simp)]
     simp [-acells]
   simp [-acells,h0,h1,h5,hc,hv',hd1]
   refine vcCall.call hi2 (by simp) ?_
   cases hf2:fewN r x.els
   · rw [bad (by rw [hf2];simp)]
     simp [-acells]
   simp [-acells,h0,h1,h5]
   refine⟨_,by omega,i+1,by omega,rfl,wr (by omega) (by omega),?_⟩
   have good:(briefS x.expr 0&&decide (x.ws.length≤20)&&decide (x.before.length≤8)&&decide (x.after.length≤8)&&fewN r x.items&&fewN r x.els)=true:=by
    rw [hb,hf1,hf2,decide_eq_true (by omega:x.ws.length≤20),decide_eq_true (by omega:x.before.length≤8),decide_eq_true (by omega:x.after.length≤8)];rfl
   have:=take_succ_all (p:=fun x:It=>(briefS x.expr 0&&decide (x.ws.length≤20)&&decide (x.before.length≤8)&&decide (x.after.length≤8)&&fewN r x.items&&fewN r x.els)=true) hvi hz good
   simpa using this
  | none=>
   have hle:l.length≤i:=by simpa using hvi
   have hc:¬ i<l.length:=by omega
   have hall:=all_take (p:=fun x:It=>briefS x.expr 0&&decide (x.ws.length≤20)&&decide (x.before.length≤8)&&decide (x.after.length≤8)&&fewN r x.items&&fewN r x.els) hle hz
   rw [hall] at he
   subst he
   simp [-acells,h0,h1,h5,hc]
end
end Go.Proofs.YtpgcmnabljandaaGreatDoor
end
