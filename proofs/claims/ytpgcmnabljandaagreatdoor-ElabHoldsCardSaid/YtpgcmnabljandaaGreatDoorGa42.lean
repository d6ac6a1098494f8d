/- A part of the proof: Walk66 Walk67 Walk68 Walk69 Walk70 AbsItem2 AbsBuild. -/
import Derived.Test.YtpgcmnabljandaaGreatDoorGa31
import Derived.Test.YtpgcmnabljandaaGreatDoorGa41
import Derived.Test.YtpgcmnabljandaaGreatDoorGa15
import Derived.Test.YtpgcmnabljandaaGreatDoorGa29
import Derived.Test.YtpgcmnabljandaaGreatDoorGa18
set_option linter.unusedVariables false
set_option linter.unusedSimpArgs false
set_option maxRecDepth 100000
section
namespace Go.Proofs.YtpgcmnabljandaaGreatDoor
open Go Go.Abs
structure Few (l:List It):Prop where
 hold:∀ y∈preIL l,Hold1 y
 low:∀ y∈preIL l,Low1 y
 len:l.length≤1000
 all:(preIL l).length≤900000
 size:∀ y∈preIL l,(pre y.expr).length≤1000
theorem Few.holdI {l:List It} (h:Few l):∀ x∈l,HoldI x:=fun x hx y hy=>h.hold y (mem_preIL.2 ⟨x,hx,hy⟩)
theorem visitP {good:It→Prop} {f:It→Place→Int} {vf:FuncId} (h:∀ x p,p.depth≤1000000000→good x→Pure Tryz.prog GG vf [.agg (encI x),.agg (encPl p)] (.int .i64 (f x p))) {S:St→Prop}:VisitOk f vf [] [] S good:=by
 intro x p σ hg hd _ _
 exact ACall.call (h x p hd hg) (by simp [encPl]) ⟨rfl,Ext.refl⟩
theorem valid177 (l:List It) (h:Few l):Pure Tryz.prog GG 177 [.sl 12 (l.map encI) .none] (.int .i64 (validI l)):=by
 refine Pure.k mixed Tryz.func177 rfl (by kernel_rfl) ?_
 have hr:validI l=if 64<sizeIS l then 2 else firstE (fun y=>shapeE y.1 y.2.depth) (visIs ⟨0,[]⟩ l):=rfl
 generalize validI l=r at hr
 have hfit:Fits l:=by have:=h.len;unfold Fits;omega
 simp [-acells,-fin,-fin1,-fin2,-pl1,-pl2,-plain,-AV.atom,-getElem?_pos]
 refine kCall.call (size243 l hfit h.holdI) (by simp) ?_
 by_cases h64:64<sizeIS l
 · rw [if_pos h64] at hr
   subst hr
   simp [-acells,-fin,-fin1,-fin2,-pl1,-pl2,-plain,-AV.atom,-getElem?_pos,h64]
 · rw [if_neg h64] at hr
   subst hr
   simp [-acells,-fin,-fin1,-fin2,-pl1,-pl2,-plain,-AV.atom,-getElem?_pos,h64]
   have hw:=walk178 (f:=fun x p=>shapeE x p.depth) (vf:=244) (first:=[]) (cap:=[]) (S:=fun _=>True) (good:=fun x=>Hold1 x∧Low1 x∧(pre x.expr).length≤1000) (fun _ _ _ _=>trivial)
    (visitP fun x p hd hg=>shape244 x p hg.1 hg.2.1 hd (by have:=hgt_pre x.expr;have:=hg.2.2;omega)) l (fun y hy=>⟨h.hold y hy,h.low y hy,h.size y hy⟩) (fun y hy=>⟨(h.hold y hy).items,(h.hold y hy).els⟩) hfit
   refine kCall.acall ((hw ⟨0,[]⟩ _ (by have:=h.all;simp;omega) (by have:=h.all;simp;omega) trivial).leq (by simp [encPl,LeqL,Leq])) ?_
   rintro v ⟨H,T⟩ ⟨rfl,_⟩
   simp [-acells,-fin,-fin1,-fin2,-pl1,-pl2,-plain,-AV.atom,-getElem?_pos]
def KVat (es:List (AV×AV×Nat)) (s:Str):Option Int→Prop
 | some n=>∃ j,findA (.str s) es 0=some (some (j,.int .i64 n))
 | none=>findA (.str s) es 0=some none
def KV (es:List (AV×AV×Nat)) (F:Flds):Prop:=∀ s,KVat es s (F s)
theorem findA_app (k:AV) (e:AV×AV×Nat):∀ (es:List (AV×AV×Nat)) (i:Nat),findA k (es++[e]) i=(match findA k es i with | some none=>(match keyEq k e.1 with | some true=>some (some (i+es.length,e.2.1)) | some false=>some none | none=>none) | r=>r)
 | [],i=>by
  obtain⟨a,b,c⟩:=e
  simp only [List.nil_append,findA]
  cases keyEq k a with
  | none=>rfl
  | some b=>cases b<;>rfl
 | (a,b,c)::r,i=>by
  simp only [List.cons_append,findA]
  cases keyEq k a with
  | none=>rfl
  | some q=>
   cases q with
   | true=>rfl
   | false=>
    simp only [findA_app k e r (i+1),List.length_cons]
    rw [show i+1+r.length=i+(r.length+1) by omega]
theorem KV.add {es:List (AV×AV×Nat)} {F:Flds} (h:KV es F) {s0:Str} {n:Int} {c:Nat} (h0:F s0=none):KV (es++[(.str s0,.int .i64 n,c)]) (fun s=>if s=s0 then some n else F s):=by
 intro s
 have hs:=h s
 show KVat _ s (if s=s0 then some n else F s)
 by_cases e:s=s0
 · subst e
   rw [h0] at hs
   simp only [KVat] at hs
   rw [if_pos rfl]
   exact⟨es.length,by rw [findA_app,hs];simp [keyEq]⟩
 · rw [if_neg e]
   have hk:keyEq (.str s) (.str s0)=some false:=by simp [keyEq,e]
   cases hF:F s with
   | none=>
    rw [hF] at hs
    simp only [KVat] at hs ⊢
    rw [findA_app,hs]
    simp only [hk]
   | some m=>
    rw [hF] at hs
    obtain⟨j,hj⟩:=hs
    exact⟨j,by rw [findA_app,hj]⟩
theorem look147 {es:List (AV×AV×Nat)} {F:Flds} (h:KV es F) {H:List Blk} {T:List (Option Nat)} {b clk:Nat} (hb:H[b]?=some (.map es clk)) (s:Str) (ok:Bool) :
 lookupA (Dof Tryz.prog) ⟨H,T⟩ 147 (.map b) (.str s) ok=some (if ok=true then .tup [.int .i64 ((F s).getD 0),.bool (F s).isSome] else .int .i64 ((F s).getD 0)):=by
 have hs:=h s
 simp only [lookupA,D147,mapKeyOk,D9,hb]
 cases hF:F s with
 | none=>
  rw [hF] at hs
  simp only [KVat] at hs
  rw [hs]
  cases ok<;>simp [zeroA]
 | some n=>
  rw [hF] at hs
  obtain⟨j,hj⟩:=hs
  rw [hj]
  cases ok<;>simp
theorem upd147 {es:List (AV×AV×Nat)} {F:Flds} (h:KV es F) {H:List Blk} {T:List (Option Nat)} {b clk:Nat} (hb:H[b]?=some (.map es clk)) {s:Str} (h0:F s=none) (n:Int) :
 mapUpdateA (Dof Tryz.prog) ⟨H,T⟩ 147 (.map b) (.str s) (.int .i64 n)=some ⟨H.set b (.map (es++[(.str s,.int .i64 n,clk)]) (clk+1)),T⟩:=by
 have hs:=h s
 rw [h0] at hs
 simp only [KVat] at hs
 simp only [mapUpdateA,D147,mapKeyOk,D9,hb,hs]
 simp
def MapF (H:List Blk) (b:Nat) (F:Flds):Prop:=∃ es clk,H[b]?=some (.map es clk)∧KV es F
theorem MapF.ext {σ σ':St} {b:Nat} {F:Flds} (h:MapF σ.H b F) (he:Ext σ σ'):MapF σ'.H b F:=by
 obtain⟨es,clk,h1,h2⟩:=h
 exact⟨es,clk,he.at h1,h2⟩
theorem MapF.app {H t:List Blk} {b:Nat} {F:Flds} (h:MapF H b F):MapF (H++t) b F:=by
 obtain⟨es,clk,h1,h2⟩:=h
 exact⟨es,clk,look_app h1 _,h2⟩
def fldsL (l:List Fld):Flds:=fun s=>(l.find? fun f=>f.name==s).map Fld.size
theorem fldsL_snoc {d:List Fld} {v:Fld} (s:Str):fldsL (d++[v]) s=match fldsL d s with
 | some n=>some n
 | none=>if v.name=s then some v.size else none:=by
 unfold fldsL
 rw [List.find?_append]
 cases h:d.find? (fun f=>f.name==s) with
 | some x=>simp
 | none=>
  by_cases e:v.name=s
  · simp [e]
  · have:(v.name==s)=false:=by simpa using e
    simp [e,this]
theorem fldsL_old {d:List Fld} {v:Fld} {n:Int} (h:fldsL d v.name=some n):fldsL (d++[v])=fldsL d:=by
 funext s
 rw [fldsL_snoc]
 cases hs:fldsL d s with
 | some m=>rfl
 | none=>
  have:¬ v.name=s:=by rintro rfl;rw [hs] at h;cases h
  simp [this]
theorem fldsL_new {d:List Fld} {v:Fld} (h:fldsL d v.name=none):fldsL (d++[v])=fun s=>if s=v.name then some v.size else fldsL d s:=by
 funext s
 rw [fldsL_snoc]
 by_cases e:s=v.name
 · subst e;simp [h]
 · have e':¬ v.name=s:=fun h=>e h.symm
   simp only [if_neg e,if_neg e']
   cases fldsL d s<;>rfl
set_option maxHeartbeats 4000000 in
theorem of103 (c:Cls) (hf:Fits c.fields) (σ:St):ACall Tryz.prog GG 103 [.agg (encCls c)] σ (fun r σ'=>∃ b,r=.map b∧MapF σ'.H b (fldsOf c)∧Ext σ σ'):=by
 refine ACall.k mixed Tryz.func103 rfl (by kernel_rfl) ?_
 obtain⟨H,T⟩:=σ
 simp [-acells,-fin,-fin1,-fin2,-pl1,-pl2,-plain,-AV.atom,-getElem?_pos]
 refine kLoop.listR c.fields (fun d ev σ=>ev 3=.map (H.length+1)∧ev 10=.sl 5 (c.fields.map encFld) .none∧ev 11=.int .i64 c.fields.length∧ev 12=.int .i64 d.length∧∃ es clk t,KV es (fldsL d)∧σ=⟨H++.cells (encCls c)::.map es clk::t,T⟩) ?_ ?_ ?_
 · refine⟨by simp,by simp,by simp,by simp,[],0,[],fun s=>rfl,by simp⟩
 · rintro d v r ev σ R hR hd hv hlt ⟨h3,h10,h11,h12,es,clk,t,hkv,rfl⟩
   have hb:(H++.cells (encCls c)::.map es clk::t)[H.length+1]?=some (.map es clk):=by simp
   have lk:=fun (H':List Blk) (T':List (Option Nat)) (b:Nat) (s:Str) (ok:Bool) (h:H'[b]?=some (.map es clk))=>look147 hkv (T:=T') h s ok
   simp [-acells,-fin,-fin1,-fin2,-pl1,-pl2,-plain,-AV.atom,-getElem?_pos,h3,h10,h11,h12,hlt,hv]
   cases hF:fldsL d v.name with
   | some n=>
    simp [-acells,-fin,-fin1,-fin2,-pl1,-pl2,-plain,-AV.atom,-getElem?_pos,lk,hF,h3,h10,h11,h12]
    exact hR _ _ ⟨by simp [h3],by simp [h10],by simp [h11],by simp [h12];exact wr (by omega) (by omega),es,clk,_,by rw [fldsL_old hF];exact hkv,rfl⟩
   | none=>
    have up:=fun (H':List Blk) (T':List (Option Nat)) (b:Nat) (h:H'[b]?=some (.map es clk))=>upd147 hkv (T:=T') h hF v.size
    simp [-acells,-fin,-fin1,-fin2,-pl1,-pl2,-plain,-AV.atom,-getElem?_pos,lk,up,hF,h3,h10,h11,h12]
    exact hR _ _ ⟨by simp [h3],by simp [h10],by simp [h11],by simp [h12];exact wr (by omega) (by omega),_,_,_,by rw [fldsL_new hF];exact hkv.add hF,rfl⟩
 · rintro ev σ ⟨h3,h10,h11,h12,es,clk,t,hkv,rfl⟩
   simp [-acells,-fin,-fin1,-fin2,-pl1,-pl2,-plain,-AV.atom,-getElem?_pos,h3,h11,h12]
   exact⟨⟨es,clk,by simp,hkv⟩,⟨_,[],by simp;rfl⟩⟩
section
section
variable {F:Flds} {b:Nat} {H:List Blk} {T:List (Option Nat)}
theorem array248 (s:Str) (hm:MapF H b F):ACall Tryz.prog GG 248 [.map b,.str s] ⟨H,T⟩ (fun r σ'=>r=.int .i64 (arrF F s)∧σ'=⟨H,T⟩):=by
 refine ACall.k mixed Tryz.func248 rfl (by kernel_rfl) ?_
 obtain⟨es,clk,hb,hkv⟩:=hm
 have lk:=fun (H':List Blk) (T':List (Option Nat)) (b:Nat) (s:Str) (ok:Bool) (h:H'[b]?=some (.map es clk))=>look147 hkv (T:=T') h s ok
 have hr:arrF F s=match F s with | some n=>if n=0 then 9 else 0 | none=>7:=rfl
 generalize arrF F s=r at hr
 cases hF:F s with
 | none=>
  rw [hF] at hr
  subst hr
  simp [-acells,-fin,-fin1,-fin2,-pl1,-pl2,-plain,-AV.atom,-getElem?_pos,lk,hb,hF]
 | some n=>
  rw [hF] at hr
  by_cases h0:n=0
  · simp only [if_pos h0] at hr
    subst hr
    simp [-acells,-fin,-fin1,-fin2,-pl1,-pl2,-plain,-AV.atom,-getElem?_pos,lk,hb,hF,h0]
  · simp only [if_neg h0] at hr
    subst hr
    simp [-acells,-fin,-fin1,-fin2,-pl1,-pl2,-plain,-AV.atom,-getElem?_pos,lk,hb,hF,h0]
theorem varF_elem {s a:Str} {i:Nat} (h:IsElem s a i) (hF:F s=none):varF F s=match F a with | some n=>if n=0 then 9 else if n≤i then 7 else 0 | none=>7:=by
 unfold varF
 simp only [hF,elemO_eq h]
 cases F a<;>rfl
theorem varF_name {s:Str} (h:s.contains 91=false) (hF:F s=none):varF F s=7:=by
 unfold varF
 rw [hF,no_elem h]
theorem varS_elem {s:Str} (h:varS s=true) (hc:s.contains 91=true):∃ a i,IsElem s a i:=by
 unfold varS at h
 rcases Bool.or_eq_true_iff.1 h with h|h
 · exact absurd rfl (nameS_no91 h 91 (List.contains_iff_mem.1 hc))
 · cases e:elemO s with
   | none=>rw [e] at h;cases h
   | some p=>exact⟨p.1,p.2,elemO_some.1 e⟩
set_option maxHeartbeats 4000000 in
theorem variable254 (s:Str) (hs:Fits s) (hv:varS s=true) (hm:MapF H b F):ACall Tryz.prog GG 254 [.map b,.str s] ⟨H,T⟩ (fun r σ'=>r=.int .i64 (varF F s)∧σ'=⟨H,T⟩):=by
 refine ACall.k mixed Tryz.func254 rfl (by kernel_rfl) ?_
 obtain⟨es,clk,hb,hkv⟩:=hm
 have lk:=fun (H':List Blk) (T':List (Option Nat)) (b:Nat) (s:Str) (ok:Bool) (h:H'[b]?=some (.map es clk))=>look147 hkv (T:=T') h s ok
 cases hF:F s with
 | some n=>
  have hr:varF F s=if 0<n then 9 else 0:=by unfold varF;rw [hF]
  rw [hr]
  by_cases h0:0<n
  · simp [-acells,-fin,-fin1,-fin2,-pl1,-pl2,-plain,-AV.atom,-getElem?_pos,lk,hb,hF,h0]
  · simp [-acells,-fin,-fin1,-fin2,-pl1,-pl2,-plain,-AV.atom,-getElem?_pos,lk,hb,hF,h0]
 | none=>
  simp [-acells,-fin,-fin1,-fin2,-pl1,-pl2,-plain,-AV.atom,-getElem?_pos,lk,hb,hF]
  by_cases hc:s.contains 91=true
  · obtain⟨a,i,he⟩:=varS_elem hv hc
    obtain⟨q1,q2,q3⟩:=he.has
    rw [varF_elem he hF]
    refine kCall.call (cut196 GG s hs hc) (by simp) ?_
    rw [q2,q3]
    have hi:=he.1
    have e1:(UInt8.ofNat (48+i)).toNat=48+i:=by simp [UInt8.toNat_ofNat'];omega
    generalize UInt8.ofNat (48+i)=ch at e1 ⊢
    cases hFa:F a with
    | none=>simp [-acells,-fin,-fin1,-fin2,-pl1,-pl2,-plain,-AV.atom,-getElem?_pos,lk,hb,hFa]
    | some n=>
     by_cases h0:n=0
     · simp [-acells,-fin,-fin1,-fin2,-pl1,-pl2,-plain,-AV.atom,-getElem?_pos,lk,hb,hFa,h0]
     · have hsub:IntKind.i64.wrap (IntKind.u8.wrap ((ch.toNat:Int)-48))=(i:Int):=by
        rw [e1]
        simp [IntKind.wrap,IntKind.bits,IntKind.signed]
        omega
       by_cases hle:n≤(i:Int)
       · simp [-acells,-fin,-fin1,-fin2,-pl1,-pl2,-plain,-AV.atom,-getElem?_pos,lk,hb,hFa,h0,hsub,hle,convA]
       · simp [-acells,-fin,-fin1,-fin2,-pl1,-pl2,-plain,-AV.atom,-getElem?_pos,lk,hb,hFa,h0,hsub,hle,convA]
  · have hc':s.contains 91=false:=by simpa using hc
    rw [varF_name hc' hF]
    refine kCall.call (cut196n GG s hs hc') (by simp) ?_
    cases hFs:F s<;>simp [-acells,-fin,-fin1,-fin2,-pl1,-pl2,-plain,-AV.atom,-getElem?_pos,lk,hb,hFs]
theorem either247 (s:Str) (hs:Fits s) (hv:varS s=true) (hm:MapF H b F):ACall Tryz.prog GG 247 [.map b,.str s] ⟨H,T⟩ (fun r σ'=>r=.int .i64 (eitherF F s)∧σ'=⟨H,T⟩):=by
 refine ACall.k mixed Tryz.func247 rfl (by kernel_rfl) ?_
 have hm':=hm
 obtain⟨es,clk,hb,hkv⟩:=hm
 have lk:=fun (H':List Blk) (T':List (Option Nat)) (b:Nat) (s:Str) (ok:Bool) (h:H'[b]?=some (.map es clk))=>look147 hkv (T:=T') h s ok
 have hr:eitherF F s=if (F s).isSome=true∨varF F s=0 then 0 else 7:=rfl
 generalize eitherF F s=r at hr
 cases hF:F s with
 | some n=>
  rw [if_pos (.inl (by rw [hF];rfl))] at hr
  subst hr
  simp [-acells,-fin,-fin1,-fin2,-pl1,-pl2,-plain,-AV.atom,-getElem?_pos,lk,hb,hF]
 | none=>
  simp [-acells,-fin,-fin1,-fin2,-pl1,-pl2,-plain,-AV.atom,-getElem?_pos,lk,hb,hF]
  refine kCall.acall (variable254 s hs hv hm') ?_
  rintro v σ' ⟨rfl,rfl⟩
  by_cases h0:varF F s=0
  · rw [if_pos (.inr h0)] at hr
    subst hr
    simp [-acells,-fin,-fin1,-fin2,-pl1,-pl2,-plain,-AV.atom,-getElem?_pos,h0]
  · rw [if_neg (by rw [hF];simp [h0])] at hr
    subst hr
    simp [-acells,-fin,-fin1,-fin2,-pl1,-pl2,-plain,-AV.atom,-getElem?_pos,h0]
theorem node_var {e:Ex} (h:NodesOk e) {x:Ex} (hx:x∈pre e) (h2:x.op=2):varS x.name=true:=by
 obtain⟨_,_,_,_,_,h,_⟩:=nodeE_zero (h x hx)
 exact h h2
set_option maxHeartbeats 4000000 in
theorem expression187 (e:Ex) (bd:List Str) (hw:Wen e) (hlen:(pre e).length≤1000000) (hok:NodesOk e) (hbd:Fits bd) (hm:MapF H b F) :
 ACall Tryz.prog GG 187 [.map b,.agg (encE e),.sl 1 (bd.map encStr) .none] ⟨H,T⟩ (fun r σ'=>r=.int .i64 (exprF F bd e)∧Ext ⟨H,T⟩ σ'):=by
 refine ACall.k mixed Tryz.func187 rfl (by kernel_rfl) ?_
 have hr:exprF F bd e=firstE (nodeF F bd) (pre e):=rfl
 generalize exprF F bd e=r at hr
 have hn:=nodes253 e (fun x hx=>(hw x hx).1) hlen
 rw [encE_eq] at hn
 simp only [encE_eq]
 simp [-acells,-fin,-fin1,-fin2,-pl1,-pl2,-plain,-AV.atom,-getElem?_pos]
 refine kCall.call hn (by simp) ?_
 simp [-acells,-fin,-fin1,-fin2,-pl1,-pl2,-plain,-AV.atom,-getElem?_pos]
 refine kLoop.list (pre e) (fun d ev σ=>ev 0=.map b∧ev 2=.sl 1 (bd.map encStr) .none∧ev 11=.sl 4 ((pre e).map encE) .none∧ev 12=.int .i64 (pre e).length∧ev 13=.int .i64 d.length∧(∃ t,σ=⟨H++t,T⟩)∧∀ x∈d,nodeF F bd x=0) ?_ ?_ ?_
 · exact⟨by simp,by simp,by simp,by simp,by simp,⟨_,by simp;rfl⟩,by simp⟩
 · rintro d x l ev σ hd hx hlt ⟨h0,h2,h11,h12,h13,⟨t,rfl⟩,hz⟩
   have hxm:x∈pre e:=List.mem_of_getElem? hx
   have hfx:Fits x.name:=(hw x hxm).2
   have hm2:∀ t',MapF (H++t') b F:=fun t'=>hm.app
   have hnd:nodeF F bd x=if x.op=2 then (if bd.contains x.name=true then 0 else varF F x.name) else if x.op=3∨x.op=24 then arrF F x.name else 0:=rfl
   have hbad:nodeF F bd x≠0→r=nodeF F bd x:=fun h=>by rw [hr,hd];exact firstE_at hz h
   have hgood:nodeF F bd x=0→∀ y,y∈d∨y=x→nodeF F bd y=0:=fun h=>hz_or hz h
   generalize nodeF F bd x=q at hnd hbad hgood
   have hwr:IntKind.i64.wrap ((d.length:Int)+1)=d.length+1:=wr (by omega) (by omega)
   by_cases k2:x.op=2
   · rw [if_pos k2] at hnd
     simp [-acells,-fin,-fin1,-fin2,-pl1,-pl2,-plain,-AV.atom,-getElem?_pos,h0,h2,h11,h12,h13,hlt,hx,encE_eq x,k2]
     refine kCall.call (contains101 GG bd x.name hbd) (by simp) ?_
     have hcn:(bd.any fun v=>x.name==v)=bd.contains x.name:=by
      rw [Bool.eq_iff_iff,List.any_eq_true,List.contains_iff_mem]
      constructor
      · rintro⟨y,hy,h⟩;rw [eq_of_beq h];exact hy
      · intro h;exact⟨_,h,by simp⟩
     rw [hcn]
     cases hc:bd.contains x.name
     · rw [hc,if_neg (by simp)] at hnd
       simp [-acells,-fin,-fin1,-fin2,-pl1,-pl2,-plain,-AV.atom,-getElem?_pos,h0,h2,h11,h12,h13]
       refine kCall.acall (variable254 x.name hfx (node_var hok hxm k2) (by simpa using hm2 _)) ?_
       rintro v σ' ⟨rfl,rfl⟩
       rw [← hnd]
       by_cases hq:q=0
       · simp [-acells,-fin,-fin1,-fin2,-pl1,-pl2,-plain,-AV.atom,-getElem?_pos,hq,h0,h2,h11,h12,h13,hwr]
         exact hgood hq
       · rw [hbad hq]
         simp [-acells,-fin,-fin1,-fin2,-pl1,-pl2,-plain,-AV.atom,-getElem?_pos,hq]
         exact Ext.push
     · rw [hc,if_pos rfl] at hnd
       simp [-acells,-fin,-fin1,-fin2,-pl1,-pl2,-plain,-AV.atom,-getElem?_pos,h0,h2,h11,h12,h13,hwr]
       exact hgood hnd
   rw [if_neg k2] at hnd
   by_cases k3:x.op=3∨x.op=24
   · rw [if_pos k3] at hnd
     have fin:∀ (ops:Array Oper) (ct:Ct) (ks:List Fr) (Q:Exit→Env→St→Prop),True:=fun _ _ _ _=>trivial
     by_cases e3:x.op=3
     · simp [-acells,-fin,-fin1,-fin2,-pl1,-pl2,-plain,-AV.atom,-getElem?_pos,h0,h2,h11,h12,h13,hlt,hx,encE_eq x,e3]
       refine kCall.acall (array248 x.name (by simpa using hm2 _)) ?_
       rintro v σ' ⟨rfl,rfl⟩
       rw [← hnd]
       by_cases hq:q=0
       · simp [-acells,-fin,-fin1,-fin2,-pl1,-pl2,-plain,-AV.atom,-getElem?_pos,hq,h0,h2,h11,h12,h13,hwr]
         exact hgood hq
       · rw [hbad hq]
         simp [-acells,-fin,-fin1,-fin2,-pl1,-pl2,-plain,-AV.atom,-getElem?_pos,hq]
         exact Ext.push
     · have e24:x.op=24:=by omega
       simp [-acells,-fin,-fin1,-fin2,-pl1,-pl2,-plain,-AV.atom,-getElem?_pos,h0,h2,h11,h12,h13,hlt,hx,encE_eq x,e24]
       refine kCall.acall (array248 x.name (by simpa using hm2 _)) ?_
       rintro v σ' ⟨rfl,rfl⟩
       rw [← hnd]
       by_cases hq:q=0
       · simp [-acells,-fin,-fin1,-fin2,-pl1,-pl2,-plain,-AV.atom,-getElem?_pos,hq,h0,h2,h11,h12,h13,hwr]
         exact hgood hq
       · rw [hbad hq]
         simp [-acells,-fin,-fin1,-fin2,-pl1,-pl2,-plain,-AV.atom,-getElem?_pos,hq]
         exact Ext.push
   · rw [if_neg k3] at hnd
     have e3:¬ x.op=3:=fun h=>k3 (.inl h)
     have e24:¬ x.op=24:=fun h=>k3 (.inr h)
     simp [-acells,-fin,-fin1,-fin2,-pl1,-pl2,-plain,-AV.atom,-getElem?_pos,h0,h2,h11,h12,h13,hlt,hx,encE_eq x,k2,e3,e24,hwr]
     exact hgood hnd
 · rintro ev σ ⟨h0,h2,h11,h12,h13,⟨t,rfl⟩,hz⟩
   rw [firstE_zero.2 hz] at hr
   subst hr
   simp [-acells,-fin,-fin1,-fin2,-pl1,-pl2,-plain,-AV.atom,-getElem?_pos,h12,h13]
   exact Ext.push
end
end
theorem mentioned246d (x:It) (p:Place) (h3:x.kind=3):Pure Tryz.prog GG 246 [.agg (encI x),.agg (encPl p)] (.sl 1 [[.str x.name]] .none):=by
 refine Pure.k mixed Tryz.func246 rfl (by kernel_rfl) ?_
 simp only [encI_eq,encE_eq,encPl]
 simp [-acells,-fin,-fin1,-fin2,-pl1,-pl2,-plain,-AV.atom,-getElem?_pos,h3,appendA]
theorem mentioned246s (x:It) (p:Place) (h6:x.kind=6) (hb:x.before.length≤1000) (ha:x.after.length≤1000):Pure Tryz.prog GG 246 [.agg (encI x),.agg (encPl p)] (.sl 1 ((x.before++x.after).map encStr) .none):=by
 refine Pure.k mixed Tryz.func246 rfl (by kernel_rfl) ?_
 simp only [encI_eq,encE_eq,encPl]
 simp [-acells,-fin,-fin1,-fin2,-pl1,-pl2,-plain,-AV.atom,-getElem?_pos,h6]
 refine kCall.less (concat315 x.before x.after hb ha) (by simp) (by simp) ?_
 simp [-acells,-fin,-fin1,-fin2,-pl1,-pl2,-plain,-AV.atom,-getElem?_pos,noRefss_append]
structure Sound1 (x:It):Prop where
 hold:Hold1 x
 low:Low1 x
 size:(pre x.expr).length≤1000
 dist:x.kind=3→varS x.name=true
 solve:x.kind=6→∀ s∈x.before++x.after,varS s=true
 expr:x.kind≠3→x.kind≠5→x.kind≠6→NodesOk x.expr
set_option maxHeartbeats 8000000 in
theorem constraint179 {F:Flds} {b:Nat} (x:It) (p:Place) (H:List Blk) (T:List (Option Nat)) (h:Sound1 x) (hbd:Fits p.bound) (hm:MapF H b F) :
 ACall Tryz.prog GG 179 [.map b,.agg (encI x),.agg (encPl p)] ⟨H,T⟩ (fun r σ'=>r=.int .i64 (consE F x p.bound)∧Ext ⟨H,T⟩ σ'):=by
 refine ACall.k mixed Tryz.func179 rfl (by kernel_rfl) ?_
 have hr:consE F x p.bound=if x.kind=3 then eitherF F x.name
  else if x.kind=6 then firstE (eitherF F) (x.before++x.after)
  else if x.kind=5 then (if arrF F x.name≠0 then arrF F x.name else if (F x.index).isSome=true∨p.bound.contains x.index=true then 8 else 0)
  else exprF F p.bound x.expr:=rfl
 generalize consE F x p.bound=r at hr
 have hm2:∀ t',MapF (H++t') b F:=fun t'=>hm.app
 have hm3:=hm
 by_cases k3:x.kind=3
 · rw [if_pos k3] at hr
   have hmen:=mentioned246d x p k3
   simp only [encI_eq,encE_eq,encPl,List.cons_append,List.nil_append] at hmen
   simp only [encI_eq,encE_eq,encPl]
   simp [-acells,-fin,-fin1,-fin2,-pl1,-pl2,-plain,-AV.atom,-getElem?_pos,k3]
   rw [k3] at hmen
   refine kCall.call hmen (by simp) ?_
   simp [-acells,-fin,-fin1,-fin2,-pl1,-pl2,-plain,-AV.atom,-getElem?_pos]
   refine kLoop.list [x.name] (fun d ev σ=>ev 0=.map b∧ev 20=.sl 1 [[.str x.name]] .none∧ev 21=.int .i64 1∧ev 22=.int .i64 d.length∧(∃ t,σ=⟨H++t,T⟩)∧(d≠[]→r=0)) ?_ ?_ ?_
   · exact⟨by simp,by simp,by simp,by simp,⟨_,by simp;rfl⟩,by simp⟩
   · rintro d s l ev σ hd hx hlt ⟨h0,h20,h21,h22,⟨t,rfl⟩,hz⟩
     have hd0:d=[]:=by
      cases d with
      | nil=>rfl
      | cons a q=>simp at hlt
     subst hd0
     simp at hx
     subst hx
     simp [-acells,-fin,-fin1,-fin2,-pl1,-pl2,-plain,-AV.atom,-getElem?_pos,h0,h20,h21,h22]
     refine kCall.acall (either247 x.name h.hold.name (h.dist k3) (hm2 _)) ?_
     rintro v σ' ⟨rfl,rfl⟩
     rw [← hr]
     by_cases hq:r=0
     · simp [-acells,-fin,-fin1,-fin2,-pl1,-pl2,-plain,-AV.atom,-getElem?_pos,hq,h0,h20,h21,h22]
       exact wr (by omega) (by omega)
     · simp [-acells,-fin,-fin1,-fin2,-pl1,-pl2,-plain,-AV.atom,-getElem?_pos,hq]
       exact Ext.push
   · rintro ev σ ⟨h0,h20,h21,h22,⟨t,rfl⟩,hz⟩
     have:=hz (by simp)
     subst this
     simp [-acells,-fin,-fin1,-fin2,-pl1,-pl2,-plain,-AV.atom,-getElem?_pos,h21,h22]
     exact Ext.push
 rw [if_neg k3] at hr
 by_cases k6:x.kind=6
 · rw [if_pos k6] at hr
   have hmen:=mentioned246s x p k6 h.low.before h.low.after
   have hlen:(x.before++x.after).length≤2000:=by have:=h.low.before;have:=h.low.after;simp;omega
   have hnm:=h.hold.names
   have hvs:=h.solve k6
   generalize x.before++x.after=l at hr hmen hlen hnm hvs
   simp only [encI_eq,encE_eq,encPl,List.cons_append,List.nil_append] at hmen
   simp only [encI_eq,encE_eq,encPl]
   simp [-acells,-fin,-fin1,-fin2,-pl1,-pl2,-plain,-AV.atom,-getElem?_pos,k6]
   rw [k6] at hmen
   refine kCall.call hmen (by simp) ?_
   simp [-acells,-fin,-fin1,-fin2,-pl1,-pl2,-plain,-AV.atom,-getElem?_pos]
   refine kLoop.list l (fun d ev σ=>ev 0=.map b∧ev 20=.sl 1 (l.map encStr) .none∧ev 21=.int .i64 l.length∧ev 22=.int .i64 d.length∧(∃ t,σ=⟨H++t,T⟩)∧∀ s∈d,eitherF F s=0) ?_ ?_ ?_
   · exact⟨by simp,by simp,by simp,by simp,⟨_,by simp;rfl⟩,by simp⟩
   · rintro d s l' ev σ hd hx hlt ⟨h0,h20,h21,h22,⟨t,rfl⟩,hz⟩
     have hsm:=List.mem_of_getElem? hx
     simp [-acells,-fin,-fin1,-fin2,-pl1,-pl2,-plain,-AV.atom,-getElem?_pos,h0,h20,h21,h22,hlt,hx]
     refine kCall.acall (either247 s (hnm s hsm) (hvs s hsm) (hm2 _)) ?_
     rintro v σ' ⟨rfl,rfl⟩
     by_cases hq:eitherF F s=0
     · simp [-acells,-fin,-fin1,-fin2,-pl1,-pl2,-plain,-AV.atom,-getElem?_pos,hq,h0,h20,h21,h22]
       exact⟨wr (by omega) (by omega),hz_or hz hq⟩
     · have e:firstE (eitherF F) l=eitherF F s:=by rw [hd];exact firstE_at hz hq
       rw [hr,e]
       simp [-acells,-fin,-fin1,-fin2,-pl1,-pl2,-plain,-AV.atom,-getElem?_pos,hq]
       exact Ext.push
   · rintro ev σ ⟨h0,h20,h21,h22,⟨t,rfl⟩,hz⟩
     rw [firstE_zero.2 hz] at hr
     subst hr
     simp [-acells,-fin,-fin1,-fin2,-pl1,-pl2,-plain,-AV.atom,-getElem?_pos,h21,h22]
     exact Ext.push
 rw [if_neg k6] at hr
 by_cases k5:x.kind=5
 · rw [if_pos k5] at hr
   simp only [encI_eq,encE_eq,encPl]
   simp [-acells,-fin,-fin1,-fin2,-pl1,-pl2,-plain,-AV.atom,-getElem?_pos,k5]
   refine kCall.acall (array248 x.name (hm2 _)) ?_
   rintro v σ' ⟨rfl,rfl⟩
   by_cases hq:arrF F x.name=0
   · rw [if_neg (by simp [hq])] at hr
     obtain⟨es,clk,hb,hkv⟩:=hm3
     have lk:=fun (H':List Blk) (T':List (Option Nat)) (b:Nat) (s:Str) (ok:Bool) (h:H'[b]?=some (.map es clk))=>look147 hkv (T:=T') h s ok
     cases hF:F x.index with
     | some n=>
      rw [if_pos (.inl (by rw [hF];rfl))] at hr
      subst hr
      simp [-acells,-fin,-fin1,-fin2,-pl1,-pl2,-plain,-AV.atom,-getElem?_pos,hq,lk,look_app hb,hF]
      exact Ext.push
     | none=>
      rw [hF] at hr
      simp [-acells,-fin,-fin1,-fin2,-pl1,-pl2,-plain,-AV.atom,-getElem?_pos,hq,lk,look_app hb,hF]
      refine kCall.call (contains101 GG p.bound x.index hbd) (by simp) ?_
      have hcn:(p.bound.any fun v=>x.index==v)=p.bound.contains x.index:=by
       rw [Bool.eq_iff_iff,List.any_eq_true,List.contains_iff_mem]
       constructor
       · rintro⟨y,hy,h⟩;rw [eq_of_beq h];exact hy
       · intro h;exact⟨_,h,by simp⟩
      rw [hcn]
      cases hc:p.bound.contains x.index
      · rw [hc,if_neg (by simp)] at hr
        subst hr
        simp [-acells,-fin,-fin1,-fin2,-pl1,-pl2,-plain,-AV.atom,-getElem?_pos]
        exact Ext.push
      · rw [hc,if_pos (by simp)] at hr
        subst hr
        simp [-acells,-fin,-fin1,-fin2,-pl1,-pl2,-plain,-AV.atom,-getElem?_pos]
        exact Ext.push
   · rw [if_pos hq] at hr
     subst hr
     simp [-acells,-fin,-fin1,-fin2,-pl1,-pl2,-plain,-AV.atom,-getElem?_pos,hq]
     exact Ext.push
 rw [if_neg k5] at hr
 have hx:=fun t=>expression187 (F:=F) (b:=b) (H:=H++t) (T:=T) x.expr p.bound h.low.wen (by have:=h.size;omega) (h.expr k3 k5 k6) hbd (hm2 t)
 simp only [encI_eq,encE_eq,encPl]
 simp only [encE_eq] at hx
 simp [-acells,-fin,-fin1,-fin2,-pl1,-pl2,-plain,-AV.atom,-getElem?_pos,k3,k5,k6]
 refine kCall.acall (hx _) ?_
 rintro v σ' ⟨rfl,he⟩
 subst hr
 simp [-acells,-fin,-fin1,-fin2,-pl1,-pl2,-plain,-AV.atom,-getElem?_pos]
 exact Ext.push.trans he
theorem visI_pre:∀ (x:It) (p:Place),∀ y∈preI x,∃ q,(y,q)∈visI p x:=by
 refine It.ind fun x h1 h2 p y hy=>?_
 rw [preI_eq] at hy
 rw [visI_eq]
 rcases List.mem_cons.1 hy with rfl|hy
 · exact⟨p,by simp⟩
 rcases List.mem_append.1 hy with hy|hy
 · obtain⟨a,ha,hya⟩:=mem_preIL.1 hy
   obtain⟨q,hq⟩:=h1 a ha (innerP x p) y hya
   exact⟨q,List.mem_cons_of_mem _ (List.mem_append_left _ (mem_visIs.2 ⟨a,ha,hq⟩))⟩
 · obtain⟨a,ha,hya⟩:=mem_preIL.1 hy
   obtain⟨q,hq⟩:=h2 a ha (innerD x p) y hya
   exact⟨q,List.mem_cons_of_mem _ (List.mem_append_right _ (mem_visIs.2 ⟨a,ha,hq⟩))⟩
theorem visIs_pre {p:Place} {l:List It} {y:It} (h:y∈preIL l):∃ q,(y,q)∈visIs p l:=by
 obtain⟨a,ha,hy⟩:=mem_preIL.1 h
 obtain⟨q,hq⟩:=visI_pre a p y hy
 exact⟨q,mem_visIs.2 ⟨a,ha,hq⟩⟩
theorem validI_shape {l:List It} (h:validI l=0) {y:It} (hy:y∈preIL l):∃ d,shapeE y d=0:=by
 unfold validI at h
 split at h
 · cases h
 · obtain⟨q,hq⟩:=visIs_pre (p:=⟨0,[]⟩) hy
   exact⟨q.depth,firstE_zero.1 h _ hq⟩
structure Shape1 (x:It):Prop where
 kind:1≤x.kind∧x.kind≤6
 plain:plainI x=true
 dist:x.kind=3→varS x.name=true∧weightsE x.ws=0
 solve:x.kind=6→x.before≠[]∧x.after≠[]∧∀ s∈x.before++x.after,varS s=true
 each:x.kind=5→nameS x.name=true∧nameS x.index=true
 expr:x.kind≠3→x.kind≠5→x.kind≠6→validE x.expr=0
theorem shapeE_zero {x:It} {d:Nat} (h:shapeE x d=0):Shape1 x:=by
 unfold shapeE at h
 split at h
 · cases h
 rename_i h1
 have hk:knownK x.kind=true:=by
  cases e:knownK x.kind with
  | true=>rfl
  | false=>exact absurd (.inl e) h1
 have hp:plainI x=true:=by
  cases e:plainI x with
  | true=>rfl
  | false=>exact absurd (.inr (.inl e)) h1
 have hk':1≤x.kind∧x.kind≤6:=by simpa [knownK] using hk
 split at h
 · rename_i k3
   split at h
   · rename_i hw;exact absurd h hw
   rename_i hw
   split at h
   · cases h
   rename_i hv
   exact⟨hk',hp,fun _=>⟨by simpa using hv,Classical.not_not.1 hw⟩,by omega,by omega,by omega⟩
 rename_i k3
 split at h
 · rename_i k6
   split at h
   · cases h
   rename_i hb
   split at h
   · cases h
   rename_i hv
   refine⟨hk',hp,by omega,fun _=>⟨fun e=>hb (.inl e),fun e=>hb (.inr e),fun s hs=>?_⟩,by omega,by omega⟩
   cases e:varS s with
   | true=>rfl
   | false=>exact absurd (List.any_eq_true.2 ⟨s,hs,by simp [e]⟩) hv
 rename_i k6
 split at h
 · rename_i k5
   split at h
   · cases h
   rename_i hn
   refine⟨hk',hp,by omega,by omega,fun _=>⟨?_,?_⟩,by omega⟩
   · cases e:nameS x.name with
     | true=>rfl
     | false=>exact absurd (.inl e) hn
   · cases e:nameS x.index with
     | true=>rfl
     | false=>exact absurd (.inr e) hn
 rename_i k5
 exact⟨hk',hp,by omega,by omega,by omega,fun _ _ _=>h⟩
theorem Few.sound {l:List It} (h:Few l) (hv:validI l=0) {y:It} (hy:y∈preIL l):Sound1 y:=by
 obtain⟨d,hd⟩:=validI_shape hv hy
 have hs:=shapeE_zero hd
 exact⟨h.hold y hy,h.low y hy,h.size y hy,fun k=>(hs.dist k).1,fun k=>(hs.solve k).2.2,fun a b c=>validE_nodes (hs.expr a b c)⟩
theorem check102 (l:List It) (c:Cls) (h:Few l) (hf:Fits c.fields):Pure Tryz.prog GG 102 [.sl 12 (l.map encI) .none,.agg (encCls c)] (.int .i64 (checkI (fldsOf c) l)):=by
 refine Pure.k mixed Tryz.func102 rfl (by kernel_rfl) ?_
 have hr:checkI (fldsOf c) l=if validI l≠0 then validI l else firstE (fun y=>consE (fldsOf c) y.1 y.2.bound) (visIs ⟨0,[]⟩ l):=rfl
 generalize checkI (fldsOf c) l=r at hr
 have hfit:Fits l:=by have:=h.len;unfold Fits;omega
 simp [-acells,-fin,-fin1,-fin2,-pl1,-pl2,-plain,-AV.atom,-getElem?_pos]
 refine kCall.call (valid177 l h) (by simp) ?_
 by_cases hv:validI l=0
 · rw [if_neg (by simp [hv])] at hr
   subst hr
   simp [-acells,-fin,-fin1,-fin2,-pl1,-pl2,-plain,-AV.atom,-getElem?_pos,hv]
   have hof:=fun σ=>of103 c hf σ
   simp only [encCls] at hof
   refine kCall.acall (hof _) ?_
   rintro v ⟨H,T⟩ ⟨b,rfl,hm,_⟩
   simp [-acells,-fin,-fin1,-fin2,-pl1,-pl2,-plain,-AV.atom,-getElem?_pos]
   have hw:=walk178 (f:=fun x p=>consE (fldsOf c) x p.bound) (vf:=179) (first:=[.map b]) (cap:=[]) (S:=fun σ=>MapF σ.H b (fldsOf c)) (good:=Sound1) (fun σ σ' hs he=>hs.ext he)
    (fun x p σ hg _ hb hs=>constraint179 x p σ.H σ.T hg (by unfold Fits;omega) hs) l (fun y hy=>h.sound hv hy) (fun y hy=>⟨(h.hold y hy).items,(h.hold y hy).els⟩) hfit
   refine kCall.acall ((hw ⟨0,[]⟩ ⟨H,T⟩ (by have:=h.all;simp;omega) (by have:=h.all;simp;omega) hm).leq (by simp [encPl,LeqL,Leq])) ?_
   rintro v ⟨H,T⟩ ⟨rfl,_⟩
   simp [-acells,-fin,-fin1,-fin2,-pl1,-pl2,-plain,-AV.atom,-getElem?_pos]
 · rw [if_pos hv] at hr
   subst hr
   simp [-acells,-fin,-fin1,-fin2,-pl1,-pl2,-plain,-AV.atom,-getElem?_pos,hv]
set_option maxHeartbeats 4000000 in
theorem rebuilt366 (g:Ex→Ex) (vf:FuncId) (cap:List AV) (S:St→Prop) (hS:∀ σ σ',S σ→Ext σ σ'→S σ') (e:Ex) (hl:e.args.length≤1000)
 (hv:∀ a∈e.args,∀ σ,S σ→ACall Tryz.prog GG vf ([.agg (encE a)]++cap) σ (fun r σ'=>r=.agg (encE (g a))∧Ext σ σ')) (σ:St) (hs:S σ) :
 ACall Tryz.prog GG 366 [.agg (encE e),.fn vf [] cap] σ (fun r σ'=>r=.agg (encE (.mk e.op e.n e.name (e.args.map g)))∧Ext σ σ'):=by
 refine ACall.up ?_
 refine ACall.k mixed Tryz.func366 rfl (by kernel_rfl) ?_
 obtain⟨H,T⟩:=σ
 simp only [encE_eq e]
 simp [-acells,-fin,-fin1,-fin2,-pl1,-pl2,-plain,-AV.atom,-getElem?_pos]
 refine kLoop.listR e.args (fun d ev σ=>ev 1=.fn vf [] cap∧ev 2=.ptr H.length 0∧ev 4=.ptr (H.length+1) 0∧ev 9=.sl 4 (e.args.map encE) .none∧ev 10=.int .i64 e.args.length∧ev 11=.int .i64 d.length ∧
  ∃ t T',σ=⟨H++.cells [.int .i64 e.op,.int .i64 e.n,.str e.name,.sl 4 (e.args.map encE) .none]::.cells [.int .i64 0,.int .i64 0,.str [],.sl 0 [] .nil]::t,T'⟩∧T <+: T'∧OutAt T.length 4 encE T' (ev 5) (d.map g)) ?_ ?_ ?_
 · exact⟨by simp,by simp,by simp,by simp,by simp,by simp,[],T,by simp,List.prefix_rfl,by simpa using OutAt.nil⟩
 · rintro d a r ev σ R hR hd hx hlt ⟨h1,h2,h4,h9,h10,h11,t,T',rfl,hT,ho⟩
   have hm:=List.mem_of_getElem? hx
   simp [-acells,-fin,-fin1,-fin2,-pl1,-pl2,-plain,-AV.atom,-getElem?_pos,h1,h2,h4,h9,h10,h11,hlt,hx,encE_eq a]
   have hva:=hv a hm
   simp only [encE_eq a] at hva
   refine kCall.acall (by simpa using hva _ (hS _ ⟨_,_⟩ hs (Ext.pushT hT))) ?_
   rintro v ⟨H2,T2⟩ ⟨rfl,he⟩
   obtain⟨t2,u2,he⟩:=he
   simp only [St.mk.injEq] at he
   obtain⟨rfl,rfl⟩:=he
   have hT2:T <+: T'++u2:=hT.trans (List.prefix_append _ _)
   obtain⟨v',T3,happ,ho3,hT3⟩:=(ho.ext (List.prefix_append T' u2)).append (m:=[g a]) (tok:=.tight) hT2 D32 rfl D55 rfl (by omega) rfl (by decide) (by simp;omega) 4 (.inl rfl)
   have happ':=happ
   simp only [List.map_cons,List.map_nil,encE_eq (g a)] at happ'
   generalize hv5:ev 5=v5 at *
   simp [-acells,-fin,-fin1,-fin2,-pl1,-pl2,-plain,-AV.atom,-getElem?_pos,hv5,encE_eq (g a),happ',h1,h2,h4,h9,h10,h11]
   refine hR _ _ ⟨by simp [h1],by simp [h2],by simp [h4],by simp [h9],by simp [h10],by simp [h11];exact wr (by omega) (by omega),_,T3,by simp;rfl,hT3,?_⟩
   simpa using ho3
 · rintro ev σ ⟨h1,h2,h4,h9,h10,h11,t,T',rfl,hT,ho⟩
   have hac:=ho.acells
   have hat:=ho.atom
   have hle:=ho.leq
   generalize hv5:ev 5=v5 at *
   simp [-acells,-fin,-fin1,-fin2,-pl1,-pl2,-plain,-AV.atom,-getElem?_pos,hv5,h1,h2,h4,h9,h10,h11,hac,hat]
   refine⟨_,?_,rfl,?_⟩
   · simp only [encE_eq,Leq,LeqL,Ex.op_mk,Ex.n_mk,Ex.name_mk,Ex.args_mk]
     simpa using hle
   · exact Ext.pushT hT
theorem mk_self (e:Ex):Ex.mk e.op e.n e.name e.args=e:=by cases e;rfl
theorem copied365:∀ e,Slim e→Pure Tryz.prog GG 365 [.agg (encE e)] (.agg (encE e)):=by
 refine Ex.ind fun e ih hs=>?_
 refine Pure.k mixed Tryz.func365 rfl (by kernel_rfl) ?_
 have hr:=fun σ=>rebuilt366 id 365 [] (fun _=>True) (fun _ _ _ _=>trivial) e hs.self (fun a ha σ _=>ACall.call (ih a ha (hs.arg ha)) (by simp) ⟨rfl,Ext.refl⟩) σ trivial
 simp only [List.map_id,mk_self] at hr
 simp only [encE_eq e] at hr ⊢
 simp [-acells,-fin,-fin1,-fin2,-pl1,-pl2,-plain,-AV.atom,-getElem?_pos]
 refine kCall.acall (hr _) ?_
 rintro v ⟨H,T⟩ ⟨rfl,t,u,hE⟩
 simp only [St.mk.injEq] at hE
 obtain⟨rfl,rfl⟩:=hE
 simp [-acells,-fin,-fin1,-fin2,-pl1,-pl2,-plain,-AV.atom,-getElem?_pos]
set_option maxHeartbeats 4000000 in
theorem subst316 (s:Str) (by':Ex) (hb:Slim by'):∀ e,Slim e→Pure Tryz.prog GG 316 [.agg (encE e),.str s,.agg (encE by')] (.agg (encE (substE s by' e))):=by
 refine Ex.ind fun e ih hs=>?_
 refine Pure.k mixed Tryz.func316 rfl (by kernel_rfl) ?_
 have hc:=copied365 by' hb
 rw [substE_eq]
 by_cases h2:e.op=2∧e.name=s
 · rw [if_pos h2]
   simp only [encE_eq e,encE_eq by'] at hc ⊢
   simp [-acells,-fin,-fin1,-fin2,-pl1,-pl2,-plain,-AV.atom,-getElem?_pos,h2.1,h2.2]
   refine kCall.call hc (by simp) ?_
   simp [-acells,-fin,-fin1,-fin2,-pl1,-pl2,-plain,-AV.atom,-getElem?_pos]
 · rw [if_neg h2]
   have vis:∀ a∈e.args,∀ σ:St,(σ.H[1]?=some (.cells [.str s])∧σ.H[2]?=some (.cells (encE by')))→ACall Tryz.prog GG 367 ([.agg (encE a)]++[.ptr 1 0,.ptr 2 0]) σ (fun r σ'=>r=.agg (encE (substE s by' a))∧Ext σ σ'):=by
    rintro a ha ⟨H,T⟩ ⟨e1,e2⟩
    refine ACall.k mixed Tryz.func367 rfl (by kernel_rfl) ?_
    have i1:=ih a ha (hs.arg ha)
    simp only [encE_eq a,encE_eq by'] at e1 e2 i1 ⊢
    simp [-acells,-fin,-fin1,-fin2,-pl1,-pl2,-plain,-AV.atom,-getElem?_pos,look_app e1,look_app e2]
    refine kCall.call i1 (by simp) ?_
    simp [-acells,-fin,-fin1,-fin2,-pl1,-pl2,-plain,-AV.atom,-getElem?_pos,encE_eq (substE s by' a)]
    exact Ext.push
   have hr:=fun σ hσ=>rebuilt366 (substE s by') 367 [.ptr 1 0,.ptr 2 0] (fun σ=>σ.H[1]?=some (.cells [.str s])∧σ.H[2]?=some (.cells (encE by'))) (fun σ σ' h he=>by
    obtain⟨t,u,rfl⟩:=he
    exact⟨look_app h.1 _,look_app h.2 _⟩) e hs.self vis σ hσ
   simp only [encE_eq e,encE_eq by'] at hr ⊢
   have fin:∀ (ev:Env),True:=fun _=>trivial
   by_cases k2:e.op=2
   · have kn:¬ e.name=s:=fun h=>h2 ⟨k2,h⟩
     rw [k2] at hr
     simp [-acells,-fin,-fin1,-fin2,-pl1,-pl2,-plain,-AV.atom,-getElem?_pos,k2,kn]
     refine kCall.acall (hr _ (by simp)) ?_
     rintro v ⟨H,T⟩ ⟨rfl,t,u,hE⟩
     simp only [St.mk.injEq] at hE
     obtain⟨rfl,rfl⟩:=hE
     have hnr:=nrEs (e.args.map (substE s by'))
     simp only [List.map_map] at hnr
     simp [-acells,-fin,-fin1,-fin2,-pl1,-pl2,-plain,-AV.atom,-getElem?_pos,encE_eq (Ex.mk _ _ _ _),hnr]
   · simp [-acells,-fin,-fin1,-fin2,-pl1,-pl2,-plain,-AV.atom,-getElem?_pos,k2]
     refine kCall.acall (hr _ (by simp)) ?_
     rintro v ⟨H,T⟩ ⟨rfl,t,u,hE⟩
     simp only [St.mk.injEq] at hE
     obtain⟨rfl,rfl⟩:=hE
     have hnr:=nrEs (e.args.map (substE s by'))
     simp only [List.map_map] at hnr
     simp [-acells,-fin,-fin1,-fin2,-pl1,-pl2,-plain,-AV.atom,-getElem?_pos,encE_eq (Ex.mk _ _ _ _),hnr]
theorem slim_zEx:Slim zEx:=slim_mk (by simp) (by simp)
theorem copied250 (e:Ex) (hs:Slim e):Pure Tryz.prog GG 250 [.agg (encE e)] (.agg (encE (substE [] zEx e))):=by
 refine Pure.k mixed Tryz.func250 rfl (by kernel_rfl) ?_
 have h:=subst316 [] zEx slim_zEx e hs
 simp only [encE_eq e] at h ⊢
 simp [-acells,-fin,-fin1,-fin2,-pl1,-pl2,-plain,-AV.atom,-getElem?_pos]
 refine kCall.less h (by simp) (by simp [zEx,encE_eq]) ?_
 simp [-acells,-fin,-fin1,-fin2,-pl1,-pl2,-plain,-AV.atom,-getElem?_pos,encE_eq (substE [] zEx e)]
theorem pre_mk {o n:Int} {s:Str} {a:List Ex}:pre (.mk o n s a)=.mk o n s a::preL a:=pre_eq _
theorem slim_substE {s:Str} {b:Ex} (hb:Slim b):∀ e,Slim e→Slim (substE s b e):=by
 refine Ex.ind fun e ih hs=>?_
 rw [substE_eq]
 split
 · exact hb
 · refine slim_mk (by simpa using hs.self) fun x hx=>?_
   obtain⟨a,ha,rfl⟩:=List.mem_map.1 hx
   exact ih a ha (hs.arg ha)
theorem wen_mk {o n:Int} {s:Str} {a:List Ex} (h:Fits a) (hs:Fits s) (ha:∀ x∈a,Wen x):Wen (.mk o n s a):=by
 intro x hx
 rw [pre_mk] at hx
 rcases List.mem_cons.1 hx with rfl|hx
 · exact⟨h,hs⟩
 · obtain⟨y,hy,hxy⟩:=mem_preL.1 hx
   exact ha y hy x hxy
theorem wen_substE {s:Str} {b:Ex} (hb:Wen b):∀ e,Wen e→Wen (substE s b e):=by
 refine Ex.ind fun e ih hs=>?_
 rw [substE_eq]
 split
 · exact hb
 · refine wen_mk (by simpa using hs.fits) hs.nm fun x hx=>?_
   obtain⟨a,ha,rfl⟩:=List.mem_map.1 hx
   exact ih a ha (hs.arg ha)
theorem pre_substE {s:Str} {b:Ex} (hb:b.args=[]):∀ e,(pre (substE s b e)).length≤(pre e).length:=by
 refine Ex.ind fun e ih=>?_
 rw [substE_eq]
 split
 · rw [pre_eq b,hb,pre_eq e];simp
 · rw [pre_mk,pre_eq e,List.length_cons,List.length_cons,preL_len,preL_len,List.map_map]
   have:∀ l:List Ex,(∀ a∈l,(pre (substE s b a)).length≤(pre a).length)→(l.map ((fun e=>(pre e).length)∘substE s b)).sum≤(l.map fun e=>(pre e).length).sum:=by
    intro l
    induction l with
    | nil=>simp
    | cons x r ihl=>
     intro h
     have h1:=h x (by simp)
     have h2:=ihl fun a ha=>h a (by simp [ha])
     simp only [List.map_cons,List.sum_cons,Function.comp_apply]
     omega
   have:=this e.args ih
   omega
theorem substI_kind {s:Str} {b:Ex} {x:It}:(substI s b x).kind=x.kind:=by rw [substI_eq];rfl
theorem substI_expr {s:Str} {b:Ex} {x:It}:(substI s b x).expr=substE s b x.expr:=by rw [substI_eq];rfl
theorem substI_name {s:Str} {b:Ex} {x:It}:(substI s b x).name=x.name:=by rw [substI_eq];rfl
theorem substI_index {s:Str} {b:Ex} {x:It}:(substI s b x).index=x.index:=by rw [substI_eq];rfl
theorem substI_ws {s:Str} {b:Ex} {x:It}:(substI s b x).ws=x.ws:=by rw [substI_eq];rfl
theorem substI_items {s:Str} {b:Ex} {x:It}:(substI s b x).items=x.items.map (substI s b):=by rw [substI_eq];rfl
theorem substI_els {s:Str} {b:Ex} {x:It}:(substI s b x).els=x.els.map (substI s b):=by rw [substI_eq];rfl
theorem substI_before {s:Str} {b:Ex} {x:It}:(substI s b x).before=x.before:=by rw [substI_eq];rfl
theorem substI_after {s:Str} {b:Ex} {x:It}:(substI s b x).after=x.after:=by rw [substI_eq];rfl
theorem preI_subst {s:Str} {b:Ex}:∀ x,preI (substI s b x)=(preI x).map (substI s b):=by
 refine It.ind fun x h1 h2=>?_
 rw [preI_eq,preI_eq x,substI_items,substI_els,List.map_cons,List.map_append]
 have:∀ l:List It,(∀ a∈l,preI (substI s b a)=(preI a).map (substI s b))→preIL (l.map (substI s b))=(preIL l).map (substI s b):=by
  intro l
  induction l with
  | nil=>simp [preIL]
  | cons a r ih=>
   intro h
   simp only [List.map_cons,preIL,List.map_append]
   rw [h a (by simp),ih fun y hy=>h y (by simp [hy])]
 rw [this _ h1,this _ h2]
structure Wee1 (x:It):Prop where
 low:Low1 x
 size:(pre x.expr).length≤1000
def WeeI (x:It):Prop:=∀ y∈preI x,Wee1 y
theorem WeeI.self {x:It} (h:WeeI x):Wee1 x:=h x (by rw [preI_eq];simp)
theorem WeeI.item {x y:It} (h:WeeI x) (hy:y∈x.items):WeeI y:=fun z hz=>h z (by rw [preI_eq];exact List.mem_cons_of_mem _ (List.mem_append_left _ (mem_preIL.2 ⟨y,hy,hz⟩)))
theorem WeeI.els {x y:It} (h:WeeI x) (hy:y∈x.els):WeeI y:=fun z hz=>h z (by rw [preI_eq];exact List.mem_cons_of_mem _ (List.mem_append_right _ (mem_preIL.2 ⟨y,hy,hz⟩)))
theorem WeeI.lowI {x:It} (h:WeeI x):LowI x:=fun y hy=>(h y hy).low
def cEx (n:Int):Ex:=.mk 1 n [] []
theorem slim_cEx (n:Int):Slim (cEx n):=slim_mk (by simp) (by simp)
theorem wen_cEx (n:Int):Wen (cEx n):=wen_mk (by simp) (by simp) (by simp)
theorem WeeI.subst {x:It} (h:WeeI x) (s:Str) (n:Int):WeeI (substI s (cEx n) x):=by
 intro y hy
 rw [preI_subst] at hy
 obtain⟨z,hz,rfl⟩:=List.mem_map.1 hy
 obtain⟨lo,sz⟩:=h z hz
 refine⟨⟨?_,?_,?_,?_,?_,?_,?_⟩,?_⟩
 · rw [substI_expr];exact slim_substE (slim_cEx n) _ lo.slim
 · rw [substI_expr];exact wen_substE (wen_cEx n) _ lo.wen
 · rw [substI_ws];exact lo.ws
 · rw [substI_items];simpa using lo.items
 · rw [substI_els];simpa using lo.els
 · rw [substI_before];exact lo.before
 · rw [substI_after];exact lo.after
 · rw [substI_expr]
   have:=pre_substE (s:=s) (b:=cEx n) rfl z.expr
   omega
mutual
def nestI:It→Nat
 | .mk _ _ _ _ _ l m _ _=>1+max (nestL l) (nestL m)
def nestL:List It→Nat
 | []=>0
 | x::r=>max (nestI x) (nestL r)
end
theorem nestI_eq (x:It):nestI x=1+max (nestL x.items) (nestL x.els):=by cases x;simp [nestI,It.items,It.els]
theorem nestL_mem {l:List It} {x:It} (h:x∈l):nestI x≤nestL l:=by
 induction l with
 | nil=>cases h
 | cons a r ih=>
  simp only [nestL]
  rcases List.mem_cons.1 h with rfl|h
  · omega
  · have:=ih h;omega
theorem nestL_le {l:List It} {n:Nat} (h:∀ x∈l,nestI x≤n):nestL l≤n:=by
 induction l with
 | nil=>simp [nestL]
 | cons a r ih=>
  have h1:=h a (by simp)
  have h2:=ih fun x hx=>h x (by simp [hx])
  simp only [nestL];omega
theorem nestI_item {x y:It} (h:y∈x.items):nestI y<nestI x:=by
 have:=nestL_mem h
 rw [nestI_eq x];omega
theorem nestI_els {x y:It} (h:y∈x.els):nestI y<nestI x:=by
 have:=nestL_mem h
 rw [nestI_eq x];omega
theorem nestI_subst {s:Str} {b:Ex}:∀ x,nestI (substI s b x)=nestI x:=by
 refine It.ind fun x h1 h2=>?_
 have:∀ l:List It,(∀ a∈l,nestI (substI s b a)=nestI a)→nestL (l.map (substI s b))=nestL l:=by
  intro l
  induction l with
  | nil=>simp [nestL]
  | cons a r ih=>
   intro h
   simp only [List.map_cons,nestL]
   rw [h a (by simp),ih fun y hy=>h y (by simp [hy])]
 rw [nestI_eq,nestI_eq x,substI_items,substI_els,this _ h1,this _ h2]
theorem plain_leaf {x:It} (h:Shape1 x) (h4:x.kind≠4):x.els=[]∧(x.kind≠5→x.items=[]):=by
 have hp:=h.plain
 simp only [plainI,Bool.and_eq_true,Bool.or_eq_true,decide_eq_true_eq] at hp
 obtain⟨⟨⟨⟨⟨⟨a1,a2⟩,a3⟩,a4⟩,a5⟩,a6⟩,a7⟩:=hp
 refine⟨a6.resolve_left h4,fun h5=>a5.resolve_left (by omega)⟩
theorem nest_depth:∀ (x:It) (p:Place),(∀ y∈visI p x,shapeE y.1 y.2.depth=0)→nestI x+p.depth≤5:=by
 refine It.ind fun x h1 h2 p h=>?_
 have h0:shapeE x p.depth=0:=h (x,p) (visI_self p x)
 have hs:=shapeE_zero h0
 have hd:p.depth≤4:=by
  unfold shapeE at h0
  split at h0
  · cases h0
  · rename_i hn
    apply Classical.byContradiction
    intro hc
    exact hn (.inr (.inr (.inl (by omega))))
 have i1:∀ a∈x.items,nestI a+(innerP x p).depth≤5:=fun a ha=>h1 a ha _ fun y hy=>h y (by
  rw [visI_eq];exact List.mem_cons_of_mem _ (List.mem_append_left _ (mem_visIs.2 ⟨a,ha,hy⟩)))
 have i2:∀ a∈x.els,nestI a+(innerD x p).depth≤5:=fun a ha=>h2 a ha _ fun y hy=>h y (by
  rw [visI_eq];exact List.mem_cons_of_mem _ (List.mem_append_right _ (mem_visIs.2 ⟨a,ha,hy⟩)))
 rw [innerP_depth,innerD_depth] at i1
 rw [innerD_depth] at i2
 rw [nestI_eq]
 by_cases h45:x.kind=4∨x.kind=5
 · rw [if_pos h45] at i1 i2
   have q1:nestL x.items≤4-p.depth:=nestL_le fun a ha=>by have:=i1 a ha;omega
   have q2:nestL x.els≤4-p.depth:=nestL_le fun a ha=>by have:=i2 a ha;omega
   omega
 · have:=plain_leaf hs (fun e=>h45 (.inl e))
   rw [this.1,this.2 fun e=>h45 (.inr e)]
   simp [nestL];omega
theorem valid_nest {l:List It} (h:validI l=0):∀ x∈l,nestI x≤5:=by
 intro x hx
 unfold validI at h
 split at h
 · cases h
 · have:=nest_depth x ⟨0,[]⟩ fun y hy=>firstE_zero.1 h y (mem_visIs.2 ⟨x,hx,hy⟩)
   simpa using this
structure CondOk (c:Option Ex) (n:Nat):Prop where
 slim:∀ q,c=some q→Slim q
 wen:∀ q,c=some q→Wen q
 size:∀ q,c=some q→(pre q).length≤n
theorem slim_underE {c:Option Ex} {n:Nat} (h:CondOk c n) {op:Int} {e:Ex} (he:Slim e):Slim (underE c op e):=by
 cases c with
 | none=>exact he
 | some q=>
  refine slim_mk (by simp) fun x hx=>?_
  simp only [List.mem_cons,List.not_mem_nil,or_false] at hx
  rcases hx with rfl|rfl
  · exact h.slim _ rfl
  · exact he
theorem wen_underE {c:Option Ex} {n:Nat} (h:CondOk c n) {op:Int} {e:Ex} (he:Wen e):Wen (underE c op e):=by
 cases c with
 | none=>exact he
 | some q=>
  refine wen_mk (by simp) (by simp) fun x hx=>?_
  simp only [List.mem_cons,List.not_mem_nil,or_false] at hx
  rcases hx with rfl|rfl
  · exact h.wen _ rfl
  · exact he
theorem pre_underE {c:Option Ex} {n:Nat} (h:CondOk c n) {op:Int} {e:Ex}:(pre (underE c op e)).length≤n+1+(pre e).length:=by
 cases c with
 | none=>simp only [underE];omega
 | some q=>
  have:=h.size q rfl
  simp only [underE,pre_mk,preL_cons,preL_nil,List.length_cons,List.length_append,List.length_nil]
  omega
theorem CondOk.none:CondOk none 0:=⟨by simp,by simp,by simp⟩
theorem CondOk.under {c:Option Ex} {n:Nat} (h:CondOk c n) {op:Int} {e:Ex} (h1:Slim e) (h2:Wen e) {k:Nat} (h3:(pre e).length≤k):CondOk (some (underE c op e)) (n+1+k):=by
 refine⟨?_,?_,?_⟩
 · rintro q ⟨⟩;exact slim_underE h h1
 · rintro q ⟨⟩;exact wen_underE h h2
 · rintro q ⟨⟩;have:=pre_underE h (op:=op) (e:=e);omega
theorem slim_notE {e:Ex} (h:Slim e):Slim (notE e):=slim_mk (by simp) fun x hx=>by simp at hx;subst hx;exact h
theorem wen_notE {e:Ex} (h:Wen e):Wen (notE e):=wen_mk (by simp) (by simp) fun x hx=>by simp at hx;subst hx;exact h
theorem pre_notE {e:Ex}:(pre (notE e)).length=(pre e).length+1:=by simp [notE,pre_mk]
theorem wen_zEx:Wen zEx:=wen_mk (by simp) (by simp) (by simp)
structure OutOk (n:Nat) (y:It):Prop where
 slim:Slim y.expr
 wen:Wen y.expr
 size:(pre y.expr).length≤n
 ws:y.ws.length≤1000
 items:y.items=[]
 els:y.els=[]
 before:y.before.length≤1000
 after:y.after.length≤1000
theorem OutOk.mono {n m:Nat} (h:n≤m) {y:It} (hy:OutOk n y):OutOk m y:=⟨hy.slim,hy.wen,Nat.le_trans hy.size h,hy.ws,hy.items,hy.els,hy.before,hy.after⟩
theorem expandI_out {F:Flds}:∀ (h:Nat) (c:Option Ex) (n:Nat) (x:It),CondOk c n→WeeI x→∀ y∈expandI F h c x,OutOk (n+1002*(h+1)) y
 | 0,c,n,x,_,_,y,hy=>by simp [expandI] at hy
 | h+1,c,n,x,hc,hx,y,hy=>by
  have hx1:=hx.self
  simp only [expandI] at hy
  split at hy
  · simp only [List.mem_cons,List.not_mem_nil,or_false] at hy
    subst hy
    refine⟨slim_substE slim_zEx _ (slim_underE hc hx1.low.slim),wen_substE wen_zEx _ (wen_underE hc hx1.low.wen),?_,by simp [exprI,It.ws],rfl,rfl,by simp [exprI,It.before],by simp [exprI,It.after]⟩
    have h1:=pre_substE (s:=[]) (b:=zEx) rfl (underE c 21 x.expr)
    have h2:=pre_underE hc (op:=21) (e:=x.expr)
    have h3:=hx1.size
    show (pre (substE [] zEx (underE c 21 x.expr))).length≤_
    omega
  split at hy
  · rcases List.mem_append.1 hy with hy|hy
    · obtain⟨a,ha,hya⟩:=List.mem_flatMap.1 hy
      have:=expandI_out h _ _ a (hc.under (op:=19) hx1.low.slim hx1.low.wen hx1.size) (hx.item ha) y hya
      exact this.mono (by omega)
    · obtain⟨a,ha,hya⟩:=List.mem_flatMap.1 hy
      have:=expandI_out h _ _ a (hc.under (op:=19) (e:=notE x.expr) (k:=1001) (slim_notE hx1.low.slim) (wen_notE hx1.low.wen) (by rw [pre_notE];have:=hx1.size;omega)) (hx.els ha) y hya
      exact this.mono (by omega)
  split at hy
  · obtain⟨k,_,hyk⟩:=List.mem_flatMap.1 hy
    obtain⟨a,ha,hya⟩:=List.mem_flatMap.1 hyk
    obtain⟨z,hz,rfl⟩:=List.mem_map.1 ha
    exact (expandI_out h c n _ hc ((hx.item hz).subst x.index k) y hya).mono (by omega)
  split at hy
  · simp only [List.mem_cons,List.not_mem_nil,or_false] at hy
    subst hy
    refine⟨slim_zEx,wen_zEx,by simp [It.expr,zEx,pre_mk];omega,hx1.low.ws,rfl,rfl,by simp [It.before],by simp [It.after]⟩
  split at hy
  · simp only [List.mem_cons,List.not_mem_nil,or_false] at hy
    subst hy
    refine⟨slim_zEx,wen_zEx,by simp [It.expr,zEx,pre_mk];omega,by simp [It.ws],rfl,rfl,hx1.low.before,hx1.low.after⟩
  · cases hy
def distsI (l:List Var) (x:It):List Dist:=if x.kind=3 then (namedS1 l x.name).map fun i=>⟨i,x.ws⟩ else []
def edges1 (l:List Var) (ks:List Int) (i:Int):List (Int×Int):=(ks.filter fun k=>rndS l i&&rndS l k).map fun k=>(i,k)
def edgesI (l:List Var) (x:It):List (Int×Int):=if x.kind=6 then (namedL l x.after).flatMap (edges1 l (namedL l x.before)) else []
def stE (l:List Var) (S:List Signal) (i:Nat):Int:=match S[i]? with
 | some s=>(match l[(idxS l s.name).toNat]? with
  | some v=>if idxS l s.name<0∨v.mode≠0 then 7 else if (S.take i).any (fun x=>x.name==s.name)=true then 8 else if s.value<0∨2 ^ v.width.toNat≤s.value then 1 else 0
  | none=>7)
 | none=>0
def statesE (l:List Var) (S:List Signal):Int:=firstE (stE l S) (List.range S.length)
def setV (l:List Var) (s:Signal):List Var:=match l[(idxS l s.name).toNat]? with
 | some v=>l.set (idxS l s.name).toNat ⟨v.name,v.width,v.mode,s.value⟩
 | none=>l
def statesV (l:List Var) (S:List Signal):List Var:=S.foldl setV l
def chainL (E:List (Int×Int)):Nat→Int→Nat
 | 0,_=>0
 | f+1,i=>(E.filter fun e=>e.1==i).foldl (fun n e=>max n (chainL E f e.2+1)) 0
def inRel (E:List (Int×Int)) (i:Int):Bool:=E.any fun e=>e.1==i||e.2==i
def acyc (E:List (Int×Int)) (n:Nat):Bool:=E.all fun e=>decide (chainL E n e.2<chainL E n e.1)
def topL (E:List (Int×Int)) (n:Nat):Nat:=E.foldl (fun m e=>max m (chainL E n e.1)) 0
def levelS (E:List (Int×Int)) (n:Nat) (i:Int):Nat:=if inRel E i=true then chainL E n i else topL E n
def groupsL (l:List Var) (E:List (Int×Int)):List (List Int) :=
 ((List.range (topL E l.length+1)).map fun g=>((List.range l.length).filter fun (i:Nat)=>rndS l (i:Int)&&decide (levelS E l.length (i:Int)=g)).map fun (i:Nat)=>(i:Int)).filter fun g=>!g.isEmpty
noncomputable def scalarE (F:Flds) (l:List Var) (e:Ex):Int :=
 if validE e≠0 then validE e else if exprF F [] e≠0 then exprF F [] e else if 400<(extE l e).1 then 2 else if validE (scE l e)≠0 then 2 else 0
def kindsL (k:Int) (x:List It):List It:=x.filter fun y=>decide (y.kind=k)
def expandedS (F:Flds) (ls:List (List It)):List It:=ls.flatMap (expandL F 6 none)
noncomputable def buildE (c:Cls) (off:List Str) (more:List It) (S:List Signal):Int :=
 let F:=fldsOf c
 let l:=varsC c
 let x:=expandedS F (listsC c off more)
 let d:=x.flatMap (distsI l)
 let E:=x.flatMap (edgesI l)
 if firstE (expandE F) (listsC c off more)≠0 then firstE (expandE F) (listsC c off more)
 else if statesE l S≠0 then statesE l S
 else if distribE l d≠0 then distribE l d
 else if acyc E l.length=false then 10
 else if firstE (fun y=>scalarE F l y.expr) (kindsL 1 x)≠0 then firstE (fun y=>scalarE F l y.expr) (kindsL 1 x)
 else if firstE (fun y=>scalarE F l y.expr) (kindsL 2 x)≠0 then firstE (fun y=>scalarE F l y.expr) (kindsL 2 x)
 else validP ⟨statesV l S,(kindsL 1 x).map fun y=>scE l y.expr,(kindsL 2 x).map fun y=>scE l y.expr,d,groupsL l E⟩
def buildP (c:Cls) (off:List Str) (more:List It) (S:List Signal):Problem :=
 let F:=fldsOf c
 let l:=varsC c
 let x:=expandedS F (listsC c off more)
 ⟨statesV l S,(kindsL 1 x).map fun y=>scE l y.expr,(kindsL 2 x).map fun y=>scE l y.expr,x.flatMap (distsI l),groupsL l (x.flatMap (edgesI l))⟩
def zProb:Problem:=⟨[],[],[],[],[]⟩
noncomputable def problemE (q:Ask):Int :=
 if lineE q.src q.name≠0 then lineE q.src q.name
 else if q.off.any (fun s=>!(flattenS q.src q.name).blocks.any fun b=>b.name==s)=true then 7
 else buildE (flattenS q.src q.name) q.off q.more q.state
noncomputable def problemS (q:Ask):Problem:=if problemE q≠0 then zProb else buildP (flattenS q.src q.name) q.off q.more q.state
end Go.Proofs.YtpgcmnabljandaaGreatDoor
end
