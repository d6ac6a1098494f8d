/- A part of the proof: Walk2c Walk3 Walk4 Walk5 Walk5b Walk5c Walk10 AbsRead Works0 AbsEval. -/
import Derived.Test.YtpgcmnabljandaaGreatDoorGa15
import Derived.Test.YtpgcmnabljandaaGreatDoorGa12
import Derived.ChangeArms
import Derived.DataReads
import Derived.Test.YtpgcmnabljandaaGreatDoorGa14
set_option linter.unusedVariables false
set_option linter.unusedSimpArgs false
set_option maxRecDepth 1000000
section
namespace Go.Proofs.YtpgcmnabljandaaGreatDoor
open Go Go.Abs
theorem keyw_any (s:Str):keyw.any (fun v=>s==v)=keyw.contains s:=by
 rw [List.any_beq]
theorem iskw241 (s:Str):Pure Tryz.prog GG 241 [.str s] (.bool (keyw.contains s)):=by
 refine Pure.vc mixed Tryz.func241 rfl (by kernel_rfl) ?_
 simp [GG]
 refine vcCall.call (contains101 GG keyw s (by decide)) (by simp) ?_
 rw [keyw_any]
 simp
theorem isName168 (s:Str):Pure Tryz.prog GG 168 [.str s] (.bool (nameS s)):=by
 refine Pure.vc mixed Tryz.func168 rfl (by kernel_rfl) ?_
 simp
 refine vcCall.call (word240 GG s) rfl ?_
 cases h1:wordS s
 · simp [nameS,h1]
 · by_cases h2:s.length≤16
   · have h2':(s.length:Int)≤16:=by omega
     simp [h2']
     refine vcCall.call (iskw241 s) rfl ?_
     simp [nameS,h1,h2]
   · have h2':¬ (s.length:Int)≤16:=by omega
     simp [nameS,h1,h2,h2']
theorem indexByte_head {s:Str}:Lib.indexByte s 91=if s.contains 91=true then ((headS s).length:Int) else -1:=by
 unfold headS
 induction s with
 | nil=>simp [Lib.indexByte]
 | cons c r ih=>
  by_cases hc:c=91
  · subst hc;simp [Lib.indexByte]
  · have h1:(c==91)=false:=by simpa using hc
    have h2:¬ (91:UInt8)=c:=fun e=>hc e.symm
    simp only [Lib.indexByte,h1,Bool.false_eq_true,if_false,ih,List.contains_cons]
    have h3:((91:UInt8)==c)=false:=by simpa using h2
    have h4:(c != 91)=true:=by simpa using hc
    rw [h3,Bool.false_or,List.takeWhile_cons,if_pos h4]
    by_cases h5:r.contains 91=true
    · rw [if_pos h5,if_pos h5]
      have:¬ (((r.takeWhile (· != 91)).length:Int) == -1)=true:=by simp
      rw [if_neg this]
      simp
    · rw [if_neg h5,if_neg h5];simp
theorem index317 (G:Nat→AV) (s:Str):Pure Tryz.prog G 317 [.str s,.str [91]] (.int .i64 (Lib.indexByte s 91)):=by
 refine Pure.vc mixed Tryz.func317 rfl (by kernel_rfl) ?_
 by_cases h : [91]=s
 · subst h
   simp [Lib.indexByte]
 · simp [h]
   refine vcCall.call (indexByte368 G s 91) rfl ?_
   simp
theorem cut262 (G:Nat→AV) (s:Str) (hs:Fits s) (h:s.contains 91=true):Pure Tryz.prog G 262 [.str s,.str [91]] (.tup [.str (headS s),.str (tailS s),.bool true]):=by
 refine Pure.vc mixed Tryz.func262 rfl (by kernel_rfl) ?_
 simp
 refine vcCall.call (index317 G s) rfl ?_
 have e:=cut_eq h
 have hl:s.length=(headS s).length+1+(tailS s).length:=by
  have:=congrArg List.length e
  rw [List.length_append,List.length_cons] at this
  omega
 have hlt:(headS s).length<s.length:=by omega
 have t1:s.take (headS s).length=headS s:=by
  conv=>lhs;arg 2;rw [e]
  simp
 have t2:s.drop ((headS s).length+1)=tailS s:=by
  conv=>lhs;arg 2;rw [e]
  simp
 rw [indexByte_head,if_pos h]
 have hw:IntKind.i64.wrap (((headS s).length:Int)+1)=(headS s).length+1:=wr (by omega) (by omega)
 have h1:((headS s).length:Int)≤s.length:=by omega
 have h2:((headS s).length:Int)+1≤s.length:=by omega
 have h3:(0:Int)≤(headS s).length+1:=by omega
 have h4:(((headS s).length:Int)+1).toNat=(headS s).length+1:=by omega
 have h5:(headS s).length≤s.length:=by omega
 simp [sliceA,boundA,hw,h1,h2,h3,h4,h5,t1,t2]
theorem cut262n (G:Nat→AV) (s:Str) (hs:Fits s) (h:s.contains 91=false):Pure Tryz.prog G 262 [.str s,.str [91]] (.tup [.str s,.str [],.bool false]):=by
 refine Pure.vc mixed Tryz.func262 rfl (by kernel_rfl) ?_
 simp
 refine vcCall.call (index317 G s) rfl ?_
 rw [indexByte_head,if_neg (by rw [h];decide)]
 simp
theorem cut196 (G:Nat→AV) (s:Str) (hs:Fits s) (h:s.contains 91=true):Pure Tryz.prog G 196 [.str s,.str [91]] (.tup [.str (headS s),.str (tailS s),.bool true]):=by
 refine Pure.vc mixed Tryz.func196 rfl (by kernel_rfl) ?_
 simp
 refine vcCall.call (cut262 G s hs h) rfl ?_
 simp
theorem cut196n (G:Nat→AV) (s:Str) (hs:Fits s) (h:s.contains 91=false):Pure Tryz.prog G 196 [.str s,.str [91]] (.tup [.str s,.str [],.bool false]):=by
 refine Pure.vc mixed Tryz.func196 rfl (by kernel_rfl) ?_
 simp
 refine vcCall.call (cut262n G s hs h) rfl ?_
 simp
theorem itoa100:∀ (i:Nat),i<8→Pure Tryz.prog GG 100 [.int .i64 i] (.str [UInt8.ofNat (48+i)])
 | 0,_=>Pure.closed' C00_ok 10 8 (by kernel_rfl)
 | 1,_=>Pure.closed' C00_ok 10 8 (by kernel_rfl)
 | 2,_=>Pure.closed' C00_ok 10 8 (by kernel_rfl)
 | 3,_=>Pure.closed' C00_ok 10 8 (by kernel_rfl)
 | 4,_=>Pure.closed' C00_ok 10 8 (by kernel_rfl)
 | 5,_=>Pure.closed' C00_ok 10 8 (by kernel_rfl)
 | 6,_=>Pure.closed' C00_ok 10 8 (by kernel_rfl)
 | 7,_=>Pure.closed' C00_ok 10 8 (by kernel_rfl)
theorem element181 (a:Str) (i:Nat) (hi:i<8) (ha:a.length≤1000):Pure Tryz.prog GG 181 [.str a,.int .i64 i] (.str (elemS a i)):=by
 refine Pure.vc mixed Tryz.func181 rfl (by kernel_rfl) ?_
 have h1:a.length+1≤4611686018427387904:=by omega
 have h2:a.length+(1+1)≤4611686018427387904:=by omega
 have h3:a.length+(1+(1+1))≤4611686018427387904:=by omega
 have h4:a.length+1+1≤4611686018427387904:=by omega
 have h5:a.length+1+1+1≤4611686018427387904:=by omega
 simp [h1]
 refine vcCall.call (itoa100 i hi) rfl ?_
 simp [h2,h3,h4,h5,elemS]
theorem name_len {s:Str} (h:nameS s=true):s.length≤16:=by
 simp only [nameS,Bool.and_eq_true,decide_eq_true_eq] at h
 exact h.1.2
theorem elemB_of {s:Str} {i:Nat} (hi:i<8) (hn:nameS (headS s)=true) (h:s=elemS (headS s) i):(elemO s).isSome=true:=by
 rw [elemO_eq (a:=headS s) (i:=i) ⟨hi,hn,h⟩];rfl
theorem elemB_no {s:Str} (h:∀ i,i<8→s≠elemS (headS s) i):elemO s=none:=by
 rw [elemO_none]
 rintro a i hi
 have:=hi.has.2.1
 exact h i hi.1 (by rw [this];exact hi.2.2)
theorem elemB_no' {s:Str} (h:nameS (headS s)=false):elemO s=none:=by
 rw [elemO_none]
 rintro a i hi
 have:=hi.has.2.1
 rw [this,hi.2.1] at h;cases h
theorem named123 (s:Str) (hs:Fits s):Pure Tryz.prog GG 123 [.str s] (.bool (varS s)):=by
 refine Pure.vc mixed Tryz.func123 rfl (by kernel_rfl) ?_
 simp
 refine vcCall.call (isName168 s) rfl ?_
 cases hn:nameS s
 · simp
   by_cases hc:s.contains 91=true
   · refine vcCall.call (cut196 GG s hs hc) rfl ?_
     simp
     refine vcCall.call (isName168 (headS s)) rfl ?_
     cases hh:nameS (headS s)
     · simp [varS,hn,elemB_no' hh]
     · simp
       refine vcLoop.intro (fun n env σ=>∃ i:Nat,i≤8∧n=8-i∧env 0=.str s∧env 3=.str (headS s)∧env 22=.int .i64 i∧σ=⟨[],[]⟩∧∀ j,j<i→s≠elemS (headS s) j) 8 ⟨0,by simp⟩ ?_
       rintro n env σ ⟨i,hi,rfl,h0,h3,h22,rfl,hall⟩
       by_cases h8:i<8
       · have h8':(i:Int)<8:=by omega
         simp [h0,h3,h22,h8']
         refine vcCall.call (element181 (headS s) i h8 (by have:=name_len hh;omega)) rfl ?_
         by_cases he:s=elemS (headS s) i
         · have hv:varS s=true:=by simp [varS,elemB_of h8 hh he]
           rw [← he]
           simp [h0,hv]
         · simp [h0,h3,h22,he]
           refine⟨_,by omega,i+1,by omega,rfl,wr (by omega) (by omega),?_⟩
           intro j hj e
           rcases Nat.lt_succ_iff_lt_or_eq.1 hj with hj|rfl
           · exact hall j hj e
           · exact he e
       · have h8':¬ (i:Int)<8:=by omega
         have hv:varS s=false:=by
          have:elemO s=none:=elemB_no fun j hj=>hall j (by omega)
          simp [varS,hn,this]
         simp [h0,h3,h22,h8',hv]
   · have hc':s.contains 91=false:=by simpa using hc
     refine vcCall.call (cut196n GG s hs hc') rfl ?_
     simp [varS,hn,no_elem hc']
 · simp [varS,hn]
noncomputable def elemR (s:Str):AV:=match elemO s with
 | some (a,i)=>.tup [.str a,.int .i64 i,.bool true]
 | none=>.tup [.str [],.int .i64 0,.bool false]
theorem elemR_yes {s a:Str} {i:Nat} (h:IsElem s a i):elemR s=.tup [.str a,.int .i64 i,.bool true]:=by simp [elemR,elemO_eq h]
theorem elemR_no {s:Str} (h:elemO s=none):elemR s=.tup [.str [],.int .i64 0,.bool false]:=by simp [elemR,h]
theorem u8_of {c:UInt8} (h1:48≤c.toNat) (h2:c.toNat<56):UInt8.ofNat (48+(c.toNat-48))=c:=by
 have:48+(c.toNat-48)=c.toNat:=by omega
 rw [this];simp
theorem isElem_of {s t:Str} {c:UInt8} (hn:nameS t=true) (h1:48≤c.toNat) (h2:c.toNat<56) (h:s=t++[91,c,93]):IsElem s t (c.toNat-48) :=
 ⟨by omega,hn,by rw [h,elemS,u8_of h1 h2]⟩
theorem elem_last {s a:Str} {i:Nat} (h:IsElem s a i):s=a++[91,UInt8.ofNat (48+i),93]∧(UInt8.ofNat (48+i)).toNat=48+i∧i<8:=by
 refine⟨h.2.2,?_,h.1⟩
 have:=h.1
 simp;omega
theorem element290 (s:Str) (hs:Fits s):Pure Tryz.prog GG 290 [.str s] (elemR s):=by
 refine Pure.vc mixed Tryz.func290 rfl (by kernel_rfl) ?_
 simp
 cases hc:s.contains 91
 · refine vcCall.call (cut196n GG s hs hc) rfl ?_
   rw [elemR_no (no_elem hc)]
   simp
 · refine vcCall.call (cut196 GG s hs hc) rfl ?_
   simp
   refine vcCall.call (isName168 (headS s)) rfl ?_
   cases hn:nameS (headS s)
   · rw [elemR_no (elemB_no' hn)]
     simp
   · have no:(∀ c,tailS s=[c,93]→¬ (48≤c.toNat∧c.toNat<56))→elemR s=.tup [.str [],.int .i64 0,.bool false]:=by
      intro h
      refine elemR_no (elemO_none.2 fun a i hi=>?_)
      obtain⟨e1,e2,e3⟩:=elem_last hi
      exact h _ hi.has.2.2 ⟨by omega,by omega⟩
     cases ht:tailS s with
     | nil=>rw [no (by simp [ht])];simp
     | cons c r1=>
      cases r1 with
      | nil=>rw [no (by simp [ht])];simp
      | cons d r2=>
       cases r2 with
       | cons e r3=>
        have hl:¬ ((r3.length:Int)+1+1+1=2):=by omega
        rw [no (by simp [ht])]
        simp [hl]
       | nil=>
        by_cases hd:d=93
        · subst hd
          by_cases h1:48≤c.toNat
          · have h1':¬ (c.toNat:Int)<48:=by omega
            by_cases h2:c.toNat<56
            · have h2':¬ (56:Int)≤c.toNat:=by omega
              have e:IsElem s (headS s) (c.toNat-48):=isElem_of hn h1 h2 (by have:=cut_eq hc;rw [ht] at this;exact this)
              rw [elemR_yes e]
              have w1:IntKind.u8.wrap ((c.toNat:Int)-48)=c.toNat-48:=by simp [IntKind.wrap,IntKind.bits,IntKind.signed];omega
              have w2:IntKind.i64.wrap ((c.toNat:Int)-48)=c.toNat-48:=wr (by omega) (by omega)
              have w3:((c.toNat:Int)-48)=((c.toNat-48:Nat):Int):=by omega
              simp [h1',h2',convA,w1,w2]
              omega
            · have h2':(56:Int)≤c.toNat:=by omega
              rw [no (fun c' e=>by rw [ht] at e;cases e;omega)]
              simp [h1',h2']
          · have h1':(c.toNat:Int)<48:=by omega
            rw [no (fun c' e=>by rw [ht] at e;cases e;omega)]
            simp [h1']
        · have hd':¬ (d.toNat:Int)=93:=by
           intro e
           exact hd (UInt8.toNat_inj.1 (by simp;omega))
          rw [no (fun c' e=>by rw [ht] at e;cases e;exact absurd rfl hd)]
          simp [hd']
theorem isVar229 (s:Str) (hs:Fits s):Pure Tryz.prog GG 229 [.str s] (.bool (varS s)):=by
 refine Pure.vc mixed Tryz.func229 rfl (by kernel_rfl) ?_
 simp
 cases he:elemO s with
 | some p=>
  obtain⟨a,i⟩:=p
  refine vcCall.call (by have:=element290 s hs;rw [elemR_yes (elemO_some.1 he)] at this;exact this) rfl ?_
  simp [varS,he]
 | none=>
  refine vcCall.call (by have:=element290 s hs;rw [elemR_no he] at this;exact this) rfl ?_
  simp
  refine vcCall.call (isName168 s) rfl ?_
  simp [varS,he]
section
theorem runW_pre {S:Type} {stp:S→Ex→S×Bool} {s:S} {e:Ex}:runW stp s (pre e)=if (stp s e).2=true then runW stp (stp s e).1 (preL e.args) else ((stp s e).1,false):=by
 rw [pre_eq,runW]
theorem look {hd:List Blk} {c:Nat} (hc:hd.length=c) {t:List Blk} {k:Nat}:(hd++t)[c+k]?=t[k]? := by
 subst hc;rw [List.getElem?_append_right (by omega)];simp
theorem look1 {tail t:List Blk} {k:Nat} {b:Blk} (h:tail[k]?=some b):(tail++t)[k]?=some b:=by
 rw [List.getElem?_append_left (List.getElem?_eq_some_iff.1 h).1,h]
def Wen (e:Ex):Prop:=∀ x∈pre e,Fits x.args∧Fits x.name
theorem Wen.fits {e:Ex} (h:Wen e):Fits e.args:=(h e (by rw [pre_eq];simp)).1
theorem Wen.nm {e:Ex} (h:Wen e):Fits e.name:=(h e (by rw [pre_eq];simp)).2
theorem Wen.arg {e a:Ex} (h:Wen e) (ha:a∈e.args):Wen a:=fun x hx=>h x (by rw [pre_eq];exact List.mem_cons_of_mem _ (mem_preL.2 ⟨a,ha,hx⟩))
section
variable {S:Type} {stp:S→Ex→S×Bool} {hd:S→List Blk} {T:S→List (Option Nat)} {c:Nat} {vf:FuncId} {cap:List AV} {m:S→Nat}
def Visits (stp:S→Ex→S×Bool) (hd:S→List Blk) (T:S→List (Option Nat)) (vf:FuncId) (cap:List AV) (m:S→Nat):Prop :=
 ∀ s tail e,Wen e→0<m s→ACall Tryz.prog GG vf (.agg (encE e)::cap) ⟨hd s++tail,T s⟩ (fun r σ'=>r=.bool (stp s e).2∧∃ t,σ'=⟨hd (stp s e).1++(tail++t),T (stp s e).1⟩)
theorem runW_m (hm:∀ s e,m s≤m (stp s e).1+1):∀ (s:S) (l:List Ex),m s≤m (runW stp s l).1+l.length
 | s,[]=>by simp [runW]
 | s,e::r=>by
  simp only [runW]
  split
  · have:=hm s e
    have:=runW_m hm (stp s e).1 r
    simp;omega
  · have:=hm s e
    simp;omega
theorem down227 (hc:∀ s,(hd s).length=c) (hm:∀ s e,m s≤m (stp s e).1+1) (hv:Visits stp hd T vf cap m):∀ e,Wen e→∀ s tail kb kd,(pre e).length≤m s→tail[kb]?=some (.cells [.fn vf [] cap])→tail[kd]?=some (.cells [.fn 227 [] [.ptr (c+kb) 0,.ptr (c+kd) 0]]) →
 ACall Tryz.prog GG 227 [.agg (encE e),.ptr (c+kb) 0,.ptr (c+kd) 0] ⟨hd s++tail,T s⟩ (fun r σ'=>r=.bool (runW stp s (pre e)).2∧∃ t,σ'=⟨hd (runW stp s (pre e)).1++(tail++t),T (runW stp s (pre e)).1⟩):=by
 refine Ex.ind fun e ih hwe s tail kb kd hsz hb hd'=>?_
 rw [pre_eq,List.length_cons] at hsz
 refine ACall.vc mixed Tryz.func227 rfl (by kernel_rfl) ?_
 have lb:∀ s t,(hd s++(tail++t))[c+kb]?=some (.cells [.fn vf [] cap]):=fun s t=>by rw [look (hc s),look1 hb]
 have ld:∀ s t,(hd s++(tail++t))[c+kd]?=some (.cells [.fn 227 [] [.ptr (c+kb) 0,.ptr (c+kd) 0]]):=fun s t=>by rw [look (hc s),look1 hd']
 have lx:∀ s (t:List Blk) (x:Blk) (u:List Blk),(hd s++(tail++(t++x::u)))[c+(tail.length+t.length)]?=some x:=fun s t x u=>by
  rw [look (hc s),List.getElem?_append_right (by omega),List.getElem?_append_right (by omega)]
  simp
 have lx0:∀ s (x:Blk) (u:List Blk),(hd s++(tail++(x::u)))[c+tail.length]?=some x:=fun s x u=>by
  have:=lx s [] x u
  simpa using this
 simp [encE_eq,hc,lb,ld,lx0]
 rw [← encE_eq e]
 refine ACall.imp (hv s (tail++[.cells (encE e)]) e hwe (by omega)) ?_
 rintro r σ' ⟨rfl,t,rfl⟩
 have e0:hd (stp s e).1++(tail++[Blk.cells (encE e)]++t)=hd (stp s e).1++(tail++(Blk.cells (encE e)::t)):=by simp
 rw [e0]
 cases hst:(stp s e).2
 · simp [runW_pre,hst]
 · have hl:=hwe.fits
   simp only [encE_eq e]
   simp [hc,lx0]
   refine vcLoop.intro (fun n env σ=>∃ i s' tl,i≤e.args.length∧n=e.args.length-i∧env 1=.ptr (c+kb) 0∧env 2=.ptr (c+kd) 0∧env 12=.sl 4 (e.args.map encE) .none∧env 13=.int .i64 e.args.length∧env 14=.int .i64 i∧σ=⟨hd s'++(tail++tl),T s'⟩∧(preL (e.args.drop i)).length≤m s'∧runW stp s (pre e)=runW stp s' (preL (e.args.drop i))) e.args.length ⟨0,(stp s e).1,_,by simp,by simp,by simp,by simp,by simp,by simp,by simp,rfl,by have:=hm s e;simp;omega,by rw [runW_pre,hst];simp⟩ ?_
   rintro n env σ ⟨i,s',tl,hi,rfl,h1,h2,h12,h13,h14,rfl,hsz',hrun⟩
   cases hv':e.args[i]? with
   | none=>
    have hcn:¬ i<e.args.length:=by simp at hv';omega
    have hd0:e.args.drop i=[]:=by simp;omega
    rw [hd0] at hrun
    simp [h1,h2,h12,h13,h14,hcn,hrun,runW]
   | some a=>
    obtain⟨hcn,hve⟩:=List.getElem?_eq_some_iff.1 hv'
    have hma:=List.mem_of_getElem? hv'
    rw [drop_cons hv',preL_cons,runW_append] at hrun
    rw [drop_cons hv',preL_cons,List.length_append] at hsz'
    have hmr:=runW_m hm s' (pre a)
    have set1:∀ (z x:Blk),(hd s'++(tail++(tl++[z]))).set (c+(tail.length+tl.length)) x=hd s'++(tail++(tl++[x])):=fun z x=>by
     rw [List.set_append,if_neg (by rw [hc];omega),hc,List.set_append,if_neg (by omega),List.set_append,if_neg (by omega)]
     have:c+(tail.length+tl.length)-c-tail.length-tl.length=0:=by omega
     rw [this];rfl
    simp [h1,h2,h12,h13,h14,hcn,hve,encE_eq a,hc,lx,set1,lb,ld]
    rw [← encE_eq a]
    refine ACall.imp (ih a hma (hwe.arg hma) s' (tail++(tl++[.cells (encE a)])) kb kd (by omega) (look1 hb) (look1 hd')) ?_
    rintro r σ' ⟨rfl,t',rfl⟩
    cases hr:(runW stp s' (pre a)).2
    · rw [hr] at hrun
      simp only [Bool.false_eq_true,if_false] at hrun
      simp [hrun,hr]
    · rw [hr] at hrun
      simp only [if_true] at hrun
      simp [h1,h2,h12,h13,h14]
      exact⟨_,by omega,i+1,by omega,rfl,wr (by omega) (by omega),_,⟨⟨_,rfl⟩,rfl⟩,by omega,hrun⟩
theorem walk149 (hc:∀ s,(hd s).length=c) (hm:∀ s e,m s≤m (stp s e).1+1) (hv:Visits stp hd T vf cap m) (e:Ex) (hwe:Wen e) (s:S) (hsz:(pre e).length≤m s) (tail:List Blk) :
 ACall Tryz.prog GG 149 [.agg (encE e),.fn vf [] cap] ⟨hd s++tail,T s⟩ (fun r σ'=>∃ t,σ'=⟨hd (runW stp s (pre e)).1++(tail++t),T (runW stp s (pre e)).1⟩):=by
 refine ACall.vc mixed Tryz.func149 rfl (by kernel_rfl) ?_
 have set2:∀ (x y z w:Blk),(hd s++(tail++[x,y,z])).set (c+(tail.length+(1+1))) w=hd s++(tail++[x,y,w]):=fun x y z w=>by
  rw [List.set_append,if_neg (by rw [hc];omega),hc,List.set_append,if_neg (by omega)]
  have:c+(tail.length+(1+1))-c-tail.length=2:=by omega
  rw [this];rfl
 have l0:∀ (x:Blk) (u:List Blk),(hd s++(tail++(x::u)))[c+tail.length]?=some x:=fun x u=>by
  rw [look (hc s),List.getElem?_append_right (by omega)];simp
 have l2:∀ (x y z:Blk) (u:List Blk),(hd s++(tail++(x::y::z::u)))[c+(tail.length+(1+1))]?=some z:=fun x y z u=>by
  rw [look (hc s),List.getElem?_append_right (by omega)]
  have:tail.length+(1+1)-tail.length=2:=by omega
  rw [this];rfl
 simp [encE_eq e,hc,set2,l0,l2]
 rw [← encE_eq e]
 have k:=down227 hc hm hv e hwe s (tail++[.cells (encE e),.cells [.fn vf [] cap],.cells [.fn 227 [] [.ptr (c+(tail.length+1)) 0,.ptr (c+(tail.length+1)+1) 0]]]) (tail.length+1) (tail.length+1+1) hsz
  (by rw [List.getElem?_append_right (by omega)];have:tail.length+1-tail.length=1:=(by omega);rw [this];rfl)
  (by rw [List.getElem?_append_right (by omega)];have:tail.length+1+1-tail.length=2:=(by omega);rw [this];rfl)
 refine ACall.imp k ?_
 rintro r σ' ⟨_,t,rfl⟩
 exact⟨_,by rw [List.append_assoc]⟩
end
end
section
theorem list_choose {α:Type} {R:Nat→α→Prop}:∀ (n:Nat),(∀ i,i<n→∃ y,R i y)→∃ l:List α,l.length=n∧∀ i y,l[i]?=some y→R i y
 | 0,_=>⟨[],rfl,by simp⟩
 | n+1,h=>by
  obtain⟨l,h1,h2⟩:=list_choose n fun i hi=>h i (by omega)
  obtain⟨y,hy⟩:=h n (by omega)
  refine⟨l++[y],by simp [h1],fun i z hz=>?_⟩
  rw [List.getElem?_append] at hz
  split at hz
  · exact h2 i z hz
  · rename_i hi
    have:i-l.length=0:=by
     rcases Nat.eq_zero_or_pos (i-l.length) with h0|h0
     · exact h0
     · rw [List.getElem?_eq_none (by simp;omega)] at hz;cases hz
    rw [this] at hz
    cases hz
    have:i=n:=by omega
    subst this
    exact hy
section
variable {H:Type} {enc:TypeId×Value→H} {w:World} {base:Nat} {held:Bool}
abbrev KW (w:World):Kn:=Go.Abs.K0 (roAll w)
theorem VRels.get {K:Kn}:∀ {l:List AV} {vs:List Value},VRels K l vs→vs.length=l.length∧∀ (j:Nat) (a:AV),l[j]?=some a→∃ v,vs[j]?=some v∧VRel K a v
 | [],_,h=>by simp only [VRels] at h;subst h;simp
 | a::r,_,h=>by
  simp only [VRels] at h
  obtain⟨v,vr,rfl,h1,h2⟩:=h
  obtain⟨k1,k2⟩:=VRels.get h2
  refine⟨by simp [k1],fun j b hj=>?_⟩
  cases j with
  | zero=>simp at hj;subst hj;exact⟨v,rfl,h1⟩
  | succ j=>simp at hj;exact k2 j b hj
theorem rd_slice {α:Type} {t e sz:Nat} {en:α→List AV} {good:α→Prop} {n:Nat} (ht:Tryz.prog.underlying t=some (.slice e)) (hsz:Tryz.prog.cellsOf e=sz) (hpos:0<sz)
 (hat:∀ y,(en y).all AV.atom=true∧(en y).length=sz)
 (hel:∀ cs x,DataW.trod enc Tryz.prog w base (fun _=>true) held n e cs=some x→∃ y,VRels (KW w) (en y) cs∧good y)
 {cs:List Value} {x:DataW H×List MemPlace} (h:DataW.trod enc Tryz.prog w base (fun _=>true) held (n+1) t cs=some x) :
 ∃ (l:List α) (v:Value),cs=[v]∧VRel (KW w) (.sl sz (l.map en) .none) v∧Fits l∧∀ y∈l,good y:=by
 rcases DataW.trod_slice ht h with ⟨rfl,rfl⟩|⟨a,len,cap,elems,rest,m,hm,rfl,rfl,hb,hl,hc,hlen,hel',hsp,_⟩
 · exact⟨[],_,rfl,by simp only [VRel];exact .inl ⟨⟨none,rfl,.inl rfl⟩,rfl,trivial⟩,by simp,by simp⟩
 · have hnm:n=m:=by omega
   subst hnm
   rw [hsz] at hel' hsp
   have one:∀ i,i<len→∃ y,∃ cs',w.cells? base (a.add (i*sz)) sz=some cs'∧VRels (KW w) (en y) cs'∧good y:=by
    intro i hi
    have:=hel' i hi
    rw [List.getElem?_eq_getElem (by omega)] at this
    obtain⟨cs',h1,h2⟩:=Option.bind_eq_some_iff.1 this
    obtain⟨y,h3,h4⟩:=hel cs' _ h2
    exact⟨y,cs',h1,h3,h4⟩
   by_cases h0:cap=0
   · have hl0:len=0:=by omega
     subst h0 hl0
     exact⟨[],_,rfl,by simp only [VRel];exact .inl ⟨⟨some a,rfl,.inr trivial⟩,rfl,trivial⟩,by simp,by simp⟩
   · have spot:a.spot=none:=by
      have rd:∃ cs',w.cells? base (a.add 0) sz=some cs':=by
       by_cases hl0:0<len
       · obtain⟨_,cs',h1,_⟩:=one 0 hl0
         rw [Nat.zero_mul] at h1
         exact⟨cs',h1⟩
       · obtain⟨hr1,hr2⟩:=hsp rfl
         have:=hr2 0 (by omega)
         rw [List.getElem?_eq_getElem (by omega),show len+0=0 by omega,Nat.zero_mul] at this
         obtain⟨cs',h1,_⟩:=Option.bind_eq_some_iff.1 this
         exact⟨cs',h1⟩
      obtain⟨cs',h1⟩:=rd
      obtain⟨_,hlen',hc'⟩:=World.cells?_some h1
      have:=hc' 0 hpos
      rw [List.getElem?_eq_getElem (by omega)] at this
      cases hs:a.spot with
      | none=>rfl
      | some s=>
       simp only [Addr.add,if_true] at this
       unfold World.cell? at this
       rw [hs] at this
       split at this<;>simp at this
     obtain⟨b,o,s⟩:=a
     simp only at spot
     subst spot
     obtain⟨l,hl1,hl2⟩:=list_choose len one
     refine⟨l,_,rfl,?_,by rw [Fits,hl1];simp only [maxLen] at hc;omega,fun y hy=>?_⟩
     · simp only [VRel]
       refine .inr ⟨b,o,cap,by simp [hl1],by simpa [hl1] using hl,RowsAt.intro b sz _ o fun i r e=>?_,trivial⟩
       rw [List.getElem?_map,Option.map_eq_some_iff] at e
       obtain⟨y,hy,rfl⟩:=e
       obtain⟨cs',h1,h2,_⟩:=hl2 i y hy
       obtain⟨h3,h4⟩:=hat y
       obtain⟨_,hlen',hc'⟩:=World.cells?_some h1
       obtain⟨g1,g2⟩:=VRels.get h2
       refine⟨h4,h3,CellsAt.intro b _ _ fun j z hz=>?_⟩
       obtain⟨v,hv1,hv2⟩:=g2 j z hz
       have hjl:j<sz:=by rw [← hlen'];exact (List.getElem?_eq_some_iff.1 hv1).1
       refine⟨v,?_,hv2⟩
       have:=hc' j hjl
       rw [hv1] at this
       show w.cell? ⟨b,o+i*sz+j,none⟩=some v
       rw [← this]
       congr 1
       simp only [Addr.add]
       by_cases hi0:i*sz=0
       · rw [if_pos hi0]
         by_cases hj0:j=0
         · rw [if_pos hj0,hi0,hj0];simp
         · rw [if_neg hj0,hi0];simp
       · rw [if_neg hi0]
         by_cases hj0:j=0
         · rw [if_pos hj0,hj0];simp
         · rw [if_neg hj0]
     · obtain⟨i,hi⟩:=List.getElem?_of_mem hy
       obtain⟨_,_,_,hg⟩:=hl2 i y hi
       exact hg
end
end
def C1 (g:FuncId) (args:List AV):Option AV:=match Nat.beq g 168 with
 | true=>match args with
  | [.str s]=>some (.bool (nameS s))
  | _=>none
 | false=>match Nat.beq g 368 with
  | true=>match args with
   | [.str s,.int .u8 c]=>some (.int .i64 (Lib.indexByte s c.toNat.toUInt8))
   | _=>none
  | false=>none
theorem C1_ok:ConOk Tryz.prog GG C1:=by
 intro g args r hno h
 unfold C1 at h
 split at h
 · rename_i hg
   split at h
   · cases h
     rw [Nat.eq_of_beq_eq_true hg]
     exact isName168 _
   · cases h
 · split at h
   · rename_i hg
     split at h
     · cases h
       rw [Nat.eq_of_beq_eq_true hg]
       exact indexByte368 _ _ _
     · cases h
   · cases h
noncomputable def FG1 (g:Nat):Option Bod:=match Nat.beq g 168 with
 | true=>none
 | false=>FG g
theorem FG1_ok:BodOk Tryz.prog GG FG1:=by
 intro g b h
 unfold FG1 at h
 split at h
 · cases h
 · exact FG_ok g b h
noncomputable def closed1 (m n:Nat) (g:FuncId) (args:List AV) (r:AV):Bool:=match FG1 g with
 | some b=>Nat.ble args.length b.n&&(match runC DD GG (callN DD GG FG1 C1 m n) m b.o b.c (envOf args) ⟨[],[]⟩ with
  | some l=>match oneOf DD b.rs l with
   | some r'=>eqA r' r
   | none=>false
  | none=>false)
 | none=>false
theorem Pure.closed1 (m n:Nat) {g:FuncId} {args:List AV} {r:AV} (h:closed1 m n g args r=true):Pure Tryz.prog GG g args r:=by
 unfold Go.Proofs.YtpgcmnabljandaaGreatDoor.closed1 at h
 split at h
 · rename_i b hb
   simp only [Bool.and_eq_true] at h
   exact Pure.run mixed DD_eq FG1_ok C1_ok hb (Nat.le_of_ble_eq_true h.1) h.2
 · cases h
def tokLe:Tok→Tok→Bool
 | _,.none=>true
 | .nil,.nil=>true
 | .tight,.tight=>true
 | _,_=>false
theorem tokLe_spec {a b:Tok} (h:tokLe a b=true):b=.none∨b=a:=by
 cases a<;>cases b<;>simp [tokLe] at h ⊢
mutual
def leqB:AV→AV→Bool
 | .bool a,.bool b=>a==b
 | .int k a,.int k' b=>decide (k=k')&&(a==b)
 | .str a,.str b=>a==b
 | .sl sz r tok,.sl sz' r' tok'=>(Nat.beq sz sz' && (tokLe tok tok' && leqR r r'))||(r.isEmpty&&(r'.isEmpty&&!tok'.known))
 | .agg c,.agg c'=>leqL c c'
 | _,_=>false
def leqL:List AV→List AV→Bool
 | [],[]=>true
 | a::r,b::s=>leqB a b&&leqL r s
 | _,_=>false
def leqR:List (List AV)→List (List AV)→Bool
 | [],[]=>true
 | a::r,b::s=>leqL a b&&b.all AV.atom&&leqR r s
 | _,_=>false
end
mutual
theorem leqB_spec:∀ (a b:AV),leqB a b=true→Leq a b
 | .bool a,b,h=>by
  cases b<;>simp [leqB] at h
  subst h;exact Leq.refl _
 | .int k a,b,h=>by
  cases b<;>simp [leqB] at h
  obtain⟨rfl,rfl⟩:=h;exact Leq.refl _
 | .str a,b,h=>by
  cases b<;>simp [leqB] at h
  subst h;exact Leq.refl _
 | .sl sz r tok,b,h=>by
  cases b<;>simp only [leqB] at h<;>try (cases h;done)
  rename_i sz' r' tok'
  simp only [Bool.and_eq_true,Bool.or_eq_true] at h
  simp only [Leq]
  rcases h with h|h
  · exact .inr ⟨Nat.eq_of_beq_eq_true h.1,leqR_spec r r' h.2.2,tokLe_spec h.2.1⟩
  · have ht:tok'=.none:=by have:=h.2.2;cases tok'<;>simp [Tok.known] at this ⊢
    exact .inl ⟨by simpa using h.1,by simpa using h.2.1,ht⟩
 | .agg c,b,h=>by
  cases b<;>simp only [leqB] at h<;>try (cases h;done)
  simp only [Leq]
  exact leqL_spec _ _ h
 | .any,b,h=>by simp [leqB] at h
 | .nilp,b,h=>by simp [leqB] at h
 | .ptr ..,b,h=>by simp [leqB] at h
 | .rptr _,b,h=>by simp [leqB] at h
 | .ms ..,b,h=>by simp [leqB] at h
 | .nilm,b,h=>by simp [leqB] at h
 | .map _,b,h=>by simp [leqB] at h
 | .iter _,b,h=>by simp [leqB] at h
 | .fn ..,b,h=>by simp [leqB] at h
 | .nilf,b,h=>by simp [leqB] at h
 | .tup _,b,h=>by simp [leqB] at h
theorem leqL_spec:∀ (a b:List AV),leqL a b=true→LeqL a b
 | [],[],_=>by simp [LeqL]
 | a::r,b::s,h=>by
  simp only [leqL,Bool.and_eq_true] at h
  simp only [LeqL]
  exact⟨leqB_spec a b h.1,leqL_spec r s h.2⟩
 | [],_::_,h=>by simp [leqL] at h
 | _::_,[],h=>by simp [leqL] at h
theorem leqR_spec:∀ (a b:List (List AV)),leqR a b=true→LeqR a b
 | [],[],_=>by simp [LeqR]
 | a::r,b::s,h=>by
  simp only [leqR,Bool.and_eq_true] at h
  simp only [LeqR]
  exact⟨.inr ⟨leqL_spec a b h.1.1,h.1.2⟩,leqR_spec r s h.2⟩
 | [],_::_,h=>by simp [leqR] at h
 | _::_,[],h=>by simp [leqR] at h
end
def wrapW (n:Int):Int:=n % 65536
theorem wrapW_range (n:Int):0≤wrapW n∧wrapW n≤65535:=by unfold wrapW;omega
theorem wrapW_id {n:Int} (h0:0≤n) (h1:n≤65535):wrapW n=n:=by unfold wrapW;omega
def b2i (b:Bool):Int:=if b=true then 1 else 0
theorem b2i_range (b:Bool):0≤b2i b∧b2i b≤65535:=by cases b<;>simp [b2i]
def findV (env:List Signal) (name:Str):Option Int:=(env.find? fun s=>s.name==name).map fun s=>wrapW s.value
def atV (env:List Signal) (a:Str) (i:Int):Int:=if 0≤i∧i<8 then (findV env (elemS a i.toNat)).getD 0 else 0
def sumV (env:List Signal) (a:Str):Nat→Int
 | 0=>0
 | i+1=>wrapW (sumV env a i+atV env a i)
def onesN (a:Nat):Nat→Nat
 | 0=>0
 | i+1=>onesN a i+(if a.testBit i=true then 1 else 0)
def unW (op a:Int):Int :=
 if op=4 then b2i (decide (a=0)) else if op=5 then 65535-wrapW a else if op=6 then wrapW (0-a) else (onesN (wrapW a).toNat 16:Int)
def binW (op a b:Int):Int :=
 if op=7 then wrapW (a+b) else if op=8 then wrapW (a-b) else if op=9 then wrapW (a*b)
 else if op=10 then ((a.toNat &&& b.toNat:Nat):Int) else if op=11 then ((a.toNat ||| b.toNat:Nat):Int) else if op=12 then ((a.toNat ^^^ b.toNat:Nat):Int)
 else if op=13 then (if 0≤b∧b<16 then wrapW (a*2 ^ b.toNat) else 0)
 else if op=14 then (if 0≤b∧b<16 then wrapW a / 2 ^ b.toNat else 0)
 else if op=15 then b2i (decide (a=b)) else if op=16 then b2i (!decide (a=b)) else if op=17 then b2i (decide (a<b)) else if op=18 then b2i (decide (a≤b))
 else if op=19 then b2i (!decide (a=0)&&!decide (b=0)) else if op=20 then b2i (!decide (a=0)||!decide (b=0))
 else b2i (decide (a=0)||!decide (b=0))
def insideW (a:Int):List Int→Bool
 | x::y::r=>(decide (x≤a)&&decide (a≤y))||insideW a r
 | _=>false
def opW (op:Int) (l:List Int):Int :=
 if op=22 then (if l.getD 0 0≠0 then l.getD 1 0 else l.getD 2 0)
 else if op=23 then b2i (insideW (l.getD 0 0) l.tail)
 else match l with
  | []=>0
  | [a]=>unW op a
  | a::b::_=>binW op a b
def nodeV (env:List Signal) (op n:Int) (name:Str) (l:List Int):Int :=
 if op=1 then n else if op=2 then (findV env name).getD 0 else if op=3 then atV env name (l.getD 0 0) else if op=24 then sumV env name 8 else opW op l
mutual
def valV (env:List Signal):Ex→Int
 | .mk op n name args=>nodeV env op n name (valsV env args)
def valsV (env:List Signal):List Ex→List Int
 | []=>[]
 | e::r=>valV env e::valsV env r
end
@[simp] theorem valsV_eq (env:List Signal):∀ l,valsV env l=l.map (valV env)
 | []=>by simp [valsV]
 | e::r=>by simp [valsV,valsV_eq env r]
theorem valV_eq (env:List Signal) (e:Ex):valV env e=nodeV env e.op e.n e.name (e.args.map (valV env)):=by cases e;simp [valV]
def askV (env:List Signal) (e:Ex):Bool :=
 if e.op=2 then (findV env e.name).isSome else if e.op=3∨e.op=24 then (findV env (elemS e.name 0)).isSome else true
def knownV (env:List Signal) (e:Ex):Bool:=(pre e).all (askV env)
theorem knownV_eq (env:List Signal) (e:Ex):knownV env e=(askV env e&&e.args.all (knownV env)):=by
 unfold knownV
 rw [pre_eq,List.all_cons]
 congr 1
 generalize e.args=l
 induction l with
 | nil=>simp
 | cons a r ih=>simp [ih,List.all_append]
noncomputable def evalE (env:List Signal) (e:Ex):Int:=if validE e≠0 then 1 else if knownV env e=true then 0 else 7
noncomputable def evalV (env:List Signal) (e:Ex):Int:=if validE e=0∧knownV env e=true then valV env e else 0
def NodesOk (e:Ex):Prop:=∀ x∈pre e,nodeE x=0
theorem NodesOk.self {e:Ex} (h:NodesOk e):nodeE e=0:=h e (by rw [pre_eq];simp)
theorem NodesOk.arg {e a:Ex} (h:NodesOk e) (ha:a∈e.args):NodesOk a:=fun x hx=>h x (by rw [pre_eq];exact List.mem_cons_of_mem _ (mem_preL.2 ⟨a,ha,hx⟩))
theorem validE_nodes {e:Ex} (h:validE e=0):NodesOk e:=by
 unfold validE at h
 split at h
 · cases h
 · exact firstE_zero.1 h
theorem nodeE_zero {e:Ex} (h:nodeE e=0):1≤e.op∧e.op≤25∧(e.op=1→0≤e.n∧e.n≤65535)∧(e.op≠1→e.n=0)∧operandsS e=true∧(e.op=2→varS e.name=true)∧(e.op=3∨e.op=24→nameS e.name=true)∧(¬ (e.op=2∨e.op=3∨e.op=24)→e.name=[]):=by
 unfold nodeE at h
 split at h
 · cases h
 rename_i h1
 split at h
 · cases h
 rename_i h2
 split at h
 · cases h
 rename_i h3
 split at h
 · cases h
 rename_i h4
 refine⟨by omega,by omega,fun h=>?_,fun h=>?_,?_,fun h=>?_,fun h=>?_,fun h=>?_⟩
 · apply Classical.byContradiction
   intro hn
   exact h2 (.inl ⟨h,by omega⟩)
 · apply Classical.byContradiction
   intro hn
   exact h2 (.inr ⟨h,hn⟩)
 · cases ho:operandsS e with
   | true=>rfl
   | false=>exact absurd (.inr ho) h3
 · cases ho:varS e.name with
   | true=>rfl
   | false=>exact absurd (.inl ⟨h,ho⟩) h4
 · cases ho:nameS e.name with
   | true=>rfl
   | false=>exact absurd (.inr ⟨h,ho⟩) h4
 · apply Classical.byContradiction
   intro hn
   exact h3 (.inl ⟨h,hn⟩)
theorem operands_args {e:Ex} (h:operandsS e=true) (h23:e.op≠23):(e.args.length:Int)=arityS e.op:=by
 unfold operandsS at h
 rw [if_neg h23] at h
 simpa using h
theorem operands_in {e:Ex} (h:operandsS e=true) (h23:e.op=23):e.args.length % 2=1∧3≤e.args.length∧e.args.length≤33:=by
 unfold operandsS at h
 rw [if_pos h23] at h
 simpa using h
theorem onesN_le (a:Nat):∀ i,onesN a i≤i
 | 0=>Nat.le_refl _
 | i+1=>by
  have:=onesN_le a i
  simp only [onesN]
  split<;>omega
theorem findV_range {env:List Signal} {name:Str} {v:Int} (h:findV env name=some v):0≤v∧v≤65535:=by
 unfold findV at h
 obtain⟨s,_,rfl⟩:=Option.map_eq_some_iff.1 h
 exact wrapW_range _
theorem getD_range {o:Option Int} (h:∀ v,o=some v→0≤v∧v≤65535):0≤o.getD 0∧o.getD 0≤65535:=by
 cases o with
 | none=>simp
 | some v=>exact h v rfl
theorem atV_range (env:List Signal) (a:Str) (i:Int):0≤atV env a i∧atV env a i≤65535:=by
 unfold atV
 split
 · exact getD_range fun v h=>findV_range h
 · omega
theorem sumV_range (env:List Signal) (a:Str):∀ i,0≤sumV env a i∧sumV env a i≤65535
 | 0=>by simp [sumV]
 | i+1=>wrapW_range _
theorem unW_range (op a:Int):0≤unW op a∧unW op a≤65535:=by
 unfold unW
 split
 · exact b2i_range _
 split
 · have:=wrapW_range a;omega
 split
 · exact wrapW_range _
 · have:=onesN_le (wrapW a).toNat 16;omega
theorem shr_range {a:Int} (n:Nat) (h0:0≤a) (h1:a≤65535):0≤a / 2 ^ n∧a / 2 ^ n≤65535:=by
 have hp:(0:Int)<2 ^ n:=Int.pow_pos (by omega)
 refine⟨Int.ediv_nonneg h0 (by omega),?_⟩
 have:=Int.ediv_le_self (2 ^ n) h0
 omega
def InW (n:Int):Prop:=0≤n∧n≤65535
theorem InW.ite {c:Prop} [Decidable c] {a b:Int} (ha:InW a) (hb:InW b):InW (if c then a else b):=by
 split
 · exact ha
 · exact hb
theorem binW_range (op:Int) {a b:Int} (ha0:0≤a) (ha1:a≤65535) (hb0:0≤b) (hb1:b≤65535):0≤binW op a b∧binW op a b≤65535:=by
 obtain⟨x,rfl⟩:=Int.eq_ofNat_of_zero_le ha0
 obtain⟨y,rfl⟩:=Int.eq_ofNat_of_zero_le hb0
 have hx:x<2 ^ 16:=by omega
 have hy:y<2 ^ 16:=by omega
 have o1:=Nat.and_lt_two_pow (n:=16) x hy
 have o2:=Nat.or_lt_two_pow (n:=16) hx hy
 have o3:=Nat.xor_lt_two_pow (n:=16) hx hy
 show InW (binW op x y)
 unfold binW
 simp only [Int.toNat_natCast]
 repeat' apply InW.ite
 all_goals first | exact wrapW_range _ | exact b2i_range _ | exact shr_range _ (wrapW_range _).1 (wrapW_range _).2 | (unfold InW;omega)
theorem valV_range (env:List Signal):∀ e,NodesOk e→0≤valV env e∧valV env e≤65535:=by
 refine Ex.ind fun e ih hn=>?_
 have hm:∀ x∈e.args.map (valV env),0≤x∧x≤65535:=by
  intro x hx
  obtain⟨a,ha,rfl⟩:=List.mem_map.1 hx
  exact ih a ha (hn.arg ha)
 have hg:∀ i,0≤(e.args.map (valV env)).getD i 0∧(e.args.map (valV env)).getD i 0≤65535:=by
  intro i
  rw [List.getD_eq_getElem?_getD]
  exact getD_range fun v h=>hm v (List.mem_of_getElem? h)
 obtain⟨h1,h2,h3,_⟩:=nodeE_zero hn.self
 rw [valV_eq]
 unfold nodeV
 split
 · rename_i h;exact h3 h
 split
 · exact getD_range fun v h=>findV_range h
 split
 · exact atV_range _ _ _
 split
 · exact sumV_range _ _ _
 unfold opW
 split
 · split
   · exact hg 1
   · exact hg 2
 split
 · exact b2i_range _
 split
 · omega
 · exact unW_range _ _
 · rename_i a b r hl
   rw [hl] at hm
   exact binW_range _ (hm a (by simp)).1 (hm a (by simp)).2 (hm b (by simp)).1 (hm b (by simp)).2
def envS (l:List Var) (a:List Int):List Signal:=if a.length=l.length then (l.zip a).map fun q=>⟨q.1.name,q.2⟩ else []
def assign1 (q:Var×Int):Bool:=decide (0≤q.2)&&decide (q.2<2 ^ q.1.width.toNat)&&(!decide (q.1.mode=0)||decide (q.2=q.1.value))
def assignsS (l:List Var) (a:List Int):Bool:=decide (a.length=l.length)&&(l.zip a).all assign1
noncomputable def holdsS (p:Problem) (a:List Int) (e:Ex):Bool :=
 decide (validP p=0)&&assignsS p.vars a&&decide (evalE (envS p.vars a) e=0)&&!decide (evalV (envS p.vars a) e=0)
theorem validP_vars {p:Problem} (h:validP p=0):∀ v∈p.vars,varE v=0:=by
 unfold validP at h
 split at h
 · rename_i hn;exact absurd h hn
 rename_i hv
 have hv:varsS p.vars=0:=Classical.not_not.1 hv
 unfold varsS at hv
 split at hv
 · cases hv
 split at hv
 · rename_i hn;exact absurd hv hn
 rename_i hz
 exact firstE_zero.1 (Classical.not_not.1 hz)
end Go.Proofs.YtpgcmnabljandaaGreatDoor
end
