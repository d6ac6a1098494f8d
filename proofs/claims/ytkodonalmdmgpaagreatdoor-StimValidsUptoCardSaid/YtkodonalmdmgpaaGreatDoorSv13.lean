import Derived.Test.YtkodonalmdmgpaaGreatDoorSv12
import Derived.ChangeArms
import Derived.DataReads
set_option maxRecDepth 100000
set_option linter.all false
set_option linter.defProp false
section
namespace Go.Proofs.YtkodonalmdmgpaaGreatDoor
open Go Go.Abs
/-- What an element's name is taken apart to. -/
noncomputable def elemR (s:Str):AV:=match elemO s with
 | some (a,i)=>.tup [.str a,.int .i64 i,.bool true]
 | none=>.tup [.str [],.int .i64 0,.bool false]
theorem elemR_yes {s a:Str} {i:Nat} (h:IsElem s a i):elemR s=.tup [.str a,.int .i64 i,.bool true]:=by simp [elemR,elemO_eq h]
theorem elemR_no {s:Str} (h:elemO s=none):elemR s=.tup [.str [],.int .i64 0,.bool false]:=by simp [elemR,h]
theorem u8_of {c:UInt8} (h1:48≤c.toNat) (h2:c.toNat<56):UInt8.ofNat (48+(c.toNat-48))=c:=by
 have:48+(c.toNat-48)=c.toNat:=by omega
 rw [this];simp
theorem isElem_of {s t:Str} {c:UInt8} (hn:nameS t=true) (h1:48≤c.toNat) (h2:c.toNat<56) (h:s=t++[91,c,93]):IsElem s t (c.toNat-48) :=
 ⟨by omega,hn,by rw [h,elemS,u8_of h1 h2]⟩
theorem elem_last {s a:Str} {i:Nat} (h:IsElem s a i):s=a++[91,UInt8.ofNat (48+i),93]∧(UInt8.ofNat (48+i)).toNat=48+i∧i<8:=by
 refine⟨h.2.2,?_,h.1⟩
 have:=h.1
 simp;omega
theorem element290 (s:Str) (hs:Fits s):Pure Tryz.prog GG 251 [.str s] (elemR s):=by
 refine Pure.vc mixed Tryz.func251 rfl (by kernel_rfl) ?_
 simp
 cases hc:s.contains 91
 · refine vcCall.call (cut196n GG s hs hc) rfl ?_
   rw [elemR_no (no_elem hc)]
   simp
 · refine vcCall.call (cut196 GG s hs hc) rfl ?_
   simp
   refine vcCall.call (isName168 (headS s)) rfl ?_
   cases hn:nameS (headS s)
   · rw [elemR_no (elemB_no' hn)]
     simp
   · have no:(∀ c,tailS s=[c,93]→¬ (48≤c.toNat∧c.toNat<56))→elemR s=.tup [.str [],.int .i64 0,.bool false]:=by
      intro h
      refine elemR_no (elemO_none.2 fun a i hi=>?_)
      obtain⟨e1,e2,e3⟩:=elem_last hi
      exact h _ hi.has.2.2 ⟨by omega,by omega⟩
     cases ht:tailS s with
     | nil=>rw [no (by simp [ht])];simp
     | cons c r1=>
      cases r1 with
      | nil=>rw [no (by simp [ht])];simp
      | cons d r2=>
       cases r2 with
       | cons e r3=>
        have hl:¬ ((r3.length:Int)+1+1+1=2):=by omega
        rw [no (by simp [ht])]
        simp [hl]
       | nil=>
        by_cases hd:d=93
        · subst hd
          by_cases h1:48≤c.toNat
          · have h1':¬ (c.toNat:Int)<48:=by omega
            by_cases h2:c.toNat<56
            · have h2':¬ (56:Int)≤c.toNat:=by omega
              have e:IsElem s (headS s) (c.toNat-48):=isElem_of hn h1 h2 (by have:=cut_eq hc;rw [ht] at this;exact this)
              rw [elemR_yes e]
              have w1:IntKind.u8.wrap ((c.toNat:Int)-48)=c.toNat-48:=by simp [IntKind.wrap,IntKind.bits,IntKind.signed];omega
              have w2:IntKind.i64.wrap ((c.toNat:Int)-48)=c.toNat-48:=wr (by omega) (by omega)
              have w3:((c.toNat:Int)-48)=((c.toNat-48:Nat):Int):=by omega
              simp [h1',h2',convA,w1,w2]
              omega
            · have h2':(56:Int)≤c.toNat:=by omega
              rw [no (fun c' e=>by rw [ht] at e;cases e;omega)]
              simp [h1',h2']
          · have h1':(c.toNat:Int)<48:=by omega
            rw [no (fun c' e=>by rw [ht] at e;cases e;omega)]
            simp [h1']
        · have hd':¬ (d.toNat:Int)=93:=by
           intro e
           exact hd (UInt8.toNat_inj.1 (by simp;omega))
          rw [no (fun c' e=>by rw [ht] at e;cases e;exact absurd rfl hd)]
          simp [hd']
theorem isVar229 (s:Str) (hs:Fits s):Pure Tryz.prog GG 194 [.str s] (.bool (varS s)):=by
 refine Pure.vc mixed Tryz.func194 rfl (by kernel_rfl) ?_
 simp
 cases he:elemO s with
 | some p=>
  obtain⟨a,i⟩:=p
  refine vcCall.call (by have:=element290 s hs;rw [elemR_yes (elemO_some.1 he)] at this;exact this) rfl ?_
  simp [varS,he]
 | none=>
  refine vcCall.call (by have:=element290 s hs;rw [elemR_no he] at this;exact this) rfl ?_
  simp
  refine vcCall.call (isName168 s) rfl ?_
  simp [varS,he]
theorem last3 {s:Str} (h:3≤s.length):∃ t x y z,s=t++[x,y,z]:=by
 refine⟨s.take (s.length-3),s[s.length-3]'(by omega),s[s.length-2]'(by omega),s[s.length-1]'(by omega),?_⟩
 have e:s.drop (s.length-3)=[s[s.length-3]'(by omega),s[s.length-2]'(by omega),s[s.length-1]'(by omega)]:=by
  rw [List.drop_eq_getElem_cons (by omega),List.drop_eq_getElem_cons (by omega),List.drop_eq_getElem_cons (by omega),List.drop_eq_nil_of_le (by omega)]
  simp only [List.cons.injEq,and_true,true_and]
  exact⟨by congr 1;omega,by congr 1;omega⟩
 rw [← e,List.take_append_drop]
theorem elem_short {s:Str} (h:s.length<4):elemO s=none:=by
 rw [elemO_none]
 intro a i hi
 have:=nameS_ne hi.2.1
 have:=List.length_pos_iff.2 this
 rw [hi.2.2] at h
 simp at h;omega
set_option maxHeartbeats 2000000 in
theorem split376 (s:Str) (hs:Fits s):Pure Tryz.prog GG 252 [.str s] (elemR s):=by
 refine Pure.vc mixed Tryz.func252 rfl (by kernel_rfl) ?_
 by_cases h4:s.length<4
 · have h4':(s.length:Int)<4:=by omega
   rw [elemR_no (elem_short h4)]
   simp [h4']
 · obtain⟨t,x,y,z,rfl⟩:=last3 (s:=s) (by omega)
   have hl:(t++[x,y,z]).length=t.length+3:=by simp
   rw [Fits,hl] at hs
   rw [hl] at h4
   have no:¬ (x=91∧z=93∧48≤y.toNat∧y.toNat<56∧nameS t=true)→elemR (t++[x,y,z])=.tup [.str [],.int .i64 0,.bool false]:=by
    intro h
    refine elemR_no (elemO_none.2 fun a i hi=>h ?_)
    obtain⟨e1,e2,e3⟩:=elem_last hi
    obtain⟨e4,e5⟩:=List.append_inj' e1 rfl
    cases e5
    subst e4
    exact⟨rfl,rfl,by omega,by omega,hi.2.1⟩
   have h4':¬ (t.length:Int)+3<4:=by omega
   have w1:IntKind.i64.wrap ((t.length:Int)+3-1)=((t.length+2:Nat):Int):=by rw [wr (by omega) (by omega)];omega
   have w2:IntKind.i64.wrap ((t.length:Int)+3-2)=((t.length+1:Nat):Int):=by rw [wr (by omega) (by omega)];omega
   have w3:IntKind.i64.wrap (t.length:Int)=t.length:=wr (by omega) (by omega)
   have w4:IntKind.i64.wrap ((t.length:Int)+3-3)=t.length:=by rw [wr (by omega) (by omega)];omega
   have g1:(t++[x,y,z])[t.length+2]?=some z:=by simp
   have g2:(t++[x,y,z])[t.length+1]?=some y:=by simp
   have g3:(t++[x,y,z])[t.length]?=some x:=by simp
   have g4:(t++[x,y,z]).take t.length=t:=by simp
   have n1:((t.length:Int)+2).toNat=t.length+2:=by omega
   have n2:((t.length:Int)+1).toNat=t.length+1:=by omega
   have p1:(0:Int)≤(t.length:Int)+2:=by omega
   have p2:(0:Int)≤(t.length:Int)+1:=by omega
   have hle:t.length≤t.length+3:=by omega
   have hn210:=isName210 t (show t.length<_ by omega)
   have yes:x=91→z=93→48≤y.toNat→y.toNat<56→nameS t=true→elemR (t++[x,y,z])=.tup [.str t,.int .i64 ((y.toNat:Int)-48),.bool true]:=by
    rintro rfl rfl h1 h2 h3
    rw [elemR_yes (isElem_of h3 h1 h2 rfl)]
    congr 4
    omega
   generalize hS:t++[x,y,z]=S at *
   generalize t.length=T at *
   have q1:S[T+2]'(by omega)=z:=(List.getElem?_eq_some_iff.1 g1).2
   have q2:S[T+1]'(by omega)=y:=(List.getElem?_eq_some_iff.1 g2).2
   have q3:S[T]'(by omega)=x:=(List.getElem?_eq_some_iff.1 g3).2
   have le3:(T:Int)≤(T:Int)+3:=by omega
   by_cases hz:z=93
   · by_cases hx:x=91
     · subst hx hz
       have wy1:IntKind.i64.wrap (y.toNat:Int)=y.toNat:=by have:=y.toNat_lt;exact wr (by omega) (by omega)
       have wy2:IntKind.i64.wrap ((y.toNat:Int)-48)=y.toNat-48:=by have:=y.toNat_lt;exact wr (by omega) (by omega)
       by_cases h1:48≤y.toNat
       · by_cases h2:y.toNat<56
         · have h1':¬ (y.toNat:Int)-48<0:=by omega
           have h2':¬ (8:Int)≤(y.toNat:Int)-48:=by omega
           simp [hl,h4',w1,w2,w3,w4,q1,q2,q3,le3,g4,n1,n2,p1,p2,hle,convA,wy1,wy2,h1',h2',sliceA,boundA]
           refine vcCall.call hn210 rfl ?_
           cases hnt:nameS t
           · rw [no (fun h=>by rw [hnt] at h;cases h.2.2.2.2)]
             simp
           · rw [yes rfl rfl h1 h2 hnt]
             simp
         · rw [no (fun h=>h2 h.2.2.2.1)]
           have h1':¬ (y.toNat:Int)-48<0:=by omega
           have h2':(8:Int)≤(y.toNat:Int)-48:=by omega
           simp [hl,h4',w1,w2,w3,w4,q1,q2,q3,le3,g4,n1,n2,p1,p2,hle,convA,wy1,wy2,h1',h2',sliceA,boundA]
       · rw [no (fun h=>h1 h.2.2.1)]
         have h1':(y.toNat:Int)-48<0:=by omega
         simp [hl,h4',w1,w2,w3,w4,q1,q2,q3,le3,g4,n1,n2,p1,p2,hle,convA,wy1,wy2,h1',sliceA,boundA]
     · have hx':¬ (x.toNat:Int)=91:=by
        intro e
        exact hx (UInt8.toNat_inj.1 (by simp;omega))
       rw [no (fun h=>hx h.1)]
       subst hz
       simp [hl,h4',w1,w2,w3,w4,q1,q2,q3,le3,g4,n1,n2,p1,p2,hx']
   · have hz':¬ (z.toNat:Int)=93:=by
      intro e
      exact hz (UInt8.toNat_inj.1 (by simp;omega))
     rw [no (fun h=>hz h.2.1)]
     simp [hl,h4',w1,w2,w3,w4,q1,q2,q3,le3,g4,n1,n2,p1,p2,hz']
theorem isVar347 (s:Str) (hs:Fits s):Pure Tryz.prog GG 198 [.str s] (.bool (varS s)):=by
 refine Pure.vc mixed Tryz.func198 rfl (by kernel_rfl) ?_
 simp
 cases he:elemO s with
 | some p=>
  obtain⟨a,i⟩:=p
  refine vcCall.call (by have:=split376 s hs;rw [elemR_yes (elemO_some.1 he)] at this;exact this) rfl ?_
  simp [varS,he]
 | none=>
  refine vcCall.call (by have:=split376 s hs;rw [elemR_no he] at this;exact this) rfl ?_
  simp
  refine vcCall.call (isName210 s hs) rfl ?_
  simp [varS,he]
section
theorem runW_pre {S:Type} {stp:S→Ex→S×Bool} {s:S} {e:Ex}:runW stp s (pre e)=if (stp s e).2=true then runW stp (stp s e).1 (preL e.args) else ((stp s e).1,false):=by
 rw [pre_eq,runW]
theorem look {hd:List Blk} {c:Nat} (hc:hd.length=c) {t:List Blk} {k:Nat}:(hd++t)[c+k]?=t[k]? := by
 subst hc;rw [List.getElem?_append_right (by omega)];simp
theorem look1 {tail t:List Blk} {k:Nat} {b:Blk} (h:tail[k]?=some b):(tail++t)[k]?=some b:=by
 rw [List.getElem?_append_left (List.getElem?_eq_some_iff.1 h).1,h]
/-- Operands and names that no counter outgrows. -/
def Wen (e:Ex):Prop:=∀ x∈pre e,Fits x.args∧Fits x.name
theorem Wen.fits {e:Ex} (h:Wen e):Fits e.args:=(h e (by rw [pre_eq];simp)).1
theorem Wen.nm {e:Ex} (h:Wen e):Fits e.name:=(h e (by rw [pre_eq];simp)).2
theorem Wen.arg {e a:Ex} (h:Wen e) (ha:a∈e.args):Wen a:=fun x hx=>h x (by rw [pre_eq];exact List.mem_cons_of_mem _ (mem_preL.2 ⟨a,ha,hx⟩))
section
variable {S:Type} {stp:S→Ex→S×Bool} {hd:S→List Blk} {T:S→List (Option Nat)} {c:Nat} {vf:FuncId} {cap:List AV} {m:S→Nat}
/-- What the visits do; 'm': how many there may be. -/
def Visits (stp:S→Ex→S×Bool) (hd:S→List Blk) (T:S→List (Option Nat)) (vf:FuncId) (cap:List AV) (m:S→Nat):Prop :=
 ∀ s tail e,Wen e→0<m s→ACall Tryz.prog GG vf (.agg (encE e)::cap) ⟨hd s++tail,T s⟩ (fun r σ'=>r=.bool (stp s e).2∧∃ t,σ'=⟨hd (stp s e).1++(tail++t),T (stp s e).1⟩)
theorem runW_m (hm:∀ s e,m s≤m (stp s e).1+1):∀ (s:S) (l:List Ex),m s≤m (runW stp s l).1+l.length
 | s,[]=>by simp [runW]
 | s,e::r=>by
  simp only [runW]
  split
  · have:=hm s e
    have:=runW_m hm (stp s e).1 r
    simp;omega
  · have:=hm s e
    simp;omega
theorem down227 (hc:∀ s,(hd s).length=c) (hm:∀ s e,m s≤m (stp s e).1+1) (hv:Visits stp hd T vf cap m):∀ e,Wen e→∀ s tail kb kd,(pre e).length≤m s→tail[kb]?=some (.cells [.fn vf [] cap])→tail[kd]?=some (.cells [.fn 192 [] [.ptr (c+kb) 0,.ptr (c+kd) 0]]) →
 ACall Tryz.prog GG 192 [.agg (encE e),.ptr (c+kb) 0,.ptr (c+kd) 0] ⟨hd s++tail,T s⟩ (fun r σ'=>r=.bool (runW stp s (pre e)).2∧∃ t,σ'=⟨hd (runW stp s (pre e)).1++(tail++t),T (runW stp s (pre e)).1⟩):=by
 refine Ex.ind fun e ih hwe s tail kb kd hsz hb hd'=>?_
 rw [pre_eq,List.length_cons] at hsz
 refine ACall.vc mixed Tryz.func192 rfl (by kernel_rfl) ?_
 have lb:∀ s t,(hd s++(tail++t))[c+kb]?=some (.cells [.fn vf [] cap]):=fun s t=>by rw [look (hc s),look1 hb]
 have ld:∀ s t,(hd s++(tail++t))[c+kd]?=some (.cells [.fn 192 [] [.ptr (c+kb) 0,.ptr (c+kd) 0]]):=fun s t=>by rw [look (hc s),look1 hd']
 have lx:∀ s (t:List Blk) (x:Blk) (u:List Blk),(hd s++(tail++(t++x::u)))[c+(tail.length+t.length)]?=some x:=fun s t x u=>by
  rw [look (hc s),List.getElem?_append_right (by omega),List.getElem?_append_right (by omega)]
  simp
 have lx0:∀ s (x:Blk) (u:List Blk),(hd s++(tail++(x::u)))[c+tail.length]?=some x:=fun s x u=>by
  have:=lx s [] x u
  simpa using this
 simp [encE_eq,hc,lb,ld,lx0]
 rw [← encE_eq e]
 refine ACall.imp (hv s (tail++[.cells (encE e)]) e hwe (by omega)) ?_
 rintro r σ' ⟨rfl,t,rfl⟩
 have e0:hd (stp s e).1++(tail++[Blk.cells (encE e)]++t)=hd (stp s e).1++(tail++(Blk.cells (encE e)::t)):=by simp
 rw [e0]
 cases hst:(stp s e).2
 · simp [runW_pre,hst]
 · have hl:=hwe.fits
   simp only [encE_eq e]
   simp [hc,lx0]
   refine vcLoop.intro (fun n env σ=>∃ i s' tl,i≤e.args.length∧n=e.args.length-i∧env 1=.ptr (c+kb) 0∧env 2=.ptr (c+kd) 0∧env 12=.sl 4 (e.args.map encE) .none∧env 13=.int .i64 e.args.length∧env 14=.int .i64 i∧σ=⟨hd s'++(tail++tl),T s'⟩∧(preL (e.args.drop i)).length≤m s'∧runW stp s (pre e)=runW stp s' (preL (e.args.drop i))) e.args.length ⟨0,(stp s e).1,_,by simp,by simp,by simp,by simp,by simp,by simp,by simp,rfl,by have:=hm s e;simp;omega,by rw [runW_pre,hst];simp⟩ ?_
   rintro n env σ ⟨i,s',tl,hi,rfl,h1,h2,h12,h13,h14,rfl,hsz',hrun⟩
   cases hv':e.args[i]? with
   | none=>
    have hcn:¬ i<e.args.length:=by simp at hv';omega
    have hd0:e.args.drop i=[]:=by simp;omega
    rw [hd0] at hrun
    simp [h1,h2,h12,h13,h14,hcn,hrun,runW]
   | some a=>
    obtain⟨hcn,hve⟩:=List.getElem?_eq_some_iff.1 hv'
    have hma:=List.mem_of_getElem? hv'
    rw [drop_cons hv',preL_cons,runW_append] at hrun
    rw [drop_cons hv',preL_cons,List.length_append] at hsz'
    have hmr:=runW_m hm s' (pre a)
    have set1:∀ (z x:Blk),(hd s'++(tail++(tl++[z]))).set (c+(tail.length+tl.length)) x=hd s'++(tail++(tl++[x])):=fun z x=>by
     rw [List.set_append,if_neg (by rw [hc];omega),hc,List.set_append,if_neg (by omega),List.set_append,if_neg (by omega)]
     have:c+(tail.length+tl.length)-c-tail.length-tl.length=0:=by omega
     rw [this];rfl
    simp [h1,h2,h12,h13,h14,hcn,hve,encE_eq a,hc,lx,set1,lb,ld]
    rw [← encE_eq a]
    refine ACall.imp (ih a hma (hwe.arg hma) s' (tail++(tl++[.cells (encE a)])) kb kd (by omega) (look1 hb) (look1 hd')) ?_
    rintro r σ' ⟨rfl,t',rfl⟩
    cases hr:(runW stp s' (pre a)).2
    · rw [hr] at hrun
      simp only [Bool.false_eq_true,if_false] at hrun
      simp [hrun,hr]
    · rw [hr] at hrun
      simp only [if_true] at hrun
      simp [h1,h2,h12,h13,h14]
      exact⟨_,by omega,i+1,by omega,rfl,wr (by omega) (by omega),_,⟨⟨_,rfl⟩,rfl⟩,by omega,hrun⟩
theorem walk149 (hc:∀ s,(hd s).length=c) (hm:∀ s e,m s≤m (stp s e).1+1) (hv:Visits stp hd T vf cap m) (e:Ex) (hwe:Wen e) (s:S) (hsz:(pre e).length≤m s) (tail:List Blk) :
 ACall Tryz.prog GG 136 [.agg (encE e),.fn vf [] cap] ⟨hd s++tail,T s⟩ (fun r σ'=>∃ t,σ'=⟨hd (runW stp s (pre e)).1++(tail++t),T (runW stp s (pre e)).1⟩):=by
 refine ACall.vc mixed Tryz.func136 rfl (by kernel_rfl) ?_
 have set2:∀ (x y z w:Blk),(hd s++(tail++[x,y,z])).set (c+(tail.length+(1+1))) w=hd s++(tail++[x,y,w]):=fun x y z w=>by
  rw [List.set_append,if_neg (by rw [hc];omega),hc,List.set_append,if_neg (by omega)]
  have:c+(tail.length+(1+1))-c-tail.length=2:=by omega
  rw [this];rfl
 have l0:∀ (x:Blk) (u:List Blk),(hd s++(tail++(x::u)))[c+tail.length]?=some x:=fun x u=>by
  rw [look (hc s),List.getElem?_append_right (by omega)];simp
 have l2:∀ (x y z:Blk) (u:List Blk),(hd s++(tail++(x::y::z::u)))[c+(tail.length+(1+1))]?=some z:=fun x y z u=>by
  rw [look (hc s),List.getElem?_append_right (by omega)]
  have:tail.length+(1+1)-tail.length=2:=by omega
  rw [this];rfl
 simp [encE_eq e,hc,set2,l0,l2]
 rw [← encE_eq e]
 have k:=down227 hc hm hv e hwe s (tail++[.cells (encE e),.cells [.fn vf [] cap],.cells [.fn 192 [] [.ptr (c+(tail.length+1)) 0,.ptr (c+(tail.length+1)+1) 0]]]) (tail.length+1) (tail.length+1+1) hsz
  (by
    rw [List.getElem?_append_right (by omega)];have:tail.length+1-tail.length=1:=by omega
    rw [this];rfl)
  (by
    rw [List.getElem?_append_right (by omega)];have:tail.length+1+1-tail.length=2:=by omega
    rw [this];rfl)
 refine ACall.imp k ?_
 rintro r σ' ⟨_,t,rfl⟩
 exact⟨_,by rw [List.append_assoc]⟩
end
end
section
theorem list_choose {α:Type} {R:Nat→α→Prop}:∀ (n:Nat),(∀ i,i<n→∃ y,R i y)→∃ l:List α,l.length=n∧∀ i y,l[i]?=some y→R i y
 | 0,_=>⟨[],rfl,by simp⟩
 | n+1,h=>by
  obtain⟨l,h1,h2⟩:=list_choose n fun i hi=>h i (by omega)
  obtain⟨y,hy⟩:=h n (by omega)
  refine⟨l++[y],by simp [h1],fun i z hz=>?_⟩
  rw [List.getElem?_append] at hz
  split at hz
  · exact h2 i z hz
  · rename_i hi
    have:i-l.length=0:=by
     rcases Nat.eq_zero_or_pos (i-l.length) with h0|h0
     · exact h0
     · rw [List.getElem?_eq_none (by simp;omega)] at hz;cases hz
    rw [this] at hz
    cases hz
    have:i=n:=by omega
    subst this
    exact hy
section
variable {H:Type} {enc:TypeId×Value→H} {w:World} {base:Nat} {held:Bool}
/-- All that is known: memory as it stands. -/
abbrev KW (w:World):Kn:=Go.Abs.K0 (roAll w)
theorem VRels.get {K:Kn}:∀ {l:List AV} {vs:List Value},VRels K l vs→vs.length=l.length∧∀ (j:Nat) (a:AV),l[j]?=some a→∃ v,vs[j]?=some v∧VRel K a v
 | [],_,h=>by simp only [VRels] at h;subst h;simp
 | a::r,_,h=>by
  simp only [VRels] at h
  obtain⟨v,vr,rfl,h1,h2⟩:=h
  obtain⟨k1,k2⟩:=VRels.get h2
  refine⟨by simp [k1],fun j b hj=>?_⟩
  cases j with
  | zero=>simp at hj;subst hj;exact⟨v,rfl,h1⟩
  | succ j=>simp at hj;exact k2 j b hj
theorem rd_slice {α:Type} {t e sz:Nat} {en:α→List AV} {good:α→Prop} {n:Nat} (ht:Tryz.prog.underlying t=some (.slice e)) (hsz:Tryz.prog.cellsOf e=sz) (hpos:0<sz)
 (hat:∀ y,(en y).all AV.atom=true∧(en y).length=sz)
 (hel:∀ cs x,DataW.trod enc Tryz.prog w base (fun _=>true) held n e cs=some x→∃ y,VRels (KW w) (en y) cs∧good y)
 {cs:List Value} {x:DataW H×List MemPlace} (h:DataW.trod enc Tryz.prog w base (fun _=>true) held (n+1) t cs=some x) :
 ∃ (l:List α) (v:Value),cs=[v]∧VRel (KW w) (.sl sz (l.map en) .none) v∧Fits l∧∀ y∈l,good y:=by
 rcases DataW.trod_slice ht h with ⟨rfl,rfl⟩|⟨a,len,cap,elems,rest,m,hm,rfl,rfl,hb,hl,hc,hlen,hel',hsp,_⟩
 · exact⟨[],_,rfl,by simp only [VRel];exact .inl ⟨⟨none,rfl,.inl rfl⟩,rfl,trivial⟩,by simp,by simp⟩
 · have hnm:n=m:=by omega
   subst hnm
   rw [hsz] at hel' hsp
   have one:∀ i,i<len→∃ y,∃ cs',w.cells? base (a.add (i*sz)) sz=some cs'∧VRels (KW w) (en y) cs'∧good y:=by
    intro i hi
    have:=hel' i hi
    rw [List.getElem?_eq_getElem (by omega)] at this
    obtain⟨cs',h1,h2⟩:=Option.bind_eq_some_iff.1 this
    obtain⟨y,h3,h4⟩:=hel cs' _ h2
    exact⟨y,cs',h1,h3,h4⟩
   by_cases h0:cap=0
   · have hl0:len=0:=by omega
     subst h0 hl0
     exact⟨[],_,rfl,by simp only [VRel];exact .inl ⟨⟨some a,rfl,.inr trivial⟩,rfl,trivial⟩,by simp,by simp⟩
   · have spot:a.spot=none:=by
      have rd:∃ cs',w.cells? base (a.add 0) sz=some cs':=by
       by_cases hl0:0<len
       · obtain⟨_,cs',h1,_⟩:=one 0 hl0
         rw [Nat.zero_mul] at h1
         exact⟨cs',h1⟩
       · obtain⟨hr1,hr2⟩:=hsp rfl
         have:=hr2 0 (by omega)
         rw [List.getElem?_eq_getElem (by omega),show len+0=0 by omega,Nat.zero_mul] at this
         obtain⟨cs',h1,_⟩:=Option.bind_eq_some_iff.1 this
         exact⟨cs',h1⟩
      obtain⟨cs',h1⟩:=rd
      obtain⟨_,hlen',hc'⟩:=World.cells?_some h1
      have:=hc' 0 hpos
      rw [List.getElem?_eq_getElem (by omega)] at this
      cases hs:a.spot with
      | none=>rfl
      | some s=>
       simp only [Addr.add,if_true] at this
       unfold World.cell? at this
       rw [hs] at this
       split at this<;>simp at this
     obtain⟨b,o,s⟩:=a
     simp only at spot
     subst spot
     obtain⟨l,hl1,hl2⟩:=list_choose len one
     refine⟨l,_,rfl,?_,by rw [Fits,hl1];simp only [maxLen] at hc;omega,fun y hy=>?_⟩
     · simp only [VRel]
       refine .inr ⟨b,o,cap,by simp [hl1],by simpa [hl1] using hl,RowsAt.intro b sz _ o fun i r e=>?_,trivial⟩
       rw [List.getElem?_map,Option.map_eq_some_iff] at e
       obtain⟨y,hy,rfl⟩:=e
       obtain⟨cs',h1,h2,_⟩:=hl2 i y hy
       obtain⟨h3,h4⟩:=hat y
       obtain⟨_,hlen',hc'⟩:=World.cells?_some h1
       obtain⟨g1,g2⟩:=VRels.get h2
       refine⟨h4,h3,CellsAt.intro b _ _ fun j z hz=>?_⟩
       obtain⟨v,hv1,hv2⟩:=g2 j z hz
       have hjl:j<sz:=by rw [← hlen'];exact (List.getElem?_eq_some_iff.1 hv1).1
       refine⟨v,?_,hv2⟩
       have:=hc' j hjl
       rw [hv1] at this
       show w.cell? ⟨b,o+i*sz+j,none⟩=some v
       rw [← this]
       congr 1
       simp only [Addr.add]
       by_cases hi0:i*sz=0
       · rw [if_pos hi0]
         by_cases hj0:j=0
         · rw [if_pos hj0,hi0,hj0];simp
         · rw [if_neg hj0,hi0];simp
       · rw [if_neg hi0]
         by_cases hj0:j=0
         · rw [if_pos hj0,hj0];simp
         · rw [if_neg hj0]
     · obtain⟨i,hi⟩:=List.getElem?_of_mem hy
       obtain⟨_,_,_,hg⟩:=hl2 i y hi
       exact hg
end
end
end Go.Proofs.YtkodonalmdmgpaaGreatDoor
end
