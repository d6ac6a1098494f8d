import Derived.Test.YtkodonalmdmgpaaGreatDoorSv28
import Derived.Test.YtkodonalmdmgpaaGreatDoorSv29
set_option maxRecDepth 100000
set_option linter.all false
set_option linter.defProp false
section
namespace Go.Proofs.YtkodonalmdmgpaaGreatDoor
open Go Go.Abs
set_option maxHeartbeats 4000000 in
theorem blank36 (e:Ex):Pure Tryz.prog GG 197 [.agg (encE e),.agg (encE zEx)] (.bool (blankE e)):=by
 refine Pure.k mixed Tryz.func197 rfl (by kernel_rfl) ?_
 have hr:blankE e=(decide (e.op=0)&&decide (e.n=0)&&decide (e.name=[])&&decide (e.args=[])):=rfl
 generalize blankE e=r at hr
 simp only [encE_eq e]
 by_cases h1:e.op=0
 · by_cases h2:e.n=0
   · by_cases h3:e.name=[]
     · cases h4:e.args with
       | nil=>
        simp [h1,h2,h3,h4] at hr
        subst hr
        simp [-getElem?_pos,zEx,encE_eq,h1,h2,h3]
        refine kLoop.count 0 (fun k ev σ=>ev 2=.ptr 0 0∧ev 5=I_ 0∧σ.H[0]?=some (.cells [I_ 0,I_ 0,.str [],.sl 4 [] .none])) ?_ ?_ ?_
        · exact⟨by simp,by simp,by simp⟩
        · intro i ev σ hi;omega
        · rintro ev σ ⟨a,b,c⟩
          simp [-getElem?_pos,a,b,c]
       | cons a l=>
        simp [h4] at hr
        subst hr
        have:¬ ((l.length:Int)+1=0):=by omega
        simp [-getElem?_pos,zEx,encE_eq,h1,h2,h3,this]
     · simp [h3] at hr
       subst hr
       simp [-getElem?_pos,zEx,encE_eq,h1,h2,h3]
   · simp [h2] at hr
     subst hr
     simp [-getElem?_pos,zEx,encE_eq,h1,h2]
 · simp [h1] at hr
   subst hr
   simp [-getElem?_pos,zEx,encE_eq,h1]
set_option maxHeartbeats 8000000 in
theorem unused372 (x:It) (hk1:1≤x.kind) (hk6:x.kind≤6):Pure Tryz.prog GG 141 [.agg (encI x)] (.bool (plainI x)):=by
 refine Pure.k mixed Tryz.func141 rfl (by kernel_rfl) ?_
 have hr:plainI x=((exprK x.kind||blankE x.expr)&&(nameK x.kind||decide (x.name=[]))&&(decide (x.kind=5)||decide (x.index=[]))&&(decide (x.kind=3)||decide (x.ws=[])) &&
  (decide (x.kind=4∨x.kind=5)||decide (x.items=[]))&&(decide (x.kind=4)||decide (x.els=[]))&&(decide (x.kind=6)||(decide (x.before=[])&&decide (x.after=[])))):=rfl
 generalize plainI x=r at hr
 have hbl:=blank36 x.expr
 have hka:=asks209 x.kind
 have hlen:∀ {α:Type} (l:List α),((0:Int)<l.length)=(l≠[]):=fun l=>by cases l<;>simp<;>omega
 rw [encE_eq x.expr] at hbl
 have hk:x.kind=1∨x.kind=2∨x.kind=3∨x.kind=4∨x.kind=5∨x.kind=6:=by omega
 simp only [encI_eq,encE_eq x.expr]
 rcases hk with hk|hk|hk|hk|hk|hk
 all_goals
  rw [hk] at hka
  simp [hk,exprK,nameK] at hr hka
  simp [-getElem?_pos,hk]
  refine kCall.call hka (by simp) ?_
  simp [-getElem?_pos]
  try refine kCall.less hbl (by simp) (by simp [LeqL,Leq,zEx,encE_eq]) ?_
  try (cases hB:blankE x.expr<;>simp [hB] at hr<;>simp [-getElem?_pos,len_zero])
  try simp [-getElem?_pos,len_zero]
  all_goals try simp only [List.length_pos_iff]
  all_goals try grind
set_option maxHeartbeats 8000000 in
theorem rdist373 (x:It) (hl:Fits x.ws) (hn:Fits x.name):Pure Tryz.prog GG 142 [.agg (encI x)] (I_ (if weightsE x.ws≠0 then weightsE x.ws else if varS x.name=false then 7 else 0)):=by
 refine Pure.k mixed Tryz.func142 rfl (by kernel_rfl) ?_
 generalize hr:(if weightsE x.ws≠0 then weightsE x.ws else if varS x.name=false then 7 else 0:Int)=r
 have hw:weightsE x.ws=if 16<x.ws.length then 2 else if x.ws=[] then 1 else if x.ws.any weightB=true then 1 else 0:=rfl
 have hv:=isVar347 x.name hn
 generalize weightsE x.ws=w at hr hw
 simp only [encI_eq,encE_eq x.expr]
 by_cases h1:(16:Int)<x.ws.length
 · rw [if_pos (by omega)] at hw
   subst hw
   simp at hr
   subst hr
   simp [-getElem?_pos,h1]
 · rw [if_neg (by omega)] at hw
   by_cases h2:x.ws=[]
   · rw [if_pos h2] at hw
     subst hw
     simp at hr
     subst hr
     simp [-getElem?_pos,h2]
   · rw [if_neg h2] at hw
     have h2':¬ ((x.ws.length:Int)=0):=by
      intro h;exact h2 (List.length_eq_zero_iff.1 (by omega))
     simp [-getElem?_pos,h1,h2]
     refine kLoop.listR x.ws (fun d ev σ=>ev 1=.ptr 0 0∧ev 3=I_ d.length∧σ.T=[]∧σ.H[0]?=some (.cells [I_ x.kind,I_ x.expr.op,I_ x.expr.n,.str x.expr.name,sE x.expr.args,.str x.name,.str x.index,sW x.ws,sI x.items,sI x.els,sS x.before,sS x.after])∧∀ y∈d,weightB y=false) ?_ ?_ ?_
     · exact⟨by simp,by simp,by simp,by simp,by simp⟩
     · rintro d v rest ev ⟨H,T⟩ R hR hd hx hlt ⟨a1,a3,aT,b0,hz⟩
       simp only at aT b0
       subst aT
       have hdw:=wq (n:=d.length) (by omega)
       have hwb:weightB v=(decide (v.lo<0)||decide (v.hi<v.lo)||decide (65535<v.hi)||decide (v.weight<0)||decide (1000<v.weight)):=rfl
       cases hb:weightB v with
       | true=>
        rw [if_pos (List.any_eq_true.2 ⟨v,List.mem_of_getElem? hx,hb⟩)] at hw
        subst hw
        simp at hr
        subst hr
        rw [hb] at hwb
        simp at hwb
        simp [-getElem?_pos,a1,a3,b0,hlt,hx]
        repeat' first | (refine And.intro ?_ ?_) | (intro _)
        all_goals omega
       | false=>
        rw [hb] at hwb
        simp at hwb
        obtain⟨⟨⟨⟨c1,c2⟩,c3⟩,c4⟩,c5⟩:=hwb
        have d1:¬ v.lo<0:=by omega
        have d2:¬ v.hi<v.lo:=by omega
        have d3:¬ 65535<v.hi:=by omega
        have d4:¬ v.weight<0:=by omega
        have d5:¬ 1000<v.weight:=by omega
        simp [-getElem?_pos,a1,a3,b0,hlt,hx,hdw,d1,d2,d3,d4,d5]
        exact hR _ _ ⟨by simp [a1],by simp,by simp,look_app b0 _,hz_snoc hz hb⟩
     · rintro ev ⟨H,T⟩ ⟨a1,a3,aT,b0,hz⟩
       simp only at aT b0
       subst aT
       rw [if_neg (by rw [Bool.not_eq_true,List.any_eq_false];exact fun y hy=>by simp [hz y hy])] at hw
       subst hw
       simp at hr
       simp [-getElem?_pos,a1,a3,b0]
       refine kCall.call hv (by simp) ?_
       cases hvs:varS x.name<;>simp [hvs] at hr<;>subst hr<;>simp [-getElem?_pos]
set_option maxHeartbeats 16000000 in
theorem rwrong319 (x:It) (d:Nat) (hd:d≤5000000) (h:Hold1 x) (hl:Low1 x) (hsz:(pre x.expr).length≤2000000) (hh:hgt x.expr≤2000000):Pure Tryz.prog GG 96 [.agg (encI x),I_ d] (I_ (shapeE x d)):=by
 refine Pure.k mixed Tryz.func96 rfl (by kernel_rfl) ?_
 have hr:shapeE x d=if knownK x.kind=false∨plainI x=false∨4<d∨(0<d∧(x.kind=3∨x.kind=6)) then 1
  else if x.kind=3 then (if weightsE x.ws≠0 then weightsE x.ws else if varS x.name=false then 7 else 0)
  else if x.kind=6 then (if x.before=[]∨x.after=[] then 1 else if (x.before++x.after).any (fun s=>!varS s)=true then 7 else 0)
  else if x.kind=5 then (if nameS x.name=false∨nameS x.index=false then 7 else 0)
  else validE x.expr:=rfl
 generalize shapeE x d=r at hr
 have hkk:knownK x.kind=(decide (1≤x.kind)&&decide (x.kind≤6)):=rfl
 have hun:=fun h1 h6=>unused372 x h1 h6
 have hdi:=rdist373 x h.ws h.name
 have hvb:=vars374 x.before h.before fun s hs=>h.names s (List.mem_append_left _ hs)
 have hva:=vars374 x.after h.after fun s hs=>h.names s (List.mem_append_right _ hs)
 have hn1:=isName210 x.name h.name
 have hn2:=isName210 x.index h.index
 have hve:=valid92 x.expr h.expr hh hsz
 simp only [encI_eq x,encE_eq x.expr,List.cons_append,List.nil_append] at hun hdi hve
 simp only [encI_eq x,encE_eq x.expr]
 by_cases hk1:x.kind<1
 · rw [if_pos (.inl (by rw [hkk,decide_eq_false (by omega:¬ 1≤x.kind)];rfl))] at hr
   subst hr
   simp [-getElem?_pos,hk1]
 by_cases hk6:6<x.kind
 · rw [if_pos (.inl (by rw [hkk,decide_eq_false (by omega:¬ x.kind≤6)];simp))] at hr
   subst hr
   simp [-getElem?_pos,hk1,hk6]
 have hun:=hun (by omega) (by omega)
 have hk0:knownK x.kind=true:=by rw [hkk,decide_eq_true (by omega:1≤x.kind),decide_eq_true (by omega:x.kind≤6)];rfl
 cases hp:plainI x with
 | false=>
  rw [if_pos (.inr (.inl hp))] at hr
  rw [hp] at hun
  subst hr
  simp [-getElem?_pos,hk1,hk6]
  refine kCall.call hun (by simp) ?_
  simp [-getElem?_pos]
 | true=>
 rw [hp] at hun
 by_cases hd4:(4:Int)<d
 · rw [if_pos (.inr (.inr (.inl (by omega))))] at hr
   subst hr
   simp [-getElem?_pos,hk1,hk6]
   refine kCall.call hun (by simp) ?_
   simp [-getElem?_pos,hd4]
 by_cases hd0:(0:Int)<d∧(x.kind=3∨x.kind=6)
 · rw [if_pos (.inr (.inr (.inr ⟨by omega,hd0.2⟩)))] at hr
   subst hr
   obtain⟨hd1,hk36⟩:=hd0
   have hd1n:0<d:=by omega
   have hdz:¬ d=0:=by omega
   have hd4n:¬ 4<d:=by omega
   simp [-getElem?_pos,hk1,hk6]
   refine kCall.call hun (by simp) ?_
   rcases hk36 with k3|k3
   · simp [-getElem?_pos,hd4,hd1n,k3]
   · simp [-getElem?_pos,hd4,hd1n,k3]
 rw [if_neg (by
  rintro (e|e|e|⟨e1,e2⟩)
  · rw [hk0] at e;cases e
  · rw [hp] at e;cases e
  · omega
  · exact hd0 ⟨by omega,e2⟩)] at hr
 have hd4n:¬ 4<d:=by omega
 by_cases k3:x.kind=3
 · have hd1:¬ (0:Int)<d:=fun e=>hd0 ⟨e,.inl k3⟩
   have hdz:d=0:=by omega
   rw [if_pos k3] at hr
   rw [hr]
   rw [k3] at hdi hun
   simp [-getElem?_pos,k3]
   refine kCall.call hun (by simp) ?_
   simp [-getElem?_pos,hdz]
   refine kCall.call hdi (by simp) ?_
   simp [-getElem?_pos]
 by_cases k6:x.kind=6
 · have hd1:¬ (0:Int)<d:=fun e=>hd0 ⟨e,.inr k6⟩
   have hdz:d=0:=by omega
   rw [if_neg k3,if_pos k6] at hr
   rw [k6] at hun
   simp [-getElem?_pos,k6]
   refine kCall.call hun (by simp) ?_
   cases hb:x.before with
   | nil=>
    rw [if_pos (.inl hb)] at hr
    subst hr
    simp [-getElem?_pos,hdz]
   | cons b0 br=>
    have hb1:¬ ((br.length:Int)+1=0):=by omega
    cases ha:x.after with
    | nil=>
     rw [if_pos (.inr ha)] at hr
     subst hr
     simp [-getElem?_pos,hdz,hb1]
    | cons a0 ar=>
     have ha1:¬ ((ar.length:Int)+1=0):=by omega
     rw [if_neg (by simp [hb,ha])] at hr
     have hany:((x.before++x.after).any fun s=>!varS s)=(!x.before.all varS||!x.after.all varS):=by
      rw [List.any_append]
      congr 1
      · rw [List.all_eq_not_any_not];simp
      · rw [List.all_eq_not_any_not];simp
     rw [hany] at hr
     rw [hb] at hvb hr
     rw [ha] at hva hr
     simp only [List.map_cons,encStr] at hvb hva
     generalize (b0::br).all varS=vb at *
     generalize (a0::ar).all varS=va at *
     simp [-getElem?_pos,hdz,hb1,ha1]
     refine kCall.call hvb (by simp) ?_
     cases vb with
     | false=>
      simp at hr
      subst hr
      simp [-getElem?_pos]
     | true=>
      simp [-getElem?_pos]
      refine kCall.call hva (by simp) ?_
      cases va with
      | false=>
       simp at hr
       subst hr
       simp [-getElem?_pos]
      | true=>
       simp at hr
       subst hr
       simp [-getElem?_pos]
 rw [if_neg k3,if_neg k6] at hr
 by_cases k5:x.kind=5
 · rw [if_pos k5] at hr
   rw [k5] at hun
   simp [-getElem?_pos,k5]
   refine kCall.call hun (by simp) ?_
   have hdp:d=0∨(0<d∧¬ d=0):=by omega
   rcases hdp with hdz|⟨hdz,hdq⟩
   all_goals
    simp [-getElem?_pos,hd4,hdz]
    refine kCall.call hn1 (by simp) ?_
    cases e1:nameS x.name with
    | false=>
     rw [if_pos (.inl e1)] at hr
     subst hr
     simp [-getElem?_pos]
    | true=>
     simp [-getElem?_pos]
     refine kCall.call hn2 (by simp) ?_
     cases e2:nameS x.index with
     | false=>
      rw [if_pos (.inr e2)] at hr
      subst hr
      simp [-getElem?_pos]
     | true=>
      rw [if_neg (by simp [e1,e2])] at hr
      subst hr
      simp [-getElem?_pos]
 · rw [if_neg k5] at hr
   subst hr
   simp [-getElem?_pos,hk1,hk6]
   refine kCall.call hun (by simp) ?_
   have hdp:d=0∨(0<d∧¬ d=0):=by omega
   rcases hdp with hdz|⟨hdz,hdq⟩
   all_goals
    simp [-getElem?_pos,k3,k5,k6,hd4,hdz]
    refine kCall.call hve (by simp) ?_
    simp [-getElem?_pos]
mutual
/-- What the reference's look at lists comes to: the nesting grows at every constraint. -/
noncomputable def rvalI:It→Nat→Int
 | .mk k e n i w l m b a,d=>if shapeE (.mk k e n i w l m b a) d=0 then (if rvalL l (d+1)=0 then rvalL m (d+1) else rvalL l (d+1)) else shapeE (.mk k e n i w l m b a) d
noncomputable def rvalL:List It→Nat→Int
 | [],_=>0
 | x::r,d=>if rvalI x d=0 then rvalL r d else rvalI x d
end
theorem rvalI_eq (x:It) (d:Nat):rvalI x d=if shapeE x d=0 then (if rvalL x.items (d+1)=0 then rvalL x.els (d+1) else rvalL x.items (d+1)) else shapeE x d:=by
 cases x;simp only [rvalI];rfl
theorem rvalL_nil {d:Nat}:rvalL [] d=0:=by simp [rvalL]
theorem rvalL_eq (l:List It) (d:Nat):rvalL l d=firstE (fun x=>rvalI x d) l:=by
 induction l with
 | nil=>simp [rvalL,firstE]
 | cons x r ih=>simp only [rvalL,firstE,ih]
theorem rval_vis:∀ (x:It) (p:Place),rvalI x p.depth=firstE (fun y=>shapeE y.1 y.2.depth) (visI p x):=by
 refine It.ind fun x h1 h2 p=>?_
 have key:∀ (l:List It) (q:Place),(∀ a∈l,∀ p:Place,rvalI a p.depth=firstE (fun y=>shapeE y.1 y.2.depth) (visI p a))→rvalL l q.depth=firstE (fun y=>shapeE y.1 y.2.depth) (visIs q l):=by
  intro l q
  induction l with
  | nil=>intro _;simp [rvalL,firstE]
  | cons a r ih=>
   intro h
   rw [visIs_cons,firstE_append,← h a (by simp) q,rvalL,ih fun y hy=>h y (by simp [hy])]
 rw [rvalI_eq,visI_eq,firstE]
 by_cases h0:shapeE x p.depth=0
 · rw [if_pos h0,if_pos h0]
   have hs:=shapeE_zero h0
   rw [firstE_append]
   by_cases h45:x.kind=4∨x.kind=5
   · have e1:(innerP x p).depth=p.depth+1:=by rw [innerP_depth,innerD_depth,if_pos h45]
     have e2:(innerD x p).depth=p.depth+1:=by rw [innerD_depth,if_pos h45]
     rw [← key x.items (innerP x p) h1,← key x.els (innerD x p) h2,e1,e2]
   · obtain⟨e1,e2⟩:=plain_leaf hs (fun e=>h45 (.inl e))
     have e2:=e2 fun e=>h45 (.inr e)
     rw [e1,e2,rvalL_nil]
     simp [firstE]
 · rw [if_neg h0,if_neg h0]
theorem rvalL_vis (l:List It):rvalL l 0=firstE (fun y=>shapeE y.1 y.2.depth) (visIs ⟨0,[]⟩ l):=by
 induction l with
 | nil=>simp [rvalL,firstE]
 | cons x r ih=>rw [visIs_cons,firstE_append,rvalL,ih,show rvalI x 0=_ from rval_vis x ⟨0,[]⟩]
set_option maxHeartbeats 8000000 in
theorem rvalid268L (l:List It) (d:Nat) (hd:d≤4000000) (hl:Fits l) (hx:∀ x∈l,Hold1 x∧Low1 x∧(pre x.expr).length≤2000000∧hgt x.expr≤2000000)
 (h:∀ x∈l,Pure Tryz.prog GG 61 [.sl 12 (x.items.map encI) .none,I_ (d+1:Nat)] (I_ (rvalL x.items (d+1)))∧Pure Tryz.prog GG 61 [.sl 12 (x.els.map encI) .none,I_ (d+1:Nat)] (I_ (rvalL x.els (d+1)))) :
 Pure Tryz.prog GG 61 [.sl 12 (l.map encI) .none,I_ d] (I_ (rvalL l d)):=by
 refine Pure.k mixed Tryz.func61 rfl (by kernel_rfl) ?_
 have hr:=rvalL_eq l d
 generalize rvalL l d=r at hr
 have hd1:IntKind.i64.wrap ((d:Int)+1)=(d+1:Nat):=by rw [wr (by omega) (by omega)];omega
 simp [-getElem?_pos]
 refine kLoop.listR l (fun e ev σ=>ev 0=.sl 12 (l.map encI) .none∧ev 1=I_ d∧ev 5=I_ e.length∧(∃ H,σ=⟨H,[]⟩)∧∀ x∈e,rvalI x d=0) ?_ ?_ ?_
 · exact⟨by simp,by simp,by simp,⟨_,rfl⟩,by simp⟩
 · rintro e x rest ev σ R hR he hxx hlt ⟨h0,h1,h5,⟨H,rfl⟩,hz⟩
   have hew:IntKind.i64.wrap ((e.length:Int)+1)=(e.length+1:Nat):=by rw [wr (by omega) (by omega)];omega
   have hxm:=List.mem_of_getElem? hxx
   obtain⟨g1,g2,g3,g4⟩:=hx x hxm
   obtain⟨p1,p2⟩:=h x hxm
   have hw:=rwrong319 x d (by omega) g1 g2 g3 g4
   have hxr:=rvalI_eq x d
   have hbad:rvalI x d≠0→r=rvalI x d:=fun hn=>by rw [hr,he];exact firstE_at hz hn
   simp only [encI_eq x,encE_eq x.expr,List.cons_append,List.nil_append] at hw
   simp [-getElem?_pos,h0,h1,h5,hlt,hxx,encI_eq x,encE_eq x.expr]
   refine kCall.call hw (by simp) ?_
   by_cases s0:shapeE x d=0
   · rw [if_pos s0] at hxr
     simp [-getElem?_pos,h0,h1,h5,hxx,encI_eq x,encE_eq x.expr,s0,hd1]
     refine kCall.call p1 (by simp) ?_
     by_cases s1:rvalL x.items (d+1)=0
     · rw [if_pos s1] at hxr
       simp [-getElem?_pos,h0,h1,h5,hxx,encI_eq x,encE_eq x.expr,s1,hd1]
       refine kCall.call p2 (by simp) ?_
       by_cases s2:rvalL x.els (d+1)=0
       · simp [-getElem?_pos,h5,s2,hew]
         exact hR _ _ ⟨h0,h1,by simp,⟨_,rfl⟩,hz_snoc hz (by rw [hxr,s2])⟩
       · rw [hbad (by rw [hxr];exact s2),hxr]
         simp [-getElem?_pos,s2]
     · rw [if_neg s1] at hxr
       rw [hbad (by rw [hxr];exact s1),hxr]
       simp [-getElem?_pos,s1]
   · rw [if_neg s0] at hxr
     rw [hbad (by rw [hxr];exact s0),hxr]
     simp [-getElem?_pos,s0]
 · rintro ev σ ⟨h0,h1,h5,⟨H,rfl⟩,hz⟩
   have:r=0:=by rw [hr];exact firstE_zero.2 hz
   subst this
   simp [-getElem?_pos,h0,h5]
theorem rvalid268x:∀ x,HoldI x→WeeI x→∀ d:Nat,d+nestI x≤4000000→Pure Tryz.prog GG 61 [.sl 12 (x.items.map encI) .none,I_ (d+1:Nat)] (I_ (rvalL x.items (d+1)))∧Pure Tryz.prog GG 61 [.sl 12 (x.els.map encI) .none,I_ (d+1:Nat)] (I_ (rvalL x.els (d+1))):=by
 refine It.ind fun x h1 h2 hh hw d hd=>?_
 have hn:=nestI_eq x
 refine⟨rvalid268L x.items (d+1) (by omega) (hh x (by rw [preI_eq];simp)).items (fun y hy=>?_) fun y hy=>h1 y hy (hh.itemB hy) (hw.item hy) (d+1) (by have:=nestI_item hy;omega),
  rvalid268L x.els (d+1) (by omega) (hh x (by rw [preI_eq];simp)).els (fun y hy=>?_) fun y hy=>h2 y hy (hh.elsB hy) (hw.els hy) (d+1) (by have:=nestI_els hy;omega)⟩
 · have h3:=(hw.item hy).self
   have:=hgt_pre y.expr
   have:=h3.size
   exact⟨hh.itemB hy y (by rw [preI_eq];simp),h3.low,by omega,by omega⟩
 · have h3:=(hw.els hy).self
   have:=hgt_pre y.expr
   have:=h3.size
   exact⟨hh.elsB hy y (by rw [preI_eq];simp),h3.low,by omega,by omega⟩
theorem rvalid206 (l:List It) (h:Few l) (hn:∀ x∈l,nestI x≤2000000):Pure Tryz.prog GG 39 [.sl 12 (l.map encI) .none] (I_ (validI l)):=by
 refine Pure.k mixed Tryz.func39 rfl (by kernel_rfl) ?_
 have hsz:=rsize267 l (by have:=h.len;omega) h.holdI
 have hv:=rvalid268L l 0 (by omega) (by have:=h.len;omega) (fun y hy=>by
  have h3:=(h.wee y hy).self
  have:=hgt_pre y.expr
  have:=h3.size
  exact⟨h.holdI y hy y (by rw [preI_eq];simp),h3.low,by omega,by omega⟩) fun y hy=>rvalid268x y (h.holdI y hy) (h.wee y hy) 0 (by have:=hn y hy;omega)
 rw [rvalL_vis] at hv
 have hr:validI l=if 64<sizeIS l then 2 else firstE (fun y=>shapeE y.1 y.2.depth) (visIs ⟨0,[]⟩ l):=rfl
 generalize validI l=r at hr
 generalize firstE (fun y=>shapeE y.1 y.2.depth) (visIs ⟨0,[]⟩ l)=q at *
 simp [-getElem?_pos]
 refine kCall.call hsz (by simp) ?_
 by_cases h64:64<sizeIS l
 · rw [if_pos h64] at hr
   subst hr
   simp [-getElem?_pos,h64]
 · rw [if_neg h64] at hr
   subst hr
   simp [-getElem?_pos,h64]
   refine kCall.call (by simpa using hv) (by simp) ?_
   simp [-getElem?_pos]
set_option maxHeartbeats 8000000 in
theorem shape26 (s:Sti) (h:Hold28 s):Pure Tryz.prog GG 26 [.agg (encT s)] (I_ (nodeT s)):=by
 refine Pure.k mixed Tryz.func26 rfl (by kernel_rfl) ?_
 have hv:=rvalid206 s.items h.items h.items.nest
 have hn:=isName210 s.cls h.cls
 have hb:∀ p:BadT s,nodeT s=1:=nodeT_bad
 have hg:¬ BadT s→nodeT s=if s.op≠1 then 0 else if nameS s.cls=false then 7 else validI s.items:=fun p=>by unfold nodeT;rw [if_neg p]
 obtain⟨o,n,c,i,l⟩:=s
 generalize nodeT (.mk o n c i l)=r at *
 unfold BadT at hb hg
 simp only [Sti.op,Sti.n,Sti.cls,Sti.items,Sti.subs] at hv hn hb hg
 simp only [encT_eq,Sti.op,Sti.n,Sti.cls,Sti.items,Sti.subs]
 generalize validI i=q at *
 by_cases o1:o<1
 · have:=hb (.inl o1);subst this;simp [-getElem?_pos,o1]
   done
 by_cases o6:6<o
 · have:=hb (.inr (.inl o6));subst this;simp [-getElem?_pos,o1,o6]
 have ho:o=1∨o=2∨o=3∨o=4∨o=5∨o=6:=by omega
 rcases ho with rfl|rfl|rfl|rfl|rfl|rfl
 · simp at hb hg
   by_cases h0:n=0
   · subst h0
     by_cases hl:l=[]
     · subst hl
       simp at hg
       simp [-getElem?_pos]
       refine kCall.call hn (by simp) ?_
       clear hn
       cases hnm:nameS c
       · simp [hnm] at hg
         subst hg
         simp [-getElem?_pos]
       · simp [hnm] at hg
         subst hg
         simp [-getElem?_pos]
         refine kCall.call hv (by simp) ?_
         simp [-getElem?_pos]
     · have:=hb (.inr (.inr (.inr hl)))
       subst this
       have hl0:0<l.length:=List.length_pos_iff.2 hl
       simp [-getElem?_pos,hl,hl0]
   · have:=hb (.inr (.inr (.inl h0)))
     subst this
     simp [-getElem?_pos,h0]
 all_goals
  simp at hb hg
  simp [-getElem?_pos]
  repeat' first | (refine And.intro ?_ ?_) | (intro _)
  all_goals first | omega | grind
end Go.Proofs.YtkodonalmdmgpaaGreatDoor
end
