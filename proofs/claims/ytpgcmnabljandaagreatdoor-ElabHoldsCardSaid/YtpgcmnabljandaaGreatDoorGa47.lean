/- A part of the proof: Walk90 Walk75 Walk76 Walk76b Walk81. -/
import Derived.Test.YtpgcmnabljandaaGreatDoorGa46
import Derived.Test.YtpgcmnabljandaaGreatDoorGa44
import Derived.Test.YtpgcmnabljandaaGreatDoorGa42
import Derived.Test.YtpgcmnabljandaaGreatDoorGa36
import Derived.Test.YtpgcmnabljandaaGreatDoorGa37
import Derived.Test.YtpgcmnabljandaaGreatDoorGa41
set_option linter.unusedVariables false
set_option linter.unusedSimpArgs false
set_option maxRecDepth 100000
section
namespace Go.Proofs.YtpgcmnabljandaaGreatDoor
open Go Go.Abs
section
theorem chainL_fuel {E:List (Int×Int)}:∀ (f:Nat) (i:Int),chainL E f i≤f
 | 0,i=>Nat.le_refl _
 | f+1,i=>chainL_le.2 fun e he _=>by have:=chainL_fuel (E:=E) f e.2;omega
theorem chainL_top {E:List (Int×Int)} (n:Nat) (i:Int):chainL E n i≤topL E n:=by
 have ht:=(foldMax_le (fun e:Int×Int=>chainL E n e.1) (topL E n) E 0).1 (Nat.le_refl _)
 cases n with
 | zero=>exact Nat.zero_le _
 | succ n=>
  cases hc:chainL E (n+1) i with
  | zero=>exact Nat.zero_le _
  | succ k=>
   obtain⟨e,he,rfl,_⟩:=chainL_ex (E:=E) (f:=n) (n:=k) (i:=i) (by omega)
   rw [← hc]
   exact ht.2 e he
theorem topL_le {E:List (Int×Int)} {n k:Nat} (h:∀ e∈E,chainL E n e.1≤k):topL E n≤k:=(foldMax_le (fun e:Int×Int=>chainL E n e.1) k E 0).2 ⟨Nat.zero_le _,h⟩
theorem levelS_le {E:List (Int×Int)} (n:Nat) (i:Int):levelS E n i≤topL E n:=by
 unfold levelS
 split
 · exact chainL_top n i
 · exact Nat.le_refl _
structure GrpOk (n:Nat) (T:List (Option Nat)) (ps:List GP):Prop where
 shape:∀ p∈ps,(p.2.1=[]∧p.1=0∧p.2.2=.nil)∨(p.2.1≠[]∧p.1=1∧∃ t,n≤t∧p.2.2=.chain t p.2.1.length∧T[t]?=some (some p.2.1.length))
 dist:∀ (i j:Nat) (p q:GP) (t a b:Nat),ps[i]?=some p→ps[j]?=some q→p.2.2=.chain t a→q.2.2=.chain t b→i=j
theorem GrpOk.add {T0 T:List (Option Nat)} {ps:List GP} (h:GrpOk T0.length T ps) (hT:T0 <+: T) {k:Nat} {p:GP} (hk:ps[k]?=some p) (hl:p.2.1.length≤1000000000) (i:Int) :
 ∃ p' T',(∀ H,appendA (Dof Tryz.prog) ⟨H,T⟩ 28 (gv p) (.sl 1 [[.int .i64 i]] .tight)=some (gv p',⟨H,T'⟩))∧p'.2.1=p.2.1++[i]∧GrpOk T0.length T' (ps.set k p')∧T0 <+: T':=by
 obtain⟨hkl,hkp⟩:=List.getElem?_eq_some_iff.1 hk
 have hget:∀ (p':GP) (i:Nat) (q:GP),(ps.set k p')[i]?=some q→(i=k∧q=p')∨(i≠k∧ps[i]?=some q):=fun p' i q hq=>by
  by_cases e:i=k
  · subst e
    rw [List.getElem?_set_self hkl] at hq
    cases hq;exact .inl ⟨rfl,rfl⟩
  · rw [List.getElem?_set_ne (Ne.symm e)] at hq
    exact .inr ⟨e,hq⟩
 have htok:∀ (i:Nat) (q:GP) (t a:Nat),ps[i]?=some q→q.2.2=.chain t a→t<T.length∧T0.length≤t∧q.2.1≠[]∧q.1=1∧a=q.2.1.length∧T[t]?=some (some q.2.1.length):=fun i q t a hq hc=>by
  rcases h.shape q (List.mem_of_getElem? hq) with ⟨_,_,h3⟩|⟨h1,h2,t',h3,h4,h5⟩
  · rw [h3] at hc;cases hc
  · rw [h4] at hc;cases hc
    exact⟨(List.getElem?_eq_some_iff.1 h5).1,h3,h1,h2,rfl,h5⟩
 rcases h.shape p (List.mem_of_getElem? hk) with ⟨h1,h2,h3⟩|⟨h1,h2,t,h3,h4,h5⟩
 · obtain⟨s,l,tk⟩:=p
   simp only at h1 h2 h3
   subst h1 h2 h3
   refine⟨⟨1,[i],.chain T.length 1⟩,T++[some 1],fun H=>by simp [gv,appendA,rowsOf,encInt],rfl,⟨fun q hq=>?_,fun a b q r t u w ha hb hc hd=>?_⟩,hT.trans (List.prefix_append _ _)⟩
   · rcases List.mem_or_eq_of_mem_set hq with hq|rfl
     · rcases h.shape q hq with h1|⟨h1,h2,t,h3,h4,h5⟩
       · exact .inl h1
       · exact .inr ⟨h1,h2,t,h3,h4,by rw [List.getElem?_append_left (List.getElem?_eq_some_iff.1 h5).1];exact h5⟩
     · exact .inr ⟨by simp,rfl,T.length,by obtain⟨u,rfl⟩:=hT;simp,rfl,by simp⟩
   · rcases hget _ a q ha with ⟨rfl,rfl⟩|⟨hna,ha2⟩
     · rcases hget _ b r hb with ⟨rfl,rfl⟩|⟨hnb,hb2⟩
       · rfl
       · have:=htok b r t w hb2 hd
         cases hc;omega
     · rcases hget _ b r hb with ⟨rfl,rfl⟩|⟨hnb,hb2⟩
       · have:=htok a q t u ha2 hc
         cases hd;omega
       · exact h.dist a b q r t u w ha2 hb2 hc hd
 · obtain⟨s,l,tk⟩:=p
   simp only at h1 h2 h4 h5 hl
   subst h2 h4
   have hll:l.length+1≤1073741824:=by omega
   refine⟨⟨1,l++[i],.chain t (l.length+1)⟩,T.set t (some (l.length+1)),fun H=>by simp [gv,appendA,rowsOf,encInt,h5,hll],rfl,⟨fun q hq=>?_,fun a b q r t2 u w ha hb hc hd=>?_⟩,prefix_set hT h3 _⟩
   · obtain⟨j,hj⟩:=List.getElem?_of_mem hq
     rcases hget _ j q hj with ⟨rfl,rfl⟩|⟨hnj,hj⟩
     · refine .inr ⟨by simp,rfl,t,h3,by simp,?_⟩
       rw [List.getElem?_set_self (List.getElem?_eq_some_iff.1 h5).1];simp
     · rcases h.shape q (List.mem_of_getElem? hj) with h1|⟨g1,g2,t2,g3,g4,g5⟩
       · exact .inl h1
       · refine .inr ⟨g1,g2,t2,g3,g4,?_⟩
         have hne:t≠t2:=by
          rintro rfl
          exact hnj (h.dist j k q ⟨1,l,.chain t l.length⟩ t _ _ hj hk g4 rfl)
         rw [List.getElem?_set_ne hne];exact g5
   · rcases hget _ a q ha with ⟨rfl,rfl⟩|⟨hna,ha2⟩
     · rcases hget _ b r hb with ⟨rfl,rfl⟩|⟨hnb,hb2⟩
       · rfl
       · cases hc
         exact absurd (h.dist b a r _ t w _ hb2 hk hd rfl) hnb
     · rcases hget _ b r hb with ⟨rfl,rfl⟩|⟨hnb,hb2⟩
       · cases hd
         exact absurd (h.dist a b q _ t u _ ha2 hk hc rfl) hna
       · exact h.dist a b q r t2 u w ha2 hb2 hc hd
def GAt (gb:Nat) (H:List Blk) (v:AV) (gs:List (List Int)):Prop:=∃ (ps:List GP) (tl:List AV),v=.ms gb 0 ps.length 1∧H[gb]?=some (.cells (ps.map gv++tl))∧ps.map (fun p=>p.2.1)=gs∧∀ p∈ps,p.1=1∧∃ t n,p.2.2=.chain t n
section
variable {T0:List (Option Nat)} {B vb m:Nat} {c:Cls} {V:List Var}
def grpN (V:List Var) (E:List (Int×Int)) (i k:Nat):List Int:=((List.range i).filter fun (i:Nat)=>rndS V (i:Int)&&decide (levelS E V.length (i:Int)=k)).map fun (i:Nat)=>(i:Int)
theorem grpN_succ (V:List Var) (E:List (Int×Int)) (i k:Nat):grpN V E (i+1) k=if rndS V (i:Int)=true∧levelS E V.length (i:Int)=k then grpN V E i k++[(i:Int)] else grpN V E i k:=by
 unfold grpN
 rw [List.range_succ,List.filter_append,List.map_append]
 by_cases h:rndS V (i:Int)=true∧levelS E V.length (i:Int)=k
 · rw [if_pos h];simp [h.1,h.2]
 · rw [if_neg h]
   have:(rndS V (i:Int)&&decide (levelS E V.length (i:Int)=k))=false:=by
    cases h1:rndS V (i:Int) with
    | false=>rfl
    | true=>simp;exact fun h2=>h ⟨h1,h2⟩
   simp [this]
theorem grpN_len (V:List Var) (E:List (Int×Int)) (i k:Nat):(grpN V E i k).length≤i:=by
 unfold grpN
 rw [List.length_map]
 exact Nat.le_trans (List.length_filter_le _ _) (by simp)
def GrpC (V:List Var) (E:List (Int×Int)) (i:Nat) (ps:List GP):Prop:=∀ (k:Nat) (p:GP),ps[k]?=some p→p.2.1=grpN V E i k
set_option maxHeartbeats 16000000 in
theorem grouped54 (hl:V.length≤1000) {D:List Dist} {E:List (Int×Int)} {td:Nat} {R:List Rec} {clk:Nat} (hE:E.length≤1000000000) (hb:Below E V.length) (H:List Blk) (T:List (Option Nat)) (h:BX T0 B vb m c V ⟨H,T⟩ D E td R clk) {vv dv:AV}
 (hc:H[B]?=some (.cells [.str c.name,.str c.parent,.sl 5 (c.fields.map encFld) .none,.sl 2 (c.blocks.map encBlc) .none,vv,.sl 0 [] .nil,.sl 0 [] .nil,dv,.sl 0 [] .nil,.map m])) :
 ACall Tryz.prog GG 54 [.ptr B 0] ⟨H,T⟩ (fun r σ'=>r=.int .i64 (if acyc E V.length=true then 0 else 10)∧T <+: σ'.T∧KpL [B] H σ'.H∧(acyc E V.length=true→∃ gvv gb,H.length≤gb∧GAt gb σ'.H gvv (groupsL V E) ∧
  σ'.H[B]?=some (.cells [.str c.name,.str c.parent,.sl 5 (c.fields.map encFld) .none,.sl 2 (c.blocks.map encBlc) .none,vv,.sl 0 [] .nil,.sl 0 [] .nil,dv,gvv,.map m]))):=by
 refine ACall.k mixed Tryz.func54 rfl (by kernel_rfl) ?_
 obtain⟨vv',dv',hc',hvv,hdv⟩:=h.cell
 obtain⟨rfl,rfl⟩:vv'=vv∧dv'=dv:=by
  have h1:H[B]?=_:=hc'
  rw [hc] at h1
  simp at h1
  exact⟨h1.1.symm,h1.2.symm⟩
 clear hc'
 simp only at hvv
 simp [-acells,-fin,-fin1,-fin2,-pl1,-pl2,-plain,-AV.atom,-getElem?_pos]
 refine kCall.acall (levels113 hl hE hb H T h) ?_
 rintro v ⟨H1,T1⟩ ⟨hT,hkp,hres⟩
 obtain rfl:T=T1:=hT.symm
 by_cases ha:acyc E V.length=true
 · rw [if_pos ha] at hres
   obtain⟨b,L,clk1,rfl,hbl,hlv,hok,hval⟩:=hres
   simp only at hlv
   simp [-acells,-fin,-fin1,-fin2,-pl1,-pl2,-plain,-AV.atom,-getElem?_pos,ha,hlv]
   have hH1:=(List.getElem?_eq_some_iff.1 hlv).1
   have hstm:((L.map lrecE).map (·.2.2)).Nodup:=by rw [lrecs_stamps];exact hok.stamps
   have hltm:∀ e∈L.map lrecE,e.2.2<clk1:=fun e he=>by
    obtain⟨r,hr,rfl⟩:=List.mem_map.1 he
    exact hok.lt r hr
   have hLv:∀ r∈L,inRel E r.key=true∧r.val=chainL E V.length r.key:=fun r hr=>by
    have h1:=hval r.key
    rw [valL_mem hok.keys hr] at h1
    split at h1
    · rename_i h2;exact⟨h2,by simpa using h1⟩
    · cases h1
   refine kLoop.gen (fun n ev σ=>ev 0=.ptr B 0∧ev 3=.map b∧ev 20=.iter H1.length∧σ.T=T∧KpL [] H1 σ.H∧∃ seen mx,n=(leftE (L.map lrecE) seen).length∧ev 5=.int .i64 mx∧0≤mx∧mx≤topL E V.length∧σ.H[H1.length]?=some (.miter (some b) clk1 seen clk1)∧∀ r∈L,r.stamp∈seen→r.val≤mx) (leftE (L.map lrecE) []).length ?_ ?_
   · exact⟨by simp,by simp,by simp,rfl,KpL.app,[],0,rfl,by simp,by omega,by omega,by simp,by simp⟩
   · rintro n ev ⟨H2,T2⟩ Rl hRl ⟨h0,h3,h20,hT,hk2,seen,mx,rfl,h5,hm0,hm1,hit,hds⟩
     obtain rfl:T=T2:=hT.symm
     have hlv2:=hk2.2 _ _ hlv (by simp)
     simp only at hit hlv2 hk2
     have hnx:=nexts_map (T:=T) hit hlv2 hltm
     simp [-acells,-fin,-fin1,-fin2,-pl1,-pl2,-plain,-AV.atom,-getElem?_pos,h0,h3,h20,hnx]
     refine kY_mem fun v τ hv=>?_
     rcases List.mem_append.1 hv with hv|hv
     · split at hv
       case isFalse=>cases hv
       rename_i hle
       have hall:=left_nil (es:=L.map lrecE) (seen:=seen) (by rw [hle];rfl)
       simp at hv
       obtain⟨rfl,rfl⟩:=hv
       have hmx:mx=topL E V.length:=by
        have h1:topL E V.length≤mx.toNat:=topL_le fun e he=>by
         have h2:=hval e.1
         rw [if_pos (inRel_l he).1] at h2
         obtain⟨r,hr,hr1,hr2⟩:=valL_some h2
         have:=hds r hr (hall _ (List.mem_map.2 ⟨r,hr,rfl⟩))
         omega
        omega
       subst hmx
       have htl:topL E V.length≤V.length:=topL_le fun e _=>chainL_fuel _ _
       have hw:IntKind.i64.wrap ((topL E V.length:Int)+1)=(topL E V.length+1:Nat):=by rw [wr (by omega) (by omega)];omega
       have hc1:=hkp.2 _ _ hc (by simp)
       have hc2:=hk2.2 _ _ hc1 (by simp)
       have hBl:=(List.getElem?_eq_some_iff.1 hc).1
       have hBl1:=(List.getElem?_eq_some_iff.1 hc1).1
       generalize htop:topL E V.length=top at *
       obtain⟨ps0,hps0⟩:∃ ps0,ps0=List.replicate (top+1) ((0,[],.nil):GP):=⟨_,rfl⟩
       have hlen:∀ σ,lenA (Dof Tryz.prog) σ 31 vv'=some (.int .i64 V.length):=fun σ=>by
        rcases hvv with ⟨rfl,rfl⟩|⟨_,rfl,_⟩<;>simp
       have hms:makeSliceA (Dof Tryz.prog) ⟨H2,T⟩ 34 (.int .i64 (top+1:Nat)) (.int .i64 (top+1:Nat))=some (.ms H2.length 0 (top+1) 1,⟨H2++[.cells (ps0.map gv)],T⟩):=by
        have h1:(0:Int)≤((top+1:Nat):Int):=by omega
        have h2:((top+1:Nat):Int)≤1073741824:=by omega
        have h3:¬ ((top+1:Nat):Int)=0:=by omega
        have h4:(List.replicate (top+1) [AV.sl 0 [] .nil]).flatten=ps0.map gv:=by
         rw [hps0,List.map_replicate]
         generalize top+1=n
         induction n with
         | zero=>rfl
         | succ n ih=>rw [List.replicate_succ,List.flatten_cons,ih,List.replicate_succ];rfl
        simp [makeSliceA,asIntA,-Int.natCast_add,h1,h2,h3,St.push,h4]
       simp [-acells,-fin,-fin1,-fin2,-pl1,-pl2,-plain,-AV.atom,-getElem?_pos,-Int.natCast_add,-lenA,h0,h3,h5,hw,hms,look_app hc2,hvv.acells,hlen]
       have hps0l:ps0.length=top+1:=by rw [hps0];simp
       have hgl:H2.length<(H2++[Blk.cells (ps0.map gv)]).length:=by simp
       refine kLoop.count V.length (fun i ev σ=>ev 0=.ptr B 0∧ev 3=.map b∧ev 5=.int .i64 top∧ev 8=.ms H2.length 0 (top+1) 1∧ev 36=.int .i64 V.length∧ev 37=.int .i64 i∧T <+: σ.T∧KpL [] H2 σ.H∧∃ ps:List GP,σ.H[H2.length]?=some (.cells (ps.map gv))∧ps.length=top+1∧GrpOk T.length σ.T ps∧GrpC V E i ps) ?_ ?_ ?_
       · refine⟨by simp [h0],by simp [h3],by simp [h5],by simp,by simp,by simp,List.prefix_rfl,KpL.app,ps0,by simp,hps0l,⟨fun p hp=>?_,fun i j p q t x y hi hj hc hd=>?_⟩,fun k p hk=>?_⟩
         · rw [hps0] at hp;rw [List.eq_of_mem_replicate hp];exact .inl ⟨rfl,rfl,rfl⟩
         · rw [hps0] at hi;rw [List.eq_of_mem_replicate (List.mem_of_getElem? hi)] at hc;cases hc
         · rw [hps0] at hk;rw [List.eq_of_mem_replicate (List.mem_of_getElem? hk)];rfl
       · clear h0 h3 h5 h20
         rintro i ev ⟨H3,T3⟩ hi ⟨h0,h3,h5,h8,h36,h37,hT3,hk3,ps,hg,hpl,hgo,hpc⟩
         have hc3:=hk3.2 _ _ hc2 (by simp)
         have hlv3:=hk3.2 _ _ hlv2 (by simp)
         simp only at hg hT3 hk3 hgo hlv3 hc3
         have hv3:OwnAt vb 4 encVar H3 vv' V:=hvv.keep fun x hl hx=>hk3.2 _ _ (hk2.2 _ _ (hkp.2 _ _ hx (by simp)) (by simp)) (by simp)
         have hr1:=randomG V (.sl 0 [] .nil) (.sl 0 [] .nil) (.sl 2 (D.map encDist) .none) (.sl 0 [] .nil) rfl rfl rfl rfl (i:Int)
         have hfz:=frz_prob hv3 (BX.dists hdv) (i:Int)
         have hwi:IntKind.i64.wrap ((i:Int)+1)=(i+1:Nat):=by rw [wr (by omega) (by omega)];omega
         have hii:(i:Int)<V.length:=by omega
         have hdac:acells dv'=some [dv']:=by
          rcases hdv with ⟨_,rfl⟩|⟨_,rfl,_⟩<;>rfl
         simp [-acells,-fin,-fin1,-fin2,-pl1,-pl2,-plain,-AV.atom,-getElem?_pos,-Int.natCast_add,h0,h3,h5,h8,h36,h37,hii,hc3,hv3.acells,hdac]
         refine kCall.lent hr1 rfl hfz ?_
         cases hri:rndS V (i:Int)
         · simp [-acells,-fin,-fin1,-fin2,-pl1,-pl2,-plain,-AV.atom,-getElem?_pos,-Int.natCast_add,h0,h3,h5,h8,h36,h37,hwi]
           refine⟨hT3,hk3,ps,hg,hpl,hgo,fun k p hk=>?_⟩
           rw [grpN_succ,if_neg (by rw [hri];simp)]
           exact hpc k p hk
         · have hlk:=hok.look (T:=T3) D162x2 D3x2 hlv3 (i:Int) true
           have hvi:=hval (i:Int)
           have hle:levelS E V.length (i:Int)≤top:=by rw [← htop];exact levelS_le _ _
           have hls:levelS E V.length (i:Int)=if inRel E (i:Int)=true then chainL E V.length (i:Int) else top:=by rw [← htop];rfl
           obtain⟨p,hp⟩:∃ p,ps[levelS E V.length (i:Int)]?=some p:=⟨ps[levelS E V.length (i:Int)]'(by omega),List.getElem?_eq_getElem _⟩
           have hpcl:=hpc _ _ hp
           have hplen:p.2.1.length≤1000000000:=by rw [hpcl];have:=grpN_len V E i (levelS E V.length (i:Int));omega
           obtain⟨p',T4,happ,hp1,hgo4,hT4⟩:=hgo.add hT3 hp hplen (i:Int)
           obtain⟨t1,t2⟩:=takeAt_drop (cs:=ps.map gv) (i:=levelS E V.length (i:Int)) (x:=gv p) (by rw [List.getElem?_map,hp];rfl)
           have hcp:GrpC V E (i+1) (ps.set (levelS E V.length (i:Int)) p'):=fun k q hq=>by
            rw [grpN_succ]
            by_cases e:levelS E V.length (i:Int)=k
            · subst e
              rw [List.getElem?_set_self (by omega)] at hq
              cases hq
              rw [if_pos ⟨hri,rfl⟩,hp1,hpcl]
            · rw [List.getElem?_set_ne e] at hq
              rw [if_neg (fun h=>e h.2)]
              exact hpc k q hq
           generalize hlv':levelS E V.length (i:Int)=lv at *
           have hset:(ps.map gv).set lv (gv p')=(ps.set lv p').map gv:=by rw [List.map_set]
           have hlt:(lv:Int)<((top+1:Nat):Int):=by omega
           generalize hcs:ps.map gv=cs at *
           have hgl3:=(List.getElem?_eq_some_iff.1 hg).1
           have hfin:∀ (env:Env),(env 0=.ptr B 0∧env 3=.map b∧env 5=.int .i64 top∧env 8=.ms H2.length 0 (top+1) 1∧env 36=.int .i64 V.length∧env 37=.int .i64 (i+1:Nat))→(env 0=.ptr B 0∧env 3=.map b∧env 5=.int .i64 top∧env 8=.ms H2.length 0 (top+1) 1∧env 36=.int .i64 V.length∧env 37=.int .i64 (i+1:Nat)):=fun _ h=>h
           cases hin:inRel E (i:Int) with
           | true=>
            rw [hin,if_pos rfl] at hvi hls
            rw [← hls] at hvi
            rw [hvi] at hlk
            simp only [if_true,Option.getD_some,Option.isSome_some] at hlk
            simp [-acells,-fin,-fin1,-fin2,-pl1,-pl2,-plain,-AV.atom,-getElem?_pos,-Int.natCast_add,h0,h3,h5,h8,h36,h37,hwi,hlk,hlt,hg,t1,t2,happ,(gv_no p').2]
            refine⟨hT4,hk3.setF (by omega),ps.set lv p',?_,by rw [List.length_set];exact hpl,hgo4,hcp⟩
            rw [List.getElem?_set_self hgl3,hset]
           | false=>
            rw [hin,if_neg (by simp)] at hvi hls
            subst hls
            rw [hvi] at hlk
            simp only [if_true,Option.getD_none,Option.isSome_none] at hlk
            simp [-acells,-fin,-fin1,-fin2,-pl1,-pl2,-plain,-AV.atom,-getElem?_pos,-Int.natCast_add,h0,h3,h5,h8,h36,h37,hwi,hlk,hlt,hg,t1,t2,happ,(gv_no p').2]
            refine⟨hT4,hk3.setF (by omega),ps.set _ p',?_,by rw [List.length_set];exact hpl,hgo4,hcp⟩
            rw [List.getElem?_set_self hgl3,hset]
       · clear h0 h3 h5 h20
         rintro ev ⟨H3,T3⟩ ⟨h0,h3,h5,h8,h36,h37,hT3,hk3,ps,hg,hpl,hgo,hpc⟩
         simp only at hg hT3 hk3 hgo
         have hd:=delete114 ps (by omega) H3 T3 H2.length hg
         rw [hpl] at hd
         simp [-acells,-fin,-fin1,-fin2,-pl1,-pl2,-plain,-AV.atom,-getElem?_pos,-Int.natCast_add,h0,h3,h5,h8,h36,h37]
         refine kCall.acall hd ?_
         rintro v ⟨H4,T4⟩ ⟨rfl,hT4,hk4,tl,hg4⟩
         obtain rfl:T3=T4:=hT4.symm
         simp only at hk4 hg4
         have q1:H.length≤H1.length:=hkp.1
         have q2:H1.length≤H2.length:=hk2.1
         have q3:H2.length≤H3.length:=hk3.1
         have q4:H3.length≤H4.length:=hk4.1
         have hc4:=hk4.2 _ _ (hk3.2 _ _ hc2 (by simp)) (by simp;omega)
         have hBl4:=(List.getElem?_eq_some_iff.1 hc4).1
         simp [-acells,-fin,-fin1,-fin2,-pl1,-pl2,-plain,-AV.atom,-getElem?_pos,-Int.natCast_add,h0,h3,h5,h8,h36,h37,hc4]
         refine⟨hT3,?_,_,H2.length,by omega,⟨ps.filter fun p=>!emp p,tl,rfl,?_,?_,fun p hp=>?_⟩,?_⟩
         · refine⟨by rw [List.length_set];omega,fun k x hk hn=>?_⟩
           have hkB:k≠B:=by simpa using hn
           have hkl:=(List.getElem?_eq_some_iff.1 hk).1
           rw [List.getElem?_set_ne (Ne.symm hkB)]
           exact hk4.2 _ _ (hk3.2 _ _ (hk2.2 _ _ (hkp.2 _ _ hk (by simp)) (by simp)) (by simp)) (by simp;omega)
         · rw [List.getElem?_set_ne (by omega)];exact hg4
         · have hmap:ps.map (fun p=>p.2.1)=(List.range (top+1)).map (grpN V E V.length):=by
            apply List.ext_getElem?
            intro k
            rw [List.getElem?_map,List.getElem?_map]
            by_cases hk:k<top+1
            · obtain⟨p,hp⟩:∃ p,ps[k]?=some p:=⟨ps[k]'(by omega),List.getElem?_eq_getElem _⟩
              rw [hp,List.getElem?_range hk]
              exact congrArg some (hpc k p hp)
            · rw [List.getElem?_eq_none (by omega),List.getElem?_eq_none (by simp;omega)];rfl
           have hgr:groupsL V E=((List.range (topL E V.length+1)).map (grpN V E V.length)).filter fun g=>!g.isEmpty:=rfl
           rw [hgr,htop,← hmap,List.filter_map]
           rfl
         · obtain⟨hp1,hp2⟩:=List.mem_filter.1 hp
           rcases hgo.shape p hp1 with ⟨h1,_⟩|⟨_,h2,t,_,h4,_⟩
           · rw [emp,h1] at hp2;cases hp2
           · exact⟨h2,t,_,h4⟩
         · rw [List.getElem?_set_self hBl4]
     · obtain⟨e,he,hve⟩:=List.mem_map.1 hv
       obtain⟨hem,hns⟩:=left_mem he
       obtain⟨r,hr,rfl⟩:=List.mem_map.1 hem
       cases hve
       have hitn:H1.length<H2.length:=(List.getElem?_eq_some_iff.1 hit).1
       have hen:=entry_map (H:=H2.set H1.length (.miter (some b) clk1 (seen++[(lrecE r).2.2]) clk1)) (T:=T) (by rw [List.getElem?_set_self hitn]) (by rw [List.getElem?_set_ne (by omega)];exact hlv2) hem hstm
       have hlen0:=left_len hstm he
       obtain⟨hr1,hr2⟩:=hLv r hr
       have htop:=chainL_top (E:=E) V.length r.key
       simp only [lrecE] at hen hlen0 ⊢
       simp [-acells,-fin,-fin1,-fin2,-pl1,-pl2,-plain,-AV.atom,-getElem?_pos,h0,h3,h20,h5,hen]
       refine hRl _ _ _ ?_ ⟨by simp [h0],by simp [h3],by simp [h20],rfl,hk2.setF (by omega),seen++[r.stamp],(if r.val > mx then r.val else mx),rfl,by simp,by split<;>omega,by split<;>omega,?_,fun q hq hqs=>?_⟩
       · omega
       · show (List.set _ _ _)[_]?=_
         rw [List.getElem?_set_self hitn]
       · rcases List.mem_append.1 hqs with h1|h1
         · have:=hds q hq h1
           split<;>omega
         · simp at h1
           obtain⟨i,hi⟩:=List.getElem?_of_mem hr
           obtain⟨j,hj⟩:=List.getElem?_of_mem hq
           have:=nodup_at hok.stamps hi hj h1.symm
           subst this
           rw [hi] at hj
           cases hj
           split<;>omega
 · rw [if_neg ha] at hres
   subst hres
   simp [-acells,-fin,-fin1,-fin2,-pl1,-pl2,-plain,-AV.atom,-getElem?_pos,ha]
   exact⟨hkp.1,fun k x hk _=>hkp.2 k x hk (by simp)⟩
end
end
section
def Agree (F:Flds) (l:List Var):Prop:=∀ a,nameS a=true→(F a).getD 0=(sizeA l a:Int)
theorem node_name {e:Ex} (h:NodesOk e) (h3:e.op=3∨e.op=24):nameS e.name=true:=by
 obtain⟨_,_,_,_,_,_,h,_⟩:=nodeE_zero h.self
 exact h h3
theorem ext2 {l:List Var} {e:Ex} (hn:NodesOk e) (hu:unkB l e=false):(extE l e).2=if e.op=1 then e.n else if e.op=3 then (match e.args with | a::_=>if 0≤(extE l a).2∧(sizeA l e.name:Int)≤(extE l a).2 then 0 else -1 | []=>-1) else -1:=by
 rw [extE_eq]
 unfold extN
 by_cases c1:e.op=1
 · rw [if_pos c1,if_pos c1]
 rw [if_neg c1,if_neg c1]
 by_cases c24:e.op=24
 · rw [if_pos c24,if_neg (by omega)]
 rw [if_neg c24]
 by_cases c3:e.op=3
 · obtain⟨a,ha⟩:=args1 hn c3
   have hs:=unk1_size (unkB_self hu) (.inl c3)
   rw [if_neg (by simp [c3]),if_pos c3,ha]
   simp only [List.map_cons,List.map_nil,lastX]
   by_cases c5:(sizeA l e.name:Int)≤(extE l a).2
   · rw [if_pos c5,if_pos ⟨by omega,c5⟩]
   · have e1:¬ (0≤(extE l a).2∧(sizeA l e.name:Int)≤(extE l a).2):=fun h=>c5 h.2
     rw [if_neg c5,if_neg e1]
     by_cases c6:0≤(extE l a).2
     · rw [if_pos c6]
     · rw [if_neg c6]
 · rw [if_pos c3,if_neg c3]
section
variable {F:Flds} {b:Nat} {l:List Var}
set_option maxHeartbeats 4000000 in
theorem constant255 (hag:Agree F l):∀ e,NodesOk e→unkB l e=false→∀ (H:List Blk) (T:List (Option Nat)),MapF H b F →
 ACall Tryz.prog GG 255 [.map b,.agg (encE e)] ⟨H,T⟩ (fun r σ'=>r=.tup [.int .i64 (if 0≤(extE l e).2 then (extE l e).2 else 0),.bool (decide (0≤(extE l e).2))]∧∃ t,σ'=⟨H++t,T⟩):=by
 refine Ex.ind fun e ih hn hu H T hm=>?_
 refine ACall.k mixed Tryz.func255 rfl (by kernel_rfl) ?_
 have hm0:=hm
 obtain⟨es,clk,hb,hkv⟩:=hm
 have lk:=fun (H':List Blk) (T':List (Option Nat)) (b:Nat) (s:Str) (ok:Bool) (h:H'[b]?=some (.map es clk))=>look147 hkv (T:=T') h s ok
 have hx:=ext2 hn hu
 generalize (extE l e).2=q at hx ⊢
 by_cases c1:e.op=1
 · rw [if_pos c1] at hx
   obtain⟨_,_,h1,_⟩:=nodeE_zero hn.self
   have h0:=(h1 c1).1
   simp only [encE_eq e]
   simp [-acells,-fin,-fin1,-fin2,-pl1,-pl2,-plain,-AV.atom,-getElem?_pos,c1,hx,h0]
 rw [if_neg c1] at hx
 by_cases c3:e.op=3
 · obtain⟨a,ha⟩:=args1 hn c3
   rw [if_pos c3,ha] at hx
   simp only at hx
   have hag:=hag e.name (node_name hn (.inl c3))
   have hi:=fun t=>ih a (by rw [ha];simp) (hn.arg (by rw [ha];simp)) (unkB_arg hu (by rw [ha];simp)) (H++t) T hm0.app
   simp only [encE_eq a] at hi
   simp only [encE_eq e,ha]
   simp [-acells,-fin,-fin1,-fin2,-pl1,-pl2,-plain,-AV.atom,-getElem?_pos,c3,encE_eq a]
   refine kCall.acall (hi _) ?_
   rintro v σ' ⟨rfl,t,rfl⟩
   generalize (extE l a).2=z at hx
   by_cases hz:0≤z
   · by_cases hs:(sizeA l e.name:Int)≤z
     · rw [if_pos ⟨hz,hs⟩] at hx
       subst hx
       simp [-acells,-fin,-fin1,-fin2,-pl1,-pl2,-plain,-AV.atom,-getElem?_pos,hz,hs,lk,look_app hb,hag]
     · rw [if_neg (fun h=>hs h.2)] at hx
       subst hx
       simp [-acells,-fin,-fin1,-fin2,-pl1,-pl2,-plain,-AV.atom,-getElem?_pos,hz,hs,lk,look_app hb,hag]
   · rw [if_neg (fun h=>hz h.1)] at hx
     subst hx
     simp [-acells,-fin,-fin1,-fin2,-pl1,-pl2,-plain,-AV.atom,-getElem?_pos,hz,lk,look_app hb,hag]
 · rw [if_neg c3] at hx
   subst hx
   simp only [encE_eq e]
   simp [-acells,-fin,-fin1,-fin2,-pl1,-pl2,-plain,-AV.atom,-getElem?_pos,c1,c3]
theorem capS_min:∀ {xs:List (Int×Int)} {s:Int},(∀ x∈xs,0≤x.1)→s≤401→capS s xs=min 401 (s+sumX xs)
 | [],s,_,h=>by simp only [capS,sumX];omega
 | m::r,s,hx,h=>by
  have h0:=hx m (by simp)
  have hr:∀ x∈r,0≤x.1:=fun x h=>hx x (by simp [h])
  have hn:=sumX_nn hr
  simp only [capS,sumX]
  by_cases c1:401<s+m.1
  · rw [if_pos c1,capS_min hr (by omega)];omega
  · rw [if_neg c1,capS_min hr (by omega)];omega
set_option maxHeartbeats 8000000 in
theorem size188 (hag:Agree F l):∀ e,Wen e→NodesOk e→unkB l e=false→∀ (H:List Blk) (T:List (Option Nat)),MapF H b F →
 ACall Tryz.prog GG 188 [.map b,.agg (encE e)] ⟨H,T⟩ (fun r σ'=>r=.int .i64 (extE l e).1∧∃ t,σ'=⟨H++t,T⟩):=by
 refine Ex.ind fun e ih hwe hn hu H T hm=>?_
 refine ACall.k mixed Tryz.func188 rfl (by kernel_rfl) ?_
 have hm0:=hm
 obtain⟨es,clk,hb,hkv⟩:=hm
 have lk:=fun (H':List Blk) (T':List (Option Nat)) (b:Nat) (s:Str) (ok:Bool) (h:H'[b]?=some (.map es clk))=>look147 hkv (T:=T') h s ok
 have hfa:=hwe.fits
 have h8:=sizeA_le l e.name
 have hok:∀ a∈e.args,ExtOk l a:=fun a ha=>extOk l a (hn.arg ha) (unkB_arg hu ha)
 have hx:=extE_eq l e
 unfold extN at hx
 by_cases c24:e.op=24
 · have hag:=hag e.name (node_name hn (.inr c24))
   rw [if_neg (by omega),if_pos c24] at hx
   rw [hx]
   have w1:IntKind.i64.wrap (2*(sizeA l e.name:Int))=2*sizeA l e.name:=wr (by omega) (by omega)
   have w2:IntKind.i64.wrap (2*(sizeA l e.name:Int)-1)=2*sizeA l e.name-1:=wr (by omega) (by omega)
   simp only [encE_eq e]
   simp [-acells,-fin,-fin1,-fin2,-pl1,-pl2,-plain,-AV.atom,-getElem?_pos,c24,lk,look_app hb,hag,w1,w2]
 have hxs:∀ x∈e.args.map (extE l),1≤x.1∧x.1≤401:=by
  intro x hx
  obtain⟨a,ha,rfl⟩:=List.mem_map.1 hx
  exact (hok a ha).nn
 simp only [encE_eq e]
 simp [-acells,-fin,-fin1,-fin2,-pl1,-pl2,-plain,-AV.atom,-getElem?_pos,c24]
 refine kLoop.listR e.args (fun d ev σ=>ev 0=.map b∧ev 3=.ptr H.length 0∧ev 5=.int .i64 (capS 0 (d.map (extE l)))∧ev 20=.sl 4 (e.args.map encE) .none∧ev 21=.int .i64 e.args.length∧ev 22=.int .i64 d.length∧∃ t,σ=⟨H++.cells (encE e)::t,T⟩) ?_ ?_ ?_
 · exact⟨by simp,by simp,by simp [capS],by simp,by simp,by simp,[],by simp [encE_eq e]⟩
 · rintro d a r ev σ R hR hd hv hlt ⟨h0,h3,h5,h20,h21,h22,t,rfl⟩
   have ham:=List.mem_of_getElem? hv
   have hi:=fun t=>ih a ham (hwe.arg ham) (hn.arg ham) (unkB_arg hu ham) (H++t) T hm0.app
   have hdm:∀ x∈d.map (extE l),0≤x.1:=fun x hx=>by
    obtain⟨y,hy,rfl⟩:=List.mem_map.1 hx
    have:=(hok y (by rw [hd];simp [hy])).nn;omega
   have hcap:=capS_mono (xs:=d.map (extE l)) (s:=0) (by omega) hdm
   have hnn:=(hok a ham).nn
   have ec:=capS_append (xs:=d.map (extE l)) (s:=0) (m:=extE l a)
   simp only [encE_eq a] at hi
   simp [-acells,-fin,-fin1,-fin2,-pl1,-pl2,-plain,-AV.atom,-getElem?_pos,h0,h3,h5,h20,h21,h22,hlt,hv,encE_eq a]
   refine kCall.acall (by simpa using hi _) ?_
   rintro v σ' ⟨rfl,t',rfl⟩
   have em:(d++[a]).map (extE l)=d.map (extE l)++[extE l a]:=by simp
   rw [← em] at ec
   generalize capS 0 (d.map (extE l))=C at *
   generalize capS 0 ((d++[a]).map (extE l))=C' at *
   have w1:IntKind.i64.wrap (C+(extE l a).1)=C+(extE l a).1:=wr (by omega) (by omega)
   simp [-acells,-fin,-fin1,-fin2,-pl1,-pl2,-plain,-AV.atom,-getElem?_pos,h0,h3,h5,h20,h21,h22,w1,min2A]
   refine hR _ _ ⟨by simp [h0],by simp [h3],by simp [ec],by simp [h20],by simp [h21],by simp [h22];exact wr (by omega) (by omega),_,by simp;rfl⟩
 · rintro ev σ ⟨h0,h3,h5,h20,h21,h22,t,rfl⟩
   have hxs0:∀ x∈e.args.map (extE l),0≤x.1:=fun x hx=>by have:=hxs x hx;omega
   have hcap:=capS_mono (xs:=e.args.map (extE l)) (s:=0) (by omega) hxs0
   have k0:=capS_min hxs0 (s:=0) (by omega)
   have k1:=capS_min hxs0 (s:=1) (by omega)
   have hnn:=sumX_nn hxs0
   have hbH:(H++.cells (encE e)::t)[H.length]?=some (.cells [.int .i64 e.op,.int .i64 e.n,.str e.name,.sl 4 (e.args.map encE) .none]):=by simp [encE_eq e]
   by_cases c3:e.op=3
   · obtain⟨a,ha⟩:=args1 hn c3
     have hagn:=hag e.name (node_name hn (.inl c3))
     have ham:a∈e.args:=by rw [ha];simp
     have hc:=fun t=>constant255 (b:=b) hag a (hn.arg ham) (unkB_arg hu ham) (H++t) T hm0.app
     have hoa:=hok a ham
     simp only [encE_eq a] at hc
     rw [ha] at h5 h20 h21 h22 hbH
     simp [-acells,-fin,-fin1,-fin2,-pl1,-pl2,-plain,-AV.atom,-getElem?_pos,h0,h3,h5,h20,h21,h22,hbH,c3,encE_eq a]
     refine kCall.acall (by simpa using hc _) ?_
     rintro v σ' ⟨rfl,t',rfl⟩
     rw [if_neg (by omega),if_neg c24,if_neg (by simp [c3]),ha] at hx
     simp only [List.map_cons,List.map_nil,lastX] at hx
     by_cases hz:0≤(extE l a).2
     · have h1:(extE l e).1=1:=by
        rw [hx]
        split
        · rfl
        · rfl
       rw [h1]
       simp [-acells,-fin,-fin1,-fin2,-pl1,-pl2,-plain,-AV.atom,-getElem?_pos,hz,h0,h5]
     · have hs:=unk1_size (unkB_self hu) (.inl c3)
       rw [if_neg (by omega),if_neg hz] at hx
       rw [hx]
       have hnna:=hoa.nn
       have hC:capS 0 [extE l a]=(extE l a).1:=by
        simp only [capS]
        rw [if_neg (by omega)]
        omega
       have hp:0≤(sizeA l e.name:Int)*((extE l a).1+4)∧(sizeA l e.name:Int)*((extE l a).1+4)≤8*405:=mul_bound (by omega) (by omega) (by omega) (by omega)
       have w1:IntKind.i64.wrap ((extE l a).1+4)=(extE l a).1+4:=wr (by omega) (by omega)
       have w2:IntKind.i64.wrap ((sizeA l e.name:Int)*((extE l a).1+4))=sizeA l e.name*((extE l a).1+4):=wr (by omega) (by omega)
       have w3:IntKind.i64.wrap ((sizeA l e.name:Int)*((extE l a).1+4)+1)=sizeA l e.name*((extE l a).1+4)+1:=wr (by omega) (by omega)
       have hb2:(H++.cells (encE e)::t)[b]?=some (.map es clk):=look_app hb _
       have hbH2:=hbH
       simp only [List.map_cons,List.map_nil,hC] at h5
       simp [-acells,-fin,-fin1,-fin2,-pl1,-pl2,-plain,-AV.atom,-getElem?_pos,hz,h0,h3,h5,hbH,lk,hb2,look_app hb,hagn,w1,w2,w3,min2A,hC,encE_eq e,ha,c3]
   · have hw:IntKind.i64.wrap (capS 0 (e.args.map (extE l))+1)=capS 0 (e.args.map (extE l))+1:=wr (by omega) (by omega)
     have h1:(extE l e).1=if 401<capS 0 (e.args.map (extE l))+1 then 401 else capS 0 (e.args.map (extE l))+1:=by
      rw [hx]
      by_cases c1:e.op=1
      · rw [if_pos c1]
        have hs:e.args=[]:=by
         obtain⟨_,_,_,_,ho,_⟩:=nodeE_zero hn.self
         have:=operands_args ho (by omega)
         have h0:arityS e.op=0:=by rw [c1];decide
         rw [h0] at this
         exact List.length_eq_zero_iff.1 (by omega)
        rw [hs]
        simp [capS]
      · rw [if_neg c1,if_neg c24,if_pos (by simpa using c3)]
        show capS 1 _=_
        rw [k1,k0]
        split<;>omega
     rw [h1]
     simp [-acells,-fin,-fin1,-fin2,-pl1,-pl2,-plain,-AV.atom,-getElem?_pos,h0,h3,h5,h20,h21,h22,hbH,c3,hw,min2A]
end
end
section
theorem element256 (a:Str) (i:Nat) (hi:i<8) (ha:a.length≤1000):Pure Tryz.prog GG 256 [.str a,.int .i64 i] (.agg (encE (itemE a i))):=by
 refine Pure.k mixed Tryz.func256 rfl (by kernel_rfl) ?_
 have hw:IntKind.u8.wrap (IntKind.i64.wrap (48+(i:Int)))=48+(i:Int):=by simp [IntKind.wrap,IntKind.bits,IntKind.signed];omega
 have hb:UInt8.ofNat (48+(i:Int)).toNat=UInt8.ofNat (48+i):=by congr 1
 have hl1:a.length+1≤4611686018427387904:=by omega
 have hl2:a.length+1+1≤4611686018427387904:=by omega
 have hl3:a.length+1+1+1≤4611686018427387904:=by omega
 simp [-acells,-fin,-fin1,-fin2,-pl1,-pl2,-plain,-AV.atom,-getElem?_pos,convA,bytesOf,hw,hb,hl1,hl2,hl3]
 simp [itemE,encE_eq,elemS]
def NoE (e:Ex):Prop:=∀ x∈pre e,x.op=2→x.name≠[]
theorem NoE.arg {e a:Ex} (h:NoE e) (ha:a∈e.args):NoE a:=fun x hx=>h x (by rw [pre_eq];exact List.mem_cons_of_mem _ (mem_preL.2 ⟨a,ha,hx⟩))
theorem NoE.mk {o n:Int} {s:Str} {a:List Ex} (h:o=2→s≠[]) (ha:∀ x∈a,NoE x):NoE (.mk o n s a):=by
 intro x hx
 rw [pre_mk] at hx
 rcases List.mem_cons.1 hx with rfl|hx
 · exact h
 · obtain⟨y,hy,hxy⟩:=mem_preL.1 hx
   exact ha y hy x hxy
theorem varS_ne {s:Str} (h:varS s=true):s≠[]:=by
 rintro rfl
 unfold varS at h
 rw [no_elem (by rfl)] at h
 simp [nameS,wordS] at h
theorem NodesOk.noE {e:Ex} (h:NodesOk e):NoE e:=fun x hx h2=>varS_ne (node_var h hx h2)
theorem subst_noE {b:Ex}:∀ e,NoE e→substE [] b e=e:=by
 refine Ex.ind fun e ih h=>?_
 rw [substE_eq,if_neg (fun hh=>h e (by rw [pre_eq];simp) hh.1 hh.2)]
 have:e.args.map (substE [] b)=e.args:=by
  conv=>rhs;rw [← List.map_id e.args]
  exact List.map_congr_left fun a ha=>ih a ha (h.arg ha)
 rw [this,mk_self]
theorem noE_item (a:Str) (i:Nat):NoE (itemE a i):=NoE.mk (fun _=>by simp [elemS]) (by simp)
theorem noE_const (n:Int):NoE (constE n):=NoE.mk (by omega) (by simp)
theorem noE_sum (a:Str):∀ k,NoE (sumE a k)
 | 0=>noE_item a 0
 | k+1=>NoE.mk (by omega) (by
  intro x hx
  simp only [List.mem_cons,List.not_mem_nil,or_false] at hx
  rcases hx with rfl|rfl
  · exact noE_sum a k
  · exact noE_item _ _)
theorem noE_ifs (a:Str) {idx:Ex} (hi:NoE idx) (n:Nat):∀ k,NoE (ifsE a idx n k)
 | 0=>noE_const 0
 | k+1=>NoE.mk (by omega) (by
  intro x hx
  simp only [List.mem_cons,List.not_mem_nil,or_false] at hx
  rcases hx with rfl|rfl|rfl
  · refine NoE.mk (by omega) fun y hy=>?_
    simp only [List.mem_cons,List.not_mem_nil,or_false] at hy
    rcases hy with rfl|rfl
    · exact hi
    · exact noE_const _
  · exact noE_item _ _
  · exact noE_ifs a hi n k)
theorem noE_sc (l:List Var):∀ e,NodesOk e→NoE (scE l e):=by
 refine Ex.ind fun e ih hn=>?_
 have hs:∀ x∈e.args.map (scE l),NoE x:=by
  intro x hx
  obtain⟨a,ha,rfl⟩:=List.mem_map.1 hx
  exact ih a ha (hn.arg ha)
 rw [scE_eq]
 split
 · exact noE_sum _ _
 split
 · have:NoE (headE (e.args.map (scE l))):=by
    cases hm:e.args.map (scE l) with
    | nil=>exact noE_const 0
    | cons x r=>exact hs x (by rw [hm];simp)
   unfold chainE
   split
   · split
     · exact noE_item _ _
     · exact noE_const _
   · exact noE_ifs _ this _ _
 · exact NoE.mk (fun h2=>varS_ne (by
    obtain⟨_,_,_,_,_,h,_⟩:=nodeE_zero hn.self
    exact h h2)) hs
section
variable {F:Flds} {b:Nat} {l:List Var}
def plans257:List (Nat×Sch×List Nat):=[(10,.step 0 [7,6,5] (.step 1 [7,6,5,3] (.step 2 [7,6,5,3] (.step 3 [7,6,5] (.step 4 [7,6,5] (.step 5 [7,6] (.step 6 [7] (.step 7 [] (.done)))))))),[])]
set_option maxHeartbeats 8000000 in
theorem choice257 (hag:Agree F l) (a:Str) (hna:nameS a=true) (ha:a.length≤1000) (x:Ex) (hs:Slim x) (hne:NoE x) (hx:x.op=1→0≤x.n) (H:List Blk) (T:List (Option Nat)) (hm:MapF H b F) :
 ACall Tryz.prog GG 257 [.map b,.str a,.agg (encE x)] ⟨H,T⟩ (fun r σ'=>r=.agg (encE (chainE a x (sizeA l a)))∧∃ t,σ'=⟨H++t,T⟩):=by
 refine ACall.up ?_
 refine ACall.kO ⟨false,plans257,[],[]⟩ mixed Tryz.func257 rfl (by kernel_rfl) ?_
 obtain⟨es,clk,hb,hkv⟩:=hm
 have lk:=fun (H':List Blk) (T':List (Option Nat)) (b:Nat) (s:Str) (ok:Bool) (h:H'[b]?=some (.map es clk))=>look147 hkv (T:=T') h s ok
 have hagn:=hag a hna
 have h8:=sizeA_le l a
 generalize sizeA l a=n at hagn h8 ⊢
 by_cases c1:x.op=1
 · by_cases c2:x.n<n
   · have hr:chainE a x n=itemE a x.n.toNat:=by unfold chainE;rw [if_pos c1,if_pos c2]
     rw [hr]
     have h0:=hx c1
     obtain⟨m,hmm⟩:=Int.eq_ofNat_of_zero_le h0
     rw [hmm] at c2
     have hv1:=element256 a m (by omega) ha
     simp only [encE_eq x]
     simp [-acells,-fin,-fin1,-fin2,-pl1,-pl2,-plain,-AV.atom,-getElem?_pos,c1,hmm,c2,lk,look_app hb,hagn]
     simp only [encE_eq (itemE a m)] at hv1
     refine kCall.call hv1 rfl ?_
     simp [-acells,-fin,-fin1,-fin2,-pl1,-pl2,-plain,-AV.atom,-getElem?_pos]
     rw [encE_eq (itemE a m)]
     exact LeqL.refl _
   · have hr:chainE a x n=constE 0:=by unfold chainE;rw [if_pos c1,if_neg c2]
     rw [hr]
     simp only [encE_eq x]
     simp [-acells,-fin,-fin1,-fin2,-pl1,-pl2,-plain,-AV.atom,-getElem?_pos,c1,c2,lk,look_app hb,hagn]
     simp [encE_eq,constE,Leq,LeqL]
 · have hr:chainE a x n=ifsE a x n n:=by unfold chainE;rw [if_neg c1]
   rw [hr]
   have hcp:=copied250 x hs
   rw [subst_noE x hne] at hcp
   have w0:IntKind.i64.wrap ((n:Int)-1)=(n:Int)-1:=wr (by omega) (by omega)
   simp only [encE_eq x] at hcp ⊢
   simp [-acells,-fin,-fin1,-fin2,-pl1,-pl2,-plain,-AV.atom,-getElem?_pos,c1,lk,look_app hb,hagn,w0]
   refine kLoop.count n (fun q ev σ=>ev 1=.str a∧ev 5=.ptr H.length 0∧ev 6=.ptr (H.length+1) 0∧ev 7=.ptr (H.length+2) 0∧ev 8=.int .i64 ((n:Int)-1-q)∧∃ t y,σ=⟨H++.cells (encE x)::.cells [.int .i64 0,.int .i64 0,.str [],.sl 0 [] .nil]::.cells y::t,T⟩∧LeqL y (encE (ifsE a x n q))∧y.length=4∧y.all AV.atom=true) ?_ ?_ ?_
   · exact⟨by simp,by simp,by simp,by simp,by simp,[],_,by simp [encE_eq x];rfl,by simp [ifsE,constE,encE_eq,LeqL,Leq],by simp,by simp⟩
   · rintro q ev σ hq ⟨h1,h5,h6,h7,h8',t,y,rfl,hy,hyl,hya⟩
     have hp:(q:Int)≤(n:Int)-1:=by omega
     have hi:((n:Int)-1-q)=((n-1-q:Nat):Int):=by omega
     have hv1:=element256 a (n-1-q) (by omega) ha
     have w1:IntKind.i64.wrap ((n:Int)-1-q-1)=(n:Int)-1-(q+1:Nat):=by rw [wr (by omega) (by omega)];omega
     match y,hyl with
     | [y0,y1,y2,y3],_=>
      simp only [List.all_cons,List.all_nil,Bool.and_true,Bool.and_eq_true] at hya
      simp [-acells,-fin,-fin1,-fin2,-pl1,-pl2,-plain,-AV.atom,-getElem?_pos,h1,h5,h6,h7,h8',hp,encE_eq x]
      refine kCall.call hcp (by simp) ?_
      simp [-acells,-fin,-fin1,-fin2,-pl1,-pl2,-plain,-AV.atom,-getElem?_pos,h1,h5,h6,h7,h8',hp,encE_eq x]
      rw [kC_plan rfl]
      simp [-acells,-fin,-fin1,-fin2,-pl1,-pl2,-plain,-AV.atom,-getElem?_pos,clsB,clsA,h1,h5,h6,h7,h8',hp,encE_eq x]
      rw [hi]
      simp only [encE_eq (itemE a _)] at hv1
      refine kCall.call hv1 rfl ?_
      simp [-acells,-fin,-fin1,-fin2,-pl1,-pl2,-plain,-AV.atom,-getElem?_pos,h1,h5,h6,h7,h8',hp,encE_eq x,hya,w1]
      refine⟨_,_,⟨rfl,rfl⟩,?_,rfl,by simp [hya]⟩
      have h1:LeqL [.int .i64 15,.int .i64 0,.str [],.sl 4 [[.int .i64 x.op,.int .i64 x.n,.str x.name,.sl 4 (x.args.map encE) .none],[.int .i64 1,.int .i64 ((n-1-q:Nat):Int),.str [],.sl 0 [] .nil]] .tight] (encE (.mk 15 0 [] [x,constE ((n-1-q:Nat):Int)])):=by
       simp [encE_eq (Ex.mk _ _ _ _),constE,encE_eq x,LeqL,Leq,LeqR]
      have h2:=(encE_eq (itemE a (n-1-q))).symm
      rw [ifsE,encE_eq (Ex.mk 22 _ _ _)]
      simp only [Ex.op_mk,Ex.n_mk,Ex.name_mk,Ex.args_mk,List.map_cons,List.map_nil]
      simp only [LeqL,Leq,LeqR,and_true,true_and]
      rw [h2]
      right
      exact⟨⟨.inr ⟨h1,encE_atoms _⟩,.inl rfl,.inr ⟨hy,encE_atoms _⟩⟩,.inl trivial⟩
   · rintro ev σ ⟨h1,h5,h6,h7,h8',t,y,rfl,hy,hyl,hya⟩
     match y,hyl with
     | [y0,y1,y2,y3],_=>
      simp only [List.all_cons,List.all_nil,Bool.and_true,Bool.and_eq_true] at hya
      have hneg:¬ (n:Int)≤(n:Int)-1:=by omega
      simp [-acells,-fin,-fin1,-fin2,-pl1,-pl2,-plain,-AV.atom,-getElem?_pos,h1,h5,h6,h7,h8',hneg,hya]
      exact hy
end
end
section
def plans189:List (Nat×Sch×List Nat):=[(6,.step 0 [7,6,5] (.step 1 [7,6,5,4,2] (.step 2 [7,6,5,4] (.step 3 [7,6,5,4] (.step 4 [7,6,5] (.step 5 [7,6] (.step 6 [7] (.step 7 [] (.done)))))))),[]),(15,.step 0 [7,6] (.step 1 [7,6,2] (.step 2 [7,6] (.step 3 [7,6,5,4] (.step 4 [7,6,5] (.step 5 [7,6] (.step 6 [7] (.step 7 [] (.done)))))))),[6])]
section
variable {F:Flds} {b:Nat} {l:List Var}
set_option maxHeartbeats 16000000 in
theorem scalar189 (hag:Agree F l):∀ e,NodesOk e→unkB l e=false→∀ (H:List Blk) (T:List (Option Nat)),MapF H b F →
 ACall Tryz.prog GG 189 [.map b,.agg (encE e)] ⟨H,T⟩ (fun r σ'=>r=.agg (encE (scE l e))∧Ext ⟨H,T⟩ σ'):=by
 refine Ex.ind fun e ih hn hu H T hm=>?_
 refine ACall.up ?_
 refine ACall.kO ⟨false,plans189,[],[]⟩ mixed Tryz.func189 rfl (by kernel_rfl) ?_
 have hm0:=hm
 obtain⟨es,clk,hb,hkv⟩:=hm
 have lk:=fun (H':List Blk) (T':List (Option Nat)) (b:Nat) (s:Str) (ok:Bool) (h:H'[b]?=some (.map es clk))=>look147 hkv (T:=T') h s ok
 have hnl:=name_le hn
 have h33:=args_le hn
 have h8:=sizeA_le l e.name
 by_cases c24:e.op=24
 · have hagn:=hag e.name (node_name hn (.inr c24))
   have hs:=unk1_size (unkB_self hu) (.inr c24)
   have x:scE l e=sumE e.name (sizeA l e.name-1):=by rw [scE_eq,if_pos c24]
   rw [x]
   generalize sizeA l e.name=n at *
   have hv0:=element256 e.name 0 (by omega) hnl
   simp only [encE_eq (itemE _ _)] at hv0
   simp [-acells,-fin,-fin1,-fin2,-pl1,-pl2,-plain,-AV.atom,-getElem?_pos,encE_eq e,c24]
   refine kCall.call hv0 rfl ?_
   simp [-acells,-fin,-fin1,-fin2,-pl1,-pl2,-plain,-AV.atom,-getElem?_pos]
   refine kLoop.count (n-1) (fun q ev σ=>ev 0=.map b∧ev 3=.ptr H.length 0∧ev 4=.ptr (H.length+1) 0∧ev 5=.ptr (H.length+2) 0∧ev 6=.int .i64 ((q+1:Nat):Int)∧∃ t y,σ=⟨H++.cells [.int .i64 24,.int .i64 e.n,.str e.name,.sl 4 (e.args.map encE) .none]::.cells [.int .i64 0,.int .i64 0,.str [],.sl 0 [] .nil]::.cells y::t,T⟩∧LeqL y (encE (sumE e.name q))∧y.length=4∧y.all AV.atom=true) ?_ ?_ ?_
   · exact⟨by simp,by simp,by simp,by simp,by simp,[],_,by simp;rfl,by simp [sumE,encE_eq (itemE _ _),LeqL.refl],by simp,by simp⟩
   · rintro q ev σ hq ⟨h0,h3,h4,h5,h6,t,y,rfl,hy,hyl,hya⟩
     match y,hyl with
     | [y0,y1,y2,y3],_=>
      simp only [List.all_cons,List.all_nil,Bool.and_true,Bool.and_eq_true] at hya
      have hlt:((q+1:Nat):Int)<n:=by omega
      have hv1:=element256 e.name (q+1) (by omega) hnl
      simp only [encE_eq (itemE _ _)] at hv1
      have hb3:∀ t:List Blk,(H++t)[b]?=some (.map es clk):=fun t=>look_app hb t
      generalize hQ:((q+1:Nat):Int)=Q at *
      simp [-acells,-fin,-fin1,-fin2,-pl1,-pl2,-plain,-AV.atom,-getElem?_pos,h0,h3,h4,h5,h6,lk,hb3,hagn,hlt]
      rw [kC_plan rfl]
      simp [-acells,-fin,-fin1,-fin2,-pl1,-pl2,-plain,-AV.atom,-getElem?_pos,clsB,clsA,h0,h3,h4,h5,h6,lk,hb3,hagn,hlt]
      refine kCall.call hv1 rfl ?_
      have hw:IntKind.i64.wrap (Q+1)=((q+1+1:Nat):Int):=by rw [wr (by omega) (by omega)];omega
      simp [-acells,-fin,-fin1,-fin2,-pl1,-pl2,-plain,-AV.atom,-getElem?_pos,clsB,clsA,h0,h3,h4,h5,h6,hya,hw]
      refine⟨_,_,⟨rfl,rfl⟩,?_,rfl,by simp⟩
      have h2:=(encE_eq (itemE e.name (q+1))).symm
      rw [sumE,encE_eq (Ex.mk 7 _ _ _)]
      simp only [Ex.op_mk,Ex.n_mk,Ex.name_mk,Ex.args_mk,List.map_cons,List.map_nil]
      simp only [LeqL,Leq,LeqR,and_true,true_and]
      rw [h2]
      right
      exact⟨⟨.inr ⟨hy,encE_atoms _⟩,.inl rfl⟩,.inl trivial⟩
   · rintro ev σ ⟨h0,h3,h4,h5,h6,t,y,rfl,hy,hyl,hya⟩
     match y,hyl with
     | [y0,y1,y2,y3],_=>
      simp only [List.all_cons,List.all_nil,Bool.and_true,Bool.and_eq_true] at hya
      have hlt:¬ ((n-1+1:Nat):Int)<n:=by omega
      have hb3:∀ t:List Blk,(H++t)[b]?=some (.map es clk):=fun t=>look_app hb t
      generalize hQ:((n-1+1:Nat):Int)=Q at *
      simp [-acells,-fin,-fin1,-fin2,-pl1,-pl2,-plain,-AV.atom,-getElem?_pos,h0,h3,h4,h5,h6,lk,hb3,hagn,hlt,hya]
      exact⟨_,by simpa [Leq] using hy,rfl,Ext.push⟩
 · have hsl:∀ a∈e.args,Slim (scE l a):=fun a ha=>slim_sc l a (hn.arg ha)
   have hco:∀ a∈e.args,(scE l a).op=1→0≤(scE l a).n:=fun a ha=>sc_const (hn.arg ha) (unkB_arg hu ha)
   have hne:∀ a∈e.args,NoE (scE l a):=fun a ha=>noE_sc l a (hn.arg ha)
   simp [-acells,-fin,-fin1,-fin2,-pl1,-pl2,-plain,-AV.atom,-getElem?_pos,encE_eq e,c24]
   refine kLoop.listR e.args (fun d ev σ=>ev 0=.map b∧ev 3=.ptr H.length 0∧ev 4=.ptr (H.length+1) 0∧ev 33=.sl 4 (e.args.map encE) .none∧ev 34=.int .i64 e.args.length∧ev 35=.int .i64 d.length ∧
    ∃ t T',σ=⟨H++.cells [.int .i64 e.op,.int .i64 e.n,.str e.name,.sl 4 (e.args.map encE) .none]::.cells [.int .i64 0,.int .i64 0,.str [],.sl 0 [] .nil]::t,T'⟩∧T <+: T'∧OutAt T.length 4 encE T' (ev 7) (d.map (scE l))) ?_ ?_ ?_
   · exact⟨by simp,by simp,by simp,by simp,by simp,by simp,[],T,by simp,List.prefix_rfl,by simpa using OutAt.nil⟩
   · rintro d a r ev σ R hR hd hx hlt ⟨h0,h3,h4,h33',h34,h35,t,T',rfl,hT,ho⟩
     have ham:=List.mem_of_getElem? hx
     have hi:=fun (t:List Blk) (T':List (Option Nat))=>ih a ham (hn.arg ham) (unkB_arg hu ham) (H++t) T' hm0.app
     simp only [encE_eq a] at hi
     generalize hv7:ev 7=v7 at *
     simp [-acells,-fin,-fin1,-fin2,-pl1,-pl2,-plain,-AV.atom,-getElem?_pos,h0,h3,h4,h33',h34,h35,hlt,hx,encE_eq a]
     refine kCall.acall (by simpa using hi _ _) ?_
     rintro v ⟨H2,T2⟩ ⟨rfl,he⟩
     obtain⟨t2,u2,he⟩:=he
     simp only [St.mk.injEq] at he
     obtain⟨rfl,rfl⟩:=he
     have hT2:T <+: T'++u2:=hT.trans (List.prefix_append _ _)
     obtain⟨v',T3,happ,ho3,hT3⟩:=(ho.ext (List.prefix_append T' u2)).append (m:=[scE l a]) (tok:=.tight) hT2 D32 rfl D55 rfl (by omega) rfl (by decide) (by simp;omega) 4 (.inl rfl)
     simp only [List.map_cons,List.map_nil,encE_eq (scE l a)] at happ
     simp [-acells,-fin,-fin1,-fin2,-pl1,-pl2,-plain,-AV.atom,-getElem?_pos,hv7,encE_eq (scE l a),happ,h0,h3,h4,h33',h34,h35]
     refine hR _ _ ⟨by simp [h0],by simp [h3],by simp [h4],by simp [h33'],by simp [h34],by simp [h35];exact wr (by omega) (by omega),_,T3,by simp;rfl,hT3,?_⟩
     simpa using ho3
   · rintro ev σ ⟨h0,h3,h4,h33',h34,h35,t,T',rfl,hT,ho⟩
     have hac:=ho.acells
     have hat:=ho.atom
     have hle:=ho.leq
     have hhead:e.args≠[]→∀ i,i=0→∃ a,e.args[0]?=some a:=fun h _ _=>by
      cases hh:e.args with
      | nil=>exact absurd hh h
      | cons a r=>exact⟨a,by simp⟩
     by_cases c3:e.op=3
     · obtain⟨a,ha⟩:=args1 hn c3
       have ham:a∈e.args:=by rw [ha];simp
       have hch:=fun (t:List Blk) (T':List (Option Nat))=>choice257 hag e.name (node_name hn (.inl c3)) hnl (scE l a) (hsl a ham) (hne a ham) (hco a ham) (H++t) T' hm0.app
       have x:scE l e=chainE e.name (scE l a) (sizeA l e.name):=by rw [scE_eq,if_neg c24,if_pos c3,ha];rfl
       rw [x]
       generalize chainE e.name (scE l a) (sizeA l e.name)=Y at hch
       rw [ha] at ho h33' h34 h35
       obtain⟨tk,hv7⟩:∃ tk,ev 7=.sl 4 [encE (scE l a)] tk:=by
        rcases ho with ⟨h,_⟩|⟨_,t,_,h,_⟩
        · simp at h
        · exact⟨_,by simpa using h⟩
       simp only [encE_eq (scE l a)] at hv7 hch
       simp [-acells,-fin,-fin1,-fin2,-pl1,-pl2,-plain,-AV.atom,-getElem?_pos,h0,h3,h4,h33',h34,h35,hv7,c3]
       rw [kC_plan rfl]
       simp [-acells,-fin,-fin1,-fin2,-pl1,-pl2,-plain,-AV.atom,-getElem?_pos,clsB,clsA,h0,h3,h4,h33',h34,h35,hv7,c3]
       refine kCall.acall (by simpa using hch _ _) ?_
       rintro v σ' ⟨rfl,t2,rfl⟩
       simp [-acells,-fin,-fin1,-fin2,-pl1,-pl2,-plain,-AV.atom,-getElem?_pos,clsB,clsA,h0,h3,h4,encE_eq Y]
       refine⟨_,?_,rfl,?_⟩
       · simp [encE_eq Y,Leq,LeqL.refl]
       · exact Ext.pushT hT
     · have x:scE l e=.mk e.op e.n e.name (e.args.map (scE l)):=by rw [scE_eq,if_neg c24,if_neg c3]
       rw [x]
       generalize e.args.map (scE l)=R at *
       generalize hv7:ev 7=v7 at *
       simp [-acells,-fin,-fin1,-fin2,-pl1,-pl2,-plain,-AV.atom,-getElem?_pos,h0,h3,h4,h33',h34,h35,hv7,c3,hac,hat]
       refine⟨_,?_,rfl,Ext.pushT hT⟩
       simpa [encE_eq (Ex.mk _ _ _ _),Leq,LeqL] using hle
end
end
theorem varF_has {c:Cls} (h:ClsOk c) {s:Str} (hz:varF (fldsOf c) s=0):hasV (varsC c) s=true:=by
 unfold varF at hz
 cases hF:fldsOf c s with
 | some n=>
  rw [hF] at hz
  obtain⟨f,hf,rfl,rfl⟩:=fldsOf_some hF
  have hk:=fieldE_zero (h.fields f hf)
  have:f.size=0:=by
   have:=hk.s0
   simp only at hz
   split at hz
   · cases hz
   · omega
  exact (hasV_name h hk.name).2 ⟨f,hf,rfl,this⟩
 | none=>
  rw [hF] at hz
  simp only at hz
  cases he:elemO s with
  | none=>rw [he] at hz;cases hz
  | some p=>
   obtain⟨a,i⟩:=p
   rw [he] at hz
   simp only at hz
   have hel:=elemO_some.1 he
   cases hFa:fldsOf c a with
   | none=>rw [hFa] at hz;cases hz
   | some n=>
    rw [hFa] at hz
    obtain⟨f,hf,rfl,rfl⟩:=fldsOf_some hFa
    simp only at hz
    rw [hel.2.2]
    refine (hasV_elem h hel.2.1 hel.1).2 ⟨f,hf,rfl,?_⟩
    split at hz
    · cases hz
    · split at hz
      · cases hz
      · omega
theorem arrF_size {c:Cls} (h:ClsOk c) {s:Str} (hn:nameS s=true) (hz:arrF (fldsOf c) s=0):sizeA (varsC c) s≠0:=by
 unfold arrF at hz
 have hs:=size_flds h hn
 cases hF:fldsOf c s with
 | none=>rw [hF] at hz;cases hz
 | some n=>
  rw [hF] at hz hs
  simp only [Option.getD_some] at hz hs
  split at hz
  · cases hz
  · omega
theorem exprF_unk {c:Cls} (h:ClsOk c) {e:Ex} (hn:NodesOk e) (hz:exprF (fldsOf c) [] e=0):unkB (varsC c) e=false:=by
 unfold unkB
 rw [List.any_eq_false]
 intro x hx hu
 have h0:nodeF (fldsOf c) [] x=0:=firstE_zero.1 hz x hx
 unfold nodeF at h0
 unfold unk1 at hu
 have hnx:nodeE x=0:=hn x hx
 obtain⟨_,_,_,_,_,_,hnm,_⟩:=nodeE_zero hnx
 by_cases k2:x.op=2
 · rw [if_pos k2,if_neg (by simp)] at h0
   have:=varF_has h h0
   have k3:¬ (x.op=3∨x.op=24):=by omega
   rw [this] at hu
   simp [k3] at hu
 · rw [if_neg k2] at h0
   by_cases k3:x.op=3∨x.op=24
   · rw [if_pos k3] at h0
     have:=arrF_size h (hnm k3) h0
     simp [k2,this] at hu
   · simp [k2,k3] at hu
noncomputable def scalarX (F:Flds) (l:List Var) (e:Ex):Ex:=if scalarE F l e=0 then scE l e else zEx
set_option maxHeartbeats 8000000 in
theorem scalar116 (e:Ex) (c:Cls) (hc:ClsOk c) (hwe:Wen e) (hsz:(pre e).length≤100000):Pure Tryz.prog GG 116 [.agg (encE e),.agg (encCls c)] (.tup [.agg (encE (scalarX (fldsOf c) (varsC c) e)),.int .i64 (scalarE (fldsOf c) (varsC c) e)]):=by
 refine Pure.k mixed Tryz.func116 rfl (by kernel_rfl) ?_
 have hhg:=hgt_pre e
 have hva:=valid88 e hwe (by omega)
 have hr:scalarE (fldsOf c) (varsC c) e=if validE e≠0 then validE e else if exprF (fldsOf c) [] e≠0 then exprF (fldsOf c) [] e else if 400<(extE (varsC c) e).1 then 2 else if validE (scE (varsC c) e)≠0 then 2 else 0:=rfl
 have hX:scalarX (fldsOf c) (varsC c) e=if scalarE (fldsOf c) (varsC c) e=0 then scE (varsC c) e else zEx:=rfl
 have hof:=fun σ=>of103 c (by have:=hc.nf;unfold Fits;omega) σ
 have hag:Agree (fldsOf c) (varsC c):=fun a ha=>size_flds hc ha
 generalize scalarX (fldsOf c) (varsC c) e=X at hX
 generalize scalarE (fldsOf c) (varsC c) e=r at hr hX
 simp only [encCls] at hof
 simp only [encE_eq e] at hva
 have hzr:∀ q:Int,r=q→q≠0→X=zEx:=fun q e1 e2=>by rw [hX,if_neg (by omega)]
 simp [-acells,-fin,-fin1,-fin2,-pl1,-pl2,-plain,-AV.atom,-getElem?_pos,encE_eq e]
 refine kCall.call hva (by simp) ?_
 by_cases h1:validE e=0
 · rw [if_neg (by simp [h1])] at hr
   have hn:=validE_nodes h1
   simp [-acells,-fin,-fin1,-fin2,-pl1,-pl2,-plain,-AV.atom,-getElem?_pos,h1]
   refine kCall.acall (by simpa using hof _) ?_
   rintro v ⟨H1,T1⟩ ⟨mb,rfl,hm,he1⟩
   have b0:H1[0]?=some (.cells (encE e)):=he1.at (by simp [encE_eq e])
   have b2:H1[2]?=some (.cells [.int .i64 0,.int .i64 0,.str [],.sl 0 [] .nil]):=he1.at (by simp)
   have hx:=expression187 (F:=fldsOf c) (b:=mb) (H:=H1) (T:=T1) e [] hwe (by omega) hn (by simp) hm
   simp only [encE_eq e] at b0 hx
   simp [-acells,-fin,-fin1,-fin2,-pl1,-pl2,-plain,-AV.atom,-getElem?_pos,b0]
   refine kCall.acall (hx.leq (by simp [LeqL,Leq])) ?_
   rintro v ⟨H2,T2⟩ ⟨rfl,he2⟩
   have c0:=he2.at b0
   have c2:=he2.at b2
   have hm2:=hm.ext he2
   have sc2:=fun (y:Blk) (t:List Blk)=>set_look (y:=y) (t:=t) c2
   have sc2':∀ y:Blk,(H2.set 2 y)[2]?=some y:=fun y=>by have:=set_look (y:=y) (t:=[]) c2;simpa using this
   by_cases h2:exprF (fldsOf c) [] e=0
   · rw [if_neg (by simp [h2])] at hr
     have hu:=exprF_unk hc hn h2
     have hs:=size188 hag e hwe hn hu H2 T2 hm2
     simp only [encE_eq e] at hs
     simp [-acells,-fin,-fin1,-fin2,-pl1,-pl2,-plain,-AV.atom,-getElem?_pos,h2,c0]
     refine kCall.acall hs ?_
     rintro v σ' ⟨rfl,t3,rfl⟩
     by_cases h3:400<(extE (varsC c) e).1
     · rw [if_pos h3] at hr
       have hx0:=hzr 2 hr (by decide)
       subst hr
       subst hx0
       simp [-acells,-fin,-fin1,-fin2,-pl1,-pl2,-plain,-AV.atom,-getElem?_pos,h3,look_app c2,set_left c2,sc2,zEx,encE_eq (Ex.mk _ _ _ _)]
     · rw [if_neg h3] at hr
       obtain⟨w1,w2,w3⟩:=sc_wen hn hu h3
       have hsc:=fun (t:List Blk)=>scalar189 hag e hn hu (H2++t) T2 hm2.app
       have hvs:=valid88 (scE (varsC c) e) w1 (by omega)
       simp only [encE_eq e] at hsc
       simp [-acells,-fin,-fin1,-fin2,-pl1,-pl2,-plain,-AV.atom,-getElem?_pos,h3,look_app c0]
       refine kCall.acall (hsc _) ?_
       rintro v ⟨H4,T4⟩ ⟨rfl,he4⟩
       have d2:=he4.at (look_app c2 _)
       have sd2:=fun (y:Blk) (t:List Blk)=>set_look (y:=y) (t:=t) d2
       generalize scE (varsC c) e=Y at *
       simp only [encE_eq Y] at hvs
       simp [-acells,-fin,-fin1,-fin2,-pl1,-pl2,-plain,-AV.atom,-getElem?_pos,encE_eq Y,d2,look_app d2]
       refine kCall.call hvs (by simp) ?_
       by_cases h4:validE Y=0
       · rw [if_neg (by simp [h4])] at hr
         subst hr
         rw [if_pos rfl] at hX
         subst hX
         simp [-acells,-fin,-fin1,-fin2,-pl1,-pl2,-plain,-AV.atom,-getElem?_pos,encE_eq X,h4,look_app d2,set_left d2,sd2]
       · rw [if_pos h4] at hr
         have hx0:=hzr 2 hr (by decide)
         subst hr
         subst hx0
         simp [-acells,-fin,-fin1,-fin2,-pl1,-pl2,-plain,-AV.atom,-getElem?_pos,encE_eq Y,h4,look_app d2,set_left d2,sd2,zEx,encE_eq (Ex.mk _ _ _ _)]
   · rw [if_pos h2] at hr
     have hx0:=hzr _ hr h2
     subst hr
     subst hx0
     simp [-acells,-fin,-fin1,-fin2,-pl1,-pl2,-plain,-AV.atom,-getElem?_pos,h2,c2,set_left c2,sc2',zEx,encE_eq (Ex.mk _ _ _ _)]
 · rw [if_pos h1] at hr
   have hx0:=hzr _ hr h1
   subst hr
   subst hx0
   simp [-acells,-fin,-fin1,-fin2,-pl1,-pl2,-plain,-AV.atom,-getElem?_pos,h1,zEx,encE_eq (Ex.mk _ _ _ _)]
end Go.Proofs.YtpgcmnabljandaaGreatDoor
end
