/- A part of the proof: Walk88 Walk87 Walk89. -/
import Derived.Test.YtpgcmnabljandaaGreatDoorGa45
import Derived.Test.YtpgcmnabljandaaGreatDoorGa29
import Derived.Test.YtpgcmnabljandaaGreatDoorGa44
import Derived.Test.YtpgcmnabljandaaGreatDoorGa28
set_option linter.unusedVariables false
set_option linter.unusedSimpArgs false
set_option maxRecDepth 100000
section
namespace Go.Proofs.YtpgcmnabljandaaGreatDoor
open Go Go.Abs
section
theorem KpL.setF {H H':List Blk} {b:Nat} {y:Blk} (h:KpL [] H H') (hb:H.length≤b):KpL [] H (H'.set b y):=⟨by rw [List.length_set];exact h.1,fun k x hk hn=>by
 have:=(List.getElem?_eq_some_iff.1 hk).1
 rw [List.getElem?_set_ne (by omega)];exact h.2 k x hk hn⟩
theorem filter_one {α:Type} {f:α→Nat}:∀ (l:List α) (e:α),(l.map f).Nodup→e∈l→(l.filter fun x=>!(f x==f e)).length+1=l.length
 | [],e,_,he=>by cases he
 | a::l,e,hn,he=>by
  simp only [List.map_cons,List.nodup_cons] at hn
  rcases List.mem_cons.1 he with rfl|he
  · have:l.filter (fun x=>!(f x==f e))=l:=List.filter_eq_self.2 fun x hx=>by
     have:f x≠f e:=fun h=>hn.1 (by rw [← h];exact List.mem_map.2 ⟨x,hx,rfl⟩)
     simpa using this
    simp [this]
  · have h1:f a≠f e:=fun h=>hn.1 (by rw [h];exact List.mem_map.2 ⟨e,he,rfl⟩)
    have:=filter_one l e hn.2 he
    simp [h1]
    simpa using this
theorem left_len {es:List (AV×AV×Nat)} {seen:List Nat} {e:AV×AV×Nat} (hst:(es.map (·.2.2)).Nodup) (he:e∈leftE es seen):(leftE es (seen++[e.2.2])).length+1=(leftE es seen).length:=by
 have h:leftE es (seen++[e.2.2])=(leftE es seen).filter fun x=>!(x.2.2==e.2.2):=by
  unfold leftE
  rw [List.filter_filter]
  apply List.filter_congr
  intro x _
  by_cases q:x.2.2=e.2.2<;>simp [q]
 rw [h]
 refine filter_one (f:=fun x:AV×AV×Nat=>x.2.2) _ e ?_ he
 exact List.Nodup.sublist (List.Sublist.map _ List.filter_sublist) hst
theorem succs_mem {E:List (Int×Int)} {i k:Int} (h:k∈succs E i):(i,k)∈E:=by
 unfold succs at h
 obtain⟨e,he,rfl⟩:=List.mem_map.1 h
 obtain⟨h1,h2⟩:=List.mem_filter.1 he
 have:e.1=i:=by simpa using h2
 subst this;exact h1
theorem mem_succs {E:List (Int×Int)} {e:Int×Int} (h:e∈E):e.2∈succs E e.1:=List.mem_map.2 ⟨e,List.mem_filter.2 ⟨h,by simp⟩,rfl⟩
theorem inRel_l {E:List (Int×Int)} {e:Int×Int} (h:e∈E):inRel E e.1=true∧inRel E e.2=true:=⟨List.any_eq_true.2 ⟨e,h,by simp⟩,List.any_eq_true.2 ⟨e,h,by simp⟩⟩
theorem recs_stamps {E:List (Int×Int)} {R:List Rec}:(R.map (recE E)).map (·.2.2)=R.map Rec.stamp:=by rw [List.map_map];rfl
theorem lrecs_stamps {L:List LRec}:(L.map lrecE).map (·.2.2)=L.map LRec.stamp:=by rw [List.map_map];rfl
theorem seen_snoc {R:List Rec} {seen:List Nat} {r r':Rec} (hn:(R.map Rec.stamp).Nodup) (hr:r∈R) (hr':r'∈R) (h:r'.stamp∈seen++[r.stamp]):r'.stamp∈seen∨r'=r:=by
 rcases List.mem_append.1 h with h|h
 · exact .inl h
 · simp at h
   obtain⟨i,hi⟩:=List.getElem?_of_mem hr
   obtain⟨j,hj⟩:=List.getElem?_of_mem hr'
   have:=nodup_at hn hi hj h.symm
   subst this
   rw [hi] at hj
   cases hj
   exact .inr rfl
def lvF (L:List LRec) (i:Int):Int:=(valL L i).getD 0
theorem D162x2:∃ x,Dof Tryz.prog 162=some x∧x.d=.map 3 3:=⟨_,D162,rfl⟩
theorem D3x2:∃ x,Dof Tryz.prog 3=some x∧x.d=.int .i64∧x.zv=.int .i64 0:=⟨_,D3,rfl,rfl⟩
section
variable {T0:List (Option Nat)} {B vb m:Nat} {c:Cls} {V:List Var}
set_option maxHeartbeats 16000000 in
theorem levels113 (hl:V.length≤1000) {D:List Dist} {E:List (Int×Int)} {td:Nat} {R:List Rec} {clk:Nat} (hE:E.length≤1000000000) (hb:Below E V.length) (H:List Blk) (T:List (Option Nat)) (h:BX T0 B vb m c V ⟨H,T⟩ D E td R clk) :
 ACall Tryz.prog GG 113 [.ptr B 0] ⟨H,T⟩ (fun r σ'=>σ'.T=T∧KpL [] H σ'.H∧(if acyc E V.length=true then ∃ b L clk',r=.tup [.map b,.bool true]∧H.length≤b∧σ'.H[b]?=some (.map (L.map lrecE) clk')∧LvOk L clk'∧∀ i,valL L i=if inRel E i=true then some (chainL E V.length i:Int) else none
  else r=.tup [.nilm,.bool false])):=by
 refine ACall.k mixed Tryz.func113 rfl (by kernel_rfl) ?_
 obtain⟨vv,dv,hc,hvv,hdv⟩:=h.cell
 have hm:=h.map
 have hstm:((R.map (recE E)).map (·.2.2)).Nodup:=by rw [recs_stamps];exact h.after.stamps
 have hltm:∀ e∈R.map (recE E),e.2.2<clk:=fun e he=>by
  obtain⟨r,hr,rfl⟩:=List.mem_map.1 he
  exact h.after.lt r hr
 simp only at hc hm hvv
 have hRN:R.length≤V.length:=by
  have:=nodup_below V.length (R.map Rec.key) h.after.keys fun x hx=>by
   have:=(h.after.cover x).2 hx
   obtain⟨k,hk⟩:=List.exists_mem_of_ne_nil _ this
   exact (hb _ (succs_mem hk)).1
  simpa using this
 simp [-acells,-fin,-fin1,-fin2,-pl1,-pl2,-plain,-AV.atom,-getElem?_pos,look_app hc,look_app hm]
 refine kLoop.gen (fun n ev σ=>ev 0=.ptr B 0∧ev 4=.map H.length∧ev 19=.iter (H.length+1)∧σ.T=T∧KpL [] H σ.H∧∃ seen L clk',n=(leftE (R.map (recE E)) seen).length∧σ.H[H.length+1]?=some (.miter (some m) clk seen clk)∧σ.H[H.length]?=some (.map (L.map lrecE) clk')∧LvOk L clk' ∧
  (∀ i v,valL L i=some v→v=0∧inRel E i=true)∧∀ r∈R,r.stamp∈seen→(valL L r.key).isSome=true∧∀ k∈succs E r.key,(valL L k).isSome=true) (leftE (R.map (recE E)) []).length ?_ ?_
 · exact⟨by simp,by simp,by simp,rfl,KpL.app,[],[],0,rfl,by simp,by simp,LvOk.nil,by simp [valL],by simp⟩
 · rintro n ev ⟨H1,T1⟩ Rl hRl ⟨h0,h4,h19,hT,hkp,seen,L,clk1,rfl,hit,hlv,hok,hz,hdn⟩
   obtain rfl:T=T1:=hT.symm
   have hc1:=hkp.2 _ _ hc (by simp)
   have hm1:=hkp.2 _ _ hm (by simp)
   simp only at hit hlv hkp hc1 hm1
   have hnx:=nexts_map (T:=T) hit hm1 hltm
   simp [-acells,-fin,-fin1,-fin2,-pl1,-pl2,-plain,-AV.atom,-getElem?_pos,h0,h4,h19,hnx]
   refine kY_mem fun v τ hv=>?_
   rcases List.mem_append.1 hv with hv|hv
   · split at hv
     case isFalse=>cases hv
     rename_i hle
     have hall:=left_nil (es:=R.map (recE E)) (seen:=seen) (by rw [hle];rfl)
     simp at hv
     obtain⟨rfl,rfl⟩:=hv
     have hac:=hvv.acells
     have hlen:lenA (Dof Tryz.prog) ⟨H1,T⟩ 31 vv=some (.int .i64 V.length):=by
      rcases hvv with ⟨rfl,rfl⟩|⟨_,rfl,_⟩<;>simp
     have hwr:IntKind.i64.wrap ((V.length:Int)+1)=V.length+1:=wr (by omega) (by omega)
     have hsome:∀ i,(valL L i).isSome=inRel E i:=fun i=>by
      cases hi:valL L i with
      | some v=>rw [(hz i v hi).2];rfl
      | none=>
       cases hr:inRel E i with
       | false=>rfl
       | true=>
        exfalso
        obtain⟨e,he,h1⟩:=List.any_eq_true.1 hr
        obtain⟨r,hr,hre⟩:=List.mem_map.1 ((h.after.cover e.1).1 (List.ne_nil_of_mem (mem_succs he)))
        obtain⟨g1,g2⟩:=hdn r hr (hall _ (List.mem_map.2 ⟨r,hr,rfl⟩))
        rw [hre] at g1 g2
        have h3:=g2 e.2 (mem_succs he)
        rw [Bool.or_eq_true,beq_iff_eq,beq_iff_eq] at h1
        rcases h1 with rfl|rfl
        · rw [hi] at g1;cases g1
        · rw [hi] at h3;cases h3
     have hzero:lvF L=fun _=>0:=by
      funext i
      unfold lvF
      cases hi:valL L i with
      | none=>rfl
      | some v=>rw [(hz i v hi).1];rfl
     simp [-acells,-fin,-fin1,-fin2,-pl1,-pl2,-plain,-AV.atom,-getElem?_pos,-lenA,h0,h4,h19,hc1,hac,hlen,hwr]
     refine kLoop.count (V.length+1) (fun r ev σ=>ev 0=.ptr B 0∧ev 4=.map H.length∧ev 42=.int .i64 (V.length+1)∧ev 43=.int .i64 r∧σ.T=T∧KpL [] H σ.H∧∃ L clk',σ.H[H.length]?=some (.map (L.map lrecE) clk')∧LvOk L clk'∧(∀ i,(valL L i).isSome=inRel E i)∧Rnd E V.length r (lvF L)∧(∀ i,lvF L i≤r*1001000000000)∧(V.length<r→acyc E V.length=false)) ?_ ?_ ?_
     · exact⟨by simp [h0],by simp [h4],by simp,by simp,rfl,hkp,L,clk1,hlv,hok,hsome,by rw [hzero];exact Rnd.init _,fun i=>by rw [hzero];simp,fun h=>by omega⟩
     · clear h0 h4 h19 hkp hit hlv hc1 hm1 hok hz hdn hnx hall hle hsome hzero hlen hac
       rintro rn ev ⟨H2,T2⟩ hrn ⟨h0,h4,h42,h43,hT,hkp,L,clk1,hlv,hok,hsome,hrd,hbd,hlast⟩
       obtain rfl:T=T2:=hT.symm
       have hc1:=hkp.2 _ _ hc (by simp)
       have hm1:=hkp.2 _ _ hm (by simp)
       simp only at hlv hkp hc1 hm1
       have hrlt:(rn:Int)<V.length+1:=by omega
       simp [-acells,-fin,-fin1,-fin2,-pl1,-pl2,-plain,-AV.atom,-getElem?_pos,h0,h4,h42,h43,hc1,hm1,hrlt]
       have hrn1:rn≤1000:=by omega
       have hwr1:IntKind.i64.wrap ((rn:Int)+1)=(rn+1:Nat):=by rw [wr (by omega) (by omega)];omega
       have hH2:H.length<H2.length:=(List.getElem?_eq_some_iff.1 hlv).1
       have hmH:m<H.length:=(List.getElem?_eq_some_iff.1 hm).1
       refine kLoop.gen (fun n ev σ=>ev 0=.ptr B 0∧ev 4=.map H.length∧ev 42=.int .i64 (V.length+1)∧ev 43=.int .i64 rn∧ev 49=.iter H2.length∧σ.T=T∧KpL [] H σ.H∧∃ seen L clk' ch,n=(leftE (R.map (recE E)) seen).length∧ev 9=.bool ch∧σ.H[H2.length]?=some (.miter (some m) clk seen clk)∧σ.H[H.length]?=some (.map (L.map lrecE) clk')∧LvOk L clk'∧(∀ i,(valL L i).isSome=inRel E i) ∧
        Mid E V.length rn (fun _=>0) (fun e=>∃ q∈R,q.key=e.1∧q.stamp∈seen) (lvF L) ch∧seen.length+(leftE (R.map (recE E)) seen).length=R.length∧(∀ i,lvF L i≤rn*1001000000000+seen.length*1000000000)) (leftE (R.map (recE E)) []).length ?_ ?_
       · refine⟨by simp [h0],by simp [h4],by simp [h42],by simp [h43],by simp,rfl,hkp.trans KpL.app,[],L,clk1,false,rfl,by simp,by simp,look_app hlv _,hok,hsome,?_,?_,fun i=>by simpa using hbd i⟩
         · refine⟨hrd,fun e _ hd=>?_,fun _ e _ hd=>?_,fun _ _=>rfl⟩
           · obtain⟨q,_,_,hq⟩:=hd;cases hq
           · obtain⟨q,_,_,hq⟩:=hd;cases hq
         · rw [show leftE (R.map (recE E)) []=R.map (recE E) from List.filter_eq_self.2 fun _ _=>rfl];simp
       · clear h0 h4 h42 h43 hkp hlv hc1 hm1 hok hsome hrd hbd
         rintro n ev ⟨H3,T3⟩ Rl3 hRl3 ⟨h0,h4,h42,h43,h49,hT,hkp,seen,L,clk1,ch,rfl,h9,hit,hlv,hok,hsome,hmid,hsl,hbd⟩
         obtain rfl:T=T3:=hT.symm
         have hc1:=hkp.2 _ _ hc (by simp)
         have hm1:=hkp.2 _ _ hm (by simp)
         simp only at hlv hit hkp hc1 hm1
         have hnx:=nexts_map (T:=T) hit hm1 hltm
         simp [-acells,-fin,-fin1,-fin2,-pl1,-pl2,-plain,-AV.atom,-getElem?_pos,h0,h4,h49,hnx]
         refine kY_mem fun v τ hv=>?_
         rcases List.mem_append.1 hv with hv|hv
         · split at hv
           case isFalse=>cases hv
           rename_i hle
           have hall:=left_nil (es:=R.map (recE E)) (seen:=seen) (by rw [hle];rfl)
           simp at hv
           obtain⟨rfl,rfl⟩:=hv
           have hdall:∀ e∈E,∃ q∈R,q.key=e.1∧q.stamp∈seen:=fun e he=>by
            obtain⟨q,hq,hqe⟩:=List.mem_map.1 ((h.after.cover e.1).1 (List.ne_nil_of_mem (mem_succs he)))
            exact⟨q,hq,hqe,hall _ (List.mem_map.2 ⟨q,hq,rfl⟩)⟩
           cases ch with
           | false=>
            obtain⟨ha,hva⟩:=hmid.done hdall hb
            simp [-acells,-fin,-fin1,-fin2,-pl1,-pl2,-plain,-AV.atom,-getElem?_pos,h0,h4,h42,h43,h49,h9]
            refine⟨hkp,ha,L,clk1,hlv,hok,fun i=>?_⟩
            have h1:=hsome i
            have h2:=hva i
            unfold lvF at h2
            cases hvl:valL L i with
            | none=>rw [hvl] at h1;rw [if_neg (by rw [← h1];simp)]
            | some v=>rw [hvl] at h1 h2;rw [if_pos (by rw [← h1];rfl),← h2];rfl
           | true=>
            simp [-acells,-fin,-fin1,-fin2,-pl1,-pl2,-plain,-AV.atom,-getElem?_pos,h0,h4,h42,h43,h49,h9]
            refine⟨wr (by omega) (by omega),hkp,L,clk1,hlv,hok,hsome,hmid.next hdall,fun i=>?_,fun hl=>hmid.cyc (by omega)⟩
            have:=hbd i
            omega
         · obtain⟨e,he,hve⟩:=List.mem_map.1 hv
           obtain⟨hem,hns⟩:=left_mem he
           obtain⟨r,hr,rfl⟩:=List.mem_map.1 hem
           cases hve
           have hitn:H2.length<H3.length:=(List.getElem?_eq_some_iff.1 hit).1
           have hen:=entry_map (H:=H3.set H2.length (.miter (some m) clk (seen++[(recE E r).2.2]) clk)) (T:=T) (by rw [List.getElem?_set_self hitn]) (by rw [List.getElem?_set_ne (by omega)];exact hm1) hem hstm
           have hlv1:(H3.set H2.length (.miter (some m) clk (seen++[(recE E r).2.2]) clk))[H.length]?=some (.map (L.map lrecE) clk1):=by
            rw [List.getElem?_set_ne (by omega)];exact hlv
           simp only [recE] at hen hlv1 ⊢
           have hlen0:=left_len hstm he
           have hsl0:(succs E r.key).length≤1000000000:=Nat.le_trans (succs_len E r.key) hE
           simp [-acells,-fin,-fin1,-fin2,-pl1,-pl2,-plain,-AV.atom,-getElem?_pos,h0,h4,h42,h43,h49,h9,hen]
           generalize hsc:succs E r.key=sc at *
           refine kLoop.listR sc (fun d ev σ=>ev 0=.ptr B 0∧ev 4=.map H.length∧ev 42=.int .i64 (V.length+1)∧ev 43=.int .i64 rn∧ev 49=.iter H2.length∧ev 10=.int .i64 r.key∧ev 55=.sl 1 (sc.map encInt) (.chain r.tok sc.length)∧ev 56=.int .i64 sc.length∧ev 57=.int .i64 d.length∧σ.T=T∧KpL [] H σ.H∧σ.H[H2.length]?=some (.miter (some m) clk (seen++[r.stamp]) clk) ∧
            ∃ L clk' ch,ev 9=.bool ch∧σ.H[H.length]?=some (.map (L.map lrecE) clk')∧LvOk L clk'∧(∀ i,(valL L i).isSome=inRel E i)∧Mid E V.length rn (fun _=>0) (fun e=>(∃ q∈R,q.key=e.1∧q.stamp∈seen)∨(e.1=r.key∧e.2∈d)) (lvF L) ch∧(∀ i,lvF L i≤rn*1001000000000+seen.length*1000000000+d.length)) ?_ ?_ ?_
           · refine⟨by simp [h0],by simp [h4],by simp [h42],by simp [h43],by simp [h49],by simp,by simp,by simp,by simp,rfl,hkp.setF (by omega),?_,L,clk1,ch,by simp [h9],hlv1,hok,hsome,?_,fun i=>by simpa using hbd i⟩
             · show (List.set _ _ _)[_]?=_
               rw [List.getElem?_set_self hitn]
             · exact⟨hmid.rnd,fun e hee hd=>hmid.up e hee (hd.resolve_right fun h=>by simp at h),fun hc e hee hd=>hmid.same hc e hee (hd.resolve_right fun h=>by simp at h),hmid.last⟩
           · clear h0 h4 h42 h43 h49 h9 hkp hit hlv hc1 hm1 hok hsome hmid hbd hen hlv1 hnx hv
             rintro d k l ev ⟨H4,T4⟩ Rl4 hRl4 hd hx hlt ⟨h0,h4,h42,h43,h49,h10,h55,h56,h57,hT,hkp,hit,L,clk1,ch,h9,hlv,hok,hsome,hmid,hbd⟩
             obtain rfl:T=T4:=hT.symm
             simp only at hlv hit hkp
             have hkE:(r.key,k)∈E:=succs_mem (by rw [hsc];exact List.mem_of_getElem? hx)
             have hl1:=hok.look (T:=T) D162x2 D3x2 hlv r.key false
             have hl2:=hok.look (T:=T) D162x2 D3x2 hlv k false
             simp only [Bool.false_eq_true,if_false] at hl1 hl2
             rw [show (valL L r.key).getD 0=lvF L r.key from rfl] at hl1
             rw [show (valL L k).getD 0=lvF L k from rfl] at hl2
             have hbk:=hbd k
             have hnn:=hmid.rnd.nn k
             have hdl:d.length≤1000000000:=by omega
             have hsn:seen.length≤1000:=by omega
             have hw:IntKind.i64.wrap (lvF L k+1)=lvF L k+1:=wr (by omega) (by omega)
             have hdw:IntKind.i64.wrap ((d.length:Int)+1)=(d.length+1:Nat):=by rw [wr (by omega) (by omega)];omega
             by_cases hc:lvF L r.key≤lvF L k
             · obtain⟨L2,clk2,hu1,hu2,hu3⟩:=hok.upd D162x2 D3x2 r.key (lvF L k+1)
               have hu:=hu1 _ T _ hlv
               have hlf:lvF L2=fun j=>if j=r.key then lvF L k+1 else lvF L j:=by
                funext j
                unfold lvF
                rw [hu3]
                split<;>rfl
               simp [-acells,-fin,-fin1,-fin2,-pl1,-pl2,-plain,-AV.atom,-getElem?_pos,h0,h4,h42,h43,h49,h10,h55,h56,h57,h9,hlt,hx,encInt,hl1,hl2,hc,hw,hu,hdw]
               refine hRl4 _ _ ⟨by simp [h0],by simp [h4],by simp [h42],by simp [h43],by simp [h49],by simp [h10],by simp [h55],by simp [h56],by simp,rfl,hkp.setF (by omega),?_,L2,clk2,true,by simp,?_,hu2,fun i=>?_,?_,fun i=>?_⟩
               · show (List.set _ _ _)[_]?=_
                 rw [List.getElem?_set_ne (by omega)];exact hit
               · show (List.set _ _ _)[_]?=_
                 rw [List.getElem?_set_self (List.getElem?_eq_some_iff.1 hlv).1]
               · rw [hu3]
                 split
                 · rename_i e;subst e;rw [(inRel_l hkE).1];rfl
                 · exact hsome i
               · rw [hlf]
                 refine hmid.raise hkE hc fun x hx=>?_
                 rcases hx with hx|⟨h1,h2⟩
                 · exact .inl (.inl hx)
                 · rcases List.mem_append.1 h2 with h2|h2
                   · exact .inl (.inr ⟨h1,h2⟩)
                   · simp at h2;exact .inr (Prod.ext h1 h2)
               · rw [hlf,List.length_append,List.length_singleton]
                 show (if i=r.key then lvF L k+1 else lvF L i)≤_
                 have:=hbd i
                 split<;>omega
             · simp [-acells,-fin,-fin1,-fin2,-pl1,-pl2,-plain,-AV.atom,-getElem?_pos,h0,h4,h42,h43,h49,h10,h55,h56,h57,h9,hlt,hx,encInt,hl1,hl2,hc,hdw]
               refine hRl4 _ _ ⟨by simp [h0],by simp [h4],by simp [h42],by simp [h43],by simp [h49],by simp [h10],by simp [h55],by simp [h56],by simp,rfl,hkp,hit,L,clk1,ch,by simp [h9],hlv,hok,hsome,?_,fun i=>?_⟩
               · refine hmid.keep (e:=(r.key,k)) (by show lvF L k<lvF L r.key;omega) fun x hx=>?_
                 rcases hx with hx|⟨h1,h2⟩
                 · exact .inl (.inl hx)
                 · rcases List.mem_append.1 h2 with h2|h2
                   · exact .inl (.inr ⟨h1,h2⟩)
                   · simp at h2;exact .inr (Prod.ext h1 h2)
               · have:=hbd i
                 rw [List.length_append,List.length_singleton]
                 omega
           · clear h0 h4 h42 h43 h49 h9 hkp hit hlv hc1 hm1 hok hsome hmid hbd hen hlv1 hnx hv
             rintro ev ⟨H4,T4⟩ ⟨h0,h4,h42,h43,h49,h10,h55,h56,h57,hT,hkp,hit,L,clk1,ch,h9,hlv,hok,hsome,hmid,hbd⟩
             obtain rfl:T=T4:=hT.symm
             simp [-acells,-fin,-fin1,-fin2,-pl1,-pl2,-plain,-AV.atom,-getElem?_pos,h0,h4,h49,h56,h57]
             simp only [recE] at hlen0
             refine hRl3 _ _ _ ?_ ⟨h0,h4,h42,h43,h49,rfl,hkp,seen++[r.stamp],L,clk1,ch,rfl,h9,hit,hlv,hok,hsome,?_,?_,fun i=>?_⟩
             · omega
             · have hcv:∀ e:Int×Int,e∈E→(∃ q∈R,q.key=e.1∧q.stamp∈seen++[r.stamp])→(∃ q∈R,q.key=e.1∧q.stamp∈seen)∨(e.1=r.key∧e.2∈sc):=by
                rintro e hee ⟨q,hq,hqe,hqs⟩
                rcases seen_snoc h.after.stamps hr hq hqs with h1|rfl
                · exact .inl ⟨q,hq,hqe,h1⟩
                · refine .inr ⟨hqe.symm,?_⟩
                  rw [← hsc,hqe];exact mem_succs hee
               exact⟨hmid.rnd,fun e hee hd=>hmid.up e hee (hcv e hee hd),fun hc e hee hd=>hmid.same hc e hee (hcv e hee hd),hmid.last⟩
             · rw [List.length_append,List.length_singleton];omega
             · have:=hbd i
               rw [List.length_append,List.length_singleton]
               omega
     · clear h0 h4 h19 hkp hit hlv hc1 hm1 hok hz hdn hnx hall hle hsome hzero hlen hac
       rintro ev ⟨H2,T2⟩ ⟨h0,h4,h42,h43,hT,hkp,L,clk1,hlv,hok,hsome,hrd,hbd,hlast⟩
       obtain rfl:T=T2:=hT.symm
       have hlt:¬ ((V.length:Int)+1<V.length+1):=by omega
       simp [-acells,-fin,-fin1,-fin2,-pl1,-pl2,-plain,-AV.atom,-getElem?_pos,h0,h4,h42,h43]
       exact⟨hkp,hlast (by omega)⟩
   · obtain⟨e,he,hve⟩:=List.mem_map.1 hv
     obtain⟨hem,hns⟩:=left_mem he
     obtain⟨r,hr,rfl⟩:=List.mem_map.1 hem
     cases hve
     have hitn:(H.length+1)<H1.length:=(List.getElem?_eq_some_iff.1 hit).1
     have hbm:m≠H.length+1:=by
      have:=(List.getElem?_eq_some_iff.1 hm).1;omega
     have hen:=entry_map (H:=H1.set (H.length+1) (.miter (some m) clk (seen++[(recE E r).2.2]) clk)) (T:=T) (by rw [List.getElem?_set_self hitn]) (by rw [List.getElem?_set_ne (Ne.symm hbm)];exact hm1) hem hstm
     obtain⟨L2,clk2,hu1,hu2,hu3⟩:=hok.upd D162x2 D3x2 r.key 0
     have hlv1:(H1.set (H.length+1) (.miter (some m) clk (seen++[(recE E r).2.2]) clk))[H.length]?=some (.map (L.map lrecE) clk1):=by
      rw [List.getElem?_set_ne (by omega)];exact hlv
     have hu:=hu1 _ T _ hlv1
     simp only [recE] at hen hu hlv1 ⊢
     simp [-acells,-fin,-fin1,-fin2,-pl1,-pl2,-plain,-AV.atom,-getElem?_pos,h0,h4,h19,hen,hu]
     have hrel:inRel E r.key=true:=by
      obtain⟨k,hk⟩:=List.exists_mem_of_ne_nil _ ((h.after.cover r.key).2 (List.mem_map.2 ⟨r,hr,rfl⟩))
      exact (inRel_l (succs_mem hk)).1
     have hsl:(succs E r.key).length≤1000000000:=Nat.le_trans (succs_len E r.key) hE
     have hlen0:=left_len hstm he
     generalize hsc:succs E r.key=sc at *
     refine kLoop.listR sc (fun d ev σ=>ev 0=.ptr B 0∧ev 4=.map H.length∧ev 19=.iter (H.length+1)∧ev 27=.sl 1 (sc.map encInt) (.chain r.tok sc.length)∧ev 28=.int .i64 sc.length∧ev 29=.int .i64 d.length∧σ.T=T∧KpL [] H σ.H∧σ.H[H.length+1]?=some (.miter (some m) clk (seen++[r.stamp]) clk) ∧
      ∃ L clk',σ.H[H.length]?=some (.map (L.map lrecE) clk')∧LvOk L clk'∧(∀ i v,valL L i=some v→v=0∧inRel E i=true)∧(∀ r∈R,r.stamp∈seen→(valL L r.key).isSome=true∧∀ k∈succs E r.key,(valL L k).isSome=true)∧(valL L r.key).isSome=true∧∀ k∈d,(valL L k).isSome=true) ?_ ?_ ?_
     · refine⟨by simp [h0],by simp [h4],by simp [h19],by simp,by simp,by simp,rfl,(hkp.setF (by omega)).setF (by omega),?_,L2,clk2,?_,hu2,?_,?_,?_,by simp⟩
       · show (List.set _ _ _)[_]?=_
         rw [List.getElem?_set_ne (by omega),List.getElem?_set_self hitn]
       · show (List.set _ _ _)[_]?=_
         rw [List.getElem?_set_self (by rw [List.length_set];omega)]
       · intro i v hv
         rw [hu3] at hv
         split at hv
         · rename_i e;subst e;cases hv;exact⟨rfl,hrel⟩
         · exact hz i v hv
       · intro q hq hqs
         obtain⟨g1,g2⟩:=hdn q hq hqs
         refine⟨?_,fun k hk=>?_⟩
         · rw [hu3];split<;>simp [*]
         · have:=g2 k hk
           rw [hu3];split<;>simp [*]
       · rw [hu3,if_pos rfl];rfl
     · clear h0 h4 h19 hu1 hu2 hu3 hu hen hkp hit hlv hlv1 hc1 hm1 hok hz hdn hnx hv
       rintro d k l ev ⟨H2,T2⟩ Rl2 hRl2 hd hx hlt ⟨h0,h4,h19,h27,h28,h29,hT,hkp,hit,L,clk1,hlv,hok,hz,hdn,hkey,hds⟩
       obtain rfl:T=T2:=hT.symm
       obtain⟨L2,clk2,hu1,hu2,hu3⟩:=hok.upd D162x2 D3x2 k 0
       simp only at hit hlv hkp
       have hu:=hu1 _ T _ hlv
       have hkE:(r.key,k)∈E:=succs_mem (by rw [hsc];exact List.mem_of_getElem? hx)
       simp [-acells,-fin,-fin1,-fin2,-pl1,-pl2,-plain,-AV.atom,-getElem?_pos,h0,h4,h19,h27,h28,h29,hlt,hx,encInt,hu]
       refine hRl2 _ _ ⟨by simp [h0],by simp [h4],by simp [h19],by simp [h27],by simp [h28],by simp [h29];exact wr (by omega) (by omega),rfl,hkp.setF (by omega),?_,L2,clk2,?_,hu2,?_,?_,?_,?_⟩
       · show (List.set _ _ _)[_]?=_
         rw [List.getElem?_set_ne (by omega)];exact hit
       · show (List.set _ _ _)[_]?=_
         rw [List.getElem?_set_self (List.getElem?_eq_some_iff.1 hlv).1]
       · intro i v hv
         rw [hu3] at hv
         split at hv
         · rename_i e;subst e;cases hv;exact⟨rfl,(inRel_l hkE).2⟩
         · exact hz i v hv
       · intro q hq hqs
         obtain⟨g1,g2⟩:=hdn q hq hqs
         refine⟨?_,fun k hk=>?_⟩
         · rw [hu3];split<;>simp [*]
         · have:=g2 k hk
           rw [hu3];split<;>simp [*]
       · rw [hu3];split<;>simp [*]
       · intro q hq
         rw [hu3]
         split
         · rfl
         · rename_i hne
           rcases List.mem_append.1 hq with hq|hq
           · exact hds q hq
           · simp at hq;exact absurd hq hne
     · clear h0 h4 h19 hu1 hu2 hu3 hu hen hkp hit hlv hlv1 hc1 hm1 hok hz hdn hnx hv
       rintro ev ⟨H2,T2⟩ ⟨h0,h4,h19,h27,h28,h29,hT,hkp,hit,L,clk1,hlv,hok,hz,hdn,hkey,hds⟩
       obtain rfl:T=T2:=hT.symm
       simp [-acells,-fin,-fin1,-fin2,-pl1,-pl2,-plain,-AV.atom,-getElem?_pos,h0,h4,h19,h28,h29]
       refine hRl _ _ _ ?_ ⟨h0,h4,h19,rfl,hkp,seen++[r.stamp],L,clk1,rfl,hit,hlv,hok,hz,fun q hq hqs=>?_⟩
       · simp only [recE] at hlen0;omega
       · rcases seen_snoc h.after.stamps hr hq hqs with h1|rfl
         · exact hdn q hq h1
         · rw [hsc];exact⟨hkey,hds⟩
end
end
section
theorem idxS_map {l l':List Var} (h:l.map Var.name=l'.map Var.name) (s:Str):idxS l s=idxS l' s:=by
 have gen:∀ (l:List Var) (i:Int),findI (fun v:Var=>v.name==s) l i=findI (fun n:Str=>n==s) (l.map Var.name) i:=by
  intro l
  induction l with
  | nil=>intro i;rfl
  | cons a r ih=>intro i;simp only [findI,List.map_cons,ih]
 unfold idxS
 rw [gen,gen,h]
theorem setV_names (l:List Var) (s:Signal):(setV l s).map Var.name=l.map Var.name:=by
 unfold setV
 split
 · rename_i v hv
   rw [List.map_set]
   apply List.ext_getElem?
   intro k
   rw [List.getElem?_set]
   split
   · rename_i e;subst e
     obtain⟨hl,hv'⟩:=List.getElem?_eq_some_iff.1 hv
     simp [hl,hv']
   · rfl
 · rfl
theorem setV_at (l:List Var) (s:Signal) (k:Nat):(setV l s)[k]?.map (fun v=>(v.name,v.width,v.mode))=l[k]?.map fun v=>(v.name,v.width,v.mode):=by
 unfold setV
 split
 · rename_i v hv
   rw [List.getElem?_set]
   split
   · rename_i e;subst e
     obtain⟨hl,hv'⟩:=List.getElem?_eq_some_iff.1 hv
     simp [hl,hv']
   · rfl
 · rfl
theorem setV_len (l:List Var) (s:Signal):(setV l s).length=l.length:=by
 unfold setV
 split
 · simp
 · rfl
theorem foldV_names (d:List Signal):∀ l,(d.foldl setV l).map Var.name=l.map Var.name:=by
 induction d with
 | nil=>intro l;rfl
 | cons s r ih=>intro l;rw [List.foldl_cons,ih,setV_names]
theorem foldV_at (d:List Signal):∀ l (k:Nat),(d.foldl setV l)[k]?.map (fun v=>(v.name,v.width,v.mode))=l[k]?.map fun v=>(v.name,v.width,v.mode):=by
 induction d with
 | nil=>intro l k;rfl
 | cons s r ih=>intro l k;rw [List.foldl_cons,ih,setV_at]
theorem foldV_len (d:List Signal):∀ l,(d.foldl setV l).length=l.length:=by
 induction d with
 | nil=>intro l;rfl
 | cons s r ih=>intro l;rw [List.foldl_cons,ih,setV_len]
theorem same109 (x s:Signal):Pure Tryz.prog GG 109 [.agg (encSignal x),.rptr (encSignal s)] (.bool (x.name==s.name)):=by
 refine Pure.k mixed Tryz.func109 rfl (by kernel_rfl) ?_
 simp
theorem set_flatV (x:Int):∀ (V:List Var) (k:Nat) (v:Var),V[k]?=some v→(V.flatMap encVar).set (k*4+3) (.int .i64 x)=(V.set k ⟨v.name,v.width,v.mode,x⟩).flatMap encVar
 | [],k,v,h=>by simp at h
 | a::r,0,v,h=>by
  simp only [List.getElem?_cons_zero,Option.some.injEq] at h
  subst h
  simp [encVar]
 | a::r,k+1,v,h=>by
  have ih:=set_flatV x r k v (by simpa using h)
  rw [List.set_cons_succ,List.flatMap_cons,List.flatMap_cons,← ih,Nat.succ_mul]
  simp only [encVar,List.cons_append,List.nil_append]
  rw [show k*4+4+3=(k*4+3)+4 by omega]
  simp
theorem get_flatV:∀ (V:List Var) (k:Nat) (v:Var),V[k]?=some v→(V.flatMap encVar).drop (k*4)=encVar v++(V.drop (k+1)).flatMap encVar
 | [],k,v,h=>by simp at h
 | a::r,0,v,h=>by
  simp only [List.getElem?_cons_zero,Option.some.injEq] at h
  subst h
  simp
 | a::r,k+1,v,h=>by
  have ih:=get_flatV r k v (by simpa using h)
  rw [List.flatMap_cons,Nat.succ_mul]
  simp only [encVar,List.cons_append,List.nil_append] at ih ⊢
  simpa using ih
theorem at_flatV {V:List Var} {k:Nat} {v:Var} (h:V[k]?=some v):(V.flatMap encVar)[k*4+1]?=some (.int .i64 v.width)∧(V.flatMap encVar)[k*4+2]?=some (.int .i64 v.mode):=by
 have:=get_flatV V k v h
 have e:∀ j,(V.flatMap encVar)[k*4+j]?=((V.flatMap encVar).drop (k*4))[j]? := fun j=>by rw [List.getElem?_drop]
 rw [e,e,this]
 simp [encVar]
theorem takeAt_drop {cs:List AV} {i:Nat} {x:AV} (h:cs[i]?=some x):(cs.drop i).take 1=[x]∧i+1≤cs.length:=by
 obtain⟨h1,h2⟩:=List.getElem?_eq_some_iff.1 h
 refine⟨?_,h1⟩
 rw [List.drop_eq_getElem_cons h1,h2]
 rfl
section
variable {T0:List (Option Nat)} {B vb m:Nat} {c:Cls} {V:List Var}
theorem BX.setv {D:List Dist} {E:List (Int×Int)} {td:Nat} {R:List Rec} {clk:Nat} {H:List Blk} {T:List (Option Nat)} (h:BX T0 B vb m c V ⟨H,T⟩ D E td R clk) {V':List Var} (hl:V'.length=V.length) (hne:V≠[]) :
 BX T0 B vb m c V' ⟨H.set vb (.cells (V'.flatMap encVar)),T⟩ D E td R clk∧vb≠B∧vb≠m:=by
 obtain⟨vv,dv,a1,a2,a3⟩:=h.cell
 obtain⟨rfl,hr⟩:=a2.at hne
 have hm:=h.map
 simp only at a1 hm hr
 have hvB:vb≠B:=by
  rintro rfl
  rw [a1] at hr
  cases V with
  | nil=>exact hne rfl
  | cons v r=>
   simp only [Option.some.injEq,Blk.cells.injEq,List.flatMap_cons,encVar,List.cons_append,List.nil_append,List.cons.injEq] at hr
   have:=hr.2.1
   cases this
 have hvm:vb≠m:=by
  rintro rfl
  rw [hm] at hr;cases hr
 refine⟨⟨⟨.ms vb 0 V.length 4,dv,?_,?_,a3⟩,?_,h.after,h.pre⟩,hvB,hvm⟩
 · show (H.set vb _)[B]?=_
   rw [List.getElem?_set_ne hvB];exact a1
 · refine .inr ⟨by intro e;rw [e] at hl;exact hne (List.length_eq_zero_iff.1 hl.symm),by rw [hl],?_⟩
   show (H.set vb _)[vb]?=_
   rw [List.getElem?_set_self (List.getElem?_eq_some_iff.1 hr).1]
 · show (H.set vb _)[m]?=_
   rw [List.getElem?_set_ne hvm];exact hm
def plans52:List (Nat×Sch×List Nat):=[(11,.step 0 [10,9,8,4,3,2,1] (.step 1 [10,9,8,4,3,2] (.step 2 [10,9,8,4,3] (.step 3 [10,9,8,4] (.step 4 [10,9,8] (.step 5 [10,9,8] (.step 6 [10,9,8,7] (.step 7 [10,9,8] (.step 8 [10,9] (.step 9 [10] (.step 10 [] (.done))))))))))),[])]
set_option maxHeartbeats 16000000 in
theorem states52 (hl:V.length≤1000) (S:List Signal) (hS:Fits S) (hw:∀ v∈V,0≤v.width∧v.width≤8) (H:List Blk) (T:List (Option Nat)) {D:List Dist} {E:List (Int×Int)} {td:Nat} {R:List Rec} {clk:Nat} (h:BX T0 B vb m c V ⟨H,T⟩ D E td R clk) :
 ACall Tryz.prog GG 52 [.ptr B 0,.sl 2 (S.map encSignal) .none] ⟨H,T⟩ (fun r σ'=>r=.int .i64 (statesE V S)∧σ'.T=T∧KpL [vb] H σ'.H∧(statesE V S=0→BX T0 B vb m c (statesV V S) σ' D E td R clk)):=by
 refine ACall.kO ⟨false,plans52,[],[]⟩ mixed Tryz.func52 rfl (by kernel_rfl) ?_
 have hr:statesE V S=firstE (stE V S) (List.range S.length):=rfl
 generalize statesE V S=r at hr
 simp [-acells,-fin,-fin1,-fin2,-pl1,-pl2,-plain,-AV.atom,-getElem?_pos]
 refine kLoop.listR S (fun d ev σ=>ev 0=.ptr B 0∧ev 1=.sl 2 (S.map encSignal) .none∧ev 8=.sl 2 (S.map encSignal) .none∧ev 9=.int .i64 S.length∧ev 10=.int .i64 d.length∧σ.T=T∧KpL [vb] H σ.H∧BX T0 B vb m c (d.foldl setV V) σ D E td R clk∧∀ k,k<d.length→stE V S k=0) ?_ ?_ ?_
 · exact⟨by simp,by simp,by simp,by simp,by simp,rfl,KpL.refl,h,by simp⟩
 · rintro d s l ev ⟨H1,T1⟩ Rl hRl hd hx hlt ⟨h0,h1,h8,h9,h10,hT,hkp,hB,hz⟩
   simp only at hT
   subst hT
   have hVl:=foldV_len d V
   have hnm:=idxS_map (foldV_names d V) s.name
   have hat:=foldV_at d V (idxS V s.name).toNat
   have hbad:stE V S d.length≠0→r=stE V S d.length:=fun hn=>by
    rw [hr]
    refine firstE_of (l:=List.range S.length) (i:=d.length) (by rw [List.getElem?_range hlt]) (fun k hk=>hz k ?_) hn
    rw [List.take_range] at hk
    have:=List.mem_range.1 hk
    omega
   have hst:stE V S d.length=(match V[(idxS V s.name).toNat]? with
    | some v=>if idxS V s.name<0∨v.mode≠0 then 7 else if (S.take d.length).any (fun x=>x.name==s.name)=true then 8 else if s.value<0∨2 ^ v.width.toNat≤s.value then 1 else 0
    | none=>7):=by unfold stE;simp only [hx];cases V[(idxS V s.name).toNat]?<;>rfl
   have htk:S.take d.length=d:=by rw [hd,List.take_left'];rfl
   have hfd:(d++[s]).foldl setV V=setV (d.foldl setV V) s:=by simp
   rw [htk] at hst
   obtain⟨vv,dv,b1,b2,b3⟩:=hB.cell
   simp only at b1 b2
   have hlV':(d.foldl setV V).length≤1000:=by omega
   have hsv:setV (d.foldl setV V) s=(match (d.foldl setV V)[(idxS V s.name).toNat]? with
    | some v=>(d.foldl setV V).set (idxS V s.name).toNat ⟨v.name,v.width,v.mode,s.value⟩
    | none=>d.foldl setV V):=by rw [← hnm];rfl
   have hwd:∀ v,V[(idxS V s.name).toNat]?=some v→0≤v.width∧v.width≤8:=fun v hv=>hw v (List.mem_of_getElem? hv)
   generalize d.foldl setV V=W at *
   have hrng:=findI_range (p:=fun v:Var=>v.name==s.name) (l:=W) (i:=0) (Int.le_refl 0)
   have hidx:findI (fun v:Var=>v.name==s.name) W 0=idxS V s.name:=hnm
   rw [hidx] at hrng
   have hfz:Leq (frz (H1++[.cells (encSignal s)]) 8 vv) (.sl 4 (W.map encVar) .none):=(b2.keep fun x _ hx=>look_app hx _).frz (fun x=>by simp) (fun x=>by simp) (fun x=>by simp) 7
   simp only [encSignal] at hfz
   simp [-acells,-fin,-fin1,-fin2,-pl1,-pl2,-plain,-AV.atom,-getElem?_pos,h0,h1,h8,h9,h10,hlt,hx]
   rw [kC_draw rfl]
   simp [-acells,-fin,-fin1,-fin2,-pl1,-pl2,-plain,-AV.atom,-getElem?_pos,h0,h1,h8,h9,h10,hlt,hx,look_app b1]
   refine kCall.lent (index GG W s.name (by unfold Fits;omega)) rfl (by simpa [LeqL,frz_str] using hfz) ?_
   rw [hidx]
   generalize idxS V s.name=I at *
   by_cases hI:I<0
   · have h7:stE V S d.length=7:=by rw [hst];cases V[I.toNat]? with | none=>rfl | some v=>simp [hI]
     have e7:=hbad (by rw [h7];decide)
     rw [h7] at e7
     subst e7
     simp [-acells,-fin,-fin1,-fin2,-pl1,-pl2,-plain,-AV.atom,-getElem?_pos,hI]
     exact hkp.trans KpL.app
   · have hI0:0≤I:=by omega
     obtain⟨k,rfl⟩:=Int.eq_ofNat_of_zero_le hI0
     have hkW:k<W.length:=by have:=(hrng hI0).2;omega
     have hWne:W≠[]:=by rintro rfl;simp at hkW
     obtain⟨rfl,hrow⟩:=b2.at hWne
     obtain⟨w,hwk⟩:∃ w,W[k]?=some w:=⟨_,List.getElem?_eq_getElem hkW⟩
     rw [Int.toNat_natCast] at hat hst hsv hwd
     rw [hwk] at hat hsv
     obtain⟨v,hvk,hve⟩:∃ v,V[k]?=some v∧(w.name=v.name∧w.width=v.width∧w.mode=v.mode):=by
      cases hv:V[k]? with
      | none=>rw [hv] at hat;cases hat
      | some v=>rw [hv] at hat;simp at hat;exact⟨v,rfl,hat⟩
     obtain⟨e1,e2,e3⟩:=hve
     rw [hvk] at hst
     simp only [hI,false_or] at hst
     obtain⟨f1,f2⟩:=at_flatV hwk
     have hw8:=hwd v hvk
     have hkI:(k:Int)<W.length:=by omega
     rw [e3] at f2
     rw [e2] at f1
     obtain⟨t1,l1⟩:=takeAt_drop f1
     obtain⟨t2,l2⟩:=takeAt_drop f2
     have hcl:=Go.Abs.flat_len (en:=encVar) (sz:=4) (fun x=>rfl) W
     have hsf:=set_flatV s.value W k w hwk
     have l3:k*4+3+1≤(W.flatMap encVar).length:=by omega
     generalize hcs:W.flatMap encVar=cs at hrow t1 l1 t2 l2 hcl hsf l3
     have hle:d.length≤S.length:=by omega
     by_cases hm0:v.mode=0
     · rw [hm0] at t2
       simp only [hm0,ne_eq,not_true_eq_false,if_false] at hst
       simp [-acells,-fin,-fin1,-fin2,-pl1,-pl2,-plain,-AV.atom,-getElem?_pos,hI,h0,h1,h8,h9,h10,look_app b1,hkI,look_app hrow,t2,l2,sliceA,boundA,thirdA,hle]
       rw [← List.map_take,htk]
       refine kCall.lent (args':=[.sl 2 (d.map encSignal) .none,.fn 109 [] [.rptr (encSignal s)]]) (containsFuncSig GG d (fun y=>y.name==s.name) 109 [] [.rptr (encSignal s)] (by unfold Fits;omega) rfl (by simp) fun y _=>same109 y s) rfl ?_ ?_
       · simp only [List.map_cons,List.map_nil,LeqL,and_true]
         refine⟨frz_slm (fun x=>by simp) (fun x=>by simp) _ 7 d _,?_⟩
         simp [frz]
       · cases hdu:d.any (fun y=>y.name==s.name)
         · rw [hdu,if_neg (by simp)] at hst
           obtain⟨wn,hwn⟩:=Int.eq_ofNat_of_zero_le hw8.1
           have hwn8:wn≤8:=by omega
           have hmin:min wn 64=wn:=by omega
           have hpw:(2:Int) ^ wn≤256:=by
            have:wn=0∨wn=1∨wn=2∨wn=3∨wn=4∨wn=5∨wn=6∨wn=7∨wn=8:=by omega
            rcases this with rfl|rfl|rfl|rfl|rfl|rfl|rfl|rfl|rfl<;>decide
           have hpp:(0:Int)<2 ^ wn:=Int.pow_pos (by omega)
           have hww:IntKind.i64.wrap (2 ^ wn)=2 ^ wn:=wr (by omega) (by omega)
           have hb64:IntKind.i64.bits=64:=rfl
           have hwn0:¬ (wn:Int)<0:=by omega
           rw [hwn] at t1 hst
           rw [Int.toNat_natCast] at hst
           simp [-acells,-fin,-fin1,-fin2,-pl1,-pl2,-plain,-AV.atom,-getElem?_pos,hI,h0,h1,h8,h9,h10]
           rw [kC_draw rfl]
           by_cases hv0:s.value<0
           · have h7:stE V S d.length=1:=by rw [hst,if_pos (.inl hv0)]
             have e7:=hbad (by rw [h7];decide)
             rw [h7] at e7
             subst e7
             simp [-acells,-fin,-fin1,-fin2,-pl1,-pl2,-plain,-AV.atom,-getElem?_pos,hI,h0,h1,h8,h9,h10,hv0]
             exact hkp.trans KpL.app
           · by_cases hv1:(2:Int) ^ wn≤s.value
             · have h7:stE V S d.length=1:=by rw [hst,if_pos (.inr hv1)]
               have e7:=hbad (by rw [h7];decide)
               rw [h7] at e7
               subst e7
               simp [-acells,-fin,-fin1,-fin2,-pl1,-pl2,-plain,-AV.atom,-getElem?_pos,hI,h0,h1,h8,h9,h10,look_app b1,hkI,look_app hrow,t1,l1,hv0,hv1,binA,hmin,hww,hb64,hwn0]
               exact hkp.trans KpL.app
             · have h00:stE V S d.length=0:=by rw [hst,if_neg (fun e=>e.elim hv0 hv1)]
               simp [-acells,-fin,-fin1,-fin2,-pl1,-pl2,-plain,-AV.atom,-getElem?_pos,hI,h0,h1,h8,h9,h10,look_app b1,hkI,look_app hrow,t1,l1,hv0,hv1,binA,hmin,hww,hb64,hwn0]
               rw [kC_plan rfl]
               simp [-acells,-fin,-fin1,-fin2,-pl1,-pl2,-plain,-AV.atom,-getElem?_pos,clsB,hI,h0,h1,h8,h9,h10,look_app b1,hkI,look_app hrow,l3,hsf,set_left hrow]
               simp only at hsv
               obtain⟨hB5,_,_⟩:=hB.setv (V':=W.set k ⟨w.name,w.width,w.mode,s.value⟩) (by simp) hWne
               refine hRl _ _ ⟨by simp [h0],by simp [h1],by simp [h8],by simp [h9],by simp [h10];exact wr (by omega) (by omega),rfl,hkp.trans ((KpL.set (by simp)).trans KpL.app),?_,fun q hq=>?_⟩
               · rw [hfd,hsv];exact hB5.ext _ List.prefix_rfl
               · have hq':q<d.length∨q=d.length:=by simp at hq;omega
                 rcases hq' with hq' | rfl
                 · exact hz q hq'
                 · exact h00
         · have h7:stE V S d.length=8:=by rw [hst,hdu,if_pos rfl]
           have e7:=hbad (by rw [h7];decide)
           rw [h7] at e7
           subst e7
           simp [-acells,-fin,-fin1,-fin2,-pl1,-pl2,-plain,-AV.atom,-getElem?_pos]
           exact hkp.trans KpL.app
     · have h7:stE V S d.length=7:=by rw [hst,if_pos hm0]
       have e7:=hbad (by rw [h7];decide)
       rw [h7] at e7
       subst e7
       simp [-acells,-fin,-fin1,-fin2,-pl1,-pl2,-plain,-AV.atom,-getElem?_pos,hI,h0,h1,h8,h9,h10,look_app b1,hkI,look_app hrow,t2,l2,hm0]
       exact hkp.trans KpL.app
 · rintro ev ⟨H1,T1⟩ ⟨h0,h1,h8,h9,h10,hT,hkp,hB,hz⟩
   simp only at hT
   subst hT
   have e0:r=0:=by rw [hr];exact firstE_zero.2 fun k hk=>hz k (List.mem_range.1 hk)
   subst e0
   simp [-acells,-fin,-fin1,-fin2,-pl1,-pl2,-plain,-AV.atom,-getElem?_pos,h9,h10]
   exact⟨hkp,hB⟩
end
end
abbrev GP:=Nat×List Int×Abs.Tok
def gv (p:GP):AV:=.sl p.1 (p.2.1.map encInt) p.2.2
def emp (p:GP):Bool:=p.2.1.isEmpty
theorem empty115 (p:GP):Pure Tryz.prog GG 115 [gv p] (.bool (emp p)):=by
 refine Pure.k mixed Tryz.func115 rfl (by kernel_rfl) ?_
 obtain⟨sz,l,t⟩:=p
 cases l with
 | nil=>simp [gv,emp]
 | cons a l=>simp [gv,emp];omega
theorem findE:∀ (ps:List GP) (i:Int),(findI emp ps i = -1∧∀ x∈ps,emp x=false)∨∃ p e l,ps=p++e::l∧(∀ x∈p,emp x=false)∧emp e=true∧findI emp ps i=i+p.length
 | [],i=>.inl ⟨rfl,by simp⟩
 | a::r,i=>by
  cases h:emp a with
  | true=>exact .inr ⟨[],a,r,rfl,by simp,h,by simp [findI,h]⟩
  | false=>
   rcases findE r (i+1) with ⟨h1,h2⟩|⟨p,e,l,rfl,h2,h3,h4⟩
   · exact .inl ⟨by simp [findI,h,h1],by simpa [h] using h2⟩
   · refine .inr ⟨a::p,e,l,rfl,by simpa [h] using h2,h3,?_⟩
     simp only [findI,h,h4,Bool.false_eq_true,if_false,List.length_cons]
     omega
theorem gv_no (p:GP):AV.atom (gv p)=true∧acells (gv p)=some [gv p]:=⟨rfl,rfl⟩
set_option maxHeartbeats 4000000 in
theorem index186 (ps:List GP) (hp:ps.length≤1000000) (tl:List AV) (H:List Blk) (T:List (Option Nat)) (b:Nat) (hb:H[b]?=some (.cells (ps.map gv++tl))) :
 ACall Tryz.prog GG 186 [.ms b 0 ps.length 1,.fn 115 [] []] ⟨H,T⟩ (fun r σ'=>r=.int .i64 (findI emp ps 0)∧σ'=⟨H,T⟩):=by
 refine ACall.k mixed Tryz.func186 rfl (by kernel_rfl) ?_
 simp [-acells,-fin,-fin1,-fin2,-pl1,-pl2,-plain,-AV.atom,-getElem?_pos]
 refine kLoop.listR ps (fun d ev σ=>ev 0=.ms b 0 ps.length 1∧ev 1=.fn 115 [] []∧ev 7=.int .i64 ps.length∧ev 8=.int .i64 d.length∧σ=⟨H,T⟩∧findI emp ps 0=findI emp (ps.drop d.length) d.length) ?_ ?_ ?_
 · exact⟨by simp,by simp,by simp,by simp,rfl,by simp⟩
 · rintro d p l ev σ Rl hRl hd hx hlt ⟨h0,h1,h7,h8,rfl,hf⟩
   obtain⟨t1,t2⟩:=takeAt_drop (cs:=ps.map gv++tl) (i:=d.length) (x:=gv p) (by rw [List.getElem?_append_left (by simpa using hlt),List.getElem?_map,hx];rfl)
   have hw:IntKind.i64.wrap ((d.length:Int)+1)=(d.length+1:Nat):=by rw [wr (by omega) (by omega)];omega
   obtain⟨g1,g2⟩:=gv_no p
   rw [drop_cons hx] at hf
   simp only [findI] at hf
   have t3:d.length+1≤ps.length+tl.length:=by omega
   simp [-acells,-fin,-fin1,-fin2,-pl1,-pl2,-plain,-AV.atom,-getElem?_pos,h0,h1,h7,h8,hlt,hb,t1,t3,gv]
   refine kCall.pure (empty115 ⟨p.1,p.2.1,.none⟩) (by obtain⟨z,l,t⟩:=p;cases t<;>simp [gv]) (by obtain⟨z,l,t⟩:=p;cases t<;>simp [gv]) ?_
   rw [show emp ⟨p.1,p.2.1,.none⟩=emp p from rfl]
   cases he:emp p with
   | true=>
    simp [-acells,-fin,-fin1,-fin2,-pl1,-pl2,-plain,-AV.atom,-getElem?_pos,h0,h1,h7,h8,hf,he]
   | false=>
    simp [-acells,-fin,-fin1,-fin2,-pl1,-pl2,-plain,-AV.atom,-getElem?_pos,h0,h1,h7,h8,hw]
    refine hRl _ _ ⟨by simp [h0],by simp [h1],by simp [h7],by simp [hw],rfl,?_⟩
    rw [hf,he];simp
 · rintro ev σ ⟨h0,h1,h7,h8,rfl,hf⟩
   simp [-acells,-fin,-fin1,-fin2,-pl1,-pl2,-plain,-AV.atom,-getElem?_pos,h0,h1,h7,h8]
   rw [hf];simp [findI]
theorem putAt_tail (A:List AV):∀ (v:List AV) (off:Nat) (M:List AV),A.length≤off→∃ tl,putAt (A++M) off v=A++tl
 | [],off,M,h=>⟨M,rfl⟩
 | x::r,off,M,h=>by
  rw [putAt,List.set_append_right _ _ h]
  exact putAt_tail A r (off+1) _ (by omega)
set_option maxHeartbeats 8000000 in
theorem delete114 (ps:List GP) (hp:ps.length≤1000000) (H:List Blk) (T:List (Option Nat)) (b:Nat) (hb:H[b]?=some (.cells (ps.map gv))) :
 ACall Tryz.prog GG 114 [.ms b 0 ps.length 1,.fn 115 [] []] ⟨H,T⟩ (fun r σ'=>r=.ms b 0 (ps.filter fun p=>!emp p).length 1∧σ'.T=T∧KpL [b] H σ'.H∧∃ tl,σ'.H[b]?=some (.cells ((ps.filter fun p=>!emp p).map gv++tl))):=by
 refine ACall.k mixed Tryz.func114 rfl (by kernel_rfl) ?_
 simp [-acells,-fin,-fin1,-fin2,-pl1,-pl2,-plain,-AV.atom,-getElem?_pos]
 refine kCall.acall (index186 ps hp [] H T b (by simpa using hb)) ?_
 rintro v σ' ⟨rfl,rfl⟩
 rcases findE ps 0 with ⟨h1,h2⟩|⟨p1,e,l,rfl,h2,h3,h4⟩
 · have hfil:(ps.filter fun p=>!emp p)=ps:=List.filter_eq_self.2 fun x hx=>by simp [h2 x hx]
   rw [hfil,h1]
   simp [-acells,-fin,-fin1,-fin2,-pl1,-pl2,-plain,-AV.atom,-getElem?_pos]
   exact⟨KpL.refl,[],by simpa using hb⟩
 · have hne:¬ ((p1.length:Int) = -1):=by omega
   have hfil:((p1++e::l).filter fun p=>!emp p)=p1++l.filter fun p=>!emp p:=by
    rw [List.filter_append,List.filter_cons,if_neg (by simp [h3]),List.filter_eq_self.2 fun x hx=>by simp [h2 x hx]]
   rw [hfil,h4,Int.zero_add]
   rw [List.length_append,List.length_cons] at hp
   have hw1:IntKind.i64.wrap ((p1.length:Int)+1)=(p1.length+1:Nat):=by rw [wr (by omega) (by omega)];omega
   simp [-acells,-fin,-fin1,-fin2,-pl1,-pl2,-plain,-AV.atom,-getElem?_pos,hne,hw1]
   refine kLoop.listR l (fun d ev σ=>ev 0=.ms b 0 (p1.length+(l.length+1)) 1∧ev 1=.fn 115 [] []∧ev 5=.int .i64 (p1.length+(d.filter fun p=>!emp p).length:Nat)∧ev 6=.int .i64 (p1.length+1+d.length:Nat)∧σ.T=T∧KpL [b] H σ.H∧∃ M,σ.H[b]?=some (.cells ((p1++d.filter fun p=>!emp p).map gv++(M++(l.drop d.length).map gv)))∧(d.filter fun p=>!emp p).length+M.length=d.length+1) ?_ ?_ ?_
   · exact⟨by simp,by simp,by simp,by simp,rfl,KpL.refl,[gv e],by simpa using hb,by simp⟩
   · rintro d p r ev ⟨H1,T1⟩ Rl hRl hd hx hlt ⟨h0,h1,h5,h6,hT,hkp,M,hc,hM⟩
     obtain rfl:T=T1:=hT.symm
     simp only at hc
     have hfl:(d.filter fun p=>!emp p).length≤d.length:=List.length_filter_le _ _
     rw [drop_cons hx,List.map_cons] at hc
     obtain⟨t1,t2⟩:=takeAt_drop (cs:=(p1++d.filter fun p=>!emp p).map gv++(M++gv p::(l.drop (d.length+1)).map gv)) (i:=p1.length+1+d.length) (x:=gv p) (by
      rw [List.getElem?_append_right (by simp;omega),List.getElem?_append_right (by simp;omega)]
      rw [show p1.length+1+d.length-((p1++d.filter fun p=>!emp p).map gv).length-M.length=0 by simp;omega]
      rfl)
     have hft:(d++[p]).filter (fun p=>!emp p)=d.filter (fun p=>!emp p)++(if emp p=true then [] else [p]):=by
      rw [List.filter_append]
      cases hee:emp p<;>simp [hee]
     obtain⟨m0,M',rfl⟩:∃ m0 M',M=m0::M':=by
      cases M with
      | nil=>simp at hM;omega
      | cons a r=>exact⟨a,r,rfl⟩
     generalize hfe:(d.filter fun p=>!emp p)=F at *
     have hw2:IntKind.i64.wrap ((p1.length+1+d.length:Nat)+1:Int)=(p1.length+1+(d.length+1):Nat):=by rw [wr (by omega) (by omega)];omega
     have hw3:IntKind.i64.wrap ((p1.length+F.length:Nat)+1:Int)=(p1.length+(F.length+1):Nat):=by rw [wr (by omega) (by omega)];omega
     have hll:((p1.length+1+d.length:Nat):Int)<((p1.length+(l.length+1):Nat):Int):=by omega
     have hset:∀ v,((p1++F).map gv++(m0::M'++gv p::(l.drop (d.length+1)).map gv)).set (p1.length+F.length) v=(p1++F).map gv++(v::M'++gv p::(l.drop (d.length+1)).map gv):=fun v=>by
      rw [List.set_append_right _ _ (by simp)]
      rw [show p1.length+F.length-((p1++F).map gv).length=0 by simp]
      rfl
     generalize hcs:(p1++F).map gv++(m0::M'++gv p::(l.drop (d.length+1)).map gv)=cs at *
     have t3:p1.length+F.length+1≤cs.length:=by omega
     have hfl1:F.length<l.length+1:=by omega
     simp [-acells,-fin,-fin1,-fin2,-pl1,-pl2,-plain,-AV.atom,-getElem?_pos,-Int.natCast_add,h0,h1,h5,h6,hll,hc,t1,t2,gv]
     refine kCall.pure (empty115 ⟨p.1,p.2.1,.none⟩) (by obtain⟨z,l,t⟩:=p;cases t<;>simp) (by obtain⟨z,l,t⟩:=p;cases t<;>simp [gv]) ?_
     rw [show emp ⟨p.1,p.2.1,.none⟩=emp p from rfl]
     cases he:emp p with
     | true=>
      rw [he,if_pos rfl,List.append_nil] at hft
      simp [-acells,-fin,-fin1,-fin2,-pl1,-pl2,-plain,-AV.atom,-getElem?_pos,-Int.natCast_add,h0,h1,h5,h6,hw2]
      refine hRl _ _ ⟨by simp [h0],by simp [h1],by simp [h5,hft],by simp [-Int.natCast_add,hw2],rfl,hkp,m0::M'++[gv p],?_,?_⟩
      · rw [hft,List.length_append,List.length_singleton]
        simp only [hc,← hcs]
        simp
      · rw [hft];simp at hM ⊢;omega
     | false=>
      rw [he,if_neg (by simp)] at hft
      simp [-acells,-fin,-fin1,-fin2,-pl1,-pl2,-plain,-AV.atom,-getElem?_pos,-Int.natCast_add,h0,h1,h5,h6,hw2,hw3,hc,t3,hfl1]
      have hb1:=(List.getElem?_eq_some_iff.1 hc).1
      refine hRl _ _ ⟨by simp [h0],by simp [h1],?_,by simp [-Int.natCast_add,hw2],rfl,hkp.trans (KpL.set (by simp)),M'++[gv p],?_,?_⟩
      · rw [hft,List.length_append,List.length_singleton];simp [-Int.natCast_add]
      · show (H1.set b _)[b]?=_
        rw [List.getElem?_set_self hb1,hft,List.length_append,List.length_singleton]
        have:=hset (gv p)
        simp only [gv] at this
        rw [this]
        simp [gv]
      · rw [hft];simp at hM ⊢;omega
   · rintro ev ⟨H1,T1⟩ ⟨h0,h1,h5,h6,hT,hkp,M,hc,hM⟩
     obtain rfl:T=T1:=hT.symm
     simp only at hc
     have hfl:(l.filter fun p=>!emp p).length≤l.length:=List.length_filter_le _ _
     rw [List.drop_length,List.map_nil,List.append_nil] at hc
     generalize hfe:(l.filter fun p=>!emp p)=F at *
     have hll:¬ (((p1.length+1+l.length:Nat):Int)<((p1.length+(l.length+1):Nat):Int)):=by omega
     have htk:((p1++F).map gv++M).take (p1.length+F.length)=(p1++F).map gv:=by
      rw [List.take_append_of_le_length (by simp),List.take_of_length_le (by simp)]
     have hcl:((p1++F).map gv++M).length=p1.length+(l.length+1):=by simp;omega
     generalize hcs:(p1++F).map gv++M=cs at *
     have hs1:sliceA (.ms b 0 (p1.length+(l.length+1)) 1) (some (.int .i64 (p1.length+F.length:Nat))) none none=some (.ms b (p1.length+F.length) ((p1.length+(l.length+1))-(p1.length+F.length)) 1):=by
      simp only [sliceA,boundA,asIntA]
      rw [if_pos (by omega)]
      simp [-Int.natCast_add]
     have hs2:sliceA (.ms b 0 (p1.length+(l.length+1)) 1) none (some (.int .i64 (p1.length+F.length:Nat))) none=some (.ms b 0 (p1.length+F.length) 1):=by
      simp only [sliceA,boundA,asIntA]
      rw [if_pos (by omega)]
      simp [-Int.natCast_add]
     have hb1:=(List.getElem?_eq_some_iff.1 hc).1
     obtain⟨tl,htl⟩:=putAt_tail ((p1++F).map gv) (List.replicate (p1.length+(l.length+1)-(p1.length+F.length)) (.sl 0 [] .nil)) (p1.length+F.length) M (by simp)
     rw [hcs] at htl
     have hcl2:p1.length+F.length+(p1.length+(l.length+1)-(p1.length+F.length))≤p1.length+(l.length+1):=by omega
     simp [-acells,-fin,-fin1,-fin2,-pl1,-pl2,-plain,-AV.atom,-getElem?_pos,-Int.natCast_add,h0,h1,h5,h6,hll,hc,hcl,hs1,hs2,clearA,hcl2]
     refine⟨hkp.trans (KpL.set (by simp)),tl,?_⟩
     rw [List.getElem?_set_self hb1,htl]
     simp
end Go.Proofs.YtpgcmnabljandaaGreatDoor
end
