import Derived.Test.YtkodonalmdmgpaaGreatDoorSv25
import Derived.RangeFuncBox
import Derived.RangeFuncLeaves
import Derived.Shelf.Abstract
import Derived.WalkKit
import Derived.OwnWalkIn
import Derived.TacticsInMore
import Derived.LoopNIn
import Derived.LoopIn
set_option maxRecDepth 100000
set_option maxHeartbeats 2000000
set_option linter.all false
set_option linter.defProp false
section
namespace Go.Proofs.YtkodonalmdmgpaaGreatDoor
open Go Go.Abs Go.RowKit Go.Shelf
section
attribute [local go_sem] Oper.semAt_some
theorem sl_view {K:Kn} {l:List Int} {tok:Tok} {v:Value} (h:VRel K (.sl 1 (l.map fun n=>[.int .i64 n]) tok) v) :
 ∃ a cap,v=.slice a l.length cap∧∀ j n,l[j]?=some n→∃ B off,a=some ⟨B,off,none⟩∧K.ro B (off+j)=some (.int .i64 n):=by
 simp only [VRel] at h
 rcases h with ⟨⟨a,rfl,_⟩,h0,_⟩|⟨B,off,cap,rfl,hcap,hrows,_⟩
 · have:l=[]:=by simpa using h0
   subst this
   exact⟨a,0,rfl,fun j n e=>by simp at e⟩
 · refine⟨some ⟨B,off,none⟩,cap,by simp,fun j n e=>⟨B,off,rfl,?_⟩⟩
   obtain⟨_,_,h3⟩:=RowsAt.get B 1 _ off hrows j [.int .i64 n] (by simp [e])
   simp only [CellsAt,VRel] at h3
   obtain⟨⟨v,hv,rfl⟩,_⟩:=h3
   simpa using hv
theorem fw214 (G:Glo) (l:List Int) (tok:Tok) (hlen:l.length<2 ^ 62):FwOk Tryz.prog G 244 [.rptr [.sl 1 (l.map fun n=>[.int .i64 n]) tok]] (fun _=>True) (l.map fun n=>.int .i64 n):=by
 refine⟨by kernel_rfl,?_⟩
 intro w0 ro0 L K σ w vcap S hw hcap _ hS hround
 simp only [VRels] at hcap
 obtain⟨v0,vr,e0,hp,rfl⟩:=hcap
 have evs:vcap = #[v0]:=by apply Array.ext';simpa using e0
 subst evs
 simp only [VRel,CellsAt] at hp
 obtain⟨Bs,os,rfl,⟨v,hro,hv⟩,_⟩:=hp
 obtain⟨a0,cap,rfl,hcell⟩:=sl_view hv
 have hread:∀ K' σ' w',K.le K'→WRel G w0 ro0 K' σ' w'→w'.cell? ⟨Bs,os,none⟩=some (.slice a0 l.length cap):=fun K' σ' w' h1 h2=>h2.ro _ _ _ (h1.ro _ _ _ hro)
 have hBs:=hread K σ w (Kn.le_refl K) hw
 refine callsIn_of_wp Tryz.func244 rfl trivial ?_ rfl
 simp only [Tryz.ntmps244,List.size_toArray,List.length_cons,List.length_nil,Nat.reduceAdd,Nat.reduceSub,Array.replicate_succ,Array.replicate_zero,List.push_toArray,List.append_toArray,List.nil_append,List.cons_append]
 gi_wp2
 gi_loopw [7] (fun i wr=>∃ k:Nat,k≤l.length∧i=.int .i64 k∧∃ K' σ',K.le K'∧WRel G w0 ro0 K' σ' wr∧S k σ')
  (fun i _=>l.length-(intOf i).toNat)
 case atStart=>exact⟨0,Nat.zero_le _,rfl,K,σ,Kn.le_refl K,hw,hS⟩
 case round=>
  obtain⟨k,hk,rfl,K1,σ1,hle1,hw1,hS1⟩:=hrel
  by_cases hlt:k<l.length
  · obtain⟨B,off,rfl,hro1⟩:=hcell k l[k] (by simp [hlt])
    have hcx:wr.cell? ⟨B,off+k,none⟩=some (.int .i64 l[k]):=hw1.ro _ _ _ (hle1.ro _ _ _ hro1)
    obtain⟨fn,tmps,assign,body,hy,hR⟩:=hround k (.int .i64 l[k]) σ1 K1 wr (by simp [hlt]) hS1 hle1 hw1 _ rfl
    gi_wp2
    refine⟨rfl,hR.mono ?_⟩
    rintro e W3 ⟨rfl,K2,σ2,hle2,hw2,hS2⟩
    gi_wp2
    go_roundw
    case rel=>exact⟨k+1,by omega,by simp,K2,σ2,Kn.le_trans hle1 hle2,hw2,hS2⟩
    case measure=>simp [intOf];omega
  · obtain rfl:k=l.length:=by omega
    gi_wp2
    refine bodyPost_end (results_none rfl _ _ _) rfl ?_
    exact⟨⟨_,rfl⟩,K1,σ1,hle1,hw1,by simpa using hS1⟩
end
end Go.Proofs.YtkodonalmdmgpaaGreatDoor
end
