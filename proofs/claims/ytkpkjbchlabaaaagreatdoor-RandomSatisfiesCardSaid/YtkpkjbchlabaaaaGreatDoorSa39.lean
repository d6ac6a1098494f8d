/- A part of the proof. -/
import Derived.Test.YtkpkjbchlabaaaaGreatDoorSa08
import Derived.RangeFuncBox
import Derived.RangeFuncLeaves
import Derived.Shelf.Abstract
import Derived.WalkKit
import Derived.OwnWalkIn
import Derived.TacticsInMore
import Derived.LoopNIn
import Derived.LoopIn
import Derived.RegionIn
import Derived.OrdersIn
set_option linter.unusedVariables false
set_option linter.unusedSimpArgs false
set_option maxRecDepth 100000
set_option maxHeartbeats 2000000
set_option linter.defProp false
section
namespace Go.Proofs.YtkpkjbchlabaaaaGreatDoor
open Go Go.Abs Go.RowKit Go.Shelf
section
attribute [local go_sem] Oper.semAt_some
theorem qoc {K:Kn}{l:List Int}{tok:Tok}{v:Value}(h:qg K (.sl 1 (l.map fun n=>[.int .i64 n]) tok) v) :
 ∃ a cap,v=.slice a l.length cap/\∀ j n,l[j]?=some n->∃ B off,a=some ⟨B,off,none⟩/\K.ro B (off+j)=some (.int .i64 n):=by
 simp only[qg]at h;rcases h with ⟨⟨a,rfl,_⟩,h0,_⟩|⟨B,off,cap,rfl,hcap,hrows,_⟩
 . have:l=[]:=by simpa using h0
   subst this;exact⟨a,0,rfl,fun j n e=>by simp at e⟩
 . refine⟨some ⟨B,off,none⟩,cap,by simp,fun j n e=>⟨B,off,rfl,?_⟩⟩;obtain⟨_,_,h3⟩:=qJ.get B 1 _ off hrows j [.int .i64 n] (by simp[e]);simp only[ql,qg]at h3;obtain⟨⟨v,hv,rfl⟩,_⟩:=h3;simpa using hv
theorem fw214 (G:Glo)(l:List Int)(tok:Tok)(hlen:l.length<2 ^ 62):FwOk Tryz.prog G 115 [.rptr [.sl 1 (l.map fun n=>[.int .i64 n]) tok]] (fun _=>True) (l.map fun n=>.int .i64 n):=by
 refine⟨by kernel_rfl,?_⟩;intro w0 ro0 L K U w vcap S hw hcap _ hS hround;simp only[qh]at hcap;obtain⟨v0,vr,e0,hp,rfl⟩:=hcap;have evs:vcap = #[v0]:=by apply Array.ext';simpa using e0
 subst evs;simp only[qg,ql]at hp;obtain⟨Bs,os,rfl,⟨v,hro,hv⟩,_⟩:=hp;obtain⟨a0,cap,rfl,hcell⟩:=qoc hv;have hread:∀ K' U' w',K.le K'->WRel G w0 ro0 K' U' w'->w'.cell? ⟨Bs,os,none⟩=some (.slice a0 l.length cap):=fun K' U' w' h1 h2=>h2.ro _ _ _ (h1.ro _ _ _ hro)
 have hBs:=hread K U w (Kn.le_refl K) hw;refine callsIn_of_wp Tryz.func115 rfl trivial ?_ rfl;simp only[Tryz.ntmps115,qs1,qqs,qq0,Nat.reduceAdd,Nat.reduceSub,Array.replicate_succ,Array.replicate_zero,List.push_toArray,List.append_toArray,qqw,qqz]
 gi_wp2
 gi_loopw [7] (fun i wr=>∃ k:Nat,k<=l.length/\i=.int .i64 k/\∃ K' U',K.le K'/\WRel G w0 ro0 K' U' wr/\S k U')
  (fun i _=>l.length-(intOf i).toNat)
 case atStart=>exact⟨0,qrS _,rfl,K,U,Kn.le_refl K,hw,hS⟩
 case round=>
  obtain⟨k,hk,rfl,K1,U1,hle1,hw1,hS1⟩:=hrel;by_cases hlt:k<l.length
  . obtain⟨B,off,rfl,hro1⟩:=hcell k l[k] (by simp[hlt]);have hcx:wr.cell? ⟨B,off+k,none⟩=some (.int .i64 l[k]):=hw1.ro _ _ _ (hle1.ro _ _ _ hro1);obtain⟨fn,tmps,assign,body,hy,hR⟩:=hround k (.int .i64 l[k]) U1 K1 wr (by simp[hlt]) hS1 hle1 hw1 _ rfl
    gi_wp2
    refine⟨rfl,hR.mono ?_⟩;rintro e W3 ⟨rfl,K2,U2,hle2,hw2,hS2⟩
    gi_wp2
    go_roundw
    case rel=>exact⟨k+1,by omega,by simp,K2,U2,Kn.le_trans hle1 hle2,hw2,hS2⟩
    case measure=>simp[intOf];omega
  . obtain rfl:k=l.length:=by omega
    gi_wp2
    refine bodyPost_end (results_none rfl _ _ _) rfl ?_;exact⟨⟨_,rfl⟩,K1,U1,hle1,hw1,by simpa using hS1⟩
end
section
attribute [local go_sem] Oper.semAt_some
end
end Go.Proofs.YtkpkjbchlabaaaaGreatDoor
end
section
namespace Go.Proofs.YtkpkjbchlabaaaaGreatDoor
open Go Go.Abs
abbrev Jl (l:List Int):List (List AV):=l.map fun n=>[.int .i64 n]
def RowM (v:AV)(U:St)(l:List Int):Prop:=(l=[]/\v=.sl 0 [] .nil)\/∃ b,v=.ms b 0 l.length 1/\l≠[]/\U.H[b]?=some (.cells (l.map fun n=>.int .i64 n))
def SeqJ (U:St)(n0:Nat)(l:List Int)(i:Nat)(τ:St):Prop :=
 τ.T=U.T/\(∀ k<n0,τ.H[k]?=U.H[k]?)/\∃ v,τ.H[n0]?=some (.cells [v])/\((i=0/\v=.sl 0 [] .nil)\/∃ b,v=.ms b 0 i 1/\0<i/\n0<b/\τ.H[b]?=some (.cells ((l.take i).map fun n=>.int .i64 n)))
def SeqQ (U:St)(l:List Int)(v:AV)(τ:St):Prop:=τ.T=U.T/\(∀ k<U.H.length,τ.H[k]?=U.H[k]?)/\RowM v τ l
theorem qjp (H:List Blk)(T:List (Option Nat))(n:Int):zx (Dof Tryz.prog) ⟨H,T⟩ 28 28 (.sl 0 [] .nil) (.sl 1 [[.int .i64 n]] .tight)=some (.ms H.length 0 1 1,⟨H++[.cells [.int .i64 n]],T⟩):=by
 simp[zx,jg,WV,qU,St.push]
theorem qmp (H:List Blk)(T:List (Option Nat))(n:Int)(b i:Nat)(c:List AV)(hb:H[b]?=some (.cells c))(hc:c.length=i)(hi:i<2 ^ 28):zx (Dof Tryz.prog) ⟨H,T⟩ 28 28 (.ms b 0 i 1) (.sl 1 [[.int .i64 n]] .tight)=some (.ms H.length 0 (i+1) 1,⟨H.set b .dead++[.cells (c++[.int .i64 n])],T⟩):=by
 have h1:i+1<=549755813888:=by omega
 have h2:c.take i=c:=qqk (by omega);simp[zx,jg,WV,qU,hb,h1,hc,h2]
theorem qbQ (U:St)(l:List Int)(tok:Tok)(hlen:l.length<2 ^ 28) :
 qf Tryz.prog GG 171 [.sl 0 [] .nil,.fn 115 [] [.rptr [.sl 1 (Jl l) tok]]] U (SeqQ U l):=by
 refine qf.kO ⟨true,[],[],[]⟩ qe Tryz.func171 rfl (by kernel_rfl) ?_;simp[-getElem?_pos];refine qh5 (qaF _) (fun _=>True) (l.map fun n=>.int .i64 n) (SeqJ U U.H.length l) (by simp[ev]) (fw214 GG l tok (by omega)) (fun _ _ _=>trivial) ?_ ?_ ?_
 . refine⟨rfl,fun k hk=>?_,.sl 0 [] .nil,?_,.inl ⟨rfl,rfl⟩⟩
   . simp[qqq hk]
   . simp
 . rintro i v τ hi ⟨h1,h2,w,h3,h4⟩;obtain⟨n,hn,rfl⟩:∃ n,l[i]?=some n/\v=.int .i64 n:=by
    simp only[qqB,qqj]at hi;obtain⟨n,a,b⟩:=hi;exact⟨n,a,b.symm⟩
   have hil:i<l.length:=(qqc.1 hn).1;obtain⟨H,T⟩:=τ;simp only at h1 h2 h3 h4;simp[-getElem?_pos,h3];have hnl:U.H.length<H.length:=(qqc.1 h3).1;have htk:(l.take (i+1)).map (fun n=>AV.int .i64 n)=(l.take i).map (fun n=>AV.int .i64 n)++[.int .i64 n]:=by
    rw[qqH,hn];simp
   rcases h4 with ⟨rfl,rfl⟩|⟨b,rfl,hi0,hb,hcb⟩
   . rw[qjp];simp[-getElem?_pos,qqq hnl,h3];refine⟨h1,fun k hk=>?_,.ms H.length 0 1 1,?_,.inr ⟨H.length,rfl,by omega,hnl,?_⟩⟩
     . simp only;rw[qqf (by omega),qqq (by omega)];exact h2 k hk
     . simp only;rw[qqh (by simp;omega)]
     . simp only;rw[qqf (by omega),qql (qqn _),htk];simp
   . have hcl:((l.take i).map fun n=>AV.int .i64 n).length=i:=(by simp;omega);rw[qmp H T n b i _ hcb hcl (by omega)];have hbl:b<H.length:=(qqc.1 hcb).1;have h3':(H.set b .dead++[.cells ((l.take i).map (fun n=>AV.int .i64 n)++[.int .i64 n])])[U.H.length]?=some (.cells [.ms b 0 i 1]):=by
      rw[qqq (by simpa using hnl),qqf (by omega),h3]
     generalize hH':H.set b .dead++[.cells ((l.take i).map (fun n=>AV.int .i64 n)++[.int .i64 n])]=H' at h3';simp[-getElem?_pos,h3'];have hl':H'.length=H.length+1:=(by rw[<- hH'];simp);refine⟨h1,fun k hk=>?_,.ms H.length 0 (i+1) 1,?_,.inr ⟨H.length,rfl,by omega,hnl,?_⟩⟩
     . simp only;rw[qqf (by omega),<- hH',qqq (by simp;omega),qqf (by omega)];exact h2 k hk
     . simp only;rw[qqh (by omega)]
     . simp only;rw[qqf (by omega),htk,<- hH',qql (by simp)];simp
 . rintro τ ⟨h1,h2,w,h3,h4⟩;simp[-getElem?_pos,h3];refine⟨h1,h2,?_⟩;simp only[qqS,qsf]at h4;rcases h4 with ⟨h0,rfl⟩|⟨b,rfl,h0,hb,hc⟩
   . exact .inl ⟨qqv h0,rfl⟩
   . exact .inr ⟨b,rfl,fun e=>by rw[e]at h0;simp at h0,hc⟩
theorem qf9 (U:St)(l:List Int)(tok:Tok)(hlen:l.length<2 ^ 28) :
 qf Tryz.prog GG 113 [.fn 115 [] [.rptr [.sl 1 (Jl l) tok]]] U (SeqQ U l):=by
 refine qf.k qe Tryz.func113 rfl (by kernel_rfl) ?_;simp[-getElem?_pos];refine qc.acall (qbQ U l tok hlen) ?_;rintro v τ h;simp[-getElem?_pos];exact h
end Go.Proofs.YtkpkjbchlabaaaaGreatDoor
end
