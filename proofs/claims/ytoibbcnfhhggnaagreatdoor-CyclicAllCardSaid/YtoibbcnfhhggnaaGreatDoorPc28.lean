/- A part of the proof. -/
import Derived.Test.YtoibbcnfhhggnaaGreatDoorPc08
import Derived.RangeFuncBox
import Derived.RangeFuncLeaves
import Derived.Shelf.Abstract
import Derived.WalkKit
import Derived.OwnWalkIn
import Derived.TacticsInMore
import Derived.LoopNIn
import Derived.LoopIn
import Derived.RegionIn
import Derived.OrdersIn
set_option linter.unusedVariables false
set_option linter.unusedSimpArgs false
set_option maxRecDepth 100000
set_option maxHeartbeats 2000000
set_option linter.defProp false
section
namespace Go.Proofs.YtoibbcnfhhggnaaGreatDoor
open Go Go.Abs Go.RowKit Go.Shelf
section
attribute [local go_sem] Oper.semAt_some
theorem qoi {K:Kn}{l:List Int}{tok:Tok}{v:Value}(h:qf K (.sl 1 (l.map fun n=>[.int .i64 n]) tok) v) :
 ∃ a cap,v=.slice a l.length cap/\∀ j n,l[j]?=some n->∃ B off,a=some ⟨B,off,none⟩/\K.ro B (off+j)=some (.int .i64 n):=by
 simp only[qf]at h;rcases h with ⟨⟨a,rfl,_⟩,h0,_⟩|⟨B,off,cap,rfl,hcap,hrows,_⟩
 . have:l=[]:=by simpa using h0
   subst this;exact⟨a,0,rfl,fun j n e=>by simp at e⟩
 . refine⟨some ⟨B,off,none⟩,cap,by simp,fun j n e=>⟨B,off,rfl,?_⟩⟩;obtain⟨_,_,h3⟩:=qI.get B 1 _ off hrows j [.int .i64 n] (by simp[e]);simp only[ql,qf]at h3;obtain⟨⟨v,hv,rfl⟩,_⟩:=h3;simpa using hv
theorem fw214 (G:Glo)(l:List Int)(tok:Tok)(hlen:l.length<2 ^ 62):FwOk Tryz.prog G 139 [.rptr [.sl 1 (l.map fun n=>[.int .i64 n]) tok]] (fun _=>True) (l.map fun n=>.int .i64 n):=by
 refine⟨by kernel_rfl,?_⟩;intro w0 ro0 L K U w vcap S hw hcap _ hS hround;simp only[qh]at hcap;obtain⟨v0,vr,e0,hp,rfl⟩:=hcap;have evs:vcap = #[v0]:=by apply Array.ext';simpa using e0
 subst evs;simp only[qf,ql]at hp;obtain⟨Bs,os,rfl,⟨v,hro,hv⟩,_⟩:=hp;obtain⟨a0,cap,rfl,hcell⟩:=qoi hv;have hread:∀ K' U' w',K.le K'->WRel G w0 ro0 K' U' w'->w'.cell? ⟨Bs,os,none⟩=some (.slice a0 l.length cap):=fun K' U' w' h1 h2=>h2.ro _ _ _ (h1.ro _ _ _ hro)
 have hBs:=hread K U w (Kn.le_refl K) hw;refine callsIn_of_wp Tryz.func139 rfl trivial ?_ rfl;simp only[Tryz.ntmps139,qsz,qqm,qqK,Nat.reduceAdd,Nat.reduceSub,Array.replicate_succ,Array.replicate_zero,List.push_toArray,List.append_toArray,qqw,qqB]
 gi_wp2
 gi_loopw [7] (fun i wr=>∃ k:Nat,k<=l.length/\i=.int .i64 k/\∃ K' U',K.le K'/\WRel G w0 ro0 K' U' wr/\S k U')
  (fun i _=>l.length-(intOf i).toNat)
 case atStart=>exact⟨0,qr6 _,rfl,K,U,Kn.le_refl K,hw,hS⟩
 case round=>
  obtain⟨k,hk,rfl,K1,U1,hle1,hw1,hS1⟩:=hrel;by_cases hlt:k<l.length
  . obtain⟨B,off,rfl,hro1⟩:=hcell k l[k] (by simp[hlt]);have hcx:wr.cell? ⟨B,off+k,none⟩=some (.int .i64 l[k]):=hw1.ro _ _ _ (hle1.ro _ _ _ hro1);obtain⟨fn,tmps,assign,body,hy,hR⟩:=hround k (.int .i64 l[k]) U1 K1 wr (by simp[hlt]) hS1 hle1 hw1 _ rfl
    gi_wp2
    refine⟨rfl,hR.mono ?_⟩;rintro e W3 ⟨rfl,K2,U2,hle2,hw2,hS2⟩
    gi_wp2
    go_roundw
    case rel=>exact⟨k+1,by omega,by simp,K2,U2,Kn.le_trans hle1 hle2,hw2,hS2⟩
    case measure=>simp[intOf];omega
  . obtain rfl:k=l.length:=by omega
    gi_wp2
    refine bodyPost_end (results_none rfl _ _ _) rfl ?_;exact⟨⟨_,rfl⟩,K1,U1,hle1,hw1,by simpa using hS1⟩
end
section
attribute [local go_sem] Oper.semAt_some
def KQ {α:Type}(l:List α)(k:Nat):List α:=(l.drop (32*k)).take 32
def vM (n:Nat):Nat:=(n+31) / 32
theorem qkB {K:Kn}{sz:Nat}{rows:List (List AV)}{tok:Tok}{v:Value}(h:qf K (.sl sz rows tok) v) :
 ∃ a cap,v=.slice a rows.length cap/\rows.length<=cap/\(rows≠[]->∃ B off,a=some ⟨B,off,none⟩/\qI K B off sz rows):=by
 simp only[qf]at h;rcases h with ⟨⟨a,rfl,_⟩,h0,_⟩|⟨B,off,cap,rfl,hcap,hrows,_⟩
 . subst h0;exact⟨a,0,rfl,by simp,fun h=>absurd rfl h⟩
 . exact⟨_,cap,rfl,hcap,fun _=>⟨B,off,rfl,hrows⟩⟩
theorem fw190 (G:Glo)(rows:List (List AV))(tok:Tok)(hlen:rows.length<2 ^ 60):FwOk Tryz.prog G 89 [.rptr [.sl 4 rows tok],.rptr [.int .i64 32]] (fun _=>True) ((List.range (vM rows.length)).map fun k=>.sl 4 (KQ rows k) .none):=by
 refine⟨by kernel_rfl,?_⟩;intro w0 ro0 L K U w vcap S hw hcap _ hS hround;simp only[qh]at hcap;obtain⟨v0,vr,e0,hp,v1,vr1,rfl,hp1,rfl⟩:=hcap;have evs:vcap = #[v0,v1]:=by apply Array.ext';simpa using e0
 subst evs;simp only[qf,ql]at hp hp1;obtain⟨Bs,os,rfl,⟨v,hro,hv⟩,_⟩:=hp;obtain⟨Bn,on,rfl,⟨vn,hron,rfl⟩,_⟩:=hp1;obtain⟨a0,cap,rfl,hcap,hrows⟩:=qkB hv;have hread:∀ K' U' w',K.le K'->WRel G w0 ro0 K' U' w'->w'.cell? ⟨Bs,os,none⟩=some (.slice a0 rows.length cap):=fun K' U' w' h1 h2=>h2.ro _ _ _ (h1.ro _ _ _ hro)
 have hreadn:∀ K' U' w',K.le K'->WRel G w0 ro0 K' U' w'->w'.cell? ⟨Bn,on,none⟩=some (.int .i64 32):=fun K' U' w' h1 h2=>h2.ro _ _ _ (h1.ro _ _ _ hron)
 refine callsIn_of_wp Tryz.func89 rfl trivial ?_ rfl;simp only[Tryz.ntmps89,qsz,qqm,qqK,Nat.reduceAdd,Nat.reduceSub,Array.replicate_succ,Array.replicate_zero,List.push_toArray,List.append_toArray,qqw,qqB]
 gi_wp2
 gi_loopw [4] (fun i wr=>∃ k:Nat,k<=vM rows.length/\i=.int .i64 (32*k:Nat)/\∃ K' U',K.le K'/\WRel G w0 ro0 K' U' wr/\S k U')
  (fun i _=>rows.length+64-(intOf i).toNat)
 case atStart=>exact⟨0,qr6 _,rfl,K,U,Kn.le_refl K,hw,hS⟩
 case round=>
  obtain⟨k,hk,rfl,K1,U1,hle1,hw1,hS1⟩:=hrel;have c1:=hread K1 U1 wr hle1 hw1;have c2:=hreadn K1 U1 wr hle1 hw1;by_cases hlt:32*k<rows.length
  . have hne:rows≠[]:=(by intro e;rw[e]at hlt;simp at hlt);obtain⟨B,off,rfl,hrow⟩:=hrows hne
    gi_wp2
    gi_region
    obtain⟨e,he⟩:∃ e:Nat,e=min 32 (rows.length-32*k):=⟨_,rfl⟩;have hif:(if ((rows.length-32*k:Nat):Int)<32 then ((rows.length-32*k:Nat):Int) else 32)=(e:Int):=by
     split<;>omega
    have hif2:min (32:Int) ((rows.length-32*k:Nat):Int)=(e:Int):=by omega
    first | rw[hif] | rw[hif2]
    have hw2:=hw1.drew;have hkn:k<vM rows.length:=(by unfold vM;omega);have he0:0<e:=(by omega);have hel:32*k+e<=rows.length:=(by omega);have hw32:wrap64 ((32*k:Nat)+(e:Int))=((32*k+e:Nat):Int):=by
     rw[Int.natCast_add];unfold wrap64;omega
    have hpl:(KQ rows k).length=e:=(by simp[KQ];omega);have hpk:(rows.take (32*k+e)).drop (32*k)=KQ rows k:=by
     unfold KQ;rw[List.take_add,qr2 (by simp;omega),qqL (by simp;omega),qqw];apply qqW;intro j;simp only[qqR];split<;>split<;>first | rfl | omega | (symm;simp;omega) | (simp;omega)
    have hvr:qf K1 (.sl 4 (KQ rows k) .none) (.slice (some ⟨B,off+32*k*4,none⟩) e e):=by
     simp only[qf];right;refine⟨B,off+32*k*4,e,by rw[hpl],by rw[hpl];exact qqf _,?_,by simp[kA]⟩;have:=(qI.mono hle1 rows B off 4 hrow).sub (32*k) (32*k+e)
     rwa[hpk]at this
    obtain⟨fn,tmps,assign,body,hy,hR⟩:=hround k (.sl 4 (KQ rows k) .none) U1 K1 _ (by simp[hkn]) hS1 hle1 hw2 _ hvr;clear he hpl
    gi_wp2
    refine⟨rfl,hR.mono ?_⟩;rintro e' W3 ⟨rfl,K2,U2,hle2,hw3,hS2⟩;have c3:=hreadn K2 U2 W3 (Kn.le_trans hle1 hle2) hw3
    gi_wp2
    go_roundw
    case rel=>exact⟨k+1,by omega,by simp;omega,K2,U2,Kn.le_trans hle1 hle2,hw3,hS2⟩
    case measure=>simp[intOf];omega
  . obtain rfl:k=vM rows.length:=by unfold vM at *;omega
    gi_wp2
    refine bodyPost_end (results_none rfl _ _ _) rfl ?_;exact⟨⟨_,rfl⟩,K1,U1,hle1,hw1,by simpa using hS1⟩
end
end Go.Proofs.YtoibbcnfhhggnaaGreatDoor
end
section
namespace Go.Proofs.YtoibbcnfhhggnaaGreatDoor
open Go Go.Abs
abbrev JG (l:List Int):List (List AV):=l.map fun n=>[.int .i64 n]
def RowM (v:AV)(U:St)(l:List Int):Prop:=(l=[]/\v=.sl 0 [] .nil)\/∃ b,v=.ms b 0 l.length 1/\l≠[]/\U.H[b]?=some (.cells (l.map fun n=>.int .i64 n))
def SeqJ (U:St)(n0:Nat)(l:List Int)(i:Nat)(τ:St):Prop :=
 τ.T=U.T/\(∀ k<n0,τ.H[k]?=U.H[k]?)/\∃ v,τ.H[n0]?=some (.cells [v])/\((i=0/\v=.sl 0 [] .nil)\/∃ b,v=.ms b 0 i 1/\0<i/\n0<b/\τ.H[b]?=some (.cells ((l.take i).map fun n=>.int .i64 n)))
def SeqQ (U:St)(l:List Int)(v:AV)(τ:St):Prop:=τ.T=U.T/\(∀ k<U.H.length,τ.H[k]?=U.H[k]?)/\RowM v τ l
theorem qjJ (H:List Blk)(T:List (Option Nat))(n:Int):zs (Dof Tryz.prog) ⟨H,T⟩ 44 44 (.sl 0 [] .nil) (.sl 1 [[.int .i64 n]] .tight)=some (.ms H.length 0 1 1,⟨H++[.cells [.int .i64 n]],T⟩):=by
 simp[zs,z6,KK,qS,St.push]
theorem qmE (H:List Blk)(T:List (Option Nat))(n:Int)(b i:Nat)(c:List AV)(hb:H[b]?=some (.cells c))(hc:c.length=i)(hi:i<2 ^ 28):zs (Dof Tryz.prog) ⟨H,T⟩ 44 44 (.ms b 0 i 1) (.sl 1 [[.int .i64 n]] .tight)=some (.ms H.length 0 (i+1) 1,⟨H.set b .dead++[.cells (c++[.int .i64 n])],T⟩):=by
 have h1:i+1<=549755813888:=by omega
 have h2:c.take i=c:=qqg (by omega);simp[zs,z6,KK,qS,hb,h1,hc,h2]
theorem qbW (U:St)(l:List Int)(tok:Tok)(hlen:l.length<2 ^ 28) :
 qg Tryz.prog GG 186 [.sl 0 [] .nil,.fn 139 [] [.rptr [.sl 1 (JG l) tok]]] U (SeqQ U l):=by
 refine qg.kO ⟨true,[],[],[]⟩ qe Tryz.func186 rfl (by kernel_rfl) ?_;simp[-getElem?_pos];refine qbg (YJ _) (fun _=>True) (l.map fun n=>.int .i64 n) (SeqJ U U.H.length l) (by simp[ev]) (fw214 GG l tok (by omega)) (fun _ _ _=>trivial) ?_ ?_ ?_
 . refine⟨rfl,fun k hk=>?_,.sl 0 [] .nil,?_,.inl ⟨rfl,rfl⟩⟩
   . simp[qqe hk]
   . simp
 . rintro i v τ hi ⟨h1,h2,w,h3,h4⟩;obtain⟨n,hn,rfl⟩:∃ n,l[i]?=some n/\v=.int .i64 n:=by
    simp only[qqp,qqc]at hi;obtain⟨n,a,b⟩:=hi;exact⟨n,a,b.symm⟩
   have hil:i<l.length:=(qp5.1 hn).1;obtain⟨H,T⟩:=τ;simp only at h1 h2 h3 h4;simp[-getElem?_pos,h3];have hnl:U.H.length<H.length:=(qp5.1 h3).1;have htk:(l.take (i+1)).map (fun n=>AV.int .i64 n)=(l.take i).map (fun n=>AV.int .i64 n)++[.int .i64 n]:=by
    rw[qqE,hn];simp
   rcases h4 with ⟨rfl,rfl⟩|⟨b,rfl,hi0,hb,hcb⟩
   . rw[qjJ];simp[-getElem?_pos,qqe hnl,h3];refine⟨h1,fun k hk=>?_,.ms H.length 0 1 1,?_,.inr ⟨H.length,rfl,by omega,hnl,?_⟩⟩
     . simp only;rw[qp7 (by omega),qqe (by omega)];exact h2 k hk
     . simp only;rw[qqa (by simp;omega)]
     . simp only;rw[qp7 (by omega),qqd (qqf _),htk];simp
   . have hcl:((l.take i).map fun n=>AV.int .i64 n).length=i:=(by simp;omega);rw[qmE H T n b i _ hcb hcl (by omega)];have hbl:b<H.length:=(qp5.1 hcb).1;have h3':(H.set b .dead++[.cells ((l.take i).map (fun n=>AV.int .i64 n)++[.int .i64 n])])[U.H.length]?=some (.cells [.ms b 0 i 1]):=by
      rw[qqe (by simpa using hnl),qp7 (by omega),h3]
     generalize hH':H.set b .dead++[.cells ((l.take i).map (fun n=>AV.int .i64 n)++[.int .i64 n])]=H' at h3';simp[-getElem?_pos,h3'];have hl':H'.length=H.length+1:=(by rw[<- hH'];simp);refine⟨h1,fun k hk=>?_,.ms H.length 0 (i+1) 1,?_,.inr ⟨H.length,rfl,by omega,hnl,?_⟩⟩
     . simp only;rw[qp7 (by omega),<- hH',qqe (by simp;omega),qp7 (by omega)];exact h2 k hk
     . simp only;rw[qqa (by omega)]
     . simp only;rw[qp7 (by omega),htk,<- hH',qqd (by simp)];simp
 . rintro τ ⟨h1,h2,w,h3,h4⟩;simp[-getElem?_pos,h3];refine⟨h1,h2,?_⟩;simp only[qqI,qr5]at h4;rcases h4 with ⟨h0,rfl⟩|⟨b,rfl,h0,hb,hc⟩
   . exact .inl ⟨qqj h0,rfl⟩
   . exact .inr ⟨b,rfl,fun e=>by rw[e]at h0;simp at h0,hc⟩
theorem qgl (U:St)(l:List Int)(tok:Tok)(hlen:l.length<2 ^ 28) :
 qg Tryz.prog GG 137 [.fn 139 [] [.rptr [.sl 1 (JG l) tok]]] U (SeqQ U l):=by
 refine qg.k qe Tryz.func137 rfl (by kernel_rfl) ?_;simp[-getElem?_pos];refine qc.acall (qbW U l tok hlen) ?_;rintro v τ h;simp[-getElem?_pos];exact h
end Go.Proofs.YtoibbcnfhhggnaaGreatDoor
end
