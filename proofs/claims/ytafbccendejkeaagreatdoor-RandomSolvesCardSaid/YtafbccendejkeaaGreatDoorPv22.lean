import Derived.Test.YtafbccendejkeaaGreatDoorPv21
import Derived.Test.YtafbccendejkeaaGreatDoorRows
import Derived.Test.YtafbccendejkeaaGreatDoorTie
import Derived.Test.YtafbccendejkeaaGreatDoorCards
import Derived.ProofKit
import Derived.LaidMore
import Derived.OpenShut
import Derived.Stop.Joined
import Derived.SevenTiedAt
import Derived.WideKeyArgs
import Derived.MakeChecks
set_option maxRecDepth 100000
set_option maxHeartbeats 16000000
set_option linter.all false
namespace Go.Proofs.YtafbccendejkeaaGreatDoor
open Go Go.Abs Go.ChangeShapes Go.WideShapes Go.ChangeAt Go.RowKit Proofs.Tryz
def qrU:ownKnob prog.godebug=none:=by kernel_rfl
def Wc:laidOutB prog=true:=by kernel_rfl
def qy0:prog.globalNamed "testbench/lexer.keywords" = some 0:=by kernel_rfl
def qyc:(prog.globals[0]?).map (·.type)=some 223:=by kernel_rfl
/-- A list of texts that reads as a known one. -/
def qrC{H:Type}{enc:TypeId×Value->H}{w:World}{base:Nat}{held:Bool}{n:Nat}{cs:List Value}{p:List MemPlace}{K:List Str}
 (h:DataW.trod enc prog w base (fun _=>true) held n 223 cs=some (.slice (K.map fun k=>.lit (.string k)) [],p)) (hK:K≠[]):
 ∃v,cs=[v]/\qf (KMw w) (.sl 1 (K.map jo) .none) v:=by
 have hs:∀(m:Nat) (cs:List Value) (x:DataW H×List MemPlace),DataW.trod enc prog w base (fun _=>true) held m 9 cs=some x->∃k:Str,qi (KMw w) (jo k) cs/\x.1=.lit (.string k):=by
  intro m cs x h;obtain⟨s,rfl,rfl,_⟩:=DataW.trod_string underlying9 h;refine⟨s.data.toList,?_,rfl⟩;simp only[jo,qi];exact⟨_,[],rfl,qec,rfl⟩
 rcases DataW.trod_slice underlying223 h with⟨_,e⟩|⟨a,len,cap,elems,rest,m,hm,rfl,e,hb,hl,hc,hlen,hel',hsp,_⟩
 . simp at e
 simp only[qBs,DataW.slice.injEq]at e;obtain⟨⟨e1,e2⟩,_⟩:=e;have hlK:len=K.length:=by rw[<- hlen];have:=congrArg List.length e1;simpa using this.symm
 have hK0:0<K.length:=qBv.2 hK;rw[k9]at hel';have one:∀i (hi:i<K.length),∃cs',w.cells? base (a.add (i*1)) 1=some cs'/\qi (KMw w) (jo K[i]) cs':=by
  intro i hi;have hh:=hel' i (by omega);rw[qBc (by omega)]at hh;obtain⟨cs',h1,h2⟩:=qCM.1 hh;obtain⟨k,h3,h4⟩:=hs m cs' _ h2;refine⟨cs',h1,?_⟩;have e3:(elems.map (·.1))[i]?=(K.map fun k=>(DataW.lit (.string k):DataW H))[i]?:=by rw[e1]
  rw[qBD,qBD,qBc (by omega),qBc hi]at e3;simp only[qD0,qBu]at e3;rw[h4]at e3;have e4:k=K[i]:=by simpa using e3
  rw[<- e4];exact h3
 have spot:a.spot=none:=by
  obtain⟨cs',h1,_⟩:=one 0 hK0;rw[qCY]at h1;obtain⟨_,hlen',hc'⟩:=World.cells?_some h1;have:=hc' 0 (by omega);rw[qBc (by omega)]at this
  cases hs:a.spot with
  |none=>rfl
  | some s=>
   simp only[Addr.add,if_true]at this;unfold World.cell? at this;rw[hs]at this;split at this<;>simp at this
 obtain⟨b,o,s⟩:=a;simp only at spot;subst spot;refine⟨_,rfl,?_⟩;simp only[qf];refine .inr ⟨b,o,cap,by simp[hlK],by simp;omega,qF3 b 1 _ o fun i r e=>?_,trivial⟩;rw[qBD,qBj]at e;obtain⟨k,hk,rfl⟩:=e;obtain⟨hi,hk'⟩:=qBa.1 hk;obtain⟨cs',h1,h2⟩:=one i hi;rw[hk']at h2;obtain⟨_,hlen',hc'⟩:=World.cells?_some h1;obtain⟨g1,g2⟩:=qi.get h2;refine⟨rfl,rfl,qF2 b _ _ fun j z hz=>?_⟩;have hj:j=0:=by
  have:=(qBa.1 hz).1;simp at this;exact this
 subst hj;obtain⟨v,hv1,hv2⟩:=g2 0 z hz;refine⟨v,?_,hv2⟩;have:=hc' 0 (by omega);rw[hv1]at this;show w.cell? ⟨b,o+i*1+0,none⟩=some v;rw[<- this];congr 1;simp only[Addr.add,if_true];by_cases hi0:i*1=0
 . rw[if_pos hi0,hi0];simp
 rw[if_neg hi0];simp
abbrev qid:List (String×DataW Unit):=Rows.randomSolvesRow.laid
/-- What the condition gives: the keywords. -/
def qr5{W:World}(h:laidMetH prog qid W):qf (KMw W) (.rptr [.sl 1 (qdQ.map jo) .none]) (.pointer (some ⟨0,0,none⟩)):=by
 rw[MakeChecks.laidMetH_plain _ _ _ (by kernel_rfl)]at h;obtain⟨ps,⟨g0,t0,cs0,f0,p0,q0,_,_,_,_,⟨g1,t1,cs1,f1,p1,q1,_,_,_,_,⟨g2,t2,cs2,f2,p2,q2,_,_,_,_,⟨g3,t3,cs3,f3,p3,q3,hg,ht,hv,hd,_,_⟩,_⟩,_⟩,_⟩,_,_⟩:=h;obtain rfl:=Option.some.inj (qy0.symm.trans hg);obtain rfl:=Option.some.inj (qyc.symm.trans ht);obtain⟨v,e,hr⟩:=qrC (K:=qdQ) hd (by decide);have hcell:W.cell? ⟨0,0,none⟩=some v:=by
  have:=World.var?_cell hg hv 0;rw[Array.eq_one_of_toList e]at this;simpa using this
 have hgoal:qf (KMw W) (.rptr [.sl 1 (qdQ.map jo) .none]) (.pointer (some ⟨0,0,none⟩)):=by
  unfold qf;refine⟨0,0,rfl,?_⟩;unfold qn;exact⟨⟨v,hcell,hr⟩,by unfold qn;trivial⟩
 exact hgoal
def qoK(os:Os)(args:Array Value):laidMetH prog qid ((World.doorLaid prog 400 os).forCall (fun _ _=>0) ⟨#[],args,[]⟩).memory :=
 laidMetH_of_parts3 (fuel:=8) (laidMet_of_run' 8 (by kernel_rfl) (by kernel_rfl)) (by kernel_rfl) (by kernel_rfl)
def qkU{W:World}(hL:laidMetH prog qid W):∀g,qf (KMw W) (GG g) (.pointer (some ⟨g,0,none⟩)):=by
 intro g
 cases g with
 |zero=>exact qr5 hL
 |succ g=>simp only[GG,qf]
abbrev qyg(s:Str):List AV:=[.int .i64 2,.int .i64 0,.str s,.sl 0 [] .nil]
def qm9(s):zm (qyg s) (qp (wS s)):=by
 rw[qc];simp[wS,zm,Leq]
structure NearK(k)(c:List AV)(Y):Prop where
 len:c.length=4
 atoms:c.all AV.atom=true
 fz:∀H j,k<=j->zm (c.map (frz H j)) (qp Y)/\qx (c.map (frz H j))=true/\(c.map (frz H j)).all AV.atom=true
def NearK.mono{k k' c Y}(h:NearK k c Y)(hk:k<=k'):NearK k' c Y:=⟨h.len,h.atoms,fun H j hj=>h.fz H j (by omega)⟩
def qa6{H j}:∀{c:List AV},qx c=true->c.map (frz H j)=c
 |[],_=>rfl
 | a::r,h=>by
  simp only[qx,qBf]at h;rw[qBn,qs h.1,qa6 h.2]
def vD{H j}:∀{c:List (List AV)},q9 c=true->c.map (·.map (frz H j))=c
 |[],_=>rfl
 | a::r,h=>by
  simp only[q9,qBf]at h;rw[qBn,qa6 h.1,vD h.2]
def qsD{H j rows tok}(hn:q9 (rows.map (·.map (frz H j)))=true)(ha:(rows.map (·.map (frz H j))).all (·.all AV.atom)=true):
 ∃tok',frz H (j+1) (.sl 4 rows tok)=.sl 4 (rows.map (·.map (frz H j))) tok'/\qL (.sl 4 (rows.map (·.map (frz H j))) tok')=true:=by
 by_cases h:qL (.sl 4 rows tok)=true
 . have hr:q9 rows=true:=by
    cases tok with
    |chain=>simp[qL]at h
    |_=>simpa[qL] using h
   rw[vD hr];exact⟨tok,qs h,h⟩
 refine⟨.none,?_,by simp only[qL,hn];rfl⟩;rw[frz,if_neg h,if_pos ha]
def qgh{k:Nat}{o n:Int}{s:Str}{rows:List (List AV)}{args:List Ex}{tok:Abs.Tok}(h:∀H j,k<=j->yq (rows.map (·.map (frz H j))) (args.map qp)/\q9 (rows.map (·.map (frz H j)))=true/\(rows.map (·.map (frz H j))).all (·.all AV.atom)=true):
 NearK (k+1) [.int .i64 o,.int .i64 n,.str s,.sl 4 rows tok] (.mk o n s args):=by
 refine⟨rfl,rfl,fun H j hj=>?_⟩;obtain⟨j,rfl⟩:∃i,j=i+1:=⟨j-1,by omega⟩;obtain⟨h1,h2,h3⟩:=h H j (by omega);obtain⟨tok',e,hn⟩:=qsD (tok:=tok) h2 h3;have e2:[AV.int .i64 o,.int .i64 n,.str s,.sl 4 rows tok].map (frz H (j+1))=[.int .i64 o,.int .i64 n,.str s,.sl 4 (rows.map (·.map (frz H j))) tok']:=by
  simp only[qBn,qBN,Zw,qeQ,e]
 rw[e2];refine⟨?_,by simp only[qx,hn];simp[qL],rfl⟩;rw[qc];simp only[zm,Leq,and_true,true_and,qFu,Ex.n_mk,qFv,qFw];exact .inr ⟨h1,.inl trivial⟩
def qsd{k c d Y Z tok}(hc:NearK k c Y)(hd:NearK k d Z):NearK (k+1) [.int .i64 20,.int .i64 0,.str [],.sl 4 [c,d] tok] (orE Y Z) :=
 qgh (args:=[Y,Z]) fun H j hj=>by
  obtain⟨h1,h2,h3⟩:=hc.fz H j hj;obtain⟨g1,g2,g3⟩:=hd.fz H j hj;simp only[qBn,qBN];refine⟨Ql (.inr ⟨h1,jw _⟩) (Ql (.inr ⟨g1,jw _⟩) qgq),by simp[h2,g2],by simp only[qCz,qFp,h3,g3];rfl⟩
def JC(n:Int):List AV:=qp (jH n)
def qwj(H s n)(hs:s.length<2^20):qr (Dof prog) ⟨H,ky [] s⟩ 23 (ZF 4 JC 0 s) (.sl 4 [JC n] .tight)=some (ZF 4 JC 0 (s++[n]),⟨H,ky [] (s++[n])⟩) :=
 wn (D:=Dof prog) (sz:=4) (T:=[]) (H:=H) (m:=[n]) (en:=JC) D23 rfl D79 rfl (by decide) rfl (by decide) (by simp only[qBK];omega) 4 (.inl rfl)
def qo8(f N n):(qiD f N n).length<=2:=by
 unfold qiD;split
 . split<;>split<;>simp
 simp
def qbp(f N):∀k,(qdz f N k).length<=2*k
 |0=>by simp[qdz]
 | k+1=>by
  have:=qbp f N k;have:=qo8 f N k;rw[WM,qBe];omega
def QS:∀l:List Rg,(jl l).map JC=(km l).map qp
 |[]=>rfl
 | r::l=>by
  show JC r.1::JC r.2::(jl l).map JC=qp (jH r.1)::qp (jH r.2)::(km l).map qp;rw[QS l];rfl
def quG(B:List Int){j}(h:32*j<B.length)(tok):∃tok',zl (.sl 4 (B.map JC) tok) (some (.int .i64 ((32*j:Nat):Int))) (some (.int .i64 ((min (32*j+32) B.length:Nat):Int))) none=some (.sl 4 (((B.drop (32*j)).take 32).map JC) tok'):=by
 have e:((B.map JC).take (min (32*j+32) B.length)).drop (32*j)=((B.drop (32*j)).take 32).map JC:=by
  rw[<- List.map_take,<- List.map_drop,qFe];congr 1;by_cases hb:32*j+32<=B.length
  . rw[qCw hb];congr 1;omega
  rw[qEn (by omega),qBh (by simp),qBh (by simp;omega)]
 refine⟨zU B.length (32*j) (min (32*j+32) B.length) none tok,?_⟩;rw[<- e];simp only[zl,zS,vk,ki,qBM,qBF,qDH];rw[if_pos]
 . simp
 refine⟨by omega,by omega,by omega,trivial⟩
def NearK.agg{k n c Y}(h:NearK k c Y)(hk:k<=n)(H):qL (frz H (n+1) (.agg c))=true/\Leq (frz H (n+1) (.agg c)) (.agg (qp Y)):=by
 obtain⟨h1,h2,h3⟩:=h.fz H n hk;by_cases hn:qL (.agg c)=true
 . have hn2:qx c=true:=(by simpa[qL] using hn);rw[qa6 hn2]at h1;rw[qs hn];exact⟨hn,by simpa[Leq] using h1⟩
 have e:frz H (n+1) (.agg c)=.agg (c.map (frz H n)):=by rw[frz,if_neg hn]
 rw[e];exact⟨by simpa[qL] using h2,by simpa[Leq] using h1⟩
def qko(s)(PP:List Rg)(tok):NearK 1 [.int .i64 23,.int .i64 0,.str [],.sl 4 (qyg s::(km PP).map qp) tok] (Qp s PP) :=
 qgh (k:=0) (args:=wS s::km PP) fun H j _=>by
  have hn:=qu9 (km PP);have hr:q9 (qyg s::(km PP).map qp)=true:=by simp only[q9,qBf];exact⟨by simp[qx,qL],hn⟩
  rw[vD hr];refine⟨?_,hr,?_⟩
  . rw[qBn];exact Ql (.inr ⟨qm9 s,jw _⟩) (WV _)
  simp only[qCz,qBf];refine⟨by simp[AV.atom],?_⟩;rw[qBk];intro x hx;obtain⟨e,_,rfl⟩:=qBA.1 hx;exact jw e
def qAk(P:List AV)(D:List AV)(V:List AV)(f:Nat->Bool)(N k:Nat)(ev:Env)(U:St):Prop :=
 ev 3=.ptr 1 0/\ev 4=.ptr 2 0/\ev 5=.ptr 3 0/\ev 6=ZF 4 JC 0 (qdz f N k)/\ev 7=.int .i64 k/\U=⟨[.cells P,.cells D,.cells [.int .i64 0,.int .i64 0,.str [],.sl 0 [] .nil],.cells V],ky [] (qdz f N k)⟩
def qel(p:Problem)(d:Dist)(v:Var)(i:Nat)(hi:d.var=i)(hv:p.vars[i]?=some v)(hvl:p.vars.length<=1000)(hw0:0<=v.width)(hw8:v.width<=8)(hf:Fits d.weights)(hrl:(QL (ZJ v d.weights)).length<=112):
 Pure prog GG 103 [.agg (qu p),.agg (zn d)] (.agg (qp (vQ p.vars d))):=by
 refine qFx o0 true qX func103 rfl (by kernel_rfl) ?_;have hs:=wN (w:=v.width) hw0 (by omega);have hsz:=YN hw8;rw[qb4]at hrl;rw[show vQ p.vars d=kh v.name (QL (ZJ v d.weights)) by unfold vQ;rw[hi,qBF,hv],qb4];have hwn:¬v.width<0:=by omega
 have hil:=(qBa.1 hv).1;have hszd:zP v=2^v.width.toNat:=rfl;rw[<- hszd]at hs;have hpos:=fun n:Int=>qev d.weights n hf
 have hnum:=qhM;have hb:=qo7 (fun n=>vT d.weights n) (zP v);have hfn:∀n:Nat,vT d.weights (n:Int)=(fun n:Nat=>vT d.weights n) n:=fun n=>rfl
 have hbl:=qbp (fun n=>vT d.weights n) (zP v);generalize hF:(fun n:Nat=>vT d.weights (n:Int))=f at *;generalize hN:zP v=N at *;generalize hU:kh v.name (kJ f N)=U_ at *;have hE:=qc U_;simp only[hE];simp[hi,hv,qG];obtain⟨P,hP⟩:∃P,P=qu p:=⟨_,rfl⟩;refine qFE (fun m ev U=>∃k,m=N-k/\k<=N/\qAk P (zn d) (qG v) f N k ev U) N ?_ ?_
 . refine⟨0,by omega,by omega,by simp,by simp,by simp,by simp[qdz],by simp,?_⟩;rw[hP];simp[qdz,qG,hi]
 rintro m ev U R hR ⟨k,rfl,hk,e3,e4,e5,e6,e7,rfl⟩;by_cases hlt:k<N
 . have hlt':(k:Int)<N:=(by omega);have hw:=wr (n:=(k:Int)+1) (by omega) (by omega);have hwN:=wr (n:=(N:Int)) (by omega) (by omega);have hw2:=wr (n:=(k:Int)-1) (by omega) (by omega);have hgo:∀ev' T',ev' 3=.ptr 1 0->ev' 4=.ptr 2 0->ev' 5=.ptr 3 0->ev' 6=ZF 4 JC 0 (qdz f N (k+1))->ev' 7=.int .i64 ((k:Int)+1)->T'=ky [] (qdz f N (k+1))->R ev' ⟨[.cells P,.cells (zn d),.cells [.int .i64 0,.int .i64 0,.str [],.sl 0 [] .nil],.cells (qG v)],T'⟩:=by
    rintro ev' T' a3 a4 a5 a6 a7 rfl;exact hR (N-(k+1)) _ _ (by omega) ⟨k+1,rfl,by omega,a3,a4,a5,a6,by rw[a7];simp,rfl⟩
   rw[WM]at hgo;have hpk:=hpos k;have hpk1:=hpos (k+1);have hpk2:=hpos (k-1);simp only[qG,zn,hi]at hgo hpk hpk1 hpk2⊢;simp[e3,e5,e7,hs,hwn,IntKind.bits,hlt'];refine qFz (G:=zh GG) hpk (by simp) ?_;rw[hfn k]
   cases hfk:f k with
   | false=>
    have hb1:qiD f N k=[]:=(by unfold qiD;rw[hfk];rfl);rw[hb1,qBU]at hgo;simp[unA,e7,hw];exact hgo _ _ (by simp[e3]) (by simp[e4]) (by simp[e5]) (by simp[e6]) (by simp) rfl
   | true=>
    have hfm:k≠0->vT d.weights ((k:Int)-1)=f (k-1):=fun h=>by
     rw[show((k:Int)-1)=((k-1:Nat):Int) by omega];exact hfn _
    have hfp:vT d.weights ((k:Int)+1)=f (k+1):=hfn (k+1);have hnk:=hnum k;have hL:∀L:List Int,L.length<=1->(qdz f N k++L).length<2^20:=fun L hL=>by
     have:=qbp f N k;rw[qBe];omega
    have hr:=fun n:Int=>(show JC n=[.int .i64 1,.int .i64 n,.str [],.sl 4 [] .none] by simp[JC,jH,qc])
    have hap:=fun(L:List Int) (hl:L.length<=1)=>qwj [.cells P,.cells [.int .i64 i,.sl 4 (d.weights.map qy) .none],.cells [.int .i64 0,.int .i64 0,.str [],.sl 0 [] .nil],.cells [.str v.name,.int .i64 v.width,.int .i64 v.mode,.int .i64 v.value]] (qdz f N k++L) k (hL L hl)
    have hap0:=hap [] (by simp);have hap1:=hap [(k:Int)] (by simp);rw[qBU]at hap0;rw[hr]at hap0 hap1;change Pure _ _ _ _ (.agg (JC k)) at hnk;rw[hr]at hnk;have hA:k=0\/(k≠0/\f (k-1)=false)\/(k≠0/\f (k-1)=true):=by
     by_cases h:k=0
     . exact .inl h
     cases h2:f (k-1)
     . exact .inr (.inl ⟨h,rfl⟩)
     exact .inr (.inr ⟨h,rfl⟩)
    have hB:k+1=N\/(k+1≠N/\f (k+1)=false)\/(k+1≠N/\f (k+1)=true):=by
     by_cases h:k+1=N
     . exact .inl h
     cases h2:f (k+1)
     . exact .inr (.inl ⟨h,rfl⟩)
     exact .inr (.inr ⟨h,rfl⟩)
    have hb1:qiD f N k=(if k=0\/f (k-1)=false then [(k:Int)] else [])++(if k+1=N\/f (k+1)=false then [(k:Int)] else []):=by
     unfold qiD;rw[if_pos hfk]
    rw[hb1]at hgo;rcases hA with hk0|⟨hk0,hkf⟩|⟨hk0,hkf⟩
    . rw[if_pos (.inl hk0)]at hgo;simp[unA,e3,e6,e7];refine⟨fun h=>absurd hk0 h,fun _=>?_⟩;refine qFz (G:=zh GG) hnk rfl ?_;simp[e5,e7,qe,ql,hap0];rcases hB with hB|⟨hB1,hB2⟩|⟨hB1,hB2⟩
      . have hB':(k:Int)+1=N:=(by omega);rw[if_pos (.inl hB)]at hgo;simp[e7,hs,hwn,IntKind.bits,hwN,hB'];refine qFz (G:=zh GG) hnk rfl ?_;simp[e7,hw,qe,ql,hap1];exact hgo _ _ (by simp[e3]) (by simp[e4]) (by simp[e5]) (by simp) (by simp[hB']) (by simp)
      . have hB':¬(k:Int)+1=N:=(by omega);rw[if_pos (.inr hB2)]at hgo;rw[hfp,hB2]at hpk1;simp[e3,e7,hs,hwn,IntKind.bits,hw,hB'];refine qFz (G:=zh GG) hpk1 (by simp) ?_;simp[unA,e7,hB'];refine qFz (G:=zh GG) hnk rfl ?_;simp[e7,hw,qe,ql,hap1];exact hgo _ _ (by simp[e3]) (by simp[e4]) (by simp[e5]) (by simp) (by simp) (by simp)
      have hB':¬(k:Int)+1=N:=(by omega);rw[if_neg (fun h=>by rcases h with h|h;exact hB1 h;rw[hB2]at h;cases h)]at hgo;rw[hfp,hB2]at hpk1;simp[e3,e7,hs,hwn,IntKind.bits,hw,hB'];refine qFz (G:=zh GG) hpk1 (by simp) ?_;simp[unA,e7,hw,hB'];exact hgo _ _ (by simp[e3]) (by simp[e4]) (by simp[e5]) (by simp[]) (by simp) (by simp)
    . have hk0':¬(k:Int)=0:=(by omega);rw[if_pos (.inr hkf)]at hgo;rw[hfm hk0,hkf]at hpk2;simp[unA,e3,e6,e7,hk0,hw2];refine qFz (G:=zh GG) hpk2 (by simp) ?_;simp[unA,e6,e7];refine qFz (G:=zh GG) hnk rfl ?_;simp[e5,e7,qe,ql,hap0];rcases hB with hB|⟨hB1,hB2⟩|⟨hB1,hB2⟩
      . have hB':(k:Int)+1=N:=(by omega);rw[if_pos (.inl hB)]at hgo;simp[e7,hs,hwn,IntKind.bits,hwN,hB'];refine qFz (G:=zh GG) hnk rfl ?_;simp[e7,hw,qe,ql,hap1];exact hgo _ _ (by simp[e3]) (by simp[e4]) (by simp[e5]) (by simp) (by simp[hB']) (by simp)
      . have hB':¬(k:Int)+1=N:=(by omega);rw[if_pos (.inr hB2)]at hgo;rw[hfp,hB2]at hpk1;simp[e3,e7,hs,hwn,IntKind.bits,hw,hB'];refine qFz (G:=zh GG) hpk1 (by simp) ?_;simp[unA,e7,hB'];refine qFz (G:=zh GG) hnk rfl ?_;simp[e7,hw,qe,ql,hap1];exact hgo _ _ (by simp[e3]) (by simp[e4]) (by simp[e5]) (by simp) (by simp) (by simp)
      have hB':¬(k:Int)+1=N:=(by omega);rw[if_neg (fun h=>by rcases h with h|h;exact hB1 h;rw[hB2]at h;cases h)]at hgo;rw[hfp,hB2]at hpk1;simp[e3,e7,hs,hwn,IntKind.bits,hw,hB'];refine qFz (G:=zh GG) hpk1 (by simp) ?_;simp[unA,e7,hw,hB'];exact hgo _ _ (by simp[e3]) (by simp[e4]) (by simp[e5]) (by simp[]) (by simp) (by simp)
    have hk0':¬(k:Int)=0:=(by omega);rw[if_neg (fun h=>by rcases h with h|h;exact hk0 h;rw[hkf]at h;cases h)]at hgo;rw[hfm hk0,hkf]at hpk2;simp[unA,e3,e6,e7,hk0,hw2];refine qFz (G:=zh GG) hpk2 (by simp) ?_;simp[unA,e5,e7];rcases hB with hB|⟨hB1,hB2⟩|⟨hB1,hB2⟩
    . have hB':(k:Int)+1=N:=(by omega);rw[if_pos (.inl hB)]at hgo;simp[e6,e7,hs,hwn,IntKind.bits,hwN,hB'];refine qFz (G:=zh GG) hnk rfl ?_;simp[e7,hw,qe,ql,hap0];exact hgo _ _ (by simp[e3]) (by simp[e4]) (by simp[e5]) (by simp) (by simp[hB']) (by simp)
    . have hB':¬(k:Int)+1=N:=(by omega);rw[if_pos (.inr hB2)]at hgo;rw[hfp,hB2]at hpk1;simp[e3,e6,e7,hs,hwn,IntKind.bits,hw,hB'];refine qFz (G:=zh GG) hpk1 (by simp) ?_;simp[unA,e6,e7,hB'];refine qFz (G:=zh GG) hnk rfl ?_;simp[e7,hw,qe,ql,hap0];exact hgo _ _ (by simp[e3]) (by simp[e4]) (by simp[e5]) (by simp) (by simp) (by simp)
    have hB':¬(k:Int)+1=N:=(by omega);rw[if_neg (fun h=>by rcases h with h|h;exact hB1 h;rw[hB2]at h;cases h)]at hgo;rw[hfp,hB2]at hpk1;simp[e3,e6,e7,hs,hwn,IntKind.bits,hw,hB'];refine qFz (G:=zh GG) hpk1 (by simp) ?_;simp[unA,e7,hw,hB'];exact hgo _ _ (by simp[e3]) (by simp[e4]) (by simp[e5]) (by simp[e6]) (by simp) (by simp)
 have hkN:k=N:=by omega
 subst hkN;have hlt':¬(k:Int)<k:=by omega
 rw[hb]at e6⊢;have hRl:(kJ f k).length<=k:=by
  have h1:=hbl k;rw[hb,Jf]at h1;omega
 have hn0:=hnum 0;change Pure _ _ _ _ (.agg (JC 0)) at hn0;have hr:=fun n:Int=>(show JC n=[.int .i64 1,.int .i64 n,.str [],.sl 4 [] .none] by simp[JC,jH,qc])
 rw[hr]at hn0;simp only[qG,zn,hi];simp[e5,e7,hs,hwn,IntKind.bits,hlt'];refine qFz (G:=zh GG) hn0 rfl ?_;generalize kJ f k=RG at *;simp[qM];refine qFE (fun m ev U=>∃(j:Nat) (c:List AV) (out:Ex) (t:List Blk) (T:List (Option Nat)),m=RG.length-16*j/\16*j<RG.length+16/\ev 4=.ptr 2 0/\ev 5=.ptr 3 0/\ev 6=ZF 4 JC 0 (jl RG)/\ev 8=.ptr 4 0/\ev 9=.int .i64 ((32*j:Nat):Int) /\
  U=⟨.cells P::.cells [.int .i64 i,.sl 4 (d.weights.map qy) .none]::.cells [.int .i64 0,.int .i64 0,.str [],.sl 0 [] .nil]::.cells [.str v.name,.int .i64 v.width,.int .i64 v.mode,.int .i64 v.value]::.cells c::t,T⟩/\NearK j c out /\
  ((j=0/\out=jH 0)\/(0<j/\∃kk,(RG.drop (16*j)).length<=kk/\U_=QB v.name out (z6 16 kk (RG.drop (16*j)))))) RG.length ?_ ?_
 . refine⟨0,_,jH 0,[],_,by omega,by omega,by simp[e4],by simp[e5],by simp[e6],by simp,by simp,rfl,?_,.inl ⟨rfl,rfl⟩⟩;refine⟨rfl,rfl,fun H j _=>?_⟩;rw[qa6 (by simp[qx,qL])];have:=qFH (JC 0);rw[hr]at this;refine⟨?_,by simp[qx,qL],rfl⟩;rw[show qp (jH 0)=JC 0 from rfl,hr];exact this
 rintro m ev U R hR ⟨j,c,out,t,T,rfl,hj,e4,e5,e6,e8,e9,rfl,hnear,hst⟩;obtain⟨c0,c1,c2,c3,rfl⟩:∃c0 c1 c2 c3,c=[c0,c1,c2,c3]:=by
  have:=hnear.len
  match c,this with
  |[c0,c1,c2,c3],_=>exact⟨c0,c1,c2,c3,rfl⟩
 have hac:=qmd hnear.atoms;have hfl:=Jf RG;by_cases hlt:16*j<RG.length
 . have hB:32*j<(jl RG).length:=(by omega);have hlt':((32*j:Nat):Int)<((jl RG).length:Nat):=(by omega);obtain⟨a,q,hq⟩:∃a q,jl RG=a::q:=by
    cases h:jl RG with
    |nil=>rw[h]at hB;simp at hB
    |cons a q=>exact⟨a,q,rfl⟩
   have e6':ev 6=.sl 4 ((jl RG).map JC) (.chain 0 (jl RG).length):=(by rw[e6,hq];rfl);obtain⟨tok',hsl⟩:=quG (jl RG) hB (.chain 0 (jl RG).length);have hcut:=qim RG j;rw[hcut,QS ((RG.drop (16*j)).take 16)]at hsl;have hw1:=wr (n:=((32*j:Nat):Int)+32) (by omega) (by omega);have hmin:w6 (.int .i64 (((32*j:Nat):Int)+32)) (.int .i64 ((jl RG).length:Nat))=some (.int .i64 ((min (32*j+32) (jl RG).length:Nat):Int)):=by
    simp only[w6];congr 2;split<;>omega
   have hPl:((RG.drop (16*j)).take 16).length<=16:=(by simp;omega);have hPne:(RG.drop (16*j)).take 16≠[]:=fun h=>by
    have:=congrArg List.length h;simp at this;omega
   generalize hPP:(RG.drop (16*j)).take 16=PP at *;have hnl:((km PP).map qp).length<=32:=(by rw[<- QS,qBM,Jf];omega);have hnne:(km PP).map qp≠[]:=fun h=>hPne (by
    have:=congrArg List.length h;rw[<- QS,qBM,Jf]at this;refine qBo ?_;simp only[qB0]at this;omega)
   have hlP:=WV ((km PP).map qp);generalize hNN:(km PP).map qp=NN at *;generalize hBB:(jl RG).map JC=BB at *;generalize hb':(jl RG).length=b at *;generalize hmm:min (32*j+32) b=mm at *;have hN1:1+NN.length<=549755813888:=(by omega);have hBl:BB.length=b:=(by rw[<- hBB,qBM,hb']);simp[-qV,-Int.natCast_mul,hac,e5,e6',e8,e9,hBl,hlt',hw1,hmin,hsl,zt,zX,qM,qe,ql,qr,qZ,hnne,hN1];have hne:=fun k' (h:k'≥1)=>(qko v.name PP (.chain T.length NN.length)).mono h
   rw[hNN]at hne;have hdl:(RG.drop (16*(j+1)))=(RG.drop (16*j)).drop 16:=(by rw[qEw];congr 1);refine⟨fun h0=>?_,fun h0=>?_⟩
   . have hj0:j=0:=(by omega);subst hj0;refine hR (RG.length-16*(0+1)) _ _ (by omega) ⟨1,_,Qp v.name PP,_,_,by omega,by omega,by simp[e4],by simp[e5],by simp[e6],by simp[e8],by simp,rfl,hne 1 (by omega),.inr ⟨by omega,RG.length,by simp,?_⟩⟩;have hRne:RG≠[]:=fun h=>by rw[h]at hlt;simp at hlt
     rw[<- hU];unfold kh;rw[if_neg hRne,<- hPP];rfl
   obtain⟨kk,hkk,hUk⟩:∃kk,(RG.drop (16*j)).length<=kk/\U_=QB v.name out (z6 16 kk (RG.drop (16*j))):=by
    rcases hst with⟨rfl,_⟩|⟨_,h⟩
    . omega
    exact h
   have hor:=qsd (tok:=.tight) hnear (hne j (by omega));have hRd:RG.drop (16*j)≠[]:=fun h=>by
    have:=congrArg List.length h;simp at this;omega
   obtain⟨kk,rfl⟩:∃k',kk=k'+1:=⟨kk-1,by
    have:=qBv.2 hRd;omega⟩
   rw[z6,if_neg hRd,hPP]at hUk;refine hR (RG.length-16*(j+1)) _ _ (by omega) ⟨j+1,_,orE out (Qp v.name PP),_,_,rfl,by omega,by simp[e4],by simp[e5],by simp[e6],by simp[e8],by simp;omega,rfl,hor,.inr ⟨by omega,kk,?_,?_⟩⟩
   . rw[hdl,qC5];omega
   rwa[hdl]
 have hUo:U_=out:=by
  rcases hst with⟨rfl,rfl⟩|⟨_,kk,_,h⟩
  . have:RG=[]:=qBo (by omega);rw[<- hU,this];rfl
  rw[show RG.drop (16*j)=[] by simp;omega]at h
  rwa[show z6 16 kk ([]:List Rg)=[] by cases kk<;>simp[z6]]at h
 subst hUo;obtain⟨sz6,tok6,h6⟩:∃sz tok,ZF 4 JC 0 (jl RG)=.sl sz ((jl RG).map JC) tok:=by
  cases jl RG with
  |nil=>exact⟨_,_,rfl⟩
  |cons a q=>exact⟨_,_,rfl⟩
 rw[h6]at e6;simp[-qV,-fin,-k0,-vU,-Int.natCast_mul,hac,e4,e6,e8,e9,show ¬((32*j:Nat):Int)<((jl RG).length:Nat) by omega];have hj7:j<=7:=by
  rcases hst with⟨rfl,_⟩|_<;>omega
 have:=hnear.agg (n:=7) (by omega);rw[hE]at this;exact this _
def qwk(H s e)(hs:s.length<2^30):qr (Dof prog) ⟨H,ky [] s⟩ 23 (ZF 4 qp 0 s) (.sl 4 [qp e] .tight)=some (ZF 4 qp 0 (s++[e]),⟨H,ky [] (s++[e])⟩) :=
 wn (D:=Dof prog) (sz:=4) (T:=[]) (H:=H) (m:=[e]) (en:=qp) D23 rfl D79 rfl (by decide) rfl (by decide) (by simp only[qBK];omega) 4 (.inl rfl)
def KK(p)(h:VQ p)(hfl:p.groups.flatten.length<4611686018427387904)(hd:p.dists.length<=10000)(hrl:∀d∈p.dists,∀v:Var,(QL (ZJ v d.weights)).length<=112):Pure prog GG 58 [.agg (qu p)] (.sl 4 ((jJ p).map qp) .none):=by
 refine okzP func58 rfl rfl ?_;have hval:=YH p h hfl;simp only[qu]at hval;by_cases hv:qg p=0
 case neg=>
  have:jJ p=[]:=if_neg hv;rw[this];simp;refine qFz (G:=zh GG) hval (by simp) ?_;simp[hv,Leq]
 have hs:jJ p=p.dists.map (vQ p.vars):=if_pos hv;rw[hs];obtain⟨S,hS⟩:∃S,S=p.dists.map (vQ p.vars):=⟨_,rfl⟩;rw[<- hS];simp;refine qFz (G:=zh GG) hval (by simp) ?_;simp[hv];have hvd:=qd7 hv;refine qFD p.dists (fun d ev U=>ev 1=.ptr 0 0/\ev 3=ZF 4 qp 0 (d.map (vQ p.vars))/\ev 4=.int .i64 d.length/\U=⟨[.cells (qu p)],ky [] (d.map (vQ p.vars))⟩) ?_ ?_ ?_
 . simp
 . rintro d x rest ev U hd2 hx hlt ⟨e1,e3,e4,rfl⟩;have hdw:=wr (n:=(d.length:Int)+1) (by omega) (by omega);have hm:=qBb hx;obtain⟨i,v,hi,hvi⟩:=hvd x hm;have hvw:=zf (z5 hv v (qBb hvi));have hsup:=qel p x v i hi hvi h.vars (by omega) (by omega) (h.weights x hm) (hrl x hm v);have hml:(d.map (vQ p.vars)).length=d.length:=(by simp);rw[show(d++[x]).map (vQ p.vars)=d.map (vQ p.vars)++[vQ p.vars x] by simp];generalize vQ p.vars x=X at *;generalize d.map (vQ p.vars)=D at *;have ha:=yP X;have hl4:=zj X;have happ:=qwk [.cells (qu p)] D X (by omega);simp only[qu]at hsup happ;simp[-getElem?_pos,-qV,e1,e3,e4,hlt,hx];refine qFz (G:=zh GG) hsup (by simp) ?_;simp[-qV,ha,hl4,e1,e4,hdw,qe,ql,happ]
 rintro ev U ⟨e1,e3,e4,rfl⟩;rw[<- hS]at e3⊢;simp[-fin,-k0,-vU,e1,e3,e4]
def qhO(op:Int)(x y:Nat)(hx:x<65536)(hy:y<65536):Pure prog GG 328 [.int .i64 op,.int .i64 x,.int .i64 y] (.int .i64 (j4 op x y)):=by
 refine okzQ func328 rfl rfl ?_;by_cases h7:op=7
 . subst h7;simp;refine qFJ (qj0 x y) rfl ?_;simp[j4]
 by_cases h8:op=8
 . subst h8;simp;refine qFJ (qrs x y) rfl ?_;simp[j4]
 by_cases h9:op=9
 . subst h9;simp;refine qFJ (qrw x y) rfl ?_;simp[j4]
 by_cases h10:op=10
 . subst h10;have hb:j4 10 x y=((x &&& y:Nat):Int):=(by simp[j4]);rw[hb];simp;refine qFJ (qrE x y hx hy) rfl ?_;simp
 by_cases h11:op=11
 . subst h11;have hb:j4 11 x y=((x ||| y:Nat):Int):=(by simp[j4]);rw[hb];simp;refine qFJ (quQ x y hx hy) rfl ?_;simp
 by_cases h12:op=12
 . subst h12;have hb:j4 12 x y=((x ^^^ y:Nat):Int):=(by simp[j4]);rw[hb];simp;refine qFJ (qrr x y hx hy) rfl ?_;simp
 by_cases h13:op=13
 . subst h13;simp;refine qFJ (qrt x y) rfl ?_;simp[j4,qtL]
 by_cases h14:op=14
 . subst h14;simp;refine qFJ (qjN x y) rfl ?_;simp[j4,qpI]
 by_cases h15:op=15
 . subst h15;simp;refine qFJ (j7 _) rfl ?_
   try simp only[qfb]
   by_cases h:x=y<;>simp[j4,h]
 by_cases h16:op=16
 . subst h16;simp;refine qFJ (j7 _) rfl ?_
   try simp only[QC]
   by_cases h:x=y<;>simp[j4,h]
 by_cases h17:op=17
 . subst h17;simp;refine qFJ (j7 _) rfl ?_;by_cases h:x<y<;>simp[j4,h]
 by_cases h18:op=18
 . subst h18;simp;refine qFJ (j7 _) rfl ?_;by_cases h:x<=y<;>simp[j4,h]
 by_cases h19:op=19
 . subst h19;by_cases h:x=0
   . simp[h];refine qFJ (j7 _) rfl ?_;simp[j4]
   simp[h];refine qFJ (j7 _) rfl ?_
   (try simp only[QC]);by_cases h':y=0<;>simp[j4,h,h']
 by_cases h20:op=20
 . subst h20;by_cases h:x=0
   . simp[h];refine qFJ (j7 _) rfl ?_
     (try simp only[QC]);by_cases h':y=0<;>simp[j4,h']
   simp[h];refine qFJ (j7 _) rfl ?_;simp[j4,h]
 rw[show j4 op x y=b2i (decide ((x:Int)=0)||!decide ((y:Int)=0)) by simp[j4,h7,h8,h9,h10,h11,h12,h13,h14,h15,h16,h17,h18,h19,h20]];by_cases h:x=0
 . simp[h7,h8,h9,h10,h11,h12,h13,h14,h15,h16,h17,h18,h19,h20,h];refine qFJ (j7 _) rfl ?_;simp
 simp[h7,h8,h9,h10,h11,h12,h13,h14,h15,h16,h17,h18,h19,h20,h];refine qFJ (j7 _) rfl ?_
 try simp only[QC]
 by_cases h':y=0<;>simp[h']
def qma{α:Type}{p:α->Bool}{l:List α}{i:Nat}(hi:l.length<=i)(h:∀a∈l.take i,p a=true):l.all p=true:=by
 rw[qBh hi]at h;exact qBk.2 h
def qfe(op:Int):Bool:=decide (op=1)||jn op
def qnj(op):Pure prog GG 287 [.int .i64 op] (.bool (qfe op)):=by
 refine okzQ func287 rfl rfl ?_;by_cases h:op=1
 . subst h;simp[qfe]
 simp[h];refine qFJ (qgj op) rfl ?_;simp[qfe,h]
def qlZ{env e}:qiO env e=if e.op=2 then(jE env e.name).isSome else if e.op=3\/e.op=24 then(jE env (zT e.name 0)).isSome else true:=rfl
def qnf(env)(hl:Fits env)(e ops)(hs:e.op=3\/e.op=24->e.name.length<=1000)(ha:e.op=3->ops≠[])(hask:qfe e.op=true):
 Pure prog GG 288 [.agg (qp e),.sl 2 (env.map qH) .none,.sl 1 (ops.map qh) .none] (.tup [.int .i64 (if qiO env e=true then vB env e.op e.n e.name ops else 0),.int .i64 (if qiO env e=true then 0 else 7)]):=by
 refine okzQ func288 rfl rfl ?_;rw[qlZ];unfold vB;by_cases c1:e.op=1
 . simp only[qc e];simp[c1]
 by_cases c2:e.op=2
 . simp only[qc e];simp[c2];refine qFJ (qaK env e.name hl) (by simp) ?_;cases hf:jE env e.name<;>simp[Q9,hf]
 have hor:e.op=3\/e.op=24:=by
  simp only[qfe,jn,qDa,decide_eq_true_eq]at hask;omega
 have hs:=hs hor;simp only[qc e];simp[c1,c2];refine qFJ (qfR e.name 0 (by omega) hs) rfl ?_
 try simp
 refine qFJ (qaK env (zT e.name 0) hl) (by simp) ?_;cases hf:(jE env (zT e.name 0)).isSome
 . simp[Q9,hf];exact⟨fun h3 h24=>absurd hor (by omega),fun h3=>by omega⟩
 by_cases c3:e.op=3
 . obtain⟨v,r,rfl⟩:∃v r,ops=v::r:=by
    cases ops with
    |nil=>exact absurd rfl (ha c3)
    |cons v r=>exact⟨v,r,rfl⟩
   simp[Q9,hf,c3];refine qFJ (KG env e.name v hl hs) (by simp) ?_;simp
 have c24:e.op=24:=by omega
 simp[Q9,hf,c24];refine qFW (fun n ev U=>∃i:Nat,i<=8/\n=8-i/\ev 1=.sl 2 (env.map qH) .none/\ev 3=.ptr 0 0/\ev 12=.int .i64 (qml env e.name i)/\ev 13=.int .i64 i/\U=⟨[.cells (qp e)],[]⟩) 8 ⟨0,by simp[qml,qc e,c24]⟩ ?_;rintro n ev U ⟨i,hi,rfl,h1,h3,h12,h13,rfl⟩;by_cases hc:i<8
 . have hc':(i:Int)<8:=(by omega);simp[h1,h3,h12,h13,hc',qc e];refine qFJ (KG env e.name i hl hs) (by simp) ?_
   try simp[h1,h3,h12,h13]
   refine qFJ (qj0 _ _) rfl ?_;simp[qc e];exact⟨_,by omega,i+1,by omega,rfl,rfl,wr (by omega) (by omega)⟩
 have hi':i=8:=by omega
 subst hi';simp[h1,h3,h12,h13];intro e0;rw[e0]at hf;cases hf
def qem(op l)(hr:∀v∈l,0<=v/\v<=65535)(h22:op=22->l.length=3)(h23:op=23->3<=l.length/\l.length<=33)(ho:op≠22->op≠23->l.length=1\/l.length=2):
 Pure prog GG 289 [.int .i64 op,.sl 1 (l.map qh) .none] (.int .i64 (opW op l)):=by
 refine okzQ func289 rfl rfl ?_;by_cases c22:op=22
 . obtain⟨a,b,c,rfl⟩:=qvj (h22 c22);subst c22;by_cases ha:a=0
   . simp[ha,qga]
   simp[ha,qga]
 by_cases c23:op=23
 . obtain⟨h3,h33⟩:=h23 c23;subst c23;obtain⟨a,ga⟩:∃a,l[0]?=some a:=⟨_,qBc (by omega)⟩;obtain⟨g0,ga'⟩:=qBa.1 ga;have hw:opW 23 l=b2i (jk a (l.drop 1)):=by
    rw[qpY,qBi,ga];simp
   rw[hw];generalize hT:jk a (l.drop 1)=T;simp;refine qFW (fun n env U=>∃i:Nat,1<=i/\i<=l.length+1/\n=l.length+1-i/\env 1=.sl 1 (l.map qh) .none/\env 5=.int .i64 i/\U=⟨[],[]⟩/\jk a (l.drop i)=T) l.length ⟨1,by simp,by omega,by omega,by simp,by simp,rfl,hT⟩ ?_;rintro n env U ⟨i,hi1,hi2,rfl,h1,h5,rfl,hin⟩;have w1:IntKind.i64.wrap ((i:Int)+1)=(i:Int)+1:=wr (by omega) (by omega);have w2:IntKind.i64.wrap ((i:Int)+2)=((i+2:Nat):Int):=(by rw[wr (by omega) (by omega)];omega);have n1:((i:Int)+1).toNat=i+1:=(by omega);have p1:(0:Int)<=(i:Int)+1:=(by omega);by_cases hc:i+1<l.length
   . obtain⟨x,gx⟩:∃x,l[i]?=some x:=⟨_,qBc (by omega)⟩;obtain⟨y,gy⟩:∃y,l[i+1]?=some y:=⟨_,qBc (by omega)⟩;obtain⟨q1,gx'⟩:=qBa.1 gx;obtain⟨q2,gy'⟩:=qBa.1 gy;rw[ze gx,ze gy,Ye]at hin;have hc':(i:Int)+1<l.length:=(by omega);by_cases c1:x<=a
     . by_cases c2:a<=y
       . have hT1:T=true:=(by rw[<- hin];simp[c1,c2]);rw[hT1];simp[h1,h5,w1,n1,p1,hc',hc,q1,g0,ga',gx',gy',c1,c2,b2i]
       . have hin:jk a (l.drop (i+2))=T:=(by rw[<- hin];simp[c1,c2]);simp[h1,h5,w1,w2,n1,p1,hc',hc,q1,g0,ga',gx',gy',c1,c2];exact⟨_,by omega,i+2,by omega,by omega,rfl,by omega,hin⟩
     have hin:jk a (l.drop (i+2))=T:=(by rw[<- hin];simp[c1]);simp[h1,h5,w1,w2,hc',q1,g0,ga',gx',c1];exact⟨_,by omega,i+2,by omega,by omega,rfl,by omega,hin⟩
   have hc':¬(i:Int)+1<l.length:=(by omega);rw[show T=false by rw[<- hin];exact Ja (by simp;omega)];simp[h1,h5,w1,hc',b2i]
 rcases ho c22 c23 with h|h
 . obtain⟨a,rfl⟩:=qsk h;rw[qu7 c22 c23];simp[c22,c23];refine qFJ (qjL op a) rfl ?_;simp
 obtain⟨a,b,rfl⟩:=qvk h;obtain⟨a0,a1⟩:=hr a (by simp);obtain⟨b0,b1⟩:=hr b (by simp);obtain⟨x,rfl⟩:=qBw a0;obtain⟨y,rfl⟩:=qBw b0;rw[qu6 c22 c23];simp[c22,c23];refine qFJ (qhO op x y (by omega) (by omega)) rfl ?_;simp
def qq7(env:List Signal)(e:Ex):AV:=.tup [.int .i64 (if jP env e=true then yo env e else 0),.int .i64 (if jP env e=true then 0 else 7)]
def qjK(env)(hl:Fits env):∀e,Wen e->kc e->Pure prog GG 224 [.agg (qp e),.sl 2 (env.map qH) .none] (qq7 env e):=by
 refine qFX fun e ih hwe hn=>?_
 refine okzQ func224 rfl rfl ?_;have hfa:=hwe.fits;have hrg:∀v∈e.args.map (yo env),0<=v/\v<=65535:=by
  intro v hv;obtain⟨a,ha,rfl⟩:=qBA.1 hv;exact Vl env a (hn.arg ha)
 obtain⟨k1,k2,k3,k4,k5,k6,k7,k8⟩:=jm hn.self;simp only[qc e];simp;refine qFW (fun n ev U=>∃i,i<=e.args.length/\n=e.args.length-i/\ev 1=.sl 2 (env.map qH) .none/\ev 2=.ptr 0 0/\ev 6=qaM ((e.args.map (yo env)).take i)/\ev 7=.int .i64 i/\U=⟨[.cells (qp e)],qcy ((e.args.map (yo env)).take i)⟩/\∀a∈e.args.take i,jP env a=true) e.args.length ⟨0,by simp,by simp,by simp,by simp,by simp[qaM],by simp,by simp[qc e,qcy],by simp⟩ ?_;rintro n ev U ⟨i,hi,rfl,h1,h2,h6,h7,rfl,hz⟩
 cases hv:e.args[i]? with
 | some a=>
  obtain⟨hc,hv'⟩:=qBa.1 hv;have hm:=qBb hv;have ht:(e.args.map (yo env)).take (i+1)=(e.args.map (yo env)).take i++[yo env a]:=by
   rw[qBG,qBD,hv];rfl
  have hlen:((e.args.map (yo env)).take i).length<=e.args.length:=by simp;omega
  generalize hR:(e.args.map (yo env)).take i=R at h6 ht hlen⊢;have ih:=ih a hm (hwe.arg hm) (hn.arg hm);simp[h1,h2,h7,hc,hv',qc e,qc a];rw[<- qc a];refine qFJ ih (by simp) ?_;cases hk:jP env a
  . have x:jP env e=false:=by
     rw[qcY,qfi hm hk,qDN]
    simp[qq7,hk,x]
  have hz':=qW (p:=fun a=>jP env a=true) hv hz hk
  cases R with
  | nil=>
   simp only[qaM]at h6;simp[qq7,hk,qaM,qcy,qr,qZ,h1,h2,h6,h7];exact⟨_,by omega,i+1,by omega,rfl,by rw[ht];simp[],wr (by omega) (by omega),by rw[ht];simp[],hz'⟩
  | cons b r=>
   simp only[qaM]at h6;simp[qq7,hk,qaM,qcy,qr,qZ,show r.length<=549755813886 by have:=ql2 hn;simp at hlen;omega,h1,h2,h6,h7];exact⟨_,by omega,i+1,by omega,rfl,by rw[ht];simp[],wr (by omega) (by omega),by rw[ht];simp[],hz'⟩
 | none=>
  have hle:e.args.length<=i:=by simpa using hv
  rw[qBh (by simp;omega)]at h6⊢;have hkn:jP env e=qiO env e:=by rw[qcY,qma hle hz,qDd]
  unfold qq7;rw[hkn,yY];have hleaf:=qnf env hl e (e.args.map (yo env));generalize hR:e.args.map (yo env)=R at h6 hrg hleaf⊢;have hRl:R.length=e.args.length:=by rw[<- hR];simp
  simp[h2,h7,show ¬i<e.args.length by omega,qc e];refine qFJ (qnj e.op) rfl ?_;cases hask:qfe e.op
  . have hne:e.op≠1/\e.op≠2/\e.op≠3/\e.op≠24:=by
     simp only[qfe,jn,qDy,decide_eq_false_iff_not]at hask;omega
    obtain⟨c1,c2,c3,c24⟩:=hne;rw[show qiO env e=true by rw[qlZ,if_neg c2,if_neg (by omega)],show vB env e.op e.n e.name R=opW e.op R by unfold vB;rw[if_neg c1,if_neg c2,if_neg c3,if_neg c24]];simp[h1,h2,h6];refine qa.outN2 (by simp) (qem e.op R hrg (fun c=>?_) (fun c=>?_) (fun c22 c23=>?_)) ?_
    . rw[hRl];exact qbu hn (n:=3) (by omega) (by rw[c];decide)
    . rw[hRl];have:=Zs k5 c;omega
    . rw[hRl];exact qkc hn c1 c2 c3 c24 c22 c23
    simp
  have hleaf:=hleaf (fun c=>by have:=wF (k7 c);omega) (fun c e0=>by
   have:=qbu hn (n:=1) (by omega) (by rw[c];decide);rw[e0]at hRl;simp at hRl;omega) hask
  simp[h1,h2,h6,qc e];rw[<- qc e];refine qa.outN3 (by simp) (by simp) hleaf ?_;simp
def qjT(env)(hl:Fits env)(e)(hwe:Wen e)(hh:hgt e<=1000)(hsz:(pre e).length<=100000):Pure prog GG 150 [.agg (qp e),.sl 2 (env.map qH) .none] (.tup [.int .i64 (jB env e),.int .i64 (Qw env e)]):=by
 refine okzQ func150 rfl rfl ?_;have hva:=qja e hwe hh hsz;have hE:Qw env e=if zk e≠0 then 1 else if jP env e=true then 0 else 7:=rfl
 have hV:jB env e=if zk e=0/\jP env e=true then yo env e else 0:=rfl
 simp only[qc e];simp;rw[<- qc e];refine qFJ hva (by simp) ?_;by_cases h0:zk e=0
 . have hn:=v7 h0;have hval:=qjK env hl e hwe hn;have e1:qq7 env e=.tup [.int .i64 (jB env e),.int .i64 (Qw env e)]:=by
    rw[hE,hV];unfold qq7;simp[h0]
   rw[e1]at hval;simp[h0,qc e];rw[<- qc e];refine qFJ hval (by simp) ?_;simp
 have e1:Qw env e=1:=by rw[hE];simp[h0]
 rw[e1,show jB env e=0 by rw[hV];simp[h0]];simp[h0]
def qdO{α:Type}(sz:Nat)(en:α->List AV)(s:List α):AV:=match s with
 |[]=>.sl 0 [] .nil
 |a::r=>.sl sz ((a::r).map en) (.chain 0 (r.length+1))
def qcz{α:Type}(s:List α):List (Option Nat):=match s with
 |[]=>[]
 |_::r=>[some (r.length+1)]
def qf6{α:Type}{sz}{en:α->List AV}(s:List α)(H)(hn:∀x,qx (en x)=true):qL (fin H (qdO sz en s))=true/\Leq (fin H (qdO sz en s)) (.sl sz (s.map en) .none):=by
 cases s with
 |nil=>simp[qdO,Leq]
 | cons a r=>
  have h:=zq hn (a::r);refine⟨?_,Leq.sl rfl⟩;simpa[qdO] using h
def qze(p a)(hl:p.vars.length<=1000)(ha:Fits a):Pure prog GG 112 [.agg (qu p),.sl 1 (a.map qh) .none] (.sl 2 ((yp p.vars a).map qH) .none):=by
 refine okzQ func112 rfl rfl ?_;by_cases hlen:a.length=p.vars.length
 . rw[Qx,if_pos hlen];have hE:=yL hlen;simp[hlen];refine qFW (fun n ev U=>∃i tl,i<=p.vars.length/\n=p.vars.length-i/\ev 1=.sl 1 (a.map qh) .none/\ev 5=qdO 2 qH ((wL p.vars a).take i)/\ev 15=.sl 4 (p.vars.map qG) .none/\ev 16=.int .i64 p.vars.length/\ev 17=.int .i64 i/\U=⟨tl,qcz ((wL p.vars a).take i)⟩) p.vars.length ⟨0,_,by simp,by simp,by simp,by simp[qdO],by simp,by simp,by simp,by simp[qcz];rfl⟩ ?_;rintro n ev U ⟨i,tl,hi,rfl,h1,h5,h15,h16,h17,rfl⟩
   cases hv:p.vars[i]? with
   | some v=>
    obtain⟨hc,hv'⟩:=qBa.1 hv;have hca:i<a.length:=(by omega);obtain⟨x,hx⟩:∃x,a[i]?=some x:=⟨_,qBc hca⟩;have hx':=(qBa.1 hx).2;have ht:(wL p.vars a).take (i+1)=(wL p.vars a).take i++[⟨v.name,x⟩]:=by
     rw[qBG,vG hv hx];rfl
    have hRl:((wL p.vars a).take i).length<=1000:=(by simp;omega);generalize hR:(wL p.vars a).take i=R at h5 ht hRl⊢
    cases R with
    | nil=>
     simp only[qdO]at h5;simp[h1,h5,h15,h16,h17,hc,hca,hv',hx',qBO,qcz,zt,zX,qM,qr,qe,ql,qZ,zx];exact⟨_,by omega,i+1,by omega,rfl,by rw[ht];simp[qdO],wr (by omega) (by omega),by rw[ht];simp⟩
    | cons b r=>
     simp only[qdO]at h5;simp[h1,h5,h15,h16,h17,hc,hca,hv',hx',qBO,qcz,zt,zX,qM,qr,qe,ql,qZ,zx,show r.length<=549755813886 by simp at hRl;omega];exact⟨_,by omega,i+1,by omega,rfl,by rw[ht];simp[qdO],wr (by omega) (by omega),by rw[ht];simp⟩
   | none=>
    have hc:¬i<p.vars.length:=(by simp at hv;omega);rw[qBh (by omega)]at h5⊢;have he:=qf6 (sz:=2) (en:=qH) (wL p.vars a) tl (fun x=>by simp);simp[h5,h15,h16,h17,hc];exact he
 rw[Qx,if_neg hlen];simp[show ¬(a.length:Int)=p.vars.length by omega,Leq]
def qpL(p a)(hl:p.vars.length<=1000)(ha:Fits a):Pure prog GG 149 [.agg (qu p),.sl 1 (a.map qh) .none] (.sl 2 ((yp p.vars a).map qH) .none):=by
 refine okzQ func149 rfl rfl ?_;by_cases hlen:a.length=p.vars.length
 . rw[Qx,if_pos hlen];have hE:=yL hlen;simp[hlen];refine qFW (fun n ev U=>∃i,i<=p.vars.length/\n=p.vars.length-i/\ev 1=.sl 1 (a.map qh) .none/\ev 2=.ptr 0 0/\ev 5=qdO 2 qH ((wL p.vars a).take i)/\ev 6=.int .i64 i/\U=⟨[.cells (qu p)],qcz ((wL p.vars a).take i)⟩) p.vars.length ⟨0,by simp,by simp,by simp,by simp,by simp[qdO],by simp,by simp[qcz]⟩ ?_;rintro n ev U ⟨i,hi,rfl,h1,h2,h5,h6,rfl⟩
   cases hv:p.vars[i]? with
   | some v=>
    obtain⟨hc,hv'⟩:=qBa.1 hv;have hca:i<a.length:=(by omega);obtain⟨x,hx⟩:∃x,a[i]?=some x:=⟨_,qBc hca⟩;have hx':=(qBa.1 hx).2;have ht:(wL p.vars a).take (i+1)=(wL p.vars a).take i++[⟨v.name,x⟩]:=by
     rw[qBG,vG hv hx];rfl
    have hRl:((wL p.vars a).take i).length<=1000:=(by simp;omega);generalize hR:(wL p.vars a).take i=R at h5 ht hRl⊢
    cases R with
    | nil=>
     simp only[qdO]at h5;simp[h1,h5,h2,h6,hc,hca,hv',hx',qcz,zt,zX,qM,qr,qe,ql,qZ,zx];exact⟨_,by omega,i+1,by omega,rfl,by rw[ht];simp[qdO],wr (by omega) (by omega),by rw[ht];simp⟩
    | cons b r=>
     simp only[qdO]at h5;simp[h1,h5,h2,h6,hc,hca,hv',hx',qcz,zt,zX,qM,qr,qe,ql,qZ,zx,show r.length<=549755813886 by simp at hRl;omega];exact⟨_,by omega,i+1,by omega,rfl,by rw[ht];simp[qdO],wr (by omega) (by omega),by rw[ht];simp⟩
   | none=>
    have hc:¬i<p.vars.length:=(by simp at hv;omega);have hca:¬i<a.length:=(by omega);rw[qBh (by omega)]at h5⊢;have he:=qf6 (sz:=2) (en:=qH) (wL p.vars a) [.cells (qu p)] (fun x=>by simp);simp[h1,h5,h2,h6,hc,hca];exact he
 rw[Qx,if_neg hlen];simp[show ¬(a.length:Int)=p.vars.length by omega,Leq]
def qjJ(env)(hl:Fits env)(e)(hwe:Wen e)(hh:hgt e<=1000)(hsz:(pre e).length<=100000):Pure prog GG 226 [.agg (qp e),.sl 2 (env.map qH) .none] (.int .i64 (jB env e)):=by
 refine okzP func226 rfl rfl ?_;have hev:=qjT env hl e hwe hh hsz;simp[qc e];rw[<- qc e];refine qFz hev (by simp) ?_;simp
def qaG(p a l)(hl:p.vars.length<=1000)(ha:Fits a)(hfl:Fits l)(hx:∀e∈l,Wen e/\hgt e<=1000/\(pre e).length<=100000):
 Pure prog GG 153 [.agg (qu p),.sl 1 (a.map qh) .none,.sl 4 (l.map qp) .none] (.bool (ku p.vars l a)):=by
 refine okzP func153 rfl rfl ?_;have henv:=qpL p a hl ha;have hfe:Fits (yp p.vars a):=by have:=qbe (l:=p.vars) (a:=a);show(yp p.vars a).length<_;omega
 have hsat:ku p.vars l a=l.all fun e=>decide (jB (yp p.vars a) e≠0):=rfl
 rw[hsat];obtain⟨r,hr⟩:∃r,r=l.all fun e=>decide (jB (yp p.vars a) e≠0):=⟨_,rfl⟩
 rw[<- hr];generalize yp p.vars a=V at *;simp only[qu]at henv;simp;refine qFz henv (by simp) ?_;simp;refine qFD l (fun d ev U=>ev 2=.sl 4 (l.map qp) .none/\ev 7=.sl 2 (V.map qH) .none/\ev 8=.int .i64 d.length/\∀e∈d,jB V e≠0) ?_ ?_ ?_
 . simp
 . rintro d e rest ev U hd hxe hlt ⟨e2,e7,e8,hnz⟩;have hm:=qBb hxe;obtain⟨hwe,hh,hsz⟩:=hx e hm;have hdw:=wr (n:=(d.length:Int)+1) (by unfold Fits at hfl;omega) (by unfold Fits at hfl;omega);have hv:=qjJ V hfe e hwe hh hsz;simp[-getElem?_pos,e2,e7,e8,hlt,hxe,qc e];rw[<- qc e];refine qFz hv (by simp) ?_;by_cases hz:jB V e=0
   . have:r=false:=by rw[hr,qEi];exact⟨e,hm,by simp[hz]⟩
     simp[hz,this]
   simp[hz,e2,e7,e8,hdw];intro x hx;rcases hx with hx|rfl
   . exact hnz x hx
   exact hz
 rintro ev U ⟨e2,e7,e8,hnz⟩;have:r=true:=by rw[hr,qBk];exact fun e he=>by simpa using hnz e he
 simp[e2,e8,this]
def qqJ(A:Nat)(vs:List Var)(a:List Int)(H:List Blk)(r:AV)(U':St):Prop :=
 r=.bool (!(qF vs a).2)/\KpL [A] H U'.H/\(a≠[]->U'.H[A]?=some (.cells (zd (qF vs a).1)))
def qwp(A P:Nat)(p:Problem)(a:List Int)(H:List Blk)(T:List (Option Nat))(m:Nat)(ev:Env)(U:St):Prop :=
 ev 1=.ms A 0 a.length 1/\ev 2=.ptr P 0/\ev 5=.int .i64 ((m:Int)-1)/\m<=a.length/\(qF (p.vars.drop m) (a.drop m)).2=true/\∃H',U=⟨H',T⟩/\KpL [A] H H'/\H'[P]?=some (.cells (qu p))/\H'[A]?=some (.cells (zd (a.take m++(qF (p.vars.drop m) (a.drop m)).1)))
def qnc{A t p a H}(T)(hA:a≠[]->H[A]?=some (.cells (zd a)))(hl:a.length=p.vars.length)(hl2:a.length<=1000)(hok:okA p.vars a)(hw:∀v∈p.vars,0<=v.width/\v.width<=28):
 qj prog GG 154 [.agg (qu p),Ju A t a] ⟨H,T⟩ (qqJ A p.vars a H):=by
 refine okzA func154 rfl rfl ?_;by_cases ha:a=[]
 . subst ha;have hv:=qBo hl.symm;have hq:∀u,qqJ A p.vars [] H (.bool false) ⟨H++u,T⟩:=fun u=>⟨by rw[show qF p.vars []=([],true) by rw[hv];rfl];rfl,qF7,fun h=>absurd rfl h⟩
   simp[Ju];refine qFE (fun m ev U=>ev 5=.int .i64 (-1)/\∃u,U=⟨H++u,T⟩) 0 ⟨by simp;decide,_,rfl⟩ ?_;rintro m ev U R hR ⟨e5,u,rfl⟩;simp[e5];exact hq u
 have hA0:=hA ha;have hAl:=(qBa.1 hA0).1;have hrow:Ju A t a=.ms A 0 a.length 1:=if_neg ha;rw[hrow];simp;refine qFE (fun m ev U=>qwp A H.length p a H T m ev U) a.length ?_ ?_
 . refine⟨by simp,by simp,by simp;rw[wr (by omega) (by omega)],qBl _,?_,_,rfl,qF7,by simp,?_⟩
   . rw[hl,qCg,<- hl,qCg];rfl
   . rw[qCg,hl,qCg,<- hl,qCX];rw[show a++(qF [] []).1=a by show a++[]=a;rw[qBU]];exact qd hA0 _
 rintro m ev U R hR ⟨e1,e2,e5,hm,ho,H',rfl,hk,hP,hA'⟩;have hne:A≠H.length:=by omega
 simp only[qu]at hP
 cases m with
 | zero=>
  simp only[qCq,qEy,qBy]at ho hA';simp[e5];exact⟨by rw[ho];rfl,hk,fun _=>hA'⟩
 | succ m=>
  have hma:m<a.length:=by omega
  obtain⟨x,hx⟩:∃x,a[m]?=some x:=⟨_,qBc hma⟩;obtain⟨v,hv⟩:∃v,p.vars[m]?=some v:=⟨_,qBc (by omega)⟩;have hst:=qef hl hv hx ho;have hpre:=YL hl m;have hwv:=hw v (qBb hv);have hs1:=wN hwv.1 hwv.2;have e5':ev 5=.int .i64 (m:Int):=by rw[e5];congr 1;omega
  have hw1:=wr (n:=(m:Int)-1) (by omega) (by omega);have hokx:v.mode≠0->0<=x/\x<(zP v:Nat):=fun hm0=>by
   have:=qgg hok hv hx
   rwa[if_neg hm0]at this
  have hsz:zP v<=2^28:=qBL (by omega) (by omega);have hdl:(a.drop (m+1)).length=(p.vars.drop (m+1)).length:=by simp[hl]
  have hS:(a.take m).length+((qF (p.vars.drop (m+1)) (a.drop (m+1))).1.length+1)=a.length:=by
   rw[ZO hdl];simp;omega
  rw[show a.take (m+1)=a.take m++[x] by rw[qBG,hx];rfl]at hA';have hpl:(a.take m).length=m:=by simp;omega
  generalize hSS:(qF (p.vars.drop (m+1)) (a.drop (m+1))).1=S at *;generalize hPP:a.take m=P at *;simp only[qBQ,qCW]at hA';have hen:∀y,zd (P++y::S)=zd P++.int .i64 y::zd S:=fun y=>by simp[zd]
  have hepl:(zd P).length=m:=by rw[qQ,hpl]
  have hg:∀y,(zd P++AV.int .i64 y::zd S)[m]?=some (.int .i64 y):=fun y=>by
   rw[qBm (by omega),hepl,qB9];rfl
  have hd:∀y,(zd P++AV.int .i64 y::zd S).drop m=.int .i64 y::zd S:=fun y=>by
   rw[qCT (by omega),qBS (by omega)];rfl
  have hst2:∀y z,(zd P++AV.int .i64 y::zd S).set m (.int .i64 z)=zd P++.int .i64 z::zd S:=fun y z=>by
   rw[qBY _ _ (by omega),hepl,qB9];rfl
  have hlen2:∀y,(zd P++AV.int .i64 y::zd S).length=a.length:=fun y=>by
   rwa[qBe,qBr,qQ,qQ]
  rw[hen]at hA';have hAl':=(qBa.1 hA').1;have hPset:∀y,(H'.set A y)[H.length]?=some (.cells (qu p)):=fun y=>by rwa[qBd hne]
  have hAset:∀y,(H'.set A y)[A]?=some y:=fun y=>qBg hAl'
  have hml:m<p.vars.length:=by omega
  have hma1:m+1<=a.length:=hma;simp only[qu]at hPset;by_cases hm0:v.mode=0
  . rw[if_pos hm0]at hst;simp[e2,e5',hP,hv,hm0,hw1];refine hR m _ _ (by omega) ⟨by simp[e1],by simp[e2],by simp,by omega,by rw[hst],H',rfl,hk,hP,?_⟩;rw[hst];simp only[hPP];rwa[hen]
  have hx0:=hokx hm0;have hwx:=wr (n:=x+1) (by omega) (by omega);rw[if_neg hm0]at hst;have hwn:¬v.width<0:=by omega
  have hszv:zP v=2^v.width.toNat:=rfl;rw[<- hszv]at hs1;by_cases hx1:x+1<(zP v:Nat)
  . rw[if_pos hx1]at hst;have hpr:=hpre (by rw[hst]);rw[hst]at hpr;simp only at hpr;simp[e1,e2,e5',hP,hv,hm0,hw1,hA',hd,hst2,hlen2,hwx,hPset,hAset,hs1,hma,hma1,hwn,IntKind.bits,hx1];refine⟨by rw[hpr];rfl,hk.trans (qF8 (by simp)),fun _=>?_⟩;rw[hpr,hen];exact hAset _
  rw[if_neg hx1]at hst;simp[e1,e2,e5',hP,hv,hm0,hw1,hA',hd,hst2,hlen2,hwx,hPset,hAset,hs1,hma,hma1,hwn,IntKind.bits,hx1];refine hR m _ _ (by omega) ⟨by simp[e1],by simp[e2],by simp,by omega,by rw[hst],_,rfl,hk.trans (qF8 (by simp)),?_,?_⟩
  . rwa[qBd hne]
  rw[hst];simp only[hPP];rw[hen];exact qBg hAl'
def qna{A t a H}(hA:a≠[]->H[A]?=some (.cells (zd a))):Leq (frz H 8 (Ju A t a)) (.sl 1 (a.map qh) .none):=by
 by_cases ha:a=[]
 . subst ha;show Leq (frz H 8 (.sl 1 [] (.chain t 0))) _;rw[show frz H 8 (.sl 1 [] (.chain t 0))=.sl 1 [] .none by rw[frz];simp[qL]];exact qFG _
 have hrow:Ju A t a=.ms A 0 a.length 1:=if_neg ha;rw[hrow];have ho:jC A 1 qh H (.ms A 0 a.length 1) a:=.inr ⟨ha,rfl,by rw[hA ha,jQ]⟩;exact ho.frz (fun x=>by simp) (fun x=>by simp) (fun x=>by simp) 7
def qcn(p l)(hl:p.vars.length<=1000)(hs:yr p.vars=qO p.vars)(hw:∀v∈p.vars,0<=v.width/\v.width<=28)(hfl:Fits l)(hx:∀e∈l,Wen e/\hgt e<=1000/\(pre e).length<=100000):
 Pure prog GG 102 [.agg (qu p),.sl 4 (l.map qp) .none] (.bool (jK p.vars l)):=by
 refine okzP func102 rfl rfl ?_;have hfi:=qjR p hl [.cells (qu p)] [];obtain⟨r,hr⟩:∃r,r=jK p.vars l:=⟨_,rfl⟩;rw[<- hr];simp only[qu]at hfi;simp;refine qFC hfi ?_;rintro v ⟨H1,T1⟩ ⟨hk,A,t,rfl,hA⟩;rw[hs]at hA;simp only at hk hA;rw[hs];have hne0:qO p.vars≠[]->p.vars≠[]:=fun h e=>h (by rw[e];rfl)
 simp;refine qFE (fun n ev U=>∃a,ev 1=.sl 4 (l.map qp) .none/\ev 2=.ptr 0 0/\ev 5=Ju A t a/\(∃H T',U=⟨H,T'⟩/\H[0]?=some (.cells (qu p))/\(a≠[]->H[A]?=some (.cells (zd a))/\A≠0))/\okA p.vars a/\n=(wy p.vars a).length/\r=(wy p.vars a).any (ku p.vars l)) (wy p.vars (qO p.vars)).length ?_ ?_
 . refine⟨qO p.vars,by simp,by simp,by simp,⟨H1,T1,rfl,(hk.2 0 _ (by simp) (by simp)),fun h=>?_⟩,Qi _,rfl,?_⟩
   . have:=hA (hne0 h);exact⟨this.1,by have:=this.2;simp at this;omega⟩
   . rw[hr,yA];rfl
 rintro n ev U R hR ⟨a,e1,e2,e5,⟨H,T',rfl,hP,hAa⟩,hok,rfl,hra⟩;have hlen:=hok.len;have hfs:=Qs hok;have hsat:=qaG p a l hl (by show a.length<_;omega) hfl hx;have hnx:=qnc (A:=A) (t:=t) T' (fun h=>(hAa h).1) hlen (by omega) hok hw;simp only[qu]at hsat hnx hP;simp[e1,e2,e5,hP];refine qFB hsat rfl ?_ ?_
 . simp only[qBn,qBN,zm,and_true];refine⟨?_,qna fun h=>(hAa h).1,?_⟩
   . rw[qs (by simp)];exact qFG _
   rw[qs (by simp)];exact qFG _
 cases hsa:ku p.vars l a with
 | true=>
  have:r=true:=by rw[hra,hfs,qDc,hsa];rfl
  simp[this]
 | false=>
  simp[e2,e5,hP];refine qFC hnx ?_;rintro v2 ⟨H2,T2⟩ ⟨rfl,hk2,hA2⟩;simp only at hk2 hA2;have hPP:a≠[]->H2[0]?=some (.cells (qu p)):=fun h=>hk2.2 _ _ hP (by simp;exact Ne.symm (hAa h).2)
  cases ho:(qF p.vars a).2 with
  | true=>
   have:r=false:=by rw[hra,hfs,ho];simp[hsa]
   simp[this]
  | false=>
   rw[ho,if_neg (by simp)]at hfs;have ha:a≠[]:=fun e=>by
    have hv:=qBo (by rw[<- hlen,e];rfl);rw[hv,e]at ho;simp[qF]at ho
   have hl2:=ZO (vs:=p.vars) (a:=a) hlen;have hn2:(qF p.vars a).1≠[]:=fun e=>ha (qBo (by rw[<- hl2,e];rfl))
   simp[e5];refine hR (wy p.vars (qF p.vars a).1).length _ _ (by rw[hfs];simp) ⟨(qF p.vars a).1,by simp[e1],by simp[e2],by simp[e5,show Ju A t a=Ju A t (qF p.vars a).1 by rw[Ju,Ju,if_neg ha,if_neg hn2,hl2]],⟨H2,T2,rfl,hPP ha,fun _=>⟨hA2 ha,(hAa ha).2⟩⟩,Z3 hok,rfl,?_⟩;rw[hra,hfs,qDc,hsa];rfl
def ql5{H T}(X Y tx ty sx)(hx:sx=4\/X=[])(sy)(hy:sy=4\/Y=[])(hX:X.length+Y.length<=549755813888):
 ∃ t1 T1 t2 T2,qr (Dof prog) ⟨H,T⟩ 23 (.sl 4 [] .tight) (.sl sx (X.map qp) tx)=some (.sl 4 (X.map qp) t1,⟨H,T1⟩) /\
  qr (Dof prog) ⟨H,T1⟩ 23 (.sl 4 (X.map qp) t1) (.sl sy (Y.map qp) ty)=some (.sl 4 ((X++Y).map qp) t2,⟨H,T2⟩):=by
 have hx1:X.length<=549755813888:=by omega
 by_cases h1:X=[]
 . subst h1;by_cases h2:Y=[]
   . subst h2;exact⟨.tight,T,.tight,T,by simp[qr,qZ],by simp[qr,qZ]⟩
   have hy:=hy.resolve_right h2;subst hy;exact⟨.tight,T,_,_,by simp[qr,qZ],by simp[qr,qZ,h2,show Y.length<=549755813888 by omega];exact⟨rfl,rfl⟩⟩
 have hx:=hx.resolve_right h1;subst hx;refine⟨.chain T.length X.length,T++[some X.length],?_⟩;by_cases h2:Y=[]
 . subst h2;exact⟨_,_,by simp[qr,qZ,h1,hx1],by simp[qr,qZ,hx1];exact⟨rfl,rfl⟩⟩
 have hy:=hy.resolve_right h2;subst hy;exact⟨_,_,by simp[qr,qZ,h1,hx1],by simp[qr,qZ,h2,hX];exact⟨rfl,rfl⟩⟩
def qto{H T}(n l tok s)(hs:s=1\/l=[])(hl:l.length<=1000000):
 ∃t1 T1,qr (Dof prog) ⟨H,T⟩ 28 (.sl 1 [[.int .i64 n]] .tight) (.sl s (l.map qh) tok)=some (.sl 1 ((n::l).map qh) t1,⟨H,T1⟩):=by
 by_cases h:l=[]
 . subst h;exact⟨.tight,T,by simp[qr,qZ]⟩
 have hs:=hs.resolve_right h;subst hs;exact⟨_,_,by simp[qr,qZ,h,show 1+l.length<=549755813888 by omega];exact⟨rfl,rfl⟩⟩
def qsE(H k s l tok):qL (frz H (k+1) (.sl s (l.map qh) tok))=true/\((s=1\/l=[])->Leq (frz H (k+1) (.sl s (l.map qh) tok)) (.sl 1 (l.map qh) .none)):=by
 refine⟨?_,fun h=>qoq (fun x=>by simp) (fun x=>by simp) H k l tok h⟩;have hr:q9 (l.map qh)=true:=by simp
 by_cases h:qL (.sl s (l.map qh) tok)=true
 . rwa[qs h]
 rw[frz,if_neg h,if_pos,vD hr]
 . simp only[qL,hr];rfl
 rw[vD hr,qBk];intro x hx;obtain⟨e,_,rfl⟩:=qBA.1 hx;simp[AV.atom]
def Zi{p}(hv:qg p=0):yr p.vars=qO p.vars:=by
 unfold yr qO;apply qCf;intro v hm;have h:=z5 hv v hm;unfold j5 at h;split at h
 . cases h
 split at h
 . cases h
 rename_i h2;by_cases h0:v.mode=0
 . rw[if_pos h0]
 rw[if_neg h0];by_cases hz:v.value=0
 . exact hz
 exact absurd (Or.inr (Or.inr (Or.inr (Or.inr (Or.inr (Or.inr ⟨h0,hz⟩)))))) h2
structure RfH(p):Prop where
 vq:VQ p
 flat:p.groups.flatten.length<4611686018427387904
 dists:p.dists.length<=10000
 soft:p.soft.length<=10000
 runs:∀d∈p.dists,∀v:Var,(QL (ZJ v d.weights)).length<=112
def qjP(p)(h:RfH p)(hv:qg p=0)(l)(hfl:Fits l)(hx:∀e∈l,wP p.vars e=true/\Jx e):Pure prog GG 102 [.agg (qu p),.sl 4 (l.map qp) .none] (.bool (jK p.vars l)) :=
 qcn p l h.vq.vars (Zi hv) (fun v hm=>by have:=zf (z5 hv v hm);omega) hfl fun e he=>(hx e he).2
def qnk(p)(h:RfH p):Pure prog GG 57 [.agg (qu p)] (.tup [.sl 1 ((yS p).1.map qh) .none,.int .i64 (yS p).2]):=by
 refine qFx o0 true qX func57 rfl (by kernel_rfl) ?_;have hval:=YH p h.vq h.flat;have hsup:=KK p h.vq h.flat h.dists h.runs;simp only[qu]at hval hsup;simp;refine qFz (G:=zh GG) hval (by simp) ?_;by_cases hv:qg p=0
 case neg=>
  have hr:yS p=([],1):=if_neg hv;rw[hr];simp[hv];rw[qs (by simp)];exact⟨by simp,by simp[Leq,zm]⟩
 have hk:=Qj h.vq hv;have h1:=h.vq.hard;have h2:(jJ p).length<=10000:=by
  have:jJ p=wu p:=if_pos hv;rw[this,wu,qBM];exact h.dists
 have hNl:(zw p).length<=20000:=by rw[zw,qBe];omega
 have hpo:=fun l (hl:l.length<40000) (hx:∀e∈l,wP p.vars e=true/\Jx e)=>qjP p h hv l (by show l.length<_;omega) hx
 have hpo0:=hpo (zw p) (by omega) (fun e he=>hk e (qB1 _ he));simp only[qu]at hpo hpo0;obtain⟨t1,T1,t2,T2,ha1,ha2⟩:=ql5 (H:=[.cells (qu p)]) (T:=[]) p.hard (jJ p) .none .none 4 (.inl rfl) 4 (.inl rfl) (by omega);simp only[qu]at ha1 ha2;have hnd:p.hard++jJ p=zw p:=rfl;rw[hnd]at ha2;simp[hv,qe,ql,ha1];refine qFz (G:=zh GG) hsup (by simp) ?_;simp[ha2];refine qFA (G:=zh GG) hpo0 (by cases t2<;>simp) (by cases t2<;>simp[zm,Leq,qFI]) ?_;by_cases hs:jK p.vars (zw p)=true
 case neg=>
  have hr:yS p=([],11):=by unfold yS;rw[if_pos hv,if_neg hs]
  rw[hr];simp[show jK p.vars (zw p)=false by simpa using hs,unA];rw[qs (by simp)];exact⟨by simp,by simp[Leq,zm]⟩
 have hr:yS p=((yu p.vars (zw p) (Zu p.soft)).reverse.map (·.1),0):=by unfold yS;rw[if_pos hv,if_pos hs]
 rw[hr];dsimp only;obtain⟨RES,hRES⟩:∃RES,RES=(yu p.vars (zw p) (Zu p.soft)).reverse.map (·.1):=⟨_,rfl⟩;rw[<- hRES];have hsof:=h.soft;clear ha1 ha2 hnd hsup hval;generalize zw p=N at *;generalize hL:Zu p.soft=L at *;have hLl:L.length=p.soft.length:=by rw[<- hL,qaR]
 have hw1:=wr (n:=(p.soft.length:Int)-1) (by omega) (by omega);simp[hs,unA,hw1];refine qFP L (fun d ev U=>ev 1=.ptr 0 0/\ev 6=.int .i64 ((p.soft.length:Int)-1-d.length)/\∃R K tok s tokk T,(∀r,L=d++r->yu p.vars N L=K++yu p.vars R r)/\(∀e∈R,wP p.vars e=true/\Jx e)/\R.length<=20000+d.length/\K.length<=d.length/\ev 4=.sl 4 (R.map qp) tok/\(s=1\/K=[])/\ev 5=.sl s ((K.reverse.map (·.1)).map qh) tokk/\U=⟨[.cells (qu p)],T⟩) ?_ ?_ ?_
 . exact⟨by simp,by simp,N,[],t2,0,.nil,T2,fun r hr=>by rw[hr];rfl,(fun e he=>hk e (qB1 _ he)),by simpa using hNl,by simp,by simp,.inr rfl,by simp⟩
 . rintro d x rest ev U R0 hR hdl hx hlt ⟨e1,e6,R,K,tok,s,tokk,T,hkeep,hRk,hRl,hKl,e4,hsK,e5,rfl⟩;have hna:=qeB (l:=p.soft) (k:=d.length) (q:=x) (by rwa[hL]);obtain⟨n1,n2,n3⟩:=hna;have e6':ev 6=.int .i64 ((p.soft.length-1-d.length:Nat):Int):=(by rw[e6];congr 1;omega);have hxk:=hk x.2 (qCE _ (qBb n3));have hRk2:∀e∈R++[x.2],wP p.vars e=true/\Jx e:=fun e he=>by
    rcases qBp.1 he with he|he
    . exact hRk e he
    rw[qBR]at he;rwa[he]
   have hpo2:=hpo (R++[x.2]) (by rw[qBe,qBK];omega) hRk2;obtain⟨q1,Q1,q2,Q2,ha1,ha2⟩:=ql5 (H:=[.cells (qu p)]) (T:=T) R [x.2] tok .tight 4 (.inl rfl) 4 (.inl rfl) (by simp;omega);obtain⟨q3,Q3,ha3⟩:=qto (H:=[.cells (qu p)]) (T:=Q2) x.1 (K.reverse.map (·.1)) tokk s (by rcases hsK with h|h;exact .inl h;exact .inr (by rw[h];rfl)) (by simp;omega);simp only[qu,qBn,qBN,qh]at ha1 ha2 ha3;have ha:=yP x.2;have hl4:=zj x.2;have hw2:=wr (n:=((p.soft.length-1-d.length:Nat):Int)-1) (by omega) (by omega);have hEx:=n2;generalize hI:p.soft.length-1-d.length=I at *;have htk:(qp x.2).take 4=qp x.2:=qBh (by rw[hl4];exact qBl _);obtain⟨KL,hKL⟩:∃KL,KL=K.reverse.map (·.1):=⟨_,rfl⟩;rw[<- hKL]at ha3 e5;obtain⟨RX,hRX⟩:∃RX,RX=R++[x.2]:=⟨_,rfl⟩;rw[<- hRX]at ha2 hpo2 hRk2;simp[-qV,e1,e4,e6',show(0:Int)<=((p.soft.length-1-d.length:Nat):Int) by omega,n3,htk,ha,hl4,qe,ql,ha1,ha2];refine qFA (G:=zh GG) hpo2 (by cases q2<;>simp) (by cases q2<;>simp[zm,Leq,qFI]) ?_;have hkp:∀r,L=(d++[x])++r->yu p.vars N L=K++yu p.vars R (x::r):=fun r hr=>hkeep (x::r) (by rw[hr];simp)
   rw[hEx]at ha3
   cases hso3:jK p.vars RX with
   | true=>
    simp[-qV,e5,e6',hw2,qe,ql,ha3];refine hR _ _ ⟨by simp[e1],by simp;omega,RX,K++[x],q2,1,q3,Q3,fun r hr=>?_,hRk2,by rw[hRX];simp;omega,by simp;omega,by simp,.inl rfl,?_,rfl⟩
    . rw[hkp r hr,yu,<- hRX,if_pos hso3];simp
    simp[hKL,hEx]
   | false=>
    simp[-qV,e6',hw2];refine hR _ _ ⟨by simp[e1],by simp;omega,R,K,tok,s,tokk,Q2,fun r hr=>?_,hRk,by simp;omega,by simp;omega,by simp[e4],hsK,by simp[e5,hKL],rfl⟩;rw[hkp r hr,yu,<- hRX,if_neg (by simp[hso3])]
 rintro ev U ⟨e1,e6,R,K,tok,s,tokk,T,hkeep,hRk,hRl,hKl,e4,hsK,e5,rfl⟩;have hKR:K.reverse.map (·.1)=RES:=by rw[show K=yu p.vars N L by rw[hkeep [] (by simp)];simp[yu]];exact hRES.symm
 have hsR:s=1\/RES=[]:=by
  rcases hsK with h|h
  . exact .inl h
  right;rw[<- hKR,h];rfl
 rw[hKR]at e5;simp[e5,show ev 6=.int .i64 (-1) by rw[e6,hLl];congr 1;omega];have hf:=qsE [.cells [.sl 4 (p.vars.map qG) .none,.sl 4 (p.hard.map qp) .none,.sl 4 (p.soft.map qp) .none,.sl 2 (p.dists.map zn) .none,.sl 1 (p.groups.map qA) .none]] 6 s RES tokk;refine wJ hf.1 (hf.2 hsR) fun _=>?_
 rcases hsR with h|h
 . rw[h];simp[Leq,qFI]
 rw[h];simp[Leq]
def qg9(tok:Abs.Tok)(T:List (Option Nat)):Prop:=tok=.tight\/∃t k,tok=.chain t k/\T[t]?=some (some k)
def qeN{H T X Y tok ty sy}(hg:qg9 tok T)(hy:sy=4\/Y=[])(hX:X.length+Y.length<=549755813888):
 ∃t2 T2,qr (Dof prog) ⟨H,T⟩ 23 (.sl 4 (X.map qp) tok) (.sl sy (Y.map qp) ty)=some (.sl 4 ((X++Y).map qp) t2,⟨H,T2⟩)/\qg9 t2 T2:=by
 by_cases h2:Y=[]
 . subst h2;exact⟨tok,T,by simp[qr,qZ,show X.length<=549755813888 by omega],hg⟩
 have hy:=hy.resolve_right h2;subst hy;rcases hg with rfl|⟨t,k,rfl,ht⟩
 . exact⟨.chain T.length Y.length,T++[some Y.length],by simp[qr,qZ,h2,hX],.inr ⟨_,_,rfl,by simp⟩⟩
 have hl:=(qBa.1 ht).1;exact⟨.chain t (k+Y.length),T.set t (some (k+Y.length)),by simp[qr,qZ,h2,hX,ht],.inr ⟨_,_,rfl,by simp[hl]⟩⟩
def qsF(H k)(l:List Ex)(tok):qL (frz H (k+1) (.sl 4 (l.map qp) tok))=true/\Leq (frz H (k+1) (.sl 4 (l.map qp) tok)) (.sl 4 (l.map qp) .none):=by
 refine⟨?_,qkV (fun x=>qw0 x) (fun x=>jw x) H k l tok⟩;have hr:=qu9 l;by_cases h:qL (.sl 4 (l.map qp) tok)=true
 . rwa[qs h]
 rw[frz,if_neg h,if_pos,vD hr]
 . simp only[qL,hr];rfl
 rw[vD hr,qBk];intro x hx;obtain⟨e,_,rfl⟩:=qBA.1 hx;exact jw e
def qfT(p)(h:RfH p):Pure prog GG 30 [.agg (qu p)] (.tup [.sl 4 ((qm p).1.map qp) .none,.int .i64 (qm p).2]):=by
 have hkp:=qnk p h;refine qFx o0 true qX func30 rfl (by kernel_rfl) ?_;by_cases he:(yS p).2=0
 case neg=>
  have hre:=wV p;have hr0:(qm p).1=[]:=by
   unfold qm yS at *;split
   . rename_i hv;split
     . rename_i hs;rw[if_pos hv,if_pos hs]at he;exact absurd rfl he
     rfl
   rfl
  rw[hr0,hre];simp only[qu]at hkp;simp;refine qFz (G:=zh GG) hkp (by simp) ?_;simp[he];rw[qs (by simp)];exact⟨by simp,by simp[Leq,zm]⟩
 obtain⟨hv,hs,hrr,hk1⟩:=Qd he;rw[hk1,he]at hkp;rw[hrr];dsimp only;have hkl:=qa2 p;have hka:=fun q (hq:q∈Zv p)=>qeH hq
 generalize hKS:Zv p=KS at *;have hsup:=KK p h.vq h.flat h.dists h.runs;have h1:=h.vq.hard;have h2:(jJ p).length<=10000:=by
  have:jJ p=wu p:=if_pos hv;rw[this,wu,qBM];exact h.dists
 have hso:=h.soft;obtain⟨RES,hRES⟩:∃RES,RES=zw p++KS.map (·.2):=⟨_,rfl⟩;rw[<- hRES];obtain⟨KI,hKI⟩:∃KI,KI=KS.map (·.1):=⟨_,rfl⟩;rw[<- hKI]at hkp;have hKIl:KI.length=KS.length:=by rw[hKI,qBM]
 obtain⟨t1,T1,ha1,hg1⟩:=qeN (H:=[.cells (qu p)]) (T:=[]) (X:=[]) (Y:=p.hard) (tok:=.tight) (ty:=.none) (sy:=4) (.inl rfl) (.inl rfl) (by simp;omega);obtain⟨t2,T2,ha2,hg2⟩:=qeN (H:=[.cells (qu p)]) (T:=T1) (X:=p.hard) (Y:=jJ p) (tok:=t1) (ty:=.none) (sy:=4) hg1 (.inl rfl) (by omega);simp only[qu,qBN,qBy]at ha1 ha2 hkp hsup;have hnd:p.hard++jJ p=zw p:=rfl;rw[hnd]at ha2;have hNl:(zw p).length<=20000:=by rw[zw,qBe];omega
 generalize zw p=N at *;simp;refine qFz (G:=zh GG) hkp (by simp) ?_;simp[qe,ql,ha1];refine qFz (G:=zh GG) hsup (by simp) ?_;simp[ha2];refine qFP KS (fun d ev U=>ev 1=.ptr 0 0/\ev 4=.sl 1 (KI.map qh) .none/\ev 7=.int .i64 d.length/\∃tok T,qg9 tok T/\ev 6=.sl 4 ((N++d.map (·.2)).map qp) tok/\U=⟨[.cells (qu p)],T⟩) ?_ ?_ ?_
 . exact⟨by simp,by simp,by simp,t2,T2,hg2,by simp⟩
 . rintro d q rest ev U R hR hdl hx hlt ⟨e1,e4,e7,tok,T,hg,e6,rfl⟩;have hdw:=wr (n:=(d.length:Int)+1) (by omega) (by omega);have hlt':d.length<KI.length:=(by omega);obtain⟨k,hk1,hk2⟩:=hka q (qBb hx);have hkl2:=(qBa.1 hk2).1;have hKx:KI[d.length]?=some (k:Int):=(by rw[hKI,qBD,hx];simp[hk1]);obtain⟨t3,T3,ha3,hg3⟩:=qeN (H:=[.cells (qu p)]) (T:=T) (X:=N++d.map (·.2)) (Y:=[q.2]) (tok:=tok) (ty:=.tight) (sy:=4) hg (.inl rfl) (by simp;omega);have hsn:N++(d++[q]).map (·.2)=N++d.map (·.2)++[q.2]:=(by simp);rw[<- hsn]at ha3;obtain⟨X1,hX1⟩:∃X1,X1=N++d.map (·.2):=⟨_,rfl⟩;obtain⟨X2,hX2⟩:∃X2,X2=N++(d++[q]).map (·.2):=⟨_,rfl⟩;rw[<- hX1]at ha3 e6;rw[<- hX2]at ha3;have ha:=yP q.2;have hl4:=zj q.2;have htk:(qp q.2).take 4=qp q.2:=qBh (by rw[hl4];exact qBl _);simp only[qu,qBn,qBN]at ha3;simp[-getElem?_pos,-qV,e1,e4,e6,e7,hlt',hKx,hk2,htk,ha,hl4,qe,ql,ha3,hdw];exact hR _ _ ⟨by simp[e1],by simp[e4],by simp,t3,T3,hg3,by simp[hX2],rfl⟩
 rintro ev U ⟨e1,e4,e7,tok,T,hg,e6,rfl⟩;rw[<- hRES]at e6;simp[e4,e6,e7,hKIl];have hf:=qsF [.cells [.sl 4 (p.vars.map qG) .none,.sl 4 (p.hard.map qp) .none,.sl 4 (p.soft.map qp) .none,.sl 2 (p.dists.map zn) .none,.sl 1 (p.groups.map qA) .none]] 6 RES tok;exact wJ hf.1 hf.2 fun _=>by simp[Leq,qFI]
def qk8(p)(hl:p.vars.length<=1000):Pure prog GG 31 [.agg (qu p)] (.sl 1 ((p.vars.map Var.value).map qh) .none):=by
 refine okzP func31 rfl rfl ?_;obtain⟨S,hS⟩:∃S,S=p.vars.map Var.value:=⟨_,rfl⟩;rw[<- hS];simp[-getElem?_pos];refine qFD p.vars (fun d env U=>env 1=.ptr 0 0/\env 3=ZF 1 qh 0 (d.map Var.value)/\env 4=.int .i64 d.length/\U=⟨[.cells (qu p)],ky [] (d.map Var.value)⟩) ?_ ?_ ?_
 . simp
 . rintro d v s env U hd hv hlt ⟨e1,e3,e4,rfl⟩;have hw:=wr (n:=(d.length:Int)+1) (by omega) (by omega);have hap:=qqy [.cells (qu p)] (d.map Var.value) v.value (by simp;omega);simp only[qu]at hap;simp[-getElem?_pos,e1,e3,e4,hlt,hv,qG,qe,ql,hap,hw]
 rintro env U ⟨e1,e3,e4,rfl⟩;rw[<- hS]at e3⊢;simp[-getElem?_pos,-fin,-k0,-vU,e1,e3,e4]
noncomputable def qiN(p:Problem)(l:List Ex)(a:List Int):Bool:=l.all fun e=>decide (Qw (yp p.vars a) e=0)&&!decide (jB (yp p.vars a) e=0)
def qcj(p l a)(hl:p.vars.length<=1000)(ha:Fits a)(hf:Fits l)(hx:∀e∈l,Wen e/\hgt e<=1000/\(pre e).length<=100000):
 Pure prog GG 98 [.agg (qu p),.sl 4 (l.map qp) .none,.sl 1 (a.map qh) .none] (.bool (qiN p l a)):=by
 refine okzP func98 rfl rfl ?_;obtain⟨r,hr⟩:∃r,r=qiN p l a:=⟨_,rfl⟩;rw[<- hr];have hen:=qpL p a hl ha;simp only[qu]at hen;have hfe:Fits (yp p.vars a):=by
  have:=qbe (l:=p.vars) (a:=a);unfold Fits;omega
 simp;refine qFz (G:=zh GG) hen (by simp) ?_;simp;refine qFD l (fun d env U=>env 1=.sl 4 (l.map qp) .none/\env 7=.sl 2 ((yp p.vars a).map qH) .none/\env 8=.int .i64 d.length/\U=⟨[.cells (qu p)],[]⟩/\qiN p d a=true) ?_ ?_ ?_
 . simp[qiN]
 . rintro d e s env U hd hv hlt ⟨e1,e7,e8,rfl,hs⟩;have hw:=wr (n:=(d.length:Int)+1) (by omega) (by omega);obtain⟨t1,t2,t3⟩:=hx e (qBb hv);have hev:=qjT (yp p.vars a) hfe e t1 t2 t3;rw[qc e]at hev;have bad:(decide (Qw (yp p.vars a) e=0)&&!decide (jB (yp p.vars a) e=0))=false->r=false:=fun h=>by
    rw[hr,qCu];intro h2;unfold qiN at h2;have:=qBk.1 h2 e (qBb hv);rw[h]at this;cases this
   simp[-getElem?_pos,e1,e7,e8,hlt,hv,qc e];refine qFz (G:=zh GG) hev (by simp) ?_;by_cases h1:Qw (yp p.vars a) e=0
   . by_cases h2:jB (yp p.vars a) e=0
     . have hb:=bad (by simp[h2]);simp[h1,h2,hb]
     . simp[e1,e7,e8,h1,h2,hw];unfold qiN at hs⊢;rw[qCN,hs];simp[h1,h2]
   have hb:=bad (by simp[h1]);simp[h1,hb]
 rintro env U ⟨e1,e7,e8,rfl,hs⟩;have:r=true:=by rw[hr,hs]
 simp[e1,e8,this]
def W9(vs:List Var)(a:List Int):List Int×Bool:=if(qF vs a).2=true then([],false) else((qF vs a).1,true)
def qAo(p:Problem)(a:List Int)(m:Nat)(ev:Env)(U:St):Prop :=
 ev 2=.ptr 0 0/\ev 6=.ms 1 0 a.length 1/\ev 7=.int .i64 ((m:Int)-1)/\m<=a.length/\(qF (p.vars.drop m) (a.drop m)).2=true/\∃T,U=⟨[.cells (qu p),.cells (zd (a.take m++(qF (p.vars.drop m) (a.drop m)).1))],T⟩
def qnd(p a)(hl:a.length=p.vars.length)(hl2:a.length<=1000)(hok:okA p.vars a)(hw:∀v∈p.vars,0<=v.width/\v.width<=28):
 Pure prog GG 99 [.agg (qu p),.sl 1 (a.map qh) .none] (.tup [.sl 1 ((W9 p.vars a).1.map qh) .none,.bool (W9 p.vars a).2]):=by
 refine qFx oM true qX func99 rfl (by kernel_rfl) ?_;by_cases ha:a=[]
 . subst ha;have hv:=qBo hl.symm;rw[show W9 p.vars []=([],false) by rw[hv];rfl];simp[oM,zr,zY,qR,YM,qr,qZ];refine qFE (fun m ev U=>ev 7=.int .i64 (-1)) 0 (by simp;decide) ?_;rintro m ev U R hR e7;simp[e7];rw[qs (by simp)];exact⟨by simp,by simp[Leq,zm]⟩
 have hl0:=qBv.2 ha;simp[oM,zr,zY,qR,YM,show ¬(a.length=0) by omega,show a.length<=549755813888 by omega,ha];refine qFE (fun m ev U=>qAo p a m ev U) a.length ?_ ?_
 . refine⟨by simp,by simp,by simp;rw[wr (by omega) (by omega)],qBl _,?_,[],?_⟩
   . rw[hl,qCg,<- hl,qCg];rfl
   . rw[qCg,hl,qCg,<- hl,qCX];have e0:a++(qF [] []).1=a:=(by show a++[]=a;rw[qBU]);rw[e0,jQ,qCF];simp
 rintro m ev U R hR ⟨e2,e6,e7,hm,ho,T,rfl⟩
 cases m with
 | zero=>
  simp only[qCq,qBy]at ho;have hn:W9 p.vars a=([],false):=if_pos ho;simp[e7,hn];rw[qs (by simp)];exact⟨by simp,by simp[Leq,zm]⟩
 | succ m=>
  have hma:m<a.length:=by omega
  obtain⟨x,hx⟩:∃x,a[m]?=some x:=⟨_,qBc hma⟩;obtain⟨v,hv⟩:∃v,p.vars[m]?=some v:=⟨_,qBc (by omega)⟩;have hst:=qef hl hv hx ho;have hpre:=YL hl m;have hwv:=hw v (qBb hv);have hs1:=wN hwv.1 hwv.2;have e7':ev 7=.int .i64 (m:Int):=by rw[e7];congr 1;omega
  have hw1:=wr (n:=(m:Int)-1) (by omega) (by omega);have hokx:v.mode≠0->0<=x/\x<(zP v:Nat):=fun hm0=>by
   have:=qgg hok hv hx
   rwa[if_neg hm0]at this
  have hsz:zP v<=2^28:=qBL (by omega) (by omega);have hdl:(a.drop (m+1)).length=(p.vars.drop (m+1)).length:=by simp[hl]
  have hS:(a.take m).length+((qF (p.vars.drop (m+1)) (a.drop (m+1))).1.length+1)=a.length:=by
   rw[ZO hdl];simp;omega
  rw[show a.take (m+1)=a.take m++[x] by rw[qBG,hx];rfl];have hpl:(a.take m).length=m:=by simp;omega
  generalize hSS:(qF (p.vars.drop (m+1)) (a.drop (m+1))).1=S at *;generalize hPP:a.take m=P at *;simp only[qBQ,qCW];have hen:∀y,zd (P++y::S)=zd P++.int .i64 y::zd S:=fun y=>by simp[zd]
  have hepl:(zd P).length=m:=by rw[qQ,hpl]
  have hg:∀y,(zd P++AV.int .i64 y::zd S)[m]?=some (.int .i64 y):=fun y=>by
   rw[qBm (by omega),hepl,qB9];rfl
  have hd:∀y,(zd P++AV.int .i64 y::zd S).drop m=.int .i64 y::zd S:=fun y=>by
   rw[qCT (by omega),qBS (by omega)];rfl
  have hst2:∀y z,(zd P++AV.int .i64 y::zd S).set m (.int .i64 z)=zd P++.int .i64 z::zd S:=fun y z=>by
   rw[qBY _ _ (by omega),hepl,qB9];rfl
  have hlen2:∀y,(zd P++AV.int .i64 y::zd S).length=a.length:=fun y=>by
   rwa[qBe,qBr,qQ,qQ]
  rw[hen];have hml:m<p.vars.length:=by omega
  have hma1:m+1<=a.length:=hma;by_cases hm0:v.mode=0
  . rw[if_pos hm0]at hst;simp[e2,e7',hv,hm0,hw1];refine hR m _ _ (by omega) ⟨by simp[e2],by simp[e6],by simp,by omega,by rw[hst],T,?_⟩;rw[hst];simp only[hPP];rw[hen];simp
  have hx0:=hokx hm0;have hwx:=wr (n:=x+1) (by omega) (by omega);rw[if_neg hm0]at hst;have hwn:¬v.width<0:=by omega
  have hszv:zP v=2^v.width.toNat:=rfl;rw[<- hszv]at hs1;by_cases hx1:x+1<(zP v:Nat)
  . rw[if_pos hx1]at hst;have hpr:=hpre (by rw[hst]);rw[hst]at hpr;simp only at hpr;rw[show W9 p.vars a=(P++(x+1)::S,true) by unfold W9;rw[hpr];rfl];simp[e2,e6,e7',hv,hm0,hw1,hd,hst2,hlen2,hwx,hs1,hma,hma1,hwn,IntKind.bits,hx1];rw[show zd P++AV.int .i64 (x+1)::zd S=(P++(x+1)::S).flatMap qh by rw[<- jQ,hen],show a.length=(P++(x+1)::S).length by simp;omega];obtain⟨H,hH⟩:∃H:List Blk,H=[.cells (qu p),.cells ((P++(x+1)::S).flatMap qh)]:=⟨_,rfl⟩;simp only[qu]at hH;rw[<- hH];have ho:jC 1 1 qh H (.ms 1 0 (P++(x+1)::S).length 1) (P++(x+1)::S):=.inr ⟨by simp,rfl,by rw[hH];rfl⟩;have f1:=ho.frz (fun x=>by simp) (fun x=>by simp) (fun x=>by simp) 6;have f2:=ho.frzNo (fun x=>by simp) (fun x=>by simp) (fun x=>by simp) 6;rw[frz,if_neg (by simp[qL,qx])];simp only[qBn,qBN,qa5,qL,qx,Leq,zm,qDd,and_true];refine⟨f2,?_⟩;simpa[qh] using f1
  rw[if_neg hx1]at hst;simp[e2,e6,e7',hv,hm0,hw1,hd,hst2,hlen2,hwx,hs1,hma,hma1,hwn,IntKind.bits,hx1];refine hR m _ _ (by omega) ⟨by simp[e2],by simp[e6],by simp,by omega,by rw[hst],T,?_⟩;rw[hst];simp only[hPP];rw[hen];simp
def qwi(H s n)(hs:s.length<2^30):qr (Dof prog) ⟨H,ky [] s⟩ 25 (ZF 1 qA 0 s) (.sl 1 [[.sl 1 (n.map qh) .none]] .tight)=some (ZF 1 qA 0 (s++[n]),⟨H,ky [] (s++[n])⟩) :=
 wn (D:=Dof prog) (sz:=1) (T:=[]) (H:=H) (m:=[n]) (en:=qA) D25 rfl D28 rfl (by decide) rfl (by decide) (by simp only[qBK];omega) 1 (.inl rfl)
noncomputable def qek(p:Problem)(l:List Ex):List (List Int):=(jM p.vars).filter (qiN p l)
def qaF(p l)(hl:p.vars.length<=1000)(hs:p.vars.map Var.value=qO p.vars)(hw:∀v∈p.vars,0<=v.width/\v.width<=28)(hfl:Fits l)(hx:∀e∈l,Wen e/\hgt e<=1000/\(pre e).length<=100000)(hn:(jM p.vars).length<2^30):
 Pure prog GG 55 [.agg (qu p),.sl 4 (l.map qp) .none] (.sl 1 ((qek p l).map qA) .none):=by
 refine okzP func55 rfl rfl ?_;obtain⟨S,hS⟩:∃S,S=qek p l:=⟨_,rfl⟩;rw[<- hS];have hf:=qk8 p hl;rw[hs]at hf;have hsat:=fun(a:List Int) (ha:okA p.vars a)=>qcj p l a hl (by have:=ha.len;unfold Fits;omega) hfl hx
 have hnx:=fun(a:List Int) (ha:okA p.vars a)=>qnd p a ha.len (by have:=ha.len;omega) ha hw
 simp only[qu]at hf hsat hnx;simp;refine qFz (G:=zh GG) hf (by simp) ?_;simp;have hSl:S.length<2^30:=by rw[hS];unfold qek;exact qCP (qDg _ _) hn
 refine qFE (fun n ev U=>∃s a,ev 1=.sl 4 (l.map qp) .none/\ev 2=.ptr 0 0/\ev 5=ZF 1 qA 0 s/\ev 6=.sl 1 (a.map qh) .none/\U=⟨[.cells (qu p)],ky [] s⟩/\((ev 7=.bool true/\okA p.vars a/\n=(wy p.vars a).length/\S=s++(wy p.vars a).filter (qiN p l))\/(ev 7=.bool false/\n=0/\S=s))) (jM p.vars).length ?_ ?_
 . refine⟨[],qO p.vars,by simp,by simp,by simp,by simp,by simp,.inl ⟨by simp,Qi _,by rw[yA],?_⟩⟩;rw[yA,hS];rfl
 rintro n ev U R hR ⟨s,a,e1,e2,e5,e6,rfl,h|⟨e7,rfl,rfl⟩⟩
 . obtain⟨e7,hok,rfl,hSs⟩:=h;have hfs:=Qs hok;have hap:=qwi [.cells (qu p)] s a (by rw[hSs]at hSl;simp at hSl;omega);simp only[qu]at hap;have go:∀(s':List (List Int)) (ev':Env),ev' 1=.sl 4 (l.map qp) .none->ev' 2=.ptr 0 0->ev' 5=ZF 1 qA 0 s'->ev' 6=.sl 1 ((W9 p.vars a).1.map qh) .none->ev' 7=.bool (W9 p.vars a).2->S=s'++(if(qF p.vars a).2=true then [] else wy p.vars (qF p.vars a).1).filter (qiN p l)->R ev' ⟨[.cells (qu p)],ky [] s'⟩:=by
    intro s' ev' a1 a2 a5 a6 a7 hS';by_cases ho:(qF p.vars a).2=true
    . have hn0:W9 p.vars a=([],false):=if_pos ho;rw[hn0]at a6 a7;rw[if_pos ho]at hS';exact hR 0 _ _ (by rw[hfs];simp) ⟨s',[],a1,a2,a5,a6,rfl,.inr ⟨a7,rfl,by simpa using hS'⟩⟩
    have hn0:W9 p.vars a=((qF p.vars a).1,true):=if_neg ho;rw[hn0]at a6 a7;rw[if_neg ho]at hS';exact hR (wy p.vars (qF p.vars a).1).length _ _ (by rw[hfs,if_neg ho];simp) ⟨s',(qF p.vars a).1,a1,a2,a5,a6,rfl,.inl ⟨a7,Z3 hok,rfl,hS'⟩⟩
   rw[hfs,qDS]at hSs;simp only[qu]at go;simp[e1,e2,e6,e7];refine qFz (G:=zh GG) (hsat a hok) (by simp) ?_
   cases hc:qiN p l a with
   | true=>
    rw[hc,if_pos rfl]at hSs;simp[e2,e5,e6,qe,ql,hap];refine qFz (G:=zh GG) (hnx a hok) (by simp) ?_;simp;exact go (s++[a]) _ (by simp[e1]) (by simp[e2]) (by simp) (by simp) (by simp) (by rw[hSs];simp)
   | false=>
    rw[hc,if_neg (by simp)]at hSs;simp[e2,e6];refine qFz (G:=zh GG) (hnx a hok) (by simp) ?_;simp;exact go s _ (by simp[e1]) (by simp[e2]) (by simp[e5]) (by simp) (by simp) hSs
 simp[-fin,-k0,-vU,e5,e7]
def qmQ(vs d)(h:d.weights=[]):vQ vs d=jH 0:=by
 unfold vQ;split
 . rename_i v _;have:ZJ v d.weights=[]:=by
    unfold ZJ;rw[h];have:(vT [])=fun _=>false:=by funext n;rfl
    rw[this];simp
   rw[this];rfl
 rfl
def qrm(vs l a)(h:jH 0∈l):ku vs l a=false:=by
 have h0:jB (yp vs a) (jH 0)=0:=by
  unfold jB;split
  . rw[yY];simp[jH,vB,Ex.op,Ex.n]
  rfl
 unfold ku;rw[qEi];exact⟨_,h,by simp[h0]⟩
def Zr{p}(h:VQ p)(hd:p.dists.length<=10000)(hs5:p.soft.length<=10000)(he:(qm p).2=0):
 qg p=0/\(∀e∈(qm p).1,zy p.vars e=0/\Jx e)/\(qm p).1.length<=50000/\∀d∈p.dists,d.weights≠[]:=by
 obtain⟨hv,hsat,hR,_⟩:=Qd (by rwa[<- wV]);have hnk:=Qj h hv;have hsl:jJ p=wu p:=by unfold jJ;rw[if_pos hv]
 rw[hR];refine⟨hv,fun e hm=>?_,?_,fun d hdm hw=>?_⟩
 . have hmm:e∈zw p++p.soft:=by
    rcases qBp.1 hm with hm|hm
    . exact qBp.2 (.inl hm)
    obtain⟨q,hq,rfl⟩:=qBA.1 hm;obtain⟨k,_,hk⟩:=qeH hq;exact qBp.2 (.inr (qBb hk))
   have:=hnk e hmm;exact⟨by simpa[wP] using this.1,this.2⟩
 . have h1:=qa2 p;have h2:=h.hard;have h3:(wu p).length=p.dists.length:=(by simp[wu]);simp only[qBe,qBM,zw,hsl];omega
 have hin:jH 0∈zw p:=by
  unfold zw;rw[hsl];exact qBp.2 (.inr (qBA.2 ⟨d,hdm,qmQ _ _ hw⟩))
 unfold jK at hsat;obtain⟨a,_,ha⟩:=qBJ.1 hsat;rw[qrm _ _ _ hin]at ha;cases ha
def qrO:List (Nat×Sch×List Nat):=[(4,.step 1 [8,7,6] (.step 2 [8,7,6,5,3] (.step 3 [8,7,6,5] (.step 4 [8,7,6,5] (.fork (.cons 0 (.step 5 [8,7,6] (.step 6 [8,7] (.step 7 [8] (.step 8 [] (.done))))) (.cons 5 (.step 0 [8,7,6] (.step 6 [8,7] (.step 7 [8] (.step 8 [] (.done))))) (.nil))))))),[5])]
def OpQ(p:Problem)(H:List Blk)(r:AV)(U':St):Prop :=
 KpL [] H U'.H/\(((qm p).2≠0/\r=.tup [.nilp,.int .i64 (qm p).2]) \/
  ((qm p).2=0/\∃s d,r=.tup [.ptr s.S 0,.int .i64 0]/\H.length<=s.S/\H.length<=s.L/\H.length<=s.LL/\s.p=p/\s.R=(qm p).1/\SpOk s U'.H/\SpV s d /\
    (s.small=true->∀b,evD d b s.root=ku p.vars (qm p).1 (QY p.vars (qN p) b))))
def qcC(p)(h:VQ p)(hv20:p.vars.length<=20)(hb:kw p.vars (qJ p)<=18)(hd:p.dists.length<=10000)(hs5:p.soft.length<=10000)(hws:∀d∈p.dists,d.weights.length<=1000)(H T):
 qj prog GG 21 [.agg (qu p)] ⟨H,T⟩ (OpQ p H):=by
 refine qFy ⟨false,qrO,[],[]⟩ qX func21 rfl (by kernel_rfl) ?_;by_cases he:(qm p).2=0
 case neg=>
  have hr:=qmf p h hv20 hb hd hs5;simp;refine qFz hr (by simp) ?_;have hq:∀u T',OpQ p H (.tup [.nilp,.int .i64 (qm p).2]) ⟨H++u,T'⟩:=fun u T'=>⟨qF7,.inl ⟨he,rfl⟩⟩
  generalize (qm p).2=er at *;simp[he];exact hq _ _
 case pos=>
  obtain⟨hv,hk,hl,hwn⟩:=Zr h hd hs5 he;have hlv:=qdM p h hv;simp;refine qFC (qps p h hv20 hb hd hs5 he _ _) ?_;rintro r ⟨H1,T1⟩ ⟨tok,rfl,htok,hk1⟩;have bx:=hk1.2 _ _ lk0 (by simp);have hlen1:=hk1.1;simp only[qBe,qBr,qB0]at hlen1;obtain⟨R,hR⟩:∃R,R=(qm p).1:=⟨_,rfl⟩;rw[<- hR]at htok hk hl⊢;simp;rw[qP rfl];simp only[qu]at hlv;simp[zc,bx];refine qFz hlv (by simp) ?_;simp[zc,bx];have hwg:=qmx p h hv H1 T1;simp only[qu]at hwg;refine⟨qFC hwg ?_,qFC hwg ?_⟩
  all_goals
   rintro r ⟨H2,T2⟩ ⟨hk2,L,LL,rfl,hL1,hL2,hwf⟩;have bx2:=hk2.2 _ _ bx (by simp);have hkH2:=(qF7.trans hk1).trans hk2;have hLlt:L<H2.length:=(by obtain⟨c,hc,_⟩:=hwf;exact(qBa.1 hc).1);obtain⟨LL',hLL',hLL1,hwf'⟩:∃LL',LL'<H2.length/\H.length<=LL'/\WFn p L LL' H2:=by
    obtain⟨c,hc,hc2⟩:=hwf;by_cases hpv:p.vars=[]
    . exact⟨L,hLlt,by omega,c,hc,fun hn=>absurd hpv hn⟩
    exact⟨LL,(qBa.1 (hc2 hpv).2).1,by omega,c,hc,hc2⟩
   simp[zc,bx2,qd bx2,zt,zX,qM];refine qFC ((qwy p h hv R (by omega) hk _ _).leq (by simp[qu])) ?_;rintro r ⟨H3,T3⟩ ⟨hk3,hr⟩;dsimp only at hk3;have bS:=hk3.2 _ _ lk0 (by simp);have hSl:=(qBa.1 bS).1;have hkH3:KpL [] H H3:=hkH2.trans (qF7.trans hk3);have hwf3:WFn p L LL' H3:=by
    obtain⟨c,hL,hc⟩:=hwf';have hk':=qF7.trans hk3;exact⟨c,hk'.2 _ _ hL (by simp),fun hn=>⟨(hc hn).1,hk'.2 _ _ (hc hn).2 (by simp)⟩⟩
   have hws':∀(i:Nat) (w:List Weight),(ja p.vars.length p.dists)[i]?=some (some w)->w≠[]/\w.length<=1000:=fun i w hi=>by
    obtain⟨d,hd,rfl⟩:=qic (qBb hi);exact⟨hwn d hd,hws d hd⟩
   have fin:∀(dv:AV) (root:Nat) (small:Bool) (d:List Nd) (T':List (Option Nat)),(small=true->DagOk d/\(∃tok,dv=.sl 3 (d.map qI) tok)/\root<d.length)->(small=true->∀b,evD d b root=ku p.vars R (QY p.vars (qN p) b)) ->
    OpQ p H (.tup [.ptr H2.length 0,.int .i64 0]) ⟨H3.set H2.length (.cells (qu p++[.sl 4 (R.map qp) tok,.sl 1 ((qN p).map qh) .none,dv,.int .i64 root,.bool small,.fn 75 [] [.ptr L 0]])),T'⟩:=by
    intro dv root small d T' hdag hroot;refine⟨hkH3.setF (by have:=hkH2.1;omega),.inr ⟨he,⟨H2.length,L,LL',p,R,tok,qN p,dv,root,small⟩,d,rfl,hkH2.1,by dsimp only;omega,hLL1,rfl,hR,⟨?_,?_,?_⟩,⟨h,hv,hv20,hb,hk,hl,htok,rfl,hdag,hws'⟩,by rw[<- hR];exact hroot⟩⟩
    . exact qBg hSl
    . obtain⟨c,hL,hc⟩:=hwf3;exact⟨c,by dsimp only;rw[qBd (by omega)];exact hL,fun hn=>⟨(hc hn).1,by dsimp only;rw[qBd (by omega)];exact(hc hn).2⟩⟩
    dsimp only;rw[qCD];omega
   rcases hr with rfl|⟨d,t,tk,rfl,hdk,ht,hev⟩
   . simp[-getElem?_pos,bS,hSl];exact fin (.sl 0 [] .nil) 0 false [] T3 (by simp) (by simp)
   simp[-getElem?_pos,bS,hSl];exact fin (.sl 3 (d.map qI) tk) t true d T3 (fun _=>⟨hdk,⟨tk,rfl⟩,ht⟩) (fun _=>hev)
def kK:∀{vs:List Var}{a:List Int},okA vs a->∀{i:Nat}{v:Var},vs[i]?=some v->∃x,a[i]?=some x/\(if v.mode=0 then x=v.value else 0<=x/\x<(zP v:Nat))
 |[],_,_,i,v,hv=>by simp at hv
 |w::vs,[],h,i,v,hv=>h.elim
 | w::vs,y::a,h,0,v,hv=>by
  simp at hv;subst hv;exact⟨y,rfl,h.1⟩
 | w::vs,y::a,h,i+1,v,hv=>by
  obtain⟨x,h1,h2⟩:=kK (vs:=vs) (a:=a) h.2 (i:=i) (v:=v) (by simpa using hv);exact⟨x,by simpa using h1,h2⟩
def eqP(p:Problem)(q:Nat×Nat):Ex:=eqE (Yy p q.1) (q.2:Int)
def qvU{p}(hv:qg p=0){a}(ha:a∈jM p.vars){i v}(hi:p.vars[i]?=some v){n}(hn:n<=65535):
 decide (jB (yp p.vars a) (eqP p (i,n))≠0)=decide (a[i]?=some (n:Int)):=by
 have hok:=yV.1 ha;obtain⟨x,hx,hxr⟩:=kK hok hi;have hm:=qBb hi;have hve:=zf (z5 hv v hm);have hvv:=qap (z5 hv v hm);have hx2:0<=x/\x<=65535:=by
  split at hxr
  . omega
  have h3:2^v.width.toNat<=2^8:=qBL (by omega) (by omega);unfold zP at hxr;omega
 have hf:=Qt (yX hv) hi hx;rw[QG hx2.1 hx2.2]at hf;have hen:yp p.vars a=(p.vars.zip a).map fun q=>⟨q.1.name,q.2⟩:=by unfold yp;rw[if_pos hok.len]
 have ho:=qqo hve.1 (n:=(n:Int)) (by omega) (by omega);have hex:=ho.valid (by omega) (by omega) (by unfold Qr;rw[qBJ];exact⟨v,hm,by simp⟩);have hval:zk (eqE v.name (n:Int))=0:=by
  by_cases h0:zk (eqE v.name (n:Int))=0
  . exact h0
  unfold zy at hex;rw[if_pos h0]at hex;exact absurd hex h0
 have hkn:jP (yp p.vars a) (eqE v.name (n:Int))=true:=by
  unfold jP;rw[qet,hen];simp[qiO,eqE,wS,jH,Ex.op,Ex.name,hf]
 have hev:jB (yp p.vars a) (eqE v.name (n:Int))=b2i (decide (x=(n:Int))):=by
  unfold jB;rw[if_pos ⟨hval,hkn⟩,yY,hen];simp[eqE,wS,jH,Ex.op,Ex.name,Ex.args,Ex.n,vB,yY,hf,opW,j4,b2i]
 show decide (jB _ (eqE (Yy p i) (n:Int))≠0)=_;rw[show Yy p i=v.name by simp[Yy,hi],hev,hx];by_cases hxn:x=(n:Int)<;>simp[b2i,hxn]
noncomputable def okC(p:Problem)(R:List Ex)(c:List (Nat×Nat)):Bool:=(jM p.vars).any fun a=>ku p.vars R a&&c.all fun q=>decide (a[q.1]?=some (q.2:Int))
noncomputable def qbD(p:Problem)(R:List Ex)(fx:Nat->Option Nat):List Nat->List (Nat×Nat)->Nat
 |[],c=>if okC p R c=true then 1 else 0
 |i::r,c=>if okC p R c=true then(wT (ji p i) (fx i)).foldl (fun s v=>sat (s+sat (wtP p i v*qbD p R fx r (c++[(i,v)])))) 0 else 0
def qpv(p:Problem)(c:List (Nat×Nat)):Prop:=∀q∈c,(∃v,p.vars[q.1]?=some v/\v.mode≠0)/\q.2<2^ji p q.1
def qpz{p}(hv:qg p=0){i v}(hi:p.vars[i]?=some v):ji p i=v.width.toNat/\v.width.toNat<=8:=by
 have hve:=zf (z5 hv v (qBb hi));exact⟨by unfold ji zM;rw[hi],by omega⟩
def qpv.lt{p}(hv:qg p=0){c}(h:qpv p c){q}(hq:q∈c):q.2<=65535:=by
 obtain⟨⟨v,hi,_⟩,hlt⟩:=h q hq;obtain⟨h1,h2⟩:=qpz hv hi;rw[h1]at hlt;have h3:2^v.width.toNat<=2^8:=qBL (by omega) (by omega);omega
def qfH{p}(hv:qg p=0)(R){c}(hc:qpv p c):jK p.vars (R++c.map (eqP p))=okC p R c:=by
 unfold jK okC;apply qB7.2;simp only[qBJ];have key:∀a∈jM p.vars,ku p.vars (R++c.map (eqP p)) a=(ku p.vars R a&&c.all fun q=>decide (a[q.1]?=some (q.2:Int))):=fun a ha=>by
  unfold ku;rw[qCN,qEp];congr 1;apply qB7.2;simp only[qBk];refine forall_congr' fun q=>forall_congr' fun hq=>?_
  obtain⟨⟨v,hi,_⟩,_⟩:=hc q hq;have:=qvU hv ha hi (hc.lt hv hq);simp only[Function.comp];rw[<- this]
 constructor
 . rintro⟨a,ha,h⟩;exact⟨a,ha,by rw[<- key a ha];exact h⟩
 rintro⟨a,ha,h⟩;exact⟨a,ha,by rw[key a ha];exact h⟩
def qmq(p:Problem)(fx:Nat->Option Nat):Prop:=∀i x,fx i=some x->x<2^ji p i
def qi8{p fx}(hf:qmq p fx){i v}(h:v∈wT (ji p i) (fx i)):v<2^ji p i:=by
 unfold wT at h;split at h
 . exact qB5.1 h
 rename_i x hx;have:=qBR.1 h;subst this;exact hf i _ hx
def wh{α:Type}{f g:Nat->α->Nat}:∀{l:List α}{s:Nat},(∀s,∀v∈l,f s v=g s v)->l.foldl f s=l.foldl g s
 |[],s,h=>rfl
 | a::r,s,h=>by
  rw[qBP,qBP,h s a (by simp)];exact wh fun s v hv=>h s v (by simp[hv])
def qjm{p}(hv:qg p=0)(R){fx}(hf:qmq p fx):∀(g) (c),(∀i∈g,∃v,p.vars[i]?=some v/\v.mode≠0)->qpv p c ->
 qeb p fx g (R++c.map (eqP p))=qbD p R fx g c:=by
 intro g
 induction g with
 |nil=>intro c _ hc;unfold qeb qbD;rw[qfH hv R hc]
 | cons i r ih=>
  intro c hg hc;unfold qeb qbD;rw[qfH hv R hc];split
  . refine wh fun s v hvm=>?_
    have hc':qpv p (c++[(i,v)]):=fun q hq=>by
     rcases qBp.1 hq with hq|hq
     . exact hc q hq
     have:=qBR.1 hq;subst this;exact⟨hg i (by simp),qi8 hf hvm⟩
    have:=ih (c++[(i,v)]) (fun j hj=>hg j (by simp[hj])) hc';rw[qCi,<- qBQ]at this;rw[<- this];rfl
  rfl
def LW(p:Problem)(l:List Nat):Nat:=(l.map (ji p)).sum
def qg7(p l m):LW p (l++m)=LW p l+LW p m:=by simp[LW]
def qbB{p}(hv:qg p=0):∀l:List Nat,kH p.vars (l.map fun n:Nat=>(n:Int))=(LW p l:Int)
 |[]=>rfl
 | i::r=>by
  have ih:=qbB hv r;have h0:=Jy (QI hv) i;have e1:kH p.vars ((i::r).map fun n:Nat=>(n:Int))=zM p.vars i+kH p.vars (r.map fun n:Nat=>(n:Int)):=by simp[kH]
  have e2:LW p (i::r)=ji p i+LW p r:=by simp[LW]
  rw[e1,e2,ih];unfold ji;omega
def qcP{p}(hv:qg p=0){k i}(hk:(NG p).flatten[k]?=some i):JH (qN p) i=LW p ((NG p).flatten.take k):=by
 have hk':p.groups.flatten[k]?=some (i:Int):=by rw[ZE hv,qBD,hk];rfl
 have h1:=Wa hv hk';rw[ZE hv,<- List.map_take,qbB hv]at h1;unfold JH;rw[qBi,h1];simp
def qmi{p}(hv:qg p=0):LW p (NG p).flatten<=20:=by
 have:=Wq hv;rw[ZE hv,qbB hv]at this;omega
def qln{d}(h:DagOk d){node l w v}(hn:node<d.length)(hl:l<=lvD d node)(hlw:l+w<=20):∀k,k<=w ->
 vJ d l w v node k<d.length/\l+k<=lvD d (vJ d l w v node k)/\∀b,(∀j,j<k->b (l+j)=v.testBit (w-1-j))->evD d b node=evD d b (vJ d l w v node k):=by
 intro k
 induction k with
 |zero=>intro _;exact⟨hn,hl,fun b _=>rfl⟩
 | succ k ih=>
  intro hk;obtain⟨h1,h2,h3⟩:=ih (by omega);rw[JU];obtain⟨g1,g2,g3⟩:=kq h h1 (L:=l+k) (by omega) h2 (v.testBit (w-1-k));refine⟨g1,by omega,fun b hb=>?_⟩;rw[h3 b fun j hj=>hb j (by omega),g3 b (hb k (by omega))]
def YI(p:Problem)(b:Nat->Bool)(i:Nat):Nat:=zs (fun k=>b (JH (qN p) i+ji p i-1-k)) (ji p i)
def Kj{p b i v}(h:YI p b i=v){j}(hj:j<ji p i):b (JH (qN p) i+j)=v.testBit (ji p i-1-j):=by
 rw[<- h];unfold YI;rw[qY];simp[show ji p i-1-j<ji p i by omega,show JH (qN p) i+ji p i-1-(ji p i-1-j)=JH (qN p) i+j by omega]
def qlO:List (Nat×Nat)->Nat->Bool
 |[],_=>false
 |(w,v)::r,l=>if l<w then v.testBit (w-1-l) else qlO r (l-w)
def qgW:∀(l) (k w v j),l[k]?=some (w,v)->j<w->qlO l (((l.take k).map (·.1)).sum+j)=v.testBit (w-1-j)
 |[],k,w,v,j,h,_=>by simp at h
 | (w',v')::r,0,w,v,j,h,hj=>by
  simp at h;obtain⟨rfl,rfl⟩:=h;simp[qlO,hj]
 | (w',v')::r,k+1,w,v,j,h,hj=>by
  have ih:=qgW r k w v j (by simpa using h) hj;have e:((((w',v')::r).take (k+1)).map (·.1)).sum+j=w'+(((r.take k).map (·.1)).sum+j):=by simp;omega
  rw[e,qlO,if_neg (by omega),qCk,ih]
def qgV{p}(hv:qg p=0)(val:Nat->Nat):∃b,∀i∈(NG p).flatten,YI p b i=val i%2^ji p i:=by
 refine⟨qlO ((NG p).flatten.map fun i=>(ji p i,val i)),fun i hi=>?_⟩;obtain⟨k,hk⟩:=qBT hi;have hl:=qcP hv hk;rw[<- J5];unfold YI;apply zu;intro j hj;have h:=qgW ((NG p).flatten.map fun i=>(ji p i,val i)) k (ji p i) (val i) (ji p i-1-j) (by rw[qBD,hk];rfl) (by omega);have e1:(((((NG p).flatten.map fun i=>(ji p i,val i)).take k).map (·.1)).sum)=LW p ((NG p).flatten.take k):=by
  unfold LW;rw[<- List.map_take,qCI];rfl
 rw[e1,<- hl]at h;rw[show JH (qN p) i+ji p i-1-j=JH (qN p) i+(ji p i-1-j) by omega,h,show ji p i-1-(ji p i-1-j)=j by omega]
def YQ{p}(hv:qg p=0){i v}(hi:p.vars[i]?=some v)(hm:v.mode≠0):i∈(NG p).flatten:=by
 obtain⟨k,hk⟩:=qjQ hv hi hm;rw[ZE hv,qBD]at hk
 cases h:(NG p).flatten[k]? with
 |none=>rw[h]at hk;cases hk
 | some j=>
  rw[h]at hk;have:(j:Int)=i:=by simpa using hk
  have:j=i:=by omega
  exact this▸qBb h
def yg{p}(hv:qg p=0){i}(hi:i∈(NG p).flatten):∃v,p.vars[i]?=some v/\v.mode≠0:=by
 obtain⟨k,hk⟩:=qmh hv hi;obtain⟨n,v,hn,hv',hm⟩:=Ze ((jz hv).2.1 _ (qBb hk));have:n=i:=by omega
 subst this;exact⟨v,hv',hm⟩
def vM{p}(hv:qg p=0)(b){i v}(hi:p.vars[i]?=some v)(hm:v.mode≠0):(QY p.vars (qN p) b)[i]?=some (YI p b i:Int):=by
 have hli:=qBc (by rw[kZ];exact(qBa.1 hi).1);rw[qff hi hli];unfold qjh YI JH;rw[if_neg hm,(qpz hv hi).1,qBi,hli];rfl
def qbs{p:Problem}(b:Nat->Bool){i:Nat}{v:Var}(hi:p.vars[i]?=some v)(hm:v.mode=0):(QY p.vars (qN p) b)[i]?=some v.value:=by
 have hli:=qBc (by rw[kZ];exact(qBa.1 hi).1);rw[qff hi hli];unfold qjh;rw[if_pos hm]
def qke:∀{vs:List Var}{a:List Int},a.length=vs.length->(∀(i:Nat) (v:Var),vs[i]?=some v->∃x,a[i]?=some x/\(if v.mode=0 then x=v.value else 0<=x/\x<(zP v:Nat)))->okA vs a
 |[],[],_,_=>trivial
 |[],_::_,h,_=>by simp at h
 |_::_,[],h,_=>by simp at h
 | v::vs,x::a,h,hx=>by
  obtain⟨y,hy,hc⟩:=hx 0 v rfl;simp at hy;subst hy;exact⟨hc,qke (by simpa using h) fun i w hw=>by
   obtain⟨y,hy,hc⟩:=hx (i+1) w (by simpa using hw);exact⟨y,by simpa using hy,hc⟩⟩
def qq8(p b i):YI p b i<2^ji p i:=wc _ _
def qbt{p}(hv:qg p=0)(b):QY p.vars (qN p) b∈jM p.vars:=by
 refine yV.2 (qke (Y4 (kZ p) b) fun i v hi=>?_);by_cases hm:v.mode=0
 . exact⟨_,qbs b hi hm,by rw[if_pos hm]⟩
 refine⟨_,vM hv b hi hm,?_⟩;rw[if_neg hm];have:=qq8 p b i;rw[(qpz hv hi).1]at this;unfold zP;omega
def qdC{p}(hv:qg p=0){a}(ha:a∈jM p.vars):∃b,QY p.vars (qN p) b=a/\∀i∈(NG p).flatten,a[i]?=some (YI p b i:Int):=by
 have hok:=yV.1 ha;obtain⟨b,hb⟩:=qgV hv (fun i=>(a.getD i 0).toNat);have hr:∀i∈(NG p).flatten,a[i]?=some (YI p b i:Int):=fun i hi=>by
  obtain⟨v,hv',hm⟩:=yg hv hi;obtain⟨x,hx,hc⟩:=kK hok hv';rw[if_neg hm]at hc;have:=hb i hi;rw[qBi,hx]at this;unfold zP at hc;rw[(qpz hv hv').1]at this;dsimp only[Option.getD]at this;have hlt:x.toNat<2^v.width.toNat:=by omega
  rw[qDm hlt]at this;rw[hx,this];congr 1;omega
 refine⟨b,?_,hr⟩;apply qCb;intro i
 cases hi:p.vars[i]? with
 | none=>
  have hl:=qER.1 hi;rw[qBI (by rw[Y4 (kZ p)];exact hl),qBI (by rwa[hok.len])]
 | some v=>
  by_cases hm:v.mode=0
  . obtain⟨x,hx,hc⟩:=kK hok hi;rw[if_pos hm]at hc;rw[qbs b hi hm,hx,hc]
  rw[vM hv b hi hm,hr i (YQ hv hi hm)]
structure Inv(p)(d:List Nd)(root)(c:List (Nat×Nat))(node):Prop where
 lt:node<d.length
 lv:LW p (c.map (·.1))<=lvD d node
 pre:∃post,(NG p).flatten=c.map (·.1)++post
 ev:∀b,(∀q∈c,YI p b q.1=q.2)->evD d b root=evD d b node
def qgt{p}(hv:qg p=0){d}(hd:DagOk d){root c node}(h:Inv p d root c node){i v}(hi:∃post,(NG p).flatten=c.map (·.1)++i::post):
 Inv p d root (c++[(i,v)]) (vJ d (JH (qN p) i) (ji p i) v node (ji p i)):=by
 obtain⟨post,hpost⟩:=hi;have hk:(NG p).flatten[(c.map (·.1)).length]?=some i:=by rw[hpost,qBm (qBl _),qB9];rfl
 have hlv:=qcP hv hk;rw[show(NG p).flatten.take (c.map (·.1)).length=c.map (·.1) by rw[hpost,List.take_left]]at hlv;have hle:LW p (c.map (·.1))+ji p i<=20:=by
  have h1:=qmi hv;rw[hpost,qg7]at h1;have:LW p (i::post)=ji p i+LW p post:=by simp[LW]
  omega
 obtain⟨h1,h2,h3⟩:=qln hd (w:=ji p i) (v:=v) h.lt (l:=JH (qN p) i) (by rw[hlv];exact h.lv) (by omega) (ji p i) (qBl _);refine⟨h1,?_,⟨post,by rw[hpost];simp⟩,fun b hb=>?_⟩
 . rw[qCi,qg7];have:LW p (([(i,v)]:List (Nat×Nat)).map (·.1))=ji p i:=by simp[LW]
   omega
 rw[h.ev b fun q hq=>hb q (by simp[hq])];exact h3 b fun j hj=>Kj (hb (i,v) (by simp)) hj
def Vm{p b b' i}(h:∀j,j<ji p i->b (JH (qN p) i+j)=b' (JH (qN p) i+j)):YI p b i=YI p b' i:=by
 unfold YI;apply zu;intro k hk;rw[show JH (qN p) i+ji p i-1-k=JH (qN p) i+(ji p i-1-k) by omega];exact h _ (by omega)
def qgK{q}:∀{c:List (Nat×Nat)},(c.map (·.1)).Nodup->q∈c->c.find? (fun q'=>q'.1==q.1)=some q
 |[],_,h=>by simp at h
 | x::r,hn,h=>by
  rw[qBn,qC1]at hn;rcases qBz.1 h with rfl|h
  . simp
  have hne:¬x.1=q.1:=fun e=>hn.1 (qBA.2 ⟨q,h,e.symm⟩)
  have:(x.1==q.1)=false:=by simpa using hne
  rw[qDI,this];exact qgK hn.2 h
def qgs{p}(hv:qg p=0){R d}(hd:DagOk d){root}(hroot:∀b,evD d b root=ku p.vars R (QY p.vars (qN p) b)){c}(hc:qpv p c)(hnd:(NG p).flatten.Nodup){node}(h:Inv p d root c node):
 okC p R c = !decide (node=0):=by
 obtain⟨post,hpost⟩:=h.pre;have hmem:∀q∈c,q.1∈(NG p).flatten:=fun q hq=>by rw[hpost];exact qBp.2 (.inl (qBA.2 ⟨q,hq,rfl⟩))
 by_cases h0:node=0
 . have:okC p R c=false:=by
    rw[qCu];intro hok;unfold okC at hok;obtain⟨a,ha,hs⟩:=qBJ.1 hok;rw[qBf]at hs;obtain⟨b,hb,hbv⟩:=qdC hv ha;have hf:∀q∈c,YI p b q.1=q.2:=fun q hq=>by
     have h1:=hbv _ (hmem q hq);have h2:=of_decide_eq_true (qBk.1 hs.2 q hq);rw[h1]at h2;have:(YI p b q.1:Int)=(q.2:Int):=by simpa using h2
     omega
    have h1:=h.ev b hf;rw[hroot,hb,h0,YB hd]at h1;rw[h1]at hs;cases hs.1
   rw[this,h0];rfl
 have:okC p R c=true:=by
  obtain⟨b,hb⟩:=qs9 hd node node h.lt (qBl _) h0;obtain⟨b0,hb0⟩:=qgV hv (fun i=>match c.find? (fun q=>q.1==i) with|some q=>q.2|none=>0);obtain⟨b',hb'⟩:∃b':Nat->Bool,b'=fun l=>if l<LW p (c.map (·.1)) then b0 l else b l:=⟨_,rfl⟩
  have hnode:evD d b' node=true:=by
   rw[<- hb];apply WA hd h.lt;intro l hl;have:=h.lv;rw[hb'];dsimp only;rw[if_neg (by omega)]
  have hcn:(c.map (·.1)).Nodup:=by
   rw[hpost]at hnd;exact(qCa.1 hnd).1
  have hf:∀q∈c,YI p b' q.1=q.2:=fun q hq=>by
   obtain⟨k,hk⟩:=qBT hq;have hkl:=(qBa.1 hk).1;have hkF:(NG p).flatten[k]?=some q.1:=(by rw[hpost,qBq (by simpa using hkl),qBD,hk];rfl);have hlv:=qcP hv hkF;have hw:JH (qN p) q.1+ji p q.1<=LW p (c.map (·.1)):=by
    rw[hlv,show(NG p).flatten.take k=(c.map (·.1)).take k by rw[hpost,qCo (by simp;omega)]];have h1:(c.map (·.1))=(c.map (·.1)).take k++q.1::(c.map (·.1)).drop (k+1):=by
     have h2:(c.map (·.1)).drop k=q.1::(c.map (·.1)).drop (k+1):=by
      have h3:(c.map (·.1))[k]?=some q.1:=(by rw[qBD,hk];rfl);obtain⟨h4,h5⟩:=qBa.1 h3;rw[qBx h4,h5]
     rw[<- h2,qBX]
    have h2:=congrArg (LW p) h1;rw[qg7]at h2;have h3:LW p (q.1::(c.map (·.1)).drop (k+1))=ji p q.1+LW p ((c.map (·.1)).drop (k+1)):=(by simp[LW]);omega
   have e1:YI p b' q.1=YI p b0 q.1:=Vm fun j hj=>by
    rw[hb'];dsimp only;rw[if_pos (by omega)]
   rw[e1,hb0 _ (hmem q hq)];have hfind:=qgK hcn hq;rw[hfind];exact qDm (hc q hq).2
  have hr:=h.ev b' hf;rw[hnode,hroot]at hr;unfold okC;refine qBJ.2 ⟨_,qbt hv b',?_⟩;rw[hr,qCs,qBk];intro q hq;obtain⟨⟨v,hi,hm⟩,_⟩:=hc q hq;rw[vM hv b' hi hm,hf q hq];simp
 rw[this];simp[h0]
def qjo{p}(hv:qg p=0){R d}(hd:DagOk d){root}(hroot:∀b,evD d b root=ku p.vars R (QY p.vars (qN p) b))(hnd:(NG p).flatten.Nodup){fx}(hf:qmq p fx):
 ∀(g) (c) (node),(∃post,(NG p).flatten=c.map (·.1)++g++post)->qpv p c->Inv p d root c node->qbC p (qN p) d fx g node=qbD p R fx g c:=by
 intro g
 induction g with
 | nil=>
  intro c node hg hc h;unfold qbC qbD;rw[qgs hv hd hroot hc hnd h];by_cases h0:node=0<;>simp[h0]
 | cons i r ih=>
  intro c node hg hc h;obtain⟨post,hpost⟩:=hg;unfold qbC qbD;rw[qgs hv hd hroot hc hnd h];by_cases h0:node=0
  . simp[h0]
  simp only[h0,if_false,decide_false,qFf,if_true];refine wh fun s v hvm=>?_
  have hc':qpv p (c++[(i,v)]):=fun q hq=>by
   rcases qBp.1 hq with hq|hq
   . exact hc q hq
   have:=qBR.1 hq;subst this;exact⟨yg hv (by rw[hpost];simp),qi8 hf hvm⟩
  rw[ih (c++[(i,v)]) _ ⟨post,by rw[hpost];simp⟩ hc' (qgt hv hd h ⟨r++post,by rw[hpost];simp⟩)]
def qsz{p d root}(h:root<d.length):Inv p d root [] root:=⟨h,by simp[LW],⟨_,rfl⟩,fun b _=>rfl⟩
def qoc{p}(hv:qg p=0){d}(hd:DagOk d){root}(val:Nat->Nat):∀(l) (c) (node),Inv p d root c node->(∃post,(NG p).flatten=c.map (·.1)++l++post) ->
 Inv p d root (c++l.map fun i=>(i,val i)) (l.foldl (fun node i=>vJ d (JH (qN p) i) (ji p i) (val i) node (ji p i)) node):=by
 intro l
 induction l with
 |nil=>intro c node h _;simpa using h
 | cons i r ih=>
  intro c node h ⟨post,hpost⟩;have h1:=qgt hv hd h (i:=i) (v:=val i) ⟨r++post,by rw[hpost];simp⟩;have h2:=ih _ _ h1 ⟨post,by rw[hpost];simp⟩;rw[qBP,qBn];simpa using h2
def Js{p gi g}(h:(NG p)[gi]?=some g):∃post,(NG p).flatten=((NG p).take gi).flatten++g++post:=by
 have h1:=qBX gi (NG p);obtain⟨h2,h3⟩:=qBa.1 h;refine⟨((NG p).drop (gi+1)).flatten,?_⟩
 conv=>lhs;rw[<- h1,show(NG p).drop gi=g::(NG p).drop (gi+1) by rw[qBx h2,h3]]
 simp
def Jt{p}(hv:qg p=0):(NG p).flatten.Nodup:=by
 have h:=(jz hv).2.2.1;rw[ZE hv]at h;exact(qEh.1 h).imp fun hne e=>hne (by rw[e])
def qrc{s d}(h:SpV s d)(hroot:s.small=true->∀b,evD d b s.root=ku s.p.vars s.R (QY s.p.vars (qN s.p) b)){fx}(hf:qmq s.p fx){a}(ha:∀i∈(NG s.p).flatten,aN a i<2^ji s.p i){gi}(hgi:gi<(NG s.p).length):
 qaz s d fx a gi=qbD s.p s.R fx ((NG s.p).getD gi []) (((NG s.p).take gi).flatten.map fun i=>(i,aN a i)):=by
 obtain⟨g,hg⟩:∃g,(NG s.p)[gi]?=some g:=⟨_,qBc hgi⟩;obtain⟨post,hpost⟩:=Js hg;have hin:∀i∈((NG s.p).take gi).flatten,i∈(NG s.p).flatten:=fun i hi=>by rw[hpost];simp[hi]
 have hc:qpv s.p (((NG s.p).take gi).flatten.map fun i=>(i,aN a i)):=fun q hq=>by
  obtain⟨i,hi,rfl⟩:=qBA.1 hq;exact⟨yg h.vp (hin i hi),ha i (hin i hi)⟩
 have hmm:(((NG s.p).take gi).flatten.map fun i=>(i,aN a i)).map (·.1)=((NG s.p).take gi).flatten:=by
  rw[qCI];exact qE9 _
 unfold qaz;rw[show(NG s.p).getD gi []=g by simp[qBi,hg]];by_cases hsm:s.small=true
 . rw[if_pos hsm];obtain⟨hd,_,hr⟩:=h.dag hsm;have hi:=qoc h.vp hd (aN a) ((NG s.p).take gi).flatten [] s.root (qsz hr) ⟨g++post,by rw[hpost];simp⟩;rw[h.lv];have:=qjo h.vp hd (hroot hsm) (Jt h.vp) hf g _ _ ⟨post,by rw[qBy,hmm];exact hpost⟩ (by rwa[qBy]) hi;rw[qBy]at this;rw[<- this];unfold Z4;rw[h.lv]
 rw[if_neg hsm];have:=qjm h.vp s.R hf g _ (fun i hi=>yg h.vp (by rw[hpost];simp[hi])) hc;rw[<- this];unfold VA;rw[qCI];rfl
noncomputable def Kp(p:Problem)(fx:Nat->Option Nat)(a:List Int)(gi:Nat):Nat:=qbD p (qm p).1 fx ((NG p).getD gi []) (((NG p).take gi).flatten.map fun i=>(i,aN a i))
noncomputable def kF(p:Problem)(gi:Int)(a:List Int):Int×Int :=
 if gi<0\/((NG p).length:Int)<=gi\/qB p.vars a=false then(0,1)
 else if Kp p (fun _=>none) a gi.toNat=0 then(0,11) else if Kp p (fun _=>none) a gi.toNat=lim then(0,3) else(Kp p (fun _=>none) a gi.toNat,0)
noncomputable def chP(p:Problem)(a:List Int)(gi:Nat):List Nat->(Nat->Option Nat)->Int->List Int->List Int
 |[],_,_,out=>out
 | i::r,fx,idx,out=>
  let q:=yl (fun x=>Kp p (yj fx i x) a gi) (2^wdN p i) 0 idx
  chP p a gi r (yj fx i q.1) q.2 (out.set i q.1)
noncomputable def z9(p:Problem)(gi:Nat)(a:List Int)(idx:Int):List Int:=chP p a gi (yE ((NG p).getD gi [])) (fun _=>none) idx a
noncomputable def qbH(p:Problem):List Nat->List Int->Rng->List Int×Rng×Int
 |[],a,r=>(a,r,0)
 | gi::rest,a,r=>
  if(kF p gi a).2≠0 then([],(0,0),(kF p gi a).2)
  else if(jR (kF p gi a).1 r).2.2≠0 then([],(0,0),(jR (kF p gi a).1 r).2.2)
  else qbH p rest (z9 p gi a (jR (kF p gi a).1 r).1) (jR (kF p gi a).1 r).2.1
noncomputable def jA(p:Problem)(r:Rng):List Int×Rng×Int:=if(qm p).2≠0 then([],(0,0),(qm p).2) else qbH p (List.range (NG p).length) (qO p.vars) r
def qbP(p i):wdN p i=ji p i:=by
 unfold wdN ji zM;split<;>rename_i h<;>simp[h]
def qf3(F):∀(n x) (idx),0<n->x<=(yl F n x idx).1/\(yl F n x idx).1<x+n
 |0,x,idx,h=>absurd h (by omega)
 | n+1,x,idx,_=>by
  unfold yl;split
  . exact⟨qBl _,by simp⟩
  split
  . exact⟨qBl _,by simp⟩
  have:=qf3 F n (x+1) (idx-F x) (by omega);omega
def KQ{F G}:∀(n x) (idx),(∀y,x<=y->y<x+n->F y=G y)->yl F n x idx=yl G n x idx
 |0,x,idx,h=>rfl
 | n+1,x,idx,h=>by
  unfold yl;rw[h x (qBl _) (by omega),KQ n (x+1) _ fun y h1 h2=>h y (by omega) (by omega)]
def qmq.upd{p fx}(h:qmq p fx){i x}(hx:x<2^ji p i):qmq p (yj fx i x):=fun k y hy=>by
 unfold yj at hy;split at hy
 . rename_i e;subst e;have:x=y:=by simpa using hy
   omega
 exact h k y hy
def qv7{s d p a gi}(hp:s.p=p)(hs:∀fx,qmq p fx->qaz s d fx a gi=Kp p fx a gi):∀(l) (fx) (idx) (out),qmq p fx->chS s d a gi l fx idx out=chP p a gi l fx idx out:=by
 intro l
 induction l with
 |nil=>intro fx idx out _;rfl
 | cons i r ih=>
  intro fx idx out hf;have hpk:yl (fun x=>qaz s d (yj fx i x) a gi) (2^wdN s.p i) 0 idx=yl (fun x=>Kp p (yj fx i x) a gi) (2^wdN p i) 0 idx:=by
   rw[hp];refine KQ _ _ _ fun y _ hy=>hs _ (hf.upd ?_)
   rw[qbP]at hy;omega
  have hlt:=qf3 (fun x=>Kp p (yj fx i x) a gi) (2^wdN p i) 0 idx (qD2 _);rw[qbP]at hlt;unfold chS chP;dsimp only;rw[hpk];rw[qbP]at *;exact ih _ _ _ (hf.upd (by omega))
def vg{p}(h:qg p=0){a}(ha:qB p.vars a=true):a.length=p.vars.length/\∀i∈(NG p).flatten,aN a i<2^ji p i:=by
 unfold qB at ha;simp only[qBf,decide_eq_true_eq]at ha;refine⟨ha.1,fun i hi=>?_⟩;obtain⟨v,hv,hm⟩:=yg h hi;have hil:=(qBa.1 hv).1;obtain⟨x,hx⟩:∃x,a[i]?=some x:=⟨_,qBc (by omega)⟩;have hz:(v,x)∈p.vars.zip a:=qBb (i:=i) (qCS.2 ⟨hv,hx⟩);have h1:=qBk.1 ha.2 _ hz;unfold zD at h1;simp only[qBf,decide_eq_true_eq]at h1;have h3:((2^v.width.toNat:Nat):Int)=(2:Int)^v.width.toNat:=by simp
 unfold aN;rw[qBi,hx,(qpz h hv).1];dsimp only[Option.getD];omega
structure SpR(p)(s:Spc)(d):Prop where
 pe:s.p=p
 R:s.R=(qm p).1
 v:SpV s d
 root:s.small=true->∀b,evD d b s.root=ku p.vars (qm p).1 (QY p.vars (qN p) b)
def SpR.sum{p s d}(h:SpR p s d){a}(ha:qB p.vars a=true){gi}(hgi:gi<(NG p).length)(fx)(hf:qmq p fx):qaz s d fx a gi=Kp p fx a gi:=by
 obtain⟨hp,hR,hv,hr⟩:=h;subst hp;have:=qrc hv (by rwa[hR]) hf (vg hv.vp ha).2 hgi;rw[this,hR];rfl
def SpR.tot{p s d}(h:SpR p s d)(gi a):Vq s d gi a=kF p gi a:=by
 unfold Vq kF;rw[h.pe];split
 . rfl
 rename_i hn;have h1:qB p.vars a=true:=by
  cases hA:qB p.vars a with
  |true=>rfl
  |false=>exact absurd (.inr (.inr hA)) hn
 have h2:gi.toNat<(NG p).length:=by
  have:¬gi<0:=fun e=>hn (.inl e)
  have:¬((NG p).length:Int)<=gi:=fun e=>hn (.inr (.inl e))
  omega
 rw[h.sum h1 h2 _ (fun i x hx=>by cases hx)]
def SpR.ch{p s d}(h:SpR p s d){a}(ha:qB p.vars a=true){gi}(hgi:gi<(NG p).length)(idx):qbn s d gi a idx=z9 p gi a idx:=by
 unfold qbn z9;rw[qv7 h.pe (fun fx hf=>h.sum ha hgi fx hf) _ _ _ _ (fun i x hx=>by cases hx),h.pe]
def wM{n}(h1:1<=n)(r):0<=(ya n r).1/\(ya n r).1<n:=by
 have hv:=QW (qoP n) 64 0 r (by omega) (by omega);unfold ya;dsimp only;rw[qB4 hv.1];exact⟨qD1 _ (by omega),qEc _ (by omega)⟩
def qlI(p a gi):∀(l) (fx) (idx) (out),(chP p a gi l fx idx out).length=out.length
 |[],_,_,_=>rfl
 | i::r,fx,idx,out=>by
  unfold chP;dsimp only;rw[qlI p a gi r];simp
def wm(p gi a idx):(z9 p gi a idx).length=a.length:=qlI _ _ _ _ _ _ _
def qrQ:List (Nat×Sch×List Nat):=[(23,.step 0 [4,3,2] (.step 1 [4,3] (.step 2 [4,3] (.step 3 [4] (.step 4 [] (.done))))),[])]
def qxP(q:List Int×Rng×Int)(H:List Blk)(r:AV)(U':St):Prop:=KpL [] H U'.H/\∃v b,r=.tup [v,.agg (yB q.2.1),.int .i64 q.2.2]/\qg5 b U'.H v q.1/\H.length<=b
def Kr(d v):qO (d++[v])=qO d++[if v.mode=0 then v.value else 0]:=by simp[qO]
def kW(d):(qO d).length=d.length:=by simp[qO]
def qpr(p)(h:VQ p)(hv20:p.vars.length<=20)(hl12:qg p=0->(NG p).flatten.length<=12)(hb:kw p.vars (qJ p)<=18)(hd:p.dists.length<=10000)(hs5:p.soft.length<=10000)(hws:∀d∈p.dists,d.weights.length<=1000)(r H T):
 qj prog GG 15 [.agg (qu p),.agg (yB r)] ⟨H,T⟩ (qxP (jA p r) H):=by
 refine qFy ⟨true,qrQ,[],[]⟩ qX func15 rfl (by kernel_rfl) ?_;have hop:=qcC p h hv20 hb hd hs5 hws;simp[yB];refine qFC (hop _ _) ?_;rintro v ⟨H1,T1⟩ ⟨hk1,hr⟩;rcases hr with⟨he,rfl⟩|⟨he,s,d,rfl,hS,hL,hLL,hsp,hsR,hso,hsv,hroot⟩
 . have hq:jA p r=([],(0,0),(qm p).2):=if_pos he;rw[hq];have b2:=hk1.2 _ _ lk2 (by simp);have b2l:=(qBa.1 b2).1;have hkH:=qF7.trans hk1;have hq:∀T',qxP ([],(0,0),(qm p).2) H (.tup [.sl 0 [] .nil,.agg [.int .u64 0,.int .u64 0],.int .i64 (qm p).2]) ⟨H1.set (H.length+2) (.cells [.int .u64 0,.int .u64 0]),T'⟩:=fun T'=>⟨hkH.setF (by omega),_,H.length,rfl,.inl ⟨rfl,_,_,rfl⟩,qBl _⟩
   simp[-getElem?_pos,he,b2,b2l];exact hq _
 have hq:jA p r=qbH p (List.range (NG p).length) (qO p.vars) r:=if_neg (by simp[he]);rw[hq];have hR:SpR p s d:=⟨hsp,hsR,hsv,hroot⟩;have bx:=hk1.2 _ _ lk0 (by simp);have b1:=hk1.2 _ _ lk1 (by simp);have b2:=hk1.2 _ _ lk2 (by simp);have b2l:=(qBa.1 b2).1;have hkH:=qF7.trans hk1;by_cases hv0:p.vars=[]
 . have hng:NG p=[]:=by
    have h1:=qg6 hsv.vp;rw[hsp,hv0]at h1;have h2:∀g∈NG p,g≠[]:=fun g hg=>by
     obtain⟨g',hg',rfl⟩:=qBA.1 hg;have:=(jz (hsp▸hsv.vp)).1 g' hg';simpa using this
    cases hN:NG p with
    |nil=>rfl
    | cons g t=>
     rw[hN]at h1 h2;have:=h2 g (by simp);simp at h1;exact absurd h1.1 this
   have hgr:p.groups=[]:=(by simpa[NG] using hng);rw[hng,hv0];have hq:∀T',qxP ([],r,0) H (.tup [.sl 1 [] .tight,.agg [.int .u64 r.1,.int .u64 r.2],.int .i64 0]) ⟨H1.set (H.length+2) (.cells [.int .u64 r.1,.int .u64 r.2]),T'⟩:=fun T'=>⟨hkH.setF (by omega),_,H.length,rfl,.inl ⟨rfl,_,_,rfl⟩,qBl _⟩
   simp[bx,hv0,hgr,qD,mkX];refine qFE (fun m ev U=>ev 2=.ptr H.length 0/\ev 3=.ptr (H.length+1) 0/\ev 5=.ptr (H.length+2) 0/\ev 9=.sl 1 [] .tight/\ev 31=.int .i64 0/\ev 32=.int .i64 0/\∃T',U=⟨H1,T'⟩) 0 ?_ ?_
   . exact⟨by simp,by simp,by simp,by simp,by simp,by simp,_,rfl⟩
   rintro m ev U R0 hR0 ⟨e2,e3,e5,e9,e31,e32,T2,rfl⟩;simp[e2,e31,e32,bx,hv0,hgr];refine qFE (fun m ev U=>ev 3=.ptr (H.length+1) 0/\ev 5=.ptr (H.length+2) 0/\ev 9=.sl 1 [] .tight/\ev 48=.int .i64 0/\ev 49=.int .i64 0/\U=⟨H1,T2⟩) 0 ?_ ?_
   . exact⟨by simp[e3],by simp[e5],by simp[e9],by simp⟩
   rintro m ev U R1 hR1 ⟨e3,e5,e9,e48,e49,rfl⟩;simp[e48,e49];rw[qP rfl];simp[-getElem?_pos,zc,e3,e5,e9,b1,b2,b2l];exact hq _
 obtain⟨n,hn⟩:∃n,n=p.vars.length:=⟨_,rfl⟩;have hnp:0<n:=by rw[hn];exact qBv.2 hv0
 have hn0:¬(n:Int)=0:=by omega
 have hbx:=qd bx [.cells (List.replicate n (.int .i64 0))];have hvl:=hsv.vq.vars;rw[hsp,<- hn]at hvl;have hz:List.replicate n (AV.int .i64 0)=zd (qO []++List.replicate n 0):=by simp[zd,qO]
 rw[hz]at hbx;simp[bx,<- hn,show n≠0 by omega,show(n:Int)<=549755813888 by omega,qD,mkX,hz,hbx];refine qFP p.vars (fun dn ev U=>ev 2=.ptr H.length 0/\ev 3=.ptr (H.length+1) 0/\ev 5=.ptr (H.length+2) 0/\ev 7=.ptr s.S 0/\ev 9=.ms H1.length 0 n 1/\ev 30=.sl 4 (p.vars.map qG) .none/\ev 31=.int .i64 n/\ev 32=.int .i64 dn.length/\KpL [] H1 U.H/\U.H[H1.length]?=some (.cells (zd (qO dn++List.replicate (n-dn.length) 0)))) ?_ ?_ ?_
 . exact⟨by simp,by simp,by simp,by simp,by simp,by simp,by simp,by simp,qF7,by simp[qO]⟩
 . rintro dn v rest ev ⟨H2,T2⟩ R0 hR0 hd0 hx hlt ⟨e2,e3,e5,e7,e9,e30,e31,e32,hk2,hrow⟩;dsimp only at hk2 hrow;rw[<- hn]at hlt;have hlt':(dn.length:Int)<n:=(by omega);have hlt1:dn.length+1<=n:=(by omega);have hwl:=wr (n:=(dn.length:Int)+1) (by omega) (by omega);have hrl:(qO dn++List.replicate (n-dn.length) 0).length=n:=(by simp[kW];omega);have hrow2:∀w,(H2++w)[H1.length]?=_:=fun w=>qd hrow w
   obtain⟨j,hj⟩:∃j,n-dn.length=j+1:=⟨n-dn.length-1,by omega⟩;have hst:∀x,(qO dn++List.replicate (n-dn.length) 0).set dn.length x=qO dn++[x]++List.replicate (n-(dn++[v]).length) 0:=fun x=>by
    rw[qBY _ _ (by rw[kW];exact qBl _),kW,qB9,hj];simp[qCZ];have:n-(dn.length+1)=j:=by omega
    rw[this]
   have hst0:qO dn++List.replicate (n-dn.length) 0=qO dn++[0]++List.replicate (n-(dn++[v]).length) 0:=by
    rw[hj];have:n-(dn++[v]).length=j:=by simp;omega
    rw[this];simp[qCZ]
   have h1l:=(qBa.1 hrow).1;by_cases hm:v.mode=0
   . simp[e9,e30,e31,e32,hlt',hx,qG,hm,hwl,hrow2,hlt1,qQ,hrl,yN];refine hR0 _ _ ⟨by simp[e2],by simp[e3],by simp[e5],by simp[e7],by simp[e9],by simp[e30],by simp[e31],by simp,(hk2.trans qF7).setF (qBl _),?_⟩;dsimp only;rw[qBg (by simp;omega),Kr,if_pos hm,hst]
   simp[e9,e30,e31,e32,hlt',hx,qG,hm,hwl,hrow2,hlt1,qQ,hrl,yN];refine hR0 _ _ ⟨by simp[e2],by simp[e3],by simp[e5],by simp[e7],by simp[e9],by simp[e30],by simp[e31],by simp,hk2.trans qF7,?_⟩;dsimp only;rw[hrow2,Kr,if_neg hm,hst0]
 rintro ev ⟨H2,T2⟩ ⟨e2,e3,e5,e7,e9,e30,e31,e32,hk2,hrow⟩;rw[<- hn]at e32;have bx2:=hk2.2 _ _ bx (by simp);simp[e2,e31,e32,bx2];have b12:=hk2.2 _ _ b1 (by simp);have b22:=hk2.2 _ _ b2 (by simp);have hkH2:=hkH.trans hk2;have hlen1:=hk1.1;simp only[qBe,qBr,qB0]at hlen1;have hS2:=hso.keep hk2 (by simp) (by simp) (by simp);have hSS:=(qBa.1 hS2.c).1;obtain⟨m,hm⟩:∃m,m=(NG p).length:=⟨_,rfl⟩;have hm1:m<=1000:=by
  have:=(QF (hsp▸hsv.vp) (by rwa[<- hn])).2;omega
 obtain⟨RES,hRES⟩:∃RES,RES=qbH p (List.range m) (qO p.vars) r:=⟨_,rfl⟩;rw[<- hm,<- hRES];refine qFE (fun k ev U=>ev 3=.ptr (H.length+1) 0/\ev 5=.ptr (H.length+2) 0/\ev 7=.ptr s.S 0/\ev 48=.int .i64 m /\
  ∃(i N:Nat) (a:List Int) (rr:Rng),k=m-i/\i<=m/\ev 49=.int .i64 i/\ev 9=.ms N 0 n 1/\a.length=n/\H1.length<=N/\U.H[N]?=some (.cells (zd a))/\KpL [] H U.H/\U.H[H.length+1]?=some (.cells (yB rr))/\U.H[H.length+2]?=some (.cells (yB (0,0)))/\SpOk s U.H/\qbH p (List.range' i (m-i)) a rr=RES) m ?_ ?_
 . exact⟨by simp[e3],by simp[e5],by simp[e7],by simp[show p.groups.length=m by rw[hm];simp[NG]],0,H1.length,qO p.vars,r,rfl,by omega,by simp,by simp[e9],by rw[kW,hn],qBl _,(by rw[hrow];simp[<- hn]),hkH2,b12,b22,hS2,by rw[hRES,qCd];rfl⟩
 rintro k ev ⟨H3,T3⟩ R1 hR1 ⟨e3,e5,e7,e48,i,N,a,rr,rfl,him,e49,e9,hal,hN1,hN,hk3,b13,b23,hS3,hres⟩;dsimp only at hN hk3 b13 b23 hS3;have b2l3:=(qBa.1 b23).1;have haR:AsR (.ms N 0 n 1) a H3:=.inr ⟨N,by rw[hal],hN⟩;by_cases hi:i<m
 . have hi':(i:Int)<m:=(by omega);have hwi:=wr (n:=(i:Int)+1) (by omega) (by omega);obtain⟨j,hj⟩:∃j,m-i=j+1:=⟨m-i-1,by omega⟩;rw[hj,qCx,qbH]at hres;have ht:=qau hsv (i:Int) hS3 haR T3;rw[hR.tot]at ht;have hgi:i<(NG p).length:=(by omega);simp[e7,e9,e48,e49,hi'];refine qFC ht ?_;rintro v ⟨H4,T4⟩ ⟨rfl,hk4⟩;dsimp only at hk4;have b14:=hk4.2 _ _ b13 (by simp);have b24:=hk4.2 _ _ b23 (by simp);have b2l4:=(qBa.1 b24).1;have hS4:=hS3.keep hk4 (by simp) (by simp) (by simp);have haR4:=haR.keep hk4 (by simp);have hkk4:=hk3.trans hk4;have herr:∀(er:Int) (T':List (Option Nat)) (X:List Blk),(∀(j:Nat) (y:Blk),H4[j]?=some y->X[j]?=some y)->H4.length<=X.length->qxP ([],(0,0),er) H (.tup [.sl 0 [] .nil,.agg [.int .u64 0,.int .u64 0],.int .i64 er]) ⟨X.set (H.length+2) (.cells [.int .u64 0,.int .u64 0]),T'⟩:=fun er T' X hX hXl=>
    ⟨KpL.setF (hkk4.trans ⟨hXl,fun j y hj _=>hX j y hj⟩) (by omega),_,H.length,rfl,.inl ⟨rfl,_,_,rfl⟩,qBl _⟩
   simp only[yB]at b14 b24;obtain⟨t,er,hte⟩:∃t er,kF p (i:Int) a=(t,er):=⟨_,_,rfl⟩;rw[hte]at hres⊢;dsimp only at hres⊢;by_cases her:er=0
   . subst her;rw[if_neg (by simp)]at hres;have htp:qB p.vars a=true/\1<=t/\t<lim:=by
      have h0:=hte;unfold kF at h0;split at h0
      . simp at h0
      rename_i hn';split at h0
      . simp at h0
      split at h0
      . simp at h0
      have hle:Kp p (fun _=>none) a (i:Int).toNat<=lim:=by
       cases hA:qB p.vars a with
       |false=>exact absurd (.inr (.inr hA)) hn'
       |true=>rw[<- hR.sum hA (by simpa using hgi) _ (fun i x hx=>by cases hx)];exact qrb _ _ _ _ _
      refine⟨?_,?_⟩
      . cases hA:qB p.vars a with
        |false=>exact absurd (.inr (.inr hA)) hn'
        |true=>rfl
      have:t=(Kp p (fun _=>none) a (i:Int).toNat:Nat):=by
       have:=congrArg Prod.fst h0;exact this.symm
      omega
     obtain⟨hA,ht1,ht2⟩:=htp;have hlim:lim=1099511627777:=rfl;have hB:=qtB t rr;rw[show jR t rr=((ya t rr).1,(ya t rr).2,0) from if_neg (by omega)]at hres hB;simp only[qiM,yB]at hB;dsimp only at hres;rw[if_neg (by simp)]at hres;obtain⟨hx0,hx1⟩:=wM ht1 rr;generalize ya t rr=q at *;have b14l:=(qBa.1 b14).1;simp[e3,b14];refine qFz hB rfl ?_;simp[e3,e7,e9,b14];have hsub:KpL [H.length+1] H4 (H4.set (H.length+1) (.cells [.int .u64 q.2.1,.int .u64 q.2.2])):=⟨by simp,fun k x hk hn=>by rw[qBd (by simp at hn;omega)];exact hk⟩;simp only[qBe,qBr,qB0]at hS hL hLL;have hS5:=hS4.keep hsub (by simp;omega) (by simp;omega) (by simp;omega);have haR5:=haR4.keep hsub (by rintro N' o n' z e;cases e;simp;omega);have hch:=qgU hsv (hsp▸hl12 (hsp▸hsv.vp)) (gi:=i) (by rwa[hsp]) (vL hsv.vp (by rwa[hsp])) (by rwa[hsp,<- hn]) hS5 haR5 T4 hx0 (by omega);rw[hR.ch hA hgi]at hch;obtain⟨out,hout⟩:∃out,out=z9 p i a q.1:=⟨_,rfl⟩;rw[<- hout]at hch hres;refine qFC hch ?_;rintro v ⟨H6,T6⟩ ⟨hk6,N',rfl,hN',hN6⟩;dsimp only at hk6 hN6;have hol:out.length=n:=by
      rw[hout,wm,hal]
     simp[e49,hwi];refine hR1 (m-(i+1)) _ _ (by omega) ⟨by simp[e3],by simp[e5],by simp[e7],by simp[e48],i+1,N',out,q.2,rfl,by omega,by simp,by simp[hol],hol,?_,hN6,(hkk4.setF (by omega)).trans hk6,hk6.2 _ _ (qBg b14l) (by simp),hk6.2 _ _ (by rw[qBd (by omega)];exact b24) (by simp),hS5.keep hk6 (by simp) (by simp) (by simp),?_⟩
     . have:=hk4.1;have:=(qBa.1 hN).1;simp at hN';omega
     rw[<- hres];have:m-(i+1)=j:=by omega
     rw[this]
   rw[if_pos her]at hres;rw[<- hres];simp[-getElem?_pos,e3,e5,her,b24,b2l4];exact herr er _ H4 (fun _ _ h=>h) (qBl _)
 have hi':¬(i:Int)<m:=by omega
 rw[show m-i=0 by omega]at hres;have hres':RES=(a,rr,0):=hres.symm;rw[hres'];simp only[yB]at b13 b23;simp[e48,e49,hi'];rw[qP rfl];simp[-getElem?_pos,zc,e3,e5,e9,b13,b23,b2l3];refine⟨hk3.setF (by omega),_,N,rfl,.inr ⟨fun e=>by dsimp only at e;rw[e]at hal;simp at hal;omega,by dsimp only;rw[hal],?_⟩,by omega⟩;dsimp only
 rwa[qBd (by omega)]
noncomputable def jc(p:Problem)(R:List Ex)(fx:Nat->Option Nat):List Nat->List (Nat×Nat)->Nat
 |[],c=>if okC p R c=true then 1 else 0
 |i::r,c=>jh (fun v=>wtP p i v*jc p R fx r (c++[(i,v)])) (wT (ji p i) (fx i))
def qr4{p R c d}(h:okC p R (c++d)=true):okC p R c=true:=by
 unfold okC at h⊢;obtain⟨a,ha,hs⟩:=qBJ.1 h;rw[qBf,qCN,qBf]at hs;exact qBJ.2 ⟨a,ha,by rw[qBf];exact⟨hs.1,hs.2.1⟩⟩
def Vp{p R fx}:∀(g) (c),okC p R c≠true->jc p R fx g c=0
 |[],c,h=>if_neg h
 | i::r,c,h=>by
  unfold jc;refine ZL fun v _=>?_
  rw[Vp r _ (fun h'=>h (qr4 h')),qEX]
def quO(w t)(h:w<=lim):sat (w*sat t)=sat (w*t):=by
 have:=qrn w t;have e:sat w=w:=qCw h
 rwa[e]at this
def qgH{α}(w t:α->Nat)(hw:∀x,w x<=lim):∀(l) (s),l.foldl (fun s v=>sat (s+sat (w v*sat (t v)))) (sat s)=sat (s+jh (fun v=>w v*t v) l)
 |[],s=>by simp[jh]
 | x::l,s=>by
  rw[qBP,quO _ _ (hw x),qro,qgH w t hw l];simp only[jh];rw[qDb]
def qb9{p R fx}:∀(g:List Nat) (c:List (Nat×Nat)),qbD p R fx g c=sat (jc p R fx g c)
 | [],c=>by
  unfold qbD jc;split<;>rfl
 | i::r,c=>by
  by_cases h:okC p R c=true
  . unfold qbD jc;rw[if_pos h];have e:(fun s v=>sat (s+sat (wtP p i v*qbD p R fx r (c++[(i,v)]))))=(fun s v=>sat (s+sat (wtP p i v*sat (jc p R fx r (c++[(i,v)]))))):=by
     funext s v;rw[qb9 r]
    rw[e];have:=qgH (fun v=>wtP p i v) (fun v=>jc p R fx r (c++[(i,v)])) (fun v=>qfr p i v) (wT (ji p i) (fx i)) 0;rw[qCH]at this;exact this
  rw[Vp _ _ h];unfold qbD;rw[if_neg h];rfl
def Kq{α β}(F:α->β->Nat):∀(l) (m),jh (fun v=>jh (fun x=>F v x) m) l=jh (fun x=>jh (fun v=>F v x) l) m
 |[],m=>by simp only[jh];exact(ZL fun _ _=>rfl).symm
 | a::l,m=>by
  simp only[jh];rw[Kq F l m]
  induction m with
  |nil=>rfl
  |cons x m ih=>simp only[jh];omega
def Km{p R fx gx}:∀(g) (c),(∀i∈g,fx i=gx i)->jc p R fx g c=jc p R gx g c
 |[],_,_=>rfl
 | i::r,c,h=>by
  unfold jc;rw[h i (by simp)];refine yc fun v _=>?_
  rw[Km r _ fun k hk=>h k (by simp[hk])]
def Zj{fx i k x}(h:k≠i):yj fx i x k=fx k:=if_neg h
def qat{fx i x}:yj fx i x i=some x:=if_pos rfl
def Zk{p R fx i}(hf:fx i=none):∀(g:List Nat) (c:List (Nat×Nat)),g.Nodup->i∈g->jc p R fx g c=jh (fun x=>jc p R (yj fx i x) g c) (List.range (2^ji p i))
 | j::r,c,hn,hi=>by
  rw[qC1]at hn;by_cases hj:j=i
  . subst hj;unfold jc;rw[hf];show jh _ (List.range _)=_;refine yc fun x _=>?_
    rw[qat];show _=jh _ [x];simp only[jh,qCB];rw[Km r _ fun k hk=>(Zj (fx:=fx) (x:=x) (i:=j) (by rintro rfl;exact hn.1 hk)).symm]
  have hi':i∈r:=(qBz.1 hi).resolve_left (Ne.symm hj);unfold jc;have e:∀x,wT (ji p j) (yj fx i x j)=wT (ji p j) (fx j):=fun x=>by rw[Zj hj]
  simp only[e];rw[<- Kq];refine yc fun v _=>?_
  rw[Zk hf r _ hn.2 hi',<- qaA]
noncomputable def zZ(p:Problem)(val:Nat->Nat):List Nat->Nat
 |[]=>1
 |i::r=>wtP p i (val i)*zZ p val r
def Kl{p R fx val}:∀(g) (c),(∀i∈g,fx i=some (val i))->jc p R fx g c=zZ p val g*if okC p R (c++g.map fun i=>(i,val i))=true then 1 else 0
 | [],c,_=>by
  unfold jc zZ;simp
 | i::r,c,h=>by
  unfold jc zZ;rw[h i (by simp)];show jh _ [val i]=_;simp only[jh,qCB];rw[Kl r _ fun k hk=>h k (by simp[hk])];rw[qBQ,qDU];rfl
def qcs{p val}:∀{g:List Nat},0<zZ p val g->∀i∈g,0<wtP p i (val i)
 |[],_,_,hi=>by cases hi
 | j::r,h,i,hi=>by
  unfold zZ at h;have h1:0<wtP p j (val j):=qDr fun e=>by rw[e,qCY]at h;omega
  have h2:0<zZ p val r:=qDr fun e=>by rw[e,qEX]at h;omega
  rcases qBz.1 hi with rfl|hi
  . exact h1
  exact qcs h2 i hi
def JE(F):∀(n x:Nat) (idx:Int),0<=idx->idx<(jh F (List.range' x n):Nat) ->
 (x<=(yl F n x idx).1/\(yl F n x idx).1<x+n)/\0<=(yl F n x idx).2/\(yl F n x idx).2<(F (yl F n x idx).1:Nat)/\idx=(jh F (List.range' x ((yl F n x idx).1-x)):Nat)+(yl F n x idx).2
 |0,x,idx,h0,h=>by simp[jh]at h;omega
 | n+1,x,idx,h0,h=>by
  rw[qCx]at h;simp only[jh]at h;unfold yl;by_cases h1:idx<(F x:Nat)
  . rw[if_pos h1];refine⟨⟨qBl _,by omega⟩,h0,h1,?_⟩;simp[jh]
  rw[if_neg h1];by_cases hn:n=0
  . subst hn;simp[jh]at h;omega
  rw[if_neg hn];have ih:=JE F n (x+1) (idx-(F x:Nat)) (by omega) (by omega);obtain⟨⟨a1,a2⟩,a3,a4,a5⟩:=ih;generalize yl F n (x+1) (idx-(F x:Nat))=q at *;refine⟨⟨by omega,by omega⟩,a3,a4,?_⟩;have e:q.1-x=(q.1-(x+1))+1:=by omega
  rw[e,qCx];simp only[jh];omega
end Go.Proofs.YtafbccendejkeaaGreatDoor
namespace Go.Abs
open Go Go.RowKit
def Pure.ofA{P G f args r Q}(h:qj P (zh G) f args ⟨[],[]⟩ Q)(hq:∀v U',Q v U'->qL (frz U'.H 8 v)=true/\Leq (frz U'.H 8 v) r):Pure P G f args r:=by
 refine⟨h.1,?_⟩;intro w0 ro vs hg hro hvs;have hw:WRel (zh G) w0 ro (K0 ro) ⟨[],[]⟩ w0:=⟨Below.refl _ _,hg,hro,fun b o v e _=>e,by simp,fun _ _ _ e=>by simp[K0]at e,fun _ _ e=>by simp[K0]at e,by simp,fun _ _ e=>by simp[K0]at e,
  fun _ _ _ _ e=>by simp[K0]at e,rfl,fun _ _ _ _ _ e=>by simp[K0]at e,fun _ _ e=>by simp[K0]at e,fun _ _ e=>by simp[K0]at e⟩
 refine(h.2 w0 ro (K0 ro) w0 vs hw hvs).mono ?_;rintro e w' (⟨v',v,U',K',rfl,h1,h2,hv,hQ⟩|⟨c,U',K',rfl,h1,h2,hX⟩)
 . obtain⟨q1,q2⟩:=h2.end_ro;obtain⟨g1,g2⟩:=hq v U' hQ;exact⟨v',Qf w0 w' K'.ro,rfl,h2.below,fun b o v e=>YP _ _ _ _ _ _ (h1.ro b o v e),q1,q2,qFF _ _ g2 (qkY h2 8 hv)⟩
 exact hX.elim
end Go.Abs
namespace Go.Proofs.YtafbccendejkeaaGreatDoor
open Go Go.Abs Go.ChangeShapes Go.WideShapes Go.ChangeAt Go.RowKit Proofs.Tryz
def qg5.frz{b H v a}(h:qg5 b H v a)(n):qL (Abs.frz H (n+1) v)=true/\Leq (Abs.frz H (n+1) v) (.sl 1 (a.map qh) .none)/\(qL v=true->Leq v (.sl 1 (a.map qh) .none)):=by
 rcases h with⟨rfl,sz,tok,rfl⟩|⟨h0,rfl,hb⟩
 . have h1:∀t,Leq (.sl sz [] t) (.sl 1 (([]:List Int).map qh) .none):=fun t=>by simp[Leq]
   refine⟨?_,?_,fun _=>h1 _⟩
   . unfold Abs.frz;split
     . assumption
     simp
   unfold Abs.frz;split
   . exact h1 _
   simp
 have ho:jC b 1 qh H (.ms b 0 a.length 1) a:=.inr ⟨h0,rfl,by rw[hb,jQ]⟩;exact⟨ho.frzNo (fun _=>rfl) (fun _=>rfl) (fun _=>rfl) n,ho.frz (fun _=>rfl) (fun _=>rfl) (fun _=>rfl) n,fun h=>by simp[qL]at h⟩
def qor{H n v x y}(hx:qL x=true)(hy:qL y=true){w}(h1:qL (Abs.frz H n v)=true)(h2:Leq (Abs.frz H n v) w)(h3:qL v=true->Leq v w)(hX:∀X:AV,Leq X X):
 qL (Abs.frz H (n+1) (.tup [v,x,y]))=true/\Leq (Abs.frz H (n+1) (.tup [v,x,y])) (.tup [w,x,y]):=by
 by_cases hv:qL v=true
 . have hn:qL (.tup [v,x,y])=true:=(by simp[qL,qx,hv,hx,hy]);rw[qs hn];exact⟨hn,by simp[Leq,zm,h3 hv]⟩
 have hn:qL (.tup [v,x,y])=false:=by simp[qL,qx,hv]
 have e:Abs.frz H (n+1) (.tup [v,x,y])=.tup [Abs.frz H n v,x,y]:=by
  rw[Abs.frz,if_neg (by simp[hv])];simp[qs hx,qs hy]
 rw[e];exact⟨by simp[qL,qx,h1,hx,hy],by simp[Leq,zm,h2]⟩
noncomputable def qtK(q:List Int×Rng×Int):AV:=.tup [.sl 1 (q.1.map qh) .none,.agg (yB q.2.1),.int .i64 q.2.2]
def qty(p)(h:VQ p)(hv20:p.vars.length<=20)(hl12:qg p=0->(NG p).flatten.length<=12)(hb:kw p.vars (qJ p)<=18)(hd:p.dists.length<=10000)(hs5:p.soft.length<=10000)(hws:∀d∈p.dists,d.weights.length<=1000)(r):
 Pure Tryz.prog GG 15 [.agg (qu p),.agg (yB r)] (qtK (jA p r)):=by
 refine Pure.ofA (qpr p h hv20 hl12 hb hd hs5 hws r [] []) ?_;rintro v U' ⟨_,w,b,rfl,hr,_⟩;obtain⟨h1,h2,h3⟩:=hr.frz 6;exact qor (by simp[qL,qx,yB]) (by simp[qL]) h1 h2 h3 (fun _=>qFG _)
