import Derived.Test.YtimecmegnocamaaGreatDoorPq44
set_option maxRecDepth 100000
set_option maxHeartbeats 16000000
set_option linter.all false
set_option linter.defProp false
namespace Go.Proofs.YtimecmegnocamaaGreatDoor
open Go Go.Abs Proofs.Tryz
abbrev qx3(s:Str):List AV:=[.int .i64 2,.int .i64 0,.str s,.sl 0 [] .nil]
def qm3(s):zm (qx3 s) (qt (wN s)):=by
 rw[qc];simp[wN,zm,Leq]
structure NearK(k)(c:List AV)(Y):Prop where
 len:c.length=4
 atoms:c.all AV.atom=true
 fz:∀H j,k<=j->zm (c.map (frz H j)) (qt Y)/\qw (c.map (frz H j))=true/\(c.map (frz H j)).all AV.atom=true
def NearK.mono{k k' c Y}(h:NearK k c Y)(hk:k<=k'):NearK k' c Y:=⟨h.len,h.atoms,fun H j hj=>h.fz H j (by omega)⟩
def qaS{H j}:∀{c:List AV},qw c=true->c.map (frz H j)=c
 |[],_=>rfl
 | a::r,h=>by
  simp only[qw,qA1]at h;rw[qA7,qF h.1,qaS h.2]
def vB{H j}:∀{c:List (List AV)},qX c=true->c.map (·.map (frz H j))=c
 |[],_=>rfl
 | a::r,h=>by
  simp only[qX,qA1]at h;rw[qA7,qaS h.1,vB h.2]
def qsp{H j rows tok}(hn:qX (rows.map (·.map (frz H j)))=true)(ha:(rows.map (·.map (frz H j))).all (·.all AV.atom)=true):
 ∃tok',frz H (j+1) (.sl 4 rows tok)=.sl 4 (rows.map (·.map (frz H j))) tok'/\qO (.sl 4 (rows.map (·.map (frz H j))) tok')=true:=by
 by_cases h:qO (.sl 4 rows tok)=true
 . have hr:qX rows=true:=by
    cases tok with
    |chain=>simp[qO]at h
    |_=>simpa[qO] using h
   rw[vB hr];exact⟨tok,qF h,h⟩
 refine⟨.none,?_,by simp only[qO,hn];rfl⟩;rw[frz,if_neg h,if_pos ha]
def qf4{k:Nat}{o n:Int}{s:Str}{rows:List (List AV)}{args:List Ex}{tok:Abs.Tok}(h:∀H j,k<=j->yp (rows.map (·.map (frz H j))) (args.map qt)/\qX (rows.map (·.map (frz H j)))=true/\(rows.map (·.map (frz H j))).all (·.all AV.atom)=true):
 NearK (k+1) [.int .i64 o,.int .i64 n,.str s,.sl 4 rows tok] (.mk o n s args):=by
 refine⟨rfl,rfl,fun H j hj=>?_⟩;obtain⟨j,rfl⟩:∃i,j=i+1:=⟨j-1,by omega⟩;obtain⟨h1,h2,h3⟩:=h H j (by omega);obtain⟨tok',e,hn⟩:=qsp (tok:=tok) h2 h3;have e2:[AV.int .i64 o,.int .i64 n,.str s,.sl 4 rows tok].map (frz H (j+1))=[.int .i64 o,.int .i64 n,.str s,.sl 4 (rows.map (·.map (frz H j))) tok']:=by
  simp only[qA7,qBy,Zl,qeD,e]
 rw[e2];refine⟨?_,by simp only[qw,hn];simp[qO],rfl⟩;rw[qc];simp only[zm,Leq,and_true,true_and,qFi,Ex.n_mk,qFj,qFk];exact .inr ⟨h1,.inl trivial⟩
def qrY{k c d Y Z tok}(hc:NearK k c Y)(hd:NearK k d Z):NearK (k+1) [.int .i64 20,.int .i64 0,.str [],.sl 4 [c,d] tok] (orE Y Z) :=
 qf4 (args:=[Y,Z]) fun H j hj=>by
  obtain⟨h1,h2,h3⟩:=hc.fz H j hj;obtain⟨g1,g2,g3⟩:=hd.fz H j hj;simp only[qA7,qBy];refine⟨Qh (.inr ⟨h1,jw _⟩) (Qh (.inr ⟨g1,jw _⟩) qgd),by simp[*],by simp only[qCm,List.all_nil,h3,g3];rfl⟩
def Jo(n:Int):List AV:=qt (jE n)
def qv5(H s n)(hs:s.length<2^20):qq (Dof prog) ⟨H,jY [] s⟩ 23 (ww 4 Jo 0 s) (.sl 4 [Jo n] .tight)=some (ww 4 Jo 0 (s++[n]),⟨H,jY [] (s++[n])⟩) :=
 ya (D:=Dof prog) (sz:=4) (T:=[]) (H:=H) (m:=[n]) (en:=Jo) D23 rfl D63 rfl (by decide) rfl (by decide) (by simp;omega) 4 (.inl rfl)
def qo0(f N n):(qiv f N n).length<=2:=by
 unfold qiv;split
 . split<;>split<;>simp
 simp
def qbd(f N):∀k,(qdr f N k).length<=2*k
 |0=>by simp[qdr]
 | k+1=>by
  have:=qbd f N k;have:=qo0 f N k;rw[WC,qAY];omega
def QO:∀l:List Rg,(ji l).map Jo=(ki l).map qt
 |[]=>rfl
 | r::l=>by
  show Jo r.1::Jo r.2::(ji l).map Jo=qt (jE r.1)::qt (jE r.2)::(ki l).map qt;rw[QO l];rfl
def quq(B:List Int){j}(h:32*j<B.length)(tok):∃tok',zk (.sl 4 (B.map Jo) tok) (some (.int .i64 ((32*j:Nat):Int))) (some (.int .i64 ((min (32*j+32) B.length:Nat):Int))) none=some (.sl 4 (((B.drop (32*j)).take 32).map Jo) tok'):=by
 have e:((B.map Jo).take (min (32*j+32) B.length)).drop (32*j)=((B.drop (32*j)).take 32).map Jo:=by
  rw[<- List.map_take,<- List.map_drop,qE5];congr 1;by_cases hb:32*j+32<=B.length
  . rw[qCq hb];congr 1;omega
  rw[qEa (by omega),qAZ (by simp),qAZ (by simp;omega)]
 refine⟨zT B.length (32*j) (min (32*j+32) B.length) none tok,?_⟩;rw[<- e];simp only[zk,zR,w7,yT,qBA,qBu,Option.isSome_none];rw[if_pos]
 . simp
 refine⟨by omega,by omega,by omega,trivial⟩
def NearK.agg{k n c Y}(h:NearK k c Y)(hk:k<=n)(H):qO (frz H (n+1) (.agg c))=true/\Leq (frz H (n+1) (.agg c)) (.agg (qt Y)):=by
 obtain⟨h1,h2,h3⟩:=h.fz H n hk;by_cases hn:qO (.agg c)=true
 . have hn2:qw c=true:=(by simpa[qO] using hn);rw[qaS hn2]at h1;rw[qF hn];exact⟨hn,by simpa[Leq] using h1⟩
 have e:frz H (n+1) (.agg c)=.agg (c.map (frz H n)):=by rw[frz,if_neg hn]
 rw[e];exact⟨by simpa[qO] using h2,by simpa[Leq] using h1⟩
def qkh(s)(PP:List Rg)(tok):NearK 1 [.int .i64 23,.int .i64 0,.str [],.sl 4 (qx3 s::(ki PP).map qt) tok] (Ql s PP) :=
 qf4 (k:=0) (args:=wN s::ki PP) fun H j _=>by
  have hn:=quU (ki PP);have hr:qX (qx3 s::(ki PP).map qt)=true:=by simp only[qX,qA1];exact⟨by simp[qw,qO],hn⟩
  rw[vB hr];refine⟨?_,hr,?_⟩
  . rw[qA7];exact Qh (.inr ⟨qm3 s,jw _⟩) (WM _)
  simp only[qCm,qA1];refine⟨by simp[AV.atom],?_⟩;rw[qA3];intro x hx;obtain⟨e,_,rfl⟩:=qBj.1 hx;exact jw e
def qz5(P:List AV)(D:List AV)(V:List AV)(f:Nat->Bool)(N k:Nat)(ev:Env)(U:St):Prop :=
 ev 3=.ptr 1 0/\ev 4=.ptr 2 0/\ev 5=.ptr 3 0/\ev 6=ww 4 Jo 0 (qdr f N k)/\ev 7=.int .i64 k/\U=⟨[.cells P,.cells D,.cells [.int .i64 0,.int .i64 0,.str [],.sl 0 [] .nil],.cells V],jY [] (qdr f N k)⟩
def qea(p:Problem)(d:Dist)(v:Var)(i:Nat)(hi:d.var=i)(hv:p.vars[i]?=some v)(hvl:p.vars.length<=1000)(hw0:0<=v.width)(hw8:v.width<=8)(hf:Fits d.weights)(hrl:(QH (Zz v d.weights)).length<=112):
 Pure prog GG 143 [.agg (qA p),.agg (zs d)] (.agg (qt (vM p.vars d))):=by
 refine qFl o0 true qg func143 rfl (by kernel_rfl) ?_;have hs:=wG (w:=v.width) hw0 (by omega);have hsz:=Yy hw8;rw[qbT]at hrl;rw[show vM p.vars d=kf v.name (QH (Zz v d.weights)) by unfold vM;rw[hi,qBu,hv],qbT];have hwn:¬v.width<0:=by omega
 have hil:=(qAU.1 hv).1;have hszd:zU v=2^v.width.toNat:=rfl;rw[<- hszd]at hs;have hpos:=fun n:Int=>qek d.weights n hf
 have hnum:=qhA;have hb:=qoZ (fun n=>vO d.weights n) (zU v);have hfn:∀n:Nat,vO d.weights (n:Int)=(fun n:Nat=>vO d.weights n) n:=fun n=>rfl
 have hbl:=qbd (fun n=>vO d.weights n) (zU v);generalize hF:(fun n:Nat=>vO d.weights (n:Int))=f at *;generalize hN:zU v=N at *;generalize hU:kf v.name (kz f N)=U_ at *;have hE:=qc U_;simp only[hE];simp[hi,hv,qM];obtain⟨P,hP⟩:∃P,P=qA p:=⟨_,rfl⟩;refine qFu (fun m ev U=>∃k,m=N-k/\k<=N/\qz5 P (zs d) (qM v) f N k ev U) N ?_ ?_
 . refine⟨0,by omega,by omega,by simp,by simp,by simp,by simp[qdr],by simp,?_⟩;rw[hP];simp[qdr,qM,hi]
 rintro m ev U R hR ⟨k,rfl,hk,e3,e4,e5,e6,e7,rfl⟩;by_cases hlt:k<N
 . have hlt':(k:Int)<N:=(by omega);have hw:=wr (n:=(k:Int)+1) (by omega) (by omega);have hwN:=wr (n:=(N:Int)) (by omega) (by omega);have hw2:=wr (n:=(k:Int)-1) (by omega) (by omega);have hgo:∀ev' T',ev' 3=.ptr 1 0->ev' 4=.ptr 2 0->ev' 5=.ptr 3 0->ev' 6=ww 4 Jo 0 (qdr f N (k+1))->ev' 7=.int .i64 ((k:Int)+1)->T'=jY [] (qdr f N (k+1))->R ev' ⟨[.cells P,.cells (zs d),.cells [.int .i64 0,.int .i64 0,.str [],.sl 0 [] .nil],.cells (qM v)],T'⟩:=by
    rintro ev' T' a3 a4 a5 a6 a7 rfl;exact hR (N-(k+1)) _ _ (by omega) ⟨k+1,rfl,by omega,a3,a4,a5,a6,by rw[a7];simp,rfl⟩
   rw[WC]at hgo;have hpk:=hpos k;have hpk1:=hpos (k+1);have hpk2:=hpos (k-1);simp only[qM,zs,hi]at hgo hpk hpk1 hpk2⊢;simp[e3,e5,e7,hs,hwn,IntKind.bits,hlt'];refine qFp (G:=zl GG) hpk (by simp) ?_;rw[hfn k]
   cases hfk:f k with
   | false=>
    have hb1:qiv f N k=[]:=(by unfold qiv;rw[hfk];rfl);rw[hb1,qBC]at hgo;simp[unA,e7,hw];exact hgo _ _ (by simp[e3]) (by simp[e4]) (by simp[e5]) (by simp[e6]) (by simp) rfl
   | true=>
    have hfm:k≠0->vO d.weights ((k:Int)-1)=f (k-1):=fun h=>by
     rw[show((k:Int)-1)=((k-1:Nat):Int) by omega];exact hfn _
    have hfp:vO d.weights ((k:Int)+1)=f (k+1):=hfn (k+1);have hnk:=hnum k;have hL:∀L:List Int,L.length<=1->(qdr f N k++L).length<2^20:=fun L hL=>by
     have:=qbd f N k;rw[qAY];omega
    have hr:=fun n:Int=>(show Jo n=[.int .i64 1,.int .i64 n,.str [],.sl 4 [] .none] by simp[Jo,jE,qc])
    have hap:=fun(L:List Int) (hl:L.length<=1)=>qv5 [.cells P,.cells [.int .i64 i,.sl 4 (d.weights.map qz) .none],.cells [.int .i64 0,.int .i64 0,.str [],.sl 0 [] .nil],.cells [.str v.name,.int .i64 v.width,.int .i64 v.mode,.int .i64 v.value]] (qdr f N k++L) k (hL L hl)
    have hap0:=hap [] (by simp);have hap1:=hap [(k:Int)] (by simp);rw[qBC]at hap0;rw[hr]at hap0 hap1;change Pure _ _ _ _ (.agg (Jo k)) at hnk;rw[hr]at hnk;have hA:k=0\/(k≠0/\f (k-1)=false)\/(k≠0/\f (k-1)=true):=by
     by_cases h:k=0
     . exact .inl h
     cases h2:f (k-1)
     . exact .inr (.inl ⟨h,rfl⟩)
     exact .inr (.inr ⟨h,rfl⟩)
    have hB:k+1=N\/(k+1≠N/\f (k+1)=false)\/(k+1≠N/\f (k+1)=true):=by
     by_cases h:k+1=N
     . exact .inl h
     cases h2:f (k+1)
     . exact .inr (.inl ⟨h,rfl⟩)
     exact .inr (.inr ⟨h,rfl⟩)
    have hb1:qiv f N k=(if k=0\/f (k-1)=false then [(k:Int)] else [])++(if k+1=N\/f (k+1)=false then [(k:Int)] else []):=by
     unfold qiv;rw[if_pos hfk]
    rw[hb1]at hgo;rcases hA with hk0|⟨hk0,hkf⟩|⟨hk0,hkf⟩
    . rw[if_pos (.inl hk0)]at hgo;simp[unA,e3,e6,e7];refine⟨fun h=>absurd hk0 h,fun _=>?_⟩;refine qFp (G:=zl GG) hnk rfl ?_;simp[e5,e7,qi,qp,hap0];rcases hB with hB|⟨hB1,hB2⟩|⟨hB1,hB2⟩
      . have hB':(k:Int)+1=N:=(by omega);rw[if_pos (.inl hB)]at hgo;simp[e7,hs,hwn,IntKind.bits,hwN,hB'];refine qFp (G:=zl GG) hnk rfl ?_;simp[e7,hw,qi,qp,hap1];exact hgo _ _ (by simp[e3]) (by simp[e4]) (by simp[e5]) (by simp) (by simp[hB']) (by simp)
      . have hB':¬(k:Int)+1=N:=(by omega);rw[if_pos (.inr hB2)]at hgo;rw[hfp,hB2]at hpk1;simp[e3,e7,hs,hwn,IntKind.bits,hw,hB'];refine qFp (G:=zl GG) hpk1 (by simp) ?_;simp[unA,e7,hB'];refine qFp (G:=zl GG) hnk rfl ?_;simp[e7,hw,qi,qp,hap1];exact hgo _ _ (by simp[e3]) (by simp[e4]) (by simp[e5]) (by simp) (by simp) (by simp)
      have hB':¬(k:Int)+1=N:=(by omega);rw[if_neg (fun h=>by rcases h with h|h;exact hB1 h;rw[hB2]at h;cases h)]at hgo;rw[hfp,hB2]at hpk1;simp[e3,e7,hs,hwn,IntKind.bits,hw,hB'];refine qFp (G:=zl GG) hpk1 (by simp) ?_;simp[unA,e7,hw,hB'];exact hgo _ _ (by simp[e3]) (by simp[e4]) (by simp[e5]) (by simp[]) (by simp) (by simp)
    . have hk0':¬(k:Int)=0:=(by omega);rw[if_pos (.inr hkf)]at hgo;rw[hfm hk0,hkf]at hpk2;simp[unA,e3,e6,e7,hk0,hw2];refine qFp (G:=zl GG) hpk2 (by simp) ?_;simp[unA,e6,e7];refine qFp (G:=zl GG) hnk rfl ?_;simp[e5,e7,qi,qp,hap0];rcases hB with hB|⟨hB1,hB2⟩|⟨hB1,hB2⟩
      . have hB':(k:Int)+1=N:=(by omega);rw[if_pos (.inl hB)]at hgo;simp[e7,hs,hwn,IntKind.bits,hwN,hB'];refine qFp (G:=zl GG) hnk rfl ?_;simp[e7,hw,qi,qp,hap1];exact hgo _ _ (by simp[e3]) (by simp[e4]) (by simp[e5]) (by simp) (by simp[hB']) (by simp)
      . have hB':¬(k:Int)+1=N:=(by omega);rw[if_pos (.inr hB2)]at hgo;rw[hfp,hB2]at hpk1;simp[e3,e7,hs,hwn,IntKind.bits,hw,hB'];refine qFp (G:=zl GG) hpk1 (by simp) ?_;simp[unA,e7,hB'];refine qFp (G:=zl GG) hnk rfl ?_;simp[e7,hw,qi,qp,hap1];exact hgo _ _ (by simp[e3]) (by simp[e4]) (by simp[e5]) (by simp) (by simp) (by simp)
      have hB':¬(k:Int)+1=N:=(by omega);rw[if_neg (fun h=>by rcases h with h|h;exact hB1 h;rw[hB2]at h;cases h)]at hgo;rw[hfp,hB2]at hpk1;simp[e3,e7,hs,hwn,IntKind.bits,hw,hB'];refine qFp (G:=zl GG) hpk1 (by simp) ?_;simp[unA,e7,hw,hB'];exact hgo _ _ (by simp[e3]) (by simp[e4]) (by simp[e5]) (by simp[]) (by simp) (by simp)
    have hk0':¬(k:Int)=0:=(by omega);rw[if_neg (fun h=>by rcases h with h|h;exact hk0 h;rw[hkf]at h;cases h)]at hgo;rw[hfm hk0,hkf]at hpk2;simp[unA,e3,e6,e7,hk0,hw2];refine qFp (G:=zl GG) hpk2 (by simp) ?_;simp[unA,e5,e7];rcases hB with hB|⟨hB1,hB2⟩|⟨hB1,hB2⟩
    . have hB':(k:Int)+1=N:=(by omega);rw[if_pos (.inl hB)]at hgo;simp[e6,e7,hs,hwn,IntKind.bits,hwN,hB'];refine qFp (G:=zl GG) hnk rfl ?_;simp[e7,hw,qi,qp,hap0];exact hgo _ _ (by simp[e3]) (by simp[e4]) (by simp[e5]) (by simp) (by simp[hB']) (by simp)
    . have hB':¬(k:Int)+1=N:=(by omega);rw[if_pos (.inr hB2)]at hgo;rw[hfp,hB2]at hpk1;simp[e3,e6,e7,hs,hwn,IntKind.bits,hw,hB'];refine qFp (G:=zl GG) hpk1 (by simp) ?_;simp[unA,e6,e7,hB'];refine qFp (G:=zl GG) hnk rfl ?_;simp[e7,hw,qi,qp,hap0];exact hgo _ _ (by simp[e3]) (by simp[e4]) (by simp[e5]) (by simp) (by simp) (by simp)
    have hB':¬(k:Int)+1=N:=(by omega);rw[if_neg (fun h=>by rcases h with h|h;exact hB1 h;rw[hB2]at h;cases h)]at hgo;rw[hfp,hB2]at hpk1;simp[e3,e6,e7,hs,hwn,IntKind.bits,hw,hB'];refine qFp (G:=zl GG) hpk1 (by simp) ?_;simp[unA,e7,hw,hB'];exact hgo _ _ (by simp[e3]) (by simp[e4]) (by simp[e5]) (by simp[e6]) (by simp) (by simp)
 have hkN:k=N:=by omega
 subst hkN;have hlt':¬(k:Int)<k:=by omega
 rw[hb]at e6⊢;have hRl:(kz f k).length<=k:=by
  have h1:=hbl k;rw[hb,Z0]at h1;omega
 have hn0:=hnum 0;change Pure _ _ _ _ (.agg (Jo 0)) at hn0;have hr:=fun n:Int=>(show Jo n=[.int .i64 1,.int .i64 n,.str [],.sl 4 [] .none] by simp[Jo,jE,qc])
 rw[hr]at hn0;simp only[qM,zs,hi];simp[e5,e7,hs,hwn,IntKind.bits,hlt'];refine qFp (G:=zl GG) hn0 rfl ?_;generalize kz f k=RG at *;simp[qP];refine qFu (fun m ev U=>∃(j:Nat) (c:List AV) (out:Ex) (t:List Blk) (T:List (Option Nat)),m=RG.length-16*j/\16*j<RG.length+16/\ev 4=.ptr 2 0/\ev 5=.ptr 3 0/\ev 6=ww 4 Jo 0 (ji RG)/\ev 8=.ptr 4 0/\ev 9=.int .i64 ((32*j:Nat):Int) /\
  U=⟨.cells P::.cells [.int .i64 i,.sl 4 (d.weights.map qz) .none]::.cells [.int .i64 0,.int .i64 0,.str [],.sl 0 [] .nil]::.cells [.str v.name,.int .i64 v.width,.int .i64 v.mode,.int .i64 v.value]::.cells c::t,T⟩/\NearK j c out /\
  ((j=0/\out=jE 0)\/(0<j/\∃kk,(RG.drop (16*j)).length<=kk/\U_=Qx v.name out (z6 16 kk (RG.drop (16*j)))))) RG.length ?_ ?_
 . refine⟨0,_,jE 0,[],_,by omega,by omega,by simp[e4],by simp[e5],by simp[e6],by simp,by simp,rfl,?_,.inl ⟨rfl,rfl⟩⟩;refine⟨rfl,rfl,fun H j _=>?_⟩;rw[qaS (by simp[qw,qO])];have:=qFx (Jo 0);rw[hr]at this;refine⟨?_,by simp[qw,qO],rfl⟩;rw[show qt (jE 0)=Jo 0 from rfl,hr];exact this
 rintro m ev U R hR ⟨j,c,out,t,T,rfl,hj,e4,e5,e6,e8,e9,rfl,hnear,hst⟩;obtain⟨c0,c1,c2,c3,rfl⟩:∃c0 c1 c2 c3,c=[c0,c1,c2,c3]:=by
  have:=hnear.len
  match c,this with
  |[c0,c1,c2,c3],_=>exact⟨c0,c1,c2,c3,rfl⟩
 have hac:=qma hnear.atoms;have hfl:=Z0 RG;by_cases hlt:16*j<RG.length
 . have hB:32*j<(ji RG).length:=(by omega);have hlt':((32*j:Nat):Int)<((ji RG).length:Nat):=(by omega);obtain⟨a,q,hq⟩:∃a q,ji RG=a::q:=by
    cases h:ji RG with
    |nil=>rw[h]at hB;simp at hB
    |cons a q=>exact⟨a,q,rfl⟩
   have e6':ev 6=.sl 4 ((ji RG).map Jo) (.chain 0 (ji RG).length):=(by rw[e6,hq];rfl);obtain⟨tok',hsl⟩:=quq (ji RG) hB (.chain 0 (ji RG).length);have hcut:=qie RG j;rw[hcut,QO ((RG.drop (16*j)).take 16)]at hsl;have hw1:=wr (n:=((32*j:Nat):Int)+32) (by omega) (by omega);have hmin:wV (.int .i64 (((32*j:Nat):Int)+32)) (.int .i64 ((ji RG).length:Nat))=some (.int .i64 ((min (32*j+32) (ji RG).length:Nat):Int)):=by
    simp only[wV];congr 2;split<;>omega
   have hPl:((RG.drop (16*j)).take 16).length<=16:=(by simp;omega);have hPne:(RG.drop (16*j)).take 16≠[]:=fun h=>by
    have:=congrArg List.length h;simp at this;omega
   generalize hPP:(RG.drop (16*j)).take 16=PP at *;have hnl:((ki PP).map qt).length<=32:=(by rw[<- QO,qBA,Z0];omega);have hnne:(ki PP).map qt≠[]:=fun h=>hPne (by
    have:=congrArg List.length h;rw[<- QO,qBA,Z0]at this;refine qA6 ?_;simp only[qB8]at this;omega)
   have hlP:=WM ((ki PP).map qt);generalize hNN:(ki PP).map qt=NN at *;generalize hBB:(ji RG).map Jo=BB at *;generalize hb':(ji RG).length=b at *;generalize hmm:min (32*j+32) b=mm at *;have hN1:1+NN.length<=549755813888:=(by omega);have hBl:BB.length=b:=(by rw[<- hBB,qBA,hb']);simp[-qZ,-Int.natCast_mul,hac,e5,e6',e8,e9,hBl,hlt',hw1,hmin,hsl,zu,zZ,qP,qi,qp,qq,za,hnne,hN1];have hne:=fun k' (h:k'≥1)=>(qkh v.name PP (.chain T.length NN.length)).mono h
   rw[hNN]at hne;have hdl:(RG.drop (16*(j+1)))=(RG.drop (16*j)).drop 16:=(by rw[qEo];congr 1);refine⟨fun h0=>?_,fun h0=>?_⟩
   . have hj0:j=0:=(by omega);subst hj0;refine hR (RG.length-16*(0+1)) _ _ (by omega) ⟨1,_,Ql v.name PP,_,_,by omega,by omega,by simp[e4],by simp[e5],by simp[e6],by simp[e8],by simp,rfl,hne 1 (by omega),.inr ⟨by omega,RG.length,by simp,?_⟩⟩;have hRne:RG≠[]:=fun h=>by rw[h]at hlt;simp at hlt
     rw[<- hU];unfold kf;rw[if_neg hRne,<- hPP];rfl
   obtain⟨kk,hkk,hUk⟩:∃kk,(RG.drop (16*j)).length<=kk/\U_=Qx v.name out (z6 16 kk (RG.drop (16*j))):=by
    rcases hst with⟨rfl,_⟩|⟨_,h⟩
    . omega
    exact h
   have hor:=qrY (tok:=.tight) hnear (hne j (by omega));have hRd:RG.drop (16*j)≠[]:=fun h=>by
    have:=congrArg List.length h;simp at this;omega
   obtain⟨kk,rfl⟩:∃k',kk=k'+1:=⟨kk-1,by
    have:=qBf.2 hRd;omega⟩
   rw[z6,if_neg hRd,hPP]at hUk;refine hR (RG.length-16*(j+1)) _ _ (by omega) ⟨j+1,_,orE out (Ql v.name PP),_,_,rfl,by omega,by simp[e4],by simp[e5],by simp[e6],by simp[e8],by simp;omega,rfl,hor,.inr ⟨by omega,kk,?_,?_⟩⟩
   . rw[hdl,qCM];omega
   rwa[hdl]
 have hUo:U_=out:=by
  rcases hst with⟨rfl,rfl⟩|⟨_,kk,_,h⟩
  . have:RG=[]:=qA6 (by omega);rw[<- hU,this];rfl
  rw[show RG.drop (16*j)=[] by simp;omega]at h
  rwa[show z6 16 kk ([]:List Rg)=[] by cases kk<;>simp[z6]]at h
 subst hUo;obtain⟨sz6,tok6,h6⟩:∃sz tok,ww 4 Jo 0 (ji RG)=.sl sz ((ji RG).map Jo) tok:=by
  cases ji RG with
  |nil=>exact⟨_,_,rfl⟩
  |cons a q=>exact⟨_,_,rfl⟩
 rw[h6]at e6;simp[-qZ,-fin,-yb,-yP,-Int.natCast_mul,hac,e4,e6,e8,e9,show ¬((32*j:Nat):Int)<((ji RG).length:Nat) by omega];have hj7:j<=7:=by
  rcases hst with⟨rfl,_⟩|_<;>omega
 have:=hnear.agg (n:=7) (by omega);rw[hE]at this;exact this _
def qv6(H s e)(hs:s.length<2^30):qq (Dof prog) ⟨H,jY [] s⟩ 23 (ww 4 qt 0 s) (.sl 4 [qt e] .tight)=some (ww 4 qt 0 (s++[e]),⟨H,jY [] (s++[e])⟩) :=
 ya (D:=Dof prog) (sz:=4) (T:=[]) (H:=H) (m:=[e]) (en:=qt) D23 rfl D63 rfl (by decide) rfl (by decide) (by simp only[qBo];omega) 4 (.inl rfl)
def Kv(p)(h:VQ p)(hfl:p.groups.flatten.length<4611686018427387904)(hd:p.dists.length<=10000)(hrl:∀d∈p.dists,∀v:Var,(QH (Zz v d.weights)).length<=112):Pure prog GG 89 [.agg (qA p)] (.sl 4 ((jF p).map qt) .none):=by
 refine qFm qg func89 rfl (by kernel_rfl) ?_;have hval:=Yt p h hfl;simp only[qA]at hval;by_cases hv:qo p=0
 case neg=>
  have:jF p=[]:=if_neg hv;rw[this];simp;refine qFp (G:=zl GG) hval (by simp) ?_;simp[hv,Leq]
 have hs:jF p=p.dists.map (vM p.vars):=if_pos hv;rw[hs];obtain⟨S,hS⟩:∃S,S=p.dists.map (vM p.vars):=⟨_,rfl⟩;rw[<- hS];simp;refine qFp (G:=zl GG) hval (by simp) ?_;simp[hv];have hvd:=qdY hv;refine qFt p.dists (fun d ev U=>ev 1=.ptr 0 0/\ev 3=ww 4 qt 0 (d.map (vM p.vars))/\ev 4=.int .i64 d.length/\U=⟨[.cells (qA p)],jY [] (d.map (vM p.vars))⟩) ?_ ?_ ?_
 . simp
 . rintro d x rest ev U hd2 hx hlt ⟨e1,e3,e4,rfl⟩;have hdw:=wr (n:=(d.length:Int)+1) (by omega) (by omega);have hm:=qAV hx;obtain⟨i,v,hi,hvi⟩:=hvd x hm;have hvw:=zi (jd hv v (qAV hvi));have hsup:=qea p x v i hi hvi h.vars (by omega) (by omega) (h.weights x hm) (hrl x hm v);have hml:(d.map (vM p.vars)).length=d.length:=(by simp);rw[show(d++[x]).map (vM p.vars)=d.map (vM p.vars)++[vM p.vars x] by simp];generalize vM p.vars x=X at *;generalize d.map (vM p.vars)=D at *;have ha:=yN X;have hl4:=zo X;have happ:=qv6 [.cells (qA p)] D X (by omega);simp only[qA]at hsup happ;simp[-getElem?_pos,-qZ,e1,e3,e4,hlt,hx];refine qFp (G:=zl GG) hsup (by simp) ?_;simp[-qZ,ha,hl4,e1,e4,hdw,qi,qp,happ]
 rintro ev U ⟨e1,e3,e4,rfl⟩;rw[<- hS]at e3⊢;simp[-fin,-yb,-yP,e1,e3,e4]
def qhC(op:Int)(x y:Nat)(hx:x<65536)(hy:y<65536):Pure prog GG 341 [.int .i64 op,.int .i64 x,.int .i64 y] (.int .i64 (jZ op x y)):=by
 refine qFP qg func341 rfl (by kernel_rfl) ?_;by_cases h7:op=7
 . subst h7;simp;refine qFz (qjS x y) rfl ?_;simp[jZ]
 by_cases h8:op=8
 . subst h8;simp;refine qFz (qrj x y) rfl ?_;simp[jZ]
 by_cases h9:op=9
 . subst h9;simp;refine qFz (qrn x y) rfl ?_;simp[jZ]
 by_cases h10:op=10
 . subst h10;have hb:jZ 10 x y=((x &&& y:Nat):Int):=(by simp[jZ]);rw[hb];simp;refine qFz (qrt x y hx hy) rfl ?_;simp
 by_cases h11:op=11
 . subst h11;have hb:jZ 11 x y=((x ||| y:Nat):Int):=(by simp[jZ]);rw[hb];simp;refine qFz (quA x y hx hy) rfl ?_;simp
 by_cases h12:op=12
 . subst h12;have hb:jZ 12 x y=((x ^^^ y:Nat):Int):=(by simp[jZ]);rw[hb];simp;refine qFz (qri x y hx hy) rfl ?_;simp
 by_cases h13:op=13
 . subst h13;simp;refine qFz (qrk x y) rfl ?_;simp[jZ,qtw]
 by_cases h14:op=14
 . subst h14;simp;refine qFz (qjF x y) rfl ?_;simp[jZ,qpx]
 by_cases h15:op=15
 . subst h15;simp;refine qFz (j7 _) rfl ?_
   try simp only[qeY]
   by_cases h:x=y<;>simp[jZ,h]
 by_cases h16:op=16
 . subst h16;simp;refine qFz (j7 _) rfl ?_
   try simp only[Qy]
   by_cases h:x=y<;>simp[jZ,h]
 by_cases h17:op=17
 . subst h17;simp;refine qFz (j7 _) rfl ?_;by_cases h:x<y<;>simp[jZ,h]
 by_cases h18:op=18
 . subst h18;simp;refine qFz (j7 _) rfl ?_;by_cases h:x<=y<;>simp[jZ,h]
 by_cases h19:op=19
 . subst h19;by_cases h:x=0
   . simp[h];refine qFz (j7 _) rfl ?_;simp[jZ]
   simp[h];refine qFz (j7 _) rfl ?_
   (try simp only[Qy]);by_cases h':y=0<;>simp[jZ,h,h']
 by_cases h20:op=20
 . subst h20;by_cases h:x=0
   . simp[h];refine qFz (j7 _) rfl ?_
     (try simp only[Qy]);by_cases h':y=0<;>simp[jZ,h']
   simp[h];refine qFz (j7 _) rfl ?_;simp[jZ,h]
 rw[show jZ op x y=b2i (decide ((x:Int)=0)||!decide ((y:Int)=0)) by simp[jZ,h7,h8,h9,h10,h11,h12,h13,h14,h15,h16,h17,h18,h19,h20]];by_cases h:x=0
 . simp[h7,h8,h9,h10,h11,h12,h13,h14,h15,h16,h17,h18,h19,h20,h];refine qFz (j7 _) rfl ?_;simp
 simp[h7,h8,h9,h10,h11,h12,h13,h14,h15,h16,h17,h18,h19,h20,h];refine qFz (j7 _) rfl ?_
 try simp only[Qy]
 by_cases h':y=0<;>simp[h']
def ql7{α:Type}{p:α->Bool}{l:List α}{i:Nat}(hi:l.length<=i)(h:∀a∈l.take i,p a=true):l.all p=true:=by
 rw[qAZ hi]at h;exact qA3.2 h
def qe1(op:Int):Bool:=decide (op=1)||jl op
def qnc(op):Pure prog GG 291 [.int .i64 op] (.bool (qe1 op)):=by
 refine qFP qg func291 rfl (by kernel_rfl) ?_;by_cases h:op=1
 . subst h;simp[qe1]
 simp[h];refine qFz (qf6 op) rfl ?_;simp[qe1,h]
def qlW{env e}:qiJ env e=if e.op=2 then(jB env e.name).isSome else if e.op=3\/e.op=24 then(jB env (zX e.name 0)).isSome else true:=rfl
def qm8(env)(hl:Fits env)(e ops)(hs:e.op=3\/e.op=24->e.name.length<=1000)(ha:e.op=3->ops≠[])(hask:qe1 e.op=true):
 Pure prog GG 292 [.agg (qt e),.sl 2 (env.map qK) .none,.sl 1 (ops.map qh) .none] (.tup [.int .i64 (if qiJ env e=true then vw env e.op e.n e.name ops else 0),.int .i64 (if qiJ env e=true then 0 else 7)]):=by
 refine qFP qg func292 rfl (by kernel_rfl) ?_;rw[qlW];unfold vw;by_cases c1:e.op=1
 . simp only[qc e];simp[c1]
 by_cases c2:e.op=2
 . simp only[qc e];simp[c2];refine qFz (qav env e.name hl) (by simp) ?_;cases hf:jB env e.name<;>simp[Q5,hf]
 have hor:e.op=3\/e.op=24:=by
  simp only[qe1,jl,qC7,decide_eq_true_eq]at hask;omega
 have hs:=hs hor;simp only[qc e];simp[c1,c2];refine qFz (qfG e.name 0 (by omega) hs) rfl ?_
 try simp
 refine qFz (qav env (zX e.name 0) hl) (by simp) ?_;cases hf:(jB env (zX e.name 0)).isSome
 . simp[Q5,hf];exact⟨fun h3 h24=>absurd hor (by omega),fun h3=>by omega⟩
 by_cases c3:e.op=3
 . obtain⟨v,r,rfl⟩:∃v r,ops=v::r:=by
    cases ops with
    |nil=>exact absurd rfl (ha c3)
    |cons v r=>exact⟨v,r,rfl⟩
   simp[*,Q5];refine qFz (Kr env e.name v hl hs) (by simp) ?_;simp
 have c24:e.op=24:=by omega
 simp[*,Q5];refine qFM (fun n ev U=>∃i:Nat,i<=8/\n=8-i/\ev 1=.sl 2 (env.map qK) .none/\ev 3=.ptr 0 0/\ev 12=.int .i64 (qml env e.name i)/\ev 13=.int .i64 i/\U=⟨[.cells (qt e)],[]⟩) 8 ⟨0,by simp[qml,qc e,c24]⟩ ?_;rintro n ev U ⟨i,hi,rfl,h1,h3,h12,h13,rfl⟩;by_cases hc:i<8
 . have hc':(i:Int)<8:=(by omega);simp[*,qc e];refine qFz (Kr env e.name i hl hs) (by simp) ?_
   try simp[*]
   refine qFz (qjS _ _) rfl ?_;simp[qc e];exact⟨_,by omega,i+1,by omega,rfl,rfl,wr (by omega) (by omega)⟩
 have hi':i=8:=by omega
 subst hi';simp[*];intro e0;rw[e0]at hf;cases hf
def qeb(op l)(hr:∀v∈l,0<=v/\v<=65535)(h22:op=22->l.length=3)(h23:op=23->3<=l.length/\l.length<=33)(ho:op≠22->op≠23->l.length=1\/l.length=2):
 Pure prog GG 293 [.int .i64 op,.sl 1 (l.map qh) .none] (.int .i64 (opW op l)):=by
 refine qFP qg func293 rfl (by kernel_rfl) ?_;by_cases c22:op=22
 . obtain⟨a,b,c,rfl⟩:=qu3 (h22 c22);subst c22;by_cases ha:a=0
   . simp[ha,qfY]
   simp[ha,qfY]
 by_cases c23:op=23
 . obtain⟨h3,h33⟩:=h23 c23;subst c23;obtain⟨a,ga⟩:∃a,l[0]?=some a:=⟨_,qAW (by omega)⟩;obtain⟨g0,ga'⟩:=qAU.1 ga;have hw:opW 23 l=b2i (jh a (l.drop 1)):=by
    rw[qpM,qA8,ga];simp
   rw[hw];generalize hT:jh a (l.drop 1)=T;simp;refine qFM (fun n env U=>∃i:Nat,1<=i/\i<=l.length+1/\n=l.length+1-i/\env 1=.sl 1 (l.map qh) .none/\env 5=.int .i64 i/\U=⟨[],[]⟩/\jh a (l.drop i)=T) l.length ⟨1,by simp,by omega,by omega,by simp,by simp,rfl,hT⟩ ?_;rintro n env U ⟨i,hi1,hi2,rfl,h1,h5,rfl,hin⟩;have w1:IntKind.i64.wrap ((i:Int)+1)=(i:Int)+1:=wr (by omega) (by omega);have w2:IntKind.i64.wrap ((i:Int)+2)=((i+2:Nat):Int):=(by rw[wr (by omega) (by omega)];omega);have n1:((i:Int)+1).toNat=i+1:=(by omega);have p1:(0:Int)<=(i:Int)+1:=(by omega);by_cases hc:i+1<l.length
   . obtain⟨x,gx⟩:∃x,l[i]?=some x:=⟨_,qAW (by omega)⟩;obtain⟨y,gy⟩:∃y,l[i+1]?=some y:=⟨_,qAW (by omega)⟩;obtain⟨q1,gx'⟩:=qAU.1 gx;obtain⟨q2,gy'⟩:=qAU.1 gy;rw[zf gx,zf gy,J4]at hin;have hc':(i:Int)+1<l.length:=(by omega);by_cases c1:x<=a
     . by_cases c2:a<=y
       . have hT1:T=true:=(by rw[<- hin];simp[*]);rw[hT1];simp[*,p1,b2i]
       . have hin:jh a (l.drop (i+2))=T:=(by rw[<- hin];simp[*]);simp[*,p1];exact⟨_,by omega,i+2,by omega,by omega,rfl,by omega,hin⟩
     have hin:jh a (l.drop (i+2))=T:=(by rw[<- hin];simp[c1]);simp[*];exact⟨_,by omega,i+2,by omega,by omega,rfl,by omega,hin⟩
   have hc':¬(i:Int)+1<l.length:=(by omega);rw[show T=false by rw[<- hin];exact ZY (by simp;omega)];simp[*,b2i]
 rcases ho c22 c23 with h|h
 . obtain⟨a,rfl⟩:=qr5 h;rw[quS c22 c23];simp[*];refine qFz (qjD op a) rfl ?_;simp
 obtain⟨a,b,rfl⟩:=qu4 h;obtain⟨a0,a1⟩:=hr a (by simp);obtain⟨b0,b1⟩:=hr b (by simp);obtain⟨x,rfl⟩:=qBe a0;obtain⟨y,rfl⟩:=qBe b0;rw[quR c22 c23];simp[*];refine qFz (qhC op x y (by omega) (by omega)) rfl ?_;simp
def qqW(env:List Signal)(e:Ex):AV:=.tup [.int .i64 (if jL env e=true then yn env e else 0),.int .i64 (if jL env e=true then 0 else 7)]
def qjC(env)(hl:Fits env):∀e,Wen e->y9 e->Pure prog GG 223 [.agg (qt e),.sl 2 (env.map qK) .none] (qqW env e):=by
 refine qFN fun e ih hwe hn=>?_
 refine qFP qg func223 rfl (by kernel_rfl) ?_;have hfa:=hwe.fits;have hrg:∀v∈e.args.map (yn env),0<=v/\v<=65535:=by
  intro v hv;obtain⟨a,ha,rfl⟩:=qBj.1 hv;exact Vb env a (hn.arg ha)
 obtain⟨k1,k2,k3,k4,k5,k6,k7,k8⟩:=jk hn.self;simp only[qc e];simp;refine qFM (fun n ev U=>∃i,i<=e.args.length/\n=e.args.length-i/\ev 1=.sl 2 (env.map qK) .none/\ev 2=.ptr 0 0/\ev 6=qax ((e.args.map (yn env)).take i)/\ev 7=.int .i64 i/\U=⟨[.cells (qt e)],qcn ((e.args.map (yn env)).take i)⟩/\∀a∈e.args.take i,jL env a=true) e.args.length ⟨0,by simp,by simp,by simp,by simp,by simp[qax],by simp,by simp[qc e,qcn],by simp⟩ ?_;rintro n ev U ⟨i,hi,rfl,h1,h2,h6,h7,rfl,hz⟩
 cases hv:e.args[i]? with
 | some a=>
  obtain⟨hc,hv'⟩:=qAU.1 hv;have hm:=qAV hv;have ht:(e.args.map (yn env)).take (i+1)=(e.args.map (yn env)).take i++[yn env a]:=by
   rw[qBi,qBp,hv];rfl
  have hlen:((e.args.map (yn env)).take i).length<=e.args.length:=by simp;omega
  generalize hR:(e.args.map (yn env)).take i=R at h6 ht hlen⊢;have ih:=ih a hm (hwe.arg hm) (hn.arg hm);simp[*,qc e,qc a];rw[<- qc a];refine qFz ih (by simp) ?_;cases hk:jL env a
  . have x:jL env e=false:=by
     rw[qcM,qe5 hm hk,qDG]
    simp[qqW,hk,x]
  have hz':=q9 (p:=fun a=>jL env a=true) hv hz hk
  cases R with
  | nil=>
   simp only[qax]at h6;simp[*,qqW,qax,qcn,qq,za];exact⟨_,by omega,i+1,by omega,rfl,by rw[ht];simp[],wr (by omega) (by omega),by rw[ht];simp[],hz'⟩
  | cons b r=>
   simp only[qax]at h6;simp[*,qqW,qax,qcn,qq,za,show r.length<=549755813886 by have:=qlZ hn;simp at hlen;omega];exact⟨_,by omega,i+1,by omega,rfl,by rw[ht];simp[],wr (by omega) (by omega),by rw[ht];simp[],hz'⟩
 | none=>
  have hle:e.args.length<=i:=by simpa using hv
  rw[qAZ (by simp;omega)]at h6⊢;have hkn:jL env e=qiJ env e:=by rw[qcM,ql7 hle hz,qC2]
  unfold qqW;rw[hkn,yX];have hleaf:=qm8 env hl e (e.args.map (yn env));generalize hR:e.args.map (yn env)=R at h6 hrg hleaf⊢;have hRl:R.length=e.args.length:=by rw[<- hR];simp
  simp[*,show ¬i<e.args.length by omega,qc e];refine qFz (qnc e.op) rfl ?_;cases hask:qe1 e.op
  . have hne:e.op≠1/\e.op≠2/\e.op≠3/\e.op≠24:=by
     simp only[qe1,jl,qDp,decide_eq_false_iff_not]at hask;omega
    obtain⟨c1,c2,c3,c24⟩:=hne;rw[show qiJ env e=true by rw[qlW,if_neg c2,if_neg (by omega)],show vw env e.op e.n e.name R=opW e.op R by unfold vw;rw[if_neg c1,if_neg c2,if_neg c3,if_neg c24]];simp[*];refine qa.outN2 (by simp) (qeb e.op R hrg (fun c=>?_) (fun c=>?_) (fun c22 c23=>?_)) ?_
    . rw[hRl];exact qbi hn (n:=3) (by omega) (by rw[c];decide)
    . rw[hRl];have:=Zh k5 c;omega
    . rw[hRl];exact qj5 hn c1 c2 c3 c24 c22 c23
    simp
  have hleaf:=hleaf (fun c=>by have:=wA (k7 c);omega) (fun c e0=>by
   have:=qbi hn (n:=1) (by omega) (by rw[c];decide);rw[e0]at hRl;simp at hRl;omega) hask
  simp[*,qc e];rw[<- qc e];refine qa.outN3 (by simp) (by simp) hleaf ?_;simp
def qjL(env)(hl:Fits env)(e)(hwe:Wen e)(hh:hgt e<=1000)(hsz:(pre e).length<=100000):Pure prog GG 145 [.agg (qt e),.sl 2 (env.map qK) .none] (.tup [.int .i64 (jz env e),.int .i64 (Qs env e)]):=by
 refine qFP qg func145 rfl (by kernel_rfl) ?_;have hva:=qi6 e hwe hh hsz;have hE:Qs env e=if zp e≠0 then 1 else if jL env e=true then 0 else 7:=rfl
 have hV:jz env e=if zp e=0/\jL env e=true then yn env e else 0:=rfl
 simp only[qc e];simp;rw[<- qc e];refine qFz hva (by simp) ?_;by_cases h0:zp e=0
 . have hn:=vU h0;have hval:=qjC env hl e hwe hn;have e1:qqW env e=.tup [.int .i64 (jz env e),.int .i64 (Qs env e)]:=by
    rw[hE,hV];unfold qqW;simp[h0]
   rw[e1]at hval;simp[h0,qc e];rw[<- qc e];refine qFz hval (by simp) ?_;simp
 have e1:Qs env e=1:=by rw[hE];simp[h0]
 rw[e1,show jz env e=0 by rw[hV];simp[h0]];simp[h0]
def qdG{α:Type}(sz:Nat)(en:α->List AV)(s:List α):AV:=match s with
 |[]=>.sl 0 [] .nil
 |a::r=>.sl sz ((a::r).map en) (.chain 0 (r.length+1))
def qco{α:Type}(s:List α):List (Option Nat):=match s with
 |[]=>[]
 |_::r=>[some (r.length+1)]
def qfU{α:Type}{sz}{en:α->List AV}(s:List α)(H)(hn:∀x,qw (en x)=true):qO (fin H (qdG sz en s))=true/\Leq (fin H (qdG sz en s)) (.sl sz (s.map en) .none):=by
 cases s with
 |nil=>simp[qdG,Leq]
 | cons a r=>
  have h:=zn hn (a::r);refine⟨?_,Leq.sl rfl⟩;simpa[qdG] using h
def qy3(p a)(hl:p.vars.length<=1000)(ha:Fits a):Pure prog GG 78 [.agg (qA p),.sl 1 (a.map qh) .none] (.sl 2 ((yo p.vars a).map qK) .none):=by
 refine qFP qg func78 rfl (by kernel_rfl) ?_;by_cases hlen:a.length=p.vars.length
 . rw[Qt,if_pos hlen];have hE:=yK hlen;simp[hlen];refine qFM (fun n ev U=>∃i tl,i<=p.vars.length/\n=p.vars.length-i/\ev 1=.sl 1 (a.map qh) .none/\ev 5=qdG 2 qK ((wF p.vars a).take i)/\ev 15=.sl 4 (p.vars.map qM) .none/\ev 16=.int .i64 p.vars.length/\ev 17=.int .i64 i/\U=⟨tl,qco ((wF p.vars a).take i)⟩) p.vars.length ⟨0,_,by simp,by simp,by simp,by simp[qdG],by simp,by simp,by simp,by simp[qco];rfl⟩ ?_;rintro n ev U ⟨i,tl,hi,rfl,h1,h5,h15,h16,h17,rfl⟩
   cases hv:p.vars[i]? with
   | some v=>
    obtain⟨hc,hv'⟩:=qAU.1 hv;have hca:i<a.length:=(by omega);obtain⟨x,hx⟩:∃x,a[i]?=some x:=⟨_,qAW hca⟩;have hx':=(qAU.1 hx).2;have ht:(wF p.vars a).take (i+1)=(wF p.vars a).take i++[⟨v.name,x⟩]:=by
     rw[qBi,vD hv hx];rfl
    have hRl:((wF p.vars a).take i).length<=1000:=(by simp;omega);generalize hR:(wF p.vars a).take i=R at h5 ht hRl⊢
    cases R with
    | nil=>
     simp only[qdG]at h5;simp[h1,h5,h15,h16,h17,hc,hca,hv',hx',qBx,qco,zu,zZ,qP,qq,qi,qp,za,zA];exact⟨_,by omega,i+1,by omega,rfl,by rw[ht];simp[qdG],wr (by omega) (by omega),by rw[ht];simp⟩
    | cons b r=>
     simp only[qdG]at h5;simp[h1,h5,h15,h16,h17,hc,hca,hv',hx',qBx,qco,zu,zZ,qP,qq,qi,qp,za,zA,show r.length<=549755813886 by simp at hRl;omega];exact⟨_,by omega,i+1,by omega,rfl,by rw[ht];simp[qdG],wr (by omega) (by omega),by rw[ht];simp⟩
   | none=>
    have hc:¬i<p.vars.length:=(by simp at hv;omega);rw[qAZ (by omega)]at h5⊢;have he:=qfU (sz:=2) (en:=qK) (wF p.vars a) tl (fun x=>by simp);simp[h5,h15,h16,h17,hc];exact he
 rw[Qt,if_neg hlen];simp[show ¬(a.length:Int)=p.vars.length by omega,Leq]
def qpA(p a)(hl:p.vars.length<=1000)(ha:Fits a):Pure prog GG 144 [.agg (qA p),.sl 1 (a.map qh) .none] (.sl 2 ((yo p.vars a).map qK) .none):=by
 refine qFP qg func144 rfl (by kernel_rfl) ?_;by_cases hlen:a.length=p.vars.length
 . rw[Qt,if_pos hlen];have hE:=yK hlen;simp[hlen];refine qFM (fun n ev U=>∃i,i<=p.vars.length/\n=p.vars.length-i/\ev 1=.sl 1 (a.map qh) .none/\ev 2=.ptr 0 0/\ev 5=qdG 2 qK ((wF p.vars a).take i)/\ev 6=.int .i64 i/\U=⟨[.cells (qA p)],qco ((wF p.vars a).take i)⟩) p.vars.length ⟨0,by simp,by simp,by simp,by simp,by simp[qdG],by simp,by simp[qco]⟩ ?_;rintro n ev U ⟨i,hi,rfl,h1,h2,h5,h6,rfl⟩
   cases hv:p.vars[i]? with
   | some v=>
    obtain⟨hc,hv'⟩:=qAU.1 hv;have hca:i<a.length:=(by omega);obtain⟨x,hx⟩:∃x,a[i]?=some x:=⟨_,qAW hca⟩;have hx':=(qAU.1 hx).2;have ht:(wF p.vars a).take (i+1)=(wF p.vars a).take i++[⟨v.name,x⟩]:=by
     rw[qBi,vD hv hx];rfl
    have hRl:((wF p.vars a).take i).length<=1000:=(by simp;omega);generalize hR:(wF p.vars a).take i=R at h5 ht hRl⊢
    cases R with
    | nil=>
     simp only[qdG]at h5;simp[h1,h5,h2,h6,hc,hca,hv',hx',qco,zu,zZ,qP,qq,qi,qp,za,zA];exact⟨_,by omega,i+1,by omega,rfl,by rw[ht];simp[qdG],wr (by omega) (by omega),by rw[ht];simp⟩
    | cons b r=>
     simp only[qdG]at h5;simp[h1,h5,h2,h6,hc,hca,hv',hx',qco,zu,zZ,qP,qq,qi,qp,za,zA,show r.length<=549755813886 by simp at hRl;omega];exact⟨_,by omega,i+1,by omega,rfl,by rw[ht];simp[qdG],wr (by omega) (by omega),by rw[ht];simp⟩
   | none=>
    have hc:¬i<p.vars.length:=(by simp at hv;omega);have hca:¬i<a.length:=(by omega);rw[qAZ (by omega)]at h5⊢;have he:=qfU (sz:=2) (en:=qK) (wF p.vars a) [.cells (qA p)] (fun x=>by simp);simp[h1,h5,h2,h6,hc,hca];exact he
 rw[Qt,if_neg hlen];simp[show ¬(a.length:Int)=p.vars.length by omega,Leq]
def qjB(env)(hl:Fits env)(e)(hwe:Wen e)(hh:hgt e<=1000)(hsz:(pre e).length<=100000):Pure prog GG 290 [.agg (qt e),.sl 2 (env.map qK) .none] (.int .i64 (jz env e)):=by
 refine qFm qg func290 rfl (by kernel_rfl) ?_;have hev:=qjL env hl e hwe hh hsz;simp[qc e];rw[<- qc e];refine qFp hev (by simp) ?_;simp
def qaq(p a l)(hl:p.vars.length<=1000)(ha:Fits a)(hfl:Fits l)(hx:∀e∈l,Wen e/\hgt e<=1000/\(pre e).length<=100000):
 Pure prog GG 219 [.agg (qA p),.sl 1 (a.map qh) .none,.sl 4 (l.map qt) .none] (.bool (yD p.vars l a)):=by
 refine qFm qg func219 rfl (by kernel_rfl) ?_;have henv:=qpA p a hl ha;have hfe:Fits (yo p.vars a):=by have:=qa3 (l:=p.vars) (a:=a);show(yo p.vars a).length<_;omega
 have hsat:yD p.vars l a=l.all fun e=>decide (jz (yo p.vars a) e≠0):=rfl
 rw[hsat];obtain⟨r,hr⟩:∃r,r=l.all fun e=>decide (jz (yo p.vars a) e≠0):=⟨_,rfl⟩
 rw[<- hr];generalize yo p.vars a=V at *;simp only[qA]at henv;simp;refine qFp henv (by simp) ?_;simp;refine qFt l (fun d ev U=>ev 2=.sl 4 (l.map qt) .none/\ev 7=.sl 2 (V.map qK) .none/\ev 8=.int .i64 d.length/\∀e∈d,jz V e≠0) ?_ ?_ ?_
 . simp
 . rintro d e rest ev U hd hxe hlt ⟨e2,e7,e8,hnz⟩;have hm:=qAV hxe;obtain⟨hwe,hh,hsz⟩:=hx e hm;have hdw:=wr (n:=(d.length:Int)+1) (by unfold Fits at hfl;omega) (by unfold Fits at hfl;omega);have hv:=qjB V hfe e hwe hh hsz;simp[-getElem?_pos,e2,e7,e8,hlt,hxe,qc e];rw[<- qc e];refine qFp hv (by simp) ?_;by_cases hz:jz V e=0
   . have:r=false:=by rw[hr,qD6];exact⟨e,hm,by simp[hz]⟩
     simp[hz,this]
   simp[hz,e2,e7,e8,hdw];intro x hx;rcases hx with hx|rfl
   . exact hnz x hx
   exact hz
 rintro ev U ⟨e2,e7,e8,hnz⟩;have:r=true:=by rw[hr,qA3];exact fun e he=>by simpa using hnz e he
 simp[e2,e8,this]
def qqz(A:Nat)(vs:List Var)(a:List Int)(H:List Blk)(r:AV)(U':St):Prop :=
 r=.bool (!(qI vs a).2)/\KpL [A] H U'.H/\(a≠[]->U'.H[A]?=some (.cells (zb (qI vs a).1)))
def qwc(A P:Nat)(p:Problem)(a:List Int)(H:List Blk)(T:List (Option Nat))(m:Nat)(ev:Env)(U:St):Prop :=
 ev 1=.ms A 0 a.length 1/\ev 2=.ptr P 0/\ev 5=.int .i64 ((m:Int)-1)/\m<=a.length/\(qI (p.vars.drop m) (a.drop m)).2=true/\∃H',U=⟨H',T⟩/\KpL [A] H H'/\H'[P]?=some (.cells (qA p))/\H'[A]?=some (.cells (zb (a.take m++(qI (p.vars.drop m) (a.drop m)).1)))
def qm6{A t p a H}(T)(hA:a≠[]->H[A]?=some (.cells (zb a)))(hl:a.length=p.vars.length)(hl2:a.length<=1000)(hok:okA p.vars a)(hw:∀v∈p.vars,0<=v.width/\v.width<=28):
 qj prog GG 220 [.agg (qA p),Jg A t a] ⟨H,T⟩ (qqz A p.vars a H):=by
 refine qFo qg func220 rfl (by kernel_rfl) ?_;by_cases ha:a=[]
 . subst ha;have hv:=qA6 hl.symm;have hq:∀u,qqz A p.vars [] H (.bool false) ⟨H++u,T⟩:=fun u=>⟨by rw[show qI p.vars []=([],true) by rw[hv];rfl];rfl,qFX,fun h=>absurd rfl h⟩
   simp[Jg];refine qFu (fun m ev U=>ev 5=.int .i64 (-1)/\∃u,U=⟨H++u,T⟩) 0 ⟨by simp;decide,_,rfl⟩ ?_;rintro m ev U R hR ⟨e5,u,rfl⟩;simp[e5];exact hq u
 have hA0:=hA ha;have hAl:=(qAU.1 hA0).1;have hrow:Jg A t a=.ms A 0 a.length 1:=if_neg ha;rw[hrow];simp;refine qFu (fun m ev U=>qwc A H.length p a H T m ev U) a.length ?_ ?_
 . refine⟨by simp,by simp,by simp;rw[wr (by omega) (by omega)],qA5 _,?_,_,rfl,qFX,by simp,?_⟩
   . rw[hl,qBL,<- hl,qBL];rfl
   . rw[qBL,hl,qBL,<- hl,qCr];rw[show a++(qI [] []).1=a by show a++[]=a;rw[qBC]];exact qf hA0 _
 rintro m ev U R hR ⟨e1,e2,e5,hm,ho,H',rfl,hk,hP,hA'⟩;have hne:A≠H.length:=by omega
 simp only[qA]at hP
 cases m with
 | zero=>
  simp only[qBZ,qD0,qBk]at ho hA';simp[e5];exact⟨by rw[ho];rfl,hk,fun _=>hA'⟩
 | succ m=>
  have hma:m<a.length:=by omega
  obtain⟨x,hx⟩:∃x,a[m]?=some x:=⟨_,qAW hma⟩;obtain⟨v,hv⟩:∃v,p.vars[m]?=some v:=⟨_,qAW (by omega)⟩;have hst:=qd7 hl hv hx ho;have hpre:=Yx hl m;have hwv:=hw v (qAV hv);have hs1:=wG hwv.1 hwv.2;have e5':ev 5=.int .i64 (m:Int):=by rw[e5];congr 1;omega
  have hw1:=wr (n:=(m:Int)-1) (by omega) (by omega);have hokx:v.mode≠0->0<=x/\x<(zU v:Nat):=fun hm0=>by
   have:=qf3 hok hv hx
   rwa[if_neg hm0]at this
  have hsz:zU v<=2^28:=qBn (by omega) (by omega);have hdl:(a.drop (m+1)).length=(p.vars.drop (m+1)).length:=by simp[hl]
  have hS:(a.take m).length+((qI (p.vars.drop (m+1)) (a.drop (m+1))).1.length+1)=a.length:=by
   rw[ZD hdl];simp;omega
  rw[show a.take (m+1)=a.take m++[x] by rw[qBi,hx];rfl]at hA';have hpl:(a.take m).length=m:=by simp;omega
  generalize hSS:(qI (p.vars.drop (m+1)) (a.drop (m+1))).1=S at *;generalize hPP:a.take m=P at *;simp only[qBE,qC5]at hA';have hen:∀y,zb (P++y::S)=zb P++.int .i64 y::zb S:=fun y=>by simp[zb]
  have hepl:(zb P).length=m:=by rw[qR,hpl]
  have hg:∀y,(zb P++AV.int .i64 y::zb S)[m]?=some (.int .i64 y):=fun y=>by
   rw[qA4 (by omega),hepl,qBS];rfl
  have hd:∀y,(zb P++AV.int .i64 y::zb S).drop m=.int .i64 y::zb S:=fun y=>by
   rw[qCB (by omega),qBq (by omega)];rfl
  have hst2:∀y z,(zb P++AV.int .i64 y::zb S).set m (.int .i64 z)=zb P++.int .i64 z::zb S:=fun y z=>by
   rw[qBK _ _ (by omega),hepl,qBS];rfl
  have hlen2:∀y,(zb P++AV.int .i64 y::zb S).length=a.length:=fun y=>by
   rwa[qAY,qBc,qR,qR]
  rw[hen]at hA';have hAl':=(qAU.1 hA').1;have hPset:∀y,(H'.set A y)[H.length]?=some (.cells (qA p)):=fun y=>by rwa[qAX hne]
  have hAset:∀y,(H'.set A y)[A]?=some y:=fun y=>qA0 hAl'
  have hml:m<p.vars.length:=by omega
  have hma1:m+1<=a.length:=hma;simp only[qA]at hPset;by_cases hm0:v.mode=0
  . rw[if_pos hm0]at hst;simp[e2,e5',hP,hv,hm0,hw1];refine hR m _ _ (by omega) ⟨by simp[e1],by simp[e2],by simp,by omega,by rw[hst],H',rfl,hk,hP,?_⟩;rw[hst];simp only[hPP];rwa[hen]
  have hx0:=hokx hm0;have hwx:=wr (n:=x+1) (by omega) (by omega);rw[if_neg hm0]at hst;have hwn:¬v.width<0:=by omega
  have hszv:zU v=2^v.width.toNat:=rfl;rw[<- hszv]at hs1;by_cases hx1:x+1<(zU v:Nat)
  . rw[if_pos hx1]at hst;have hpr:=hpre (by rw[hst]);rw[hst]at hpr;simp only at hpr;simp[e1,e2,e5',hP,hv,hm0,hw1,hA',hd,hst2,hlen2,hwx,hPset,hAset,hs1,hma,hma1,hwn,IntKind.bits,hx1];refine⟨by rw[hpr];rfl,hk.trans (qFY (by simp)),fun _=>?_⟩;rw[hpr,hen];exact hAset _
  rw[if_neg hx1]at hst;simp[e1,e2,e5',hP,hv,hm0,hw1,hA',hd,hst2,hlen2,hwx,hPset,hAset,hs1,hma,hma1,hwn,IntKind.bits,hx1];refine hR m _ _ (by omega) ⟨by simp[e1],by simp[e2],by simp,by omega,by rw[hst],_,rfl,hk.trans (qFY (by simp)),?_,?_⟩
  . rwa[qAX hne]
  rw[hst];simp only[hPP];rw[hen];exact qA0 hAl'
def qm4{A t a H}(hA:a≠[]->H[A]?=some (.cells (zb a))):Leq (frz H 8 (Jg A t a)) (.sl 1 (a.map qh) .none):=by
 by_cases ha:a=[]
 . subst ha;show Leq (frz H 8 (.sl 1 [] (.chain t 0))) _;rw[show frz H 8 (.sl 1 [] (.chain t 0))=.sl 1 [] .none by rw[frz];simp[qO]];exact qFw _
 have hrow:Jg A t a=.ms A 0 a.length 1:=if_neg ha;rw[hrow];have ho:jr A 1 qh H (.ms A 0 a.length 1) a:=.inr ⟨ha,rfl,by rw[hA ha,jM]⟩;exact ho.frz (fun x=>by simp) (fun x=>by simp) (fun x=>by simp) 7
def qce(p l)(hl:p.vars.length<=1000)(hs:yq p.vars=zC p.vars)(hw:∀v∈p.vars,0<=v.width/\v.width<=28)(hfl:Fits l)(hx:∀e∈l,Wen e/\hgt e<=1000/\(pre e).length<=100000):
 Pure prog GG 142 [.agg (qA p),.sl 4 (l.map qt) .none] (.bool (jQ p.vars l)):=by
 refine qFm qg func142 rfl (by kernel_rfl) ?_;have hfi:=qjJ p hl [.cells (qA p)] [];obtain⟨r,hr⟩:∃r,r=jQ p.vars l:=⟨_,rfl⟩;rw[<- hr];simp only[qA]at hfi;simp;refine qFs hfi ?_;rintro v ⟨H1,T1⟩ ⟨hk,A,t,rfl,hA⟩;rw[hs]at hA;simp only at hk hA;rw[hs];have hne0:zC p.vars≠[]->p.vars≠[]:=fun h e=>h (by rw[e];rfl)
 simp;refine qFu (fun n ev U=>∃a,ev 1=.sl 4 (l.map qt) .none/\ev 2=.ptr 0 0/\ev 5=Jg A t a/\(∃H T',U=⟨H,T'⟩/\H[0]?=some (.cells (qA p))/\(a≠[]->H[A]?=some (.cells (zb a))/\A≠0))/\okA p.vars a/\n=(wm p.vars a).length/\r=(wm p.vars a).any (yD p.vars l)) (wm p.vars (zC p.vars)).length ?_ ?_
 . refine⟨zC p.vars,by simp,by simp,by simp,⟨H1,T1,rfl,(hk.2 0 _ (by simp) (by simp)),fun h=>?_⟩,Qe _,rfl,?_⟩
   . have:=hA (hne0 h);exact⟨this.1,by have:=this.2;simp at this;omega⟩
   . rw[hr,yA];rfl
 rintro n ev U R hR ⟨a,e1,e2,e5,⟨H,T',rfl,hP,hAa⟩,hok,rfl,hra⟩;have hlen:=hok.len;have hfs:=Qo hok;have hsat:=qaq p a l hl (by show a.length<_;omega) hfl hx;have hnx:=qm6 (A:=A) (t:=t) T' (fun h=>(hAa h).1) hlen (by omega) hok hw;simp only[qA]at hsat hnx hP;simp[e1,e2,e5,hP];refine qFr hsat rfl ?_ ?_
 . simp only[qA7,qBy,zm,and_true];refine⟨?_,qm4 fun h=>(hAa h).1,?_⟩
   . rw[qF (by simp)];exact qFw _
   rw[qF (by simp)];exact qFw _
 cases hsa:yD p.vars l a with
 | true=>
  have:r=true:=by rw[hra,hfs,qC1,hsa];rfl
  simp[this]
 | false=>
  simp[e2,e5,hP];refine qFs hnx ?_;rintro v2 ⟨H2,T2⟩ ⟨rfl,hk2,hA2⟩;simp only at hk2 hA2;have hPP:a≠[]->H2[0]?=some (.cells (qA p)):=fun h=>hk2.2 _ _ hP (by simp;exact Ne.symm (hAa h).2)
  cases ho:(qI p.vars a).2 with
  | true=>
   have:r=false:=by rw[hra,hfs,ho];simp[hsa]
   simp[this]
  | false=>
   rw[ho,if_neg (by simp)]at hfs;have ha:a≠[]:=fun e=>by
    have hv:=qA6 (by rw[<- hlen,e];rfl);rw[hv,e]at ho;simp[qI]at ho
   have hl2:=ZD (vs:=p.vars) (a:=a) hlen;have hn2:(qI p.vars a).1≠[]:=fun e=>ha (qA6 (by rw[<- hl2,e];rfl))
   simp[e5];refine hR (wm p.vars (qI p.vars a).1).length _ _ (by rw[hfs];simp) ⟨(qI p.vars a).1,by simp[e1],by simp[e2],by simp[e5,show Jg A t a=Jg A t (qI p.vars a).1 by rw[Jg,Jg,if_neg ha,if_neg hn2,hl2]],⟨H2,T2,rfl,hPP ha,fun _=>⟨hA2 ha,(hAa ha).2⟩⟩,ZR hok,rfl,?_⟩;rw[hra,hfs,qC1,hsa];rfl
def ql2{H T}(X Y tx ty sx)(hx:sx=4\/X=[])(sy)(hy:sy=4\/Y=[])(hX:X.length+Y.length<=549755813888):
 ∃ t1 T1 t2 T2,qq (Dof prog) ⟨H,T⟩ 23 (.sl 4 [] .tight) (.sl sx (X.map qt) tx)=some (.sl 4 (X.map qt) t1,⟨H,T1⟩) /\
  qq (Dof prog) ⟨H,T1⟩ 23 (.sl 4 (X.map qt) t1) (.sl sy (Y.map qt) ty)=some (.sl 4 ((X++Y).map qt) t2,⟨H,T2⟩):=by
 have hx1:X.length<=549755813888:=by omega
 by_cases h1:X=[]
 . subst h1;by_cases h2:Y=[]
   . subst h2;exact⟨.tight,T,.tight,T,by simp[qq,za],by simp[qq,za]⟩
   have hy:=hy.resolve_right h2;subst hy;exact⟨.tight,T,_,_,by simp[qq,za],by simp[qq,za,h2,show Y.length<=549755813888 by omega];exact⟨rfl,rfl⟩⟩
 have hx:=hx.resolve_right h1;subst hx;refine⟨.chain T.length X.length,T++[some X.length],?_⟩;by_cases h2:Y=[]
 . subst h2;exact⟨_,_,by simp[*,qq,za],by simp[qq,za,hx1];exact⟨rfl,rfl⟩⟩
 have hy:=hy.resolve_right h2;subst hy;exact⟨_,_,by simp[*,qq,za],by simp[*,qq,za];exact⟨rfl,rfl⟩⟩
def qtb{H T}(n l tok s)(hs:s=1\/l=[])(hl:l.length<=1000000):
 ∃t1 T1,qq (Dof prog) ⟨H,T⟩ 28 (.sl 1 [[.int .i64 n]] .tight) (.sl s (l.map qh) tok)=some (.sl 1 ((n::l).map qh) t1,⟨H,T1⟩):=by
 by_cases h:l=[]
 . subst h;exact⟨.tight,T,by simp[qq,za]⟩
 have hs:=hs.resolve_right h;subst hs;exact⟨_,_,by simp[qq,za,h,show 1+l.length<=549755813888 by omega];exact⟨rfl,rfl⟩⟩
def qsq(H k s l tok):qO (frz H (k+1) (.sl s (l.map qh) tok))=true/\((s=1\/l=[])->Leq (frz H (k+1) (.sl s (l.map qh) tok)) (.sl 1 (l.map qh) .none)):=by
 refine⟨?_,fun h=>qol (fun x=>by simp) (fun x=>by simp) H k l tok h⟩;have hr:qX (l.map qh)=true:=by simp
 by_cases h:qO (.sl s (l.map qh) tok)=true
 . rwa[qF h]
 rw[frz,if_neg h,if_pos,vB hr]
 . simp only[qO,hr];rfl
 rw[vB hr,qA3];intro x hx;obtain⟨e,_,rfl⟩:=qBj.1 hx;simp[AV.atom]
def Y2{p}(hv:qo p=0):yq p.vars=zC p.vars:=by
 unfold yq zC;apply qCa;intro v hm;have h:=jd hv v hm;unfold j4 at h;split at h
 . cases h
 split at h
 . cases h
 rename_i h2;by_cases h0:v.mode=0
 . rw[if_pos h0]
 rw[if_neg h0];by_cases hz:v.value=0
 . exact hz
 exact absurd (Or.inr (Or.inr (Or.inr (Or.inr (Or.inr (Or.inr ⟨h0,hz⟩)))))) h2
structure RfH(p):Prop where
 vq:VQ p
 flat:p.groups.flatten.length<4611686018427387904
 dists:p.dists.length<=10000
 soft:p.soft.length<=10000
 runs:∀d∈p.dists,∀v:Var,(QH (Zz v d.weights)).length<=112
def qjH(p)(h:RfH p)(hv:qo p=0)(l)(hfl:Fits l)(hx:∀e∈l,wJ p.vars e=true/\Ji e):Pure prog GG 142 [.agg (qA p),.sl 4 (l.map qt) .none] (.bool (jQ p.vars l)) :=
 qce p l h.vq.vars (Y2 hv) (fun v hm=>by have:=zi (jd hv v hm);omega) hfl fun e he=>(hx e he).2
def qne(p)(h:RfH p):Pure prog GG 88 [.agg (qA p)] (.tup [.sl 1 ((yS p).1.map qh) .none,.int .i64 (yS p).2]):=by
 refine qFl o0 true qg func88 rfl (by kernel_rfl) ?_;have hval:=Yt p h.vq h.flat;have hsup:=Kv p h.vq h.flat h.dists h.runs;simp only[qA]at hval hsup;simp;refine qFp (G:=zl GG) hval (by simp) ?_;by_cases hv:qo p=0
 case neg=>
  have hr:yS p=([],1):=if_neg hv;rw[hr];simp[hv];rw[qF (by simp)];exact⟨by simp,by simp[Leq,zm]⟩
 have hk:=Qf h.vq hv;have h1:=h.vq.hard;have h2:(jF p).length<=10000:=by
  have:jF p=wk p:=if_pos hv;rw[this,wk,qBA];exact h.dists
 have hNl:(zy p).length<=20000:=by rw[zy,qAY];omega
 have hpo:=fun l (hl:l.length<40000) (hx:∀e∈l,wJ p.vars e=true/\Ji e)=>qjH p h hv l (by show l.length<_;omega) hx
 have hpo0:=hpo (zy p) (by omega) (fun e he=>hk e (qBJ _ he));simp only[qA]at hpo hpo0;obtain⟨t1,T1,t2,T2,ha1,ha2⟩:=ql2 (H:=[.cells (qA p)]) (T:=[]) p.hard (jF p) .none .none 4 (.inl rfl) 4 (.inl rfl) (by omega);simp only[qA]at ha1 ha2;have hnd:p.hard++jF p=zy p:=rfl;rw[hnd]at ha2;simp[*,qi,qp];refine qFp (G:=zl GG) hsup (by simp) ?_;simp[ha2];refine qFq (G:=zl GG) hpo0 (by cases t2<;>simp) (by cases t2<;>simp[zm,Leq,qFy]) ?_;by_cases hs:jQ p.vars (zy p)=true
 case neg=>
  have hr:yS p=([],11):=by unfold yS;rw[if_pos hv,if_neg hs]
  rw[hr];simp[show jQ p.vars (zy p)=false by simpa using hs,unA];rw[qF (by simp)];exact⟨by simp,by simp[Leq,zm]⟩
 have hr:yS p=((yu p.vars (zy p) (Zj p.soft)).reverse.map (·.1),0):=by unfold yS;rw[if_pos hv,if_pos hs]
 rw[hr];dsimp only;obtain⟨RES,hRES⟩:∃RES,RES=(yu p.vars (zy p) (Zj p.soft)).reverse.map (·.1):=⟨_,rfl⟩;rw[<- hRES];have hsof:=h.soft;clear ha1 ha2 hnd hsup hval;generalize zy p=N at *;generalize hL:Zj p.soft=L at *;have hLl:L.length=p.soft.length:=by rw[<- hL,qaC]
 have hw1:=wr (n:=(p.soft.length:Int)-1) (by omega) (by omega);simp[hs,unA,hw1];refine qFF L (fun d ev U=>ev 1=.ptr 0 0/\ev 6=.int .i64 ((p.soft.length:Int)-1-d.length)/\∃R K tok s tokk T,(∀r,L=d++r->yu p.vars N L=K++yu p.vars R r)/\(∀e∈R,wJ p.vars e=true/\Ji e)/\R.length<=20000+d.length/\K.length<=d.length/\ev 4=.sl 4 (R.map qt) tok/\(s=1\/K=[])/\ev 5=.sl s ((K.reverse.map (·.1)).map qh) tokk/\U=⟨[.cells (qA p)],T⟩) ?_ ?_ ?_
 . exact⟨by simp,by simp,N,[],t2,0,.nil,T2,fun r hr=>by rw[hr];rfl,(fun e he=>hk e (qBJ _ he)),by simpa using hNl,by simp,by simp,.inr rfl,by simp⟩
 . rintro d x rest ev U R0 hR hdl hx hlt ⟨e1,e6,R,K,tok,s,tokk,T,hkeep,hRk,hRl,hKl,e4,hsK,e5,rfl⟩;have hna:=qeq (l:=p.soft) (k:=d.length) (q:=x) (by rwa[hL]);obtain⟨n1,n2,n3⟩:=hna;have e6':ev 6=.int .i64 ((p.soft.length-1-d.length:Nat):Int):=(by rw[e6];congr 1;omega);have hxk:=hk x.2 (qCl _ (qAV n3));have hRk2:∀e∈R++[x.2],wJ p.vars e=true/\Ji e:=fun e he=>by
    rcases qBb.1 he with he|he
    . exact hRk e he
    rw[qBD]at he;rwa[he]
   have hpo2:=hpo (R++[x.2]) (by rw[qAY,qBo];omega) hRk2;obtain⟨q1,Q1,q2,Q2,ha1,ha2⟩:=ql2 (H:=[.cells (qA p)]) (T:=T) R [x.2] tok .tight 4 (.inl rfl) 4 (.inl rfl) (by simp;omega);obtain⟨q3,Q3,ha3⟩:=qtb (H:=[.cells (qA p)]) (T:=Q2) x.1 (K.reverse.map (·.1)) tokk s (by rcases hsK with h|h;exact .inl h;exact .inr (by rw[h];rfl)) (by simp;omega);simp only[qA,qA7,qBy,qh]at ha1 ha2 ha3;have ha:=yN x.2;have hl4:=zo x.2;have hw2:=wr (n:=((p.soft.length-1-d.length:Nat):Int)-1) (by omega) (by omega);have hEx:=n2;generalize hI:p.soft.length-1-d.length=I at *;have htk:(qt x.2).take 4=qt x.2:=qAZ (by rw[hl4];exact qA5 _);obtain⟨KL,hKL⟩:∃KL,KL=K.reverse.map (·.1):=⟨_,rfl⟩;rw[<- hKL]at ha3 e5;obtain⟨RX,hRX⟩:∃RX,RX=R++[x.2]:=⟨_,rfl⟩;rw[<- hRX]at ha2 hpo2 hRk2;simp[-qZ,e1,e4,e6',show(0:Int)<=((p.soft.length-1-d.length:Nat):Int) by omega,n3,htk,ha,hl4,qi,qp,ha1,ha2];refine qFq (G:=zl GG) hpo2 (by cases q2<;>simp) (by cases q2<;>simp[zm,Leq,qFy]) ?_;have hkp:∀r,L=(d++[x])++r->yu p.vars N L=K++yu p.vars R (x::r):=fun r hr=>hkeep (x::r) (by rw[hr];simp)
   rw[hEx]at ha3
   cases hso3:jQ p.vars RX with
   | true=>
    simp[-qZ,e5,e6',hw2,qi,qp,ha3];refine hR _ _ ⟨by simp[e1],by simp;omega,RX,K++[x],q2,1,q3,Q3,fun r hr=>?_,hRk2,by rw[hRX];simp;omega,by simp;omega,by simp,.inl rfl,?_,rfl⟩
    . rw[hkp r hr,yu,<- hRX,if_pos hso3];simp
    simp[hKL,hEx]
   | false=>
    simp[-qZ,e6',hw2];refine hR _ _ ⟨by simp[e1],by simp;omega,R,K,tok,s,tokk,Q2,fun r hr=>?_,hRk,by simp;omega,by simp;omega,by simp[e4],hsK,by simp[e5,hKL],rfl⟩;rw[hkp r hr,yu,<- hRX,if_neg (by simp[hso3])]
 rintro ev U ⟨e1,e6,R,K,tok,s,tokk,T,hkeep,hRk,hRl,hKl,e4,hsK,e5,rfl⟩;have hKR:K.reverse.map (·.1)=RES:=by rw[show K=yu p.vars N L by rw[hkeep [] (by simp)];simp[yu]];exact hRES.symm
 have hsR:s=1\/RES=[]:=by
  rcases hsK with h|h
  . exact .inl h
  right;rw[<- hKR,h];rfl
 rw[hKR]at e5;simp[e5,show ev 6=.int .i64 (-1) by rw[e6,hLl];congr 1;omega];have hf:=qsq [.cells [.sl 4 (p.vars.map qM) .none,.sl 4 (p.hard.map qt) .none,.sl 4 (p.soft.map qt) .none,.sl 2 (p.dists.map zs) .none,.sl 1 (p.groups.map qD) .none]] 6 s RES tokk;refine vz hf.1 (hf.2 hsR) fun _=>?_
 rcases hsR with h|h
 . rw[h];simp[Leq,qFy]
 rw[h];simp[Leq]
def qgX(tok:Abs.Tok)(T:List (Option Nat)):Prop:=tok=.tight\/∃t k,tok=.chain t k/\T[t]?=some (some k)
def qeA{H T X Y tok ty sy}(hg:qgX tok T)(hy:sy=4\/Y=[])(hX:X.length+Y.length<=549755813888):
 ∃t2 T2,qq (Dof prog) ⟨H,T⟩ 23 (.sl 4 (X.map qt) tok) (.sl sy (Y.map qt) ty)=some (.sl 4 ((X++Y).map qt) t2,⟨H,T2⟩)/\qgX t2 T2:=by
 by_cases h2:Y=[]
 . subst h2;exact⟨tok,T,by simp[qq,za,show X.length<=549755813888 by omega],hg⟩
 have hy:=hy.resolve_right h2;subst hy;rcases hg with rfl|⟨t,k,rfl,ht⟩
 . exact⟨.chain T.length Y.length,T++[some Y.length],by simp[qq,za,h2,hX],.inr ⟨_,_,rfl,by simp⟩⟩
 have hl:=(qAU.1 ht).1;exact⟨.chain t (k+Y.length),T.set t (some (k+Y.length)),by simp[qq,za,h2,hX,ht],.inr ⟨_,_,rfl,by simp[hl]⟩⟩
def qsr(H k)(l:List Ex)(tok):qO (frz H (k+1) (.sl 4 (l.map qt) tok))=true/\Leq (frz H (k+1) (.sl 4 (l.map qt) tok)) (.sl 4 (l.map qt) .none):=by
 refine⟨?_,qkR (fun x=>qwO x) (fun x=>jw x) H k l tok⟩;have hr:=quU l;by_cases h:qO (.sl 4 (l.map qt) tok)=true
 . rwa[qF h]
 rw[frz,if_neg h,if_pos,vB hr]
 . simp only[qO,hr];rfl
 rw[vB hr,qA3];intro x hx;obtain⟨e,_,rfl⟩:=qBj.1 hx;exact jw e
def qnd(p)(h:RfH p):Pure prog GG 49 [.agg (qA p)] (.tup [.sl 4 ((qC p).1.map qt) .none,.int .i64 (qC p).2]):=by
 have hkp:=qne p h;refine qFl o0 true qg func49 rfl (by kernel_rfl) ?_;by_cases he:(yS p).2=0
 case neg=>
  have hre:=wQ p;have hr0:(qC p).1=[]:=by
   unfold qC yS at *;split
   . rename_i hv;split
     . rename_i hs;rw[if_pos hv,if_pos hs]at he;exact absurd rfl he
     rfl
   rfl
  rw[hr0,hre];simp only[qA]at hkp;simp;refine qFp (G:=zl GG) hkp (by simp) ?_;simp[he];rw[qF (by simp)];exact⟨by simp,by simp[Leq,zm]⟩
 obtain⟨hv,hs,hrr,hk1⟩:=v7 he;rw[hk1,he]at hkp;rw[hrr];dsimp only;have hkl:=qaN p;have hka:=fun q (hq:q∈Zk p)=>qew hq
 generalize hKS:Zk p=KS at *;have hsup:=Kv p h.vq h.flat h.dists h.runs;have h1:=h.vq.hard;have h2:(jF p).length<=10000:=by
  have:jF p=wk p:=if_pos hv;rw[this,wk,qBA];exact h.dists
 have hso:=h.soft;obtain⟨RES,hRES⟩:∃RES,RES=zy p++KS.map (·.2):=⟨_,rfl⟩;rw[<- hRES];obtain⟨KI,hKI⟩:∃KI,KI=KS.map (·.1):=⟨_,rfl⟩;rw[<- hKI]at hkp;have hKIl:KI.length=KS.length:=by rw[hKI,qBA]
 obtain⟨t1,T1,ha1,hg1⟩:=qeA (H:=[.cells (qA p)]) (T:=[]) (X:=[]) (Y:=p.hard) (tok:=.tight) (ty:=.none) (sy:=4) (.inl rfl) (.inl rfl) (by simp;omega);obtain⟨t2,T2,ha2,hg2⟩:=qeA (H:=[.cells (qA p)]) (T:=T1) (X:=p.hard) (Y:=jF p) (tok:=t1) (ty:=.none) (sy:=4) hg1 (.inl rfl) (by omega);simp only[qA,qBy,qBk]at ha1 ha2 hkp hsup;have hnd:p.hard++jF p=zy p:=rfl;rw[hnd]at ha2;have hNl:(zy p).length<=20000:=by rw[zy,qAY];omega
 generalize zy p=N at *;simp;refine qFp (G:=zl GG) hkp (by simp) ?_;simp[qi,qp,ha1];refine qFp (G:=zl GG) hsup (by simp) ?_;simp[ha2];refine qFF KS (fun d ev U=>ev 1=.ptr 0 0/\ev 4=.sl 1 (KI.map qh) .none/\ev 7=.int .i64 d.length/\∃tok T,qgX tok T/\ev 6=.sl 4 ((N++d.map (·.2)).map qt) tok/\U=⟨[.cells (qA p)],T⟩) ?_ ?_ ?_
 . exact⟨by simp,by simp,by simp,t2,T2,hg2,by simp⟩
 . rintro d q rest ev U R hR hdl hx hlt ⟨e1,e4,e7,tok,T,hg,e6,rfl⟩;have hdw:=wr (n:=(d.length:Int)+1) (by omega) (by omega);have hlt':d.length<KI.length:=(by omega);obtain⟨k,hk1,hk2⟩:=hka q (qAV hx);have hkl2:=(qAU.1 hk2).1;have hKx:KI[d.length]?=some (k:Int):=(by rw[hKI,qBp,hx];simp[hk1]);obtain⟨t3,T3,ha3,hg3⟩:=qeA (H:=[.cells (qA p)]) (T:=T) (X:=N++d.map (·.2)) (Y:=[q.2]) (tok:=tok) (ty:=.tight) (sy:=4) hg (.inl rfl) (by simp;omega);have hsn:N++(d++[q]).map (·.2)=N++d.map (·.2)++[q.2]:=(by simp);rw[<- hsn]at ha3;obtain⟨X1,hX1⟩:∃X1,X1=N++d.map (·.2):=⟨_,rfl⟩;obtain⟨X2,hX2⟩:∃X2,X2=N++(d++[q]).map (·.2):=⟨_,rfl⟩;rw[<- hX1]at ha3 e6;rw[<- hX2]at ha3;have ha:=yN q.2;have hl4:=zo q.2;have htk:(qt q.2).take 4=qt q.2:=qAZ (by rw[hl4];exact qA5 _);simp only[qA,qA7,qBy]at ha3;simp[-getElem?_pos,-qZ,e1,e4,e6,e7,hlt',hKx,hk2,htk,ha,hl4,qi,qp,ha3,hdw];exact hR _ _ ⟨by simp[e1],by simp[e4],by simp,t3,T3,hg3,by simp[hX2],rfl⟩
 rintro ev U ⟨e1,e4,e7,tok,T,hg,e6,rfl⟩;rw[<- hRES]at e6;simp[e4,e6,e7,hKIl];have hf:=qsr [.cells [.sl 4 (p.vars.map qM) .none,.sl 4 (p.hard.map qt) .none,.sl 4 (p.soft.map qt) .none,.sl 2 (p.dists.map zs) .none,.sl 1 (p.groups.map qD) .none]] 6 RES tok;exact vz hf.1 hf.2 fun _=>by simp[Leq,qFy]
