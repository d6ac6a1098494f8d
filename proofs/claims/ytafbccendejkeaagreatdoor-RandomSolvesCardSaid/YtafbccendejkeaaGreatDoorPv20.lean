import Derived.Test.YtafbccendejkeaaGreatDoorPv19
import Derived.Tactics
import Derived.Tactics2
import Derived.Defers
import Derived.Recover
import Derived.Laws.Pointers
import Derived.WalkKit
import Derived.RowKit3
set_option maxHeartbeats 16000000
set_option maxRecDepth 100000
set_option linter.all false
namespace Go.Proofs.YtafbccendejkeaaGreatDoor
open Go Go.Abs Tryz Go.RowKit
def KU(n):Pure prog GG 303 [.int .i64 n] (.agg (qp (jH n))):=by
 refine okzP func303 rfl rfl ?_;simp[jH,qc,zt,zX,qM]
def quR{L:List Rg}{r:Rg}{n}:((L++[r]).flatMap kD).set (L.length*2+1) (.int .i64 n)=(L++[(r.1,n)]).flatMap kD:=by
 rw[List.flatMap_append,List.flatMap_append,qBY _ _ (by rw[ju (sz:=2) (fun x=>by simp)];omega),ju (sz:=2) (fun x=>by simp)];have:L.length*2+1-L.length*2=1:=by omega
 rw[this];simp
def qpl(out:List Rg)(n):(vN out n).length<=out.length+1:=by
 unfold vN
 cases h:out.getLast? with
 |none=>simp
 | some r=>
  simp only;split<;>simp
def qde:∀(l:List Int) (out:List Rg),(l.foldl vN out).length<=out.length+l.length
 |[],out=>by simp
 | n::l,out=>by
  rw[qBP];have:=qde l (vN out n);have:=qpl out n;simp;omega
def qjX(l)(hl:l.length<=1000)(hn:∀n∈l,0<=n/\n<=65535):Pure prog GG 247 [.sl 1 (l.map qh) .none] (.sl 2 ((QL l).map kD) .none):=by
 refine qFx ⟨true,[],[],[]⟩ true qX func247 rfl (by kernel_rfl) ?_;have hr:QL l=l.foldl vN []:=rfl;generalize QL l=O at hr;simp;refine qFP l (fun d ev U=>ev 7=.sl 1 (l.map qh) .none/\ev 8=.int .i64 l.length/\ev 9=.int .i64 d.length/\∃H b,U=⟨H,[]⟩/\jC b 2 kD H (ev 3) (d.foldl vN [])) ?_ ?_ ?_
 . exact⟨by simp,by simp,by simp,[],0,by simp,.inl ⟨rfl,by simp⟩⟩
 . rintro d n rest ev U R hR hd hx hlt ⟨e7,e8,e9,H,b,rfl,ho⟩;have hw:=wr (n:=(d.length:Int)+1) (by omega) (by omega);have hlen:(d.foldl vN []).length<=d.length:=(by have:=qde d [];simpa using this);have hnn:=hn n (qBb hx);have hwn:=wr (n:=n-1) (by omega) (by omega);have hnext:(d++[n]).foldl vN []=vN (d.foldl vN []) n:=(by simp);generalize d.foldl vN []=L at *;have hgo:∀(ev':Env) H' b',ev' 7=.sl 1 (l.map qh) .none->ev' 8=.int .i64 l.length->ev' 9=.int .i64 (d.length+1:Nat)->jC b' 2 kD H' (ev' 3) (vN L n)->R ev' ⟨H',[]⟩:=fun ev' H' b' a1 a2 a3 a4=>
    hR _ _ ⟨a1,a2,by simpa using a3,H',b',rfl,by rw[hnext];exact a4⟩
   generalize hv3:ev 3=v3 at *
   cases hg:L.getLast? with
   | none=>
    have hL:=qDz.1 hg;have hadd:vN L n=[(n,n)]:=(by subst hL;rfl);obtain⟨v',b',H2,hY,ho2,_,_,_⟩:=ho.appendK (P:=prog) (G:=zh GG) (o:=⟨true,[],[],[]⟩) (T:=[]) (m:=[(n,n)]) (tok:=.tight) qz4 rfl qz3 rfl (by omega) rfl (by decide) (fun x=>by simp) (by simp;omega);subst hL;rcases ho with⟨_,rfl⟩|⟨h,_⟩
    case inr=>exact absurd rfl h
    simp only[qBn,qBN,kD]at hY;simp[-getElem?_pos,hv3,hY,e7,e8,e9,hlt,hx,hw,show IntKind.i64.wrap (-1) = -1 by decide,zt,zX,qM,qe,ql];exact hgo _ _ _ (by simp[e7]) (by simp[e8]) (by simp) (by rw[hadd];simpa using ho2)
   | some r=>
    obtain⟨L',rfl⟩:=qDA.1 hg;have hLne:L'++[r]≠[]:=(by simp);obtain⟨hv,hb⟩:=ho.at hLne;have hll:(L'++[r]).length=L'.length+1:=(by simp);have hlw:=wr (n:=(L'.length:Int)) (by omega) (by omega);have hf0:(L'.flatMap kD).length=L'.length*2:=ju (sz:=2) (fun x=>by simp) L';have hfe:(L'++[r]).flatMap kD=L'.flatMap kD++[.int .i64 r.1,.int .i64 r.2]:=(by rw[List.flatMap_append];simp);have hfl:((L'++[r]).flatMap kD).drop (L'.length*2+1)=[.int .i64 r.2]:=by
     rw[hfe,qC6,hf0,qBS (by omega),show L'.length*2+1-L'.length*2=1 by omega];rfl
    have hln:((L'++[r]).flatMap kD).length=L'.length*2+2:=(by rw[hfe,qBe,hf0];rfl);have hsetl:=quR (L:=L') (r:=r) (n:=n);have hbl:=(qBa.1 hb).1;rw[hll]at hv;subst hv;have hlt2:(L'.length:Int)<L'.length+1:=(by omega);by_cases hr2:r.2=n-1
    . have hadd:vN (L'++[r]) n=L'++[(r.1,n)]:=(by unfold vN;rw[hg];simp[hr2]);generalize (L'++[r]).flatMap kD=fl at *;simp[-getElem?_pos,hv3,hb,hlt2,hfl,hln,hsetl,hlw,hwn,hr2,hw,e7,e8,e9,hlt,hx];exact hgo _ _ b (by simp[e7]) (by simp[e8]) (by simp) (by
       rw[hadd];exact .inr ⟨by simp,by simp[hv3],by rw[qBg hbl];simp⟩)
    have hadd:vN (L'++[r]) n=L'++[r]++[(n,n)]:=(by unfold vN;rw[hg];simp[hr2]);obtain⟨v',b',H2,hY,ho2,_,_,_⟩:=ho.appendK (P:=prog) (G:=zh GG) (o:=⟨true,[],[],[]⟩) (T:=[]) (m:=[(n,n)]) (tok:=.tight) qz4 rfl qz3 rfl (by omega) rfl (by decide) (fun x=>by simp) (by simp at hlen⊢;omega);simp only[qBn,qBN,kD]at hY;generalize (L'++[r]).flatMap kD=fl at *;simp[-getElem?_pos,hv3,hb,hlt2,hfl,hln,hsetl,hlw,hwn,hr2,hw,e7,e8,e9,hlt,hx,hY,zt,zX,qM,qe,ql];exact hgo _ _ b' (by simp[e7]) (by simp[e8]) (by simp) (by rw[hadd];simpa using ho2)
 rintro ev U ⟨e7,e8,e9,H,b,rfl,ho⟩;rw[<- hr]at ho;simp[e8,e9];exact⟨ho.frzNo (fun x=>by simp) (fun x=>by simp) (fun x=>by simp) 7,ho.frz (fun x=>by simp) (fun x=>by simp) (fun x=>by simp) 7⟩
def qni(s:Str):List AV:=[.int .i64 2,.int .i64 0,.str s,.sl 0 [] .nil]
def km(d:List Rg):List Ex:=d.flatMap fun r=>[jH r.1,jH r.2]
def qdD(s:Str)(d:List Rg):AV:=match d with
 |[]=>.sl 4 [qni s] .tight
 |r::q=>.sl 4 (qni s::(km (r::q)).map qp) (.chain 0 (2*(q.length+1)))
def ql3(d:List Rg):List (Option Nat):=match d with
 |[]=>[]
 |_::q=>[some (2*(q.length+1))]
def qpg(s)(d:List Rg)(r:Rg)(hl:d.length<=1000)(H):qr (Dof prog) ⟨H,ql3 d⟩ 23 (qdD s d) (.sl 4 [qp (jH r.1),qp (jH r.2)] .tight)=some (qdD s (d++[r]),⟨H,ql3 (d++[r])⟩):=by
 cases d with
 |nil=>simp[qr,qdD,ql3,qZ,km]
 | cons a q=>
  have h2:((km (a::q)).map qp).length+1+2<=549755813888:=by rw[show((km (a::q)).map qp).length=2*(q.length+1) by rw[qBM,km,qaQ];simp];simp at hl;omega
  show qr (Dof prog) ⟨H,[some (2*(q.length+1))]⟩ 23 (.sl 4 (qni s::(km (a::q)).map qp) (.chain 0 (2*(q.length+1)))) _=some (.sl 4 (qni s::(km (a::q++[r])).map qp) (.chain 0 (2*((q++[r]).length+1))),⟨H,[some (2*((q++[r]).length+1))]⟩);rw[show km (a::q++[r])=km (a::q)++[jH r.1,jH r.2] by simp[km],<- show 2*(q.length+1)+2=2*((q++[r]).length+1) by simp;omega];generalize (km (a::q))=N at h2⊢;simp only[qBM]at h2;simp[qr,qZ,h2]
def WV:∀L:List (List AV),yq L L
 |[]=>by simp
 |a::r=>by simp
def qc1(s:Str)(l:List Rg)(hl:l.length<=1000):Pure prog GG 304 [.str s,.sl 2 (l.map kD) .none] (.agg (qp (Qp s l))):=by
 refine okzP func304 rfl rfl ?_;simp[zt,zX,qM,qe,ql];refine qFD l (fun d ev U=>ev 4=.ptr 0 0/\ev 5=qdD s d/\ev 11=.sl 2 (l.map kD) .none/\ev 12=.int .i64 l.length/\ev 13=.int .i64 d.length/\∃t,U=⟨.cells [.int .i64 0,.int .i64 0,.str [],.sl 0 [] .nil]::t,ql3 d⟩) ?_ ?_ ?_
 . exact⟨by simp,by simp[qdD,qni],by simp,by simp,by simp,[],by simp[ql3]⟩
 . rintro d r rest ev U hd hx hlt ⟨e4,e5,e11,e12,e13,t,rfl⟩;have hw:=wr (n:=(d.length:Int)+1) (by omega) (by omega);have happ:=fun H=>qpg s d r (by omega) H
   generalize qdD s d=v5 at *;generalize qdD s (d++[r])=v6 at *;have hn:∀n,qp (jH n)=[.int .i64 1,.int .i64 n,.str [],.sl 4 [] .none]:=fun n=>by simp[qc,jH]
   simp only[hn]at happ;have h1:=KU r.1;have h2:=KU r.2;simp only[hn]at h1 h2;simp[-getElem?_pos,e5,e11,e12,e13,hlt,hx];refine qFz h1 rfl ?_;simp;refine qFz h2 rfl ?_;simp[qe,ql,happ,hw,e4,e11,e12,e13]
 rintro ev U ⟨e4,e5,e11,e12,e13,t,rfl⟩;obtain⟨R,tok,hv,hR,hnr⟩:∃R tok,qdD s l=.sl 4 R tok/\yq R ((wS s::km l).map qp)/\q9 R=true:=by
  have hx:zm (qni s) (qp (wS s)):=by rw[qc];simp[qni,wS,zm,Leq]
  have ha:(qp (wS s)).all AV.atom=true:=by rw[qc];simp[AV.atom]
  cases l with
  |nil=>exact⟨_,_,rfl,by simp only[km,yq,qBn,qDQ,qBN];exact⟨.inr ⟨hx,ha⟩,trivial⟩,by simp[qni]⟩
  | cons a q=>
   refine⟨_,_,rfl,by simp only[yq,qBn];exact⟨.inr ⟨hx,ha⟩,WV _⟩,?_⟩;have:=qu9 (km (a::q));simp only[q9,qBf];exact⟨by simp[qni],this⟩
 rw[hv]at e5;rw[show qp (Qp s l)=[.int .i64 23,.int .i64 0,.str [],.sl 4 ((wS s::km l).map qp) .none] by rw[qc];rfl];generalize (wS s::km l).map qp=R' at hR;simp[e4,e5,e12,e13,zt,zX,qM];cases tok<;>exact⟨by simpa using hnr,by simp[Leq,hR]⟩
def qnA:List (Nat×Sch×List Nat):=[(9,.step 0 [8,7,6] (.step 1 [8,7,6,5] (.step 2 [8,7,6,5,4] (.step 3 [8,7,6,5,4] (.step 4 [8,7,6,5] (.step 5 [8,7,6] (.step 6 [8,7] (.step 7 [8] (.step 8 [] (.done))))))))),[])]
def qvi(k:Nat):w6 (.int .i64 16) (.int .i64 (k:Int))=some (.int .i64 ((min 16 k:Nat):Int)):=by
 simp only[w6];congr 2;split<;>omega
@[simp]def qAz(l:List Rg):q9 (l.map kD)=true:=zq (fun x=>by simp) l
def quH{r:List Rg}{M}(h:M<=r.length):zl (.sl 2 (r.map kD) .none) none (some (.int .i64 M)) none=some (.sl 2 ((r.take M).map kD) .none):=by
 simp[zl,zS,ki,zU,h]
def quI{r:List Rg}{M}(h:M<=r.length):zl (.sl 2 (r.map kD) .none) (some (.int .i64 M)) none none=some (.sl 2 ((r.drop M).map kD) .none):=by
 simp[zl,zS,ki,zU,h,show(r.map kD).take r.length=r.map kD from qBh (by simp)]
def qoQ{r:List Rg}:r.take (min 16 r.length)=r.take 16/\r.drop (min 16 r.length)=r.drop 16:=by
 by_cases h:16<=r.length
 . rw[qCw h];exact⟨rfl,rfl⟩
 rw[qEn (by omega),qBh (by omega),qBh (by omega),qBS (by omega),qBS (by omega)];exact⟨rfl,rfl⟩
def qmL(s:Str)(l:List Rg)(hl:l.length<=1000):Pure prog GG 246 [.str s,.sl 2 (l.map kD) .none] (.agg (qp (kh s l))):=by
 refine qFx ⟨false,qnA,[],[]⟩ false qX func246 rfl (by kernel_rfl) ?_;by_cases h0:l=[]
 . subst h0;have hu:kh s []=jH 0:=rfl;have hn:=KU 0;rw[hu];simp only[jH,qc,qFu,Ex.n_mk,qFv,qFw,qBN]at hn⊢;simp;refine qFz hn rfl ?_;simp
 have hpos:=qBv.2 h0;have hm16:=qvi l.length;have hml:min 16 l.length<=l.length:=qDp _ _;have hl1:=quH (r:=l) hml;have hl2:=quI (r:=l) hml;rw[qoQ.1]at hl1;rw[qoQ.2]at hl2;have hi:=qc1 s (l.take 16) (by simp;omega);have hu:kh s l=QB s (Qp s (l.take 16)) (z6 16 l.length (l.drop 16)):=if_neg h0;rw[hu];generalize hM:min 16 l.length=M at *;have hQl:(l.drop 16).length<=l.length:=by simp
 have hQ16:(l.drop 16).length<=1000:=by omega
 have near0:=qnU (Qp s (l.take 16));generalize Qp s (l.take 16)=E0 at *;generalize l.take 16=P at *;generalize l.drop 16=Q0 at *;generalize hR:QB s E0 (z6 16 l.length Q0)=R0 at *;have hE0:=qc E0;simp only[hE0]at hi near0;simp[h0,hm16,hl1];refine qFz hi (by simp) ?_;simp[hl2];refine qFE (fun n ev U=>∃(Q:List Rg) (k:Nat) (c:List AV) (out:Ex) (t:List Blk),n=Q.length/\Q.length<=k/\Q.length<=1000/\ev 0=.str s/\ev 1=.sl 2 (Q.map kD) .none/\ev 4=.ptr 0 0/\ev 6=.ptr 1 0 /\
  U=⟨.cells [.int .i64 0,.int .i64 0,.str [],.sl 0 [] .nil]::.cells c::t,[]⟩/\Near c out/\R0=QB s out (z6 16 k Q)) Q0.length ?_ ?_
 . exact⟨Q0,l.length,_,E0,[],rfl,hQl,hQ16,by simp,by simp,by simp,by simp,by simp,near0,hR.symm⟩
 rintro n ev U R hRR ⟨Q,k,c,out,t,rfl,hk,hq,e0,e1,e4,e6,rfl,hnear,hres⟩;obtain⟨c0,c1,c2,c3,rfl⟩:=hnear.four;have hac:=qmd hnear.atoms;have f0:=fun H=>(hnear.fin H).1
 have f1:=fun H=>(hnear.fin H).2.1
 have f2:=fun H=>(hnear.fin H).2.2.1
 have f3:=fun H=>(hnear.fin H).2.2.2
 have hnr:=hnear.nr;have hleq:=hnear.leq;by_cases hQ:Q=[]
 . subst hQ;rw[show z6 16 k ([]:List Rg)=[] by cases k<;>simp[z6]]at hres;have hres:=hres;rw[hres];simp[-qV,-fin,-k0,-vU,hac,f0,f1,f2,f3,e1,e4,e6];simp only[qx,qBf,and_true]at hnr;exact⟨hnr,hleq⟩
 have hQp:=qBv.2 hQ;have hm16:=qvi Q.length;have hml:min 16 Q.length<=Q.length:=qDp _ _;have hl1:=quH (r:=Q) hml;have hl2:=quI (r:=Q) hml;rw[qoQ.1]at hl1;rw[qoQ.2]at hl2;have hi:=qc1 s (Q.take 16) (by simp;omega);generalize min 16 Q.length=M at *;obtain⟨k,rfl⟩:∃k',k=k'+1:=⟨k-1,by omega⟩;rw[z6,if_neg hQ]at hres;have hres:R0=QB s (orE out (Qp s (Q.take 16))) (z6 16 k (Q.drop 16)):=hres;have hdl:(Q.drop 16).length=Q.length-16:=by simp
 generalize Q.take 16=P at *;generalize Q.drop 16=Q' at *;simp[e1,e4,e6,hQ,hm16];rw[qP rfl];simp[-qV,zc,e0,e1,e6,hl1];intro _;have ha2:=yP (Qp s P);have hnr2:=nrE (Qp s P);have hl4:=zj (Qp s P);have nn:Near [.int .i64 20,.int .i64 0,.str [],.sl 4 [[c0,c1,c2,c3],qp (Qp s P)] .tight] (orE out (Qp s P)) :=
  qse (Ql hnear.row (Ql (.inl rfl) qgq)) (by simp only[q9,qDd,qBf];exact⟨hnear.nr,hnr2⟩)
 generalize qp (Qp s P)=W at *;generalize orE out (Qp s P)=O2 at *;refine qFz hi (by simp) ?_;simp[-qV,hac,ha2,hl4,zc,e1,e6,hl2,zt,zX,qM,zx,qe,ql];exact hRR Q'.length _ _ (by omega) ⟨Q',k,_,O2,t,rfl,by omega,by omega,by simp[e0],by simp,by simp[e4],by simp[e6],rfl,nn,hres⟩
def qdk{α}(p):∀(l:List α) (i:Nat),(zo p l i = -1/\l.find? p=none)\/∃k w,zo p l i=((i+k:Nat):Int)/\l[k]?=some w/\l.find? p=some w
 |[],i=>.inl ⟨rfl,rfl⟩
 | a::r,i=>by
  by_cases h:p a=true
  . exact .inr ⟨0,a,by simp[zo,h],by simp,by simp[h]⟩
  have ih:=qdk p r (i+1);have e:zo p (a::r) i=zo p r ((i+1:Nat):Int):=by simp[zo,h]
  rw[e];rcases ih with⟨h1,h2⟩|⟨k,w,h1,h2,h3⟩
  . exact .inl ⟨h1,by simp[h,h2]⟩
  exact .inr ⟨k+1,w,by rw[h1];congr 1;omega,by simpa using h2,by simp[h,h3]⟩
def qyZ(w n):Pure prog GG 245 [.agg (qy w),.rptr [.int .i64 n]] (.bool (inW n w)):=by
 refine okzP func245 rfl rfl ?_;unfold inW;by_cases h:w.lo<=n<;>simp[-getElem?_pos,h]
def qqy(H s n)(hs:s.length<2^30):qr (Dof prog) ⟨H,ky [] s⟩ 28 (ZF 1 qh 0 s) (.sl 1 [[.int .i64 n]] .tight)=some (ZF 1 qh 0 (s++[n]),⟨H,ky [] (s++[n])⟩) :=
 wn (D:=Dof prog) (sz:=1) (T:=[]) (H:=H) (m:=[n]) (en:=qh) D28 rfl D3 rfl (by decide) rfl (by decide) (by simp only[qBK];omega) 1 (.inl rfl)
def qnH:List (Nat×Sch×List Nat):=[(10,.step 0 [5,4,1] (.step 1 [5,4] (.step 2 [5,4,3] (.step 3 [5,4] (.step 4 [5] (.step 5 [] (.done)))))),[])]
def qhy(p:Problem)(d:Dist)(v:Var)(i:Nat)(hi:d.var=i)(hv:p.vars[i]?=some v)(hvl:p.vars.length<=1000)(hw0:0<=v.width)(hw8:v.width<=8)(hf:Fits d.weights):
 Pure prog GG 169 [.agg (qu p),.agg (zn d)] (.agg (qp (vQ p.vars d))):=by
 refine qFx ⟨false,qnH,[],[]⟩ false qX func169 rfl (by kernel_rfl) ?_;have hs:=wN (w:=v.width) hw0 (by omega);have hsz:=YN hw8;have hok:=qay v d.weights;have hrk:=qen (N:=(zP v:Nat)) hok.1 (fun x hx=>by have:=hok.2 x hx;omega) (by omega);have hsl:(ZJ v d.weights).length<=1000:=by
  have:(ZJ v d.weights).length<=zP v:=by unfold ZJ;exact qB6 (qDg _ _) (by simp)
  omega
 have hrg:=qjX (ZJ v d.weights) hsl (fun n hn=>by have:=hok.2 n hn;omega);have hun:=qmL v.name (QL (ZJ v d.weights)) (by omega);have hsn:ZJ v d.weights=(qcF v.width).filter (vT d.weights):=rfl;rw[show vQ p.vars d=kh v.name (QL (ZJ v d.weights)) by unfold vQ;rw[hi,qBF,hv]];generalize kh v.name (QL (ZJ v d.weights))=U_ at *;generalize QL (ZJ v d.weights)=RG at *;rw[hsn]at hrg;have hlen:=qkf v.width;have hget:∀{d r:List Int} {x:Int},qcF v.width=d++x::r->x=d.length:=qkg;have hil:=(qBa.1 hv).1;have hszd:zP v=2^v.width.toNat:=rfl;rw[<- hszd]at hs hlen;generalize hN:zP v=N at *;generalize qcF v.width=nums at *;have hE:=qc U_;simp only[hE]at hun⊢;simp[-getElem?_pos,hi,hv,show ¬v.width<0 by omega,IntKind.bits,hs];refine qFP nums (fun dd ev U=>ev 3=.ptr 1 0/\ev 4=.ptr 2 0/\ev 5=.ptr 3 0/\ev 6=ZF 1 qh 0 (dd.filter (vT d.weights))/\ev 17=.int .i64 N/\ev 18=.int .i64 dd.length/\∃H,U=⟨H,ky [] (dd.filter (vT d.weights))⟩ /\
  H[1]?=some (.cells [.int .i64 i,.sl 4 (d.weights.map qy) .none])/\H[2]?=some (.cells [.int .i64 0,.int .i64 0,.str [],.sl 0 [] .nil])/\H[3]?=some (.cells (qG v))/\qx [AV.int .i64 0]=true) ?_ ?_ ?_
 . exact⟨by simp,by simp,by simp,by simp,by simp,by simp,_,by simp;rfl,by simp⟩
 . rintro dd n rest ev U R hR hd hx hlt ⟨e3,e4,e5,e6,e17,e18,H,rfl,H1,H2,H3,_⟩;have hnd:=hget hd;subst hnd;have hw:=wr (n:=(dd.length:Int)+1) (by omega) (by omega);have hfs:=qeV (vT d.weights) dd (dd.length:Int);have hfl:(dd.filter (vT d.weights)).length<2^30:=qCP (qDg _ _) (by omega);have hgo:∀(ev':Env) H' (L:List Int),L=(dd++[(dd.length:Int)]).filter (vT d.weights)->ev' 3=.ptr 1 0->ev' 4=.ptr 2 0->ev' 5=.ptr 3 0->ev' 6=ZF 1 qh 0 L->ev' 17=.int .i64 N->ev' 18=.int .i64 (dd.length+1:Nat)->(∃u,H'=H++u)->R ev' ⟨H',ky [] L⟩:=by
    rintro ev' H' L rfl a3 a4 a5 a6 a17 a18 ⟨u,rfl⟩;exact hR _ _ ⟨a3,a4,a5,a6,a17,by simpa using a18,_,rfl,qd H1 u,qd H2 u,qd H3 u,rfl⟩
   simp[-getElem?_pos,e3,e17,e18,show dd.length<N by omega,qd H1,qd H3];refine qFB (Qq GG d.weights (inW dd.length) 245 [] [.rptr [.int .i64 dd.length]] hf rfl (by simp) fun w _=>qyZ w dd.length) rfl ?_ ?_
   . simp[frz]
   have hff:=qdk (inW dd.length) d.weights 0;simp only[qCH]at hff;rcases hff with⟨k1,k2⟩|⟨k,w,k1,k2,k3⟩
   . have hp:vT d.weights dd.length=false:=(by unfold vT;rw[k2]);have k1:zo (inW dd.length) d.weights 0 = -1:=k1;rw[k1];rw[hp]at hfs;simp only[qBE,if_false]at hfs;simp[-getElem?_pos,e18,hw];exact hgo _ _ _ hfs.symm (by simp[e3]) (by simp[e4]) (by simp[e5]) (by simp[e6]) (by simp[e17]) (by simp) ⟨_,rfl⟩
   have k1:zo (inW dd.length) d.weights 0=(k:Nat):=k1;have hkl:=(qBa.1 k2).1;rw[k1];by_cases hp0:0<w.weight
   . have hp:vT d.weights dd.length=true:=(by unfold vT;rw[k3];simpa using hp0);rw[if_pos hp]at hfs;simp[-getElem?_pos,e3,e6,e18,hw,qd H1,k2,hp0,qqy _ _ _ hfl];exact hgo _ _ _ hfs.symm (by simp[e3]) (by simp[e4]) (by simp[e5]) (by simp) (by simp[e17]) (by simp) ⟨_,rfl⟩
   have hp:vT d.weights dd.length=false:=(by unfold vT;rw[k3];simpa using hp0);rw[hp]at hfs;simp only[qBE,if_false]at hfs;simp[-getElem?_pos,e3,e18,hw,qd H1,k2,hp0];exact hgo _ _ _ hfs.symm (by simp[e3]) (by simp[e4]) (by simp[e5]) (by simp[e6]) (by simp[e17]) (by simp) ⟨_,rfl⟩
 rintro ev U ⟨e3,e4,e5,e6,e17,e18,H,rfl,H1,H2,H3,_⟩;rw[hlen]at e18;have H2l:=(qBa.1 H2).1;simp[-getElem?_pos,e17,e18];rw[qP rfl];simp[-getElem?_pos,zc,e5,e6,H3];refine qFA hrg (by simp only[qBn,qBN,VF,qx,qDd];exact qh0 (fun x=>by simp)) (by simp only[qBn,qBN,VF,zm,and_true];exact qgp) ?_;simp[-getElem?_pos,zc,H3];refine qFz hun (by simp) ?_;simp[-getElem?_pos,zc,e4,H2,H2l]
def qd7{p}(h:qg p=0):∀d∈p.dists,∃(i:Nat) (v:Var),d.var=i/\p.vars[i]?=some v:=by
 have hd:yC p.vars p.dists=0:=by
  unfold qg at h;split at h
  . exact absurd h (by assumption)
  split at h
  . rename_i h1;exact absurd h h1
  split at h
  . rename_i h1;exact absurd h h1
  rename_i h1;exact qB2.1 h1
 intro d hm;obtain⟨k,hk⟩:=qBT hm;have hkl:=(qBa.1 hk).1;unfold yC at hd;have:=zC.1 hd k (by simp;omega);unfold jW at this;rw[hk]at this;simp only at this;split at this
 . cases this
 rename_i hr;have hr:yQ p.vars d.var=true:=by simpa using hr
 simp only[yQ,qBf,decide_eq_true_eq]at hr;obtain⟨j,hj⟩:=qBw hr.1;rw[hj]at hr;simp only[qBF]at hr
 cases hv:p.vars[j]? with
 |none=>rw[hv]at hr;simp at hr
 |some v=>exact⟨j,v,hj,hv⟩
noncomputable def jJ(p:Problem):List Ex:=if qg p=0 then wu p else []
def J2(p)(h:VQ p)(hd:p.dists.length<=10000):Pure prog GG 118 [.agg (qu p)] (.sl 4 ((jJ p).map qp) .none):=by
 refine okzP func118 rfl rfl ?_;have hval:=ke p h;simp only[qu]at hval;by_cases hv:qg p=0
 case neg=>
  have:jJ p=[]:=if_neg hv;rw[this];simp;refine qFz hval (by simp) ?_;simp[hv,Leq]
 have hs:jJ p=p.dists.map (vQ p.vars):=if_pos hv;rw[hs];simp;refine qFz hval (by simp) ?_;simp[hv,qD,show(p.dists.length:Int)<=549755813888 by omega];have hvd:=qd7 hv;refine qFP p.dists (fun d ev U=>ev 1=.ptr 0 0/\ev 3=.sl 4 ((d.map (vQ p.vars)).map qp) (.chain 0 d.length)/\ev 14=.sl 2 (p.dists.map zn) .none/\ev 15=.int .i64 p.dists.length/\ev 16=.int .i64 d.length/\∃t,U=⟨.cells (qu p)::t,[some d.length]⟩) ?_ ?_ ?_
 . exact⟨by simp,by simp,by simp,by simp,by simp,[],by simp⟩
 . rintro d x rest ev U R hR hd2 hx hlt ⟨e1,e3,e14,e15,e16,t,rfl⟩;have hdw:=wr (n:=(d.length:Int)+1) (by omega) (by omega);have hm:=qBb hx;obtain⟨i,v,hi,hvi⟩:=hvd x hm;have hvw:=zf (z5 hv v (qBb hvi));have hsup:=qhy p x v i hi hvi h.vars (by omega) (by omega) (h.weights x hm);have hsn:(d++[x]).map (vQ p.vars)=d.map (vQ p.vars)++[vQ p.vars x]:=(by simp);have hml:(d.map (vQ p.vars)).length=d.length:=(by simp);have ha:=yP (vQ p.vars x);have hl4:=zj (vQ p.vars x);generalize vQ p.vars x=X at *;generalize d.map (vQ p.vars)=D at *;have happ:∀H,qr (Dof prog) ⟨H,[some d.length]⟩ 23 (.sl 4 (D.map qp) (.chain 0 d.length)) (.sl 4 [qp X] .tight)=some (.sl 4 ((D++[X]).map qp) (.chain 0 (d.length+1)),⟨H,[some (d.length+1)]⟩):=fun H=>by
    simp[qr,qZ,show D.length+1<=549755813888 by omega]
   simp only[qu]at hsup;simp[-getElem?_pos,-qV,e1,e3,e14,e15,e16,hlt,hx];refine qFz hsup (by simp) ?_;simp[-qV,ha,hl4,e16,hdw,qe,ql,happ];refine hR _ _ ⟨by simp[e1],by rw[hsn];simp,by simp[e14],by simp[e15],by simp,t++[.cells (zn x)],?_⟩;simp
 rintro ev U ⟨e1,e3,e14,e15,e16,t,rfl⟩;have hn:=qu9 (p.dists.map (vQ p.vars));rw[qCI]at hn;simp[e3,e15,e16,hn]
def KM:∀(new c) (off),(zx c off new).length=c.length
 |[],c,off=>rfl
 |v::r,c,off=>by rw[zx,KM r];simp
def qcr(A B Z)(h:Z.length=A.length+B.length):zx (zx Z 0 A) A.length B=A++B:=by
 obtain⟨Z1,Z2,rfl,h1⟩:∃Z1 Z2,Z=Z1++Z2/\Z1.length=A.length:=⟨Z.take A.length,Z.drop A.length,(qBX _ _).symm,by rw[qBV];omega⟩;rw[vw A Z1 Z2 h1];have:=Qh (c:=Z2) B A 0;rw[qCB]at this;rw[this,putAt_all Z2 B (by simp at h;omega)]
def qyf(N k)(h:k<N):zl (.ms 1 0 N 4) (some (.int .i64 (k:Int))) none none=some (.ms 1 (k*4) (N-k) 4):=by
 show(if(0:Int)<=k/\(k:Int)<=N/\(N:Int)<=N/\((k:Int)=0\/(k:Int)<N) then some (AV.ms 1 (0+(k:Int).toNat*4) ((N:Int).toNat-(k:Int).toNat) 4) else if(k:Int)=N/\(N:Int)=N then some (.sl 4 [] .none) else none)=_;rw[if_pos ⟨by omega,by omega,by omega,by omega⟩];simp
def quE(N)(h:0<N):zl (.ms 1 0 N 4) (some (.int .i64 (N:Int))) none none=some (.sl 4 [] .none):=by
 show(if(0:Int)<=N/\(N:Int)<=N/\(N:Int)<=N/\((N:Int)=0\/(N:Int)<N) then some (AV.ms 1 (0+(N:Int).toNat*4) ((N:Int).toNat-(N:Int).toNat) 4) else if(N:Int)=N/\(N:Int)=N then some (.sl 4 [] .none) else none)=_;rw[if_neg (by omega),if_pos ⟨rfl,rfl⟩]
noncomputable def zw(p:Problem):List Ex:=p.hard++jJ p
def KZ(p)(h:VQ p)(hd:p.dists.length<=10000):Pure prog GG 72 [.agg (qu p)] (.sl 4 ((zw p).map qp) .none):=by
 refine qFx o0 true qX func72 rfl (by kernel_rfl) ?_;have hs:=J2 p h hd;have hh:=h.hard;have hsl:(jJ p).length<=10000:=by
  unfold jJ;split
  . simp[wu,hd]
  simp
 have hn:zw p=p.hard++jJ p:=rfl;rw[hn];generalize jJ p=S at *;simp only[qu]at hs;have hw:=wr (n:=(p.hard.length:Int)+S.length) (by omega) (by omega);by_cases h0:p.hard=[]/\S=[]
 . obtain⟨h1,h2⟩:=h0;subst h2;rw[h1]at hs hw⊢;simp[h1];refine qFz hs (by simp) ?_;simp[show IntKind.i64.wrap 0=0 by decide,qD,kE,qbG,zl,zS,ki,zU];have hfc:∀H,frz H 8 (.sl 4 [] (.chain 0 0))=.sl 4 [] .none:=fun H=>by rw[frz];simp[qL]
   rw[hfc];exact⟨by simp,qFG _⟩
 have hpos:0<p.hard.length+S.length:=by
  rcases qCC (p.hard.length+S.length) with h|h
  . exact absurd ⟨qBo (by omega),qBo (by omega)⟩ h0
  exact h
 have hnz:¬(p.hard.length:Int)+S.length=0:=by omega
 have hle:(p.hard.length:Int)+S.length<=549755813888:=by omega
 have hge:(0:Int)<=(p.hard.length:Int)+S.length:=by omega
 have htn:((p.hard.length:Int)+S.length).toNat=p.hard.length+S.length:=by omega
 obtain⟨Z,hZ⟩:∃Z,Z=(List.replicate (p.hard.length+S.length) [AV.int .i64 0,.int .i64 0,.str [],.sl 0 [] .nil]).flatten:=⟨_,rfl⟩;have hZl:Z.length=(p.hard.length+S.length)*4:=by rw[hZ];simp
 have hAl:=Go.Abs.ju (sz:=4) zj p.hard;have h2:=qcr (p.hard.flatMap qp) (S.flatMap qp) Z (by rw[hZl,hAl,Go.Abs.ju (sz:=4) zj S,qCl]);rw[hAl,<- List.flatMap_append]at h2;have hc1:∀B0:Blk,kE (Dof prog) ⟨[B0,.cells Z],[]⟩ 23 (.ms 1 0 (p.hard.length+S.length) 4) (.sl 4 (p.hard.map qp) .none)=some (.int .i64 p.hard.length,⟨[B0,.cells (zx Z 0 (p.hard.flatMap qp))],[]⟩):=fun B0=>by
  by_cases hh0:p.hard=[]
  . simp[kE,qbG,hh0,zx]
  have hm:min p.hard.length (p.hard.length+S.length)=p.hard.length:=by omega
  have hl:p.hard.length*4<=(p.hard.length+S.length)*4:=by omega
  simp[kE,qbG,qpP,hm,hh0,show(p.hard.map qp).take p.hard.length=p.hard.map qp from qBh (by simp),show(p.hard.map qp).flatten=p.hard.flatMap qp by rw[qCF],hZl,hl]
 by_cases hS0:S=[]
 . subst hS0;have hhp:0<p.hard.length:=(by simpa using hpos);have hsl2:=quE p.hard.length hhp;have ho:∀B0:Blk,jC 1 4 qp [B0,.cells (p.hard.flatMap qp)] (.ms 1 0 p.hard.length 4) p.hard:=fun B0=>.inr ⟨qBv.1 hhp,rfl,rfl⟩
   have hpa:zx Z 0 (p.hard.flatMap qp)=p.hard.flatMap qp:=putAt_all _ _ (by rw[hZl,hAl];simp);rw[hpa]at hc1;simp only[qB0,qCB,qCy,Int.add_zero]at hw hnz hle hge htn hZ hc1;simp only[qBN]at hs;generalize p.hard.flatMap qp=FE at *;simp;refine qFz hs (by simp) ?_;simp[hw,hle,hge,qBv.1 hhp,qD,<- hZ,hc1,hsl2,show ∀U:St,kE (Dof prog) U 23 (.sl 4 [] .none) (.sl 4 [] .none)=some (.int .i64 0,U) from fun U=>by simp[kE,qbG]];exact⟨(ho (.cells (qu p))).frzNo zj (fun x=>nrE x) jw 7,(ho (.cells (qu p))).frz zj (fun x=>nrE x) jw 7⟩
 have hSp:=qBv.2 hS0;have hsl2:zl (.ms 1 0 (p.hard.length+S.length) 4) (some (.int .i64 p.hard.length)) none none=some (.ms 1 (p.hard.length*4) S.length 4):=by
  rw[qyf _ _ (by omega),show p.hard.length+S.length-p.hard.length=S.length by omega]
 have hc2:∀B0:Blk,kE (Dof prog) ⟨[B0,.cells (zx Z 0 (p.hard.flatMap qp))],[]⟩ 23 (.ms 1 (p.hard.length*4) S.length 4) (.sl 4 (S.map qp) .none)=some (.int .i64 S.length,⟨[B0,.cells ((p.hard++S).flatMap qp)],[]⟩):=fun B0=>by
  simp[kE,qbG,qpP,hS0,show(S.map qp).take S.length=S.map qp from qBh (by simp),show(S.map qp).flatten=S.flatMap qp by rw[qCF],show(zx Z 0 (p.hard.flatMap qp)).length=(p.hard.length+S.length)*4 by rw[KM,hZl],show p.hard.length*4+S.length*4<=(p.hard.length+S.length)*4 by omega,-List.flatMap_append,h2]
 have ho:∀B0:Blk,jC 1 4 qp [B0,.cells ((p.hard++S).flatMap qp)] (.ms 1 0 (p.hard.length+S.length) 4) (p.hard++S):=fun B0=>.inr ⟨by simp[hS0],by simp⟩
 generalize (p.hard++S).flatMap qp=FE at *;generalize zx Z 0 (p.hard.flatMap qp)=Z1 at *;simp;refine qFz hs (by simp) ?_;simp[hw,hnz,hle,hge,qD,htn,<- hZ,hc1,hsl2,hc2];have f1:=(ho (.cells (qu p))).frz zj (fun x=>nrE x) jw 7;have f2:=(ho (.cells (qu p))).frzNo zj (fun x=>nrE x) jw 7;rw[qCi]at f1;exact⟨f2,f1⟩
def Jx(e:Ex):Prop:=Wen e/\hgt e<=1000/\(pre e).length<=100000
def qrL:∀(e x),x∈pre e->(pre x).length<=(pre e).length:=by
 refine qFX fun e ih x hx=>?_
 rw[jF]at hx;rcases qBz.1 hx with rfl|hx
 . exact qBl _
 obtain⟨a,ha,hxa⟩:=Z6.1 hx;exact qB6 (ih a ha x hxa) (qfX ha)
def EOk.tame{s e h m}(ho:EOk s h m e)(hs:Fits s)(hh:h<=1000)(hm:m<=100000):Jx e:=by
 refine⟨fun x hx=>?_,qB6 ho.hgt hh,qB6 ho.size hm⟩;have h1:=qrL e x hx;have h2:=qg2 x;have h3:=ho.size;obtain⟨n1,n2,n3,n4⟩:=ho.nodes x hx;refine⟨by show x.args.length<_;omega,?_⟩;by_cases h:x.op=2
 . rwa[n4 h]
 have:=(jm n1).2.2.2.2.2.2.2 (by rintro(h'|h'|h');exact h h';exact n2 h';exact n3 h');rw[this];simp[Fits]
def qcH(n):Jx (jH n):=by
 refine⟨fun x hx=>?_,by simp[wH,jH],by rw[ZZ];simp⟩;rw[ZZ]at hx;simp only[qBz,qCQ,or_false]at hx;subst hx;exact⟨by simp[jH,Fits,Ex.args],by simp[jH,Fits,Ex.name]⟩
def qd8{s}(hs:wq s=true)(hf:Fits s){l:List Rg}(hl:l.length<=128)(hr:∀r∈l,qmp r):Jx (kh s l):=by
 unfold kh;split
 . exact qcH 0
 rename_i h0;have hpos:=qBv.2 h0;have h1:=EOk.ins hs (l:=l.take 16) (qBv.1 (by rw[qBV];omega)) (by rw[qBV];omega) (fun r h=>hr r (qBW h));have h2:=EOk.chain hs (z6 16 l.length (l.drop 16)) (h:=0) h1 (fun c hc=>by
  obtain⟨a,b,c'⟩:=KR (by omega) _ _ c hc;exact⟨a,b,fun r h=>hr r (qCJ (c' r h))⟩)
 have h3:=KT (n:=16) (by omega) l.length (l.drop 16) 7 (by rw[qC5];omega);exact h2.tame hf (by omega) (by omega)
def qjk{vs}(hv:∀v∈vs,j5 v=0)(hf:∀v∈vs,Fits v.name)(d):Jx (vQ vs d):=by
 unfold vQ;split
 . rename_i v h;have hm:=qBb h;have h1:=zf (hv v hm);have h2:=qay v d.weights;have h3:=YN h1.2.2;have h4:=qen (N:=(zP v:Nat)) h2.1 (fun x hx=>by have:=h2.2 x hx;omega) (by omega);exact qd8 h1.1 (hf v hm) (by omega) h4.1
 exact qcH 0
def Qj{p}(h:VQ p)(hv:qg p=0):∀e∈zw p++p.soft,wP p.vars e=true/\Jx e:=by
 have hx:∀e∈p.hard++p.soft,zy p.vars e=0:=by
  have:qU (zy p.vars) (p.hard++p.soft)=0:=by
   unfold qg at hv;split at hv
   . exact absurd hv (by assumption)
   split at hv
   . rename_i h1;exact absurd hv h1
   rename_i h1;exact qB2.1 h1
  exact zC.1 this
 intro e he;have hs:jJ p=wu p:=if_pos hv;rw[zw,hs]at he;rcases qBp.1 he with he|he
 . rcases qBp.1 he with he|he
   . exact⟨decide_eq_true (hx e (qB1 _ he)),h.exprs e (qB1 _ he)⟩
   . obtain⟨d,hd,rfl⟩:=qBA.1 he;exact⟨decide_eq_true (qhz (z5 hv) d),qjk (z5 hv) h.names d⟩
 exact⟨decide_eq_true (hx e (qCE _ he)),h.exprs e (qCE _ he)⟩
def qzn(H:List Blk)(T:List (Option Nat))(r:AV)(U':St):Prop:=r=.sl 4 [] (.chain T.length 0)/\U'.T=T++[some 0]/\∃u,U'.H=H++u
def qh4(p)(h:VQ p)(hd:p.dists.length<=10000)(h1:p.hard=[])(h2:jJ p=[])(H T):qj prog GG 72 [.agg (qu p)] ⟨H,T⟩ (qzn H T):=by
 refine okzA func72 rfl rfl ?_;have hs:=J2 p h hd;rw[h2]at hs;simp only[qu,h1]at hs;simp[h1];refine qFz hs (by simp) ?_;simp[show IntKind.i64.wrap 0=0 by decide,qD,kE,qbG,zl,zS,ki,zU];exact⟨rfl,rfl,_,rfl⟩
noncomputable def yS(p:Problem):List Int×Int :=
 if qg p=0 then(if jK p.vars (zw p)=true then((yu p.vars (zw p) (Zu p.soft)).reverse.map (·.1),0) else([],11)) else([],1)
def qn4(p)(h:VQ p)(hv:qg p≠0):Pure prog GG 71 [.agg (qu p)] (.tup [.sl 1 ((yS p).1.map qh) .none,.int .i64 (yS p).2]):=by
 have hr:yS p=([],1):=if_neg hv;rw[hr];refine qFx o0 true qX func71 rfl (by kernel_rfl) ?_;have hval:=ke p h;simp only[qu]at hval;simp;refine qFz hval (by simp) ?_;simp[hv];rw[qs (by simp)];exact⟨by simp,by simp[Leq,zm]⟩
def qie(p)(h:VQ p)(hv:qg p=0)(hv20:p.vars.length<=20)(hb:kw p.vars (qJ p)<=18)(hd:p.dists.length<=10000)(hs:jK p.vars (zw p)=false):Pure prog GG 71 [.agg (qu p)] (.tup [.sl 1 ((yS p).1.map qh) .none,.int .i64 (yS p).2]):=by
 rw[show yS p=([],11) by unfold yS;rw[if_pos hv,hs,if_neg (by simp)]];refine qFx o0 true qX func71 rfl (by kernel_rfl) ?_;have hval:=ke p h;have hn:=KZ p h hd;have hk:=Qj h hv;have hfn:Fits (zw p):=by
  have h1:=h.hard;have h2:(jJ p).length<=10000:=by
   have:jJ p=wu p:=if_pos hv
   rwa[this,wu,qBM]
  show(zw p).length<_;rw[zw,qBe];omega
 have hso:=Zn p (zw p) h hv20 hb hfn (fun e he=>(hk e (qB1 _ he)).2);have hsb:Ys p (zw p)=false:=by
  unfold Ys;rw[hs];simp
 rw[hsb]at hso;generalize zw p=N at *;simp only[qu]at hval hn hso;simp;refine qFz hval (by simp) ?_;simp[hv];refine qFz hn (by simp) ?_;simp;refine qFz hso (by simp) ?_;simp;rw[qs (by simp)];exact⟨by simp,by simp[Leq,zm]⟩
def qhM(n):Pure prog GG 156 [.int .i64 n] (.agg (qp (jH n))):=by
 refine okzP func156 rfl rfl ?_;simp[jH,qc,zt,zX,qM]
def qcv{d r n}(h:∀w∈d,inW n w=false):vT (d++r) n=vT r n:=by
 unfold vT;have:(d++r).find? (inW n)=r.find? (inW n):=by
  rw[qEK,qDJ.2 (fun w hw=>by simp[h w hw])];rfl
 rw[this]
def qev(l n)(hf:Fits l):Pure prog GG 155 [.sl 4 (l.map qy) .none,.int .i64 n] (.bool (vT l n)):=by
 refine okzP func155 rfl rfl ?_;obtain⟨r,hr⟩:∃r,r=vT l n:=⟨_,rfl⟩;rw[<- hr];simp[-getElem?_pos];refine qFD l (fun d ev U=>ev 0=.sl 4 (l.map qy) .none/\ev 1=.int .i64 n/\ev 5=.int .i64 d.length/\U=⟨[],[]⟩/\∀w∈d,inW n w=false) ?_ ?_ ?_
 . simp
 . rintro d w rest ev U hd hx hlt ⟨e0,e1,e5,rfl,hall⟩;have hdw:=wr (n:=(d.length:Int)+1) (by unfold Fits at hf;omega) (by unfold Fits at hf;omega)
   cases hi:inW n w with
   | true=>
    have hp:r=decide (0<w.weight):=(by rw[show r=vT (w::rest) n by rw[hr,hd,qcv hall]];unfold vT;simp[hi]);have hi':=hi;simp only[inW,qBf,decide_eq_true_eq]at hi';simp[-getElem?_pos,e0,e1,e5,hlt,hx,hi'.1,hi'.2,hp]
   | false=>
    have hnext:∀x,(x∈d\/x=w)->inW n x=false:=fun x hx=>by
     rcases hx with h|rfl
     . exact hall x h
     exact hi
    by_cases h1:w.lo<=n
    . have h2:¬n<=w.hi:=fun h=>by simp[inW,h1,h]at hi
      simp[-getElem?_pos,e0,e1,e5,hlt,hx,h1,h2,hdw];exact hnext
    simp[-getElem?_pos,e0,e1,e5,hlt,hx,h1,hdw];exact hnext
 rintro ev U ⟨e0,e1,e5,rfl,hall⟩;have:r=false:=by
  have:=qcv (r:=[]) hall;rw[qBU]at this;rw[hr,this];rfl
 simp[-getElem?_pos,e0,e5,this]
def qkF{α:Type}{en:α->List AV}{sz}{R:List α}{tok:Tok}{n}(hn:n=(R.length:Int))(h:R≠[]\/tok.known=true):zl (.sl sz (R.map en) tok) none (some (.int .i64 n)) (some (.int .i64 n))=some (.sl sz (R.map en) .tight):=by
 subst hn;simp[zl,zS,ki,zU,vk,show(R.map en).take R.length=R.map en from qBh (by simp),h.imp qBv.2 id]
def qa3{R X H T}(hR:R.length<1000000):qr (Dof prog) ⟨H,T⟩ 23 (.sl 4 (R.map qp) .tight) (.sl 4 [qp X] .tight)=some (.sl 4 ((R++[X]).map qp) (.chain T.length 1),⟨H,T++[some 1]⟩):=by
 simp[qr,qZ,show R.length+1<=549755813888 by omega]
def qaR(l):(Zu l).length=l.length:=by simp[Zu]
def qeB{l k q}(h:(Zu l)[k]?=some q):k<l.length/\q.1=((l.length-1-k:Nat):Int)/\l[l.length-1-k]?=some q.2:=by
 unfold Zu at h;have hk:=(qBa.1 h).1;simp at hk;rw[List.getElem?_reverse (by simpa using hk)]at h;simp only[qBM,List.length_zipIdx,qBD,qDx,qCH]at h
 cases hx:l[l.length-1-k]? with
 |none=>rw[hx]at h;simp at h
 |some x=>rw[hx]at h;simp at h;subst h;exact⟨hk,rfl,rfl⟩
def quS{d m v}(h:d.length<m):(List.replicate (m-d.length) (0:Int)++d.reverse).set (m-1-d.length) v=List.replicate (m-(d.length+1)) 0++(d++[v]).reverse:=by
 have h1:List.replicate (m-d.length) (0:Int)=List.replicate (m-(d.length+1)) 0++[0]:=by
  rw[show m-d.length=(m-(d.length+1))+1 by omega,qDR]
 rw[h1,qBQ,qBY _ _ (by simp;omega)];rw[show m-1-d.length-(List.replicate (m-(d.length+1)) (0:Int)).length=0 by simp;omega];simp
def wJ{H n a r k z}(h1:qL (frz H n a)=true)(h2:Leq (frz H n a) r)(h3:qL a=true->Leq a r):
 qL (frz H (n+1) (.tup [a,.int k z]))=true/\Leq (frz H (n+1) (.tup [a,.int k z])) (.tup [r,.int k z]):=by
 by_cases hn:qL a=true
 . rw[qs (by simp[hn])];exact⟨by simp[hn],by simp[Leq,zm,h3 hn]⟩
 have:frz H (n+1) (.tup [a,.int k z])=.tup [frz H n a,.int k z]:=by
  have h0:frz H n (.int k z)=.int k z:=qs rfl;rw[frz,if_neg (by simp[hn])];simp[h0]
 rw[this];exact⟨by simp[h1],by simp[Leq,zm,h2]⟩
def qwr(p:Problem)(H:List Blk)(r:AV)(U':St):Prop:=∃tok u T',r=.sl 4 ((zw p).map qp) tok/\(zw p≠[]\/tok.known=true)/\U'=⟨H++u,T'⟩
def qh3(p)(h:VQ p)(hd:p.dists.length<=10000)(H T):qj prog GG 72 [.agg (qu p)] ⟨H,T⟩ (qwr p H):=by
 by_cases hN:zw p=[]
 . have h0:p.hard=[]/\jJ p=[]:=(by rw[zw]at hN;simpa using hN);refine(qh4 p h hd h0.1 h0.2 H T).imp ?_;rintro v ⟨H1,T1⟩ ⟨rfl,hT,u,hH⟩;simp only at hT hH;subst hH;exact⟨_,u,T1,by rw[hN];rfl,.inr rfl,rfl⟩
 refine qj.call (KZ p h hd) (by simp) ?_;exact⟨.none,[],T,rfl,.inl hN,by simp⟩
def qmj(p)(h:VQ p)(hv20:p.vars.length<=20)(hb:kw p.vars (qJ p)<=18)(hd:p.dists.length<=10000)(hs5:p.soft.length<=10000):
 Pure prog GG 71 [.agg (qu p)] (.tup [.sl 1 ((yS p).1.map qh) .none,.int .i64 (yS p).2]):=by
 by_cases hv:qg p=0
 case neg=>exact qn4 p h hv
 by_cases hs:jK p.vars (zw p)=true
 case neg=>exact qie p h hv hv20 hb hd (by simpa using hs)
 have hr:yS p=((yu p.vars (zw p) (Zu p.soft)).reverse.map (·.1),0):=by unfold yS;rw[if_pos hv,if_pos hs]
 rw[hr];dsimp only;obtain⟨RES,hRES⟩:∃RES,RES=(yu p.vars (zw p) (Zu p.soft)).reverse.map (·.1):=⟨_,rfl⟩;rw[<- hRES];refine qFx o0 true qX func71 rfl (by kernel_rfl) ?_;have hval:=ke p h;have hn:=KZ p h hd;have hk:=Qj h hv;have h1:=h.hard;have h2:(jJ p).length<=10000:=by
  have:jJ p=wu p:=if_pos hv
  rwa[this,wu,qBM]
 have hNl:(zw p).length<=20000:=by rw[zw,qBe];omega
 have hso:=fun l (hl:l.length<40000) (hx:∀e∈l,wP p.vars e=true/\Jx e)=>Zn p l h hv20 hb (by show l.length<_;omega) (fun e he=>(hx e he).2)
 have hsb:∀l,(∀e∈l,wP p.vars e=true/\Jx e)->Ys p l=jK p.vars l:=fun l hl=>by
  have:=qBk.2 fun e he=>(hl e he).1
  unfold Ys;rw[this];simp[hv]
 have hne:=qh3 p h hd [.cells (qu p)] [];unfold qwr at hne;have hso0:=hso (zw p) (by omega) (fun e he=>hk e (qB1 _ he));rw[hsb _ (fun e he=>hk e (qB1 _ he)),hs]at hso0;generalize zw p=N at *;generalize hL:Zu p.soft=L at *;have hLl:L.length=p.soft.length:=by rw[<- hL,qaR]
 simp only[qu]at hval hn hso0 hne hso;simp;refine qFz hval (by simp) ?_;simp[hv];refine qFC hne ?_;rintro v U ⟨tok,u,T,rfl,htok,rfl⟩;simp;refine qFA hso0 (by cases tok<;>simp) (by cases tok<;>simp[zm,Leq,qFI]) ?_;have hw1:=wr (n:=(p.soft.length:Int)-1) (by omega) (by omega);simp[hw1];refine qFP L (fun d ev U=>ev 1=.ptr 0 0/\ev 6=.int .i64 ((p.soft.length:Int)-1-d.length)/\∃R K tok u T,(∀r,L=d++r->yu p.vars N L=K++yu p.vars R r)/\(∀e∈R,wP p.vars e=true/\Jx e)/\R.length<=20000+d.length/\K.length<=d.length/\ev 4=.sl 4 (R.map qp) tok/\(R≠[]\/tok.known=true)/\Vc 0 1 qh T (ev 5) (K.map (·.1))/\U=⟨.cells (qu p)::u,T⟩) ?_ ?_ ?_
 . refine⟨by simp,by simp,N,[],tok,u,T,fun r hr=>by rw[hr];rfl,fun e he=>hk e (qB1 _ he),by simpa using hNl,by simp,by simp,htok,by simpa using Vc.nil,by simp⟩
 . rintro d x rest ev U R0 hR hdl hx hlt ⟨e1,e6,R,K,tok2,u2,T2,hkeep,hRk,hRl,hKl,e4,htok2,e5,rfl⟩;have hna:=qeB (l:=p.soft) (k:=d.length) (q:=x) (by rwa[hL]);obtain⟨n1,n2,n3⟩:=hna;have e6':ev 6=.int .i64 ((p.soft.length-1-d.length:Nat):Int):=(by rw[e6];congr 1;omega);have hsl:=qkF (en:=qp) (sz:=4) (R:=R) (tok:=tok2) rfl htok2;have hxk:=hk x.2 (qCE _ (qBb n3));have hRk2:∀e∈R++[x.2],wP p.vars e=true/\Jx e:=fun e he=>by
    rcases qBp.1 he with he|he
    . exact hRk e he
    rw[qBR]at he;rwa[he]
   have hso2:=hso (R++[x.2]) (by rw[qBe,qBK];omega) hRk2;rw[hsb _ hRk2]at hso2;have hap:=fun H T=>qa3 (R:=R) (X:=x.2) (H:=H) (T:=T) (by omega)
   have ha:=yP x.2;have hl4:=zj x.2;have hnr:=qu9 (R++[x.2]);simp only[qCi,qBn,qBN]at hnr;have htk:(qp x.2).take 4=qp x.2:=qBh (by rw[hl4];exact qBl _);have hw2:=wr (n:=((p.soft.length-1-d.length:Nat):Int)-1) (by omega) (by omega);have hEx:=n2;generalize hI:p.soft.length-1-d.length=I at *;obtain⟨v5,T5,hap5,h5,hT5⟩:=(e5.ext (T':=T2++[some 1]) (qEC _ _)).append (m:=[x.1]) (D:=Dof prog) (ty:=28) (tok:=.tight) (T0:=[]) (T:=T2++[some 1]) (List.nil_prefix) (D28) rfl (D3) rfl (by decide) (by rfl) (by decide) (by simp;omega) 1 (.inl rfl);simp only[qBn,qBN,qh]at hap5;simp[-qV,e1,e4,e6',show(0:Int)<=((p.soft.length-1-d.length:Nat):Int) by omega,hsl,n3,htk,ha,hl4,qe,ql,hap];refine qFA hso2 (by simp[hnr]) (by simp) ?_;have hIm:((I:Int)-1)=((p.soft.length:Int)-1-((d++[x]).length:Nat)):=(by rw[qBe,qBK];omega)
   cases hso3:jK p.vars (R++[x.2]) with
   | true=>
    simp[-qV,e6',qe,ql,show IntKind.i64.wrap (x.1-1)=(p.soft.length:Int)-1-((d.length:Int)+1) by rw[hEx,hw2,hIm,qBe,qBK];omega,<- hEx,hap5];refine hR _ _ ⟨by simp[e1],by simp,R++[x.2],K++[x],.chain T2.length 1,u2,T5,fun r hr=>?_,hRk2,by simp;omega,by simp;omega,by simp,.inl (by simp),by simpa using h5,rfl⟩;rw[hkeep (x::r) (by rw[hr];simp),yu,if_pos hso3];simp
   | false=>
    simp[-qV,e6',hw2];refine hR _ _ ⟨by simp[e1],by simp[hIm],R,K,tok2,u2,T2++[some 1],fun r hr=>?_,hRk,by simp;omega,by simp;omega,by simp[e4],htok2,by simpa using e5.ext (qEC _ _),rfl⟩;rw[hkeep (x::r) (by rw[hr];simp),yu,if_neg (by rw[hso3];simp)]
 rintro ev U ⟨e1,e6,R,K,tok2,u2,T2,hkeep,hRk,hRl,hKl,e4,htok2,e5,rfl⟩;rw[hLl]at e6;have e6':ev 6=.int .i64 (-1):=by rw[e6];congr 1;omega
 have hK:=hkeep [] (by simp);rw[show yu p.vars R []=[] from rfl,qBU]at hK;rw[hK,List.map_reverse]at hRES;generalize hKI:K.map (·.1)=KI at *;have hKIl:KI.length<=10000:=by rw[<- hKI,qBM];omega
 subst hRES;rcases e5 with⟨rfl,e5⟩|⟨hne,t,_,e5,_⟩
 . simp[e6',e5,qD];refine qFE (fun m ev U=>ev 8=.sl 1 [] (.chain T2.length 0)/\ev 53=.int .i64 0/\ev 54=.int .i64 0) 0 ⟨by simp,by simp⟩ ?_;rintro m ev U R hR ⟨e8,e53,e54⟩;simp[e8,e53,e54];have hf:∀H,frz H 7 (.sl 1 [] (.chain T2.length 0))=.sl 1 [] .none:=fun H=>by rw[frz];simp[qL]
   exact wJ (by rw[hf];rfl) (by rw[hf];exact qFG _) (by simp)
 have hKn:¬(KI.length:Int)=0:=by have:=qBv.2 hne;omega
 simp[e6',e5,qD,show(KI.length:Int)<=549755813888 by omega,hne];refine qFP KI (fun d ev U=>ev 8=.ms (u2.length+1) 0 KI.length 1/\ev 52=.sl 1 (KI.map qh) (.chain t KI.length)/\ev 53=.int .i64 KI.length/\ev 54=.int .i64 d.length/\∃H T,U=⟨H,T⟩/\H[u2.length+1]?=some (.cells (zd (List.replicate (KI.length-d.length) 0++d.reverse)))) ?_ ?_ ?_
 . refine⟨by simp,by simp,by simp,by simp,_,_,rfl,?_⟩;simp[zd]
 . rintro d x rest ev U R hR hdl hx hlt ⟨e8,e52,e53,e54,H,T,rfl,hH⟩;have hdw:=wr (n:=(d.length:Int)+1) (by omega) (by omega);have hkw:=wr (n:=(KI.length:Int)-1) (by omega) (by omega);have hkw2:=wr (n:=(KI.length:Int)-1-d.length) (by omega) (by omega);have hI:((KI.length:Int)-1-d.length)=((KI.length-1-d.length:Nat):Int):=(by omega);have hlt3:KI.length-1-d.length<KI.length:=(by omega);have hlt4:KI.length-1-d.length+1<=KI.length:=(by omega);have hset:=yN (a:=List.replicate (KI.length-d.length) 0++d.reverse) (i:=KI.length-1-d.length) (x:=x);have hHl:=(qBa.1 hH).1;rw[quS hlt]at hset;rw[hI]at hkw2;generalize hJ:KI.length-1-d.length=J at *;simp[-getElem?_pos,e8,e52,e53,e54,hlt,hx,hkw,hI,hkw2,hH,show(zd (List.replicate (KI.length-d.length) 0++d.reverse)).length=KI.length by rw[qQ];simp;omega,hlt3,hlt4,hset,hdw];exact hR _ _ ⟨by simp[e8],by simp[e52],by simp[e53],by simp,_,_,rfl,by rw[qBe,qBK,qDY];exact qBg hHl⟩
 rintro ev U ⟨e8,e52,e53,e54,H,T,rfl,hH⟩;rw[qB9,qDX,qBy]at hH;simp[e8,e53,e54];have ho:jC (u2.length+1) 1 qh H (.ms (u2.length+1) 0 KI.length 1) KI.reverse:=.inr ⟨(by simpa using hne),by simp,by rw[hH,jQ]⟩;have f1:=ho.frz (fun x=>by simp) (fun x=>by simp) (fun x=>by simp) 6;have f2:=ho.frzNo (fun x=>by simp) (fun x=>by simp) (fun x=>by simp) 6;rw[List.map_reverse]at f1;exact wJ f2 f1 (by simp)
def vP(vs:List Var)(q:List Int×Int)(i:Int):List Int×Int:=(q.1.set i.toNat q.2,q.2+zM vs i.toNat)
def wO(vs:List Var)(l:List Int):List Int×Int:=l.foldl (vP vs) (List.replicate vs.length (-1),0)
def qN(p:Problem):List Int:=(wO p.vars p.groups.flatten).1
def VW(vs l i):wO vs (l++[i])=vP vs (wO vs l) i:=by simp[wO,qCe]
def Z8(vs):∀l:List Int,(wO vs l).1.length=vs.length:=by
 intro l;have:∀(l:List Int) (q:List Int×Int),(l.foldl (vP vs) q).1.length=q.1.length:=by
  intro l
  induction l with
  |nil=>intro q;rfl
  |cons a r ih=>intro q;rw[qBP,ih];simp[vP]
 unfold wO;rw[this];simp
def jz{p}(h:qg p=0):yi p.vars p.groups:=by
 have hd:zH p.vars p.groups=0:=by
  unfold qg at h;split at h
  . exact absurd h (by assumption)
  split at h
  . rename_i h1;exact absurd h h1
  split at h
  . rename_i h1;exact absurd h h1
  exact h
 unfold zH at hd;split at hd
 . assumption
 cases hd
def Ze{vs}{i:Int}(h:yQ vs i=true):∃(n:Nat) (v:Var),i=n/\vs[n]?=some v/\v.mode≠0:=by
 simp only[yQ,qBf,decide_eq_true_eq]at h;obtain⟨j,hj⟩:=qBw h.1;have h2:=h.2;rw[hj]at h2;simp only[qBF]at h2
 cases hv:vs[j]? with
 |none=>rw[hv]at h2;simp at h2
 |some v=>rw[hv]at h2;exact⟨j,v,hj,hv,by simpa using h2⟩
def qh9{vs}(hw:∀v∈vs,0<=v.width/\v.width<=8):∀l:List Int,0<=(wO vs l).2/\(wO vs l).2<=8*l.length:=by
 intro l;have:∀(l:List Int) (q:List Int×Int),0<=q.2->0<=(l.foldl (vP vs) q).2/\(l.foldl (vP vs) q).2<=q.2+8*l.length:=by
  intro l
  induction l with
  |nil=>intro q h;simp[h]
  | cons a r ih=>
   intro q h;have hwa:0<=zM vs a.toNat/\zM vs a.toNat<=8:=by
    unfold zM;split
    . rename_i v hv;exact hw v (qBb hv)
    omega
   have:=ih (vP vs q a) (by simp only[vP];omega);rw[qBP];simp only[vP,qBr]at this⊢;omega
 have:=this l (List.replicate vs.length (-1),0) (qEA _);simpa[wO] using this
def KW:∀(n:Nat) (l:List Int),l.Nodup->(∀x∈l,0<=x/\x<n)->l.length<=n
 | 0,l,_,h=>by
  cases l with
  |nil=>simp
  |cons a r=>have:=h a (by simp);omega
 | n+1,l,hn,h=>by
  by_cases hm:(n:Int)∈l
  . have h1:=KW n (l.erase (n:Int)) (hn.erase _) fun x hx=>by
     have h2:=(hn.mem_erase_iff).1 hx;have:=h x h2.2;omega
    rw[qEW hm]at h1;omega
  have h1:=KW n l hn fun x hx=>by
   have:=h x hx;have h2:x≠(n:Int):=fun e=>hm (e▸hx)
   omega
  omega
def VZ{p}(h:qg p=0):p.groups.flatten.length<=p.vars.length:=KW _ _ (jz h).2.2.1 fun i hi=>by
 obtain⟨n,v,rfl,hn,_⟩:=Ze ((jz h).2.1 i hi);have:=(qBa.1 hn).1;omega
def qdM(p)(h:VQ p)(hv:qg p=0):Pure prog GG 41 [.agg (qu p)] (.sl 1 ((qN p).map qh) .none):=by
 refine qFx o0 true qX func41 rfl (by kernel_rfl) ?_;have hval:=ke p h;have hg:=jz hv;have hvars:=h.vars;have hw:∀v∈p.vars,0<=v.width/\v.width<=8:=fun v hm=>by have:=zf (z5 hv v hm);omega
 obtain⟨LV,hLV⟩:∃LV,LV=qN p:=⟨_,rfl⟩;rw[<- hLV];simp only[qu]at hval;simp;refine qFz hval (by simp) ?_;by_cases hv0:p.vars=[]
 . have hg0:p.groups=[]:=by
    apply qCO.2;intro g hgm;have h1:=hg.1 g hgm;obtain⟨i,hi⟩:=qEP g h1;have:=hg.2.1 i (qBH.2 ⟨g,hgm,hi⟩);obtain⟨n,v,_,hn,_⟩:=Ze this;rw[hv0]at hn;simp at hn
   have hL0:LV=[]:=(by rw[hLV,qN,hg0,hv0];rfl);subst hL0;simp[hv,hv0,hg0,qD];refine qFE (fun m ev U=>ev 1=.ptr 0 0/\ev 3=.sl 1 [] (.chain 0 0)/\ev 18=.int .i64 0/\ev 19=.int .i64 0/\∃u T,U=⟨.cells (qu p)::u,T⟩) 0 ⟨by simp,by simp,by simp,by simp,_,_,by simp[hv0,hg0];exact⟨rfl,rfl⟩⟩ ?_;rintro m ev U R hR ⟨e1,e3,e18,e19,u,T,rfl⟩;simp[e1,e18,e19,hg0];refine qFE (fun m ev U=>ev 3=.sl 1 [] (.chain 0 0)/\ev 28=.int .i64 0/\ev 29=.int .i64 0) 0 ⟨by simp[e3],by simp⟩ ?_;rintro m ev U R hR ⟨e3,e28,e29⟩;simp[e3,e28,e29];have hf:∀H,frz H 8 (.sl 1 [] (.chain 0 0))=.sl 1 [] .none:=fun H=>by rw[frz];simp[qL]
   rw[hf];exact⟨rfl,qFG _⟩
 have hpos:=qBv.2 hv0;simp[hv,hv0,show(p.vars.length:Int)<=549755813888 by omega,qD];have hfl:=qB6 (VZ hv) hvars;have hgl:=h.groups;have hgf:=h.group;refine yU p.vars.length (fun i ev U=>ev 1=.ptr 0 0/\ev 3=.ms 1 0 p.vars.length 1/\ev 18=.int .i64 p.vars.length/\ev 19=.int .i64 (i:Int)/\U=⟨[.cells (qu p),.cells (zd (List.replicate i (-1)++List.replicate (p.vars.length-i) 0))],[]⟩) ?_ ?_ ?_
 . refine⟨by simp,by simp,by simp,by simp,?_⟩;simp[zd]
 . rintro i ev U R hR hi ⟨e1,e3,e18,e19,rfl⟩;have hw1:=wr (n:=(i:Int)+1) (by omega) (by omega);have hi1:i+1<=p.vars.length:=hi;have hll:(zd (List.replicate i (-1)++List.replicate (p.vars.length-i) 0)).length=p.vars.length:=(by rw[qQ];simp;omega);have hset:(zd (List.replicate i (-1)++List.replicate (p.vars.length-i) 0)).set i (.int .i64 (-1))=zd (List.replicate (i+1) (-1)++List.replicate (p.vars.length-(i+1)) 0):=by
    rw[yN,qBY _ _ (by simp)];have:p.vars.length-i=(p.vars.length-(i+1))+1:=by omega
    rw[this,qCZ];simp[qDR]
   simp[e3,e18,e19,show(i:Int)<p.vars.length by omega,hi1,hll,hset,hw1];exact hR _ _ ⟨by simp[e1],by simp[e3],by simp[e18],by simp⟩
 rintro ev U ⟨e1,e3,e18,e19,rfl⟩;rw[qB9,qDX,qBU];have hL0:(wO p.vars []).1=List.replicate p.vars.length (-1):=rfl;rw[<- hL0];simp[e1,e18,e19];refine qFP p.groups (fun dn ev U=>ev 1=.ptr 0 0/\ev 3=.ms 1 0 p.vars.length 1/\ev 5=.int .i64 (wO p.vars dn.flatten).2/\ev 27=.sl 1 (p.groups.map qA) .none/\ev 28=.int .i64 p.groups.length/\ev 29=.int .i64 dn.length/\U=⟨[.cells (qu p),.cells (zd (wO p.vars dn.flatten).1)],[]⟩) ?_ ?_ ?_
 . exact⟨by simp[e1],by simp[e3],by simp[wO],by simp⟩
 . rintro dn g rest ev U R hR hd hx hlt ⟨e1,e3,e5,e27,e28,e29,rfl⟩;have hdw:=wr (n:=(dn.length:Int)+1) (by omega) (by omega);have hgm:=qBb hx;have hgfit:=hgf g hgm;simp[e27,e28,e29,show(dn.length:Int)<p.groups.length by omega,hx];refine qFP g (fun dg ev U=>ev 1=.ptr 0 0/\ev 3=.ms 1 0 p.vars.length 1/\ev 5=.int .i64 (wO p.vars (dn.flatten++dg)).2/\ev 27=.sl 1 (p.groups.map qA) .none/\ev 28=.int .i64 p.groups.length/\ev 29=.int .i64 dn.length/\ev 33=.sl 1 (g.map qh) .none/\ev 34=.int .i64 g.length/\ev 35=.int .i64 dg.length/\U=⟨[.cells (qu p),.cells (zd (wO p.vars (dn.flatten++dg)).1)],[]⟩) ?_ ?_ ?_
   . exact⟨by simp[e1],by simp[e3],by simp[e5],by simp[e27],by simp[e28],by simp[e29],by simp⟩
   . rintro dg v rest2 ev U R2 hR2 hd2 hx2 hlt2 ⟨e1,e3,e5,e27,e28,e29,e33,e34,e35,rfl⟩;obtain⟨n,vr,rfl,hn,_⟩:=Ze (hg.2.1 v (qBH.2 ⟨g,hgm,qBb hx2⟩));have hnl:=(qBa.1 hn).1;have hdw2:=wr (n:=(dg.length:Int)+1) (by unfold Fits at hgfit;omega) (by unfold Fits at hgfit;omega);have hwv:=hw vr (qBb hn);have hpre:(dn.flatten++dg).length<=1000:=by
      have:(dn.flatten++dg).length<=p.groups.flatten.length:=by
       rw[hd,hd2];simp
      omega
     have hnx:=qh9 hw (dn.flatten++dg);have hww:=wr (n:=(wO p.vars (dn.flatten++dg)).2+vr.width) (by omega) (by omega);have hs:=VW p.vars (dn.flatten++dg) (n:Int);have hln:=Z8 p.vars (dn.flatten++dg);simp only[vP,qBF,show zM p.vars n=vr.width by simp[zM,hn]]at hs;rw[qBQ]at hs;generalize hQ:wO p.vars (dn.flatten++dg)=q at *;obtain⟨L,nx⟩:=q;simp only at *;have hn1:n+1<=p.vars.length:=hnl;have hn0:(n:Int)<p.vars.length:=(by omega);simp[e1,e3,e5,e33,e34,e35,show(dg.length:Int)<g.length by omega,hx2,show(zd L).length=p.vars.length by rw[qQ,hln],hn1,hn0,hn,yN,hww,hdw2];exact hR2 _ _ ⟨by simp[e1],by simp[e3],by simp[hs],by simp[e27],by simp[e28],by simp[e29],by simp[e33],by simp[e34],by simp,by simp[hs]⟩
   rintro ev U ⟨e1,e3,e5,e27,e28,e29,e33,e34,e35,rfl⟩;simp[e29,e34,e35,hdw];exact hR _ _ ⟨by simp[e1],by simp[e3],by simp[e5],by simp[e27],by simp[e28],by simp⟩
 rintro ev U ⟨e1,e3,e5,e27,e28,e29,rfl⟩;have hLL:(wO p.vars p.groups.flatten).1=LV:=hLV.symm;have hln:=Z8 p.vars p.groups.flatten;rw[hLL]at hln⊢;simp[e3,e28,e29];have hne2:LV≠[]:=fun e=>by rw[e]at hln;simp at hln;omega
 have ho:jC 1 1 qh [.cells (qu p),.cells (zd LV)] (.ms 1 0 p.vars.length 1) LV:=.inr ⟨hne2,by rw[hln],by rw[jQ];rfl⟩;exact⟨ho.frzNo (fun x=>by simp) (fun x=>by simp) (fun x=>by simp) 7,ho.frz (fun x=>by simp) (fun x=>by simp) (fun x=>by simp) 7⟩
def yX{p}(h:qg p=0):(p.vars.map (·.name)).Nodup:=by
 have hv:jj p.vars=0:=by
  unfold qg at h;split at h
  . exact absurd h (by assumption)
  rename_i h1;exact qB2.1 h1
 have hd:qqq p.vars=false:=by
  unfold jj at hv;split at hv
  . cases hv
  split at hv
  . rename_i h1;exact absurd hv h1
  split at hv
  . cases hv
  rename_i h1;simpa using h1
 unfold qqq at hd;rw[qCV]at hd;refine qC3.2 fun i j hi hj hij e=>?_
 simp only[qBM]at hi hj;rw[qCR,qCR]at e;have:=hd j (qB5.2 hj);unfold Qy at this;rw[qBc hj]at this;simp only[Qr,qBJ]at this;exact this ⟨p.vars[i],by rw[qEQ];exact⟨i,by omega,rfl⟩,by simpa using e⟩
def qbW{vs:List Var}{m U}(hm:U.H[m]?=some (vY vs))(hn:(vs.map (·.name)).Nodup){i:Nat}{v:Var}(hv:vs[i]?=some v):zz (Dof prog) U 182 (.map m) (.str v.name) true=some (.tup [.int .i64 (i:Int),.bool true]):=by
 have:=qfu hn hv 0;unfold vY at hm;generalize (vZ vs).map J8=E at *;simp[zz,hm,zG,this]
def qq9(p:Problem)(e)(hn:(p.vars.map (·.name)).Nodup)(hk:zy p.vars e=0)(ht:Jx e){H M}(hM:H[M]?=some (vY p.vars))(T):
 qj prog GG 189 [.map M,.agg (qp e)] ⟨H,T⟩ (fun r U'=>r=.int .i64 0/\KpL [] H U'.H):=by
 refine okzA func189 rfl rfl ?_;have ha:=QE e ht.1 ht.2.2;have hna:=Z5 e ht.1 ht.2.2;have he:zk e=0/\Yq e=false/\Zx p.vars e=false:=by
  unfold zy at hk;split at hk
  . rename_i h;exact absurd hk h
  rename_i h;split at hk
  . cases hk
  split at hk
  . cases hk
  rename_i h2 h3;exact⟨qB2.1 h,by simpa using h2,by simpa using h3⟩
 have h0:zO [3,24] e=[]:=by
  have:=QZ (e:=e);rw[he.2.1]at this
  cases hl:zO [3,24] e with
  |nil=>rfl
  |cons a r=>rw[hl]at this;simp at this
 have hall:∀s∈zO [2] e,∃(i:Nat) (v:Var),p.vars[i]?=some v/\v.name=s:=fun s hs=>by
  have:=QR (l:=p.vars) (e:=e);rw[he.2.2,qCV]at this;have h1:=this s hs;simp only[qCA,Bool.not_eq_false,Qr,qBJ]at h1;obtain⟨v,hv,hvn⟩:=h1;obtain⟨i,hi⟩:=qBT hv;exact⟨i,v,hi,by simpa using hvn⟩
 have hfit:(zO [2] e).length<=100000:=K6 ht.2.2;rw[h0]at ha;have henc:=qc e;rw[henc]at ha hna⊢;generalize zO [2] e=N at *;simp;refine qFz ha (by simp) ?_;simp;refine qFz hna (by simp) ?_;simp;refine qFP N (fun d ev U=>ev 0=.map M/\ev 14=.sl 1 (N.map jo) .none/\ev 15=.int .i64 N.length/\ev 16=.int .i64 d.length/\KpL [] H U.H) ?_ ?_ ?_
 . exact⟨by simp,by simp,by simp,by simp,qF7⟩
 . rintro d s rest ev ⟨H1,T1⟩ R hR hd hx hlt ⟨e0,e14,e15,e16,hkp⟩;obtain⟨i,v,hi,hvn⟩:=hall s (qBb hx);have hl:=qbW (U:=⟨H1,T1⟩) (hkp.2 _ _ hM (by simp)) hn hi;rw[hvn]at hl;have hdw:=wr (n:=(d.length:Int)+1) (by omega) (by omega);simp[e0,e14,e15,e16,show(d.length:Int)<N.length by omega,hx,hl,hdw];exact hR _ _ ⟨by simp[e0],by simp[e14],by simp[e15],by simp,hkp⟩
 rintro ev ⟨H1,T1⟩ ⟨e0,e14,e15,e16,hkp⟩;simp[e15,e16];exact hkp
def qnG:List (Nat×Sch×List Nat):=[(7,.step 0 [7,3,2,1] (.step 1 [7,3,2] (.step 2 [7,3] (.step 3 [7] (.step 4 [7,5] (.step 5 [7] (.step 6 [7] (.step 7 [] (.done)))))))),[]),(9,.step 0 [8,7] (.step 1 [8,7,6,4,3,2] (.step 2 [8,7,6,4,3] (.step 3 [8,7,6,4] (.step 4 [8,7,6] (.step 5 [8,7,6] (.step 6 [8,7] (.step 7 [8] (.step 8 [] (.done))))))))),[6])]
def qAu(d:List Nd)(p:Problem)(H:List Blk)(r:AV)(U':St):Prop :=
 ∃B M,r=.tup [.ptr B 0,.int .i64 0]/\H.length<=B/\H.length<=M/\M≠B/\KpL [] H U'.H/\U'.H[B]?=some (.cells (.sl 3 (d.map qI) .none::(qu p++[.sl 1 ((qN p).map qh) .none,.map M])))/\U'.H[M]?=some (vY p.vars)
def qhp{vs:List Var}{i}{v:Var}(hv:vs[i]?=some v):vZ (vs.take (i+1))=vZ (vs.take i)++[(v.name,.int .i64 (i:Int),i)]:=by
 have hl:=(qBa.1 hv).1;unfold vZ;rw[qBG,hv];simp[qD6,qCw (qFn hl)]
def qmF{vs:List Var}(hn:(vs.map (·.name)).Nodup){i}{v:Var}(hv:vs[i]?=some v)(k):jV (.str v.name) ((vZ (vs.take i)).map J8) k=some none:=by
 have hl:=(qBa.1 hv).1;rcases ZN (s:=v.name) (vZ (vs.take i)) k with⟨h1,_⟩|⟨j,q,h1,h2,_⟩
 . exact h1
 exfalso;obtain⟨w,hw,rfl⟩:=qfv h1;rw[qCj]at hw;split at hw
 . rename_i hj;obtain⟨hj1,hj2⟩:=qBa.1 hw;obtain⟨_,hi2⟩:=qBa.1 hv;have hp:=qC3.1 hn;have h2:w.name=v.name:=h2;exact hp j i (by simpa using hj1) (by simpa using hl) hj (by rw[qCR,qCR,hj2,hi2,h2])
 cases hw
def qmV(d)(hd:DagOk d)(p)(h:VQ p)(hv:qg p=0)(e)(hk:zy p.vars e=0)(ht:Jx e)(H T):
 qj prog GG 130 [.agg (zF d),.agg (qu p),.agg (qp e)] ⟨H,T⟩ (qAu d p H):=by
 refine qFy ⟨false,qnG,[],[]⟩ qX func130 rfl (by kernel_rfl) ?_;have hdv:=WF d hd;have hpv:=ke p h;have hev:=Ki e ht.1 (by have:=ht.2.1;omega);have hlv:=qdM p h hv;have hn:=yX hv;have he:zk e=0:=by
  unfold zy at hk;split at hk
  . rename_i h;exact absurd hk h
  rename_i h;exact qB2.1 h
 have hvl:=h.vars;have huse:=fun H M (hM:H[M]?=some (vY p.vars)) T=>qq9 p e hn hk ht hM T
 rw[hv]at hpv;rw[he]at hev;generalize hLV:qN p=LV at *;rw[qc e]at hev huse⊢;simp only[zF]at hdv;simp only[qu]at hpv hlv;simp;refine qFz hdv (by simp) ?_;simp[unA];refine qFz hpv (by simp) ?_;simp;refine qFz hev (by simp) ?_;simp;rw[JJ (by rfl)];simp;refine qFz hlv (by simp) ?_;simp[zt,zX,qM];refine qFP p.vars (fun dn ev U=>ev 4=.ptr (H.length+1) 0/\ev 5=.ptr (H.length+2) 0/\ev 8=.ptr (H.length+4) 0/\ev 32=.sl 4 (p.vars.map qG) .none/\ev 33=.int .i64 p.vars.length/\ev 34=.int .i64 dn.length /\
  KpL [] H U.H/\U.H[H.length+1]?=some (.cells (qu p))/\U.H[H.length+2]?=some (.cells [.int .i64 e.op,.int .i64 e.n,.str e.name,.sl 4 (e.args.map qp) .none])/\U.H[H.length+3]?=some (.map ((vZ (p.vars.take dn.length)).map J8) dn.length) /\
  U.H[H.length+4]?=some (.cells (.sl 3 (d.map qI) .none::(qu p++[.sl 1 (LV.map qh) .none,.map (H.length+3)])))) ?_ ?_ ?_
 . refine⟨by simp,by simp,by simp,by simp,by simp,by simp,qF7,?_,?_,?_,?_⟩
   . exact lk1
   . exact lk2
   . exact lk3
   . exact lk4
 . rintro dn v rest ev ⟨H1,T1⟩ R hR hd hx hlt ⟨e4,e5,e8,e32,e33,e34,hkp,bP,bE,bM,bB⟩;have hdw:=wr (n:=(dn.length:Int)+1) (by omega) (by omega);have hf:=qmF hn hx 0;have ht1:=qhp hx;have hMl:=(qBa.1 bM).1;have hup:∀(u:List Blk) (T:List (Option Nat)),zi (Dof prog) ⟨H1++u,T⟩ 182 (.map (H.length+3)) (.str v.name) (.int .i64 (dn.length:Int))=some ⟨H1.set (H.length+3) (.map ((vZ (p.vars.take (dn.length+1))).map J8) (dn.length+1))++u,T⟩:=fun u T=>by
    rw[ht1,qCi];generalize (vZ (p.vars.take dn.length)).map J8=E at *;simp[zi,qd bM,zG,hf,kI bM,J8]
   generalize hE2:(vZ (p.vars.take (dn.length+1))).map J8=E2 at *;simp only[qu,qBB,qBy]at bB;simp[e32,e33,e34,show(dn.length:Int)<p.vars.length by omega,hx];rw[qP rfl];simp[zc,e8,e34,qd bB,hup,hdw];refine hR _ _ ⟨by simp[e4],by simp[e5],by simp[e8],by simp[e32],by simp[e33],by simp,(hkp.setF (by omega)).trans qF7,qd (by rw[qBd (by omega)];exact bP) _,qd (by rw[qBd (by omega)];exact bE) _,?_,qd (by rw[qBd (by omega)];exact bB) _⟩;rw[qBe,qBK,hE2];exact qd (qBg hMl) _
 rintro ev ⟨H1,T1⟩ ⟨e4,e5,e8,e32,e33,e34,hkp,bP,bE,bM,bB⟩;rw[qCX]at bM;have bM':=bM;have bB':=bB;simp only[qu,qBB,qBy]at bB;simp[e33,e34];rw[qP rfl];simp[zc,e5,e8,bB,bE];refine qFC (huse H1 (H.length+3) bM' T1) ?_;rintro v ⟨H2,T2⟩ ⟨rfl,hk2⟩;simp[zc];exact⟨H.length+4,H.length+3,rfl,by omega,by omega,by omega,hkp.trans hk2,by rw[hLV];exact hk2.2 _ _ bB' (by simp),hk2.2 _ _ bM' (by simp)⟩
def kH(vs:List Var)(l:List Int):Int:=(l.map fun i=>zM vs i.toNat).sum
def Vs(vs l i):kH vs (l++[i])=kH vs l+zM vs i.toNat:=by simp[kH]
def Jy{vs}(hw:∀v∈vs,0<=v.width)(n):0<=zM vs n:=by
 unfold zM;split
 . rename_i v hv;exact hw v (qBb hv)
 omega
def YK{vs}(hw:∀v∈vs,0<=v.width):∀l:List Int,0<=kH vs l
 |[]=>by simp[kH]
 | a::r=>by
  have:=YK hw r;have:=Jy hw a.toNat;simp only[kH,qBn,qDe]at *;omega
def qb7(vs l m):kH vs (l++m)=kH vs l+kH vs m:=by simp[kH]
def Vr{vs}(hw:∀v∈vs,0<=v.width)(l k):kH vs (l.take k)<=kH vs l:=by
 have h1:=qb7 vs (l.take k) (l.drop k);rw[qBX]at h1;have:=YK hw (l.drop k);omega
def qgm{vs}{l:List Int}(hl:∀i∈l,∃n:Nat,i=n/\n<vs.length)(hnd:l.Nodup):∀m,m<=l.length->(wO vs (l.take m)).2=kH vs (l.take m)/\∀k (i:Int),k<m->l[k]?=some i->(wO vs (l.take m)).1[i.toNat]?=some (kH vs (l.take k))
 |0,_=>⟨by simp[wO,kH],fun k i h=>by omega⟩
 | m+1,hm=>by
  obtain⟨ih1,ih2⟩:=qgm hl hnd m (by omega);obtain⟨j,hj⟩:∃j,l[m]?=some j:=⟨_,qBc (by omega)⟩;have ht:l.take (m+1)=l.take m++[j]:=by rw[qBG,hj];rfl
  obtain⟨n,rfl,hn⟩:=hl j (qBb hj);have hlen:=Z8 vs (l.take m);rw[ht,VW,Vs];refine⟨by simp only[vP,ih1],fun k i hk hi=>?_⟩;simp only[vP,qBF];by_cases hkm:k=m
  . subst hkm;rw[hj]at hi;cases hi;rw[qBF,qBg (by omega),ih1]
  obtain⟨n2,rfl,hn2⟩:=hl i (qBb hi);have hne:n≠n2:=by
   rintro rfl;have hp:=qC3.1 hnd;obtain⟨a1,a2⟩:=qBa.1 hj;obtain⟨b1,b2⟩:=qBa.1 hi;exact hp k m b1 a1 (by omega) (by rw[a2,b2])
  rw[qBF,qBd hne];exact ih2 k _ (by omega) hi
def qb5{f:Int->Int}:∀{l:List Int}{a:Int},a∈l->((l.erase a).map f).sum+f a=(l.map f).sum
 | x::r,a,h=>by
  rw[List.erase_cons];split
  . rename_i hx;have:x=a:=by simpa using hx
    subst this;simp;omega
  rename_i hx;have hx:¬x=a:=by simpa using hx
  have h2:a∈r:=(qBz.1 h).resolve_left (Ne.symm hx);have:=qb5 (f:=f) h2;simp;omega
def qea{f:Int->Int}(hf:∀i,0<=f i):∀(n:Nat) (l:List Int),l.Nodup->(∀x∈l,0<=x/\x<n)->(l.map f).sum<=((List.range n).map fun k:Nat=>f k).sum
 | 0,l,_,h=>by
  cases l with
  |nil=>simp
  |cons a r=>have:=h a (by simp);omega
 | n+1,l,hn,h=>by
  rw[qCt,qCi,qE2];simp only[qBn,qBN,qDe,qFo];by_cases hm:(n:Int)∈l
  . have h1:=qea hf n (l.erase (n:Int)) (hn.erase _) fun x hx=>by
     have h2:=(hn.mem_erase_iff).1 hx;have:=h x h2.2;omega
    have:=qb5 (f:=f) hm;omega
  have h1:=qea hf n l hn fun x hx=>by
   have:=h x hx;have h2:x≠(n:Int):=fun e=>hm (e▸hx)
   omega
  have:=hf n;omega
def qrv(vs:List Var)(i:Int):Int:=if yQ vs i=true then zM vs i.toNat else 0
def qlN:∀(vs),((List.range vs.length).map fun k:Nat=>qrv vs k).sum=yG vs:=by
 have gen:∀(vs pre:List Var),((List.range' pre.length vs.length).map fun k:Nat=>qrv (pre++vs) k).sum=yG vs:=by
  intro vs
  induction vs with
  |nil=>intro pre;rfl
  | cons v r ih=>
   intro pre;have:=ih (pre++[v]);rw[qBQ,qCW,qBe,qBK]at this;rw[qBr,qCx,qBn,qDe,this];simp only[yG];congr 1;simp only[qrv,yQ,zM,qBF,show(pre++v::r)[pre.length]?=some v by rw[qBm (qBl _),qB9];rfl];by_cases hm:v.mode=0<;>simp[hm]
 intro vs;have:=gen vs []
 rwa[qB0,<- qCd,qBy]at this
def qhr{p}(h:qg p=0):yG p.vars<=20:=by
 have hv:jj p.vars=0:=by
  unfold qg at h;split at h
  . exact absurd h (by assumption)
  rename_i h1;exact qB2.1 h1
 unfold jj at hv;split at hv
 . cases hv
 split at hv
 . rename_i h1;exact absurd hv h1
 split at hv
 . cases hv
 split at hv
 . cases hv
 split at hv
 . cases hv
 omega
def YW{p}(h:qg p=0):∀i∈p.groups.flatten,∃n:Nat,i=n/\n<p.vars.length:=fun i hi=>by
 obtain⟨n,v,rfl,hn,_⟩:=Ze ((jz h).2.1 i hi);exact⟨n,rfl,(qBa.1 hn).1⟩
def QI{p}(h:qg p=0):∀v∈p.vars,0<=v.width:=fun v hm=>by have:=zf (z5 h v hm);omega
def Wq{p}(h:qg p=0):kH p.vars p.groups.flatten<=20:=by
 have h1:=qea (f:=qrv p.vars) (fun i=>by unfold qrv;split;exact Jy (QI h) _;omega) p.vars.length p.groups.flatten (jz h).2.2.1 (fun i hi=>by
  obtain⟨n,rfl,hn⟩:=YW h i hi;omega)
 rw[qlN]at h1;have h2:=qhr h;have h3:(p.groups.flatten.map (qrv p.vars)).sum=kH p.vars p.groups.flatten:=by
  unfold kH;congr 1;exact qCf fun i hi=>by unfold qrv;rw[if_pos ((jz h).2.1 i hi)]
 omega
def kZ(p):(qN p).length=p.vars.length:=Z8 p.vars _
def Wa{p:Problem}(h:qg p=0){k:Nat}{n:Nat}(hk:p.groups.flatten[k]?=some (n:Int)):(qN p)[n]?=some (kH p.vars (p.groups.flatten.take k)):=by
 have h1:=(qgm (YW h) (jz h).2.2.1 p.groups.flatten.length (qBl _)).2 k _ (qBa.1 hk).1 hk
 rwa[qCX,qBF]at h1
def qjQ{p:Problem}(h:qg p=0){n:Nat}{v:Var}(hv:p.vars[n]?=some v)(hm:v.mode≠0):∃k:Nat,p.groups.flatten[k]?=some (n:Int):=by
 have:=(jz h).2.2.2 n (qBa.1 hv).1 (by simp[yQ,hv,hm]);exact qBT this
def qky{p:Problem}(h:qg p=0):∀(i:Nat) (v:Var) (l:Int),p.vars[i]?=some v->(qN p)[i]?=some l->v.mode≠0->0<=l/\l+v.width<=20:=fun i v l hv hl hm=>by
 obtain⟨k,hk⟩:=qjQ h hv hm;have h1:=Wa h hk;rw[hl]at h1;cases h1;have h2:=YK (QI h) (p.groups.flatten.take k);have h3:=Vr (QI h) p.groups.flatten (k+1);rw[show p.groups.flatten.take (k+1)=p.groups.flatten.take k++[(i:Int)] by rw[qBG,hk];rfl,Vs]at h3;have h5:zM p.vars (i:Int).toNat=v.width:=by simp[zM,hv]
 have h6:=Wq h;omega
def quz(W):(Instr.typeAssert .nilIface 20 237 true).run prog W=.ok (.tuple #[.agg #[.int .i64 0],.bool false]) W:=by kernel_rfl
def quy(W v):(Instr.typeAssert (.iface 237 v) 20 237 true).run prog W=.ok (.tuple #[v,.bool true]) W:=by kernel_rfl
def Jn(B x y)(older:List PanicEntry)(w)(hp:B<w.heap.size)(hc:w.cell? ⟨B,0,none⟩=some x)(hz:w.frozen? ⟨B,0,none⟩=false):
 CallsD prog 190 #[.pointer (some ⟨B,0,none⟩)] (.panicking ({v:=.iface 237 (.agg #[.int .i64 y]),recovered:=false}::older)) w fun e u' w'=>
  e=.returned (.tuple #[])/\u'=.panicking ({v:=.iface 237 (.agg #[.int .i64 y]),recovered:=true}::older)/\w'=(w.alloc (.cells #[.int .i64 y] 237)).setCell ⟨B,0,none⟩ (.int .i64 y):=by
 refine callsD_of_wpS func190 rfl fun c₀ cs hu=>?_
 apply wpS_seq;apply wpS_region;simp[wpOpsS,go_sem,recoverD,hu,Tryz.ntmps190,Exit.thenS];apply wpS_seq;apply wpS_region;simp[wpOpsS,go_sem,recoverD,Exit.thenS,quy];apply wpS_seq;apply wpS_region;simp[wpOpsS,go_sem,Exit.thenS];refine wpS_cond (t:=true) (by simp[Act.eval,Array.replicate]) ?_;simp only[if_true];apply wpS_region;simp[wpOpsS,go_sem,recoverD,bodyPostS,results,Tryz.results190,hz,frozen?_alloc_cells,World.cell?_alloc_past _ _ _ hp];rw[hc];simp[Result.andThen_ok,go_sem]
def qbo(p:Addr)(w):
 CallsD prog 190 #[.pointer (some p)] .returning w fun e u' w'=>e=.returned (.tuple #[])/\u'=.returning/\w'=w.alloc (.cells #[.int .i64 0] 237):=by
 refine callsD_of_wpS func190 rfl fun c₀ cs hu=>?_
 apply wpS_seq;apply wpS_region;simp[wpOpsS,go_sem,recoverD,hu,Tryz.ntmps190,Exit.thenS];apply wpS_seq;apply wpS_region;simp[wpOpsS,go_sem,recoverD,hu,Exit.thenS,quz];apply wpS_seq;apply wpS_region;simp[wpOpsS,go_sem,Exit.thenS];refine wpS_cond (t:=false) (by simp[Act.eval,Array.replicate]) ?_;simp only[qBE,if_false];apply wpS_seq;apply wpS_region;simp[wpOpsS,go_sem,recoverD,Exit.thenS];refine wpS_cond (t:=false) (by simp[Act.eval,Array.replicate]) ?_;simp only[qBE,if_false];refine wpS_of_wp (wp_skip ?_);cases c₀;simp_all[bodyPostS,results,Tryz.results190]
def qiG{G H:Glo}(hG:H.g=G.g){Q R:AV->St->Prop}{f:Nat}{first cap:List AV}{U:St}
 (h:qj prog H f (first++cap) (U.push (.cells [.int .i64 0])) R)
 (hR:∀v τ,R v τ->(∃x,τ.H[U.H.length]?=some (.cells [x]))/\Q (.int .i64 0) ⟨τ.H.set U.H.length (.cells [.int .i64 0])++[.cells [.int .i64 0]],τ.T⟩)
 (hX:∀c τ,H.X c τ->(∃x,τ.H[U.H.length]?=some (.cells [x]))/\∃k,c=[{v:=.iface 237 (.agg #[.int .i64 k]),recovered:=false}]/\Q (.int .i64 k) ⟨τ.H.set U.H.length (.cells [.int .i64 k])++[.cells [.int .i64 k]],τ.T⟩):
 qj prog G 131 [.fn f first cap] U Q:=by
 refine⟨by kernel_rfl,fun w0 ro0 K w vs hw hvs=>?_⟩;simp only[qi]at hvs;obtain⟨v0,vr,e0,⟨va,vb,rfl,ha,hb⟩,rfl⟩:=hvs;have evs:vs = #[.func (.func f) va vb]:=by apply Array.ext';simpa using e0
 subst evs
 go_enter_defers func131,Tryz.ntmps131
 go_wp2
 rw[J0 h.1,Oper.upon_enter];have hw1:WRel H.g w0 ro0 (K.addM U.H.length w.heap.size (j9 (.cells #[.int .i64 0] 32))) (U.push (.cells [.int .i64 0])) (w.alloc (.cells #[.int .i64 0] 32)):=by
  rw[hG];exact hw.push ⟨#[.int .i64 0],32,rfl,by simp,by simp,fun i a e=>by
   cases i with
   |zero=>simp at e;subst e;exact⟨_,rfl,by simp[qf]⟩
   |succ i=>simp at e⟩
 have hle1:=qFM hw w.heap.size (j9 (.cells #[.int .i64 0] 32));generalize hK1:K.addM U.H.length w.heap.size (j9 (.cells #[.int .i64 0] 32))=K1 at hw1 hle1;have hm1:K1.m U.H.length=some w.heap.size:=by rw[<- hK1];simp[Kn.addM]
 have hp1:qf K1 (.ptr U.H.length 0) (.pointer (some ⟨w.heap.size,0,none⟩)):=by simp only[qf];exact⟨_,hm1,rfl⟩
 have hvs1:qi K1 (first++cap) (va++vb).toList:=by
  rw[Array.toList_append];exact(qi.mono hle1 _ ha).append (qi.mono hle1 _ hb)
 refine Calls.mono (h.2 w0 ro0 K1 _ _ hw1 hvs1) ?_;rintro e w' (⟨v',v,τ,K2,rfl,k1,k2,k3,k4⟩|⟨c,τ,K2,rfl,k1,k2,k3⟩)
 . obtain⟨⟨x,hx⟩,hq⟩:=hR v τ k4;have hm2:K2.m U.H.length=some w.heap.size:=k1.m _ _ hm1;rw[hG]at k2;obtain⟨w2,hst,hw2⟩:=Zm (P:=prog) (t:=32) (x:=.int .i64 0) (x':=.int .i64 0) k2 (hp1.mono k1) (by simp[qf]) (U':=⟨τ.H.set U.H.length (.cells [.int .i64 0]),τ.T⟩) (by simp[Vt,hx,D32]);obtain⟨B',g1,g2,g3,⟨cs,el,g4,g5,g6,g7⟩,g8⟩:=k2.blk _ _ hx;rw[hm2]at g1;cases g1;obtain⟨xv,hxv,_⟩:=g7 0 x rfl;have hc:w'.cell? ⟨w.heap.size,0,none⟩=some xv:=(by simp[World.cell?,g4,hxv]);have hz:w'.frozen? ⟨w.heap.size,0,none⟩=false:=by simp[World.frozen?,g4]
   go_wp2
   have e2:w'.setCell ⟨w.heap.size,0,none⟩ (.int .i64 0)=w2:=by
    have:=hst;simp[Instr.storeAt,go_sem,hc,hz]at this;exact this
   rw[e2];have hw3:=hw2.push (b:=.cells [.int .i64 0]) (o:=.cells #[.int .i64 0] 237) ⟨#[.int .i64 0],237,rfl,by simp,by simp,fun i a e=>by
    cases i with
    |zero=>simp at e;subst e;exact⟨_,rfl,by simp[qf]⟩
    |succ i=>simp at e⟩
   have hle3:=qFM hw2 w2.heap.size (j9 (.cells #[.int .i64 0] 237));have hnl:=(qBa.1 hx).1;have hcell:(w2.alloc (.cells #[.int .i64 0] 237)).cell? ⟨w.heap.size,0,none⟩=some (.int .i64 0):=by
    obtain⟨B',q1,q2,q3,⟨cs,el,q4,q5,q6,q7⟩,q8⟩:=hw3.blk U.H.length (.cells [.int .i64 0]) (by simp only[St.push];rw[qBq (by simpa using hnl),qBg hnl]);rw[hle3.m _ _ hm2]at q1;cases q1;obtain⟨v,h1,h2⟩:=q7 0 _ rfl;simp only[qf]at h2;subst h2;simp[World.cell?,q4,h1]
   refine leaves_cons (f:=190) (args:=#[.pointer (some ⟨w.heap.size,0,none⟩)]) (by simp) (by simp[go_sem]) ?_;refine(qbo ⟨w.heap.size,0,none⟩ _).mono ?_;rintro e u' w'' ⟨rfl,rfl,rfl⟩;simp[Leaves,settle,results,Tryz.results131,go_sem,hcell];exact⟨_,_,_,qFR hle1 (qFR k1 hle3),hw3,by simp[qf],hq⟩
 obtain⟨⟨x,hx⟩,k,rfl,hq⟩:=hX c τ k3;have hm2:K2.m U.H.length=some w.heap.size:=k1.m _ _ hm1;rw[hG]at k2;obtain⟨B',g1,g2,g3,⟨cs,el,g4,g5,g6,g7⟩,g8⟩:=k2.blk _ _ hx;rw[hm2]at g1;cases g1;obtain⟨xv,hxv,_⟩:=g7 0 x rfl;have hc:w'.cell? ⟨w.heap.size,0,none⟩=some xv:=by simp[World.cell?,g4,hxv]
 have hz:w'.frozen? ⟨w.heap.size,0,none⟩=false:=by simp[World.frozen?,g4]
 have hnl:=(qBa.1 hx).1;have hw3:=k2.push (b:=.cells [.int .i64 k]) (o:=.cells #[.int .i64 k] 237) ⟨#[.int .i64 k],237,rfl,by simp,by simp,fun i a e=>by
  cases i with
  |zero=>simp at e;subst e;exact⟨_,rfl,by simp[qf]⟩
  |succ i=>simp at e⟩
 have hle3:=qFM k2 w'.heap.size (j9 (.cells #[.int .i64 k] 237));obtain⟨w2,hst,hw4⟩:=Zm (P:=prog) (t:=32) (x:=.int .i64 k) (x':=.int .i64 k) hw3 (hp1.mono (qFR k1 hle3)) (by simp[qf]) (U':=⟨τ.H.set U.H.length (.cells [.int .i64 k])++[.cells [.int .i64 k]],τ.T⟩)
  (by simp[Vt,qBq hnl,hx,D32,List.set_append_left _ _ hnl,St.push])
 have e2:(w'.alloc (.cells #[.int .i64 k] 237)).setCell ⟨w.heap.size,0,none⟩ (.int .i64 k)=w2:=by
  have:=hst;simp[Instr.storeAt,go_sem,hz,frozen?_alloc_cells,World.cell?_alloc_past _ _ _ g3]at this;rw[hc]at this;simpa[Result.andThen_ok,go_sem] using this
 have hcell:w2.cell? ⟨w.heap.size,0,none⟩=some (.int .i64 k):=by
  obtain⟨B',q1,q2,q3,⟨cs,el,q4,q5,q6,q7⟩,q8⟩:=hw4.blk U.H.length (.cells [.int .i64 k]) (by simp only;rw[qBq (by simpa using hnl),qBg hnl]);rw[hle3.m _ _ hm2]at q1;cases q1;obtain⟨v,h1,h2⟩:=q7 0 _ rfl;simp only[qf]at h2;subst h2;simp[World.cell?,q4,h1]
 simp only[Exit.then];refine leaves_cons (f:=190) (args:=#[.pointer (some ⟨w.heap.size,0,none⟩)]) (by simp) (by simp[go_sem]) ?_;refine(Jn w.heap.size xv k [] _ g3 hc hz).mono ?_;rintro e u' w'' ⟨rfl,rfl,rfl⟩;rw[e2];simp[Leaves,settle,results,Tryz.results131,go_sem,hcell];exact⟨_,_,_,qFR hle1 (qFR k1 hle3),hw4,by simp[qf],hq⟩
def VX{p e}(hk:zy p.vars e=0)(ht:Jx e):qiQ p e/\zk e=0:=by
 have he:zk e=0/\Yq e=false/\Zx p.vars e=false:=by
  unfold zy at hk;split at hk
  . rename_i h;exact absurd hk h
  rename_i h;split at hk
  . cases hk
  split at hk
  . cases hk
  rename_i h2 h3;exact⟨qB2.1 h,by simpa using h2,by simpa using h3⟩
 refine⟨fun x hx=>?_,he.1⟩;have hn:=v7 he.1 x hx;have h1:=he.2.1;have h2:=he.2.2;rw[Yq,qCV]at h1;rw[Zx,qCV]at h2;have h1:=h1 x hx;have h2:=h2 x hx;refine⟨hn,fun h=>h1 (by simp[h]),fun h=>h1 (by simp[h]),fun h=>?_,?_⟩
 . cases hh:Qr p.vars x.name with
   |true=>rfl
   |false=>exact absurd (by simp[h,hh]) h2
 have ho:=(jm hn).2.2.2.2.1;unfold qk at ho;split at ho
 . simp only[decide_eq_true_eq]at ho;omega
 simp only[decide_eq_true_eq]at ho;unfold zB at ho
 repeat' split at ho
 all_goals omega
def qnF:List (Nat×Sch×List Nat):=[(0,.step 1 [5,4,3] (.step 2 [5,4,3] (.fork (.cons 0 (.step 3 [5,4] (.step 4 [5] (.step 5 [] (.done)))) (.cons 3 (.step 0 [5,4] (.step 4 [5] (.step 5 [] (.done)))) (.nil))))),[3,4])]
def InQ(c:Bc)(d:List Nd)(p3:Nat)(H:List Blk)(v:(Nat->Bool)->Bool)(r:AV)(U':St):Prop :=
 ∃d' t H1,U'.H=H1.set p3 (.cells [.int .i64 (t:Nat)])/\p3<H1.length/\BX c H d' H1/\zb d d'/\t<d'.length/\∀b,evD d' b t=v b
def qgx{c d H T}(h:BX c H d H){p lv}(hp:PB p lv c)(e)(he:qiQ p e){p1 p2 p3}(b1:H[p1]?=some (.cells [.ptr c.B 0]))(b2:H[p2]?=some (.cells (qp e))){x}(b3:H[p3]?=some (.cells [x]))(h3:p3≠c.B)(h1:p1≠c.B):
 qj prog (XG c) 132 [.ptr p1 0,.ptr p2 0,.ptr p3 0] ⟨H,T⟩ (InQ c d p3 H fun b=>!decide (yo (yp p.vars (QY p.vars lv b)) e=0)):=by
 refine qFy ⟨false,qnF,[],[]⟩ qX func132 rfl (by kernel_rfl) ?_;have hw:=fun T=>qqS hp e he d H T h
 rw[qc e]at b2 hw;simp;rw[qP rfl];simp[zc,b1,b2];refine⟨qFC (hw T) ?_,qFC (hw T) ?_⟩
 all_goals
  rintro v ⟨H2,T2⟩ ⟨d2,W,rfl,hxx2,hg2,hW,hv2⟩;have hx2:=h.call hxx2;have c1:=hxx2.loc b1 h1;have c3:=hxx2.loc b3 h3;simp[zc,c1];refine qFC (QJ hx2.self hW) ?_;rintro v ⟨H3,T3⟩ ⟨d3,t,rfl,hxx3,hg3,ht3,hv3⟩;dsimp only at hv3;have hx3:=hx2.call hxx3;have e3:=hxx3.loc c3 h3;have hl3:=(qBa.1 e3).1;dsimp only at e3 hl3;simp[zc,e3];refine⟨d3,t,H3,rfl,hl3,hx3,hg2.trans hg3,ht3,fun b=>?_⟩;rw[hv3,v9];have:=hv2 b;unfold z7 at this;rw[this]
def qnJ:List (Nat×Sch×List Nat):=[(8,.step 0 [7,6,5,3,2,1] (.step 1 [7,6,5,3,2] (.step 2 [7,6,5,3] (.step 3 [7,6,5] (.fork (.cons 4 (.step 5 [7,6] (.step 6 [7] (.step 7 [] (.done)))) (.cons 5 (.step 4 [7,6] (.step 6 [7] (.step 7 [] (.done)))) (.nil))))))),[])]
def qAj(d:List Nd)(H:List Blk)(v:(Nat->Bool)->Bool)(r:AV)(U':St):Prop :=
 KpL [] H U'.H/\(r=.tup [.agg [.sl 0 [] .nil],.int .i64 0,.int .i64 2] \/
  ∃d' t tok,r=.tup [.agg [.sl 3 (d'.map qI) tok],.int .i64 (t:Nat),.int .i64 0]/\zb d d'/\DagOk d'/\t<d'.length/\∀b,evD d' b t=v b)
def qAv(B p3:Nat)(d:List Nd)(E:List Blk)(v:(Nat->Bool)->Bool)(r:AV)(U':St):Prop :=
 KpL [B,p3] E U'.H/\(r=.int .i64 2\/(r=.int .i64 0/\∃d' t tok rest,U'.H[p3]?=some (.cells [.int .i64 (t:Nat)])/\U'.H[B]?=some (.cells (.sl 3 (d'.map qI) tok::rest))/\zb d d'/\DagOk d'/\t<d'.length/\∀b,evD d' b t=v b))
def qwb{d}(hd:DagOk d){p}{LV:List Int}(hle:LV.length=p.vars.length)(hvl:p.vars.length<=1000)(hvars:∀v∈p.vars,j5 v=0)(hnd:(p.vars.map (·.name)).Nodup)
 (hlo:∀(i:Nat) (v:Var) (l:Int),p.vars[i]?=some v->LV[i]?=some l->v.mode≠0->0<=l/\l+v.width<=20) {E B M p1 p2 p3 e x val}
 (bB:E[B]?=some (.cells (.sl 3 (d.map qI) .none::(qu p++[.sl 1 (LV.map qh) .none,.map M])))) (bM:E[M]?=some (vY p.vars)) (hMB:M≠B)
 (b1:E[p1]?=some (.cells [.ptr B 0])) (b2:E[p2]?=some (.cells (qp e))) (b3:E[p3]?=some (.cells [x])) (h1:p1≠B) (h3:p3≠B) (hbl:qiQ p e)
 (hval:∀b,(!decide (yo (yp p.vars (QY p.vars LV b)) e=0))=val b) (T):
 qj prog GG 131 [.fn 132 [] [.ptr p1 0,.ptr p2 0,.ptr p3 0]] ⟨E,T⟩ (qAv B p3 d E val):=by
 obtain⟨E0,hE0⟩:∃E0,E0=E++[Blk.cells [.int .i64 0]]:=⟨_,rfl⟩;obtain⟨c,hc⟩:∃c:Bc,c=⟨B,M,qu p++[.sl 1 (LV.map qh) .none,.map M],vY p.vars,E0⟩:=⟨_,rfl⟩;have hcB:c.B=B:=by rw[hc]
 have hcM:c.M=M:=by rw[hc]
 have hcr:c.rest=qu p++[.sl 1 (LV.map qh) .none,.map c.M]:=by rw[hc]
 have hcm:c.mp=vY p.vars:=by rw[hc]
 have hcH:c.H0=E0:=by rw[hc]
 have hBl:=(qBa.1 bB).1;have hMl:=(qBa.1 bM).1;have h3l:=(qBa.1 b3).1;have hEl:E0.length=E.length+1:=by rw[hE0];simp
 have la:∀{k:Nat} {x:Blk},E[k]?=some x->E0[k]?=some x:=fun {k x} hq=>by rw[hE0];exact qd hq _
 have hcell:E0[E.length]?=some (.cells [.int .i64 0]):=by rw[hE0];simp
 have hbx:BX c E0 d E0:=⟨⟨.none,by rw[hcB,hcr,hcM];exact la bB⟩,by rw[hcM,hcm];exact la bM,hd,by rw[hcH];exact qF5,qF5,by rw[hcM,hcB];exact hMB,by omega,by omega,by rw[hcH];exact qBl _⟩;have hii:=qgx (T:=T) hbx (⟨hcr,hcm,hle,hvl,hvars,hnd,hlo⟩) e hbl (p1:=p1) (p2:=p2) (p3:=p3) (by rw[hcB];exact la b1) (la b2) (la b3) (by omega) (by omega);simp only[hval]at hii;have hkE:∀{bs:List Nat} {H2:List Blk},KpL bs E0 H2->KpL bs E H2:=fun {bs H2} hk=>qF6 (by rw[hE0];exact qF7) hk
 refine qiG (G:=zh GG) (H:=XG c) rfl (R:=InQ c d p3 E0 fun b=>val b) (by rw[show(St.push ⟨E,T⟩ (.cells [.int .i64 0]))=⟨E0,T⟩ by rw[hE0];rfl];exact hii) ?_ ?_
 . rintro v ⟨Hv,Tv⟩ ⟨d',t,H1,hH,hp3,hx,hg,htl,hv⟩;dsimp only at hH;have hq:=hx.kp.2 _ _ hcell (by simp;omega);obtain⟨tok,hb⟩:=hx.b;rw[hcB]at hb;refine⟨⟨_,by dsimp only;rw[hH,qBd (by omega)];exact hq⟩,?_,.inr ⟨rfl,d',t,tok,c.rest,?_,?_,hg,hx.ok,htl,hv⟩⟩
   . dsimp only;rw[hH];have h1:=hkE hx.kp;rw[hcB]at h1;exact(((h1.sub (by simp)).trans (qF8 (by simp))).setF (qBl _)).trans qF7
   . dsimp only;rw[hH];refine qd ?_ _;rw[qBd (by omega)];exact qBg hp3
   dsimp only;rw[hH];refine qd ?_ _
   rwa[qBd (by omega),qBd (by omega)]
 rintro cs ⟨Hv,Tv⟩ ⟨rfl,hk⟩;dsimp only at hk⊢;rw[hcH,hcB]at hk;have hq:=hk.2 _ _ hcell (by simp;omega);refine⟨⟨_,hq⟩,2,rfl,?_,.inl rfl⟩;exact(((hkE hk).sub (by simp)).setF (qBl _)).trans qF7
def qpp(d)(hd:DagOk d)(p)(h:VQ p)(hv:qg p=0)(e)(hk:zy p.vars e=0)(ht:Jx e)(H T):
 qj prog GG 78 [.agg (zF d),.agg (qu p),.agg (qp e)] ⟨H,T⟩ (qAj d H fun b=>!decide (yo (yp p.vars (QY p.vars (qN p) b)) e=0)):=by
 refine qFy ⟨false,qnJ,[],[]⟩ qX func78 rfl (by kernel_rfl) ?_;have hst:=fun H T=>qmV d hd p h hv e hk ht H T
 obtain⟨hbl,hve⟩:=VX hk ht;have henc:=qc e;simp only[zF]at hst;rw[henc]at hst⊢;obtain⟨val,hval⟩:∃val:(Nat->Bool)->Bool,∀b,(!decide (yo (yp p.vars (QY p.vars (qN p) b)) e=0))=val b:=⟨_,fun _=>rfl⟩;simp only[hval];have hin:=fun {c:Bc} {H:List Blk} {T:List (Option Nat)} (hx:BX c H d H) (hp:PB p (qN p) c) {p1 p2 p3:Nat} (b1:H[p1]?=some (.cells [.ptr c.B 0])) (b2:H[p2]?=some (.cells (qp e))) {x:AV} (b3:H[p3]?=some (.cells [x])) (h3:p3≠c.B) (h1:p1≠c.B)=>qgx (T:=T) hx hp e hbl b1 b2 b3 h3 h1
 simp only[hval]at hin;have hvars:=z5 hv;have hnd:=yX hv;have hle:=kZ p;have hlo:=qky hv;have hvl:=h.vars;generalize hLV:qN p=LV at *;simp only[qu]at hst;simp;refine qFC (hst _ _) ?_;rintro v ⟨H1,T1⟩ ⟨B,M,rfl,hB,hM,hMB,hkp,bB,bM⟩;rw[hLV]at bB;dsimp only at hkp bB bM;simp;have hBl:=(qBa.1 bB).1;have hMl:=(qBa.1 bM).1;have hHl:=hkp.1;have bE:H1[H.length+2]?=some (.cells (qp e)):=by
  refine hkp.2 _ _ ?_ (by simp);rw[henc];exact lk2
 simp at hB hM;refine qFC (qwb hd hle hvl hvars hnd hlo (E:=H1++[.cells [.ptr B 0],.cells [.int .i64 0]]) (B:=B) (M:=M) (p1:=H1.length) (p2:=H.length+2) (p3:=H1.length+1) (qd bB _) (qd bM _) hMB lk0 (qd bE _) lk1 (by omega) (by omega) hbl hval T1) ?_;rintro v ⟨H2,T2⟩ ⟨hk2,hr⟩;have cR:=hk2.2 _ _ (qd (hkp.2 _ _ lk3 (by simp)) _) (by simp;omega);have cRl:=(qBa.1 cR).1;have hkH:KpL [] H H2:=⟨by have:=hk2.1;simp at this;omega,fun k x hk _=>by
  have hkl:=(qBa.1 hk).1;exact hk2.2 _ _ (qd (hkp.2 _ _ (qd hk _) (by simp)) _) (by simp;omega)⟩
 rcases hr with rfl|⟨rfl,d2,t,tok,rest,q1,q2,q3,q4,q5,q6⟩
 . simp[-getElem?_pos,zt,zX,cR,cRl];exact⟨hkH.setF (by omega),.inl rfl⟩
 have c9:=hk2.2 _ _ (lk0 (H:=H1) (p:=Blk.cells [.ptr B 0]) (t:=[.cells [.int .i64 0]])) (by simp;omega);simp;rw[qP rfl];simp[-getElem?_pos,zc,c9,q1,q2,cR,cRl];have hq1:(H2.set (H.length+3) (.cells [.sl 3 (d2.map qI) tok]))[H1.length+1]?=some (.cells [.int .i64 (t:Int)]):=by
  rw[qBd (by omega)];exact q1
 simp[hq1,cRl];exact⟨hkH.setF (by omega),.inr ⟨d2,t,tok,rfl,q3,q4,q5,q6⟩⟩
def qiB{p e a}(hb:qiQ p e)(hl:a.length=p.vars.length)(hn:(p.vars.map (·.name)).Nodup):jP (yp p.vars a) e=true:=by
 unfold jP;rw[qBk];intro x hx;obtain⟨h1,h3,h24,h2,_⟩:=hb x hx;unfold qiO;by_cases h:x.op=2
 . have hv:=h2 h;unfold Qr at hv;rw[qBJ]at hv;obtain⟨v,hm,hvn⟩:=hv;obtain⟨i,hi⟩:=qBT hm;have hil:=(qBa.1 hi).1;obtain⟨y,hy⟩:∃y,a[i]?=some y:=⟨_,qBc (by omega)⟩;have:=Qt hn hi hy;unfold yp;rw[if_pos h,if_pos hl,<- show v.name=x.name by simpa using hvn,this];rfl
 rw[if_neg h,if_neg (by omega)]
def qoB{p:Problem}{e a}(hk:zy p.vars e=0)(ht:Jx e)(hl:a.length=p.vars.length)(hn:(p.vars.map (·.name)).Nodup):jB (yp p.vars a) e=yo (yp p.vars a) e:=by
 obtain⟨h1,h2⟩:=VX hk ht;unfold jB;rw[if_pos ⟨h2,qiB h1 hl hn⟩]
def qAw(H:List Blk)(v:(Nat->Bool)->Bool)(r:AV)(U':St):Prop :=
 KpL [] H U'.H/\(r=.tup [.agg [.sl 0 [] .nil],.int .i64 0,.int .i64 2] \/
  ∃d t tok,r=.tup [.agg [.sl 3 (d.map qI) tok],.int .i64 (t:Nat),.int .i64 0]/\DagOk d/\t<d.length/\∀b,evD d b t=v b)
def qlr:DagOk [(20,0,0),(20,1,1)]:=⟨by simp,by simp,rfl,rfl,fun i n h hi=>by
 have:=(qBa.1 hi).1;simp at this;omega,by simp⟩
def qwy(p)(h:VQ p)(hv:qg p=0)(l)(hf:l.length<=1000000)(hx:∀e∈l,zy p.vars e=0/\Jx e)(H T):
 qj prog GG 43 [.agg (qu p),.sl 4 (l.map qp) .none] ⟨H,T⟩ (qAw H fun b=>ku p.vars l (QY p.vars (qN p) b)):=by
 refine okzA func43 rfl rfl ?_;have hnd:=yX hv;have hll:=kZ p;obtain⟨val,hval⟩:∃val:Ex->(Nat->Bool)->Bool,∀e b,(!decide (yo (yp p.vars (QY p.vars (qN p) b)) e=0))=val e b:=⟨_,fun _ _=>rfl⟩;have hres:∀b,ku p.vars l (QY p.vars (qN p) b)=l.all fun e=>val e b:=fun b=>by
  unfold ku;apply qB7.2;rw[qBk,qBk];refine forall_congr' fun e=>imp_congr_right fun he=>?_
  rw[qoB (hx e he).1 (hx e he).2 (Y4 hll b) hnd,<- hval];simp
 simp only[hres];have htr:=fun d (hd:DagOk d) e (he:e∈l) H T=>qpp d hd p h hv e (hx e he).1 (hx e he).2 H T
 simp only[hval]at htr;simp only[qu,zF]at htr;have hnew:=qp1;simp only[zF]at hnew;simp;refine qFz hnew rfl ?_;simp;refine qFP l (fun dn ev U=>ev 1=.sl 4 (l.map qp) .none/\ev 2=.ptr H.length 0/\ev 4=.ptr (H.length+1) 0/\ev 7=.ptr (H.length+2) 0/\ev 15=.sl 4 (l.map qp) .none/\ev 16=.int .i64 l.length/\ev 17=.int .i64 dn.length /\
  KpL [] H U.H/\U.H[H.length]?=some (.cells (qu p))/\U.H[H.length+1]?=some (.cells [.sl 0 [] .nil])/\∃d t tok,ev 8=.int .i64 (t:Nat)/\U.H[H.length+2]?=some (.cells [.sl 3 (d.map qI) tok])/\DagOk d/\t<d.length/\∀b,evD d b t=dn.all fun e=>val e b) ?_ ?_ ?_
 . refine⟨by simp,by simp,by simp,by simp,by simp,by simp,by simp,qF7,?_,?_,[(20,0,0),(20,1,1)],1,.none,by simp,?_,qlr,by simp,fun b=>qe0 qlr b⟩
   . exact lk0
   . exact lk1
   . exact lk2
 . rintro dn e rest ev ⟨H1,T1⟩ R hR hd hxe hlt ⟨e1,e2,e4,e7,e15,e16,e17,hkp,bP,b4,d,t,tok,e8,b7,hdk,htl,hv1⟩;dsimp only at hkp bP b4 b7;have hem:=qBb hxe;have hdw:=wr (n:=(dn.length:Int)+1) (by omega) (by omega);have htr1:=fun H T=>(htr d hdk e hem H T)
   have henc:=qc e;rw[henc]at htr1;have h7l:=(qBa.1 b7).1;have h4l:=(qBa.1 b4).1;simp only[qu]at bP;simp[e2,e7,e15,e16,e17,show(dn.length:Int)<l.length by omega,hxe,henc,qd b7,qd bP];refine qFC ((htr1 _ _).leq (args:=[.agg [.sl 3 (d.map qI) tok],_,_]) (by simp[zm,Leq,qFI])) ?_;rintro v ⟨H2,T2⟩ ⟨hk2,hr⟩;dsimp only at hk2;have up:∀{k:Nat} {x:Blk},H1[k]?=some x->H2[k]?=some x:=fun {k x} hq=>hk2.2 _ _ (qd hq _) (by simp)
   have hkH2:=hkp.trans (qF7.trans hk2);have c4:=up b4;have c4l:=(qBa.1 c4).1;rcases hr with rfl|⟨d2,f,tok2,rfl,hg2,hd2,hf2,hv2⟩
   . simp[e4,zt,zX,qd c4,kI c4];have:(H2.set (H.length+1) (.cells [.sl 0 [] .nil])++[.cells [.sl 0 [] .nil]])[H.length+1]?=some (.cells [.sl 0 [] .nil]):=qd (qBg c4l) _;simp[this];exact⟨(hkH2.setF (by omega)).trans qF7,.inl rfl⟩
   simp[e8];refine qFC ((qqz d2 hd2 t f (qBt htl hg2.len) hf2 _ _).leq (args:=[.agg [.sl 3 (d2.map qI) tok2],.int .i64 t,.int .i64 f]) (by simp[zm,Leq,qFI])) ?_;rintro v ⟨H3,T3⟩ ⟨hk3,hr3⟩;dsimp only at hk3;have up3:∀{k:Nat} {x:Blk},H1[k]?=some x->H3[k]?=some x:=fun {k x} hq=>hk3.2 _ _ (qd (up hq) _) (by simp)
   have hkH3:=hkH2.trans (qF7.trans hk3);have b11:=hk3.2 _ _ (lk0 (H:=H2) (p:=Blk.cells [.sl 3 (d2.map qI) tok2]) (t:=[])) (by simp);have b11l:=(qBa.1 b11).1;have hH2l:=hkH2.1;have c4:=up3 b4;have c7:=up3 b7;have cP:=up3 bP;have c4l:=(qBa.1 c4).1;have hH12:H1.length<=H2.length:=(by have:=hk2.1;simp at this;omega);rcases hr3 with rfl|⟨d3,i3,t3,rfl,g3,hd3,hi3,_,hs3⟩
   . have hc4:∀y,(H3.set H2.length y)[H.length+1]?=some (.cells [.sl 0 [] .nil]):=fun y=>by rw[qBd (by omega)];exact c4
     simp[e4,b11,zt,zX,hc4];have:∀y,((H3.set H2.length y).set (H.length+1) (.cells [.sl 0 [] .nil]))[H.length+1]?=some (.cells [.sl 0 [] .nil]):=fun y=>qBg (by simpa using c4l)
     simp[this];exact⟨(hkH3.setF (by omega)).setF (by omega),.inl rfl⟩
   have hc7:∀y,(H3.set H2.length y)[H.length+2]?=some (.cells [.sl 3 (d.map qI) tok]):=fun y=>by rw[qBd (by omega)];exact c7
   simp[e7,e17,b11,hc7,show ∀y,(H3.set H2.length y)[H2.length]?=some y from fun y=>qBg b11l,hdw];refine hR _ _ ⟨by simp[e1],by simp[e2],by simp[e4],by simp[e7],by simp[e15],by simp[e16],by simp,(hkH3.setF (by omega)).setF (by omega),?_,?_,d3,i3,_,by simp,qBg (by simp;have:=(qBa.1 c7).1;omega),hd3,hi3,fun b=>?_⟩
   . rw[qBd (by omega),qBd (by omega)];exact cP
   . rw[qBd (by omega),qBd (by omega)];exact c4
   rw[hs3];show(evD d2 b t&&evD d2 b f)=_;rw[hg2.ev hdk b htl,hv1,hv2,qCN];simp
 rintro ev ⟨H1,T1⟩ ⟨e1,e2,e4,e7,e15,e16,e17,hkp,bP,b4,d,t,tok,e8,b7,hdk,htl,hv1⟩;have h4l:=(qBa.1 b4).1;simp[-getElem?_pos,e4,e7,e8,e16,e17,b7,b4,h4l];exact⟨hkp.setF (by omega),.inr ⟨d,t,tok,rfl,hdk,htl,hv1⟩⟩
def qz1(p:Problem)(H:List Blk)(r:AV)(U':St):Prop:=KpL [] H U'.H/\((zw p=[]/\r=.sl 4 [] .tight)\/∃b,zw p≠[]/\r=.ms b 0 (zw p).length 4/\U'.H[b]?=some (.cells ((zw p).flatMap qp))/\H.length<=b)
def qAe{α:Type}{H:List α}{p q:α}:(H++[p,q])[H.length+1]?=some q:=by rw[qBm (by omega),qCk];rfl
def quF(b N k)(h:k<N):zl (.ms b 0 N 4) (some (.int .i64 (k:Int))) none none=some (.ms b (k*4) (N-k) 4):=by
 show(if(0:Int)<=k/\(k:Int)<=N/\(N:Int)<=N/\((k:Int)=0\/(k:Int)<N) then some (AV.ms b (0+(k:Int).toNat*4) ((N:Int).toNat-(k:Int).toNat) 4) else if(k:Int)=N/\(N:Int)=N then some (.sl 4 [] .none) else none)=_;rw[if_pos ⟨by omega,by omega,by omega,by omega⟩];simp
def qrj(b N)(h:0<N):zl (.ms b 0 N 4) (some (.int .i64 (N:Int))) none none=some (.sl 4 [] .none):=by
 show(if(0:Int)<=N/\(N:Int)<=N/\(N:Int)<=N/\((N:Int)=0\/(N:Int)<N) then some (AV.ms b (0+(N:Int).toNat*4) ((N:Int).toNat-(N:Int).toNat) 4) else if(N:Int)=N/\(N:Int)=N then some (.sl 4 [] .none) else none)=_;rw[if_neg (by omega),if_pos ⟨rfl,rfl⟩]
def VV(p)(h:VQ p)(hd:p.dists.length<=10000)(H T):qj prog GG 72 [.agg (qu p)] ⟨H,T⟩ (qz1 p H):=by
 refine qFy ⟨true,[],[],[]⟩ qX func72 rfl (by kernel_rfl) ?_;have hs:=J2 p h hd;have hh:=h.hard;have hsl:(jJ p).length<=10000:=by
  unfold jJ;split
  . simp[wu,hd]
  simp
 have hn:zw p=p.hard++jJ p:=rfl;generalize jJ p=S at *;obtain⟨Q,hQ⟩:∃Q,Q=qz1 p H:=⟨_,rfl⟩;rw[<- hQ];have fin0:p.hard++S=[]->∀u T',Q (.sl 4 [] .tight) ⟨H++u,T'⟩:=fun he u T'=>by rw[hQ];exact⟨qF7,.inl ⟨by rw[hn,he],rfl⟩⟩
 have k0:p.hard++S≠[]->∀(B0:Blk) (T':List (Option Nat)),Q (.ms (H.length+1) 0 (p.hard.length+S.length) 4) ⟨H++[B0,.cells ((p.hard++S).flatMap qp)],T'⟩:=fun he B0 T'=>by
  rw[hQ];refine⟨qF7,.inr ⟨H.length+1,by rw[hn];exact he,by rw[hn,qBe],?_,by omega⟩⟩;rw[hn];exact qAe
 simp only[qu]at hs;have hw:=wr (n:=(p.hard.length:Int)+S.length) (by omega) (by omega);by_cases h0:p.hard=[]/\S=[]
 . obtain⟨h1,h2⟩:=h0;subst h2;have fin0:=fin0 (by rw[h1];rfl);rw[h1]at hs hw;simp[h1];refine qFz hs (by simp) ?_;simp[show IntKind.i64.wrap 0=0 by decide,mkX,qD,kE,qbG,zl,zS,ki,zU];exact fin0 _ _
 have hpos:0<p.hard.length+S.length:=by
  rcases qCC (p.hard.length+S.length) with h|h
  . exact absurd ⟨qBo (by omega),qBo (by omega)⟩ h0
  exact h
 have hne2:p.hard++S≠[]:=by simpa using h0
 have k0:=k0 hne2;have hnz:¬(p.hard.length:Int)+S.length=0:=by omega
 have hle:(p.hard.length:Int)+S.length<=549755813888:=by omega
 have hge:(0:Int)<=(p.hard.length:Int)+S.length:=by omega
 have htn:((p.hard.length:Int)+S.length).toNat=p.hard.length+S.length:=by omega
 have hmk:∀U:St,mkX (Dof prog) true U 23 (.int .i64 ((p.hard.length:Int)+S.length)) (.int .i64 ((p.hard.length:Int)+S.length))=none:=fun U=>by
  have:∀z:Int,z≠0->mkX (Dof prog) true U 23 (.int .i64 z) (.int .i64 z)=none:=fun z hz=>by
   unfold mkX;split
   . rename_i h1 _;simp at h1;exact absurd h1.2 hz
   rfl
  exact this _ hnz
 obtain⟨Z,hZ⟩:∃Z,Z=(List.replicate (p.hard.length+S.length) [AV.int .i64 0,.int .i64 0,.str [],.sl 0 [] .nil]).flatten:=⟨_,rfl⟩;have hZl:Z.length=(p.hard.length+S.length)*4:=by rw[hZ];simp
 have hAl:=Go.Abs.ju (sz:=4) zj p.hard;have h2:=qcr (p.hard.flatMap qp) (S.flatMap qp) Z (by rw[hZl,hAl,Go.Abs.ju (sz:=4) zj S,qCl]);rw[hAl,<- List.flatMap_append]at h2;have ls:∀(B0 C D:Blk),(H++[B0,C]).set (H.length+1) D=H++[B0,D]:=fun B0 C D=>by rw[qBY _ _ (by omega),qCk];rfl
 have hc1:∀B0:Blk,kE (Dof prog) ⟨H++[B0,.cells Z],T⟩ 23 (.ms (H.length+1) 0 (p.hard.length+S.length) 4) (.sl 4 (p.hard.map qp) .none)=some (.int .i64 p.hard.length,⟨H++[B0,.cells (zx Z 0 (p.hard.flatMap qp))],T⟩):=fun B0=>by
  by_cases hh0:p.hard=[]
  . simp[kE,qbG,hh0,zx]
  have hm:min p.hard.length (p.hard.length+S.length)=p.hard.length:=by omega
  have hl:p.hard.length*4<=(p.hard.length+S.length)*4:=by omega
  simp[kE,qbG,qpP,hm,hh0,show(p.hard.map qp).take p.hard.length=p.hard.map qp from qBh (by simp),show(p.hard.map qp).flatten=p.hard.flatMap qp by rw[qCF],hZl,hl,ls]
 by_cases hS0:S=[]
 . subst hS0;have hhp:0<p.hard.length:=(by simpa using hpos);have hsl2:=qrj (H.length+1) p.hard.length hhp;have hpa:zx Z 0 (p.hard.flatMap qp)=p.hard.flatMap qp:=putAt_all _ _ (by rw[hZl,hAl];simp);rw[hpa]at hc1;simp only[qB0,qCB,qCy,Int.add_zero]at hw hnz hle hge htn hZ hc1 hmk;simp only[qBN]at hs;simp only[qBU,qB0,qCB]at k0;generalize p.hard.flatMap qp=FE at *;simp;refine qFz hs (by simp) ?_;simp[hw,hle,hge,qBv.1 hhp,hmk,qD,<- hZ,hc1,hsl2,show ∀U:St,kE (Dof prog) U 23 (.sl 4 [] .none) (.sl 4 [] .none)=some (.int .i64 0,U) from fun U=>by simp[kE,qbG]];exact k0 _ _
 have hSp:=qBv.2 hS0;have hsl2:zl (.ms (H.length+1) 0 (p.hard.length+S.length) 4) (some (.int .i64 p.hard.length)) none none=some (.ms (H.length+1) (p.hard.length*4) S.length 4):=by
  rw[quF _ _ _ (by omega),show p.hard.length+S.length-p.hard.length=S.length by omega]
 have hc2:∀B0:Blk,kE (Dof prog) ⟨H++[B0,.cells (zx Z 0 (p.hard.flatMap qp))],T⟩ 23 (.ms (H.length+1) (p.hard.length*4) S.length 4) (.sl 4 (S.map qp) .none)=some (.int .i64 S.length,⟨H++[B0,.cells ((p.hard++S).flatMap qp)],T⟩):=fun B0=>by
  simp[kE,qbG,qpP,hS0,show(S.map qp).take S.length=S.map qp from qBh (by simp),show(S.map qp).flatten=S.flatMap qp by rw[qCF],show(zx Z 0 (p.hard.flatMap qp)).length=(p.hard.length+S.length)*4 by rw[KM,hZl],show p.hard.length*4+S.length*4<=(p.hard.length+S.length)*4 by omega,-List.flatMap_append,h2,ls]
 generalize (p.hard++S).flatMap qp=FE at *;generalize zx Z 0 (p.hard.flatMap qp)=Z1 at *;generalize p.hard++S=PS at *;simp;refine qFz hs (by simp) ?_;simp[hw,hnz,hle,hge,hmk,qD,htn,<- hZ,hc1,hsl2,hc2];exact k0 hne2 _ _
def qgI{α:Type}{sz:Nat}{en:α->List AV}(hl:∀x,(en x).length=sz):∀{l:List α}{i:Nat}{v:α},l[i]?=some v->((l.flatMap en).drop (i*sz)).take sz=en v
 |[],i,v,h=>by simp at h
 | a::r,0,v,h=>by
  simp at h;subst h;rw[qBC,qCY,qCq,qCo (by rw[hl];exact qBl _),qBh (by rw[hl];exact qBl _)]
 | a::r,i+1,v,h=>by
  have ih:=qgI hl (l:=r) (i:=i) (v:=v) (by simpa using h);have e:(i+1)*sz=sz+i*sz:=by rw[qDB,qDi]
  rw[qBC,e,qC6,qBS (by rw[hl];omega),hl,qBy,qCk,ih]
def qqL(b:Nat)(H:List Blk)(v:AV)(l:List Ex):Prop:=(l=[]/\v=.sl 4 [] .tight)\/(l≠[]/\v=.ms b 0 l.length 4/\H[b]?=some (.cells (l.flatMap qp)))
def qqL.append{b H T v l}(h:qqL b H v l)(x)(hl:l.length<=1000000):
 ∃H',zr (Dof prog) ⟨H,T⟩ 23 23 v (.sl 4 [qp x] .tight)=some (.ms H.length 0 (l.length+1) 4,⟨H',T⟩)/\qqL H.length H' (.ms H.length 0 (l.length+1) 4) (l++[x])/\(∀(k) (y),H[k]?=some y->(l=[]\/k≠b)->H'[k]?=some y)/\H.length<=H'.length:=by
 rcases h with⟨rfl,rfl⟩|⟨hne,rfl,hb⟩
 . refine⟨H++[.cells (qp x)],?_,?_,fun k y hk _=>qd hk _,by simp⟩
   . simp[zr,zY,YM,qR]
   . exact .inr ⟨by simp,by simp⟩
 have h1:l.length+1<=549755813888:=by omega
 have hfl:=Go.Abs.ju (sz:=4) zj l;have hle:l.length*4<=(l.flatMap qp).length:=by omega
 refine⟨H.set b .dead++[.cells (l.flatMap qp++qp x)],?_,?_,fun k y hk hkb=>?_,by simp⟩
 . rw[hfl]at hle;simp[zr,zY,YM,qR,hb,h1,show(l.flatMap qp).take (l.length*4)=l.flatMap qp from qBh (by omega),hfl]
 . exact .inr ⟨by simp,by simp⟩
 exact qd (by rw[qBd (Ne.symm (hkb.resolve_left hne))];exact hk) _
def qqL.len{b H v l}(h:qqL b H v l)(U):YT (Dof prog) U 23 v=some (.int .i64 (l.length:Nat)):=by
 rcases h with⟨rfl,rfl⟩|⟨_,rfl,_⟩<;>simp
def Wf(vs):∀(L) (R),∀q∈yu vs R L,q∈L
 |[],R,q,h=>by simp[yu]at h
 | x::r,R,q,h=>by
  unfold yu at h;split at h
  . rcases qBz.1 h with rfl|h
    . simp
    . exact qCK _ (Wf vs r _ q h)
  exact qCK _ (Wf vs r _ q h)
def Wg(vs):∀(L) (R),(yu vs R L).length<=L.length
 |[],R=>by simp[yu]
 | x::r,R=>by
  unfold yu;split
  . have:=Wg vs r (R++[x.2]);simp;omega
  have:=Wg vs r R;simp;omega
def qnR{l q}(h:q∈Zu l):∃k:Nat,q.1=k/\l[k]?=some q.2:=by
 obtain⟨k,hk⟩:=qBT h;obtain⟨_,h2,h3⟩:=qeB hk;exact⟨_,h2,h3⟩
def qeH{p q}(h:q∈Zv p):∃k:Nat,q.1=k/\p.soft[k]?=some q.2:=qnR (Wf _ _ _ q (by simpa[Zv] using h))
def qa2(p):(Zv p).length<=p.soft.length:=by
 unfold Zv;rw[qEv];exact qB6 (Wg _ _ _) (by rw[qaR];exact qBl _)
noncomputable def qm(p:Problem):List Ex×Int :=
 if qg p=0 then(if jK p.vars (zw p)=true then(qjM p,0) else([],11)) else([],1)
def wV(p):(qm p).2=(yS p).2:=by
 unfold qm yS;split
 . split<;>rfl
 rfl
def Qd{p}(h:(yS p).2=0):qg p=0/\jK p.vars (zw p)=true/\qm p=(zw p++(Zv p).map (·.2),0)/\(yS p).1=(Zv p).map (·.1):=by
 unfold yS at h;split at h
 . rename_i hv;split at h
   . rename_i hs;have hn:zw p=qeD p:=by
      show p.hard++jJ p=_;rw[jJ,if_pos hv];rfl
     refine⟨hv,hs,?_,?_⟩
     . unfold qm qjM;rw[if_pos hv,if_pos hs,hn]
     unfold yS Zv;rw[if_pos hv,if_pos hs,hn]
   simp at h
 simp at h
def qmf(p)(h:VQ p)(hv20:p.vars.length<=20)(hb:kw p.vars (qJ p)<=18)(hd:p.dists.length<=10000)(hs5:p.soft.length<=10000):
 Pure prog GG 40 [.agg (qu p)] (.tup [.sl 4 ((qm p).1.map qp) .none,.int .i64 (qm p).2]):=by
 have hkp:=qmj p h hv20 hb hd hs5;by_cases he:(yS p).2=0
 case neg=>
  have hre:=wV p;have hr0:(qm p).1=[]:=by
   unfold qm yS at *;split
   . rename_i hv;split
     . rename_i hs;rw[if_pos hv,if_pos hs]at he;exact absurd rfl he
     rfl
   rfl
  rw[hr0,hre];refine qFx o0 true qX func40 rfl (by kernel_rfl) ?_;simp only[qu]at hkp;simp;refine qFz hkp (by simp) ?_;simp[he];rw[qs (by simp)];exact⟨by simp,by simp[Leq,zm]⟩
 obtain⟨hv,hs,hrr,hk1⟩:=Qd he;rw[hk1,he]at hkp;rw[hrr];dsimp only;have hkl:=qa2 p;have hka:=fun q (hq:q∈Zv p)=>qeH hq
 generalize hKS:Zv p=KS at *;refine qFx ⟨true,[],[],[]⟩ true qX func40 rfl (by kernel_rfl) ?_;have hnd:=VV p h hd [.cells (qu p)] [];have hknow:=Qj h hv;have h1:=h.hard;have h2:(jJ p).length<=10000:=by
  have:jJ p=wu p:=if_pos hv
  rwa[this,wu,qBM]
 have hNl:(zw p).length<=20000:=by rw[zw,qBe];omega
 obtain⟨RES,hRES⟩:∃RES,RES=zw p++KS.map (·.2):=⟨_,rfl⟩;have hRt:∀e∈RES,(pre e).length<=100000:=fun e hm=>by
  rw[hRES]at hm;rcases qBp.1 hm with hm|hm
  . exact(hknow e (qB1 _ hm)).2.2.2
  obtain⟨q,hq,rfl⟩:=qBA.1 hm;obtain⟨k,_,hk⟩:=hka q hq;exact(hknow q.2 (qCE _ (qBb hk))).2.2.2
 rw[<- hRES];simp only[qu]at hkp hnd;simp;refine qFz hkp (by simp) ?_;simp;refine qFC hnd ?_;rintro v ⟨H1,T1⟩ ⟨hk,hr⟩;have bP:H1[0]?=some (.cells (qu p)):=hk.2 0 _ (by simp[qu]) (by simp);obtain⟨b,ho,hb0⟩:∃b,qqL b H1 v (zw p)/\b≠0:=by
  rcases hr with⟨hn,rfl⟩|⟨b,hne,rfl,hb1,hb2⟩
  . exact⟨1,.inl ⟨hn,rfl⟩,by omega⟩
  exact⟨b,.inr ⟨hne,rfl,hb1⟩,by simp at hb2;omega⟩
 clear hr hk;generalize zw p=N at *;simp;refine qFP KS (fun d ev U=>ev 1=.ptr 0 0/\ev 20=.sl 1 (KS.map fun q=>[AV.int .i64 q.1]) .none/\ev 21=.int .i64 KS.length/\ev 22=.int .i64 d.length/\∃H b T,U=⟨H,T⟩/\H[0]?=some (.cells (qu p))/\b≠0/\qqL b H (ev 6) (N++d.map (·.2))) ?_ ?_ ?_
 . refine⟨by simp,by simp,by simp,by simp,H1,b,T1,rfl,bP,hb0,by simpa using ho⟩
 . rintro d q rest ev U R hR hdl hx hlt ⟨e1,e20,e21,e22,H,b,T,rfl,bP,hb0,ho⟩;have hdw:=wr (n:=(d.length:Int)+1) (by omega) (by omega);have hlt':(d.length:Int)<KS.length:=(by omega);obtain⟨k,hk1,hk2⟩:=hka q (qBb hx);have hkl2:=(qBa.1 hk2).1;obtain⟨H',hap,ho',hkeep,hlen⟩:=ho.append (T:=T) q.2 (by rw[qBe,qBM];omega);have hHl:=(qBa.1 bP).1;have ha:=yP q.2;have hl4:=zj q.2;have htk:(qp q.2).take 4=qp q.2:=qBh (by rw[hl4];exact qBl _);have bP2:=hkeep 0 _ bP (by right;exact Ne.symm hb0);simp only[qu]at bP;generalize hv6:ev 6=v6 at *;simp[-qV,e1,e20,e21,e22,hlt',hx,hk1,hk2,bP,htk,ha,hl4,qe,ql,hap,hv6,hdw];refine hR _ _ ⟨by simp[e1],by simp[e20],by simp[e21],by simp,H',H.length,T,rfl,bP2,by omega,?_⟩;rw[show N++(d++[q]).map (·.2)=N++d.map (·.2)++[q.2] by simp];simpa using ho'
 rintro ev U ⟨e1,e20,e21,e22,H,b,T,rfl,bP,hb0,ho⟩;rw[<- hRES]at ho;have hlen:=ho.len ⟨H,T⟩;have hRl:RES.length<=1000000:=by rw[hRES,qBe,qBM];omega
 generalize hv6:ev 6=v6 at *;simp[-YT,e21,e22,hv6,hlen];refine qFP RES (fun d ev U=>ev 6=v6/\ev 36=.int .i64 RES.length/\ev 37=.int .i64 d.length/\∃H T,U=⟨H,T⟩/\qqL b H v6 RES) ?_ ?_ ?_
 . exact⟨by simp[hv6],by simp,by simp,H,T,rfl,ho⟩
 . rintro d x rest ev U R hR hdl hx hlt ⟨e6,e36,e37,H,T,rfl,ho⟩;have hdw:=wr (n:=(d.length:Int)+1) (by omega) (by omega);have hlt':(d.length:Int)<RES.length:=(by omega);have hcp:=qlt x (hRt x (qBb hx));rcases ho with⟨h0,_⟩|⟨hne,rfl,hbk⟩
   . rw[h0]at hx;simp at hx
   have hfl:=Go.Abs.ju (sz:=4) zj RES;have hl4:=zj x;have ha:=yP x;have hput:zx (RES.flatMap qp) (d.length*4) (qp x)=RES.flatMap qp:=by
    rw[QM zj RES d.length x hlt];have:RES.set d.length x=RES:=by
     apply qCb;intro j;by_cases hj:d.length=j
     . subst hj;rw[qBg hlt,hx]
     rw[qBd hj]
    rw[this]
   have hcut:((RES.flatMap qp).drop (d.length*4)).take 4=qp x:=qgI zj hx;have hfit:d.length*4+4<=RES.length*4:=(by omega);have hset:H.set b (.cells (RES.flatMap qp))=H:=by
    apply qCb;intro j;by_cases hj:b=j
    . subst hj;rw[qBg (qBa.1 hbk).1,hbk]
    rw[qBd hj]
   generalize hFF:RES.flatMap qp=F at *;simp[-qV,e6,e36,e37,hlt',hbk,hfl,hfit,hcut];refine qFz hcp (by simp) ?_;simp[-qV,e37,hlt',hbk,hfl,hfit,hl4,ha,hput,hset,hdw];exact hR _ _ ⟨by simp[e6],by simp[e36],by simp,H,T,rfl,.inr ⟨hne,rfl,by rw[hFF];exact hbk⟩⟩
 rintro ev U ⟨e6,e36,e37,H,T,rfl,ho⟩;simp[e6,e36,e37];rcases ho with⟨h0,rfl⟩|⟨hne,rfl,hbk⟩
 . rw[h0];have hf:frz H 7 (.sl 4 [] .tight)=.sl 4 [] .tight:=qs rfl;exact wJ (by rw[hf];rfl) (by rw[hf];simp[Leq]) (by simp[Leq])
 have hoo:jC b 4 qp H (.ms b 0 RES.length 4) RES:=.inr ⟨hne,rfl,hbk⟩;exact wJ (hoo.frzNo zj (fun x=>nrE x) jw 6) (hoo.frz zj (fun x=>nrE x) jw 6) (by simp)
def qAm(l:List Ex)(H:List Blk)(r:AV)(U':St):Prop:=∃tok,r=.tup [.sl 4 (l.map qp) tok,.int .i64 0]/\(l≠[]\/tok=.tight)/\KpL [] H U'.H
def qps(p)(h:VQ p)(hv20:p.vars.length<=20)(hb:kw p.vars (qJ p)<=18)(hd:p.dists.length<=10000)(hs5:p.soft.length<=10000)(he:(qm p).2=0)(H T):
 qj prog GG 40 [.agg (qu p)] ⟨H,T⟩ (qAm (qm p).1 H):=by
 by_cases hR:(qm p).1=[]
 case neg=>
  refine qj.call (qmf p h hv20 hb hd hs5) (by simp) ?_;rw[he];exact⟨.none,rfl,.inl hR,qF5⟩
 have hkp:=qmj p h hv20 hb hd hs5;rw[wV]at he;obtain⟨hv,hs,hrr,hk1⟩:=Qd he;rw[hrr]at hR;have hR:zw p=[]/\Zv p=[]:=by simpa using hR
 rw[hrr,hR.1,hR.2];rw[hk1,he,hR.2]at hkp;have hnd:=fun H T=>VV p h hd H T
 refine qFy ⟨true,[],[],[]⟩ qX func40 rfl (by kernel_rfl) ?_;simp only[qu]at hkp hnd;simp;refine qFz hkp (by simp) ?_;simp;refine qFC (hnd _ _) ?_;rintro v ⟨H1,T1⟩ ⟨hk,hr⟩;rcases hr with⟨_,rfl⟩|⟨b,hne,_⟩
 case inr=>exact absurd hR.1 hne
 simp;refine qFE (fun m ev U=>ev 6=.sl 4 [] .tight/\ev 21=.int .i64 0/\ev 22=.int .i64 0/\KpL [] H U.H) 0 ⟨by simp,by simp,by simp,qF7.trans hk⟩ ?_;rintro m ev ⟨H2,T2⟩ R hRR ⟨e6,e21,e22,hk2⟩;simp[e6,e21,e22];refine qFE (fun m ev U=>ev 6=.sl 4 [] .tight/\ev 36=.int .i64 0/\ev 37=.int .i64 0/\KpL [] H U.H) 0 ⟨by simp[e6],by simp,by simp,hk2⟩ ?_;rintro m ev ⟨H3,T3⟩ R hRR ⟨e6,e36,e37,hk3⟩;simp[e6,e36,e37];exact⟨.tight,rfl,.inr rfl,hk3⟩
end Go.Proofs.YtafbccendejkeaaGreatDoor
namespace Go.Abs
def jh{α:Type}(f:α->Nat):List α->Nat
 |[]=>0
 |a::r=>f a+jh f r
section
variable {α β:Type}
def Zl(f):∀l m:List α,jh f (l++m)=jh f l+jh f m
 |[],m=>by simp[jh]
 |a::r,m=>by simp only[List.cons_append,jh,Zl f r m];omega
def J7(f:β->Nat)(g:α->List β):∀l:List α,jh f (l.flatMap g)=jh (fun a=>jh f (g a)) l
 |[]=>rfl
 |a::r=>by simp only[List.flatMap_cons,Zl,jh,J7 f g r]
def yc{f g}:∀{l:List α},(∀a∈l,f a=g a)->jh f l=jh g l
 |[],_=>rfl
 |a::r,h=>by simp only[jh];rw[h a (by simp),yc fun x hx=>h x (by simp[hx])]
def qaA(c f):∀l:List α,jh (fun a=>c*f a) l=c*jh f l
 |[]=>by simp[jh]
 |a::r=>by simp only[jh,qaA c f r,Nat.mul_add]
def ZL{f}:∀{l:List α},(∀a∈l,f a=0)->jh f l=0
 |[],_=>rfl
 |a::r,h=>by simp only[jh];rw[h a (by simp),ZL fun x hx=>h x (by simp[hx])]
def qaB{f:α->Nat}{l:List α}{a:α}(h:a∈l):f a<=jh f l:=by
 induction l with
 |nil=>cases h
 | cons b r ih=>
  rcases List.mem_cons.1 h with rfl|h
  . simp only[jh];omega
  have:=ih h;simp only[jh];omega
end
section
variable {α:Type}
end
def lim:Nat:=1099511627777
def sat(n:Nat):Nat:=min n lim
def Ky(n):sat n<=lim:=Nat.min_le_right _ _
def qro(a b):sat (sat a+sat b)=sat (a+b):=by unfold sat lim;omega
def qrn(a b):sat (sat a*sat b)=sat (a*b):=by
 have key:∀x y:Nat,lim<=x->0<y->lim<=x*y:=fun x y hx hy=>Nat.le_trans hx (Nat.le_mul_of_pos_right x hy)
 have top:∀x:Nat,lim<=x->sat x=lim:=fun x h=>Nat.min_eq_right h
 have low:∀x:Nat,x<=lim->sat x=x:=fun x h=>Nat.min_eq_left h
 have lp:0<lim:=by unfold lim;omega
 rcases Nat.eq_zero_or_pos a with rfl|ha0
 . simp[sat]
 rcases Nat.eq_zero_or_pos b with rfl|hb0
 . simp[sat]
 by_cases ha:a<=lim
 . rw[low a ha];by_cases hb:b<=lim
   . rw[low b hb]
   rw[top b (by omega),top (a*lim) (by rw[Nat.mul_comm];exact key _ _ (Nat.le_refl _) ha0),top (a*b) (by rw[Nat.mul_comm];exact key _ _ (by omega) ha0)]
 rw[top a (by omega),top (a*b) (key _ _ (by omega) hb0)];refine top _ (key _ _ (Nat.le_refl _) ?_);unfold sat;omega
def Zp{n}:sat n=0↔n=0:=by unfold sat lim;omega
def quP{n}(h:sat n≠lim):sat n=n:=by unfold sat at *;omega
end Go.Abs
namespace Go.Proofs.YtafbccendejkeaaGreatDoor
open Go Go.Abs Tryz Go.RowKit
def quL{w:Int}(h0:0<=w)(h1:w<=30):IntKind.i64.wrap ((2:Int)^min w.toNat IntKind.i64.bits)=((2^w.toNat:Nat):Int):=by
 have e:min w.toNat IntKind.i64.bits=w.toNat:=qCw (by show w.toNat<=64;omega);rw[e];have:2^w.toNat<=2^30:=qBL (by omega) (by omega);rw[show(2:Int)^w.toNat=((2^w.toNat:Nat):Int) by simp];generalize 2^w.toNat=N at *;exact wr (by omega) (by omega)
def qkC(w):Pure prog GG 260 [.agg (qy w)] (.int .i64 (if w.each=true then 1 else 0)):=by
 refine okzP func260 rfl rfl ?_;cases h:w.each<;>simp[h]
def qvu(w):Pure prog GG 186 [.agg (qy w),.int .u8 115] (.bool (!w.each)):=by
 obtain⟨lo,hi,wt,each⟩:=w;have hk:=qkC ⟨lo,hi,wt,each⟩;refine okzP func186 rfl rfl ?_;cases each
 all_goals
  simp at hk;simp;refine qFz hk rfl ?_;simp;refine qFz hk rfl ?_;simp
def qvv(w):Pure prog GG 186 [.agg (qy w),.int .u8 101] (.bool w.each):=by
 obtain⟨lo,hi,wt,each⟩:=w;have hk:=qkC ⟨lo,hi,wt,each⟩;refine okzP func186 rfl rfl ?_;cases each
 all_goals
  simp at hk;simp;refine qFz hk rfl ?_;simp;refine qFz hk rfl ?_;simp
def qfs(w)(h0:0<=w.lo)(h1:w.lo<=w.hi)(h2:w.hi<=65535):Pure prog GG 188 [.agg (qy w)] (.int .i64 (w.hi-w.lo+1)):=by
 refine okzP func188 rfl rfl ?_;simp[show IntKind.i64.wrap (w.hi-w.lo)=w.hi-w.lo from wr (by omega) (by omega),show IntKind.i64.wrap (w.hi-w.lo+1)=w.hi-w.lo+1 from wr (by omega) (by omega)]
def qiF(N:Int)(w:Weight):Bool:=decide (w.lo<0)||decide (w.hi<w.lo)||decide (N-1<w.hi)||decide (w.weight<0)||decide (1000<w.weight)
def yw(l:List Weight)(width:Int):Int :=
 if width<1\/8<width then 1 else if 16<l.length then 2 else if l.length=0 then 1 else if l.any (qiF ((2^width.toNat:Nat):Int))=true then 1 else 0
def qli(l)(hl:Fits l)(width):Pure prog GG 183 [.sl 4 (l.map qy) .none,.int .i64 width] (.int .i64 (yw l width)):=by
 refine okzP func183 rfl rfl ?_;generalize hr:yw l width=r;unfold yw at hr;by_cases hw:width<1\/8<width
 . rw[if_pos hw]at hr;subst hr;rcases hw with h|h
   . simp[h]
   have:¬width<1:=by omega
   simp[h,this]
 rw[if_neg hw]at hr;have h1:¬width<1:=by omega
 have h2:¬8<width:=by omega
 have hsh:=quL (w:=width) (by omega) (by omega);by_cases hb:16<l.length
 . rw[if_pos hb]at hr;subst hr;have hb':(16:Int)<l.length:=(by omega);simp[h1,h2,hb']
 rw[if_neg hb]at hr;by_cases hz:l.length=0
 . rw[if_pos hz]at hr;subst hr;have hz':=qBo hz;subst hz';simp[h1,h2]
 rw[if_neg hz]at hr;have hNb:2^width.toNat<=2^8:=qBL (by omega) (by omega);have hNp:0<2^width.toNat:=Nat.pow_pos (by omega);generalize 2^width.toNat=N at hr hsh hNb hNp;have hz':l≠[]:=fun e=>hz (by rw[e];rfl)
 simp[h1,h2,show ¬(16:Int)<l.length by omega,hz'];refine qFP l (fun d ev U=>ev 0=.sl 4 (l.map qy) .none/\ev 1=.int .i64 width/\ev 22=.sl 4 (l.map qy) .none/\ev 23=.int .i64 l.length/\ev 24=.int .i64 d.length/\d.any (qiF N)=false) ?_ ?_ ?_
 . simp
 . rintro d w rest ev U R hR hd hx hlt ⟨e0,e1,e22,e23,e24,ha⟩;have hbad:qiF N w=true->r=1:=fun h=>by
    have:l.any (qiF N)=true:=by rw[hd];simp[h]
    rw[if_pos this]at hr;exact hr.symm
   simp[-getElem?_pos,e1,e22,e23,e24,hlt,hx,show ¬width<0 by omega,hsh,show IntKind.i64.wrap ((N:Int)-1)=N-1 from wr (by omega) (by omega),show IntKind.i64.wrap ((d.length:Int)+1)=(d.length+1:Nat) by rw[wr (by omega) (by omega)];omega]
   repeat' first|(with_reducible refine And.intro ?_ ?_)|(intro _)
   all_goals first
    |exact(hbad (by unfold qiF;simp;omega)).symm
    |exact hR _ _ ⟨by simp[e0],by simp[e1],by simp[e22],by simp[e23],by simp,by simp[qiF,ha];omega⟩
 rintro ev U ⟨e0,e1,e22,e23,e24,ha⟩;rw[if_neg (by rw[ha];simp)]at hr;subst hr;simp[e23,e24]
def Yc(l:List Weight)(v:Int):Option Weight:=l.find? fun w=>decide (w.lo<=v)&&decide (v<=w.hi)
def qnN(l)(hl:Fits l)(v):Pure prog GG 185 [.sl 4 (l.map qy) .none,.int .i64 v]
 (match Yc l v with|some w=>.tup [.agg (qy w),.bool true]|none=>.tup [.agg (qy ⟨0,0,0,false⟩),.bool false]):=by
 refine okzP func185 rfl rfl ?_;generalize hr:Yc l v=r;unfold Yc at hr;simp;refine qFP l (fun d ev U=>ev 0=.sl 4 (l.map qy) .none/\ev 1=.int .i64 v/\ev 4=.ptr 0 0/\ev 8=.sl 4 (l.map qy) .none/\ev 9=.int .i64 l.length/\ev 10=.int .i64 d.length/\(∃t,U=⟨.cells (qy ⟨0,0,0,false⟩)::t,[]⟩)/\∀w∈d,¬(w.lo<=v/\v<=w.hi)) ?_ ?_ ?_
 . simp
 . rintro d w rest ev U R hR hd hx hlt ⟨e0,e1,e4,e8,e9,e10,⟨t,rfl⟩,ha⟩;by_cases hc:w.lo<=v/\v<=w.hi
   . have:r=some w:=by
      rw[<- hr,hd,qEK,qDJ.2 (fun x hx=>by have:=ha x hx;simp;omega)];simp[hc]
     subst this;simp[-getElem?_pos,e1,e4,e8,e9,e10,hlt,hx,hc]
   have hgo:=hR;simp[-getElem?_pos,e1,e4,e8,e9,e10,hlt,hx,show IntKind.i64.wrap ((d.length:Int)+1)=(d.length+1:Nat) by rw[wr (by omega) (by omega)];omega]
   repeat' first|(with_reducible refine And.intro ?_ ?_)|(intro _)
   all_goals first
    |(exfalso;omega)
    | exact hR _ _ ⟨by simp[e0],by simp[e1],by simp[e4],by simp[e8],by simp[e9],by simp,⟨_,rfl⟩,fun x hx=>by
     rcases qBp.1 hx with h|h
     . exact ha x h
     simp at h;subst h;exact hc⟩
 rintro ev U ⟨e0,e1,e4,e8,e9,e10,⟨t,rfl⟩,ha⟩;have:r=none:=by
  rw[<- hr,qDJ];intro x hx;have:=ha x hx;simp;omega
 subst this;simp[-getElem?_pos,e4,e9,e10]
def wsz(w:Weight):Nat:=(w.hi-w.lo+1).toNat
def WOk(l:List Weight):Prop:=∀w∈l,0<=w.lo/\w.lo<=w.hi/\w.hi<=255/\0<=w.weight/\w.weight<=1000
def v8{l width}(h:yw l width=0):WOk l/\l.length<=16/\l≠[]:=by
 unfold yw at h;split at h
 . cases h
 rename_i hw;split at h
 . cases h
 split at h
 . cases h
 rename_i h1 h2;split at h
 . cases h
 rename_i hb;refine⟨fun w hw=>?_,by omega,fun e=>h2 (by rw[e];rfl)⟩;have hNb:2^width.toNat<=2^8:=qBL (by omega) (by omega);generalize 2^width.toNat=N at *;simp only[qBJ,not_exists,not_and,Bool.not_eq_true]at hb;have:=hb w hw;unfold qiF at this;simp at this;omega
def zK:List Weight->Nat->Int×Int
 |[],s=>(s,0)
 |w::r,s=>if w.each=true then zK r s else if Nat.lcm s (wsz w)<9223372036854775808 then zK r (Nat.lcm s (wsz w)) else(0,3)
def Y8{w}(h:w.lo<=w.hi):0<wsz w:=by unfold wsz;omega
def qm4(l)(hl:l.length<=1000)(hw:WOk l):Pure prog GG 184 [.sl 4 (l.map qy) .none] (.tup [.int .i64 (zK l 1).1,.int .i64 (zK l 1).2]):=by
 refine okzP func184 rfl rfl ?_;generalize hr:zK l 1=r;simp;refine qFP l (fun d ev U=>ev 0=.sl 4 (l.map qy) .none/\ev 8=.sl 4 (l.map qy) .none/\ev 9=.int .i64 l.length/\ev 10=.int .i64 d.length/\∃s:Nat,ev 4=.int .i64 s/\0<s/\s<9223372036854775808/\zK (l.drop d.length) s=r) ?_ ?_ ?_
 . exact⟨by simp,by simp,by simp,by simp,1,by simp,by omega,by omega,by simpa using hr⟩
 . rintro d w rest ev U R hR hd hx hlt ⟨e0,e8,e9,e10,s,e4,hs0,hs1,hsc⟩;have hdw:IntKind.i64.wrap ((d.length:Int)+1)=(d.length+1:Nat):=(by rw[wr (by omega) (by omega)];omega);obtain⟨w0,w1,w2,w3,w4⟩:=hw w (qBb hx);rw[show l.drop d.length=w::l.drop (d.length+1) by rw[hd];simp]at hsc;have hwp:=Y8 w1;have hsz:(wsz w:Int)=w.hi-w.lo+1:=(by unfold wsz;omega);have h1:=qvu w;have h2:=qfs w w0 w1 (by omega);have h3:=qvo s (wsz w) hs0 hwp hs1 (by omega);rw[hsz]at h3;have hlp:=Nat.lcm_pos hs0 hwp;have hgo:∀(s':Nat) (ev':Env) (U':St),0<s'->s'<9223372036854775808->zK (l.drop (d.length+1)) s'=r->ev' 0=.sl 4 (l.map qy) .none->ev' 8=.sl 4 (l.map qy) .none->ev' 9=.int .i64 l.length->ev' 10=.int .i64 (d.length+1:Nat)->ev' 4=.int .i64 s'->R ev' U':=fun s' ev' U' a1 a2 a3 a4 a5 a6 a7 a8=>
    hR _ _ ⟨a4,a5,a6,by simpa using a7,s',a8,a1,a2,by simpa using a3⟩
   obtain⟨lo,hi,wt,each⟩:=w;simp[-getElem?_pos,e8,e9,e10,hlt,hx];refine qFz h1 rfl ?_;cases each
   . simp only[zK,qBE,if_false]at hsc;simp[e4];refine qFz h2 rfl ?_;simp;refine qFz h3 rfl ?_;generalize Nat.lcm s (wsz ⟨lo,hi,wt,false⟩)=L at hsc hlp⊢;by_cases hL:L<9223372036854775808
     . rw[if_pos hL]at hsc;simp[Yg,hL,e10,hdw];exact hgo L _ _ hlp hL hsc (by simp[e0]) (by simp[e8]) (by simp[e9]) (by simp) (by simp)
     rw[if_neg hL]at hsc;subst hsc;simp[Yg,hL]
   simp only[zK,if_true]at hsc;simp[e10,hdw];exact hgo s _ _ hs0 hs1 hsc (by simp[e0]) (by simp[e8]) (by simp[e9]) (by simp) (by simp[e4])
 rintro ev U ⟨e0,e8,e9,e10,s,e4,hs0,hs1,hsc⟩;rw[qCg]at hsc;simp only[zK]at hsc;subst hsc;simp[e9,e10,e4]
def kj:∀(l) (s),WOk l->0<s->s<9223372036854775808->((zK l s).2=0/\0<(zK l s).1/\(zK l s).1<9223372036854775808)\/zK l s=(0,3)
 |[],s,_,h0,h1=>.inl ⟨rfl,by simp only[zK];omega,by simp only[zK];omega⟩
 | w::r,s,hw,h0,h1=>by
  have hr:WOk r:=fun x hx=>hw x (by simp[hx])
  have hwp:=Y8 (hw w (by simp)).2.1;simp only[zK];split
  . exact kj r s hr h0 h1
  split
  . rename_i h;exact kj r _ hr (Nat.lcm_pos h0 hwp) h
  exact .inr rfl
def vV(l:List Weight)(s:Nat)(v:Int):Int×Int:=match Yc l v with
 |none=>(0,0)
 |some w=>if w.each=true then Yg (w.weight.toNat*s) else Yg (w.weight.toNat*(s/wsz w))
def qiW(l:List Weight)(hl:l.length<=1000)(hw:WOk l)(s:Nat)(hs:s<9223372036854775808)(v:Int):Pure prog GG 129 [.sl 4 (l.map qy) .none,.int .i64 s,.int .i64 v] (.tup [.int .i64 (vV l s v).1,.int .i64 (vV l s v).2]):=by
 have ho:=qnN l (by unfold Fits;omega) v;refine okzP func129 rfl rfl ?_;generalize hr:vV l s v=r;unfold vV at hr;simp;refine qFz ho (by simp) ?_
 cases hf:Yc l v with
 | none=>
  rw[hf]at hr;simp only at hr;subst hr;simp
 | some w=>
  rw[hf]at hr;simp only at hr;obtain⟨w0,w1,w2,w3,w4⟩:=hw w (qES hf);have h1:=qvv w;have h2:=qfs w w0 w1 (by omega);have hwp:=Y8 w1;rw[<- show(wsz w:Int)=w.hi-w.lo+1 by unfold wsz;omega]at h2;obtain⟨k,hk⟩:∃k:Nat,w.weight=k:=⟨w.weight.toNat,by omega⟩;have hm1:=qkk k s (by omega) hs;have hq:s/wsz w<=s:=qCp _ _;have hm2:=qkk k (s/wsz w) (by omega) (by omega);rw[show w.weight.toNat=k by omega]at hr;generalize hz:wsz w=z at *;obtain⟨q,hqe⟩:∃q,s/z=q:=⟨_,rfl⟩;have hdiv:(s:Int).tdiv z=q:=by
   rw[qCG (by omega)];omega
  rw[hqe]at hm2 hr hq;have hqu:=wr (n:=q) (by omega) (by omega);obtain⟨lo,hi,wt,each⟩:=w;simp only at hk;subst hk;cases each
  . simp only[qBE,if_false]at hr;subst hr;simp;refine qFz h1 rfl ?_;simp;refine qFz h2 rfl ?_;simp[show ¬z=0 by omega,hdiv,hqu];refine qFz hm2 rfl ?_;simp
  simp only[if_true]at hr;subst hr;simp;refine qFz h1 rfl ?_;simp;refine qFz hm1 rfl ?_;simp
def qm5(l)(hl:l.length<=1000):Pure prog GG 128 [.sl 4 (l.map qy) .none]
 (.tup [.int .i64 (if yw l 8=0 then(zK l 1).1 else 0),.int .i64 (if yw l 8=0 then(zK l 1).2 else yw l 8)]):=by
 have hv:=qli l (by unfold Fits;omega) 8;refine okzP func128 rfl rfl ?_;simp;refine qFz hv (by simp) ?_;by_cases h:yw l 8=0
 . simp[h];refine qFz (qm4 l hl (v8 h).1) (by simp) ?_;simp
 simp[h]
def zR(l:List Weight)(v:Int):Int×Int :=
 if yw l 8≠0 then(0,yw l 8) else if(zK l 1).2≠0 then(0,(zK l 1).2) else vV l (zK l 1).1.toNat v
def qmw(l)(hl:l.length<=1000)(v):Pure prog GG 76 [.sl 4 (l.map qy) .none,.int .i64 v] (.tup [.int .i64 (zR l v).1,.int .i64 (zR l v).2]):=by
 have hs:=qm5 l hl;refine okzP func76 rfl rfl ?_;generalize hr:zR l v=r;unfold zR at hr;simp;refine qFz hs (by simp) ?_;by_cases h:yw l 8=0
 . have hw:=(v8 h).1;rw[if_neg (by simp[h])]at hr;rcases kj l 1 hw (by omega) (by omega) with⟨h1,h2,h3⟩|h1
   . rw[if_neg (by simp[h1])]at hr;have he:=qiW l hl hw (zK l 1).1.toNat (by omega) v;rw[show(((zK l 1).1.toNat:Nat):Int)=(zK l 1).1 by omega]at he;simp[h,h1];refine qFz he (by simp) ?_;subst hr;simp
   rw[h1]at hr;simp at hr;subst hr;simp[h,h1]
 rw[if_pos h]at hr;subst hr;simp[h]
def Vw(n):sat n=min n 1099511627777:=rfl
def qj3(a b)(ha:a<=lim)(hb:b<=lim):Pure prog GG 138 [.int .i64 a,.int .i64 b] (.int .i64 (sat (a+b):Nat)):=by
 refine okzP func138 rfl rfl ?_;unfold lim at ha hb;have hw:=wr (n:=(a:Int)+b) (by omega) (by omega);have hm:w6 (.int .i64 ((a:Int)+b)) (.int .i64 1099511627777)=some (.int .i64 (sat (a+b):Nat)):=by
  simp only[w6,Vw];congr 2;split<;>omega
 simp[hw,hm]
def qaw(a b)(ha:a<=lim)(hb:b<=lim):Pure prog GG 68 [.int .i64 a,.int .i64 b] (.int .i64 (sat (a*b):Nat)):=by
 refine okzP func68 rfl rfl ?_;unfold lim at ha hb;by_cases h1:a=0
 . subst h1;simp[Vw]
 by_cases h2:b=0
 . subst h2;simp[h1,Vw]
 have hq:(1099511627777:Int).tdiv (b:Int)=((1099511627777/b:Nat):Int):=by
  rw[qCG (by omega)];simp
 have hqle:1099511627777/b<=1099511627777:=qCp _ _;have hwq:IntKind.i64.wrap ((1099511627777/b:Nat):Int)=((1099511627777/b:Nat):Int):=by
  generalize 1099511627777/b=q at *;exact wr (by omega) (by omega)
 have h2':¬(b:Int)=0:=by omega
 by_cases hgt:1099511627777/b<a
 . have hgt':=Int.ofNat_lt.2 hgt;have hs:sat (a*b)=1099511627777:=by
    have:=(qFj (by omega)).1 hgt;rw[Vw];omega
   generalize 1099511627777/b=q at *;simp[-zA,qf9,qpX,h1,h2,hs,show zA .quo .i64 1099511627777 b=some (.int .i64 (q:Int)) by simp only[zA];rw[if_neg h2',hq,hwq],hgt]
 have hgt':¬((1099511627777/b:Nat):Int)<(a:Int):=fun h=>hgt (Int.ofNat_lt.1 h)
 have hle:a*b<=1099511627777:=(Nat.le_div_iff_mul_le (by omega)).1 (by omega);have hww:=wr (n:=(a:Int)*b) (by
  have:(0:Int)<=(a:Int)*b:=by rw[<- Int.natCast_mul];omega
  omega) (by
  rw[<- Int.natCast_mul];omega)
 have hm:w6 (.int .i64 ((a:Int)*b)) (.int .i64 1099511627777)=some (.int .i64 (sat (a*b):Nat)):=by
  simp only[w6,Vw];rw[<- Int.natCast_mul];congr 2;split<;>omega
 generalize hqq:1099511627777/b=q at *;simp[-zA,qf9,qu5,qpX,h1,h2,show zA .quo .i64 1099511627777 b=some (.int .i64 (q:Int)) by simp only[zA];rw[if_neg h2',hq,hwq],hgt,hww,hm]
def ja(n:Nat)(l:List Dist):List (Option (List Weight)):=l.foldl (fun o d=>o.set d.var.toNat (some d.weights)) (List.replicate n none)
def qlh(o:Option (List Weight)):List AV:=match o with
 |none=>[.sl 0 [] .nil]
 |some w=>[.sl 4 (w.map qy) .none]
def ye(n l):(ja n l).length=n:=by
 have:∀(l:List Dist) (o:List (Option (List Weight))),(l.foldl (fun o d=>o.set d.var.toNat (some d.weights)) o).length=o.length:=by
  intro l
  induction l with
  |nil=>intro o;rfl
  |cons a r ih=>intro o;rw[qBP,ih];simp
 unfold ja;rw[this];simp
def K8(n l d):ja n (l++[d])=(ja n l).set d.var.toNat (some d.weights):=by simp[ja,qCe]
def qic{n}:∀{l:List Dist}{w:List Weight},some w∈ja n l->∃d∈l,d.weights=w:=by
 have gen:∀(l:List Dist) (o:List (Option (List Weight))) (w:List Weight),some w∈l.foldl (fun o d=>o.set d.var.toNat (some d.weights)) o->some w∈o\/∃d∈l,d.weights=w:=by
  intro l
  induction l with
  |nil=>intro o w h;exact .inl h
  | cons a r ih=>
   intro o w h;rw[qBP]at h;rcases ih _ w h with h|⟨d,hd,he⟩
   . rcases qDh h with h|h
     . exact .inl h
     . cases h;exact .inr ⟨a,by simp⟩
   exact .inr ⟨d,by simp[hd],he⟩
 intro l w h;rcases gen l _ w h with h|h
 . rw[qC4]at h;cases h.2
 exact h
def WFn(p:Problem)(L LL:Nat)(H:List Blk):Prop:=∃c,H[L]?=some (.cells [c])/\(p.vars≠[]->c=.ms LL 0 p.vars.length 1/\H[LL]?=some (.cells ((ja p.vars.length p.dists).flatMap qlh)))
def qzZ(p:Problem)(H:List Blk)(r:AV)(U':St):Prop:=KpL [] H U'.H/\∃L LL,r=.fn 75 [] [.ptr L 0]/\H.length<=L/\H.length<=LL/\WFn p L LL U'.H
def qlg(o):(qlh o).length=1:=by cases o<;>rfl
def qmx(p)(h:VQ p)(hv:qg p=0)(H T):qj prog GG 42 [.agg (qu p)] ⟨H,T⟩ (qzZ p H):=by
 refine okzA func42 rfl rfl ?_;have hvd:=qd7 hv;have hvl:=h.vars;have hdf:=h.dists;by_cases hv0:p.vars=[]
 . have hd0:p.dists=[]:=by
    apply qCO.2;intro d hd;obtain⟨i,v,_,hi⟩:=hvd d hd;rw[hv0]at hi;simp at hi
   have fin:∀(u:List Blk) (T':List (Option Nat)) (B0:Blk) (c:AV),qzZ p H (.fn 75 [] [.ptr (H.length+1) 0]) ⟨H++B0::.cells [c]::u,T'⟩:=fun u T' B0 c=>⟨qF7,H.length+1,H.length+1,rfl,by omega,by omega,c,lk1,fun hn=>absurd hv0 hn⟩
   simp[hv0,hd0,qD];refine qFE (fun m ev U=>ev 3=.ptr (H.length+1) 0/\ev 12=.int .i64 0/\ev 13=.int .i64 0/\∃B0 c u T',U=⟨H++B0::.cells [c]::u,T'⟩) 0 ⟨by simp,by simp,by simp,_,_,_,_,rfl⟩ ?_;rintro m ev U R hR ⟨e3,e12,e13,B0,c,u,T',rfl⟩;simp[e3,e12,e13];exact fin _ _ _ _
 have hpos:=qBv.2 hv0;have hne:¬(p.vars.length:Int)=0:=by omega
 simp[hv0,show(p.vars.length:Int)<=549755813888 by omega,qD];refine qFP p.dists (fun d ev U=>ev 3=.ptr (H.length+2) 0/\ev 11=.sl 2 (p.dists.map zn) .none/\ev 12=.int .i64 p.dists.length/\ev 13=.int .i64 d.length/\KpL [] H U.H/\U.H[H.length+2]?=some (.cells [.ms (H.length+1) 0 p.vars.length 1])/\U.H[H.length+1]?=some (.cells ((ja p.vars.length d).flatMap qlh))) ?_ ?_ ?_
 . refine⟨by simp,by simp,by simp,by simp,qF7,lk2,?_⟩;have:(ja p.vars.length []).flatMap qlh=List.replicate p.vars.length (.sl 0 [] .nil):=by
    show(List.replicate p.vars.length none).flatMap qlh=_;rw[qCF,qD5];show(List.replicate p.vars.length [AV.sl 0 [] .nil]).flatten=_;simp
   rw[this];exact lk1
 . rintro d x rest ev ⟨H1,T1⟩ R hR hd hx hlt ⟨e3,e11,e12,e13,hkp,b2,b1⟩;have hdw:=wr (n:=(d.length:Int)+1) (by unfold Fits at hdf;omega) (by unfold Fits at hdf;omega);obtain⟨i,v,hi,hvi⟩:=hvd x (qBb hx);have hil:=(qBa.1 hvi).1;have hi1:i+1<=p.vars.length:=hil;have hll:=ye p.vars.length d;have hfl:=Go.Abs.ju (sz:=1) qlg (ja p.vars.length d);rw[hll,Nat.mul_one]at hfl;have hset:((ja p.vars.length d).flatMap qlh).set i (.sl 4 (x.weights.map qy) .none)=(ja p.vars.length (d++[x])).flatMap qlh:=by
    have:=QM qlg (ja p.vars.length d) i (some x.weights) (by omega);rw[K8,hi,qBF,<- this];simp[qlh,zx]
   have hl1:=(qBa.1 b1).1;generalize (ja p.vars.length d).flatMap qlh=F at *;simp[e3,e11,e12,e13,show(d.length:Int)<p.dists.length by omega,hx,qd b2,qd b1,kI b1,hi,show(i:Int)<p.vars.length by omega,hfl,hi1,hset,hdw];refine hR _ _ ⟨by simp[e3],by simp[e11],by simp[e12],by simp,(hkp.setF (by omega)).trans qF7,qd (by rw[qBd (by omega)];exact b2) _,qd (qBg hl1) _⟩
 rintro ev ⟨H1,T1⟩ ⟨e3,e11,e12,e13,hkp,b2,b1⟩;simp[e3,e12,e13];exact⟨hkp,H.length+2,H.length+1,rfl,by omega,by omega,_,b2,fun _=>⟨rfl,b1⟩⟩
