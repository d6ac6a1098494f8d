import Derived.Test.YtimecmegnocamaaGreatDoorPq36
set_option maxHeartbeats 16000000
set_option maxRecDepth 100000
set_option linter.all false
set_option linter.defProp false
namespace Go.Proofs.YtimecmegnocamaaGreatDoor
open Go Go.Abs Tryz
def KF(n):Pure prog GG 305 [.int .i64 n] (.agg (qt (jE n))):=by
 refine qFm qg func305 rfl (by kernel_rfl) ?_;simp[jE,qc,zu,zZ,qP]
def quB{L:List Rg}{r:Rg}{n}:((L++[r]).flatMap wa).set (L.length*2+1) (.int .i64 n)=(L++[(r.1,n)]).flatMap wa:=by
 rw[List.flatMap_append,List.flatMap_append,qBK _ _ (by rw[ju (sz:=2) (fun x=>by simp)];omega),ju (sz:=2) (fun x=>by simp)];have:L.length*2+1-L.length*2=1:=by omega
 rw[this];simp
def qpd(out:List Rg)(n):(vI out n).length<=out.length+1:=by
 unfold vI
 cases h:out.getLast? with
 |none=>simp
 | some r=>
  simp only;split<;>simp
def qc2:∀(l:List Int) (out:List Rg),(l.foldl vI out).length<=out.length+l.length
 |[],out=>by simp
 | n::l,out=>by
  rw[qBw];have:=qc2 l (vI out n);have:=qpd out n;simp;omega
def qjP(l)(hl:l.length<=1000)(hn:∀n∈l,0<=n/\n<=65535):Pure prog GG 250 [.sl 1 (l.map qh) .none] (.sl 2 ((QH l).map wa) .none):=by
 refine qFl ⟨true,[],[],[]⟩ true qg func250 rfl (by kernel_rfl) ?_;have hr:QH l=l.foldl vI []:=rfl;generalize QH l=O at hr;simp;refine qFF l (fun d ev U=>ev 7=.sl 1 (l.map qh) .none/\ev 8=.int .i64 l.length/\ev 9=.int .i64 d.length/\∃H b,U=⟨H,[]⟩/\jr b 2 wa H (ev 3) (d.foldl vI [])) ?_ ?_ ?_
 . exact⟨by simp,by simp,by simp,[],0,by simp,.inl ⟨rfl,by simp⟩⟩
 . rintro d n rest ev U R hR hd hx hlt ⟨e7,e8,e9,H,b,rfl,ho⟩;have hw:=wr (n:=(d.length:Int)+1) (by omega) (by omega);have hlen:(d.foldl vI []).length<=d.length:=(by have:=qc2 d [];simpa using this);have hnn:=hn n (qAV hx);have hwn:=wr (n:=n-1) (by omega) (by omega);have hnext:(d++[n]).foldl vI []=vI (d.foldl vI []) n:=(by simp);generalize d.foldl vI []=L at *;have hgo:∀(ev':Env) H' b',ev' 7=.sl 1 (l.map qh) .none->ev' 8=.int .i64 l.length->ev' 9=.int .i64 (d.length+1:Nat)->jr b' 2 wa H' (ev' 3) (vI L n)->R ev' ⟨H',[]⟩:=fun ev' H' b' a1 a2 a3 a4=>
    hR _ _ ⟨a1,a2,by simpa using a3,H',b',rfl,by rw[hnext];exact a4⟩
   generalize hv3:ev 3=v3 at *
   cases hg:L.getLast? with
   | none=>
    have hL:=qDq.1 hg;have hadd:vI L n=[(n,n)]:=(by subst hL;rfl);obtain⟨v',b',H2,hY,ho2,_,_,_⟩:=ho.appendK (P:=prog) (G:=zl GG) (o:=⟨true,[],[],[]⟩) (T:=[]) (m:=[(n,n)]) (tok:=.tight) qzP rfl qzO rfl (by omega) rfl (by decide) (fun x=>by simp) (by simp;omega);subst hL;rcases ho with⟨_,rfl⟩|⟨h,_⟩
    case inr=>exact absurd rfl h
    simp at hY;simp[-getElem?_pos,hv3,hY,e7,e8,e9,hlt,hx,hw,show IntKind.i64.wrap (-1) = -1 by decide,zu,zZ,qP,qi,qp];exact hgo _ _ _ (by simp[e7]) (by simp[e8]) (by simp) (by rw[hadd];simpa using ho2)
   | some r=>
    obtain⟨L',rfl⟩:=qDr.1 hg;have hLne:L'++[r]≠[]:=(by simp);obtain⟨hv,hb⟩:=ho.at hLne;have hll:(L'++[r]).length=L'.length+1:=(by simp);have hlw:=wr (n:=(L'.length:Int)) (by omega) (by omega);have hf0:(L'.flatMap wa).length=L'.length*2:=ju (sz:=2) (fun x=>by simp) L';have hfe:(L'++[r]).flatMap wa=L'.flatMap wa++[.int .i64 r.1,.int .i64 r.2]:=(by rw[List.flatMap_append];simp);have hfl:((L'++[r]).flatMap wa).drop (L'.length*2+1)=[.int .i64 r.2]:=by
     rw[hfe,qCN,hf0,qBq (by omega),show L'.length*2+1-L'.length*2=1 by omega];rfl
    have hln:((L'++[r]).flatMap wa).length=L'.length*2+2:=(by rw[hfe,qAY,hf0];rfl);have hsetl:=quB (L:=L') (r:=r) (n:=n);have hbl:=(qAU.1 hb).1;rw[hll]at hv;subst hv;have hlt2:(L'.length:Int)<L'.length+1:=(by omega);by_cases hr2:r.2=n-1
    . have hadd:vI (L'++[r]) n=L'++[(r.1,n)]:=(by unfold vI;rw[hg];simp[hr2]);generalize (L'++[r]).flatMap wa=fl at *;simp[-getElem?_pos,hv3,hb,hlt2,hfl,hln,hsetl,hlw,hwn,hr2,hw,e7,e8,e9,hlt,hx];exact hgo _ _ b (by simp[e7]) (by simp[e8]) (by simp) (by
       rw[hadd];exact .inr ⟨by simp,by simp[hv3],by rw[qA0 hbl];simp⟩)
    have hadd:vI (L'++[r]) n=L'++[r]++[(n,n)]:=(by unfold vI;rw[hg];simp[hr2]);obtain⟨v',b',H2,hY,ho2,_,_,_⟩:=ho.appendK (P:=prog) (G:=zl GG) (o:=⟨true,[],[],[]⟩) (T:=[]) (m:=[(n,n)]) (tok:=.tight) qzP rfl qzO rfl (by omega) rfl (by decide) (fun x=>by simp) (by simp at hlen⊢;omega);simp at hY;generalize (L'++[r]).flatMap wa=fl at *;simp[-getElem?_pos,hv3,hb,hlt2,hfl,hln,hsetl,hlw,hwn,hr2,hw,e7,e8,e9,hlt,hx,hY,zu,zZ,qP,qi,qp];exact hgo _ _ b' (by simp[e7]) (by simp[e8]) (by simp) (by rw[hadd];simpa using ho2)
 rintro ev U ⟨e7,e8,e9,H,b,rfl,ho⟩;rw[<- hr]at ho;simp[e8,e9];exact⟨ho.frzNo (fun x=>by simp) (fun x=>by simp) (fun x=>by simp) 7,ho.frz (fun x=>by simp) (fun x=>by simp) (fun x=>by simp) 7⟩
def qnb(s:Str):List AV:=[.int .i64 2,.int .i64 0,.str s,.sl 0 [] .nil]
def ki(d:List Rg):List Ex:=d.flatMap fun r=>[jE r.1,jE r.2]
def qdv(s:Str)(d:List Rg):AV:=match d with
 |[]=>.sl 4 [qnb s] .tight
 |r::q=>.sl 4 (qnb s::(ki (r::q)).map qt) (.chain 0 (2*(q.length+1)))
def ql0(d:List Rg):List (Option Nat):=match d with
 |[]=>[]
 |_::q=>[some (2*(q.length+1))]
def qo8(s)(d:List Rg)(r:Rg)(hl:d.length<=1000)(H):qq (Dof prog) ⟨H,ql0 d⟩ 23 (qdv s d) (.sl 4 [qt (jE r.1),qt (jE r.2)] .tight)=some (qdv s (d++[r]),⟨H,ql0 (d++[r])⟩):=by
 cases d with
 |nil=>simp[qq,qdv,ql0,za,ki]
 | cons a q=>
  have h2:((ki (a::q)).map qt).length+1+2<=549755813888:=by rw[show((ki (a::q)).map qt).length=2*(q.length+1) by rw[qBA,ki,qaB];simp];simp at hl;omega
  show qq (Dof prog) ⟨H,[some (2*(q.length+1))]⟩ 23 (.sl 4 (qnb s::(ki (a::q)).map qt) (.chain 0 (2*(q.length+1)))) _=some (.sl 4 (qnb s::(ki (a::q++[r])).map qt) (.chain 0 (2*((q++[r]).length+1))),⟨H,[some (2*((q++[r]).length+1))]⟩);rw[show ki (a::q++[r])=ki (a::q)++[jE r.1,jE r.2] by simp[ki],<- show 2*(q.length+1)+2=2*((q++[r]).length+1) by simp;omega];generalize (ki (a::q))=N at h2⊢;simp at h2;simp[qq,za,h2]
def WM:∀L:List (List AV),yp L L
 |[]=>by simp
 |a::r=>by simp
def qcQ(s:Str)(l:List Rg)(hl:l.length<=1000):Pure prog GG 306 [.str s,.sl 2 (l.map wa) .none] (.agg (qt (Ql s l))):=by
 refine qFm qg func306 rfl (by kernel_rfl) ?_;simp[zu,zZ,qP,qi,qp];refine qFt l (fun d ev U=>ev 4=.ptr 0 0/\ev 5=qdv s d/\ev 11=.sl 2 (l.map wa) .none/\ev 12=.int .i64 l.length/\ev 13=.int .i64 d.length/\∃t,U=⟨.cells [.int .i64 0,.int .i64 0,.str [],.sl 0 [] .nil]::t,ql0 d⟩) ?_ ?_ ?_
 . exact⟨by simp,by simp[qdv,qnb],by simp,by simp,by simp,[],by simp[ql0]⟩
 . rintro d r rest ev U hd hx hlt ⟨e4,e5,e11,e12,e13,t,rfl⟩;have hw:=wr (n:=(d.length:Int)+1) (by omega) (by omega);have happ:=fun H=>qo8 s d r (by omega) H
   generalize qdv s d=v5 at *;generalize qdv s (d++[r])=v6 at *;have hn:∀n,qt (jE n)=[.int .i64 1,.int .i64 n,.str [],.sl 4 [] .none]:=fun n=>by simp[qc,jE]
   simp only[hn]at happ;have h1:=KF r.1;have h2:=KF r.2;simp only[hn]at h1 h2;simp[-getElem?_pos,e5,e11,e12,e13,hlt,hx];refine qFp h1 rfl ?_;simp;refine qFp h2 rfl ?_;simp[*,qi,qp]
 rintro ev U ⟨e4,e5,e11,e12,e13,t,rfl⟩;obtain⟨R,tok,hv,hR,hnr⟩:∃R tok,qdv s l=.sl 4 R tok/\yp R ((wN s::ki l).map qt)/\qX R=true:=by
  have hx:zm (qnb s) (qt (wN s)):=by rw[qc];simp[qnb,wN,zm,Leq]
  have ha:(qt (wN s)).all AV.atom=true:=by rw[qc];simp[AV.atom]
  cases l with
  |nil=>exact⟨_,_,rfl,by simp only[ki,yp,qA7,qDK,qBy];exact⟨.inr ⟨hx,ha⟩,trivial⟩,by simp[qnb]⟩
  | cons a q=>
   refine⟨_,_,rfl,by simp only[yp,qA7];exact⟨.inr ⟨hx,ha⟩,WM _⟩,?_⟩;have:=quU (ki (a::q));simp only[qX,qA1];exact⟨by simp[qnb],this⟩
 rw[hv]at e5;rw[show qt (Ql s l)=[.int .i64 23,.int .i64 0,.str [],.sl 4 ((wN s::ki l).map qt) .none] by rw[qc];rfl];generalize (wN s::ki l).map qt=R' at hR;simp[*,zu,zZ,qP];cases tok<;>exact⟨by simpa using hnr,by simp[Leq,hR]⟩
def qnu:List (Nat×Sch×List Nat):=[(9,.step 0 [8,7,6] (.step 1 [8,7,6,5] (.step 2 [8,7,6,5,4] (.step 3 [8,7,6,5,4] (.step 4 [8,7,6,5] (.step 5 [8,7,6] (.step 6 [8,7] (.step 7 [8] (.step 8 [] (.done))))))))),[])]
def qu2(k:Nat):wV (.int .i64 16) (.int .i64 (k:Int))=some (.int .i64 ((min 16 k:Nat):Int)):=by
 simp only[wV];congr 2;split<;>omega
@[simp]def qAk(l:List Rg):qX (l.map wa)=true:=zn (fun x=>by simp) l
def qur{r:List Rg}{M}(h:M<=r.length):zk (.sl 2 (r.map wa) .none) none (some (.int .i64 M)) none=some (.sl 2 ((r.take M).map wa) .none):=by
 simp[zk,zR,yT,zT,h]
def qus{r:List Rg}{M}(h:M<=r.length):zk (.sl 2 (r.map wa) .none) (some (.int .i64 M)) none none=some (.sl 2 ((r.drop M).map wa) .none):=by
 simp[zk,zR,yT,zT,h,show(r.map wa).take r.length=r.map wa from qAZ (by simp)]
def qoJ{r:List Rg}:r.take (min 16 r.length)=r.take 16/\r.drop (min 16 r.length)=r.drop 16:=by
 by_cases h:16<=r.length
 . rw[qCq h];exact⟨rfl,rfl⟩
 rw[qEa (by omega),qAZ (by omega),qAZ (by omega),qBq (by omega),qBq (by omega)];exact⟨rfl,rfl⟩
def qmJ(s:Str)(l:List Rg)(hl:l.length<=1000):Pure prog GG 249 [.str s,.sl 2 (l.map wa) .none] (.agg (qt (kf s l))):=by
 refine qFl ⟨false,qnu,[],[]⟩ false qg func249 rfl (by kernel_rfl) ?_;by_cases h0:l=[]
 . subst h0;have hu:kf s []=jE 0:=rfl;have hn:=KF 0;rw[hu];simp only[jE,qc,qFi,Ex.n_mk,qFj,qFk,qBy]at hn⊢;simp;refine qFp hn rfl ?_;simp
 have hpos:=qBf.2 h0;have hm16:=qu2 l.length;have hml:min 16 l.length<=l.length:=qDi _ _;have hl1:=qur (r:=l) hml;have hl2:=qus (r:=l) hml;rw[qoJ.1]at hl1;rw[qoJ.2]at hl2;have hi:=qcQ s (l.take 16) (by simp;omega);have hu:kf s l=Qx s (Ql s (l.take 16)) (z6 16 l.length (l.drop 16)):=if_neg h0;rw[hu];generalize hM:min 16 l.length=M at *;have hQl:(l.drop 16).length<=l.length:=by simp
 have hQ16:(l.drop 16).length<=1000:=by omega
 have near0:=qnO (Ql s (l.take 16));generalize Ql s (l.take 16)=E0 at *;generalize l.take 16=P at *;generalize l.drop 16=Q0 at *;generalize hR:Qx s E0 (z6 16 l.length Q0)=R0 at *;have hE0:=qc E0;simp only[hE0]at hi near0;simp[h0,hm16,hl1];refine qFp hi (by simp) ?_;simp[hl2];refine qFu (fun n ev U=>∃(Q:List Rg) (k:Nat) (c:List AV) (out:Ex) (t:List Blk),n=Q.length/\Q.length<=k/\Q.length<=1000/\ev 0=.str s/\ev 1=.sl 2 (Q.map wa) .none/\ev 4=.ptr 0 0/\ev 6=.ptr 1 0 /\
  U=⟨.cells [.int .i64 0,.int .i64 0,.str [],.sl 0 [] .nil]::.cells c::t,[]⟩/\Near c out/\R0=Qx s out (z6 16 k Q)) Q0.length ?_ ?_
 . exact⟨Q0,l.length,_,E0,[],rfl,hQl,hQ16,by simp,by simp,by simp,by simp,by simp,near0,hR.symm⟩
 rintro n ev U R hRR ⟨Q,k,c,out,t,rfl,hk,hq,e0,e1,e4,e6,rfl,hnear,hres⟩;obtain⟨c0,c1,c2,c3,rfl⟩:=hnear.four;have hac:=qma hnear.atoms;have f0:=fun H=>(hnear.fin H).1
 have f1:=fun H=>(hnear.fin H).2.1
 have f2:=fun H=>(hnear.fin H).2.2.1
 have f3:=fun H=>(hnear.fin H).2.2.2
 have hnr:=hnear.nr;have hleq:=hnear.leq;by_cases hQ:Q=[]
 . subst hQ;rw[show z6 16 k ([]:List Rg)=[] by cases k<;>simp[z6]]at hres;have hres:=hres;rw[hres];simp[-qZ,-fin,-yb,-yP,hac,f0,f1,f2,f3,e1,e4,e6];simp only[qw,qA1,and_true]at hnr;exact⟨hnr,hleq⟩
 have hQp:=qBf.2 hQ;have hm16:=qu2 Q.length;have hml:min 16 Q.length<=Q.length:=qDi _ _;have hl1:=qur (r:=Q) hml;have hl2:=qus (r:=Q) hml;rw[qoJ.1]at hl1;rw[qoJ.2]at hl2;have hi:=qcQ s (Q.take 16) (by simp;omega);generalize min 16 Q.length=M at *;obtain⟨k,rfl⟩:∃k',k=k'+1:=⟨k-1,by omega⟩;rw[z6,if_neg hQ]at hres;have hres:R0=Qx s (orE out (Ql s (Q.take 16))) (z6 16 k (Q.drop 16)):=hres;have hdl:(Q.drop 16).length=Q.length-16:=by simp
 generalize Q.take 16=P at *;generalize Q.drop 16=Q' at *;simp[e1,e4,e6,hQ,hm16];rw[qU rfl];simp[-qZ,zg,e0,e1,e6,hl1];intro _;have ha2:=yN (Ql s P);have hnr2:=nrE (Ql s P);have hl4:=zo (Ql s P);have nn:Near [.int .i64 20,.int .i64 0,.str [],.sl 4 [[c0,c1,c2,c3],qt (Ql s P)] .tight] (orE out (Ql s P)) :=
  qrZ (Qh hnear.row (Qh (.inl rfl) qgd)) (by simp only[qX,qC2,qA1];exact⟨hnear.nr,hnr2⟩)
 generalize qt (Ql s P)=W at *;generalize orE out (Ql s P)=O2 at *;refine qFp hi (by simp) ?_;simp[-qZ,hac,ha2,hl4,zg,e1,e6,hl2,zu,zZ,qP,zA,qi,qp];exact hRR Q'.length _ _ (by omega) ⟨Q',k,_,O2,t,rfl,by omega,by omega,by simp[e0],by simp,by simp[e4],by simp[e6],rfl,nn,hres⟩
def qc9{α}(p):∀(l:List α) (i:Nat),(zq p l i = -1/\l.find? p=none)\/∃k w,zq p l i=((i+k:Nat):Int)/\l[k]?=some w/\l.find? p=some w
 |[],i=>.inl ⟨rfl,rfl⟩
 | a::r,i=>by
  by_cases h:p a=true
  . exact .inr ⟨0,a,by simp[zq,h],by simp,by simp[h]⟩
  have ih:=qc9 p r (i+1);have e:zq p (a::r) i=zq p r ((i+1:Nat):Int):=by simp[zq,h]
  rw[e];rcases ih with⟨h1,h2⟩|⟨k,w,h1,h2,h3⟩
  . exact .inl ⟨h1,by simp[h,h2]⟩
  exact .inr ⟨k+1,w,by rw[h1];congr 1;omega,by simpa using h2,by simp[h,h3]⟩
def qyM(w n):Pure prog GG 248 [.agg (qz w),.rptr [.int .i64 n]] (.bool (inW n w)):=by
 refine qFm qg func248 rfl (by kernel_rfl) ?_;unfold inW;by_cases h:w.lo<=n<;>simp[-getElem?_pos,h]
def qqn(H s n)(hs:s.length<2^30):qq (Dof prog) ⟨H,jY [] s⟩ 28 (ww 1 qh 0 s) (.sl 1 [[.int .i64 n]] .tight)=some (ww 1 qh 0 (s++[n]),⟨H,jY [] (s++[n])⟩) :=
 ya (D:=Dof prog) (sz:=1) (T:=[]) (H:=H) (m:=[n]) (en:=qh) D28 rfl D3 rfl (by decide) rfl (by decide) (by simp only[qBo];omega) 1 (.inl rfl)
def qnB:List (Nat×Sch×List Nat):=[(10,.step 0 [5,4,1] (.step 1 [5,4] (.step 2 [5,4,3] (.step 3 [5,4] (.step 4 [5] (.step 5 [] (.done)))))),[])]
def qhn(p:Problem)(d:Dist)(v:Var)(i:Nat)(hi:d.var=i)(hv:p.vars[i]?=some v)(hvl:p.vars.length<=1000)(hw0:0<=v.width)(hw8:v.width<=8)(hf:Fits d.weights):
 Pure prog GG 169 [.agg (qA p),.agg (zs d)] (.agg (qt (vM p.vars d))):=by
 refine qFl ⟨false,qnB,[],[]⟩ false qg func169 rfl (by kernel_rfl) ?_;have hs:=wG (w:=v.width) hw0 (by omega);have hsz:=Yy hw8;have hok:=qam v d.weights;have hrk:=qec (N:=(zU v:Nat)) hok.1 (fun x hx=>by have:=hok.2 x hx;omega) (by omega);have hsl:(Zz v d.weights).length<=1000:=by
  have:(Zz v d.weights).length<=zU v:=by unfold Zz;exact qBN (qC6 _ _) (by simp)
  omega
 have hrg:=qjP (Zz v d.weights) hsl (fun n hn=>by have:=hok.2 n hn;omega);have hun:=qmJ v.name (QH (Zz v d.weights)) (by omega);have hsn:Zz v d.weights=(qcs v.width).filter (vO d.weights):=rfl;rw[show vM p.vars d=kf v.name (QH (Zz v d.weights)) by unfold vM;rw[hi,qBu,hv]];generalize kf v.name (QH (Zz v d.weights))=U_ at *;generalize QH (Zz v d.weights)=RG at *;rw[hsn]at hrg;have hlen:=qj8 v.width;have hget:∀{d r:List Int} {x:Int},qcs v.width=d++x::r->x=d.length:=qj9;have hil:=(qAU.1 hv).1;have hszd:zU v=2^v.width.toNat:=rfl;rw[<- hszd]at hs hlen;generalize hN:zU v=N at *;generalize qcs v.width=nums at *;have hE:=qc U_;simp only[hE]at hun⊢;simp[-getElem?_pos,hi,hv,show ¬v.width<0 by omega,IntKind.bits,hs];refine qFF nums (fun dd ev U=>ev 3=.ptr 1 0/\ev 4=.ptr 2 0/\ev 5=.ptr 3 0/\ev 6=ww 1 qh 0 (dd.filter (vO d.weights))/\ev 17=.int .i64 N/\ev 18=.int .i64 dd.length/\∃H,U=⟨H,jY [] (dd.filter (vO d.weights))⟩ /\
  H[1]?=some (.cells [.int .i64 i,.sl 4 (d.weights.map qz) .none])/\H[2]?=some (.cells [.int .i64 0,.int .i64 0,.str [],.sl 0 [] .nil])/\H[3]?=some (.cells (qM v))/\qw [AV.int .i64 0]=true) ?_ ?_ ?_
 . exact⟨by simp,by simp,by simp,by simp,by simp,by simp,_,by simp;rfl,by simp⟩
 . rintro dd n rest ev U R hR hd hx hlt ⟨e3,e4,e5,e6,e17,e18,H,rfl,H1,H2,H3,_⟩;have hnd:=hget hd;subst hnd;have hw:=wr (n:=(dd.length:Int)+1) (by omega) (by omega);have hfs:=qeI (vO d.weights) dd (dd.length:Int);have hfl:(dd.filter (vO d.weights)).length<2^30:=qB3 (qC6 _ _) (by omega);have hgo:∀(ev':Env) H' (L:List Int),L=(dd++[(dd.length:Int)]).filter (vO d.weights)->ev' 3=.ptr 1 0->ev' 4=.ptr 2 0->ev' 5=.ptr 3 0->ev' 6=ww 1 qh 0 L->ev' 17=.int .i64 N->ev' 18=.int .i64 (dd.length+1:Nat)->(∃u,H'=H++u)->R ev' ⟨H',jY [] L⟩:=by
    rintro ev' H' L rfl a3 a4 a5 a6 a17 a18 ⟨u,rfl⟩;exact hR _ _ ⟨a3,a4,a5,a6,a17,by simpa using a18,_,rfl,qf H1 u,qf H2 u,qf H3 u,rfl⟩
   simp[-getElem?_pos,e3,e17,e18,show dd.length<N by omega,qf H1,qf H3];refine qFr (Qm GG d.weights (inW dd.length) 248 [] [.rptr [.int .i64 dd.length]] hf rfl (by simp) fun w _=>qyM w dd.length) rfl ?_ ?_
   . simp[frz]
   have hff:=qc9 (inW dd.length) d.weights 0;simp only[qCC]at hff;rcases hff with⟨k1,k2⟩|⟨k,w,k1,k2,k3⟩
   . have hp:vO d.weights dd.length=false:=(by unfold vO;rw[k2]);have k1:zq (inW dd.length) d.weights 0 = -1:=k1;rw[k1];rw[hp]at hfs;simp only[qBz,if_false]at hfs;simp[-getElem?_pos,e18,hw];exact hgo _ _ _ hfs.symm (by simp[e3]) (by simp[e4]) (by simp[e5]) (by simp[e6]) (by simp[e17]) (by simp) ⟨_,rfl⟩
   have k1:zq (inW dd.length) d.weights 0=(k:Nat):=k1;have hkl:=(qAU.1 k2).1;rw[k1];by_cases hp0:0<w.weight
   . have hp:vO d.weights dd.length=true:=(by unfold vO;rw[k3];simpa using hp0);rw[if_pos hp]at hfs;simp[-getElem?_pos,e3,e6,e18,hw,qf H1,k2,hp0,qqn _ _ _ hfl];exact hgo _ _ _ hfs.symm (by simp[e3]) (by simp[e4]) (by simp[e5]) (by simp) (by simp[e17]) (by simp) ⟨_,rfl⟩
   have hp:vO d.weights dd.length=false:=(by unfold vO;rw[k3];simpa using hp0);rw[hp]at hfs;simp only[qBz,if_false]at hfs;simp[-getElem?_pos,e3,e18,hw,qf H1,k2,hp0];exact hgo _ _ _ hfs.symm (by simp[e3]) (by simp[e4]) (by simp[e5]) (by simp[e6]) (by simp[e17]) (by simp) ⟨_,rfl⟩
 rintro ev U ⟨e3,e4,e5,e6,e17,e18,H,rfl,H1,H2,H3,_⟩;rw[hlen]at e18;have H2l:=(qAU.1 H2).1;simp[-getElem?_pos,e17,e18];rw[qU rfl];simp[-getElem?_pos,zg,e5,e6,H3];refine qFq hrg (by simp only[qA7,qBy,QJ,qw,qC2];exact VG (fun x=>by simp)) (by simp only[qA7,qBy,QJ,zm,and_true];exact qgc) ?_;simp[-getElem?_pos,zg,H3];refine qFp hun (by simp) ?_;simp[-getElem?_pos,zg,e4,H2,H2l]
def qdY{p}(h:qo p=0):∀d∈p.dists,∃(i:Nat) (v:Var),d.var=i/\p.vars[i]?=some v:=by
 have hd:yB p.vars p.dists=0:=by
  unfold qo at h;split at h
  . exact absurd h (by assumption)
  split at h
  . rename_i h1;exact absurd h h1
  split at h
  . rename_i h1;exact absurd h h1
  rename_i h1;exact qB1.1 h1
 intro d hm;obtain⟨k,hk⟩:=qBB hm;have hkl:=(qAU.1 hk).1;unfold yB at hd;have:=zF.1 hd k (by simp;omega);unfold jT at this;rw[hk]at this;simp only at this;split at this
 . cases this
 rename_i hr;have hr:yO p.vars d.var=true:=by simpa using hr
 simp only[yO,qA1,decide_eq_true_eq]at hr;obtain⟨j,hj⟩:=qBe hr.1;rw[hj]at hr;simp only[qBu]at hr
 cases hv:p.vars[j]? with
 |none=>rw[hv]at hr;simp at hr
 |some v=>exact⟨j,v,hj,hv⟩
noncomputable def jF(p:Problem):List Ex:=if qo p=0 then wk p else []
def JR(p)(h:VQ p)(hd:p.dists.length<=10000):Pure prog GG 117 [.agg (qA p)] (.sl 4 ((jF p).map qt) .none):=by
 refine qFm qg func117 rfl (by kernel_rfl) ?_;have hval:=ka p h;simp only[qA]at hval;by_cases hv:qo p=0
 case neg=>
  have:jF p=[]:=if_neg hv;rw[this];simp;refine qFp hval (by simp) ?_;simp[hv,Leq]
 have hs:jF p=p.dists.map (vM p.vars):=if_pos hv;rw[hs];simp;refine qFp hval (by simp) ?_;simp[hv,qG,show(p.dists.length:Int)<=549755813888 by omega];have hvd:=qdY hv;refine qFF p.dists (fun d ev U=>ev 1=.ptr 0 0/\ev 3=.sl 4 ((d.map (vM p.vars)).map qt) (.chain 0 d.length)/\ev 14=.sl 2 (p.dists.map zs) .none/\ev 15=.int .i64 p.dists.length/\ev 16=.int .i64 d.length/\∃t,U=⟨.cells (qA p)::t,[some d.length]⟩) ?_ ?_ ?_
 . exact⟨by simp,by simp,by simp,by simp,by simp,[],by simp⟩
 . rintro d x rest ev U R hR hd2 hx hlt ⟨e1,e3,e14,e15,e16,t,rfl⟩;have hdw:=wr (n:=(d.length:Int)+1) (by omega) (by omega);have hm:=qAV hx;obtain⟨i,v,hi,hvi⟩:=hvd x hm;have hvw:=zi (jd hv v (qAV hvi));have hsup:=qhn p x v i hi hvi h.vars (by omega) (by omega) (h.weights x hm);have hsn:(d++[x]).map (vM p.vars)=d.map (vM p.vars)++[vM p.vars x]:=(by simp);have hml:(d.map (vM p.vars)).length=d.length:=(by simp);have ha:=yN (vM p.vars x);have hl4:=zo (vM p.vars x);generalize vM p.vars x=X at *;generalize d.map (vM p.vars)=D at *;have happ:∀H,qq (Dof prog) ⟨H,[some d.length]⟩ 23 (.sl 4 (D.map qt) (.chain 0 d.length)) (.sl 4 [qt X] .tight)=some (.sl 4 ((D++[X]).map qt) (.chain 0 (d.length+1)),⟨H,[some (d.length+1)]⟩):=fun H=>by
    simp[qq,za,show D.length+1<=549755813888 by omega]
   simp only[qA]at hsup;simp[-getElem?_pos,-qZ,e1,e3,e14,e15,e16,hlt,hx];refine qFp hsup (by simp) ?_;simp[-qZ,ha,hl4,e16,hdw,qi,qp,happ];refine hR _ _ ⟨by simp[e1],by rw[hsn];simp,by simp[e14],by simp[e15],by simp,t++[.cells (zs x)],?_⟩;simp
 rintro ev U ⟨e1,e3,e14,e15,e16,t,rfl⟩;have hn:=quU (p.dists.map (vM p.vars));rw[qCo]at hn;simp[e3,e15,e16,hn]
def Kx:∀(new c) (off),(zA c off new).length=c.length
 |[],c,off=>rfl
 |v::r,c,off=>by rw[zA,Kx r];simp
def qci(A B Z)(h:Z.length=A.length+B.length):zA (zA Z 0 A) A.length B=A++B:=by
 obtain⟨Z1,Z2,rfl,h1⟩:∃Z1 Z2,Z=Z1++Z2/\Z1.length=A.length:=⟨Z.take A.length,Z.drop A.length,(qBF _ _).symm,by rw[qBG];omega⟩;rw[vn A Z1 Z2 h1];have:=Qb (c:=Z2) B A 0;rw[qCy]at this;rw[this,putAt_all Z2 B (by simp at h;omega)]
def qx2(N k)(h:k<N):zk (.ms 1 0 N 4) (some (.int .i64 (k:Int))) none none=some (.ms 1 (k*4) (N-k) 4):=by
 show(if(0:Int)<=k/\(k:Int)<=N/\(N:Int)<=N/\((k:Int)=0\/(k:Int)<N) then some (AV.ms 1 (0+(k:Int).toNat*4) ((N:Int).toNat-(k:Int).toNat) 4) else if(k:Int)=N/\(N:Int)=N then some (.sl 4 [] .none) else none)=_;rw[if_pos ⟨by omega,by omega,by omega,by omega⟩];simp
def qun(N)(h:0<N):zk (.ms 1 0 N 4) (some (.int .i64 (N:Int))) none none=some (.sl 4 [] .none):=by
 show(if(0:Int)<=N/\(N:Int)<=N/\(N:Int)<=N/\((N:Int)=0\/(N:Int)<N) then some (AV.ms 1 (0+(N:Int).toNat*4) ((N:Int).toNat-(N:Int).toNat) 4) else if(N:Int)=N/\(N:Int)=N then some (.sl 4 [] .none) else none)=_;rw[if_neg (by omega),if_pos ⟨rfl,rfl⟩]
noncomputable def zy(p:Problem):List Ex:=p.hard++jF p
def KK(p)(h:VQ p)(hd:p.dists.length<=10000):Pure prog GG 67 [.agg (qA p)] (.sl 4 ((zy p).map qt) .none):=by
 refine qFl o0 true qg func67 rfl (by kernel_rfl) ?_;have hs:=JR p h hd;have hh:=h.hard;have hsl:(jF p).length<=10000:=by
  unfold jF;split
  . simp[wk,hd]
  simp
 have hn:zy p=p.hard++jF p:=rfl;rw[hn];generalize jF p=S at *;simp only[qA]at hs;have hw:=wr (n:=(p.hard.length:Int)+S.length) (by omega) (by omega);by_cases h0:p.hard=[]/\S=[]
 . obtain⟨h1,h2⟩:=h0;subst h2;rw[h1]at hs hw⊢;simp[h1];refine qFp hs (by simp) ?_;simp[show IntKind.i64.wrap 0=0 by decide,qG,kq,qbu,zk,zR,yT,zT];have hfc:∀H,frz H 8 (.sl 4 [] (.chain 0 0))=.sl 4 [] .none:=fun H=>by rw[frz];simp[qO]
   rw[hfc];exact⟨by simp,qFw _⟩
 have hpos:0<p.hard.length+S.length:=by
  rcases qCh (p.hard.length+S.length) with h|h
  . exact absurd ⟨qA6 (by omega),qA6 (by omega)⟩ h0
  exact h
 have hnz:¬(p.hard.length:Int)+S.length=0:=by omega
 have hle:(p.hard.length:Int)+S.length<=549755813888:=by omega
 have hge:(0:Int)<=(p.hard.length:Int)+S.length:=by omega
 have htn:((p.hard.length:Int)+S.length).toNat=p.hard.length+S.length:=by omega
 obtain⟨Z,hZ⟩:∃Z,Z=(List.replicate (p.hard.length+S.length) [AV.int .i64 0,.int .i64 0,.str [],.sl 0 [] .nil]).flatten:=⟨_,rfl⟩;have hZl:Z.length=(p.hard.length+S.length)*4:=by rw[hZ];simp
 have hAl:=Go.Abs.ju (sz:=4) zo p.hard;have h2:=qci (p.hard.flatMap qt) (S.flatMap qt) Z (by rw[hZl,hAl,Go.Abs.ju (sz:=4) zo S,qBW]);rw[hAl,<- List.flatMap_append]at h2;have hc1:∀B0:Blk,kq (Dof prog) ⟨[B0,.cells Z],[]⟩ 23 (.ms 1 0 (p.hard.length+S.length) 4) (.sl 4 (p.hard.map qt) .none)=some (.int .i64 p.hard.length,⟨[B0,.cells (zA Z 0 (p.hard.flatMap qt))],[]⟩):=fun B0=>by
  by_cases hh0:p.hard=[]
  . simp[kq,qbu,hh0,zA]
  have hm:min p.hard.length (p.hard.length+S.length)=p.hard.length:=by omega
  have hl:p.hard.length*4<=(p.hard.length+S.length)*4:=by omega
  simp[kq,qbu,qpE,hm,hh0,show(p.hard.map qt).take p.hard.length=p.hard.map qt from qAZ (by simp),show(p.hard.map qt).flatten=p.hard.flatMap qt by rw[qCD],hZl,hl]
 by_cases hS0:S=[]
 . subst hS0;have hhp:0<p.hard.length:=(by simpa using hpos);have hsl2:=qun p.hard.length hhp;have ho:∀B0:Blk,jr 1 4 qt [B0,.cells (p.hard.flatMap qt)] (.ms 1 0 p.hard.length 4) p.hard:=fun B0=>.inr ⟨qBf.1 hhp,rfl,rfl⟩
   have hpa:zA Z 0 (p.hard.flatMap qt)=p.hard.flatMap qt:=putAt_all _ _ (by rw[hZl,hAl];simp);rw[hpa]at hc1;simp only[qB8,qCy,qDt,Int.add_zero]at hw hnz hle hge htn hZ hc1;simp only[qBy]at hs;generalize p.hard.flatMap qt=FE at *;simp;refine qFp hs (by simp) ?_;simp[hw,hle,hge,qBf.1 hhp,qG,<- hZ,hc1,hsl2,show ∀U:St,kq (Dof prog) U 23 (.sl 4 [] .none) (.sl 4 [] .none)=some (.int .i64 0,U) from fun U=>by simp[kq,qbu]];exact⟨(ho (.cells (qA p))).frzNo zo (fun x=>nrE x) jw 7,(ho (.cells (qA p))).frz zo (fun x=>nrE x) jw 7⟩
 have hSp:=qBf.2 hS0;have hsl2:zk (.ms 1 0 (p.hard.length+S.length) 4) (some (.int .i64 p.hard.length)) none none=some (.ms 1 (p.hard.length*4) S.length 4):=by
  rw[qx2 _ _ (by omega),show p.hard.length+S.length-p.hard.length=S.length by omega]
 have hc2:∀B0:Blk,kq (Dof prog) ⟨[B0,.cells (zA Z 0 (p.hard.flatMap qt))],[]⟩ 23 (.ms 1 (p.hard.length*4) S.length 4) (.sl 4 (S.map qt) .none)=some (.int .i64 S.length,⟨[B0,.cells ((p.hard++S).flatMap qt)],[]⟩):=fun B0=>by
  simp[kq,qbu,qpE,hS0,show(S.map qt).take S.length=S.map qt from qAZ (by simp),show(S.map qt).flatten=S.flatMap qt by rw[qCD],show(zA Z 0 (p.hard.flatMap qt)).length=(p.hard.length+S.length)*4 by rw[Kx,hZl],show p.hard.length*4+S.length*4<=(p.hard.length+S.length)*4 by omega,-List.flatMap_append,h2]
 have ho:∀B0:Blk,jr 1 4 qt [B0,.cells ((p.hard++S).flatMap qt)] (.ms 1 0 (p.hard.length+S.length) 4) (p.hard++S):=fun B0=>.inr ⟨by simp[hS0],by simp⟩
 generalize (p.hard++S).flatMap qt=FE at *;generalize zA Z 0 (p.hard.flatMap qt)=Z1 at *;simp;refine qFp hs (by simp) ?_;simp[hw,hnz,hle,hge,qG,htn,<- hZ,hc1,hsl2,hc2];have f1:=(ho (.cells (qA p))).frz zo (fun x=>nrE x) jw 7;have f2:=(ho (.cells (qA p))).frzNo zo (fun x=>nrE x) jw 7;rw[qBV]at f1;exact⟨f2,f1⟩
def Ji(e:Ex):Prop:=Wen e/\hgt e<=1000/\(pre e).length<=100000
def qry:∀(e x),x∈pre e->(pre x).length<=(pre e).length:=by
 refine qFN fun e ih x hx=>?_
 rw[jC]at hx;rcases qBt.1 hx with rfl|hx
 . exact qA5 _
 obtain⟨a,ha,hxa⟩:=ZU.1 hx;exact qBN (ih a ha x hxa) (qfL ha)
def EOk.tame{s e h m}(ho:EOk s h m e)(hs:Fits s)(hh:h<=1000)(hm:m<=100000):Ji e:=by
 refine⟨fun x hx=>?_,qBN ho.hgt hh,qBN ho.size hm⟩;have h1:=qry e x hx;have h2:=qgP x;have h3:=ho.size;obtain⟨n1,n2,n3,n4⟩:=ho.nodes x hx;refine⟨by show x.args.length<_;omega,?_⟩;by_cases h:x.op=2
 . rwa[n4 h]
 have:=(jk n1).2.2.2.2.2.2.2 (by rintro(h'|h'|h');exact h h';exact n2 h';exact n3 h');rw[this];simp[Fits]
def qcu(n):Ji (jE n):=by
 refine⟨fun x hx=>?_,by simp[wC,jE],by rw[ZP];simp⟩;rw[ZP]at hx;simp only[qBt,qDg,or_false]at hx;subst hx;exact⟨by simp[jE,Fits,Ex.args],by simp[jE,Fits,Ex.name]⟩
def qdZ{s}(hs:wg s=true)(hf:Fits s){l:List Rg}(hl:l.length<=128)(hr:∀r∈l,qmp r):Ji (kf s l):=by
 unfold kf;split
 . exact qcu 0
 rename_i h0;have hpos:=qBf.2 h0;have h1:=EOk.ins hs (l:=l.take 16) (qBf.1 (by rw[qBG];omega)) (by rw[qBG];omega) (fun r h=>hr r (qBH h));have h2:=EOk.chain hs (z6 16 l.length (l.drop 16)) (h:=0) h1 (fun c hc=>by
  obtain⟨a,b,c'⟩:=KC (by omega) _ _ c hc;exact⟨a,b,fun r h=>hr r (qCp (c' r h))⟩)
 have h3:=KD (n:=16) (by omega) l.length (l.drop 16) 7 (by rw[qCM];omega);exact h2.tame hf (by omega) (by omega)
def qjg{vs}(hv:∀v∈vs,j4 v=0)(hf:∀v∈vs,Fits v.name)(d):Ji (vM vs d):=by
 unfold vM;split
 . rename_i v h;have hm:=qAV h;have h1:=zi (hv v hm);have h2:=qam v d.weights;have h3:=Yy h1.2.2;have h4:=qec (N:=(zU v:Nat)) h2.1 (fun x hx=>by have:=h2.2 x hx;omega) (by omega);exact qdZ h1.1 (hf v hm) (by omega) h4.1
 exact qcu 0
def Qf{p}(h:VQ p)(hv:qo p=0):∀e∈zy p++p.soft,wJ p.vars e=true/\Ji e:=by
 have hx:∀e∈p.hard++p.soft,zB p.vars e=0:=by
  have:qY (zB p.vars) (p.hard++p.soft)=0:=by
   unfold qo at hv;split at hv
   . exact absurd hv (by assumption)
   split at hv
   . rename_i h1;exact absurd hv h1
   rename_i h1;exact qB1.1 h1
  exact zF.1 this
 intro e he;have hs:jF p=wk p:=if_pos hv;rw[zy,hs]at he;rcases qBb.1 he with he|he
 . rcases qBb.1 he with he|he
   . exact⟨decide_eq_true (hx e (qBJ _ he)),h.exprs e (qBJ _ he)⟩
   . obtain⟨d,hd,rfl⟩:=qBj.1 he;exact⟨decide_eq_true (qho (jd hv) d),qjg (jd hv) h.names d⟩
 exact⟨decide_eq_true (hx e (qCl _ he)),h.exprs e (qCl _ he)⟩
def qzb(H:List Blk)(T:List (Option Nat))(r:AV)(U':St):Prop:=r=.sl 4 [] (.chain T.length 0)/\U'.T=T++[some 0]/\∃u,U'.H=H++u
def qhU(p)(h:VQ p)(hd:p.dists.length<=10000)(h1:p.hard=[])(h2:jF p=[])(H T):qj prog GG 67 [.agg (qA p)] ⟨H,T⟩ (qzb H T):=by
 refine qFo qg func67 rfl (by kernel_rfl) ?_;have hs:=JR p h hd;rw[h2]at hs;simp only[qA,h1]at hs;simp[h1];refine qFp hs (by simp) ?_;simp[show IntKind.i64.wrap 0=0 by decide,qG,kq,qbu,zk,zR,yT,zT];exact⟨rfl,rfl,_,rfl⟩
noncomputable def yS(p:Problem):List Int×Int :=
 if qo p=0 then(if jQ p.vars (zy p)=true then((yu p.vars (zy p) (Zj p.soft)).reverse.map (·.1),0) else([],11)) else([],1)
def qnZ(p)(h:VQ p)(hv:qo p≠0):Pure prog GG 66 [.agg (qA p)] (.tup [.sl 1 ((yS p).1.map qh) .none,.int .i64 (yS p).2]):=by
 have hr:yS p=([],1):=if_neg hv;rw[hr];refine qFl o0 true qg func66 rfl (by kernel_rfl) ?_;have hval:=ka p h;simp only[qA]at hval;simp;refine qFp hval (by simp) ?_;simp[hv];rw[qF (by simp)];exact⟨by simp,by simp[Leq,zm]⟩
def qh5(p)(h:VQ p)(hv:qo p=0)(hv20:p.vars.length<=20)(hb:wh p.vars (qQ p)<=18)(hd:p.dists.length<=10000)(hs:jQ p.vars (zy p)=false):Pure prog GG 66 [.agg (qA p)] (.tup [.sl 1 ((yS p).1.map qh) .none,.int .i64 (yS p).2]):=by
 rw[show yS p=([],11) by unfold yS;rw[if_pos hv,hs,if_neg (by simp)]];refine qFl o0 true qg func66 rfl (by kernel_rfl) ?_;have hval:=ka p h;have hn:=KK p h hd;have hk:=Qf h hv;have hfn:Fits (zy p):=by
  have h1:=h.hard;have h2:(jF p).length<=10000:=by
   have:jF p=wk p:=if_pos hv
   rwa[this,wk,qBA]
  show(zy p).length<_;rw[zy,qAY];omega
 have hso:=Zd p (zy p) h hv20 hb hfn (fun e he=>(hk e (qBJ _ he)).2);have hsb:Yg p (zy p)=false:=by
  unfold Yg;rw[hs];simp
 rw[hsb]at hso;generalize zy p=N at *;simp only[qA]at hval hn hso;simp;refine qFp hval (by simp) ?_;simp[hv];refine qFp hn (by simp) ?_;simp;refine qFp hso (by simp) ?_;simp;rw[qF (by simp)];exact⟨by simp,by simp[Leq,zm]⟩
def qhA(n):Pure prog GG 222 [.int .i64 n] (.agg (qt (jE n))):=by
 refine qFm qg func222 rfl (by kernel_rfl) ?_;simp[jE,qc,zu,zZ,qP]
def qck{d r n}(h:∀w∈d,inW n w=false):vO (d++r) n=vO r n:=by
 unfold vO;have:(d++r).find? (inW n)=r.find? (inW n):=by
  rw[qEC,qDD.2 (fun w hw=>by simp[h w hw])];rfl
 rw[this]
def qek(l n)(hf:Fits l):Pure prog GG 221 [.sl 4 (l.map qz) .none,.int .i64 n] (.bool (vO l n)):=by
 refine qFm qg func221 rfl (by kernel_rfl) ?_;obtain⟨r,hr⟩:∃r,r=vO l n:=⟨_,rfl⟩;rw[<- hr];simp[-getElem?_pos];refine qFt l (fun d ev U=>ev 0=.sl 4 (l.map qz) .none/\ev 1=.int .i64 n/\ev 5=.int .i64 d.length/\U=⟨[],[]⟩/\∀w∈d,inW n w=false) ?_ ?_ ?_
 . simp
 . rintro d w rest ev U hd hx hlt ⟨e0,e1,e5,rfl,hall⟩;have hdw:=wr (n:=(d.length:Int)+1) (by unfold Fits at hf;omega) (by unfold Fits at hf;omega)
   cases hi:inW n w with
   | true=>
    have hp:r=decide (0<w.weight):=(by rw[show r=vO (w::rest) n by rw[hr,hd,qck hall]];unfold vO;simp[hi]);have hi':=hi;simp only[inW,qA1,decide_eq_true_eq]at hi';simp[-getElem?_pos,e0,e1,e5,hlt,hx,hi'.1,hi'.2,hp]
   | false=>
    have hnext:∀x,(x∈d\/x=w)->inW n x=false:=fun x hx=>by
     rcases hx with h|rfl
     . exact hall x h
     exact hi
    by_cases h1:w.lo<=n
    . have h2:¬n<=w.hi:=fun h=>by simp[inW,h1,h]at hi
      simp[-getElem?_pos,e0,e1,e5,hlt,hx,h1,h2,hdw];exact hnext
    simp[-getElem?_pos,e0,e1,e5,hlt,hx,h1,hdw];exact hnext
 rintro ev U ⟨e0,e1,e5,rfl,hall⟩;have:r=false:=by
  have:=qck (r:=[]) hall;rw[qBC]at this;rw[hr,this];rfl
 simp[-getElem?_pos,e0,e5,this]
def qkA{α:Type}{en:α->List AV}{sz}{R:List α}{tok:Tok}{n}(hn:n=(R.length:Int))(h:R≠[]\/tok.known=true):zk (.sl sz (R.map en) tok) none (some (.int .i64 n)) (some (.int .i64 n))=some (.sl sz (R.map en) .tight):=by
 subst hn;simp[zk,zR,yT,zT,w7,show(R.map en).take R.length=R.map en from qAZ (by simp),h.imp qBf.2 id]
def qaO{R X H T}(hR:R.length<1000000):qq (Dof prog) ⟨H,T⟩ 23 (.sl 4 (R.map qt) .tight) (.sl 4 [qt X] .tight)=some (.sl 4 ((R++[X]).map qt) (.chain T.length 1),⟨H,T++[some 1]⟩):=by
 simp[qq,za,show R.length+1<=549755813888 by omega]
def qaC(l):(Zj l).length=l.length:=by simp[Zj]
def qeq{l k q}(h:(Zj l)[k]?=some q):k<l.length/\q.1=((l.length-1-k:Nat):Int)/\l[l.length-1-k]?=some q.2:=by
 unfold Zj at h;have hk:=(qAU.1 h).1;simp at hk;rw[List.getElem?_reverse (by simpa using hk)]at h;simp at h
 cases hx:l[l.length-1-k]? with
 |none=>rw[hx]at h;simp at h
 |some x=>rw[hx]at h;simp at h;subst h;exact⟨hk,rfl,rfl⟩
def quC{d m v}(h:d.length<m):(List.replicate (m-d.length) (0:Int)++d.reverse).set (m-1-d.length) v=List.replicate (m-(d.length+1)) 0++(d++[v]).reverse:=by
 have h1:List.replicate (m-d.length) (0:Int)=List.replicate (m-(d.length+1)) 0++[0]:=by
  rw[show m-d.length=(m-(d.length+1))+1 by omega,qDL]
 rw[h1,qBE,qBK _ _ (by simp;omega)];rw[show m-1-d.length-(List.replicate (m-(d.length+1)) (0:Int)).length=0 by simp;omega];simp
def vz{H n a r k z}(h1:qO (frz H n a)=true)(h2:Leq (frz H n a) r)(h3:qO a=true->Leq a r):
 qO (frz H (n+1) (.tup [a,.int k z]))=true/\Leq (frz H (n+1) (.tup [a,.int k z])) (.tup [r,.int k z]):=by
 by_cases hn:qO a=true
 . rw[qF (by simp[hn])];exact⟨by simp[hn],by simp[Leq,zm,h3 hn]⟩
 have:frz H (n+1) (.tup [a,.int k z])=.tup [frz H n a,.int k z]:=by
  have h0:frz H n (.int k z)=.int k z:=qF rfl;rw[frz,if_neg (by simp[hn])];simp[h0]
 rw[this];exact⟨by simp[h1],by simp[Leq,zm,h2]⟩
def qwe(p:Problem)(H:List Blk)(r:AV)(U':St):Prop:=∃tok u T',r=.sl 4 ((zy p).map qt) tok/\(zy p≠[]\/tok.known=true)/\U'=⟨H++u,T'⟩
def qhT(p)(h:VQ p)(hd:p.dists.length<=10000)(H T):qj prog GG 67 [.agg (qA p)] ⟨H,T⟩ (qwe p H):=by
 by_cases hN:zy p=[]
 . have h0:p.hard=[]/\jF p=[]:=(by rw[zy]at hN;simpa using hN);refine(qhU p h hd h0.1 h0.2 H T).imp ?_;rintro v ⟨H1,T1⟩ ⟨rfl,hT,u,hH⟩;simp only at hT hH;subst hH;exact⟨_,u,T1,by rw[hN];rfl,.inr rfl,rfl⟩
 refine qj.call (KK p h hd) (by simp) ?_;exact⟨.none,[],T,rfl,.inl hN,by simp⟩
def qmi(p)(h:VQ p)(hv20:p.vars.length<=20)(hb:wh p.vars (qQ p)<=18)(hd:p.dists.length<=10000)(hs5:p.soft.length<=10000):
 Pure prog GG 66 [.agg (qA p)] (.tup [.sl 1 ((yS p).1.map qh) .none,.int .i64 (yS p).2]):=by
 by_cases hv:qo p=0
 case neg=>exact qnZ p h hv
 by_cases hs:jQ p.vars (zy p)=true
 case neg=>exact qh5 p h hv hv20 hb hd (by simpa using hs)
 have hr:yS p=((yu p.vars (zy p) (Zj p.soft)).reverse.map (·.1),0):=by unfold yS;rw[if_pos hv,if_pos hs]
 rw[hr];dsimp only;obtain⟨RES,hRES⟩:∃RES,RES=(yu p.vars (zy p) (Zj p.soft)).reverse.map (·.1):=⟨_,rfl⟩;rw[<- hRES];refine qFl o0 true qg func66 rfl (by kernel_rfl) ?_;have hval:=ka p h;have hn:=KK p h hd;have hk:=Qf h hv;have h1:=h.hard;have h2:(jF p).length<=10000:=by
  have:jF p=wk p:=if_pos hv
  rwa[this,wk,qBA]
 have hNl:(zy p).length<=20000:=by rw[zy,qAY];omega
 have hso:=fun l (hl:l.length<40000) (hx:∀e∈l,wJ p.vars e=true/\Ji e)=>Zd p l h hv20 hb (by show l.length<_;omega) (fun e he=>(hx e he).2)
 have hsb:∀l,(∀e∈l,wJ p.vars e=true/\Ji e)->Yg p l=jQ p.vars l:=fun l hl=>by
  have:=qA3.2 fun e he=>(hl e he).1
  unfold Yg;rw[this];simp[hv]
 have hne:=qhT p h hd [.cells (qA p)] [];unfold qwe at hne;have hso0:=hso (zy p) (by omega) (fun e he=>hk e (qBJ _ he));rw[hsb _ (fun e he=>hk e (qBJ _ he)),hs]at hso0;generalize zy p=N at *;generalize hL:Zj p.soft=L at *;have hLl:L.length=p.soft.length:=by rw[<- hL,qaC]
 simp only[qA]at hval hn hso0 hne hso;simp;refine qFp hval (by simp) ?_;simp[hv];refine qFs hne ?_;rintro v U ⟨tok,u,T,rfl,htok,rfl⟩;simp;refine qFq hso0 (by cases tok<;>simp) (by cases tok<;>simp[zm,Leq,qFy]) ?_;have hw1:=wr (n:=(p.soft.length:Int)-1) (by omega) (by omega);simp[hw1];refine qFF L (fun d ev U=>ev 1=.ptr 0 0/\ev 6=.int .i64 ((p.soft.length:Int)-1-d.length)/\∃R K tok u T,(∀r,L=d++r->yu p.vars N L=K++yu p.vars R r)/\(∀e∈R,wJ p.vars e=true/\Ji e)/\R.length<=20000+d.length/\K.length<=d.length/\ev 4=.sl 4 (R.map qt) tok/\(R≠[]\/tok.known=true)/\W2 0 1 qh T (ev 5) (K.map (·.1))/\U=⟨.cells (qA p)::u,T⟩) ?_ ?_ ?_
 . refine⟨by simp,by simp,N,[],tok,u,T,fun r hr=>by rw[hr];rfl,fun e he=>hk e (qBJ _ he),by simpa using hNl,by simp,by simp,htok,by simpa using W2.nil,by simp⟩
 . rintro d x rest ev U R0 hR hdl hx hlt ⟨e1,e6,R,K,tok2,u2,T2,hkeep,hRk,hRl,hKl,e4,htok2,e5,rfl⟩;have hna:=qeq (l:=p.soft) (k:=d.length) (q:=x) (by rwa[hL]);obtain⟨n1,n2,n3⟩:=hna;have e6':ev 6=.int .i64 ((p.soft.length-1-d.length:Nat):Int):=(by rw[e6];congr 1;omega);have hsl:=qkA (en:=qt) (sz:=4) (R:=R) (tok:=tok2) rfl htok2;have hxk:=hk x.2 (qCl _ (qAV n3));have hRk2:∀e∈R++[x.2],wJ p.vars e=true/\Ji e:=fun e he=>by
    rcases qBb.1 he with he|he
    . exact hRk e he
    rw[qBD]at he;rwa[he]
   have hso2:=hso (R++[x.2]) (by rw[qAY,qBo];omega) hRk2;rw[hsb _ hRk2]at hso2;have hap:=fun H T=>qaO (R:=R) (X:=x.2) (H:=H) (T:=T) (by omega)
   have ha:=yN x.2;have hl4:=zo x.2;have hnr:=quU (R++[x.2]);simp only[qBV,qA7,qBy]at hnr;have htk:(qt x.2).take 4=qt x.2:=qAZ (by rw[hl4];exact qA5 _);have hw2:=wr (n:=((p.soft.length-1-d.length:Nat):Int)-1) (by omega) (by omega);have hEx:=n2;generalize hI:p.soft.length-1-d.length=I at *;obtain⟨v5,T5,hap5,h5,hT5⟩:=(e5.ext (T':=T2++[some 1]) (qEt _ _)).append (m:=[x.1]) (D:=Dof prog) (ty:=28) (tok:=.tight) (T0:=[]) (T:=T2++[some 1]) (List.nil_prefix) (D28) rfl (D3) rfl (by decide) (by rfl) (by decide) (by simp;omega) 1 (.inl rfl);simp only[qA7,qBy,qh]at hap5;simp[-qZ,e1,e4,e6',show(0:Int)<=((p.soft.length-1-d.length:Nat):Int) by omega,hsl,n3,htk,ha,hl4,qi,qp,hap];refine qFq hso2 (by simp[hnr]) (by simp) ?_;have hIm:((I:Int)-1)=((p.soft.length:Int)-1-((d++[x]).length:Nat)):=(by rw[qAY,qBo];omega)
   cases hso3:jQ p.vars (R++[x.2]) with
   | true=>
    simp[-qZ,e6',qi,qp,show IntKind.i64.wrap (x.1-1)=(p.soft.length:Int)-1-((d.length:Int)+1) by rw[hEx,hw2,hIm,qAY,qBo];omega,<- hEx,hap5];refine hR _ _ ⟨by simp[e1],by simp,R++[x.2],K++[x],.chain T2.length 1,u2,T5,fun r hr=>?_,hRk2,by simp;omega,by simp;omega,by simp,.inl (by simp),by simpa using h5,rfl⟩;rw[hkeep (x::r) (by rw[hr];simp),yu,if_pos hso3];simp
   | false=>
    simp[-qZ,e6',hw2];refine hR _ _ ⟨by simp[e1],by simp[hIm],R,K,tok2,u2,T2++[some 1],fun r hr=>?_,hRk,by simp;omega,by simp;omega,by simp[e4],htok2,by simpa using e5.ext (qEt _ _),rfl⟩;rw[hkeep (x::r) (by rw[hr];simp),yu,if_neg (by rw[hso3];simp)]
 rintro ev U ⟨e1,e6,R,K,tok2,u2,T2,hkeep,hRk,hRl,hKl,e4,htok2,e5,rfl⟩;rw[hLl]at e6;have e6':ev 6=.int .i64 (-1):=by rw[e6];congr 1;omega
 have hK:=hkeep [] (by simp);rw[show yu p.vars R []=[] from rfl,qBC]at hK;rw[hK,List.map_reverse]at hRES;generalize hKI:K.map (·.1)=KI at *;have hKIl:KI.length<=10000:=by rw[<- hKI,qBA];omega
 subst hRES;rcases e5 with⟨rfl,e5⟩|⟨hne,t,_,e5,_⟩
 . simp[e6',e5,qG];refine qFu (fun m ev U=>ev 8=.sl 1 [] (.chain T2.length 0)/\ev 53=.int .i64 0/\ev 54=.int .i64 0) 0 ⟨by simp,by simp⟩ ?_;rintro m ev U R hR ⟨e8,e53,e54⟩;simp[*];have hf:∀H,frz H 7 (.sl 1 [] (.chain T2.length 0))=.sl 1 [] .none:=fun H=>by rw[frz];simp[qO]
   exact vz (by rw[hf];rfl) (by rw[hf];exact qFw _) (by simp)
 have hKn:¬(KI.length:Int)=0:=by have:=qBf.2 hne;omega
 simp[e6',e5,qG,show(KI.length:Int)<=549755813888 by omega,hne];refine qFF KI (fun d ev U=>ev 8=.ms (u2.length+1) 0 KI.length 1/\ev 52=.sl 1 (KI.map qh) (.chain t KI.length)/\ev 53=.int .i64 KI.length/\ev 54=.int .i64 d.length/\∃H T,U=⟨H,T⟩/\H[u2.length+1]?=some (.cells (zb (List.replicate (KI.length-d.length) 0++d.reverse)))) ?_ ?_ ?_
 . refine⟨by simp,by simp,by simp,by simp,_,_,rfl,?_⟩;simp[zb]
 . rintro d x rest ev U R hR hdl hx hlt ⟨e8,e52,e53,e54,H,T,rfl,hH⟩;have hdw:=wr (n:=(d.length:Int)+1) (by omega) (by omega);have hkw:=wr (n:=(KI.length:Int)-1) (by omega) (by omega);have hkw2:=wr (n:=(KI.length:Int)-1-d.length) (by omega) (by omega);have hI:((KI.length:Int)-1-d.length)=((KI.length-1-d.length:Nat):Int):=(by omega);have hlt3:KI.length-1-d.length<KI.length:=(by omega);have hlt4:KI.length-1-d.length+1<=KI.length:=(by omega);have hset:=yL (a:=List.replicate (KI.length-d.length) 0++d.reverse) (i:=KI.length-1-d.length) (x:=x);have hHl:=(qAU.1 hH).1;rw[quC hlt]at hset;rw[hI]at hkw2;generalize hJ:KI.length-1-d.length=J at *;simp[-getElem?_pos,e8,e52,e53,e54,hlt,hx,hkw,hI,hkw2,hH,show(zb (List.replicate (KI.length-d.length) 0++d.reverse)).length=KI.length by rw[qR];simp;omega,hlt3,hlt4,hset,hdw];exact hR _ _ ⟨by simp[e8],by simp[e52],by simp[e53],by simp,_,_,rfl,by rw[qAY,qBo,qDP];exact qA0 hHl⟩
 rintro ev U ⟨e8,e52,e53,e54,H,T,rfl,hH⟩;rw[qBS,qDO,qBk]at hH;simp[*];have ho:jr (u2.length+1) 1 qh H (.ms (u2.length+1) 0 KI.length 1) KI.reverse:=.inr ⟨(by simpa using hne),by simp,by rw[hH,jM]⟩;have f1:=ho.frz (fun x=>by simp) (fun x=>by simp) (fun x=>by simp) 6;have f2:=ho.frzNo (fun x=>by simp) (fun x=>by simp) (fun x=>by simp) 6;rw[List.map_reverse]at f1;exact vz f2 f1 (by simp)
def vK(vs:List Var)(q:List Int×Int)(i:Int):List Int×Int:=(q.1.set i.toNat q.2,q.2+zP vs i.toNat)
def wI(vs:List Var)(l:List Int):List Int×Int:=l.foldl (vK vs) (List.replicate vs.length (-1),0)
def qS(p:Problem):List Int:=(wI p.vars p.groups.flatten).1
def VK(vs l i):wI vs (l++[i])=vK vs (wI vs l) i:=by simp[wI,qBX]
def ZW(vs):∀l:List Int,(wI vs l).1.length=vs.length:=by
 intro l;have:∀(l:List Int) (q:List Int×Int),(l.foldl (vK vs) q).1.length=q.1.length:=by
  intro l
  induction l with
  |nil=>intro q;rfl
  |cons a r ih=>intro q;rw[qBw,ih];simp[vK]
 unfold wI;rw[this];simp
def j5{p}(h:qo p=0):yh p.vars p.groups:=by
 have hd:zK p.vars p.groups=0:=by
  unfold qo at h;split at h
  . exact absurd h (by assumption)
  split at h
  . rename_i h1;exact absurd h h1
  split at h
  . rename_i h1;exact absurd h h1
  exact h
 unfold zK at hd;split at hd
 . assumption
 cases hd
def ZK{vs}{i:Int}(h:yO vs i=true):∃(n:Nat) (v:Var),i=n/\vs[n]?=some v/\v.mode≠0:=by
 simp only[yO,qA1,decide_eq_true_eq]at h;obtain⟨j,hj⟩:=qBe h.1;have h2:=h.2;rw[hj]at h2;simp at h2
 cases hv:vs[j]? with
 |none=>rw[hv]at h2;simp at h2
 |some v=>rw[hv]at h2;exact⟨j,v,hj,hv,by simpa using h2⟩
def qh0{vs}(hw:∀v∈vs,0<=v.width/\v.width<=8):∀l:List Int,0<=(wI vs l).2/\(wI vs l).2<=8*l.length:=by
 intro l;have:∀(l:List Int) (q:List Int×Int),0<=q.2->0<=(l.foldl (vK vs) q).2/\(l.foldl (vK vs) q).2<=q.2+8*l.length:=by
  intro l
  induction l with
  |nil=>intro q h;simp[h]
  | cons a r ih=>
   intro q h;have hwa:0<=zP vs a.toNat/\zP vs a.toNat<=8:=by
    unfold zP;split
    . rename_i v hv;exact hw v (qAV hv)
    omega
   have:=ih (vK vs q a) (by simp only[vK];omega);rw[qBw];simp only[vK,qBc]at this⊢;omega
 have:=this l (List.replicate vs.length (-1),0) (qEr _);simpa[wI] using this
def KG:∀(n:Nat) (l:List Int),l.Nodup->(∀x∈l,0<=x/\x<n)->l.length<=n
 | 0,l,_,h=>by
  cases l with
  |nil=>simp
  |cons a r=>have:=h a (by simp);omega
 | n+1,l,hn,h=>by
  by_cases hm:(n:Int)∈l
  . have h1:=KG n (l.erase (n:Int)) (hn.erase _) fun x hx=>by
     have h2:=(hn.mem_erase_iff).1 hx;have:=h x h2.2;omega
    rw[qEL hm]at h1;omega
  have h1:=KG n l hn fun x hx=>by
   have:=h x hx;have h2:x≠(n:Int):=fun e=>hm (e▸hx)
   omega
  omega
def VO{p}(h:qo p=0):p.groups.flatten.length<=p.vars.length:=KG _ _ (j5 h).2.2.1 fun i hi=>by
 obtain⟨n,v,rfl,hn,_⟩:=ZK ((j5 h).2.1 i hi);have:=(qAU.1 hn).1;omega
def qdF(p)(h:VQ p)(hv:qo p=0):Pure prog GG 36 [.agg (qA p)] (.sl 1 ((qS p).map qh) .none):=by
 refine qFl o0 true qg func36 rfl (by kernel_rfl) ?_;have hval:=ka p h;have hg:=j5 hv;have hvars:=h.vars;have hw:∀v∈p.vars,0<=v.width/\v.width<=8:=fun v hm=>by have:=zi (jd hv v hm);omega
 obtain⟨LV,hLV⟩:∃LV,LV=qS p:=⟨_,rfl⟩;rw[<- hLV];simp only[qA]at hval;simp;refine qFp hval (by simp) ?_;by_cases hv0:p.vars=[]
 . have hg0:p.groups=[]:=by
    apply qCI.2;intro g hgm;have h1:=hg.1 g hgm;obtain⟨i,hi⟩:=List.exists_mem_of_ne_nil g h1;have:=hg.2.1 i (qBv.2 ⟨g,hgm,hi⟩);obtain⟨n,v,_,hn,_⟩:=ZK this;rw[hv0]at hn;simp at hn
   have hL0:LV=[]:=(by rw[hLV,qS,hg0,hv0];rfl);subst hL0;simp[hv,hv0,hg0,qG];refine qFu (fun m ev U=>ev 1=.ptr 0 0/\ev 3=.sl 1 [] (.chain 0 0)/\ev 18=.int .i64 0/\ev 19=.int .i64 0/\∃u T,U=⟨.cells (qA p)::u,T⟩) 0 ⟨by simp,by simp,by simp,by simp,_,_,by simp[hv0,hg0];exact⟨rfl,rfl⟩⟩ ?_;rintro m ev U R hR ⟨e1,e3,e18,e19,u,T,rfl⟩;simp[e1,e18,e19,hg0];refine qFu (fun m ev U=>ev 3=.sl 1 [] (.chain 0 0)/\ev 28=.int .i64 0/\ev 29=.int .i64 0) 0 ⟨by simp[e3],by simp⟩ ?_;rintro m ev U R hR ⟨e3,e28,e29⟩;simp[e3,e28,e29];have hf:∀H,frz H 8 (.sl 1 [] (.chain 0 0))=.sl 1 [] .none:=fun H=>by rw[frz];simp[qO]
   rw[hf];exact⟨rfl,qFw _⟩
 have hpos:=qBf.2 hv0;simp[hv,hv0,show(p.vars.length:Int)<=549755813888 by omega,qG];have hfl:=qBN (VO hv) hvars;have hgl:=h.groups;have hgf:=h.group;refine kl p.vars.length (fun i ev U=>ev 1=.ptr 0 0/\ev 3=.ms 1 0 p.vars.length 1/\ev 18=.int .i64 p.vars.length/\ev 19=.int .i64 (i:Int)/\U=⟨[.cells (qA p),.cells (zb (List.replicate i (-1)++List.replicate (p.vars.length-i) 0))],[]⟩) ?_ ?_ ?_
 . refine⟨by simp,by simp,by simp,by simp,?_⟩;simp[zb]
 . rintro i ev U R hR hi ⟨e1,e3,e18,e19,rfl⟩;have hw1:=wr (n:=(i:Int)+1) (by omega) (by omega);have hi1:i+1<=p.vars.length:=hi;have hll:(zb (List.replicate i (-1)++List.replicate (p.vars.length-i) 0)).length=p.vars.length:=(by rw[qR];simp;omega);have hset:(zb (List.replicate i (-1)++List.replicate (p.vars.length-i) 0)).set i (.int .i64 (-1))=zb (List.replicate (i+1) (-1)++List.replicate (p.vars.length-(i+1)) 0):=by
    rw[yL,qBK _ _ (by simp)];have:p.vars.length-i=(p.vars.length-(i+1))+1:=by omega
    rw[this,qCV];simp[qDL]
   simp[e3,e18,e19,show(i:Int)<p.vars.length by omega,hi1,hll,hset,hw1];exact hR _ _ ⟨by simp[e1],by simp[e3],by simp[e18],by simp⟩
 rintro ev U ⟨e1,e3,e18,e19,rfl⟩;rw[qBS,qDO,qBC];have hL0:(wI p.vars []).1=List.replicate p.vars.length (-1):=rfl;rw[<- hL0];simp[e1,e18,e19];refine qFF p.groups (fun dn ev U=>ev 1=.ptr 0 0/\ev 3=.ms 1 0 p.vars.length 1/\ev 5=.int .i64 (wI p.vars dn.flatten).2/\ev 27=.sl 1 (p.groups.map qD) .none/\ev 28=.int .i64 p.groups.length/\ev 29=.int .i64 dn.length/\U=⟨[.cells (qA p),.cells (zb (wI p.vars dn.flatten).1)],[]⟩) ?_ ?_ ?_
 . exact⟨by simp[e1],by simp[e3],by simp[wI],by simp⟩
 . rintro dn g rest ev U R hR hd hx hlt ⟨e1,e3,e5,e27,e28,e29,rfl⟩;have hdw:=wr (n:=(dn.length:Int)+1) (by omega) (by omega);have hgm:=qAV hx;have hgfit:=hgf g hgm;simp[e27,e28,e29,show(dn.length:Int)<p.groups.length by omega,hx];refine qFF g (fun dg ev U=>ev 1=.ptr 0 0/\ev 3=.ms 1 0 p.vars.length 1/\ev 5=.int .i64 (wI p.vars (dn.flatten++dg)).2/\ev 27=.sl 1 (p.groups.map qD) .none/\ev 28=.int .i64 p.groups.length/\ev 29=.int .i64 dn.length/\ev 33=.sl 1 (g.map qh) .none/\ev 34=.int .i64 g.length/\ev 35=.int .i64 dg.length/\U=⟨[.cells (qA p),.cells (zb (wI p.vars (dn.flatten++dg)).1)],[]⟩) ?_ ?_ ?_
   . exact⟨by simp[e1],by simp[e3],by simp[e5],by simp[e27],by simp[e28],by simp[e29],by simp⟩
   . rintro dg v rest2 ev U R2 hR2 hd2 hx2 hlt2 ⟨e1,e3,e5,e27,e28,e29,e33,e34,e35,rfl⟩;obtain⟨n,vr,rfl,hn,_⟩:=ZK (hg.2.1 v (qBv.2 ⟨g,hgm,qAV hx2⟩));have hnl:=(qAU.1 hn).1;have hdw2:=wr (n:=(dg.length:Int)+1) (by unfold Fits at hgfit;omega) (by unfold Fits at hgfit;omega);have hwv:=hw vr (qAV hn);have hpre:(dn.flatten++dg).length<=1000:=by
      have:(dn.flatten++dg).length<=p.groups.flatten.length:=by
       rw[hd,hd2];simp
      omega
     have hnx:=qh0 hw (dn.flatten++dg);have hww:=wr (n:=(wI p.vars (dn.flatten++dg)).2+vr.width) (by omega) (by omega);have hs:=VK p.vars (dn.flatten++dg) (n:Int);have hln:=ZW p.vars (dn.flatten++dg);simp only[vK,qBu,show zP p.vars n=vr.width by simp[zP,hn]]at hs;rw[qBE]at hs;generalize hQ:wI p.vars (dn.flatten++dg)=q at *;obtain⟨L,nx⟩:=q;simp only at *;have hn1:n+1<=p.vars.length:=hnl;have hn0:(n:Int)<p.vars.length:=(by omega);simp[e1,e3,e5,e33,e34,e35,show(dg.length:Int)<g.length by omega,hx2,show(zb L).length=p.vars.length by rw[qR,hln],hn1,hn0,hn,yL,hww,hdw2];exact hR2 _ _ ⟨by simp[e1],by simp[e3],by simp[hs],by simp[e27],by simp[e28],by simp[e29],by simp[e33],by simp[e34],by simp,by simp[hs]⟩
   rintro ev U ⟨e1,e3,e5,e27,e28,e29,e33,e34,e35,rfl⟩;simp[e29,e34,e35,hdw];exact hR _ _ ⟨by simp[e1],by simp[e3],by simp[e5],by simp[e27],by simp[e28],by simp⟩
 rintro ev U ⟨e1,e3,e5,e27,e28,e29,rfl⟩;have hLL:(wI p.vars p.groups.flatten).1=LV:=hLV.symm;have hln:=ZW p.vars p.groups.flatten;rw[hLL]at hln⊢;simp[e3,e28,e29];have hne2:LV≠[]:=fun e=>by rw[e]at hln;simp at hln;omega
 have ho:jr 1 1 qh [.cells (qA p),.cells (zb LV)] (.ms 1 0 p.vars.length 1) LV:=.inr ⟨hne2,by rw[hln],by rw[jM];rfl⟩;exact⟨ho.frzNo (fun x=>by simp) (fun x=>by simp) (fun x=>by simp) 7,ho.frz (fun x=>by simp) (fun x=>by simp) (fun x=>by simp) 7⟩
def yW{p}(h:qo p=0):(p.vars.map (·.name)).Nodup:=by
 have hv:jg p.vars=0:=by
  unfold qo at h;split at h
  . exact absurd h (by assumption)
  rename_i h1;exact qB1.1 h1
 have hd:qqg p.vars=false:=by
  unfold jg at hv;split at hv
  . cases hv
  split at hv
  . rename_i h1;exact absurd hv h1
  split at hv
  . cases hv
  rename_i h1;simpa using h1
 unfold qqg at hd;rw[qCv]at hd;refine qCH.2 fun i j hi hj hij e=>?_
 simp only[qBA]at hi hj;rw[qCz,qCz]at e;have:=hd j (qCd.2 hj);unfold Qu at this;rw[qAW hj]at this;simp only[Qn,qBr]at this;exact this ⟨p.vars[i],by rw[qEG];exact⟨i,by omega,rfl⟩,by simpa using e⟩
def qbI{vs:List Var}{m U}(hm:U.H[m]?=some (vS vs))(hn:(vs.map (·.name)).Nodup){i:Nat}{v:Var}(hv:vs[i]?=some v):zD (Dof prog) U 176 (.map m) (.str v.name) true=some (.tup [.int .i64 (i:Int),.bool true]):=by
 have:=qff hn hv 0;unfold vS at hm;generalize (vT vs).map JY=E at *;simp[zD,hm,zI,this]
def qqY(p:Problem)(e)(hn:(p.vars.map (·.name)).Nodup)(hk:zB p.vars e=0)(ht:Ji e){H M}(hM:H[M]?=some (vS p.vars))(T):
 qj prog GG 189 [.map M,.agg (qt e)] ⟨H,T⟩ (fun r U'=>r=.int .i64 0/\KpL [] H U'.H):=by
 refine qFo qg func189 rfl (by kernel_rfl) ?_;have ha:=QA e ht.1 ht.2.2;have hna:=ZT e ht.1 ht.2.2;have he:zp e=0/\Ye e=false/\Zm p.vars e=false:=by
  unfold zB at hk;split at hk
  . rename_i h;exact absurd hk h
  rename_i h;split at hk
  . cases hk
  split at hk
  . cases hk
  rename_i h2 h3;exact⟨qB1.1 h,by simpa using h2,by simpa using h3⟩
 have h0:zQ [3,24] e=[]:=by
  have:=QW (e:=e);rw[he.2.1]at this
  cases hl:zQ [3,24] e with
  |nil=>rfl
  |cons a r=>rw[hl]at this;simp at this
 have hall:∀s∈zQ [2] e,∃(i:Nat) (v:Var),p.vars[i]?=some v/\v.name=s:=fun s hs=>by
  have:=QN (l:=p.vars) (e:=e);rw[he.2.2,qCv]at this;have h1:=this s hs;simp only[qCn,Bool.not_eq_false,Qn,qBr]at h1;obtain⟨v,hv,hvn⟩:=h1;obtain⟨i,hi⟩:=qBB hv;exact⟨i,v,hi,by simpa using hvn⟩
 have hfit:(zQ [2] e).length<=100000:=KM ht.2.2;rw[h0]at ha;have henc:=qc e;rw[henc]at ha hna⊢;generalize zQ [2] e=N at *;simp;refine qFp ha (by simp) ?_;simp;refine qFp hna (by simp) ?_;simp;refine qFF N (fun d ev U=>ev 0=.map M/\ev 14=.sl 1 (N.map jm) .none/\ev 15=.int .i64 N.length/\ev 16=.int .i64 d.length/\KpL [] H U.H) ?_ ?_ ?_
 . exact⟨by simp,by simp,by simp,by simp,qFX⟩
 . rintro d s rest ev ⟨H1,T1⟩ R hR hd hx hlt ⟨e0,e14,e15,e16,hkp⟩;obtain⟨i,v,hi,hvn⟩:=hall s (qAV hx);have hl:=qbI (U:=⟨H1,T1⟩) (hkp.2 _ _ hM (by simp)) hn hi;rw[hvn]at hl;have hdw:=wr (n:=(d.length:Int)+1) (by omega) (by omega);simp[e0,e14,e15,e16,show(d.length:Int)<N.length by omega,hx,hl,hdw];exact hR _ _ ⟨by simp[e0],by simp[e14],by simp[e15],by simp,hkp⟩
 rintro ev ⟨H1,T1⟩ ⟨e0,e14,e15,e16,hkp⟩;simp[e15,e16];exact hkp
def qnA:List (Nat×Sch×List Nat):=[(7,.step 0 [7,3,2,1] (.step 1 [7,3,2] (.step 2 [7,3] (.step 3 [7] (.step 4 [7,5] (.step 5 [7] (.step 6 [7] (.step 7 [] (.done)))))))),[]),(9,.step 0 [8,7] (.step 1 [8,7,6,4,3,2] (.step 2 [8,7,6,4,3] (.step 3 [8,7,6,4] (.step 4 [8,7,6] (.step 5 [8,7,6] (.step 6 [8,7] (.step 7 [8] (.step 8 [] (.done))))))))),[6])]
def qAf(d:List Nd)(p:Problem)(H:List Blk)(r:AV)(U':St):Prop :=
 ∃B M,r=.tup [.ptr B 0,.int .i64 0]/\H.length<=B/\H.length<=M/\M≠B/\KpL [] H U'.H/\U'.H[B]?=some (.cells (.sl 3 (d.map qN) .none::(qA p++[.sl 1 ((qS p).map qh) .none,.map M])))/\U'.H[M]?=some (vS p.vars)
def qhe{vs:List Var}{i}{v:Var}(hv:vs[i]?=some v):vT (vs.take (i+1))=vT (vs.take i)++[(v.name,.int .i64 (i:Int),i)]:=by
 have hl:=(qAU.1 hv).1;unfold vT;rw[qBi,hv];simp[qDX,qCq (qEe hl)]
def qmD{vs:List Var}(hn:(vs.map (·.name)).Nodup){i}{v:Var}(hv:vs[i]?=some v)(k):jS (.str v.name) ((vT (vs.take i)).map JY) k=some none:=by
 have hl:=(qAU.1 hv).1;rcases ZC (s:=v.name) (vT (vs.take i)) k with⟨h1,_⟩|⟨j,q,h1,h2,_⟩
 . exact h1
 exfalso;obtain⟨w,hw,rfl⟩:=qfg h1;rw[qBY]at hw;split at hw
 . rename_i hj;obtain⟨hj1,hj2⟩:=qAU.1 hw;obtain⟨_,hi2⟩:=qAU.1 hv;have hp:=qCH.1 hn;have h2:w.name=v.name:=h2;exact hp j i (by simpa using hj1) (by simpa using hl) hj (by rw[qCz,qCz,hj2,hi2,h2])
 cases hw
def qmT(d)(hd:DagOk d)(p)(h:VQ p)(hv:qo p=0)(e)(hk:zB p.vars e=0)(ht:Ji e)(H T):
 qj prog GG 129 [.agg (zO d),.agg (qA p),.agg (qt e)] ⟨H,T⟩ (qAf d p H):=by
 refine qFn ⟨false,qnA,[],[]⟩ qg func129 rfl (by kernel_rfl) ?_;have hdv:=Wt d hd;have hpv:=ka p h;have hev:=Y4 e ht.1 (by have:=ht.2.1;omega);have hlv:=qdF p h hv;have hn:=yW hv;have he:zp e=0:=by
  unfold zB at hk;split at hk
  . rename_i h;exact absurd hk h
  rename_i h;exact qB1.1 h
 have hvl:=h.vars;have huse:=fun H M (hM:H[M]?=some (vS p.vars)) T=>qqY p e hn hk ht hM T
 rw[hv]at hpv;rw[he]at hev;generalize hLV:qS p=LV at *;rw[qc e]at hev huse⊢;simp only[zO]at hdv;simp only[qA]at hpv hlv;simp;refine qFp hdv (by simp) ?_;simp[unA];refine qFp hpv (by simp) ?_;simp;refine qFp hev (by simp) ?_;simp;rw[Ju (by rfl)];simp;refine qFp hlv (by simp) ?_;simp[zu,zZ,qP];refine qFF p.vars (fun dn ev U=>ev 4=.ptr (H.length+1) 0/\ev 5=.ptr (H.length+2) 0/\ev 8=.ptr (H.length+4) 0/\ev 32=.sl 4 (p.vars.map qM) .none/\ev 33=.int .i64 p.vars.length/\ev 34=.int .i64 dn.length /\
  KpL [] H U.H/\U.H[H.length+1]?=some (.cells (qA p))/\U.H[H.length+2]?=some (.cells [.int .i64 e.op,.int .i64 e.n,.str e.name,.sl 4 (e.args.map qt) .none])/\U.H[H.length+3]?=some (.map ((vT (p.vars.take dn.length)).map JY) dn.length) /\
  U.H[H.length+4]?=some (.cells (.sl 3 (d.map qN) .none::(qA p++[.sl 1 (LV.map qh) .none,.map (H.length+3)])))) ?_ ?_ ?_
 . refine⟨by simp,by simp,by simp,by simp,by simp,by simp,qFX,?_,?_,?_,?_⟩
   . exact lk1
   . exact lk2
   . exact lk3
   . exact lk4
 . rintro dn v rest ev ⟨H1,T1⟩ R hR hd hx hlt ⟨e4,e5,e8,e32,e33,e34,hkp,bP,bE,bM,bB⟩;have hdw:=wr (n:=(dn.length:Int)+1) (by omega) (by omega);have hf:=qmD hn hx 0;have ht1:=qhe hx;have hMl:=(qAU.1 bM).1;have hup:∀(u:List Blk) (T:List (Option Nat)),zj (Dof prog) ⟨H1++u,T⟩ 176 (.map (H.length+3)) (.str v.name) (.int .i64 (dn.length:Int))=some ⟨H1.set (H.length+3) (.map ((vT (p.vars.take (dn.length+1))).map JY) (dn.length+1))++u,T⟩:=fun u T=>by
    rw[ht1,qBV];generalize (vT (p.vars.take dn.length)).map JY=E at *;simp[zj,qf bM,zI,hf,ky bM,JY]
   generalize hE2:(vT (p.vars.take (dn.length+1))).map JY=E2 at *;simp only[qA,qBl,qBk]at bB;simp[e32,e33,e34,show(dn.length:Int)<p.vars.length by omega,hx];rw[qU rfl];simp[zg,e8,e34,qf bB,hup,hdw];refine hR _ _ ⟨by simp[e4],by simp[e5],by simp[e8],by simp[e32],by simp[e33],by simp,(hkp.setF (by omega)).trans qFX,qf (by rw[qAX (by omega)];exact bP) _,qf (by rw[qAX (by omega)];exact bE) _,?_,qf (by rw[qAX (by omega)];exact bB) _⟩;rw[qAY,qBo,hE2];exact qf (qA0 hMl) _
 rintro ev ⟨H1,T1⟩ ⟨e4,e5,e8,e32,e33,e34,hkp,bP,bE,bM,bB⟩;rw[qCr]at bM;have bM':=bM;have bB':=bB;simp only[qA,qBl,qBk]at bB;simp[e33,e34];rw[qU rfl];simp[zg,e5,e8,bB,bE];refine qFs (huse H1 (H.length+3) bM' T1) ?_;rintro v ⟨H2,T2⟩ ⟨rfl,hk2⟩;simp[zg];exact⟨H.length+4,H.length+3,rfl,by omega,by omega,by omega,hkp.trans hk2,by rw[hLV];exact hk2.2 _ _ bB' (by simp),hk2.2 _ _ bM' (by simp)⟩
