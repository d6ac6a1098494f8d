/- A part of the proof. -/
import Derived.Test.YtkpkjbchlabaaaaGreatDoorSa22
set_option maxHeartbeats 16000000
set_option linter.unusedVariables false
set_option linter.unusedSimpArgs false
set_option maxRecDepth 100000
set_option linter.defProp false
section
namespace Go.Proofs.YtkpkjbchlabaaaaGreatDoor
open Go Go.Abs
theorem YA (n:Int):Pure Tryz.prog GG 293 [.int .i64 n] (.agg (qr (jP n))):=by
 refine Pure.k qe Tryz.func293 rfl (by kernel_rfl) ?_;simp[-getElem?_pos,jP,qd,zn,zS,qF]
theorem rg_set {L:List Rg}{r:Rg}{n:Int}:((L++[r]).flatMap yH).set (L.length*2+1) (.int .i64 n)=(L++[(r.1,n)]).flatMap yH:=by
 rw[List.flatMap_append,List.flatMap_append,qrh _ _ (by rw[z9 (sz:=2) (fun x=>by simp)];omega),z9 (sz:=2) (fun x=>by simp)];have:L.length*2+1-L.length*2=1:=by omega
 rw[this];simp
theorem qms (out:List Rg)(n:Int):(Jg out n).length<=out.length+1:=by
 unfold Jg
 cases h:out.getLast? with
 | none=>simp
 | some r=>
  simp only;split<;>simp
theorem qbo:∀ (l:List Int) (out:List Rg),(l.foldl Jg out).length<=out.length+l.length
 | [],out=>by simp
 | n::l,out=>by
  rw[qqR];have:=qbo l (Jg out n);have:=qms out n;simp;omega
theorem qhj (l:List Int)(hl:l.length<=1000)(hn:∀ n∈l,0<=n/\n<=65535):Pure Tryz.prog GG 240 [.sl 1 (l.map qt) .none] (.sl 2 ((qhg l).map yH) .none):=by
 refine Pure.kO ⟨true,[],[],[]⟩ true qe Tryz.func240 rfl (by kernel_rfl) ?_;have hr:qhg l=l.foldl Jg []:=rfl;generalize qhg l=O at hr;simp[-getElem?_pos];refine qX.listR l (fun d ev U=>ev 7=.sl 1 (l.map qt) .none/\ev 8=.int .i64 l.length/\ev 9=.int .i64 d.length/\∃ H b,U=⟨H,[]⟩/\js b 2 yH H (ev 3) (d.foldl Jg [])) ?_ ?_ ?_
 . exact⟨by simp,by simp,by simp,[],0,by simp,.inl ⟨rfl,by simp⟩⟩
 . rintro d n rest ev U R hR hd hx hlt ⟨e7,e8,e9,H,b,rfl,ho⟩;have hw:=wr (n:=(d.length:Int)+1) (by omega) (by omega);have hlen:(d.foldl Jg []).length<=d.length:=(by have:=qbo d [];simpa using this);have hnn:=hn n (qqd hx);have hwn:=wr (n:=n-1) (by omega) (by omega);have hnext:(d++[n]).foldl Jg []=Jg (d.foldl Jg []) n:=(by simp);generalize d.foldl Jg []=L at *;have hgo:∀ (ev':Env) H' b',ev' 7=.sl 1 (l.map qt) .none->ev' 8=.int .i64 l.length->ev' 9=.int .i64 (d.length+1:Nat)->js b' 2 yH H' (ev' 3) (Jg L n)->R ev' ⟨H',[]⟩:=fun ev' H' b' a1 a2 a3 a4=>
    hR _ _ ⟨a1,a2,by simpa using a3,H',b',rfl,by rw[hnext];exact a4⟩
   have hnew:∀ (ev':Env),ev' 3=ev 3->True:=fun _ _=>trivial
   generalize hv3:ev 3=v3 at *
   cases hg:L.getLast? with
   | none=>
    have hL:L=[]:=qsQ.1 hg;have hadd:Jg L n=[(n,n)]:=(by subst hL;rfl);obtain⟨v',b',H2,hY,ho2,_,_,_⟩:=ho.appendK (P:=Tryz.prog) (G:=Jn GG) (o:=⟨true,[],[],[]⟩) (T:=[]) (m:=[(n,n)]) (tok:=.tight) D286 rfl D319 rfl (by omega) rfl (by decide) (fun x=>by simp) (by simp;omega);subst hL;rcases ho with ⟨_,rfl⟩|⟨h,_⟩
    case inr=>exact absurd rfl h
    have hm1:IntKind.i64.wrap (-1) = -1:=(by decide);simp only[qqp,qqU,yH]at hY;simp[-getElem?_pos,hv3,hY,e7,e8,e9,hlt,hx,hw,hm1,zn,zS,qF,qk,qu];exact hgo _ _ _ (by simp[e7]) (by simp[e8]) (by simp) (by rw[hadd];simpa using ho2)
   | some r=>
    obtain⟨L',rfl⟩:=qtr.1 hg;have hLne:L'++[r]≠[]:=(by simp);obtain⟨hv,hb⟩:=ho.at hLne;have hll:(L'++[r]).length=L'.length+1:=(by simp);have hlw:=wr (n:=(L'.length:Int)) (by omega) (by omega);have hf0:(L'.flatMap yH).length=L'.length*2:=z9 (sz:=2) (fun x=>by simp) L';have hfe:(L'++[r]).flatMap yH=L'.flatMap yH++[.int .i64 r.1,.int .i64 r.2]:=(by rw[List.flatMap_append];simp);have hfl:((L'++[r]).flatMap yH).drop (L'.length*2+1)=[.int .i64 r.2]:=by
     rw[hfe,qrP,hf0,qqO (by omega),show L'.length*2+1-L'.length*2=1 by omega];rfl
    have hln:((L'++[r]).flatMap yH).length=L'.length*2+2:=(by rw[hfe,qqg,hf0];rfl);have hsetl:=rg_set (L:=L') (r:=r) (n:=n);have hbl:=(qqc.1 hb).1;rw[hll]at hv;subst hv;have hlt2:(L'.length:Int)<L'.length+1:=(by omega);have hle2:L'.length*2+1+1<=L'.length*2+2:=(by omega);by_cases hr2:r.2=n-1
    . have hadd:Jg (L'++[r]) n=L'++[(r.1,n)]:=(by unfold Jg;rw[hg];simp[hr2]);generalize (L'++[r]).flatMap yH=fl at *;simp[-getElem?_pos,hv3,hb,hlt2,hfl,hln,hsetl,hlw,hwn,hr2,hw,e7,e8,e9,hlt,hx];exact hgo _ _ b (by simp[e7]) (by simp[e8]) (by simp) (by
       rw[hadd];exact .inr ⟨by simp,by simp[hv3],by rw[qqh hbl];simp⟩)
    . have hadd:Jg (L'++[r]) n=L'++[r]++[(n,n)]:=(by unfold Jg;rw[hg];simp[hr2]);obtain⟨v',b',H2,hY,ho2,_,_,_⟩:=ho.appendK (P:=Tryz.prog) (G:=Jn GG) (o:=⟨true,[],[],[]⟩) (T:=[]) (m:=[(n,n)]) (tok:=.tight) D286 rfl D319 rfl (by omega) rfl (by decide) (fun x=>by simp) (by simp at hlen ⊢;omega);simp only[qqp,qqU,yH]at hY;generalize (L'++[r]).flatMap yH=fl at *;simp[-getElem?_pos,hv3,hb,hlt2,hfl,hln,hsetl,hlw,hwn,hr2,hw,e7,e8,e9,hlt,hx,hY,zn,zS,qF,qk,qu];exact hgo _ _ b' (by simp[e7]) (by simp[e8]) (by simp) (by rw[hadd];simpa using ho2)
 . rintro ev U ⟨e7,e8,e9,H,b,rfl,ho⟩;rw[<- hr]at ho;simp[-getElem?_pos,e8,e9];exact⟨ho.frzNo (fun x=>by simp) (fun x=>by simp) (fun x=>by simp) 7,ho.frz (fun x=>by simp) (fun x=>by simp) (fun x=>by simp) 7⟩
def qkl (s:Str):List AV:=[.int .i64 2,.int .i64 0,.str s,.sl 0 [] .nil]
def Qd (d:List Rg):List Ex:=d.flatMap fun r=>[jP r.1,jP r.2]
def qbO (s:Str)(d:List Rg):AV:=match d with
 | []=>.sl 4 [qkl s] .tight
 | r::q=>.sl 4 (qkl s::(Qd (r::q)).map qr) (.chain 0 (2*(q.length+1)))
def qjn (d:List Rg):List (Option Nat):=match d with
 | []=>[]
 | _::q=>[some (2*(q.length+1))]
theorem qmn (s:Str)(d:List Rg)(r:Rg)(hl:d.length<=1000)(H:List Blk):qO (Dof Tryz.prog) ⟨H,qjn d⟩ 23 (qbO s d) (.sl 4 [qr (jP r.1),qr (jP r.2)] .tight)=some (qbO s (d++[r]),⟨H,qjn (d++[r])⟩):=by
 cases d with
 | nil=>simp[qO,qbO,qjn,zL,Qd]
 | cons a q=>
  have h1:((Qd (a::q)).map qr).length=2*(q.length+1):=by rw[qqS,Qd,W9];simp
  have h2:((Qd (a::q)).map qr).length+1+2<=549755813888:=by rw[h1];simp at hl;omega
  have h3:Qd (a::q++[r])=Qd (a::q)++[jP r.1,jP r.2]:=by simp[Qd]
  have h4:2*(q.length+1)+2=2*((q++[r]).length+1):=by simp;omega
  show qO (Dof Tryz.prog) ⟨H,[some (2*(q.length+1))]⟩ 23 (.sl 4 (qkl s::(Qd (a::q)).map qr) (.chain 0 (2*(q.length+1)))) _=some (.sl 4 (qkl s::(Qd (a::q++[r])).map qr) (.chain 0 (2*((q++[r]).length+1))),⟨H,[some (2*((q++[r]).length+1))]⟩);rw[h3,<- h4];generalize (Qd (a::q))=N at h2 ⊢;simp only[qqS]at h2;simp[qO,zL,h2]
theorem qjA:∀ L:List (List AV),j7 L L
 | []=>by simp
 | a::r=>by simp
theorem qbc (s:Str)(l:List Rg)(hl:l.length<=1000):Pure Tryz.prog GG 294 [.str s,.sl 2 (l.map yH) .none] (.agg (qr (Js s l))):=by
 refine Pure.k qe Tryz.func294 rfl (by kernel_rfl) ?_;simp[-getElem?_pos,zn,zS,qF,qk,qu];refine qX.list l (fun d ev U=>ev 4=.ptr 0 0/\ev 5=qbO s d/\ev 11=.sl 2 (l.map yH) .none/\ev 12=.int .i64 l.length/\ev 13=.int .i64 d.length/\∃ t,U=⟨.cells [.int .i64 0,.int .i64 0,.str [],.sl 0 [] .nil]::t,qjn d⟩) ?_ ?_ ?_
 . exact⟨by simp,by simp[qbO,qkl],by simp,by simp,by simp,[],by simp[qjn]⟩
 . rintro d r rest ev U hd hx hlt ⟨e4,e5,e11,e12,e13,t,rfl⟩;have hw:=wr (n:=(d.length:Int)+1) (by omega) (by omega);have happ:=fun H=>qmn s d r (by omega) H
   generalize qbO s d=v5 at *;generalize qbO s (d++[r])=v6 at *;have hn:∀ n,qr (jP n)=[.int .i64 1,.int .i64 n,.str [],.sl 4 [] .none]:=fun n=>by simp[qd,jP]
   simp only[hn]at happ;have h1:=YA r.1;have h2:=YA r.2;simp only[hn]at h1 h2;simp[-getElem?_pos,e5,e11,e12,e13,hlt,hx];refine qc.call h1 (by simp) ?_;simp[-getElem?_pos];refine qc.call h2 (by simp) ?_;simp[-getElem?_pos,qk,qu,happ,hw,e4,e11,e12,e13]
 . rintro ev U ⟨e4,e5,e11,e12,e13,t,rfl⟩;obtain⟨R,tok,hv,hR,hnr⟩:∃ R tok,qbO s l=.sl 4 R tok/\j7 R ((w9 s::Qd l).map qr)/\zl R=true:=by
    have hx:zu (qkl s) (qr (w9 s)):=(by rw[qd];simp[qkl,w9,zu,Leq]);have ha:(qr (w9 s)).all AV.atom=true:=(by rw[qd];simp[AV.atom])
    cases l with
    | nil=>exact⟨_,_,rfl,by simp only[Qd,j7,qqp,qsH,qqU];exact⟨.inr ⟨hx,ha⟩,trivial⟩,by simp[qkl]⟩
    | cons a q=>
     refine⟨_,_,rfl,by simp only[j7,qqp];exact⟨.inr ⟨hx,ha⟩,qjA _⟩,?_⟩;have:=nrEs (Qd (a::q));simp only[zl,qqi];exact⟨by simp[qkl],this⟩
   rw[hv]at e5;have hE:qr (Js s l)=[.int .i64 23,.int .i64 0,.str [],.sl 4 ((w9 s::Qd l).map qr) .none]:=(by rw[qd];rfl);rw[hE];generalize (w9 s::Qd l).map qr=R' at hR;simp[-getElem?_pos,e4,e5,e12,e13,zn,zS,qF];cases tok<;>exact⟨by simpa using hnr,by simp[Leq,hR]⟩
def qkC:List (Nat×Sch×List Nat):=[(9,.step 0 [8,7,6] (.step 1 [8,7,6,5] (.step 2 [8,7,6,5,4] (.step 3 [8,7,6,5,4] (.step 4 [8,7,6,5] (.step 5 [8,7,6] (.step 6 [8,7] (.step 7 [8] (.step 8 [] (.done))))))))),[])]
theorem min16 (k:Nat):w7 (.int .i64 16) (.int .i64 (k:Int))=some (.int .i64 ((min 16 k:Nat):Int)):=by
 simp only[w7];congr 2;split<;>omega
@[simp]theorem nrRg (l:List Rg):zl (l.map yH)=true:=zy (fun x=>by simp) l
theorem sl_lo {r:List Rg}{M:Nat}(h:M<=r.length):zq (.sl 2 (r.map yH) .none) none (some (.int .i64 M)) none=some (.sl 2 ((r.take M).map yH) .none):=by
 simp[zq,zU,kv,zY,h]
theorem sl_hi {r:List Rg}{M:Nat}(h:M<=r.length):zq (.sl 2 (r.map yH) .none) (some (.int .i64 M)) none none=some (.sl 2 ((r.drop M).map yH) .none):=by
 have h2:(r.map yH).take r.length=r.map yH:=qqk (by simp);simp[zq,zU,kv,zY,h,h2]
theorem ql0 {r:List Rg}:r.take (min 16 r.length)=r.take 16/\r.drop (min 16 r.length)=r.drop 16:=by
 by_cases h:16<=r.length
 . rw[qrF h];exact⟨rfl,rfl⟩
 . rw[Nat.min_eq_right (by omega),qqk (by omega),qqk (by omega),qqO (by omega),qqO (by omega)];exact⟨rfl,rfl⟩
theorem qj1 (s:Str)(l:List Rg)(hl:l.length<=1000):Pure Tryz.prog GG 239 [.str s,.sl 2 (l.map yH) .none] (.agg (qr (Qh s l))):=by
 refine Pure.kO ⟨false,qkC,[],[]⟩ false qe Tryz.func239 rfl (by kernel_rfl) ?_;by_cases h0:l=[]
 . subst h0;have hu:Qh s []=jP 0:=rfl;have hn:=YA 0;rw[hu];simp only[jP,qd,Ex.op_mk,Ex.n_mk,Ex.name_mk,Ex.args_mk,qqU]at hn ⊢;simp[-getElem?_pos];refine qc.call hn (by simp) ?_;simp[-getElem?_pos]
 . have hpos:=qqt.2 h0;have hne:¬ (l.length:Int)=0:=(by omega);have hm16:=min16 l.length;have hml:min 16 l.length<=l.length:=qsg _ _;have hl1:=sl_lo (r:=l) hml;have hl2:=sl_hi (r:=l) hml;rw[ql0.1]at hl1;rw[ql0.2]at hl2;have hi:=qbc s (l.take 16) (by simp;omega);have hu:Qh s l=Wz s (Js s (l.take 16)) (z8 16 l.length (l.drop 16)):=if_neg h0;rw[hu];generalize hM:min 16 l.length=M at *;have hQl:(l.drop 16).length<=l.length:=(by simp);have hQ16:(l.drop 16).length<=1000:=(by omega);have near0:=qk1 (Js s (l.take 16));generalize Js s (l.take 16)=E0 at *;generalize l.take 16=P at *;generalize l.drop 16=Q0 at *;generalize hR:Wz s E0 (z8 16 l.length Q0)=R0 at *;have hE0:=qd E0;simp only[hE0]at hi near0;simp[-getElem?_pos,hne,h0,hm16,hl1,hl2];refine qc.call hi (by simp) ?_;simp[-getElem?_pos,hl1,hl2];refine qX.gen (fun n ev U=>∃ (Q:List Rg) (k:Nat) (c:List AV) (out:Ex) (t:List Blk),n=Q.length/\Q.length<=k/\Q.length<=1000/\ev 0=.str s/\ev 1=.sl 2 (Q.map yH) .none/\ev 4=.ptr 0 0/\ev 6=.ptr 1 0 /\
    U=⟨.cells [.int .i64 0,.int .i64 0,.str [],.sl 0 [] .nil]::.cells c::t,[]⟩/\Near c out/\R0=Wz s out (z8 16 k Q)) Q0.length ?_ ?_
   . exact⟨Q0,l.length,_,E0,[],rfl,hQl,hQ16,by simp,by simp,by simp,by simp,by simp,near0,hR.symm⟩
   . rintro n ev U R hRR ⟨Q,k,c,out,t,rfl,hk,hq,e0,e1,e4,e6,rfl,hnear,hres⟩;obtain⟨c0,c1,c2,c3,rfl⟩:=hnear.four;have hac:=qpY hnear.atoms;have f0:=fun H=>(hnear.fin H).1
     have f1:=fun H=>(hnear.fin H).2.1
     have f2:=fun H=>(hnear.fin H).2.2.1
     have f3:=fun H=>(hnear.fin H).2.2.2
     have hnr:=hnear.nr;have hleq:=hnear.leq;by_cases hQ:Q=[]
     . subst hQ;have hp:z8 16 k ([]:List Rg)=[]:=(by cases k<;>simp[z8]);rw[hp]at hres;have hres:R0=out:=hres;rw[hres];simp[-getElem?_pos,-qQ,-fin,-kN,-ZD,hac,f0,f1,f2,f3,e0,e1,e4,e6];simp only[qv,qqi,and_true]at hnr;exact⟨hnr,hleq⟩
     . have hQp:=qqt.2 hQ;have hQp':(0:Int)<Q.length:=(by omega);have hm16:=min16 Q.length;have hml:min 16 Q.length<=Q.length:=qsg _ _;have hl1:=sl_lo (r:=Q) hml;have hl2:=sl_hi (r:=Q) hml;rw[ql0.1]at hl1;rw[ql0.2]at hl2;have hi:=qbc s (Q.take 16) (by simp;omega);generalize min 16 Q.length=M at *;obtain⟨k,rfl⟩:∃ k',k=k'+1:=⟨k-1,by omega⟩;rw[z8,if_neg hQ]at hres;have hres:R0=Wz s (orE out (Js s (Q.take 16))) (z8 16 k (Q.drop 16)):=hres;have hdl:(Q.drop 16).length=Q.length-16:=(by simp);generalize Q.take 16=P at *;generalize Q.drop 16=Q' at *;simp[-getElem?_pos,e0,e1,e4,e6,hQ,hQp',hm16];rw[qG rfl];simp[-getElem?_pos,-qQ,hac,qN,e0,e1,e4,e6,hl1,hl2];intro _;have ha2:=yh (Js s P);have hnr2:=nrE (Js s P);have hl4:=zc (Js s P);have nn:Near [.int .i64 20,.int .i64 0,.str [],.sl 4 [[c0,c1,c2,c3],qr (Js s P)] .tight] (orE out (Js s P)) :=
        qoS (qa7 hnear.row (qa7 (.inl rfl) qlb)) (by simp only[zl,qsu,qqi];exact⟨hnear.nr,hnr2⟩)
       generalize qr (Js s P)=W at *;generalize orE out (Js s P)=O2 at *;refine qc.call hi (by simp) ?_;simp[-getElem?_pos,-qQ,hac,ha2,hl4,qpX,qpW,acl_sl,qN,e0,e1,e4,e6,hl1,hl2,zn,zS,qF,zj,qk,qu];exact hRR Q'.length _ _ (by omega) ⟨Q',k,_,O2,t,rfl,by omega,by omega,by simp[e0],by simp,by simp[e4],by simp[e6],rfl,nn,hres⟩
theorem qbw {α:Type}(p:α->Bool):∀ (l:List α) (i:Nat),(zk p l i = -1/\l.find? p=none)\/∃ k w,zk p l i=((i+k:Nat):Int)/\l[k]?=some w/\l.find? p=some w
 | [],i=>.inl ⟨rfl,rfl⟩
 | a::r,i=>by
  by_cases h:p a=true
  . exact .inr ⟨0,a,by simp[zk,h],by simp,by simp[h]⟩
  . have ih:=qbw p r (i+1);have e:zk p (a::r) i=zk p r ((i+1:Nat):Int):=(by simp[zk,h]);rw[e];rcases ih with ⟨h1,h2⟩|⟨k,w,h1,h2,h3⟩
    . exact .inl ⟨h1,by simp[h,h2]⟩
    . exact .inr ⟨k+1,w,by rw[h1];congr 1;omega,by simpa using h2,by simp[h,h3]⟩
theorem in329 (w:Weight)(n:Int):Pure Tryz.prog GG 238 [.agg (qC w),.rptr [.int .i64 n]] (.bool (inW n w)):=by
 refine Pure.k qe Tryz.func238 rfl (by kernel_rfl) ?_;unfold inW;by_cases h:w.lo<=n<;>simp[-getElem?_pos,h]
theorem app37h (H:List Blk)(s:List Int)(n:Int)(hs:s.length<2 ^ 30):qO (Dof Tryz.prog) ⟨H,Kv [] s⟩ 28 (qhv 1 qt 0 s) (.sl 1 [[.int .i64 n]] .tight)=some (qhv 1 qt 0 (s++[n]),⟨H,Kv [] (s++[n])⟩) :=
 qde (D:=Dof Tryz.prog) (sz:=1) (T:=[]) (H:=H) (m:=[n]) (en:=qt) D28 rfl D3 rfl (by decide) rfl (by decide) (by simp only[qqK];omega) 1 (.inl rfl)
def qkJ:List (Nat×Sch×List Nat):=[(10,.step 0 [5,4,1] (.step 1 [5,4] (.step 2 [5,4,3] (.step 3 [5,4] (.step 4 [5] (.step 5 [] (.done)))))),[])]
theorem qfh (p:Problem)(d:Dist)(v:Var)(i:Nat)(hi:d.var=i)(hv:p.vars[i]?=some v)(hvl:p.vars.length<=1000)(hw0:0<=v.width)(hw8:v.width<=8)(hf:Fits d.weights) :
 Pure Tryz.prog GG 177 [.agg (qE p),.agg (zH d)] (.agg (qr (Ks p.vars d))):=by
 refine Pure.kO ⟨false,qkJ,[],[]⟩ false qe Tryz.func177 rfl (by kernel_rfl) ?_;have hs:=Qp (w:=v.width) hw0 (by omega);have hsz:=WX hw8;have hsup:Ks p.vars d=Qh v.name (qhg (qci v d.weights)):=by unfold Ks;rw[hi,qqT,hv]
 have hok:=qch v d.weights;have hrk:=qct (N:=(jx v:Nat)) hok.1 (fun x hx=>by have:=hok.2 x hx;omega) (by omega);have hsl:(qci v d.weights).length<=1000:=by
  have:(qci v d.weights).length<=jx v:=by unfold qci;exact qq6 (qs4 _ _) (by simp)
  omega
 have hrg:=qhj (qci v d.weights) hsl (fun n hn=>by have:=hok.2 n hn;omega);have hun:=qj1 v.name (qhg (qci v d.weights)) (by omega);have hsn:qci v d.weights=(qaR v.width).filter (qdY d.weights):=rfl;rw[hsup];generalize Qh v.name (qhg (qci v d.weights))=U_ at *;generalize qhg (qci v d.weights)=RG at *;rw[hsn]at hrg;have hlen:=qhA v.width;have hget:∀ {d r:List Int} {x:Int},qaR v.width=d++x::r->x=d.length:=qhB;have hwn:¬ v.width<0:=by omega
 have hil:i<p.vars.length:=(qqc.1 hv).1;have hszd:jx v=2 ^ v.width.toNat:=rfl;rw[<- hszd]at hs hlen;generalize hN:jx v=N at *;generalize qaR v.width=nums at *;have hE:=qd U_;simp only[hE]at hun ⊢;simp[-getElem?_pos,hi,hv,hil,hwn,IntKind.bits,hs];refine qX.listR nums (fun dd ev U=>ev 3=.ptr 1 0/\ev 4=.ptr 2 0/\ev 5=.ptr 3 0/\ev 6=qhv 1 qt 0 (dd.filter (qdY d.weights))/\ev 17=.int .i64 N/\ev 18=.int .i64 dd.length/\∃ H,U=⟨H,Kv [] (dd.filter (qdY d.weights))⟩ /\
  H[1]?=some (.cells [.int .i64 i,.sl 4 (d.weights.map qC) .none])/\H[2]?=some (.cells [.int .i64 0,.int .i64 0,.str [],.sl 0 [] .nil])/\H[3]?=some (.cells (qA v))/\qv [AV.int .i64 0]=true) ?_ ?_ ?_
 . exact⟨by simp,by simp,by simp,by simp,by simp,by simp,_,by simp;rfl,by simp,by simp,by simp,rfl⟩
 . rintro dd n rest ev U R hR hd hx hlt ⟨e3,e4,e5,e6,e17,e18,H,rfl,H1,H2,H3,_⟩;have hnd:=hget hd;subst hnd;have hlt':dd.length<N:=(by omega);have hw:=wr (n:=(dd.length:Int)+1) (by omega) (by omega);have hfs:=qcV (qdY d.weights) dd (dd.length:Int);have hfl:(dd.filter (qdY d.weights)).length<2 ^ 30:=qrI (qs4 _ _) (by omega);have hgo:∀ (ev':Env) H' (L:List Int),L=(dd++[(dd.length:Int)]).filter (qdY d.weights)->ev' 3=.ptr 1 0->ev' 4=.ptr 2 0->ev' 5=.ptr 3 0->ev' 6=qhv 1 qt 0 L->ev' 17=.int .i64 N->ev' 18=.int .i64 (dd.length+1:Nat)->(∃ u,H'=H++u)->R ev' ⟨H',Kv [] L⟩:=by
    rintro ev' H' L rfl a3 a4 a5 a6 a17 a18 ⟨u,rfl⟩;exact hR _ _ ⟨a3,a4,a5,a6,a17,by simpa using a18,_,rfl,qa H1 u,qa H2 u,qa H3 u,rfl⟩
   simp[-getElem?_pos,e3,e4,e5,e6,e17,e18,hlt',qa H1,qa H2,qa H3];refine qc.lent (vG GG d.weights (inW dd.length) 238 [] [.rptr [.int .i64 dd.length]] hf rfl (by simp) fun w _=>in329 w dd.length) rfl ?_ ?_
   . simp[frz]
   . have hff:=qbw (inW dd.length) d.weights 0;simp only[qrL]at hff;rcases hff with ⟨k1,k2⟩|⟨k,w,k1,k2,k3⟩
     . have hp:qdY d.weights dd.length=false:=(by unfold qdY;rw[k2]);have k1:zk (inW dd.length) d.weights 0 = -1:=k1;rw[k1];rw[hp]at hfs;simp only[qqy,if_false]at hfs;simp[-getElem?_pos,e3,e4,e5,e6,e17,e18,hw];exact hgo _ _ _ hfs.symm (by simp[e3]) (by simp[e4]) (by simp[e5]) (by simp[e6]) (by simp[e17]) (by simp) ⟨_,rfl⟩
     . have k1:zk (inW dd.length) d.weights 0=(k:Nat):=k1;have hkl:=(qqc.1 k2).1;rw[k1];by_cases hp0:0<w.weight
       . have hp:qdY d.weights dd.length=true:=(by unfold qdY;rw[k3];simpa using hp0);rw[if_pos hp]at hfs;simp[-getElem?_pos,e3,e4,e5,e6,e17,e18,hw,qa H1,k2,hkl,hp0,app37h _ _ _ hfl];exact hgo _ _ _ hfs.symm (by simp[e3]) (by simp[e4]) (by simp[e5]) (by simp) (by simp[e17]) (by simp) ⟨_,rfl⟩
       . have hp:qdY d.weights dd.length=false:=(by unfold qdY;rw[k3];simpa using hp0);rw[hp]at hfs;simp only[qqy,if_false]at hfs;simp[-getElem?_pos,e3,e4,e5,e6,e17,e18,hw,qa H1,k2,hkl,hp0];exact hgo _ _ _ hfs.symm (by simp[e3]) (by simp[e4]) (by simp[e5]) (by simp[e6]) (by simp[e17]) (by simp) ⟨_,rfl⟩
 . rintro ev U ⟨e3,e4,e5,e6,e17,e18,H,rfl,H1,H2,H3,_⟩;rw[hlen]at e18;have H2l:=(qqc.1 H2).1;simp[-getElem?_pos,e3,e4,e5,e6,e17,e18];rw[qG rfl];simp[-getElem?_pos,qN,e3,e4,e5,e6,e17,e18,H3];refine qc.pure hrg (by simp only[qqp,qqU,K4,qv,qsu];exact qfD (fun x=>by simp)) (by simp only[qqp,qqU,K4,zu,and_true];exact qk9) ?_;simp[-getElem?_pos,qN,e3,e4,e5,e6,e17,e18,H3];refine qc.call hun (by simp) ?_;simp[-getElem?_pos,qN,e3,e4,e5,e6,e17,e18,H2,H2l]
end Go.Proofs.YtkpkjbchlabaaaaGreatDoor
end
