/- A part of the proof. -/
import Derived.Test.YtcadpamddlofjaaGreatDoorPa30
set_option maxHeartbeats 16000000
set_option linter.unusedVariables false
set_option linter.unusedSimpArgs false
set_option maxRecDepth 100000
set_option linter.defProp false
section
namespace Go.Proofs.YtcadpamddlofjaaGreatDoor
open Go Go.Abs
theorem Yc (n:Int):Pure Tryz.prog GG 224 [.int .i64 n] (.agg (qt (jK n))):=by
 refine Pure.k qe Tryz.func224 rfl (by kernel_rfl) ?_;simp[-getElem?_pos,jK,qd,zl,zP,qA]
theorem rg_set {L:List Rg}{r:Rg}{n:Int}:((L++[r]).flatMap yt).set (L.length*2+1) (.int .i64 n)=(L++[(r.1,n)]).flatMap yt:=by
 rw[List.flatMap_append,List.flatMap_append,qpW _ _ (by rw[flat_len (sz:=2) (fun x=>by simp)];omega),flat_len (sz:=2) (fun x=>by simp)];have:L.length*2+1-L.length*2=1:=by omega
 rw[this];simp
theorem qlD (out:List Rg)(n:Int):(Z0 out n).length<=out.length+1:=by
 unfold Z0
 cases h:out.getLast? with
 | none=>simp
 | some r=>
  simp only;split<;>simp
theorem qaM:∀ (l:List Int) (out:List Rg),(l.foldl Z0 out).length<=out.length+l.length
 | [],out=>by simp
 | n::l,out=>by
  rw[qpP];have:=qaM l (Z0 out n);have:=qlD out n;simp;omega
theorem qgx (l:List Int)(hl:l.length<=1000)(hn:∀ n∈l,0<=n/\n<=65535):Pure Tryz.prog GG 167 [.sl 1 (l.map qu) .none] (.sl 2 ((qgu l).map yt) .none):=by
 refine Pure.kO ⟨true,[],[],[]⟩ true qe Tryz.func167 rfl (by kernel_rfl) ?_;have hr:qgu l=l.foldl Z0 []:=rfl;generalize qgu l=O at hr;simp[-getElem?_pos];refine qJ.listR l (fun d ev U=>ev 7=.sl 1 (l.map qu) .none/\ev 8=.int .i64 l.length/\ev 9=.int .i64 d.length/\∃ H b,U=⟨H,[]⟩/\js b 2 yt H (ev 3) (d.foldl Z0 [])) ?_ ?_ ?_
 . exact⟨by simp,by simp,by simp,[],0,by simp,.inl ⟨rfl,by simp⟩⟩
 . rintro d n rest ev U R hR hd hx hlt ⟨e7,e8,e9,H,b,rfl,ho⟩;have hw:=wr (n:=(d.length:Int)+1) (by omega) (by omega);have hlen:(d.foldl Z0 []).length<=d.length:=(by have:=qaM d [];simpa using this);have hnn:=hn n (qoZ hx);have hwn:=wr (n:=n-1) (by omega) (by omega);have hnext:(d++[n]).foldl Z0 []=Z0 (d.foldl Z0 []) n:=(by simp);generalize d.foldl Z0 []=L at *;have hgo:∀ (ev':Env) H' b',ev' 7=.sl 1 (l.map qu) .none->ev' 8=.int .i64 l.length->ev' 9=.int .i64 (d.length+1:Nat)->js b' 2 yt H' (ev' 3) (Z0 L n)->R ev' ⟨H',[]⟩:=fun ev' H' b' a1 a2 a3 a4=>
    hR _ _ ⟨a1,a2,by simpa using a3,H',b',rfl,by rw[hnext];exact a4⟩
   have hnew:∀ (ev':Env),ev' 3=ev 3->True:=fun _ _=>trivial
   generalize hv3:ev 3=v3 at *
   cases hg:L.getLast? with
   | none=>
    have hL:L=[]:=qrn.1 hg;have hadd:Z0 L n=[(n,n)]:=(by subst hL;rfl);obtain⟨v',b',H2,hY,ho2,_,_,_⟩:=ho.appendK (P:=Tryz.prog) (G:=z5 GG) (o:=⟨true,[],[],[]⟩) (T:=[]) (m:=[(n,n)]) (tok:=.tight) D212 rfl D269 rfl (by omega) rfl (by decide) (fun x=>by simp) (by simp;omega);subst hL;rcases ho with ⟨_,rfl⟩|⟨h,_⟩
    case inr=>exact absurd rfl h
    have hm1:IntKind.i64.wrap (-1) = -1:=(by decide);simp only[qo9,qpv,yt]at hY;simp[-getElem?_pos,hv3,hY,e7,e8,e9,hlt,hx,hw,hm1,zl,zP,qA,qm,qz];exact hgo _ _ _ (by simp[e7]) (by simp[e8]) (by simp) (by rw[hadd];simpa using ho2)
   | some r=>
    obtain⟨L',rfl⟩:=qrW.1 hg;have hLne:L'++[r]≠[]:=(by simp);obtain⟨hv,hb⟩:=ho.at hLne;have hll:(L'++[r]).length=L'.length+1:=(by simp);have hlw:=wr (n:=(L'.length:Int)) (by omega) (by omega);have hf0:(L'.flatMap yt).length=L'.length*2:=flat_len (sz:=2) (fun x=>by simp) L';have hfe:(L'++[r]).flatMap yt=L'.flatMap yt++[.int .i64 r.1,.int .i64 r.2]:=(by rw[List.flatMap_append];simp);have hfl:((L'++[r]).flatMap yt).drop (L'.length*2+1)=[.int .i64 r.2]:=by
     rw[hfe,qqr,hf0,qpz (by omega),show L'.length*2+1-L'.length*2=1 by omega];rfl
    have hln:((L'++[r]).flatMap yt).length=L'.length*2+2:=(by rw[hfe,qo3,hf0];rfl);have hsetl:=rg_set (L:=L') (r:=r) (n:=n);have hbl:=(qoX.1 hb).1;rw[hll]at hv;subst hv;have hlt2:(L'.length:Int)<L'.length+1:=(by omega);have hle2:L'.length*2+1+1<=L'.length*2+2:=(by omega);by_cases hr2:r.2=n-1
    . have hadd:Z0 (L'++[r]) n=L'++[(r.1,n)]:=(by unfold Z0;rw[hg];simp[hr2]);generalize (L'++[r]).flatMap yt=fl at *;simp[-getElem?_pos,hv3,hb,hlt2,hle2,hfl,hln,hsetl,hlw,hwn,hr2,hw,e7,e8,e9,hlt,hx];exact hgo _ _ b (by simp[e7]) (by simp[e8]) (by simp) (by
       rw[hadd];exact .inr ⟨by simp,by simp[hv3],by rw[qo2 hbl];simp⟩)
    . have hadd:Z0 (L'++[r]) n=L'++[r]++[(n,n)]:=(by unfold Z0;rw[hg];simp[hr2]);obtain⟨v',b',H2,hY,ho2,_,_,_⟩:=ho.appendK (P:=Tryz.prog) (G:=z5 GG) (o:=⟨true,[],[],[]⟩) (T:=[]) (m:=[(n,n)]) (tok:=.tight) D212 rfl D269 rfl (by omega) rfl (by decide) (fun x=>by simp) (by simp at hlen ⊢;omega);simp only[qo9,qpv,yt]at hY;generalize (L'++[r]).flatMap yt=fl at *;simp[-getElem?_pos,hv3,hb,hlt2,hle2,hfl,hln,hsetl,hlw,hwn,hr2,hw,e7,e8,e9,hlt,hx,hY,zl,zP,qA,qm,qz];exact hgo _ _ b' (by simp[e7]) (by simp[e8]) (by simp) (by rw[hadd];simpa using ho2)
 . rintro ev U ⟨e7,e8,e9,H,b,rfl,ho⟩;rw[<- hr]at ho;simp[-getElem?_pos,e8,e9];exact⟨ho.frzNo (fun x=>by simp) (fun x=>by simp) (fun x=>by simp) 7,ho.frz (fun x=>by simp) (fun x=>by simp) (fun x=>by simp) 7⟩
def qjK (s:Str):List AV:=[.int .i64 2,.int .i64 0,.str s,.sl 0 [] .nil]
def vS (d:List Rg):List Ex:=d.flatMap fun r=>[jK r.1,jK r.2]
def qbc (s:Str)(d:List Rg):AV:=match d with
 | []=>.sl 4 [qjK s] .tight
 | r::q=>.sl 4 (qjK s::(vS (r::q)).map qt) (.chain 0 (2*(q.length+1)))
def qiL (d:List Rg):List (Option Nat):=match d with
 | []=>[]
 | _::q=>[some (2*(q.length+1))]
theorem qly (s:Str)(d:List Rg)(r:Rg)(hl:d.length<=1000)(H:List Blk):qN (Dof Tryz.prog) ⟨H,qiL d⟩ 23 (qbc s d) (.sl 4 [qt (jK r.1),qt (jK r.2)] .tight)=some (qbc s (d++[r]),⟨H,qiL (d++[r])⟩):=by
 cases d with
 | nil=>simp[qN,qbc,qiL,zI,vS]
 | cons a q=>
  have h1:((vS (a::q)).map qt).length=2*(q.length+1):=by rw[qpK,vS,WI];simp
  have h2:((vS (a::q)).map qt).length+1+2<=549755813888:=by rw[h1];simp at hl;omega
  have h3:vS (a::q++[r])=vS (a::q)++[jK r.1,jK r.2]:=by simp[vS]
  have h4:2*(q.length+1)+2=2*((q++[r]).length+1):=by simp;omega
  show qN (Dof Tryz.prog) ⟨H,[some (2*(q.length+1))]⟩ 23 (.sl 4 (qjK s::(vS (a::q)).map qt) (.chain 0 (2*(q.length+1)))) _=some (.sl 4 (qjK s::(vS (a::q++[r])).map qt) (.chain 0 (2*((q++[r]).length+1))),⟨H,[some (2*((q++[r]).length+1))]⟩);rw[h3,<- h4];generalize (vS (a::q))=N at h2 ⊢;simp only[qpK]at h2;simp[qN,zI,h2]
theorem qbk:∀ L:List (List AV),jO L L
 | []=>by simp[jO]
 | a::r=>by simp[jO,qbk r]
theorem qax (s:Str)(l:List Rg)(hl:l.length<=1000):Pure Tryz.prog GG 225 [.str s,.sl 2 (l.map yt) .none] (.agg (qt (Ja s l))):=by
 refine Pure.k qe Tryz.func225 rfl (by kernel_rfl) ?_;simp[-getElem?_pos,zl,zP,qA,qm,qz];refine qJ.list l (fun d ev U=>ev 4=.ptr 0 0/\ev 5=qbc s d/\ev 11=.sl 2 (l.map yt) .none/\ev 12=.int .i64 l.length/\ev 13=.int .i64 d.length/\∃ t,U=⟨.cells [.int .i64 0,.int .i64 0,.str [],.sl 0 [] .nil]::t,qiL d⟩) ?_ ?_ ?_
 . exact⟨by simp,by simp[qbc,qjK],by simp,by simp,by simp,[],by simp[qiL]⟩
 . rintro d r rest ev U hd hx hlt ⟨e4,e5,e11,e12,e13,t,rfl⟩;have hw:=wr (n:=(d.length:Int)+1) (by omega) (by omega);have happ:=fun H=>qly s d r (by omega) H
   generalize qbc s d=v5 at *;generalize qbc s (d++[r])=v6 at *;have hn:∀ n,qt (jK n)=[.int .i64 1,.int .i64 n,.str [],.sl 4 [] .none]:=fun n=>by simp[qd,jK]
   simp only[hn]at happ;have h1:=Yc r.1;have h2:=Yc r.2;simp only[hn]at h1 h2;simp[-getElem?_pos,e4,e5,e11,e12,e13,hlt,hx];refine qc.call h1 (by simp) ?_;simp[-getElem?_pos];refine qc.call h2 (by simp) ?_;simp[-getElem?_pos,qm,qz,happ,hw,e4,e5,e11,e12,e13]
 . rintro ev U ⟨e4,e5,e11,e12,e13,t,rfl⟩;obtain⟨R,tok,hv,hR,hnr⟩:∃ R tok,qbc s l=.sl 4 R tok/\jO R ((Q8 s::vS l).map qt)/\zj R=true:=by
    have hx:zn (qjK s) (qt (Q8 s)):=(by rw[qd];simp[qjK,Q8,zn,Leq]);have ha:(qt (Q8 s)).all AV.atom=true:=(by rw[qd];simp[AV.atom])
    cases l with
    | nil=>exact⟨_,_,rfl,by simp only[vS,jO,qo9,qrA,qpv];exact⟨.inr ⟨hx,ha⟩,trivial⟩,by simp[qjK]⟩
    | cons a q=>
     refine⟨_,_,rfl,by simp only[jO,qo9];exact⟨.inr ⟨hx,ha⟩,qbk _⟩,?_⟩;have:=nrEs (vS (a::q));simp only[zj,qo0];exact⟨by simp[qjK],this⟩
   rw[hv]at e5;have hE:qt (Ja s l)=[.int .i64 23,.int .i64 0,.str [],.sl 4 ((Q8 s::vS l).map qt) .none]:=(by rw[qd];rfl);rw[hE];generalize (Q8 s::vS l).map qt=R' at hR;simp[-getElem?_pos,e4,e5,e11,e12,e13,zl,zP,qA,hnr];cases tok<;>exact⟨by simpa using hnr,by simp[Leq,hR]⟩
def qjX:List (Nat×Sch×List Nat):=[(9,.step 0 [8,7,6] (.step 1 [8,7,6,5] (.step 2 [8,7,6,5,4] (.step 3 [8,7,6,5,4] (.step 4 [8,7,6,5] (.step 5 [8,7,6] (.step 6 [8,7] (.step 7 [8] (.step 8 [] (.done))))))))),[])]
theorem min16 (k:Nat):vT (.int .i64 16) (.int .i64 (k:Int))=some (.int .i64 ((min 16 k:Nat):Int)):=by
 simp only[vT];congr 2;split<;>omega
@[simp]theorem nrRg (l:List Rg):zj (l.map yt)=true:=zE (fun x=>by simp) l
theorem sl_lo {r:List Rg}{M:Nat}(h:M<=r.length):zo (.sl 2 (r.map yt) .none) none (some (.int .i64 M)) none=some (.sl 2 ((r.take M).map yt) .none):=by
 simp[zo,zU,yL,zY,h]
theorem sl_hi {r:List Rg}{M:Nat}(h:M<=r.length):zo (.sl 2 (r.map yt) .none) (some (.int .i64 M)) none none=some (.sl 2 ((r.drop M).map yt) .none):=by
 have h2:(r.map yt).take r.length=r.map yt:=qo6 (by simp);simp[zo,zU,yL,zY,h,h2]
theorem qlh {r:List Rg}:r.take (min 16 r.length)=r.take 16/\r.drop (min 16 r.length)=r.drop 16:=by
 by_cases h:16<=r.length
 . rw[qrD h];exact⟨rfl,rfl⟩
 . rw[Nat.min_eq_right (by omega),qo6 (by omega),qo6 (by omega),qpz (by omega),qpz (by omega)];exact⟨rfl,rfl⟩
theorem qjp (s:Str)(l:List Rg)(hl:l.length<=1000):Pure Tryz.prog GG 166 [.str s,.sl 2 (l.map yt) .none] (.agg (qt (vY s l))):=by
 refine Pure.kO ⟨false,qjX,[],[]⟩ false qe Tryz.func166 rfl (by kernel_rfl) ?_;by_cases h0:l=[]
 . subst h0;have hu:vY s []=jK 0:=rfl;have hn:=Yc 0;rw[hu];simp only[jK,qd,Ex.op_mk,Ex.n_mk,Ex.name_mk,Ex.args_mk,qpv]at hn ⊢;simp[-getElem?_pos];refine qc.call hn (by simp) ?_;simp[-getElem?_pos]
 . have hpos:=qpe.2 h0;have hne:¬ (l.length:Int)=0:=(by omega);have hm16:=min16 l.length;have hml:min 16 l.length<=l.length:=qr2 _ _;have hl1:=sl_lo (r:=l) hml;have hl2:=sl_hi (r:=l) hml;rw[qlh.1]at hl1;rw[qlh.2]at hl2;have hi:=qax s (l.take 16) (by simp;omega);have hu:vY s l=Wh s (Ja s (l.take 16)) (jc 16 l.length (l.drop 16)):=if_neg h0;rw[hu];generalize hM:min 16 l.length=M at *;have hQl:(l.drop 16).length<=l.length:=(by simp);have hQ16:(l.drop 16).length<=1000:=(by omega);have near0:=qkh (Ja s (l.take 16));generalize Ja s (l.take 16)=E0 at *;generalize l.take 16=P at *;generalize l.drop 16=Q0 at *;generalize hR:Wh s E0 (jc 16 l.length Q0)=R0 at *;have hE0:=qd E0;simp only[hE0]at hi near0;simp[-getElem?_pos,hne,h0,hm16,hl1,hl2];refine qc.call hi (by simp) ?_;simp[-getElem?_pos,hl1,hl2];refine qJ.gen (fun n ev U=>∃ (Q:List Rg) (k:Nat) (c:List AV) (out:Ex) (t:List Blk),n=Q.length/\Q.length<=k/\Q.length<=1000/\ev 0=.str s/\ev 1=.sl 2 (Q.map yt) .none/\ev 4=.ptr 0 0/\ev 6=.ptr 1 0 /\
    U=⟨.cells [.int .i64 0,.int .i64 0,.str [],.sl 0 [] .nil]::.cells c::t,[]⟩/\Near c out/\R0=Wh s out (jc 16 k Q)) Q0.length ?_ ?_
   . exact⟨Q0,l.length,_,E0,[],rfl,hQl,hQ16,by simp,by simp,by simp,by simp,by simp,near0,hR.symm⟩
   . rintro n ev U R hRR ⟨Q,k,c,out,t,rfl,hk,hq,e0,e1,e4,e6,rfl,hnear,hres⟩;obtain⟨c0,c1,c2,c3,rfl⟩:=hnear.four;have hac:=qoM hnear.atoms;have f0:=fun H=>(hnear.fin H).1
     have f1:=fun H=>(hnear.fin H).2.1
     have f2:=fun H=>(hnear.fin H).2.2.1
     have f3:=fun H=>(hnear.fin H).2.2.2
     have hnr:=hnear.nr;have hleq:=hnear.leq;by_cases hQ:Q=[]
     . subst hQ;have hp:jc 16 k ([]:List Rg)=[]:=(by cases k<;>simp[jc]);rw[hp]at hres;have hres:R0=out:=hres;rw[hres];simp[-getElem?_pos,-qZ,-fin,-kv,-Zr,hac,f0,f1,f2,f3,e0,e1,e4,e6];simp only[qp,qo0,and_true]at hnr;exact⟨hnr,hleq⟩
     . have hQp:=qpe.2 hQ;have hQp':(0:Int)<Q.length:=(by omega);have hm16:=min16 Q.length;have hml:min 16 Q.length<=Q.length:=qr2 _ _;have hl1:=sl_lo (r:=Q) hml;have hl2:=sl_hi (r:=Q) hml;rw[qlh.1]at hl1;rw[qlh.2]at hl2;have hi:=qax s (Q.take 16) (by simp;omega);generalize min 16 Q.length=M at *;obtain⟨k,rfl⟩:∃ k',k=k'+1:=⟨k-1,by omega⟩;rw[jc,if_neg hQ]at hres;have hres:R0=Wh s (orE out (Ja s (Q.take 16))) (jc 16 k (Q.drop 16)):=hres;have hdl:(Q.drop 16).length=Q.length-16:=(by simp);generalize Q.take 16=P at *;generalize Q.drop 16=Q' at *;simp[-getElem?_pos,e0,e1,e4,e6,hQ,hQp',hm16];rw[qI rfl];simp[-getElem?_pos,-qZ,hac,qP,e0,e1,e4,e6,hl1,hl2];intro _;have ha2:=ko (Ja s P);have hnr2:=nrE (Ja s P);have hl4:=zf (Ja s P);have nn:Near [.int .i64 20,.int .i64 0,.str [],.sl 4 [[c0,c1,c2,c3],qt (Ja s P)] .tight] (orE out (Ja s P)) :=
        qnW (qaq hnear.row (qaq (.inl rfl) qkr)) (by simp only[zj,qqN,qo0];exact⟨hnear.nr,hnr2⟩)
       generalize qt (Ja s P)=W at *;generalize orE out (Ja s P)=O2 at *;refine qc.call hi (by simp) ?_;simp[-getElem?_pos,-qZ,hac,ha2,hl4,qoL,qoK,acl_sl,qP,e0,e1,e4,e6,hl1,hl2,zl,zP,qA,zp,qm,qz];exact hRR Q'.length _ _ (by omega) ⟨Q',k,_,O2,t,rfl,by omega,by omega,by simp[e0],by simp,by simp[e4],by simp[e6],rfl,nn,hres⟩
theorem qaV {α:Type}(p:α->Bool):∀ (l:List α) (i:Nat),(zm p l i = -1/\l.find? p=none)\/∃ k w,zm p l i=((i+k:Nat):Int)/\l[k]?=some w/\l.find? p=some w
 | [],i=>.inl ⟨rfl,rfl⟩
 | a::r,i=>by
  by_cases h:p a=true
  . exact .inr ⟨0,a,by simp[zm,h],by simp,by simp[h]⟩
  . have ih:=qaV p r (i+1);have e:zm p (a::r) i=zm p r ((i+1:Nat):Int):=(by simp[zm,h]);rw[e];rcases ih with ⟨h1,h2⟩|⟨k,w,h1,h2,h3⟩
    . exact .inl ⟨h1,by simp[h,h2]⟩
    . exact .inr ⟨k+1,w,by rw[h1];congr 1;omega,by simpa using h2,by simp[h,h3]⟩
theorem in329 (w:Weight)(n:Int):Pure Tryz.prog GG 165 [.agg (qB w),.rptr [.int .i64 n]] (.bool (inW n w)):=by
 refine Pure.k qe Tryz.func165 rfl (by kernel_rfl) ?_;unfold inW;by_cases h:w.lo<=n<;>simp[-getElem?_pos,h]
theorem app37h (H:List Blk)(s:List Int)(n:Int)(hs:s.length<2 ^ 30):qN (Dof Tryz.prog) ⟨H,Z8 [] s⟩ 41 (Y8 1 qu 0 s) (.sl 1 [[.int .i64 n]] .tight)=some (Y8 1 qu 0 (s++[n]),⟨H,Z8 [] (s++[n])⟩) :=
 Y2 (D:=Dof Tryz.prog) (sz:=1) (T:=[]) (H:=H) (m:=[n]) (en:=qu) D41 rfl D3 rfl (by decide) rfl (by decide) (by simp only[qpu];omega) 1 (.inl rfl)
def qj3:List (Nat×Sch×List Nat):=[(10,.step 0 [5,4,1] (.step 1 [5,4] (.step 2 [5,4,3] (.step 3 [5,4] (.step 4 [5] (.step 5 [] (.done)))))),[])]
theorem qez (p:Problem)(d:Dist)(v:Var)(i:Nat)(hi:d.var=i)(hv:p.vars[i]?=some v)(hvl:p.vars.length<=1000)(hw0:0<=v.width)(hw8:v.width<=8)(hf:Fits d.weights) :
 Pure Tryz.prog GG 125 [.agg (qL p),.agg (zC d)] (.agg (qt (Kf p.vars d))):=by
 refine Pure.kO ⟨false,qj3,[],[]⟩ false qe Tryz.func125 rfl (by kernel_rfl) ?_;have hs:=wb (w:=v.width) hw0 (by omega);have hsz:=Wx hw8;have hsup:Kf p.vars d=vY v.name (qgu (qbF v d.weights)):=by unfold Kf;rw[hi,qpQ,hv]
 have hok:=qbE v d.weights;have hrk:=qbQ (N:=(z4 v:Nat)) hok.1 (fun x hx=>by have:=hok.2 x hx;omega) (by omega);have hsl:(qbF v d.weights).length<=1000:=by
  have:(qbF v d.weights).length<=z4 v:=by unfold qbF;exact qp4 (qrB _ _) (by simp)
  omega
 have hrg:=qgx (qbF v d.weights) hsl (fun n hn=>by have:=hok.2 n hn;omega);have hun:=qjp v.name (qgu (qbF v d.weights)) (by omega);have hsn:qbF v d.weights=(qab v.width).filter (qda d.weights):=rfl;rw[hsup];generalize vY v.name (qgu (qbF v d.weights))=U_ at *;generalize qgu (qbF v d.weights)=RG at *;rw[hsn]at hrg;have hlen:=qgS v.width;have hget:∀ {d r:List Int} {x:Int},qab v.width=d++x::r->x=d.length:=qgT;have hwn:¬ v.width<0:=by omega
 have hil:i<p.vars.length:=(qoX.1 hv).1;have hszd:z4 v=2 ^ v.width.toNat:=rfl;rw[<- hszd]at hs hlen;generalize hN:z4 v=N at *;generalize qab v.width=nums at *;have hE:=qd U_;simp only[hE]at hun ⊢;simp[-getElem?_pos,hi,hv,hil,hwn,IntKind.bits,hs];refine qJ.listR nums (fun dd ev U=>ev 3=.ptr 1 0/\ev 4=.ptr 2 0/\ev 5=.ptr 3 0/\ev 6=Y8 1 qu 0 (dd.filter (qda d.weights))/\ev 17=.int .i64 N/\ev 18=.int .i64 dd.length/\∃ H,U=⟨H,Z8 [] (dd.filter (qda d.weights))⟩ /\
  H[1]?=some (.cells [.int .i64 i,.sl 4 (d.weights.map qB) .none])/\H[2]?=some (.cells [.int .i64 0,.int .i64 0,.str [],.sl 0 [] .nil])/\H[3]?=some (.cells (qx v))/\qp [AV.int .i64 0]=true) ?_ ?_ ?_
 . exact⟨by simp,by simp,by simp,by simp,by simp,by simp,_,by simp;rfl,by simp,by simp,by simp,rfl⟩
 . rintro dd n rest ev U R hR hd hx hlt ⟨e3,e4,e5,e6,e17,e18,H,rfl,H1,H2,H3,_⟩;have hnd:=hget hd;subst hnd;have hlt':dd.length<N:=(by omega);have hw:=wr (n:=(dd.length:Int)+1) (by omega) (by omega);have hfs:=qci (qda d.weights) dd (dd.length:Int);have hfl:(dd.filter (qda d.weights)).length<2 ^ 30:=qrt (qrB _ _) (by omega);have hgo:∀ (ev':Env) H' (L:List Int),L=(dd++[(dd.length:Int)]).filter (qda d.weights)->ev' 3=.ptr 1 0->ev' 4=.ptr 2 0->ev' 5=.ptr 3 0->ev' 6=Y8 1 qu 0 L->ev' 17=.int .i64 N->ev' 18=.int .i64 (dd.length+1:Nat)->(∃ u,H'=H++u)->R ev' ⟨H',Z8 [] L⟩:=by
    rintro ev' H' L rfl a3 a4 a5 a6 a17 a18 ⟨u,rfl⟩;exact hR _ _ ⟨a3,a4,a5,a6,a17,by simpa using a18,_,rfl,qa H1 u,qa H2 u,qa H3 u,rfl⟩
   simp[-getElem?_pos,e3,e4,e5,e6,e17,e18,hlt',qa H1,qa H2,qa H3];refine qc.lent (vd GG d.weights (inW dd.length) 165 [] [.rptr [.int .i64 dd.length]] hf rfl (by simp) fun w _=>in329 w dd.length) rfl ?_ ?_
   . simp[frz]
   . have hff:=qaV (inW dd.length) d.weights 0;simp only[qqT]at hff;rcases hff with ⟨k1,k2⟩|⟨k,w,k1,k2,k3⟩
     . have hp:qda d.weights dd.length=false:=(by unfold qda;rw[k2]);have k1:zm (inW dd.length) d.weights 0 = -1:=k1;rw[k1];rw[hp]at hfs;simp only[qpi,if_false]at hfs;simp[-getElem?_pos,e3,e4,e5,e6,e17,e18,hw];exact hgo _ _ _ hfs.symm (by simp[e3]) (by simp[e4]) (by simp[e5]) (by simp[e6]) (by simp[e17]) (by simp) ⟨_,rfl⟩
     . have k1:zm (inW dd.length) d.weights 0=(k:Nat):=k1;have hkl:=(qoX.1 k2).1;rw[k1];by_cases hp0:0<w.weight
       . have hp:qda d.weights dd.length=true:=(by unfold qda;rw[k3];simpa using hp0);rw[if_pos hp]at hfs;simp[-getElem?_pos,e3,e4,e5,e6,e17,e18,hw,qa H1,k2,hkl,hp0,app37h _ _ _ hfl];exact hgo _ _ _ hfs.symm (by simp[e3]) (by simp[e4]) (by simp[e5]) (by simp) (by simp[e17]) (by simp) ⟨_,rfl⟩
       . have hp:qda d.weights dd.length=false:=(by unfold qda;rw[k3];simpa using hp0);rw[hp]at hfs;simp only[qpi,if_false]at hfs;simp[-getElem?_pos,e3,e4,e5,e6,e17,e18,hw,qa H1,k2,hkl,hp0];exact hgo _ _ _ hfs.symm (by simp[e3]) (by simp[e4]) (by simp[e5]) (by simp[e6]) (by simp[e17]) (by simp) ⟨_,rfl⟩
 . rintro ev U ⟨e3,e4,e5,e6,e17,e18,H,rfl,H1,H2,H3,_⟩;rw[hlen]at e18;have H2l:=(qoX.1 H2).1;simp[-getElem?_pos,e3,e4,e5,e6,e17,e18];rw[qI rfl];simp[-getElem?_pos,qP,e3,e4,e5,e6,e17,e18,H3];refine qc.pure hrg (by simp only[qo9,qpv,KJ,qp,qqN];exact qeP (fun x=>by simp)) (by simp only[qo9,qpv,KJ,zn,and_true];exact qkp) ?_;simp[-getElem?_pos,qP,e3,e4,e5,e6,e17,e18,H3];refine qc.call hun (by simp) ?_;simp[-getElem?_pos,qP,e3,e4,e5,e6,e17,e18,H2,H2l]
theorem qfZ {p:Problem}(h:qr p=0):∀ d∈p.dists,∃ (i:Nat) (v:Var),d.var=i/\p.vars[i]?=some v:=by
 have hd:yl p.vars p.dists=0:=by
  unfold qr at h;split at h
  . exact absurd h (by assumption)
  . split at h
    . rename_i h1;exact absurd h h1
    . split at h
      . rename_i h1;exact absurd h h1
      . rename_i h1;exact qqj.1 h1
 intro d hm;obtain⟨k,hk⟩:=qpD hm;have hkl:=(qoX.1 hk).1;unfold yl at hd;have:=zF.1 hd k (by simp;omega);unfold jz at this;rw[hk]at this;simp only at this;split at this
 . cases this
 . rename_i hr;have hr:yh p.vars d.var=true:=(by simpa using hr);simp only[yh,qo0,decide_eq_true_eq]at hr;obtain⟨j,hj⟩:=qpC hr.1;rw[hj]at hr;simp only[qpQ]at hr
   cases hv:p.vars[j]? with
   | none=>rw[hv]at hr;simp at hr
   | some v=>exact⟨j,v,hj,hv⟩
noncomputable def yo (p:Problem):List Ex:=if qr p=0 then Qu p else []
theorem ZD (p:Problem)(h:VQ p)(hd:p.dists.length<=10000):Pure Tryz.prog GG 86 [.agg (qL p)] (.sl 4 ((yo p).map qt) .none):=by
 refine Pure.k qe Tryz.func86 rfl (by kernel_rfl) ?_;have hval:=jZ p h;simp only[qL]at hval;by_cases hv:qr p=0
 case neg=>
  have:yo p=[]:=if_neg hv;rw[this];simp[-getElem?_pos];refine qc.call hval (by simp) ?_;simp[-getElem?_pos,hv,Leq]
 have hs:yo p=p.dists.map (Kf p.vars):=if_pos hv;rw[hs];have hdl:(p.dists.length:Int)<=549755813888:=by omega
 simp[-getElem?_pos];refine qc.call hval (by simp) ?_;simp[-getElem?_pos,hv,qw,hdl];have hvd:=qfZ hv;refine qJ.listR p.dists (fun d ev U=>ev 1=.ptr 0 0/\ev 3=.sl 4 ((d.map (Kf p.vars)).map qt) (.chain 0 d.length)/\ev 14=.sl 2 (p.dists.map zC) .none/\ev 15=.int .i64 p.dists.length/\ev 16=.int .i64 d.length/\∃ t,U=⟨.cells (qL p)::t,[some d.length]⟩) ?_ ?_ ?_
 . exact⟨by simp,by simp,by simp,by simp,by simp,[],by simp⟩
 . rintro d x rest ev U R hR hd2 hx hlt ⟨e1,e3,e14,e15,e16,t,rfl⟩;have hdw:=wr (n:=(d.length:Int)+1) (by omega) (by omega);have hm:=qoZ hx;obtain⟨i,v,hi,hvi⟩:=hvd x hm;have hvw:=zk (jA hv v (qoZ hvi));have hsup:=qez p x v i hi hvi h.vars (by omega) (by omega) (h.weights x hm);have hsn:(d++[x]).map (Kf p.vars)=d.map (Kf p.vars)++[Kf p.vars x]:=(by simp);have hml:(d.map (Kf p.vars)).length=d.length:=(by simp);have ha:=ko (Kf p.vars x);have hl4:=zf (Kf p.vars x);generalize Kf p.vars x=X at *;generalize d.map (Kf p.vars)=D at *;have happ:∀ H,qN (Dof Tryz.prog) ⟨H,[some d.length]⟩ 23 (.sl 4 (D.map qt) (.chain 0 d.length)) (.sl 4 [qt X] .tight)=some (.sl 4 ((D++[X]).map qt) (.chain 0 (d.length+1)),⟨H,[some (d.length+1)]⟩):=fun H=>by
    have h1:D.length+1<=549755813888:=(by omega);simp[qN,zI,h1]
   simp only[qL]at hsup;simp[-getElem?_pos,-qZ,e1,e3,e14,e15,e16,hlt,hx];refine qc.call hsup (by simp) ?_;simp[-getElem?_pos,-qZ,ha,hl4,e1,e3,e14,e15,e16,hdw,qm,qz,happ];refine hR _ _ ⟨by simp[e1],by rw[hsn];simp,by simp[e14],by simp[e15],by simp,t++[.cells (zC x)],?_⟩;simp
 . rintro ev U ⟨e1,e3,e14,e15,e16,t,rfl⟩;have hn:=nrEs (p.dists.map (Kf p.vars));rw[qqd]at hn;simp[-getElem?_pos,e3,e15,e16,hn]
theorem J4:∀ (new c:List AV) (off:Nat),(zp c off new).length=c.length
 | [],c,off=>rfl
 | v::r,c,off=>by rw[zp,J4 r];simp
theorem V0 (A B Z:List AV)(h:Z.length=A.length+B.length):zp (zp Z 0 A) A.length B=A++B:=by
 obtain⟨Z1,Z2,rfl,h1⟩:∃ Z1 Z2,Z=Z1++Z2/\Z1.length=A.length:=⟨Z.take A.length,Z.drop A.length,(qpY _ _).symm,by rw[qpA];omega⟩;rw[we A Z1 Z2 h1];have:=wY (c:=Z2) B A 0;rw[qp7]at this;rw[this,putAt_all Z2 B (by simp at h;omega)]
def needE (a b:List Ex):List AV:=(a++b).flatMap qt
theorem sl_ms (N k:Nat)(h:k<N):zo (.ms 1 0 N 4) (some (.int .i64 (k:Int))) none none=some (.ms 1 (k*4) (N-k) 4):=by
 show (if (0:Int)<=k/\(k:Int)<=N/\(N:Int)<=N/\((k:Int)=0\/(k:Int)<N) then some (AV.ms 1 (0+(k:Int).toNat*4) ((N:Int).toNat-(k:Int).toNat) 4) else if (k:Int)=N/\(N:Int)=N then some (.sl 4 [] .none) else none)=_;rw[if_pos ⟨by omega,by omega,by omega,by omega⟩];simp
theorem sl_msE (N:Nat)(h:0<N):zo (.ms 1 0 N 4) (some (.int .i64 (N:Int))) none none=some (.sl 4 [] .none):=by
 show (if (0:Int)<=N/\(N:Int)<=N/\(N:Int)<=N/\((N:Int)=0\/(N:Int)<N) then some (AV.ms 1 (0+(N:Int).toNat*4) ((N:Int).toNat-(N:Int).toNat) 4) else if (N:Int)=N/\(N:Int)=N then some (.sl 4 [] .none) else none)=_;rw[if_neg (by omega),if_pos ⟨rfl,rfl⟩]
noncomputable def z9 (p:Problem):List Ex:=p.hard++yo p
theorem Ye (p:Problem)(h:VQ p)(hd:p.dists.length<=10000):Pure Tryz.prog GG 51 [.agg (qL p)] (.sl 4 ((z9 p).map qt) .none):=by
 refine Pure.kO o0 true qe Tryz.func51 rfl (by kernel_rfl) ?_;have hs:=ZD p h hd;have hh:=h.hard;have hsl:(yo p).length<=10000:=by
  unfold yo;split
  . simp[Qu,hd]
  . simp
 have hn:z9 p=p.hard++yo p:=rfl;rw[hn];generalize yo p=S at *;simp only[qL]at hs;have hw:=wr (n:=(p.hard.length:Int)+S.length) (by omega) (by omega);by_cases h0:p.hard=[]/\S=[]
 . obtain⟨h1,h2⟩:=h0;subst h2;rw[h1]at hs hw ⊢;simp[-getElem?_pos,h1];refine qc.call hs (by simp) ?_;have h00:IntKind.i64.wrap 0=0:=(by decide);simp[-getElem?_pos,h00,h1,qw,ym,WT,zo,zU,yL,zY];have hfc:∀ H,frz H 8 (.sl 4 [] (.chain 0 0))=.sl 4 [] .none:=fun H=>by rw[frz];simp[qC]
   rw[hfc];exact⟨by simp,Leq.refl _⟩
 . have hpos:0<p.hard.length+S.length:=by
    rcases qqe (p.hard.length+S.length) with h|h
    . exact absurd ⟨qpf (by omega),qpf (by omega)⟩ h0
    . exact h
   have hnz:¬ (p.hard.length:Int)+S.length=0:=(by omega);have hle:(p.hard.length:Int)+S.length<=549755813888:=(by omega);have hge:(0:Int)<=(p.hard.length:Int)+S.length:=(by omega);have htn:((p.hard.length:Int)+S.length).toNat=p.hard.length+S.length:=(by omega);obtain⟨Z,hZ⟩:∃ Z,Z=(List.replicate (p.hard.length+S.length) [AV.int .i64 0,.int .i64 0,.str [],.sl 0 [] .nil]).flatten:=⟨_,rfl⟩;have hZl:Z.length=(p.hard.length+S.length)*4:=(by rw[hZ];simp);have hAl:(p.hard.flatMap qt).length=p.hard.length*4:=Go.Abs.flat_len (sz:=4) zf p.hard;have hBl:(S.flatMap qt).length=S.length*4:=Go.Abs.flat_len (sz:=4) zf S;have hA:(p.hard.map qt).flatten=p.hard.flatMap qt:=(by rw[qqC]);have hB:(S.map qt).flatten=S.flatMap qt:=(by rw[qqC]);have htA:(p.hard.map qt).take p.hard.length=p.hard.map qt:=qo6 (by simp);have htB:(S.map qt).take S.length=S.map qt:=qo6 (by simp);have h2:=V0 (p.hard.flatMap qt) (S.flatMap qt) Z (by rw[hZl,hAl,hBl,qpO]);rw[hAl,<- List.flatMap_append]at h2;have hZ1l:(zp Z 0 (p.hard.flatMap qt)).length=(p.hard.length+S.length)*4:=(by rw[J4,hZl]);have hc1:∀ B0:Blk,ym (Dof Tryz.prog) ⟨[B0,.cells Z],[]⟩ 23 (.ms 1 0 (p.hard.length+S.length) 4) (.sl 4 (p.hard.map qt) .none)=some (.int .i64 p.hard.length,⟨[B0,.cells (zp Z 0 (p.hard.flatMap qt))],[]⟩):=fun B0=>by
    by_cases hh0:p.hard=[]
    . simp[ym,WT,hh0,zp]
    . have hm:min p.hard.length (p.hard.length+S.length)=p.hard.length:=(by omega);have hl:p.hard.length*4<=(p.hard.length+S.length)*4:=(by omega);simp[ym,WT,ql0,hm,hh0,htA,hA,hZl,hl]
   have hE:needE p.hard S=(p.hard++S).flatMap qt:=rfl;by_cases hS0:S=[]
   . subst hS0;have hhp:0<p.hard.length:=(by simpa using hpos);have hsl2:=sl_msE p.hard.length hhp;have ho:∀ B0:Blk,js 1 4 qt [B0,.cells (p.hard.flatMap qt)] (.ms 1 0 p.hard.length 4) p.hard:=fun B0=>.inr ⟨qpe.1 hhp,rfl,rfl⟩
     have hpa:zp Z 0 (p.hard.flatMap qt)=p.hard.flatMap qt:=putAt_all _ _ (by rw[hZl,hAl];simp);rw[hpa]at hc1;simp only[qpy,qp7,qqg,Int.add_zero]at hw hnz hle hge htn hZ hc1;simp only[qpv]at hs;have hcz:∀ U:St,ym (Dof Tryz.prog) U 23 (.sl 4 [] .none) (.sl 4 [] .none)=some (.int .i64 0,U):=fun U=>by simp[ym,WT]
     generalize p.hard.flatMap qt=FE at *;simp[-getElem?_pos];refine qc.call hs (by simp) ?_;have hhn:¬ p.hard=[]:=qpe.1 hhp;simp[-getElem?_pos,hw,hnz,hle,hge,hhn,qw,<- hZ,hc1,hsl2,hcz];exact⟨(ho (.cells (qL p))).frzNo zf (fun x=>nrE x) yg 7,(ho (.cells (qL p))).frz zf (fun x=>nrE x) yg 7⟩
   . have hSp:=qpe.2 hS0;have hsl2:zo (.ms 1 0 (p.hard.length+S.length) 4) (some (.int .i64 p.hard.length)) none none=some (.ms 1 (p.hard.length*4) S.length 4):=by
      have h3:p.hard.length+S.length-p.hard.length=S.length:=(by omega);rw[sl_ms _ _ (by omega),h3]
     have hc2:∀ B0:Blk,ym (Dof Tryz.prog) ⟨[B0,.cells (zp Z 0 (p.hard.flatMap qt))],[]⟩ 23 (.ms 1 (p.hard.length*4) S.length 4) (.sl 4 (S.map qt) .none)=some (.int .i64 S.length,⟨[B0,.cells ((p.hard++S).flatMap qt)],[]⟩):=fun B0=>by
      have hl:p.hard.length*4+S.length*4<=(p.hard.length+S.length)*4:=(by omega);simp[ym,WT,ql0,hS0,htB,hB,hZ1l,hl,-List.flatMap_append,h2]
     have ho:∀ B0:Blk,js 1 4 qt [B0,.cells ((p.hard++S).flatMap qt)] (.ms 1 0 (p.hard.length+S.length) 4) (p.hard++S):=fun B0=>.inr ⟨by simp[hS0],by simp,rfl⟩
     generalize (p.hard++S).flatMap qt=FE at *;generalize zp Z 0 (p.hard.flatMap qt)=Z1 at *;simp[-getElem?_pos];refine qc.call hs (by simp) ?_;simp[-getElem?_pos,hw,hnz,hle,hge,qw,htn,<- hZ,hc1,hsl2,hc2];have f1:=(ho (.cells (qL p))).frz zf (fun x=>nrE x) yg 7;have f2:=(ho (.cells (qL p))).frzNo zf (fun x=>nrE x) yg 7;rw[qpV]at f1;exact⟨f2,f1⟩
def JC (e:Ex):Prop:=Wen e/\hgt e<=1000/\(pre e).length<=100000
theorem qny:∀ (e x:Ex),x∈pre e->(pre x).length<=(pre e).length:=by
 refine Ex.ind fun e ih x hx=>?_
 rw[jk]at hx;rcases qpm.1 hx with rfl|hx
 . exact qo7 _
 . obtain⟨a,ha,hxa⟩:=vG.1 hx;exact qp4 (ih a ha x hxa) (qc9 ha)
theorem EOk.tame {s:Str}{e:Ex}{h m:Nat}(ho:EOk s h m e)(hs:Fits s)(hh:h<=1000)(hm:m<=100000):JC e:=by
 refine⟨fun x hx=>?_,qp4 ho.hgt hh,qp4 ho.size hm⟩;have h1:=qny e x hx;have h2:=qd7 x;have h3:=ho.size;obtain⟨n1,n2,n3,n4⟩:=ho.nodes x hx;refine⟨by show x.args.length<_;omega,?_⟩;by_cases h:x.op=2
 . rw[n4 h];exact hs
 . have:=(jh n1).2.2.2.2.2.2.2 (by rintro (h' | h' | h');exact h h';exact n2 h';exact n3 h');rw[this];simp[Fits]
theorem qae (n:Int):JC (jK n):=by
 refine⟨fun x hx=>?_,by simp[wE,jK],by rw[QH];simp⟩;rw[QH]at hx;simp only[qpm,qqf,or_false]at hx;subst hx;exact⟨by simp[jK,Fits,Ex.args],by simp[jK,Fits,Ex.name]⟩
theorem qbC {s:Str}(hs:kr s=true)(hf:Fits s){l:List Rg}(hl:l.length<=128)(hr:∀ r∈l,qi6 r):JC (vY s l):=by
 unfold vY;split
 . exact qae 0
 . rename_i h0;have hpos:=qpe.2 h0;have h1:=EOk.ins hs (l:=l.take 16) (qpe.1 (by rw[qpA];omega)) (by rw[qpA];omega) (fun r h=>hr r (qpZ h));have h2:=EOk.chain hs (jc 16 l.length (l.drop 16)) (h:=0) h1 (fun c hc=>by
    obtain⟨a,b,c'⟩:=J8 (by omega) _ _ c hc;exact⟨a,b,fun r h=>hr r (qqs (c' r h))⟩)
   have h3:=J9 (n:=16) (by omega) l.length (l.drop 16) 7 (by rw[qra];omega);exact h2.tame hf (by omega) (by omega)
theorem qf8 {vs:List Var}(hv:∀ v∈vs,jY v=0)(hf:∀ v∈vs,Fits v.name)(d:Dist):JC (Kf vs d):=by
 unfold Kf;split
 . rename_i v h;have hm:=qoZ h;have h1:=zk (hv v hm);have h2:=qbE v d.weights;have h3:=Wx h1.2.2;have h4:=qbQ (N:=(z4 v:Nat)) h2.1 (fun x hx=>by have:=h2.2 x hx;omega) (by omega);exact qbC h1.1 (hf v hm) (by omega) h4.1
 . exact qae 0
theorem QJ {p:Problem}(h:VQ p)(hv:qr p=0):∀ e∈z9 p++p.soft,wl p.vars e=true/\JC e:=by
 have hx:∀ e∈p.hard++p.soft,zr p.vars e=0:=by
  have:qW (zr p.vars) (p.hard++p.soft)=0:=by
   unfold qr at hv;split at hv
   . exact absurd hv (by assumption)
   . split at hv
     . rename_i h1;exact absurd hv h1
     . rename_i h1;exact qqj.1 h1
  exact zF.1 this
 intro e he;have hs:yo p=Qu p:=if_pos hv;rw[z9,hs]at he;rcases qpk.1 he with he|he
 . rcases qpk.1 he with he|he
   . exact⟨decide_eq_true (hx e (qpH _ he)),h.exprs e (qpH _ he)⟩
   . obtain⟨d,hd,rfl⟩:=qpx.1 he;exact⟨decide_eq_true (qeA (jA hv) d),qf8 (jA hv) h.names d⟩
 . exact⟨decide_eq_true (hx e (qp5 _ he)),h.exprs e (qp5 _ he)⟩
def Need0 (H:List Blk)(T:List (Option Nat))(r:AV)(U':St):Prop:=r=.sl 4 [] (.chain T.length 0)/\U'.T=T++[some 0]/\∃ u,U'.H=H++u
theorem qeT (p:Problem)(h:VQ p)(hd:p.dists.length<=10000)(h1:p.hard=[])(h2:yo p=[])(H:List Blk)(T:List (Option Nat)):qg Tryz.prog GG 51 [.agg (qL p)] ⟨H,T⟩ (Need0 H T):=by
 refine qg.k qe Tryz.func51 rfl (by kernel_rfl) ?_;have hs:=ZD p h hd;rw[h2]at hs;have h00:IntKind.i64.wrap 0=0:=by decide
 simp only[qL,h1]at hs;simp[-getElem?_pos,h1];refine qc.call hs (by simp) ?_;simp[-getElem?_pos,h00,h1,qw,ym,WT,zo,zU,yL,zY];exact⟨rfl,rfl,_,rfl⟩
noncomputable def wm (p:Problem):List Int×Int :=
 if qr p=0 then (if yM p.vars (z9 p)=true then ((w8 p.vars (z9 p) (Kj p.soft)).reverse.map (·.1),0) else ([],11)) else ([],1)
theorem qkv (p:Problem)(h:VQ p)(hv:qr p≠0):Pure Tryz.prog GG 50 [.agg (qL p)] (.tup [.sl 1 ((wm p).1.map qu) .none,.int .i64 (wm p).2]):=by
 have hr:wm p=([],1):=if_neg hv;rw[hr];refine Pure.kO o0 true qe Tryz.func50 rfl (by kernel_rfl) ?_;have hval:=jZ p h;simp only[qL]at hval;simp[-getElem?_pos];refine qc.call hval (by simp) ?_;simp[-getElem?_pos,hv];rw[qG (by simp)];exact⟨by simp,by simp[Leq,zn]⟩
theorem qe2 (p:Problem)(h:VQ p)(hv:qr p=0)(hv20:p.vars.length<=20)(hb:yp p.vars (qy p)<=18)(hd:p.dists.length<=10000)(hs:yM p.vars (z9 p)=false):Pure Tryz.prog GG 50 [.agg (qL p)] (.tup [.sl 1 ((wm p).1.map qu) .none,.int .i64 (wm p).2]):=by
 have hr:wm p=([],11):=by unfold wm;rw[if_pos hv,hs,if_neg (by simp)]
 rw[hr];refine Pure.kO o0 true qe Tryz.func50 rfl (by kernel_rfl) ?_;have hval:=jZ p h;have hn:=Ye p h hd;have hk:=QJ h hv;have hfn:Fits (z9 p):=by
  have h1:=h.hard;have h2:(yo p).length<=10000:=by
   have:yo p=Qu p:=if_pos hv;rw[this,Qu,qpK];exact hd
  show (z9 p).length<_;rw[z9,qo3];omega
 have hso:=Qc p (z9 p) h hv20 hb hfn (fun e he=>(hk e (qpH _ he)).2);have hsb:Z3 p (z9 p)=false:=by
  unfold Z3;rw[hs];simp
 rw[hsb]at hso;generalize z9 p=N at *;simp only[qL]at hval hn hso;simp[-getElem?_pos];refine qc.call hval (by simp) ?_;simp[-getElem?_pos,hv];refine qc.call hn (by simp) ?_;simp[-getElem?_pos];refine qc.call hso (by simp) ?_;simp[-getElem?_pos];rw[qG (by simp)];exact⟨by simp,by simp[Leq,zn]⟩
theorem qhv {α:Type}{en:α->List AV}{sz:Nat}{R:List α}{tok:Tok}{n:Int}(hn:n=(R.length:Int))(h:R≠[]\/tok.known=true):zo (.sl sz (R.map en) tok) none (some (.int .i64 n)) (some (.int .i64 n))=some (.sl sz (R.map en) .tight):=by
 subst hn;have h2:(R.map en).take R.length=R.map en:=qo6 (by simp);have h3:0<R.length\/tok.known=true:=h.imp qpe.2 id;simp[zo,zU,yL,zY,wF,h2,h3]
theorem WV {R:List Ex}{X:Ex}{H:List Blk}{T:List (Option Nat)}(hR:R.length<1000000):qN (Dof Tryz.prog) ⟨H,T⟩ 23 (.sl 4 (R.map qt) .tight) (.sl 4 [qt X] .tight)=some (.sl 4 ((R++[X]).map qt) (.chain T.length 1),⟨H,T++[some 1]⟩):=by
 have h1:R.length+1<=549755813888:=by omega
 simp[qN,zI,h1]
theorem qdr (l:List Ex):(Kj l).length=l.length:=by simp[Kj]
theorem qgU {l:List Ex}{k:Nat}{q:Int×Ex}(h:(Kj l)[k]?=some q):k<l.length/\q.1=((l.length-1-k:Nat):Int)/\l[l.length-1-k]?=some q.2:=by
 unfold Kj at h;have hk:=(qoX.1 h).1;simp at hk;rw[List.getElem?_reverse (by simpa using hk)]at h;simp only[qpK,List.length_zipIdx,qpj,qqX,qqT]at h
 cases hx:l[l.length-1-k]? with
 | none=>rw[hx]at h;simp at h
 | some x=>rw[hx]at h;simp at h;subst h;exact⟨hk,rfl,rfl⟩
theorem revset {d:List Int}{m:Nat}{v:Int}(h:d.length<m):(List.replicate (m-d.length) (0:Int)++d.reverse).set (m-1-d.length) v=List.replicate (m-(d.length+1)) 0++(d++[v]).reverse:=by
 have h1:List.replicate (m-d.length) (0:Int)=List.replicate (m-(d.length+1)) 0++[0]:=by
  rw[show m-d.length=(m-(d.length+1))+1 by omega,qrb]
 rw[h1,qps,qpW _ _ (by simp;omega)];have h2:m-1-d.length-(List.replicate (m-(d.length+1)) (0:Int)).length=0:=by simp;omega
 rw[h2];simp
theorem Jq {H:List Blk}{n:Nat}{a r:AV}{k:IntKind}{z:Int}(h1:qC (frz H n a)=true)(h2:Leq (frz H n a) r)(h3:qC a=true->Leq a r) :
 qC (frz H (n+1) (.tup [a,.int k z]))=true/\Leq (frz H (n+1) (.tup [a,.int k z])) (.tup [r,.int k z]):=by
 by_cases hn:qC a=true
 . rw[qG (by simp[hn])];exact⟨by simp[hn],by simp[Leq,zn,h3 hn]⟩
 . have:frz H (n+1) (.tup [a,.int k z])=.tup [frz H n a,.int k z]:=by
    have h0:frz H n (.int k z)=.int k z:=qG rfl;rw[frz,if_neg (by simp[hn])];simp[h0]
   rw[this];exact⟨by simp[h1],by simp[Leq,zn,h2]⟩
def NeedU (p:Problem)(H:List Blk)(r:AV)(U':St):Prop:=∃ tok u T',r=.sl 4 ((z9 p).map qt) tok/\(z9 p≠[]\/tok.known=true)/\U'=⟨H++u,T'⟩
theorem qeS (p:Problem)(h:VQ p)(hd:p.dists.length<=10000)(H:List Blk)(T:List (Option Nat)):qg Tryz.prog GG 51 [.agg (qL p)] ⟨H,T⟩ (NeedU p H):=by
 by_cases hN:z9 p=[]
 . have h0:p.hard=[]/\yo p=[]:=(by rw[z9]at hN;simpa using hN);refine (qeT p h hd h0.1 h0.2 H T).imp ?_;rintro v ⟨H1,T1⟩ ⟨rfl,hT,u,hH⟩;simp only at hT hH;subst hH;exact⟨_,u,T1,by rw[hN];rfl,.inr rfl,rfl⟩
 . refine qg.call (Ye p h hd) (by simp) ?_;exact⟨.none,[],T,rfl,.inl hN,by simp⟩
theorem qi0 (p:Problem)(h:VQ p)(hv20:p.vars.length<=20)(hb:yp p.vars (qy p)<=18)(hd:p.dists.length<=10000)(hs5:p.soft.length<=10000) :
 Pure Tryz.prog GG 50 [.agg (qL p)] (.tup [.sl 1 ((wm p).1.map qu) .none,.int .i64 (wm p).2]):=by
 by_cases hv:qr p=0
 case neg=>exact qkv p h hv
 by_cases hs:yM p.vars (z9 p)=true
 case neg=>exact qe2 p h hv hv20 hb hd (by simpa using hs)
 have hr:wm p=((w8 p.vars (z9 p) (Kj p.soft)).reverse.map (·.1),0):=by unfold wm;rw[if_pos hv,if_pos hs]
 rw[hr];dsimp only;obtain⟨RES,hRES⟩:∃ RES,RES=(w8 p.vars (z9 p) (Kj p.soft)).reverse.map (·.1):=⟨_,rfl⟩;rw[<- hRES];refine Pure.kO o0 true qe Tryz.func50 rfl (by kernel_rfl) ?_;have hval:=jZ p h;have hn:=Ye p h hd;have hk:=QJ h hv;have h1:=h.hard;have h2:(yo p).length<=10000:=by
  have:yo p=Qu p:=if_pos hv;rw[this,Qu,qpK];exact hd
 have hNl:(z9 p).length<=20000:=by rw[z9,qo3];omega
 have hso:=fun l (hl:l.length<40000) (hx:∀ e∈l,wl p.vars e=true/\JC e)=>Qc p l h hv20 hb (by show l.length<_;omega) (fun e he=>(hx e he).2)
 have hsb:∀ l,(∀ e∈l,wl p.vars e=true/\JC e)->Z3 p l=yM p.vars l:=fun l hl=>by
  have:l.all (wl p.vars)=true:=qpa.2 fun e he=>(hl e he).1
  unfold Z3;rw[this];simp[hv]
 have hne:=qeS p h hd [.cells (qL p)] [];unfold NeedU at hne;have hso0:=hso (z9 p) (by omega) (fun e he=>hk e (qpH _ he));rw[hsb _ (fun e he=>hk e (qpH _ he)),hs]at hso0;generalize z9 p=N at *;generalize hL:Kj p.soft=L at *;have hLl:L.length=p.soft.length:=by rw[<- hL,qdr]
 simp only[qL]at hval hn hso0 hne hso;simp[-getElem?_pos];refine qc.call hval (by simp) ?_;simp[-getElem?_pos,hv];refine qc.acall hne ?_;rintro v U ⟨tok,u,T,rfl,htok,rfl⟩;simp[-getElem?_pos];refine qc.pure hso0 (by cases tok<;>simp) (by cases tok<;>simp[zn,Leq,jO.refl]) ?_;have hsoft:(p.soft.length:Int)-1=(p.soft.length:Int)-1-(([]:List (Int×Ex)).length:Int):=by simp
 have hw1:=wr (n:=(p.soft.length:Int)-1) (by omega) (by omega);simp[-getElem?_pos,hw1];refine qJ.listR L (fun d ev U=>ev 1=.ptr 0 0/\ev 6=.int .i64 ((p.soft.length:Int)-1-d.length)/\∃ R K tok u T,(∀ r,L=d++r->w8 p.vars N L=K++w8 p.vars R r)/\(∀ e∈R,wl p.vars e=true/\JC e)/\R.length<=20000+d.length/\K.length<=d.length/\ev 4=.sl 4 (R.map qt) tok/\(R≠[]\/tok.known=true)/\Kq 0 1 qu T (ev 5) (K.map (·.1))/\U=⟨.cells (qL p)::u,T⟩) ?_ ?_ ?_
 . refine⟨by simp,by simp,N,[],tok,u,T,fun r hr=>by rw[hr];rfl,fun e he=>hk e (qpH _ he),by simpa using hNl,by simp,by simp,htok,by simpa using Kq.nil,by simp⟩
 . rintro d x rest ev U R0 hR hdl hx hlt ⟨e1,e6,R,K,tok2,u2,T2,hkeep,hRk,hRl,hKl,e4,htok2,e5,rfl⟩;have hna:=qgU (l:=p.soft) (k:=d.length) (q:=x) (by rw[hL];exact hx);obtain⟨n1,n2,n3⟩:=hna;have e6':ev 6=.int .i64 ((p.soft.length-1-d.length:Nat):Int):=(by rw[e6];congr 1;omega);have hge:(0:Int)<=((p.soft.length-1-d.length:Nat):Int):=(by omega);have hsl:=qhv (en:=qt) (sz:=4) (R:=R) (tok:=tok2) rfl htok2;have hxk:=hk x.2 (qp5 _ (qoZ n3));have hRk2:∀ e∈R++[x.2],wl p.vars e=true/\JC e:=fun e he=>by
    rcases qpk.1 he with he|he
    . exact hRk e he
    . rw[qpb]at he;rw[he];exact hxk
   have hso2:=hso (R++[x.2]) (by rw[qo3,qpu];omega) hRk2;rw[hsb _ hRk2]at hso2;have hlt2:p.soft.length-1-d.length<p.soft.length:=(by omega);have hap:=fun H T=>WV (R:=R) (X:=x.2) (H:=H) (T:=T) (by omega)
   have ha:=ko x.2;have hl4:=zf x.2;have hnr:=nrEs (R++[x.2]);simp only[qpV,qo9,qpv]at hnr;have htk:(qt x.2).take 4=qt x.2:=qo6 (by rw[hl4];exact qo7 _);have hw2:=wr (n:=((p.soft.length-1-d.length:Nat):Int)-1) (by omega) (by omega);have hEx:x.1=((p.soft.length-1-d.length:Nat):Int):=n2;generalize hI:p.soft.length-1-d.length=I at *;obtain⟨v5,T5,hap5,h5,hT5⟩:=(e5.ext (T':=T2++[some 1]) (qrL _ _)).append (m:=[x.1]) (D:=Dof Tryz.prog) (ty:=41) (tok:=.tight) (T0:=[]) (T:=T2++[some 1]) (List.nil_prefix) (D41) rfl (D3) rfl (by decide) (by rfl) (by decide) (by simp;omega) 1 (.inl rfl);simp only[qo9,qpv,qu]at hap5;simp[-getElem?_pos,-qZ,e1,e4,e6',hge,hsl,n3,hlt2,htk,ha,hl4,qm,qz,hap];refine qc.pure hso2 (by simp[hnr]) (by simp[zn,Leq,jO.refl]) ?_;have hIm:((I:Int)-1)=((p.soft.length:Int)-1-((d++[x]).length:Nat)):=(by rw[qo3,qpu];omega);have hwx:IntKind.i64.wrap (x.1-1)=(p.soft.length:Int)-1-((d.length:Int)+1):=(by rw[hEx,hw2,hIm,qo3,qpu];omega)
   cases hso3:yM p.vars (R++[x.2]) with
   | true=>
    simp[-getElem?_pos,-qZ,e1,e4,e6',qm,qz,hwx,<- hEx,hap5];refine hR _ _ ⟨by simp[e1],by simp,R++[x.2],K++[x],.chain T2.length 1,u2,T5,fun r hr=>?_,hRk2,by simp;omega,by simp;omega,by simp,.inl (by simp),by simpa using h5,rfl⟩;rw[hkeep (x::r) (by rw[hr];simp),w8,if_pos hso3];simp
   | false=>
    simp[-getElem?_pos,-qZ,e1,e4,e6',hw2];refine hR _ _ ⟨by simp[e1],by simp[hIm],R,K,tok2,u2,T2++[some 1],fun r hr=>?_,hRk,by simp;omega,by simp;omega,by simp[e4],htok2,by simpa using e5.ext (qrL _ _),rfl⟩;rw[hkeep (x::r) (by rw[hr];simp),w8,if_neg (by rw[hso3];simp)]
 . rintro ev U ⟨e1,e6,R,K,tok2,u2,T2,hkeep,hRk,hRl,hKl,e4,htok2,e5,rfl⟩;rw[hLl]at e6;have e6':ev 6=.int .i64 (-1):=(by rw[e6];congr 1;omega);have hK:=hkeep [] (by simp);rw[show w8 p.vars R []=[] from rfl,qpB]at hK;rw[hK,List.map_reverse]at hRES;generalize hKI:K.map (·.1)=KI at *;have hKIl:KI.length<=10000:=(by rw[<- hKI,qpK];omega);subst hRES;rcases e5 with ⟨rfl,e5⟩|⟨hne,t,_,e5,_⟩
   . simp[-getElem?_pos,e6',e5,qw];refine qJ.gen (fun m ev U=>ev 8=.sl 1 [] (.chain T2.length 0)/\ev 53=.int .i64 0/\ev 54=.int .i64 0) 0 ⟨by simp,by simp,by simp⟩ ?_;rintro m ev U R hR ⟨e8,e53,e54⟩;simp[-getElem?_pos,e8,e53,e54];have hf:∀ H,frz H 7 (.sl 1 [] (.chain T2.length 0))=.sl 1 [] .none:=fun H=>by rw[frz];simp[qC]
     exact Jq (by rw[hf];rfl) (by rw[hf];exact Leq.refl _) (by simp)
   . have hKn:¬ (KI.length:Int)=0:=(by have:=qpe.2 hne;omega);have hKle:(KI.length:Int)<=549755813888:=(by omega);have hKp:=qpe.2 hne;simp[-getElem?_pos,e6',e5,qw,hKn,hKle,hne];refine qJ.listR KI (fun d ev U=>ev 8=.ms (u2.length+1) 0 KI.length 1/\ev 52=.sl 1 (KI.map qu) (.chain t KI.length)/\ev 53=.int .i64 KI.length/\ev 54=.int .i64 d.length/\∃ H T,U=⟨H,T⟩/\H[u2.length+1]?=some (.cells (zK (List.replicate (KI.length-d.length) 0++d.reverse)))) ?_ ?_ ?_
     . refine⟨by simp,by simp,by simp,by simp,_,_,rfl,?_⟩;simp[zK]
     . rintro d x rest ev U R hR hdl hx hlt ⟨e8,e52,e53,e54,H,T,rfl,hH⟩;have hdw:=wr (n:=(d.length:Int)+1) (by omega) (by omega);have hkw:=wr (n:=(KI.length:Int)-1) (by omega) (by omega);have hkw2:=wr (n:=(KI.length:Int)-1-d.length) (by omega) (by omega);have hI:((KI.length:Int)-1-d.length)=((KI.length-1-d.length:Nat):Int):=(by omega);have hlen:(zK (List.replicate (KI.length-d.length) 0++d.reverse)).length=KI.length:=(by rw[za];simp;omega);have hlt3:KI.length-1-d.length<KI.length:=(by omega);have hlt4:KI.length-1-d.length+1<=KI.length:=(by omega);have hset:=yf (a:=List.replicate (KI.length-d.length) 0++d.reverse) (i:=KI.length-1-d.length) (x:=x);have hHl:=(qoX.1 hH).1;rw[revset hlt]at hset;rw[hI]at hkw2;generalize hJ:KI.length-1-d.length=J at *;simp[-getElem?_pos,e8,e52,e53,e54,hlt,hx,hkw,hI,hkw2,hH,hlen,hlt3,hlt4,hset,hdw];exact hR _ _ ⟨by simp[e8],by simp[e52],by simp[e53],by simp,_,_,rfl,by rw[qo3,qpu,qri];exact qo2 hHl⟩
     . rintro ev U ⟨e8,e52,e53,e54,H,T,rfl,hH⟩;rw[qql,qrI,qpl]at hH;simp[-getElem?_pos,e8,e53,e54];have hne2:KI.reverse≠[]:=(by simpa using hne);have ho:js (u2.length+1) 1 qu H (.ms (u2.length+1) 0 KI.length 1) KI.reverse:=.inr ⟨hne2,by simp,by rw[hH,kW]⟩;have f1:=ho.frz (fun x=>by simp) (fun x=>by simp) (fun x=>by simp) 6;have f2:=ho.frzNo (fun x=>by simp) (fun x=>by simp) (fun x=>by simp) 6;rw[List.map_reverse]at f1;exact Jq f2 f1 (by simp)
def wD (vs:List Var)(q:List Int×Int)(i:Int):List Int×Int:=(q.1.set i.toNat q.2,q.2+zz vs i.toNat)
def ku (vs:List Var)(l:List Int):List Int×Int:=l.foldl (wD vs) (List.replicate vs.length (-1),0)
def qQ (p:Problem):List Int:=(ku p.vars p.groups.flatten).1
theorem K4 (vs:List Var)(l:List Int)(i:Int):ku vs (l++[i])=wD vs (ku vs l) i:=by simp[ku,qqo]
theorem QM (vs:List Var):∀ l:List Int,(ku vs l).1.length=vs.length:=by
 intro l;have:∀ (l:List Int) (q:List Int×Int),(l.foldl (wD vs) q).1.length=q.1.length:=by
  intro l
  induction l with
  | nil=>intro q;rfl
  | cons a r ih=>intro q;rw[qpP,ih];simp[wD]
 unfold ku;rw[this];simp
theorem jQ {p:Problem}(h:qr p=0):jP p.vars p.groups:=by
 have hd:zA p.vars p.groups=0:=by
  unfold qr at h;split at h
  . exact absurd h (by assumption)
  . split at h
    . rename_i h1;exact absurd h h1
    . split at h
      . rename_i h1;exact absurd h h1
      . exact h
 unfold zA at hd;split at hd
 . assumption
 . cases hd
theorem JZ {vs:List Var}{i:Int}(h:yh vs i=true):∃ (n:Nat) (v:Var),i=n/\vs[n]?=some v/\v.mode≠0:=by
 simp only[yh,qo0,decide_eq_true_eq]at h;obtain⟨j,hj⟩:=qpC h.1;have h2:=h.2;rw[hj]at h2;simp only[qpQ]at h2
 cases hv:vs[j]? with
 | none=>rw[hv]at h2;simp at h2
 | some v=>rw[hv]at h2;exact⟨j,v,hj,hv,by simpa using h2⟩
theorem qeX {vs:List Var}(hw:∀ v∈vs,0<=v.width/\v.width<=8):∀ l:List Int,0<=(ku vs l).2/\(ku vs l).2<=8*l.length:=by
 intro l;have:∀ (l:List Int) (q:List Int×Int),0<=q.2->0<=(l.foldl (wD vs) q).2/\(l.foldl (wD vs) q).2<=q.2+8*l.length:=by
  intro l
  induction l with
  | nil=>intro q h;simp[h]
  | cons a r ih=>
   intro q h;have hwa:0<=zz vs a.toNat/\zz vs a.toNat<=8:=by
    unfold zz;split
    . rename_i v hv;exact hw v (qoZ hv)
    . omega
   have:=ih (wD vs q a) (by simp only[wD];omega);rw[qpP];simp only[wD,qpd]at this ⊢;omega
 have:=this l (List.replicate vs.length (-1),0) (Int.le_refl _);simpa[ku] using this
theorem Yd:∀ (n:Nat) (l:List Int),l.Nodup->(∀ x∈l,0<=x/\x<n)->l.length<=n
 | 0,l,_,h=>by
  cases l with
  | nil=>simp
  | cons a r=>have:=h a (by simp);omega
 | n+1,l,hn,h=>by
  by_cases hm:(n:Int)∈l
  . have h1:=Yd n (l.erase (n:Int)) (hn.erase _) fun x hx=>by
     have h2:=(hn.mem_erase_iff).1 hx;have:=h x h2.2;omega
    rw[List.length_erase_of_mem hm]at h1;omega
  . have h1:=Yd n l hn fun x hx=>by
     have:=h x hx;have h2:x≠(n:Int):=fun e=>hm (e▸hx)
     omega
    omega
theorem K8 {p:Problem}(h:qr p=0):p.groups.flatten.length<=p.vars.length:=Yd _ _ (jQ h).2.2.1 fun i hi=>by
 obtain⟨n,v,rfl,hn,_⟩:=JZ ((jQ h).2.1 i hi);have:=(qoX.1 hn).1;omega
theorem qbj (p:Problem)(h:VQ p)(hv:qr p=0):Pure Tryz.prog GG 55 [.agg (qL p)] (.sl 1 ((qQ p).map qu) .none):=by
 refine Pure.kO o0 true qe Tryz.func55 rfl (by kernel_rfl) ?_;have hval:=jZ p h;have hg:=jQ hv;have hvars:=h.vars;have hw:∀ v∈p.vars,0<=v.width/\v.width<=8:=fun v hm=>by have:=zk (jA hv v hm);omega
 obtain⟨LV,hLV⟩:∃ LV,LV=qQ p:=⟨_,rfl⟩;rw[<- hLV];simp only[qL]at hval;simp[-getElem?_pos];refine qc.call hval (by simp) ?_;by_cases hv0:p.vars=[]
 . have hg0:p.groups=[]:=by
    apply qrC.2;intro g hgm;have h1:=hg.1 g hgm;obtain⟨i,hi⟩:=List.exists_mem_of_ne_nil g h1;have:=hg.2.1 i (qp6.2 ⟨g,hgm,hi⟩);obtain⟨n,v,_,hn,_⟩:=JZ this;rw[hv0]at hn;simp at hn
   have hL0:LV=[]:=(by rw[hLV,qQ,hg0,hv0];rfl);subst hL0;simp[-getElem?_pos,hv,hv0,hg0,qw];refine qJ.gen (fun m ev U=>ev 1=.ptr 0 0/\ev 3=.sl 1 [] (.chain 0 0)/\ev 18=.int .i64 0/\ev 19=.int .i64 0/\∃ u T,U=⟨.cells (qL p)::u,T⟩) 0 ⟨by simp,by simp,by simp,by simp,_,_,by simp[hv0,hg0];exact⟨rfl,rfl⟩⟩ ?_;rintro m ev U R hR ⟨e1,e3,e18,e19,u,T,rfl⟩;simp[-getElem?_pos,e1,e3,e18,e19,hg0];refine qJ.gen (fun m ev U=>ev 3=.sl 1 [] (.chain 0 0)/\ev 28=.int .i64 0/\ev 29=.int .i64 0) 0 ⟨by simp[e3],by simp,by simp⟩ ?_;rintro m ev U R hR ⟨e3,e28,e29⟩;simp[-getElem?_pos,e3,e28,e29];have hf:∀ H,frz H 8 (.sl 1 [] (.chain 0 0))=.sl 1 [] .none:=fun H=>by rw[frz];simp[qC]
   rw[hf];exact⟨rfl,Leq.refl _⟩
 . have hpos:=qpe.2 hv0;have hne:¬ (p.vars.length:Int)=0:=(by omega);have hle:(p.vars.length:Int)<=549755813888:=(by omega);simp[-getElem?_pos,hv,hv0,hne,hle,qw];have hnd:=hg.2.2.1;have hfl:p.groups.flatten.length<=1000:=qp4 (K8 hv) hvars;have hgl:=h.groups;have hgf:=h.group;refine yV p.vars.length (fun i ev U=>ev 1=.ptr 0 0/\ev 3=.ms 1 0 p.vars.length 1/\ev 18=.int .i64 p.vars.length/\ev 19=.int .i64 (i:Int)/\U=⟨[.cells (qL p),.cells (zK (List.replicate i (-1)++List.replicate (p.vars.length-i) 0))],[]⟩) ?_ ?_ ?_
   . refine⟨by simp,by simp,by simp,by simp,?_⟩;simp[zK]
   . rintro i ev U R hR hi ⟨e1,e3,e18,e19,rfl⟩;have hw1:=wr (n:=(i:Int)+1) (by omega) (by omega);have hi':(i:Int)<p.vars.length:=(by omega);have hi1:i+1<=p.vars.length:=hi;have hll:(zK (List.replicate i (-1)++List.replicate (p.vars.length-i) 0)).length=p.vars.length:=(by rw[za];simp;omega);have hset:(zK (List.replicate i (-1)++List.replicate (p.vars.length-i) 0)).set i (.int .i64 (-1))=zK (List.replicate (i+1) (-1)++List.replicate (p.vars.length-(i+1)) 0):=by
      rw[yf,qpW _ _ (by simp)];have:p.vars.length-i=(p.vars.length-(i+1))+1:=by omega
      rw[this,qqx];simp[qrb]
     simp[-getElem?_pos,e1,e3,e18,e19,hi',hi1,hll,hset,hw1];exact hR _ _ ⟨by simp[e1],by simp[e3],by simp[e18],by simp,rfl⟩
   . rintro ev U ⟨e1,e3,e18,e19,rfl⟩;rw[qql,qrI,qpB];have hL0:(ku p.vars []).1=List.replicate p.vars.length (-1):=rfl;rw[<- hL0];simp[-getElem?_pos,e1,e3,e18,e19];refine qJ.listR p.groups (fun dn ev U=>ev 1=.ptr 0 0/\ev 3=.ms 1 0 p.vars.length 1/\ev 5=.int .i64 (ku p.vars dn.flatten).2/\ev 27=.sl 1 (p.groups.map zB) .none/\ev 28=.int .i64 p.groups.length/\ev 29=.int .i64 dn.length/\U=⟨[.cells (qL p),.cells (zK (ku p.vars dn.flatten).1)],[]⟩) ?_ ?_ ?_
     . exact⟨by simp[e1],by simp[e3],by simp[ku],by simp,by simp,by simp,rfl⟩
     . rintro dn g rest ev U R hR hd hx hlt ⟨e1,e3,e5,e27,e28,e29,rfl⟩;have hdw:=wr (n:=(dn.length:Int)+1) (by omega) (by omega);have hlt':(dn.length:Int)<p.groups.length:=(by omega);have hgm:=qoZ hx;have hgfit:=hgf g hgm;simp[-getElem?_pos,e1,e3,e5,e27,e28,e29,hlt,hlt',hx];refine qJ.listR g (fun dg ev U=>ev 1=.ptr 0 0/\ev 3=.ms 1 0 p.vars.length 1/\ev 5=.int .i64 (ku p.vars (dn.flatten++dg)).2/\ev 27=.sl 1 (p.groups.map zB) .none/\ev 28=.int .i64 p.groups.length/\ev 29=.int .i64 dn.length/\ev 33=.sl 1 (g.map qu) .none/\ev 34=.int .i64 g.length/\ev 35=.int .i64 dg.length/\U=⟨[.cells (qL p),.cells (zK (ku p.vars (dn.flatten++dg)).1)],[]⟩) ?_ ?_ ?_
       . exact⟨by simp[e1],by simp[e3],by simp[e5],by simp[e27],by simp[e28],by simp[e29],by simp,by simp,by simp,by simp⟩
       . rintro dg v rest2 ev U R2 hR2 hd2 hx2 hlt2 ⟨e1,e3,e5,e27,e28,e29,e33,e34,e35,rfl⟩;have hm:v∈p.groups.flatten:=qp6.2 ⟨g,hgm,qoZ hx2⟩;obtain⟨n,vr,rfl,hn,_⟩:=JZ (hg.2.1 v hm);have hnl:=(qoX.1 hn).1;have hdw2:=wr (n:=(dg.length:Int)+1) (by unfold Fits at hgfit;omega) (by unfold Fits at hgfit;omega);have hlt2':(dg.length:Int)<g.length:=(by omega);have hwv:=hw vr (qoZ hn);have hpre:(dn.flatten++dg).length<=1000:=by
          have:(dn.flatten++dg).length<=p.groups.flatten.length:=by
           rw[hd,hd2];simp
          omega
         have hnx:=qeX hw (dn.flatten++dg);have hww:=wr (n:=(ku p.vars (dn.flatten++dg)).2+vr.width) (by omega) (by omega);have hs:=K4 p.vars (dn.flatten++dg) (n:Int);have hln:=QM p.vars (dn.flatten++dg);have hwa:zz p.vars n=vr.width:=(by simp[zz,hn]);simp only[wD,qpQ,hwa]at hs;rw[qps]at hs;generalize hQ:ku p.vars (dn.flatten++dg)=q at *;obtain⟨L,nx⟩:=q;simp only at *;have hll:(zK L).length=p.vars.length:=(by rw[za,hln]);have hn1:n+1<=p.vars.length:=hnl;have hn0:(n:Int)<p.vars.length:=(by omega);simp[-getElem?_pos,e1,e3,e5,e27,e28,e29,e33,e34,e35,hlt2,hlt2',hx2,hll,hn1,hn0,hn,hnl,yf,hww,hdw2];exact hR2 _ _ ⟨by simp[e1],by simp[e3],by simp[hs],by simp[e27],by simp[e28],by simp[e29],by simp[e33],by simp[e34],by simp,by simp[hs]⟩
       . rintro ev U ⟨e1,e3,e5,e27,e28,e29,e33,e34,e35,rfl⟩;simp[-getElem?_pos,e1,e3,e5,e27,e28,e29,e33,e34,e35,hdw];exact hR _ _ ⟨by simp[e1],by simp[e3],by simp[e5],by simp[e27],by simp[e28],by simp,by simp⟩
     . rintro ev U ⟨e1,e3,e5,e27,e28,e29,rfl⟩;have hLL:(ku p.vars p.groups.flatten).1=LV:=hLV.symm;have hln:=QM p.vars p.groups.flatten;rw[hLL]at hln ⊢;simp[-getElem?_pos,e1,e3,e28,e29];have hne2:LV≠[]:=fun e=>by rw[e]at hln;simp at hln;omega
       have ho:js 1 1 qu [.cells (qL p),.cells (zK LV)] (.ms 1 0 p.vars.length 1) LV:=.inr ⟨hne2,by rw[hln],by rw[kW];rfl⟩;exact⟨ho.frzNo (fun x=>by simp) (fun x=>by simp) (fun x=>by simp) 7,ho.frz (fun x=>by simp) (fun x=>by simp) (fun x=>by simp) 7⟩
theorem yI {p:Problem}(h:qr p=0):(p.vars.map (·.name)).Nodup:=by
 have hv:ja p.vars=0:=by
  unfold qr at h;split at h
  . exact absurd h (by assumption)
  . rename_i h1;exact qqj.1 h1
 have hd:qot p.vars=false:=by
  unfold ja at hv;split at hv
  . cases hv
  . split at hv
    . rename_i h1;exact absurd hv h1
    . split at hv
      . cases hv
      . rename_i h1;simpa using h1
 unfold qot at hd;rw[qqb]at hd;refine qqF.2 fun i j hi hj hij e=>?_
 simp only[qpK]at hi hj;rw[qqh,qqh]at e;have:=hd j (qp0.2 hj);unfold vV at this;rw[qo1 hj]at this;simp only[vI,qpq]at this;exact this ⟨p.vars[i],by rw[qrV];exact⟨i,by omega,rfl⟩,by simpa using e⟩
theorem VD {vs:List Var}{m:Nat}{U:St}(hm:U.H[m]?=some (wz vs))(hn:(vs.map (·.name)).Nodup){i:Nat}{v:Var}(hv:vs[i]?=some v):zq (Dof Tryz.prog) U 184 (.map m) (.str v.name) true=some (.tup [.int .i64 (i:Int),.bool true]):=by
 have:=qcL hn hv 0;unfold wz at hm;generalize (wO vs).map ZJ=E at *;simp[zq,hm,zt,this]
theorem qna (p:Problem)(e:Ex)(hn:(p.vars.map (·.name)).Nodup)(hk:zr p.vars e=0)(ht:JC e){H:List Blk}{M:Nat}(hM:H[M]?=some (wz p.vars))(T:List (Option Nat)) :
 qg Tryz.prog GG 175 [.map M,.agg (qt e)] ⟨H,T⟩ (fun r U'=>r=.int .i64 0/\KpL [] H U'.H):=by
 refine qg.k qe Tryz.func175 rfl (by kernel_rfl) ?_;have ha:=vy e ht.1 ht.2.2;have hna:=QK e ht.1 ht.2.2;have he:zg e=0/\ZY e=false/\Qj p.vars e=false:=by
  unfold zr at hk;split at hk
  . rename_i h;exact absurd hk h
  . rename_i h;split at hk
    . cases hk
    . split at hk
      . cases hk
      . rename_i h2 h3;exact⟨qqj.1 h,by simpa using h2,by simpa using h3⟩
 have h0:zy [3,24] e=[]:=by
  have:=vO (e:=e);rw[he.2.1]at this
  cases hl:zy [3,24] e with
  | nil=>rfl
  | cons a r=>rw[hl]at this;simp at this
 have hall:∀ s∈zy [2] e,∃ (i:Nat) (v:Var),p.vars[i]?=some v/\v.name=s:=fun s hs=>by
  have:=vL (l:=p.vars) (e:=e);rw[he.2.2,qqb]at this;have h1:=this s hs;simp only[qqn,Bool.not_eq_false,vI,qpq]at h1;obtain⟨v,hv,hvn⟩:=h1;obtain⟨i,hi⟩:=qpD hv;exact⟨i,v,hi,by simpa using hvn⟩
 have hfit:(zy [2] e).length<=100000:=Yf ht.2.2;rw[h0]at ha;have henc:=qd e;rw[henc]at ha hna ⊢;generalize zy [2] e=N at *;simp[-getElem?_pos];refine qc.call ha (by simp) ?_;simp[-getElem?_pos];refine qc.call hna (by simp) ?_;simp[-getElem?_pos];refine qJ.listR N (fun d ev U=>ev 0=.map M/\ev 14=.sl 1 (N.map z6) .none/\ev 15=.int .i64 N.length/\ev 16=.int .i64 d.length/\KpL [] H U.H) ?_ ?_ ?_
 . exact⟨by simp,by simp,by simp,by simp,KpL.app⟩
 . rintro d s rest ev ⟨H1,T1⟩ R hR hd hx hlt ⟨e0,e14,e15,e16,hkp⟩;dsimp only at hkp;obtain⟨i,v,hi,hvn⟩:=hall s (qoZ hx);have hl:=VD (U:=⟨H1,T1⟩) (hkp.2 _ _ hM (by simp)) hn hi;rw[hvn]at hl;have hdw:=wr (n:=(d.length:Int)+1) (by omega) (by omega);have hlt':(d.length:Int)<N.length:=(by omega);simp[-getElem?_pos,e0,e14,e15,e16,hlt,hlt',hx,hl,hdw];exact hR _ _ ⟨by simp[e0],by simp[e14],by simp[e15],by simp,hkp⟩
 . rintro ev ⟨H1,T1⟩ ⟨e0,e14,e15,e16,hkp⟩;simp[-getElem?_pos,e15,e16];exact hkp
def qj2:List (Nat×Sch×List Nat):=[(7,.step 0 [7,3,2,1] (.step 1 [7,3,2] (.step 2 [7,3] (.step 3 [7] (.step 4 [7,5] (.step 5 [7] (.step 6 [7] (.step 7 [] (.done)))))))),[]),(9,.step 0 [8,7] (.step 1 [8,7,6,4,3,2] (.step 2 [8,7,6,4,3] (.step 3 [8,7,6,4] (.step 4 [8,7,6] (.step 5 [8,7,6] (.step 6 [8,7] (.step 7 [8] (.step 8 [] (.done))))))))),[6])]
def BldQ (d:List Nd)(p:Problem)(H:List Blk)(r:AV)(U':St):Prop :=
 ∃ B M,r=.tup [.ptr B 0,.int .i64 0]/\H.length<=B/\H.length<=M/\M≠B/\KpL [] H U'.H/\U'.H[B]?=some (.cells (.sl 3 (d.map qE) .none::(qL p++[.sl 1 ((qQ p).map qu) .none,.map M])))/\U'.H[M]?=some (wz p.vars)
theorem qer {vs:List Var}{i:Nat}{v:Var}(hv:vs[i]?=some v):wO (vs.take (i+1))=wO (vs.take i)++[(v.name,.int .i64 (i:Int),i)]:=by
 have hl:=(qoX.1 hv).1;unfold wO;rw[qpw,hv];simp[qrs,qrD (qsh hl)]
theorem qjk {vs:List Var}(hn:(vs.map (·.name)).Nodup){i:Nat}{v:Var}(hv:vs[i]?=some v)(k:Nat):ju (.str v.name) ((wO (vs.take i)).map ZJ) k=some none:=by
 have hl:=(qoX.1 hv).1;rcases Qw (s:=v.name) (wO (vs.take i)) k with ⟨h1,_⟩|⟨j,q,h1,h2,_⟩
 . exact h1
 . exfalso;obtain⟨w,hw,rfl⟩:=qcM h1;rw[qpE]at hw;split at hw
   . rename_i hj;obtain⟨hj1,hj2⟩:=qoX.1 hw;obtain⟨_,hi2⟩:=qoX.1 hv;have hp:=qqF.1 hn;have h2:w.name=v.name:=h2;exact hp j i (by simpa using hj1) (by simpa using hl) hj (by rw[qqh,qqh,hj2,hi2,h2])
   . cases hw
theorem qjx (d:List Nd)(hd:DagOk d)(p:Problem)(h:VQ p)(hv:qr p=0)(e:Ex)(hk:zr p.vars e=0)(ht:JC e)(H:List Blk)(T:List (Option Nat)) :
 qg Tryz.prog GG 128 [.agg (zR d),.agg (qL p),.agg (qt e)] ⟨H,T⟩ (BldQ d p H):=by
 refine qg.kO ⟨false,qj2,[],[]⟩ qe Tryz.func128 rfl (by kernel_rfl) ?_;have hdv:=qa6 d hd;have hpv:=jZ p h;have hev:=JJ e ht.1 (by have:=ht.2.1;omega);have hlv:=qbj p h hv;have hn:=yI hv;have he:zg e=0:=by
  unfold zr at hk;split at hk
  . rename_i h;exact absurd hk h
  . rename_i h;exact qqj.1 h
 have hvl:=h.vars;have huse:=fun H M (hM:H[M]?=some (wz p.vars)) T=>qna p e hn hk ht hM T
 rw[hv]at hpv;rw[he]at hev;generalize hLV:qQ p=LV at *;rw[qd e]at hev huse ⊢;simp only[zR]at hdv;simp only[qL]at hpv hlv;simp[-getElem?_pos];refine qc.call hdv (by simp) ?_;simp[-getElem?_pos,unA];refine qc.call hpv (by simp) ?_;simp[-getElem?_pos];refine qc.call hev (by simp) ?_;simp[-getElem?_pos];rw[Zk (by rfl)];simp[-getElem?_pos];refine qc.call hlv (by simp) ?_;simp[-getElem?_pos,zl,zP,qA];refine qJ.listR p.vars (fun dn ev U=>ev 4=.ptr (H.length+1) 0/\ev 5=.ptr (H.length+2) 0/\ev 8=.ptr (H.length+4) 0/\ev 32=.sl 4 (p.vars.map qx) .none/\ev 33=.int .i64 p.vars.length/\ev 34=.int .i64 dn.length /\
  KpL [] H U.H/\U.H[H.length+1]?=some (.cells (qL p))/\U.H[H.length+2]?=some (.cells [.int .i64 e.op,.int .i64 e.n,.str e.name,.sl 4 (e.args.map qt) .none])/\U.H[H.length+3]?=some (.map ((wO (p.vars.take dn.length)).map ZJ) dn.length) /\
  U.H[H.length+4]?=some (.cells (.sl 3 (d.map qE) .none::(qL p++[.sl 1 (LV.map qu) .none,.map (H.length+3)])))) ?_ ?_ ?_
 . refine⟨by simp,by simp,by simp,by simp,by simp,by simp,KpL.app,?_,?_,?_,?_⟩
   . exact lk1
   . exact lk2
   . exact lk3
   . exact lk4
 . rintro dn v rest ev ⟨H1,T1⟩ R hR hd hx hlt ⟨e4,e5,e8,e32,e33,e34,hkp,bP,bE,bM,bB⟩;dsimp only at hkp bP bE bM bB;have hdw:=wr (n:=(dn.length:Int)+1) (by omega) (by omega);have hlt':(dn.length:Int)<p.vars.length:=(by omega);have hf:=qjk hn hx 0;have ht1:=qer hx;have hMl:=(qoX.1 bM).1;have hup:∀ (u:List Blk) (T:List (Option Nat)),qY (Dof Tryz.prog) ⟨H1++u,T⟩ 184 (.map (H.length+3)) (.str v.name) (.int .i64 (dn.length:Int))=some ⟨H1.set (H.length+3) (.map ((wO (p.vars.take (dn.length+1))).map ZJ) (dn.length+1))++u,T⟩:=fun u T=>by
    rw[ht1,qpV];generalize (wO (p.vars.take dn.length)).map ZJ=E at *;simp[qY,qa bM,zt,hf,yy bM,ZJ]
   generalize hE2:(wO (p.vars.take (dn.length+1))).map ZJ=E2 at *;simp only[qL,qpp,qpl]at bB;simp[-getElem?_pos,e4,e5,e8,e32,e33,e34,hlt,hlt',hx];rw[qI rfl];simp[-getElem?_pos,qP,e4,e5,e8,e32,e33,e34,qa bB,hup,hdw];refine hR _ _ ⟨by simp[e4],by simp[e5],by simp[e8],by simp[e32],by simp[e33],by simp,(hkp.setF (by omega)).trans KpL.app,qa (by rw[qoY (by omega)];exact bP) _,qa (by rw[qoY (by omega)];exact bE) _,?_,qa (by rw[qoY (by omega)];exact bB) _⟩;rw[qo3,qpu,hE2];exact qa (qo2 hMl) _
 . rintro ev ⟨H1,T1⟩ ⟨e4,e5,e8,e32,e33,e34,hkp,bP,bE,bM,bB⟩;dsimp only at hkp bP bE bM bB;rw[qqD]at bM;have bM':H1[H.length+3]?=some (wz p.vars):=bM;have bB':=bB;simp only[qL,qpp,qpl]at bB;simp[-getElem?_pos,e4,e5,e8,e32,e33,e34];rw[qI rfl];simp[-getElem?_pos,qP,e4,e5,e8,e32,e33,e34,bB,bE];refine qc.acall (huse H1 (H.length+3) bM' T1) ?_;rintro v ⟨H2,T2⟩ ⟨rfl,hk2⟩;dsimp only at hk2;simp[-getElem?_pos,qP,e8];exact⟨H.length+4,H.length+3,rfl,by omega,by omega,by omega,hkp.trans hk2,by rw[hLV];exact hk2.2 _ _ bB' (by simp),hk2.2 _ _ bM' (by simp)⟩
def yx (vs:List Var)(l:List Int):Int:=(l.map fun i=>zz vs i.toNat).sum
theorem Ky (vs:List Var)(l:List Int)(i:Int):yx vs (l++[i])=yx vs l+zz vs i.toNat:=by simp[yx]
theorem Za {vs:List Var}(hw:∀ v∈vs,0<=v.width)(n:Nat):0<=zz vs n:=by
 unfold zz;split
 . rename_i v hv;exact hw v (qoZ hv)
 . omega
theorem Jl {vs:List Var}(hw:∀ v∈vs,0<=v.width):∀ l:List Int,0<=yx vs l
 | []=>by simp[yx]
 | a::r=>by
  have:=Jl hw r;have:=Za hw a.toNat;simp only[yx,qo9,qre]at *;omega
theorem VO (vs:List Var)(l m:List Int):yx vs (l++m)=yx vs l+yx vs m:=by simp[yx]
theorem Kx {vs:List Var}(hw:∀ v∈vs,0<=v.width)(l:List Int)(k:Nat):yx vs (l.take k)<=yx vs l:=by
 have h1:=VO vs (l.take k) (l.drop k);rw[qpY]at h1;have:=Jl hw (l.drop k);omega
theorem qdu {vs:List Var}{l:List Int}(hl:∀ i∈l,∃ n:Nat,i=n/\n<vs.length)(hnd:l.Nodup):∀ m,m<=l.length->(ku vs (l.take m)).2=yx vs (l.take m)/\∀ k (i:Int),k<m->l[k]?=some i->(ku vs (l.take m)).1[i.toNat]?=some (yx vs (l.take k))
 | 0,_=>⟨by simp[ku,yx],fun k i h=>by omega⟩
 | m+1,hm=>by
  obtain⟨ih1,ih2⟩:=qdu hl hnd m (by omega);obtain⟨j,hj⟩:∃ j,l[m]?=some j:=⟨_,qo1 (by omega)⟩;have ht:l.take (m+1)=l.take m++[j]:=by rw[qpw,hj];rfl
  obtain⟨n,rfl,hn⟩:=hl j (qoZ hj);have hlen:=QM vs (l.take m);rw[ht,K4,Ky];refine⟨by simp only[wD,ih1],fun k i hk hi=>?_⟩;simp only[wD,qpQ];by_cases hkm:k=m
  . subst hkm;rw[hj]at hi;cases hi;rw[qpQ,qo2 (by omega),ih1]
  . obtain⟨n2,rfl,hn2⟩:=hl i (qoZ hi);have hne:n≠n2:=by
     rintro rfl;have hp:=qqF.1 hnd;obtain⟨a1,a2⟩:=qoX.1 hj;obtain⟨b1,b2⟩:=qoX.1 hi;exact hp k m b1 a1 (by omega) (by rw[a2,b2])
    rw[qpQ,qoY hne];exact ih2 k _ (by omega) hi
theorem VL {f:Int->Int}:∀ {l:List Int} {a:Int},a∈l->((l.erase a).map f).sum+f a=(l.map f).sum
 | x::r,a,h=>by
  rw[List.erase_cons];split
  . rename_i hx;have:x=a:=by simpa using hx
    subst this;simp;omega
  . rename_i hx;have hx:¬ x=a:=(by simpa using hx);have h2:a∈r:=(qpm.1 h).resolve_left (Ne.symm hx);have:=VL (f:=f) h2;simp;omega
theorem qbG {f:Int->Int}(hf:∀ i,0<=f i):∀ (n:Nat) (l:List Int),l.Nodup->(∀ x∈l,0<=x/\x<n)->(l.map f).sum<=((List.range n).map fun k:Nat=>f k).sum
 | 0,l,_,h=>by
  cases l with
  | nil=>simp
  | cons a r=>have:=h a (by simp);omega
 | n+1,l,hn,h=>by
  rw[qp8,qpV,List.sum_append];simp only[qo9,qpv,qre,qsi];by_cases hm:(n:Int)∈l
  . have h1:=qbG hf n (l.erase (n:Int)) (hn.erase _) fun x hx=>by
     have h2:=(hn.mem_erase_iff).1 hx;have:=h x h2.2;omega
    have:=VL (f:=f) hm;omega
  . have h1:=qbG hf n l hn fun x hx=>by
     have:=h x hx;have h2:x≠(n:Int):=fun e=>hm (e▸hx)
     omega
    have:=hf n;omega
def qnt (vs:List Var)(i:Int):Int:=if yh vs i=true then zz vs i.toNat else 0
theorem qiw:∀ (vs:List Var),((List.range vs.length).map fun k:Nat=>qnt vs k).sum=j8 vs:=by
 have gen:∀ (vs pre:List Var),((List.range' pre.length vs.length).map fun k:Nat=>qnt (pre++vs) k).sum=j8 vs:=by
  intro vs
  induction vs with
  | nil=>intro pre;rfl
  | cons v r ih=>
   intro pre;have:=ih (pre++[v]);rw[qps,qqU,qo3,qpu]at this;rw[qpd,qqQ,qo9,qre,this];simp only[j8];congr 1;have h1:(pre++v::r)[pre.length]?=some v:=(by rw[qo5 (qo7 _),qql];rfl);simp only[qnt,yh,zz,qpQ,h1];by_cases hm:v.mode=0<;>simp[hm]
 intro vs;have:=gen vs []
 rwa[qpy,<- qqJ,qpl]at this
theorem qes {p:Problem}(h:qr p=0):j8 p.vars<=20:=by
 have hv:ja p.vars=0:=by
  unfold qr at h;split at h
  . exact absurd h (by assumption)
  . rename_i h1;exact qqj.1 h1
 unfold ja at hv;split at hv
 . cases hv
 . split at hv
   . rename_i h1;exact absurd hv h1
   . split at hv
     . cases hv
     . split at hv
       . cases hv
       . split at hv
         . cases hv
         . omega
theorem Jt {p:Problem}(h:qr p=0):∀ i∈p.groups.flatten,∃ n:Nat,i=n/\n<p.vars.length:=fun i hi=>by
 obtain⟨n,v,rfl,hn,_⟩:=JZ ((jQ h).2.1 i hi);exact⟨n,rfl,(qoX.1 hn).1⟩
theorem vA {p:Problem}(h:qr p=0):∀ v∈p.vars,0<=v.width:=fun v hm=>by have:=zk (jA h v hm);omega
theorem YA {p:Problem}(h:qr p=0):yx p.vars p.groups.flatten<=20:=by
 have h1:=qbG (f:=qnt p.vars) (fun i=>by unfold qnt;split;exact Za (vA h) _;omega) p.vars.length p.groups.flatten (jQ h).2.2.1 (fun i hi=>by
  obtain⟨n,rfl,hn⟩:=Jt h i hi;omega)
 rw[qiw]at h1;have h2:=qes h;have h3:(p.groups.flatten.map (qnt p.vars)).sum=yx p.vars p.groups.flatten:=by
  unfold yx;congr 1;exact qqa fun i hi=>by unfold qnt;rw[if_pos ((jQ h).2.1 i hi)]
 omega
theorem yE (p:Problem):(qQ p).length=p.vars.length:=QM p.vars _
theorem Yi {p:Problem}(h:qr p=0){k:Nat}{n:Nat}(hk:p.groups.flatten[k]?=some (n:Int)):(qQ p)[n]?=some (yx p.vars (p.groups.flatten.take k)):=by
 have h1:=(qdu (Jt h) (jQ h).2.2.1 p.groups.flatten.length (qo7 _)).2 k _ (qoX.1 hk).1 hk;rw[qqD,qpQ]at h1;exact h1
theorem qgv {p:Problem}(h:qr p=0){n:Nat}{v:Var}(hv:p.vars[n]?=some v)(hm:v.mode≠0):∃ k:Nat,p.groups.flatten[k]?=some (n:Int):=by
 have:=(jQ h).2.2.2 n (qoX.1 hv).1 (by simp[yh,hv,hm]);exact qpD this
theorem qhn {p:Problem}(h:qr p=0):∀ (i:Nat) (v:Var) (l:Int),p.vars[i]?=some v->(qQ p)[i]?=some l->v.mode≠0->0<=l/\l+v.width<=20:=fun i v l hv hl hm=>by
 obtain⟨k,hk⟩:=qgv h hv hm;have h1:=Yi h hk;rw[hl]at h1;cases h1;have h2:=Jl (vA h) (p.groups.flatten.take k);have h3:=Kx (vA h) p.groups.flatten (k+1);have h4:p.groups.flatten.take (k+1)=p.groups.flatten.take k++[(i:Int)]:=by rw[qpw,hk];rfl
 rw[h4,Ky]at h3;have h5:zz p.vars (i:Int).toNat=v.width:=by simp[zz,hv]
 have h6:=YA h;omega
def NedM (p:Problem)(H:List Blk)(r:AV)(U':St):Prop:=KpL [] H U'.H/\((z9 p=[]/\r=.sl 4 [] .tight)\/∃ b,z9 p≠[]/\r=.ms b 0 (z9 p).length 4/\U'.H[b]?=some (.cells ((z9 p).flatMap qt))/\H.length<=b)
theorem lk1b {α:Type}{H:List α}{p q:α}:(H++[p,q])[H.length+1]?=some q:=by rw[qo5 (by omega),qpM];rfl
theorem sl_msB (b N k:Nat)(h:k<N):zo (.ms b 0 N 4) (some (.int .i64 (k:Int))) none none=some (.ms b (k*4) (N-k) 4):=by
 show (if (0:Int)<=k/\(k:Int)<=N/\(N:Int)<=N/\((k:Int)=0\/(k:Int)<N) then some (AV.ms b (0+(k:Int).toNat*4) ((N:Int).toNat-(k:Int).toNat) 4) else if (k:Int)=N/\(N:Int)=N then some (.sl 4 [] .none) else none)=_;rw[if_pos ⟨by omega,by omega,by omega,by omega⟩];simp
theorem qno (b N:Nat)(h:0<N):zo (.ms b 0 N 4) (some (.int .i64 (N:Int))) none none=some (.sl 4 [] .none):=by
 show (if (0:Int)<=N/\(N:Int)<=N/\(N:Int)<=N/\((N:Int)=0\/(N:Int)<N) then some (AV.ms b (0+(N:Int).toNat*4) ((N:Int).toNat-(N:Int).toNat) 4) else if (N:Int)=N/\(N:Int)=N then some (.sl 4 [] .none) else none)=_;rw[if_neg (by omega),if_pos ⟨rfl,rfl⟩]
theorem KZ (p:Problem)(h:VQ p)(hd:p.dists.length<=10000)(H:List Blk)(T:List (Option Nat)):qg Tryz.prog GG 51 [.agg (qL p)] ⟨H,T⟩ (NedM p H):=by
 refine qg.kO ⟨true,[],[],[]⟩ qe Tryz.func51 rfl (by kernel_rfl) ?_;have hs:=ZD p h hd;have hh:=h.hard;have hsl:(yo p).length<=10000:=by
  unfold yo;split
  . simp[Qu,hd]
  . simp
 have hn:z9 p=p.hard++yo p:=rfl;generalize yo p=S at *;obtain⟨Q,hQ⟩:∃ Q,Q=NedM p H:=⟨_,rfl⟩;rw[<- hQ];have fin0:p.hard++S=[]->∀ u T',Q (.sl 4 [] .tight) ⟨H++u,T'⟩:=fun he u T'=>by rw[hQ];exact⟨KpL.app,.inl ⟨by rw[hn,he],rfl⟩⟩
 have kv:p.hard++S≠[]->∀ (B0:Blk) (T':List (Option Nat)),Q (.ms (H.length+1) 0 (p.hard.length+S.length) 4) ⟨H++[B0,.cells ((p.hard++S).flatMap qt)],T'⟩:=fun he B0 T'=>by
  rw[hQ];refine⟨KpL.app,.inr ⟨H.length+1,by rw[hn];exact he,by rw[hn,qo3],?_,by omega⟩⟩;rw[hn];exact lk1b
 simp only[qL]at hs;have hw:=wr (n:=(p.hard.length:Int)+S.length) (by omega) (by omega);have h00:IntKind.i64.wrap 0=0:=by decide
 by_cases h0:p.hard=[]/\S=[]
 . obtain⟨h1,h2⟩:=h0;subst h2;have fin0:=fin0 (by rw[h1];rfl);rw[h1]at hs hw;simp[-getElem?_pos,h1];refine qc.call hs (by simp) ?_;simp[-getElem?_pos,h00,h1,mkX,qw,ym,WT,zo,zU,yL,zY];exact fin0 _ _
 . have hpos:0<p.hard.length+S.length:=by
    rcases qqe (p.hard.length+S.length) with h|h
    . exact absurd ⟨qpf (by omega),qpf (by omega)⟩ h0
    . exact h
   have hne2:p.hard++S≠[]:=(by simpa using h0);have kv:=kv hne2;have hnz:¬ (p.hard.length:Int)+S.length=0:=(by omega);have hle:(p.hard.length:Int)+S.length<=549755813888:=(by omega);have hge:(0:Int)<=(p.hard.length:Int)+S.length:=(by omega);have htn:((p.hard.length:Int)+S.length).toNat=p.hard.length+S.length:=(by omega);have hmk:∀ U:St,mkX (Dof Tryz.prog) true U 23 (.int .i64 ((p.hard.length:Int)+S.length)) (.int .i64 ((p.hard.length:Int)+S.length))=none:=fun U=>by
    have:∀ z:Int,z≠0->mkX (Dof Tryz.prog) true U 23 (.int .i64 z) (.int .i64 z)=none:=fun z hz=>by
     unfold mkX;split
     . rename_i h1 _;simp at h1;exact absurd h1.2 hz
     . rfl
    exact this _ hnz
   obtain⟨Z,hZ⟩:∃ Z,Z=(List.replicate (p.hard.length+S.length) [AV.int .i64 0,.int .i64 0,.str [],.sl 0 [] .nil]).flatten:=⟨_,rfl⟩;have hZl:Z.length=(p.hard.length+S.length)*4:=(by rw[hZ];simp);have hAl:(p.hard.flatMap qt).length=p.hard.length*4:=Go.Abs.flat_len (sz:=4) zf p.hard;have hBl:(S.flatMap qt).length=S.length*4:=Go.Abs.flat_len (sz:=4) zf S;have hA:(p.hard.map qt).flatten=p.hard.flatMap qt:=(by rw[qqC]);have hB:(S.map qt).flatten=S.flatMap qt:=(by rw[qqC]);have htA:(p.hard.map qt).take p.hard.length=p.hard.map qt:=qo6 (by simp);have htB:(S.map qt).take S.length=S.map qt:=qo6 (by simp);have h2:=V0 (p.hard.flatMap qt) (S.flatMap qt) Z (by rw[hZl,hAl,hBl,qpO]);rw[hAl,<- List.flatMap_append]at h2;have hZ1l:(zp Z 0 (p.hard.flatMap qt)).length=(p.hard.length+S.length)*4:=(by rw[J4,hZl]);have la:∀ (B0 C:Blk),(H++[B0,C])[H.length+1]?=some C:=fun B0 C=>by rw[qo5 (by omega),qpM];rfl
   have ls:∀ (B0 C D:Blk),(H++[B0,C]).set (H.length+1) D=H++[B0,D]:=fun B0 C D=>by rw[qpW _ _ (by omega),qpM];rfl
   have hc1:∀ B0:Blk,ym (Dof Tryz.prog) ⟨H++[B0,.cells Z],T⟩ 23 (.ms (H.length+1) 0 (p.hard.length+S.length) 4) (.sl 4 (p.hard.map qt) .none)=some (.int .i64 p.hard.length,⟨H++[B0,.cells (zp Z 0 (p.hard.flatMap qt))],T⟩):=fun B0=>by
    by_cases hh0:p.hard=[]
    . simp[ym,WT,hh0,zp]
    . have hm:min p.hard.length (p.hard.length+S.length)=p.hard.length:=(by omega);have hl:p.hard.length*4<=(p.hard.length+S.length)*4:=(by omega);simp[ym,WT,ql0,hm,hh0,htA,hA,hZl,hl,la,ls]
   by_cases hS0:S=[]
   . subst hS0;have hhp:0<p.hard.length:=(by simpa using hpos);have hsl2:=qno (H.length+1) p.hard.length hhp;have hpa:zp Z 0 (p.hard.flatMap qt)=p.hard.flatMap qt:=putAt_all _ _ (by rw[hZl,hAl];simp);rw[hpa]at hc1;simp only[qpy,qp7,qqg,Int.add_zero]at hw hnz hle hge htn hZ hc1 hmk;simp only[qpv]at hs;have hcz:∀ U:St,ym (Dof Tryz.prog) U 23 (.sl 4 [] .none) (.sl 4 [] .none)=some (.int .i64 0,U):=fun U=>by simp[ym,WT]
     have hhn:¬ p.hard=[]:=qpe.1 hhp;simp only[qpB,qpy,qp7]at kv;generalize p.hard.flatMap qt=FE at *;simp[-getElem?_pos];refine qc.call hs (by simp) ?_;simp[-getElem?_pos,hw,hnz,hle,hge,hhn,hmk,qw,<- hZ,hc1,hsl2,hcz];exact kv _ _
   . have hSp:=qpe.2 hS0;have hsl2:zo (.ms (H.length+1) 0 (p.hard.length+S.length) 4) (some (.int .i64 p.hard.length)) none none=some (.ms (H.length+1) (p.hard.length*4) S.length 4):=by
      have h3:p.hard.length+S.length-p.hard.length=S.length:=(by omega);rw[sl_msB _ _ _ (by omega),h3]
     have hc2:∀ B0:Blk,ym (Dof Tryz.prog) ⟨H++[B0,.cells (zp Z 0 (p.hard.flatMap qt))],T⟩ 23 (.ms (H.length+1) (p.hard.length*4) S.length 4) (.sl 4 (S.map qt) .none)=some (.int .i64 S.length,⟨H++[B0,.cells ((p.hard++S).flatMap qt)],T⟩):=fun B0=>by
      have hl:p.hard.length*4+S.length*4<=(p.hard.length+S.length)*4:=(by omega);simp[ym,WT,ql0,hS0,htB,hB,hZ1l,hl,-List.flatMap_append,h2,la,ls]
     have hlen:(p.hard++S).length=p.hard.length+S.length:=(by simp);generalize (p.hard++S).flatMap qt=FE at *;generalize zp Z 0 (p.hard.flatMap qt)=Z1 at *;generalize p.hard++S=PS at *;simp[-getElem?_pos];refine qc.call hs (by simp) ?_;simp[-getElem?_pos,hw,hnz,hle,hge,hmk,qw,htn,<- hZ,hc1,hsl2,hc2];exact kv hne2 _ _
theorem qdP {α:Type}{sz:Nat}{en:α->List AV}(hl:∀ x,(en x).length=sz):∀ {l:List α} {i:Nat} {v:α},l[i]?=some v->((l.flatMap en).drop (i*sz)).take sz=en v
 | [],i,v,h=>by simp at h
 | a::r,0,v,h=>by
  simp at h;subst h;rw[qpn,qqA,qqm,qpU (by rw[hl];exact qo7 _),qo6 (by rw[hl];exact qo7 _)]
 | a::r,i+1,v,h=>by
  have ih:=qdP hl (l:=r) (i:=i) (v:=v) (by simpa using h);have e:(i+1)*sz=sz+i*sz:=by rw[qro,qqz]
  rw[qpn,e,qqr,qpz (by rw[hl];omega),hl,qpl,qpM,ih]
def qmO (b:Nat)(H:List Blk)(v:AV)(l:List Ex):Prop:=(l=[]/\v=.sl 4 [] .tight)\/(l≠[]/\v=.ms b 0 l.length 4/\H[b]?=some (.cells (l.flatMap qt)))
theorem qmO.append {b:Nat}{H:List Blk}{T:List (Option Nat)}{v:AV}{l:List Ex}(h:qmO b H v l)(x:Ex)(hl:l.length<=1000000) :
 ∃ H',zu (Dof Tryz.prog) ⟨H,T⟩ 23 23 v (.sl 4 [qt x] .tight)=some (.ms H.length 0 (l.length+1) 4,⟨H',T⟩)/\qmO H.length H' (.ms H.length 0 (l.length+1) 4) (l++[x])/\(∀ (k:Nat) (y:Blk),H[k]?=some y->(l=[]\/k≠b)->H'[k]?=some y)/\H.length<=H'.length:=by
 have hl4:=zf x;rcases h with ⟨rfl,rfl⟩|⟨hne,rfl,hb⟩
 . refine⟨H++[.cells (qt x)],?_,?_,fun k y hk _=>qa hk _,by simp⟩
   . simp[zu,ji,Ww,qR,hl4]
   . exact .inr ⟨by simp,by simp,by simp⟩
 . have h1:l.length+1<=549755813888:=(by omega);have hfl:=Go.Abs.flat_len (sz:=4) zf l;have ht:(l.flatMap qt).take (l.length*4)=l.flatMap qt:=qo6 (by omega);have hle:l.length*4<=(l.flatMap qt).length:=(by omega);refine⟨H.set b .dead++[.cells (l.flatMap qt++qt x)],?_,?_,fun k y hk hkb=>?_,by simp⟩
   . rw[hfl]at hle;simp[zu,ji,Ww,qR,hl4,hb,h1,ht,hfl]
   . exact .inr ⟨by simp,by simp,by simp⟩
   . exact qa (by rw[qoY (Ne.symm (hkb.resolve_left hne))];exact hk) _
theorem qmO.len {b:Nat}{H:List Blk}{v:AV}{l:List Ex}(h:qmO b H v l)(U:St):Y9 (Dof Tryz.prog) U 23 v=some (.int .i64 (l.length:Nat)):=by
 rcases h with ⟨rfl,rfl⟩|⟨_,rfl,_⟩<;>simp
theorem Yn (vs:List Var):∀ (L:List (Int×Ex)) (R:List Ex),∀ q∈w8 vs R L,q∈L
 | [],R,q,h=>by simp[w8]at h
 | x::r,R,q,h=>by
  unfold w8 at h;split at h
  . rcases qpm.1 h with rfl|h
    . simp
    . exact qpI _ (Yn vs r _ q h)
  . exact qpI _ (Yn vs r _ q h)
theorem Yo (vs:List Var):∀ (L:List (Int×Ex)) (R:List Ex),(w8 vs R L).length<=L.length
 | [],R=>by simp[w8]
 | x::r,R=>by
  unfold w8;split
  . have:=Yo vs r (R++[x.2]);simp;omega
  . have:=Yo vs r R;simp;omega
theorem qkf {l:List Ex}{q:Int×Ex}(h:q∈Kj l):∃ k:Nat,q.1=k/\l[k]?=some q.2:=by
 obtain⟨k,hk⟩:=qpD h;obtain⟨_,h2,h3⟩:=qgU hk;exact⟨_,h2,h3⟩
theorem qhw {p:Problem}{q:Int×Ex}(h:q∈Ym p):∃ k:Nat,q.1=k/\p.soft[k]?=some q.2:=qkf (Yn _ _ _ q (by simpa[Ym] using h))
theorem qdC (p:Problem):(Ym p).length<=p.soft.length:=by
 unfold Ym;rw[List.length_reverse];exact qp4 (Yo _ _ _) (by rw[qdr];exact qo7 _)
noncomputable def zH (p:Problem):List Ex×Int :=
 if qr p=0 then (if yM p.vars (z9 p)=true then (qlX p,0) else ([],11)) else ([],1)
theorem Zf (p:Problem):(zH p).2=(wm p).2:=by
 unfold zH wm;split
 . split<;>rfl
 . rfl
theorem JX {p:Problem}(h:(wm p).2=0):qr p=0/\yM p.vars (z9 p)=true/\zH p=(z9 p++(Ym p).map (·.2),0)/\(wm p).1=(Ym p).map (·.1):=by
 unfold wm at h;split at h
 . rename_i hv;split at h
   . rename_i hs;have hn:z9 p=qnV p:=by
      show p.hard++yo p=_;rw[yo,if_pos hv];rfl
     refine⟨hv,hs,?_,?_⟩
     . unfold zH qlX;rw[if_pos hv,if_pos hs,hn]
     . unfold wm Ym;rw[if_pos hv,if_pos hs,hn]
   . simp at h
 . simp at h
theorem Vl (p:Problem)(h:VQ p)(hv20:p.vars.length<=20)(hb:yp p.vars (qy p)<=18)(hd:p.dists.length<=10000)(hs5:p.soft.length<=10000) :
 Pure Tryz.prog GG 23 [.agg (qL p)] (.tup [.sl 4 ((zH p).1.map qt) .none,.int .i64 (zH p).2]):=by
 have hkp:=qi0 p h hv20 hb hd hs5;by_cases he:(wm p).2=0
 case neg=>
  have hre:=Zf p;have hr0:(zH p).1=[]:=by
   unfold zH wm at *;split
   . rename_i hv;split
     . rename_i hs;rw[if_pos hv,if_pos hs]at he;exact absurd rfl he
     . rfl
   . rfl
  rw[hr0,hre];refine Pure.kO o0 true qe Tryz.func23 rfl (by kernel_rfl) ?_;simp only[qL]at hkp;simp[-getElem?_pos];refine qc.call hkp (by simp) ?_;simp[-getElem?_pos,he];rw[qG (by simp)];exact⟨by simp,by simp[Leq,zn]⟩
 obtain⟨hv,hs,hrr,hk1⟩:=JX he;rw[hk1,he]at hkp;rw[hrr];dsimp only;have hkl:=qdC p;have hka:=fun q (hq:q∈Ym p)=>qhw hq
 generalize hKS:Ym p=KS at *;refine Pure.kO ⟨true,[],[],[]⟩ true qe Tryz.func23 rfl (by kernel_rfl) ?_;have hnd:=KZ p h hd [.cells (qL p)] [];have hknow:=QJ h hv;have h1:=h.hard;have h2:(yo p).length<=10000:=by
  have:yo p=Qu p:=if_pos hv;rw[this,Qu,qpK];exact hd
 have hNl:(z9 p).length<=20000:=by rw[z9,qo3];omega
 obtain⟨RES,hRES⟩:∃ RES,RES=z9 p++KS.map (·.2):=⟨_,rfl⟩;have hRt:∀ e∈RES,(pre e).length<=100000:=fun e hm=>by
  rw[hRES]at hm;rcases qpk.1 hm with hm|hm
  . exact (hknow e (qpH _ hm)).2.2.2
  . obtain⟨q,hq,rfl⟩:=qpx.1 hm;obtain⟨k,_,hk⟩:=hka q hq;exact (hknow q.2 (qp5 _ (qoZ hk))).2.2.2
 rw[<- hRES];simp only[qL]at hkp hnd;simp[-getElem?_pos];refine qc.call hkp (by simp) ?_;simp[-getElem?_pos];refine qc.acall hnd ?_;rintro v ⟨H1,T1⟩ ⟨hk,hr⟩;dsimp only at hk hr;have bP:H1[0]?=some (.cells (qL p)):=hk.2 0 _ (by simp[qL]) (by simp);obtain⟨b,ho,hb0⟩:∃ b,qmO b H1 v (z9 p)/\b≠0:=by
  rcases hr with ⟨hn,rfl⟩|⟨b,hne,rfl,hb1,hb2⟩
  . exact⟨1,.inl ⟨hn,rfl⟩,by omega⟩
  . exact⟨b,.inr ⟨hne,rfl,hb1⟩,by simp at hb2;omega⟩
 clear hr hk;generalize z9 p=N at *;simp[-getElem?_pos];refine qJ.listR KS (fun d ev U=>ev 1=.ptr 0 0/\ev 20=.sl 1 (KS.map fun q=>[AV.int .i64 q.1]) .none/\ev 21=.int .i64 KS.length/\ev 22=.int .i64 d.length/\∃ H b T,U=⟨H,T⟩/\H[0]?=some (.cells (qL p))/\b≠0/\qmO b H (ev 6) (N++d.map (·.2))) ?_ ?_ ?_
 . refine⟨by simp,by simp,by simp,by simp,H1,b,T1,rfl,bP,hb0,by simpa using ho⟩
 . rintro d q rest ev U R hR hdl hx hlt ⟨e1,e20,e21,e22,H,b,T,rfl,bP,hb0,ho⟩;have hdw:=wr (n:=(d.length:Int)+1) (by omega) (by omega);have hlt':(d.length:Int)<KS.length:=(by omega);obtain⟨k,hk1,hk2⟩:=hka q (qoZ hx);have hkl2:=(qoX.1 hk2).1;have hkl3:(k:Int)<p.soft.length:=(by omega);obtain⟨H',hap,ho',hkeep,hlen⟩:=ho.append (T:=T) q.2 (by rw[qo3,qpK];omega);have hHl:=(qoX.1 bP).1;have ha:=ko q.2;have hl4:=zf q.2;have htk:(qt q.2).take 4=qt q.2:=qo6 (by rw[hl4];exact qo7 _);have bP2:=hkeep 0 _ bP (by right;exact Ne.symm hb0);have hsn:N++(d++[q]).map (·.2)=N++d.map (·.2)++[q.2]:=(by simp);simp only[qL]at bP;generalize hv6:ev 6=v6 at *;simp[-getElem?_pos,-qZ,e1,e20,e21,e22,hlt,hlt',hx,hk1,hk2,hkl2,hkl3,bP,htk,ha,hl4,qm,qz,hap,hv6,hdw];refine hR _ _ ⟨by simp[e1],by simp[e20],by simp[e21],by simp,H',H.length,T,rfl,bP2,by omega,?_⟩;rw[hsn];simpa using ho'
 . rintro ev U ⟨e1,e20,e21,e22,H,b,T,rfl,bP,hb0,ho⟩;rw[<- hRES]at ho;have hlen:=ho.len ⟨H,T⟩;have hRl:RES.length<=1000000:=(by rw[hRES,qo3,qpK];omega);generalize hv6:ev 6=v6 at *;simp[-getElem?_pos,-Y9,e1,e20,e21,e22,hv6,hlen];refine qJ.listR RES (fun d ev U=>ev 6=v6/\ev 36=.int .i64 RES.length/\ev 37=.int .i64 d.length/\∃ H T,U=⟨H,T⟩/\qmO b H v6 RES) ?_ ?_ ?_
   . exact⟨by simp[hv6],by simp,by simp,H,T,rfl,ho⟩
   . rintro d x rest ev U R hR hdl hx hlt ⟨e6,e36,e37,H,T,rfl,ho⟩;have hdw:=wr (n:=(d.length:Int)+1) (by omega) (by omega);have hlt':(d.length:Int)<RES.length:=(by omega);have hcp:=qih x (hRt x (qoZ hx));rcases ho with ⟨h0,_⟩|⟨hne,rfl,hbk⟩
     . rw[h0]at hx;simp at hx
     have hfl:=Go.Abs.flat_len (sz:=4) zf RES;have hl4:=zf x;have ha:=ko x;have hput:zp (RES.flatMap qt) (d.length*4) (qt x)=RES.flatMap qt:=by
      rw[vE zf RES d.length x hlt];have:RES.set d.length x=RES:=by
       apply qpL;intro j;by_cases hj:d.length=j
       . subst hj;rw[qo2 hlt,hx]
       . rw[qoY hj]
      rw[this]
     have hcut:((RES.flatMap qt).drop (d.length*4)).take 4=qt x:=qdP zf hx;have hfit:d.length*4+4<=RES.length*4:=(by omega);have hset:H.set b (.cells (RES.flatMap qt))=H:=by
      apply qpL;intro j;by_cases hj:b=j
      . subst hj;rw[qo2 (qoX.1 hbk).1,hbk]
      . rw[qoY hj]
     generalize hFF:RES.flatMap qt=F at *;simp[-getElem?_pos,-qZ,e6,e36,e37,hlt,hlt',hbk,hfl,hfit,hcut];refine qc.call hcp (by simp) ?_;simp[-getElem?_pos,-qZ,e6,e36,e37,hlt,hlt',hbk,hfl,hfit,hl4,ha,hput,hset,hdw];exact hR _ _ ⟨by simp[e6],by simp[e36],by simp,H,T,rfl,.inr ⟨hne,rfl,by rw[hFF];exact hbk⟩⟩
   . rintro ev U ⟨e6,e36,e37,H,T,rfl,ho⟩;simp[-getElem?_pos,e6,e36,e37];rcases ho with ⟨h0,rfl⟩|⟨hne,rfl,hbk⟩
     . rw[h0];have hf:frz H 7 (.sl 4 [] .tight)=.sl 4 [] .tight:=qG rfl;exact Jq (by rw[hf];rfl) (by rw[hf];simp[Leq]) (by simp[Leq])
     . have hoo:js b 4 qt H (.ms b 0 RES.length 4) RES:=.inr ⟨hne,rfl,hbk⟩;exact Jq (hoo.frzNo zf (fun x=>nrE x) yg 6) (hoo.frz zf (fun x=>nrE x) yg 6) (by simp)
def RulU (l:List Ex)(H:List Blk)(r:AV)(U':St):Prop:=∃ tok,r=.tup [.sl 4 (l.map qt) tok,.int .i64 0]/\(l≠[]\/tok=.tight)/\KpL [] H U'.H
theorem qlI (p:Problem)(h:VQ p)(hv20:p.vars.length<=20)(hb:yp p.vars (qy p)<=18)(hd:p.dists.length<=10000)(hs5:p.soft.length<=10000)(he:(zH p).2=0)(H:List Blk)(T:List (Option Nat)) :
 qg Tryz.prog GG 23 [.agg (qL p)] ⟨H,T⟩ (RulU (zH p).1 H):=by
 by_cases hR:(zH p).1=[]
 case neg=>
  refine qg.call (Vl p h hv20 hb hd hs5) (by simp) ?_;rw[he];exact⟨.none,rfl,.inl hR,KpL.refl⟩
 have hkp:=qi0 p h hv20 hb hd hs5;rw[Zf]at he;obtain⟨hv,hs,hrr,hk1⟩:=JX he;rw[hrr]at hR;have hR:z9 p=[]/\Ym p=[]:=by simpa using hR
 rw[hrr,hR.1,hR.2];rw[hk1,he,hR.2]at hkp;have hnd:=fun H T=>KZ p h hd H T
 refine qg.kO ⟨true,[],[],[]⟩ qe Tryz.func23 rfl (by kernel_rfl) ?_;simp only[qL]at hkp hnd;simp[-getElem?_pos];refine qc.call hkp (by simp) ?_;simp[-getElem?_pos];refine qc.acall (hnd _ _) ?_;rintro v ⟨H1,T1⟩ ⟨hk,hr⟩;dsimp only at hk;rcases hr with ⟨_,rfl⟩|⟨b,hne,_⟩
 case inr=>exact absurd hR.1 hne
 simp[-getElem?_pos];refine qJ.gen (fun m ev U=>ev 6=.sl 4 [] .tight/\ev 21=.int .i64 0/\ev 22=.int .i64 0/\KpL [] H U.H) 0 ⟨by simp,by simp,by simp,KpL.app.trans hk⟩ ?_;rintro m ev ⟨H2,T2⟩ R hRR ⟨e6,e21,e22,hk2⟩;simp[-getElem?_pos,e6,e21,e22];refine qJ.gen (fun m ev U=>ev 6=.sl 4 [] .tight/\ev 36=.int .i64 0/\ev 37=.int .i64 0/\KpL [] H U.H) 0 ⟨by simp[e6],by simp,by simp,hk2⟩ ?_;rintro m ev ⟨H3,T3⟩ R hRR ⟨e6,e36,e37,hk3⟩;simp[-getElem?_pos,e6,e36,e37];exact⟨.tight,rfl,.inr rfl,hk3⟩
end Go.Proofs.YtcadpamddlofjaaGreatDoor
end
