/- A part of the proof. -/
import Derived.Test.YtpgcmnabljandaaGreatDoorPa49
set_option linter.unusedVariables false
set_option linter.unusedSimpArgs false
set_option maxHeartbeats 16000000
set_option maxRecDepth 100000
set_option linter.defProp false
section
namespace Go.Proofs.YtpgcmnabljandaaGreatDoor
open Go Go.Abs
section
attribute [local simp] acells fin zh ze pl1 plain pl2 AV.atom
theorem qjP:∀ e:Ex,∀ x∈pre e,∀ z∈pre x,z∈pre e:=by
 refine Ex.ind fun e ih x hx z hz=>?_
 rw[zb]at hx;rcases qra.1 hx with rfl|hx
 . exact hz
 . obtain⟨a,ha,hxa⟩:=jz.1 hx;rw[zb];exact qrk _ (jz.2 ⟨a,ha,ih a ha x hxa z hz⟩)
theorem qpn {l:List Var}{e:Ex}(hn:za e):Wen (scE l e):=by
 have hs:=JW l e hn;have hnn:∀ y∈pre (scE l e),y.name.length<=2000:=by
  have hle:∀ x∈pre e,x.name.length<=1000:=fun x hx=>qa2 (fun z hz=>hn z (qjP e x hx z hz):za x)
  refine qfY l (fun s=>s.length<=2000) (by simp) e (fun x hx=>by have:=hle x hx;show x.name.length<=2000;omega) (fun x hx i hi=>by have:=hle x hx;simp;omega)
 exact qiM fun x hx=>⟨hs x hx,by have:=hnn x hx;omega⟩
theorem WU {a:Str}{idx:Ex}{n:Nat}:(idx.op=1/\(pre (jN a idx n)).length=1)\/(idx.op≠1/\(pre (jN a idx n)).length=n*((pre idx).length+4)+1):=by
 unfold jN;by_cases h:idx.op=1
 . rw[if_pos h];left;refine⟨h,?_⟩;split
   . rw[Zb];rfl
   . rw[QL];rfl
 . rw[if_neg h];exact .inr ⟨h,qbi a idx n n⟩
theorem qpo (l:List Var):∀ e,za e->Ko l e=false->jt l e<100000->((pre (scE l e)).length:Int)<=jt l e:=by
 refine Ex.ind fun e ih hn hu h=>?_
 have hrr:∀ a∈e.args,0<=jt l a/\jt l a<=100000:=fun a ha=>vI l a (hn.arg ha) (zj hu ha)
 have h8:=jy l e.name;have hcapl:∀ z:Int,qan z<100000->qan z=z:=fun z hz=>by unfold qan at hz ⊢;split<;>simp_all
 by_cases c24:e.op=24
 . have hs:=jV (jU hu) (.inr c24);have x2:jt l e=2*(qA l e.name:Int)-1:=(by rw[Qe];unfold qjr;rw[if_pos c24]);rw[x2,yT,if_pos c24,qaE];omega
 by_cases c3:e.op=3
 . obtain⟨a,ha⟩:=YV hn c3;have ham:a∈e.args:=(by rw[ha];simp);have hs:=jV (jU hu) (.inl c3);have hra:=hrr a ham;have x2:jt l e=if a.op=1 then 1 else qan ((qA l e.name:Int)*(yd 0 [jt l a]+4)+1):=by
    rw[Qe,ha];unfold qjr;rw[if_neg c24];simp only[qc2,qqZ,qq9,c3,true_and,if_true]
   have hsum:yd 0 [jt l a]=jt l a:=(by simp[yd]);rw[hsum]at x2;have x1:scE l e=jN e.name (scE l a) (qA l e.name):=(by rw[yT,if_neg c24,if_pos c3,ha];rfl);rw[x1];by_cases ca:a.op=1
   . rw[if_pos ca]at x2;have:(scE l a).op=1:=by rw[yT,if_neg (by omega),if_neg (by omega)];exact ca
     rcases WU (a:=e.name) (idx:=scE l a) (n:=qA l e.name) with ⟨_,hl⟩|⟨ho,_⟩
     . rw[hl,x2];decide
     . exact absurd this ho
   . rw[if_neg ca]at x2;rw[x2]at h ⊢;have hz0:=hcapl _ h;rw[hz0]at h ⊢;have hnn:(0:Int)<=(qA l e.name:Int)*(jt l a+4):=qtt (by omega) (by omega);rcases WU (a:=e.name) (idx:=scE l a) (n:=qA l e.name) with ⟨_,hl⟩|⟨ho,hl⟩
     . rw[hl];omega
     . rw[hl];have hge:jt l a<=(qA l e.name:Int)*(jt l a+4):=by
        have:=qsV (show (1:Int)<=(qA l e.name:Int) by omega) (show 0<=jt l a+4 by omega);omega
       have ia:=ih a ham (hn.arg ham) (zj hu ham) (by omega);have hm:=qsm (show (((pre (scE l a)).length:Int)+4)<=jt l a+4 by omega) (show (0:Int)<=(qA l e.name:Int) by omega);simp only[Int.natCast_add,qs9,Int.natCast_one];have e4:((4:Nat):Int)=4:=rfl;rw[e4];omega
 . have x2:jt l e=qan (yd 0 (e.args.map (jt l))+1):=by
    rw[Qe];unfold qjr;rw[if_neg c24,if_neg (by omega),if_neg c3]
   rw[x2]at h ⊢;have hz0:=hcapl _ h;rw[hz0]at h ⊢;have x1:scE l e=.mk e.op e.n e.name (e.args.map (scE l)):=(by rw[yT,if_neg c24,if_neg c3]);rw[x1,Js,qq5,Jt,qr2];have key:∀ (l':List Ex) (s:Int),0<=s->(∀ a∈l',a∈e.args)->yd s (l'.map (jt l))<99999->s+((l'.map ((fun e=>(pre e).length)∘scE l)).sum:Nat)<=yd s (l'.map (jt l)):=by
    intro l'
    induction l' with
    | nil=>intro s hs _ _;simp[yd]
    | cons a r ihr=>
     intro s hs hm hlt;have hra:=hrr a (hm a (by simp));simp only[qqZ,yd]at hlt ⊢;by_cases hs1:s<100000
     . rw[if_pos hs1]at hlt ⊢;have hmono:s+jt l a<=yd (s+jt l a) (r.map (jt l)):=by
        have:∀ (q:List Int) (u:Int),(∀ x∈q,0<=x)->u<=yd u q:=by
         intro q
         induction q with
         | nil=>intro u _;exact qso _
         | cons b q ihq=>
          intro u hq;have:=ihq (u+b) fun x hx=>hq x (by simp[hx])
          have hb:=hq b (by simp);simp only[yd];split<;>omega
        refine this _ _ fun x hx=>?_
        obtain⟨b,hb,rfl⟩:=qq3.1 hx;exact (hrr b (hm b (by simp[hb]))).1
       have ia:=ih a (hm a (by simp)) (hn.arg (hm a (by simp))) (zj hu (hm a (by simp))) (by omega);have i2:=ihr (s+jt l a) (by omega) (fun b hb=>hm b (by simp[hb])) hlt;simp only[qsK,Function.comp_apply];omega
     . rw[if_neg hs1]at hlt;omega
   have:=key e.args 0 (by omega) (fun a h=>h) (by omega);omega
theorem ext_le (l:List Var):∀ e,za e->Ko l e=false->(zx l e).1<=((pre (scE l e)).length:Int):=by
 refine Ex.ind fun e ih hn hu=>?_
 have hok:=fun a (ha:a∈e.args)=>(WE l a (hn.arg ha) (zj hu ha)).nn
 by_cases h4:(zx l e).1<=400
 . have:=(WE l e hn hu).len h4;omega
 have h401:(zx l e).1=401:=by have:=(WE l e hn hu).nn;omega
 rw[h401];by_cases c1:e.op=1
 . have:(zx l e).1=1:=by rw[yq];unfold qbw;rw[if_pos c1]
   omega
 by_cases c24:e.op=24
 . have:=jy l e.name;have x1:(zx l e).1=2*(qA l e.name:Int)-1:=(by rw[yq];unfold qbw;rw[if_neg c1,if_pos c24]);omega
 by_cases c3:e.op=3
 . obtain⟨a,ha⟩:=YV hn c3;have ham:a∈e.args:=(by rw[ha];simp);have hs:=jV (jU hu) (.inl c3);have ia:=ih a ham (hn.arg ham) (zj hu ham);have x1:zx l e=if (qA l e.name:Int)<=(zx l a).2 then (1,0) else if 0<=(zx l a).2 then (1,-1) else
    (if 401<(qA l e.name:Int)*((zx l a).1+4)+1 then 401 else (qA l e.name:Int)*((zx l a).1+4)+1,-1):=by
    rw[yq,ha];unfold qbw;rw[if_neg c1,if_neg c24,if_neg (by simp[c3])];simp only[qqZ,qq9,We]
   have xs:scE l e=jN e.name (scE l a) (qA l e.name):=(by rw[yT,if_neg c24,if_pos c3,ha];rfl);by_cases g1:(qA l e.name:Int)<=(zx l a).2
   . rw[if_pos g1]at x1;rw[x1]at h401;simp at h401
   rw[if_neg g1]at x1;by_cases g2:0<=(zx l a).2
   . rw[if_pos g2]at x1;rw[x1]at h401;simp at h401
   rw[if_neg g2]at x1;have hop:(scE l a).op≠1:=by
    rcases (WE l a (hn.arg ham) (zj hu ham)).val with ⟨v,_⟩|⟨_,v⟩
    . exact absurd v g2
    . exact v
   rcases WU (a:=e.name) (idx:=scE l a) (n:=qA l e.name) with ⟨ho,_⟩|⟨_,hl⟩
   . exact absurd ho hop
   rw[xs,hl];have x1':(zx l e).1=if 401<(qA l e.name:Int)*((zx l a).1+4)+1 then 401 else (qA l e.name:Int)*((zx l a).1+4)+1:=by rw[x1]
   have hge:401<=(qA l e.name:Int)*((zx l a).1+4)+1:=by
    rw[x1']at h401;split at h401<;>omega
   have hm:=qsm (show (zx l a).1+4<=((pre (scE l a)).length:Int)+4 by omega) (show (0:Int)<=(qA l e.name:Int) by omega);simp only[Int.natCast_add,qs9,Int.natCast_one];have e4:((4:Nat):Int)=4:=rfl;rw[e4];omega
 . have x1:(zx l e).1=Zm 1 (e.args.map (zx l)):=(by rw[yq];unfold qbw;rw[if_neg c1,if_neg c24,if_pos c3]);have xs:scE l e=.mk e.op e.n e.name (e.args.map (scE l)):=(by rw[yT,if_neg c24,if_neg c3]);rw[xs,Js,qq5,Jt,qr2];have hcap:∀ (xs:List (Int×Int)) (s:Int),(∀ x∈xs,0<=x.1)->Zm s xs<=s+YZ xs:=by
    intro xs
    induction xs with
    | nil=>intro s _;simp[Zm,YZ]
    | cons m r ihr=>
     intro s hx;have h0:=hx m (by simp);simp only[Zm,YZ];have i1:=ihr (if 401<s+m.1 then 401 else s+m.1) fun x h=>hx x (by simp[h])
     have:(if 401<s+m.1 then 401 else s+m.1)<=s+m.1:=by split<;>omega
     omega
   have key:∀ l':List Ex,(∀ a∈l',a∈e.args)->YZ (l'.map (zx l))<=((l'.map ((fun e=>(pre e).length)∘scE l)).sum:Nat):=by
    intro l'
    induction l' with
    | nil=>intro _;simp[YZ]
    | cons a r ihr=>
     intro hm;have ia:=ih a (hm a (by simp)) (hn.arg (hm a (by simp))) (zj hu (hm a (by simp)));have i2:=ihr fun b hb=>hm b (by simp[hb])
     simp only[qqZ,YZ,qsK,Function.comp_apply];omega
   have k1:=key e.args fun a h=>h
   have k2:=hcap (e.args.map (zx l)) 1 fun x hx=>by
    obtain⟨a,ha,rfl⟩:=qq3.1 hx;have:=hok a ha;omega
   omega
theorem qgy (a:Str):∀ k,hgt (JU a k)<=k+1
 | 0=>by simp[JU,jS,jo]
 | k+1=>by
  have:=qgy a k;rw[JU,jo];simp[we,jS,jo (Ex.mk 2 _ _ _)];omega
theorem qgz (a:Str)(idx:Ex)(n:Nat):∀ k,hgt (Y7 a idx n k)<=k+hgt idx+3
 | 0=>by simp[Y7,zI,jo (Ex.mk 1 _ _ _)]
 | k+1=>by
  have:=qgz a idx n k;rw[Y7,jo];simp[we,jS,zI,jo (Ex.mk 2 _ _ _),jo (Ex.mk 1 _ _ _),jo (Ex.mk 15 _ _ _)];omega
theorem hgt_sc (l:List Var):∀ e,za e->hgt (scE l e)<=12*hgt e:=by
 refine Ex.ind fun e ih hn=>?_
 have h8:=jy l e.name;have hh:=jo e;rw[yT];split
 . have:=qgy e.name (qA l e.name-1);omega
 split
 . rename_i c3;obtain⟨a,ha⟩:=YV hn c3;have ia:=ih a (by rw[ha];simp) (hn.arg (by rw[ha];simp));have xh:qc3 (e.args.map (scE l))=scE l a:=(by rw[ha];rfl);have hea:hgt e=hgt a+1:=(by rw[hh,ha];simp);rw[xh];unfold jN;split
   . split
     . simp[jS,jo (Ex.mk 2 _ _ _)];omega
     . simp[zI,jo (Ex.mk 1 _ _ _)];omega
   . have:=qgz e.name (scE l a) (qA l e.name) (qA l e.name);omega
 . rw[jo];simp only[Ex.args_mk];have:∀ l':List Ex,(∀ a∈l',a∈e.args)->Z4 (l'.map (scE l))<=12*Z4 l':=by
    intro l'
    induction l' with
    | nil=>simp
    | cons a r ihr=>
     intro hm;have i1:=ih a (hm a (by simp)) (hn.arg (hm a (by simp)));have i2:=ihr fun b hb=>hm b (by simp[hb])
     simp only[qqZ,we];omega
   have:=this e.args fun a h=>h
   omega
end
theorem Vw {e:Ex}(h:qM e=0):hgt e<=24:=by
 unfold qM at h;split at h
 . cases h
 . rename_i h2;apply Classical.byContradiction;intro h3;exact h2 ⟨h,.inl (by omega)⟩
theorem qhm {e:Ex}(h:400<(pre e).length)(h2:(pre e).length<100000):qM e≠0:=by
 intro h0;unfold qM at h0;split at h0
 . cases h0
 . rename_i h3;refine h3 ⟨h0,.inr ?_⟩;unfold qaH;rw[wr (by omega) (by omega)];omega
theorem Qa:∀ {a b:List Int} {s:Int},yd s (a++b)=if yd s a<100000 then yd (yd s a) b else yd s a
 | [],b,s=>by
  have e:yd s []=s:=rfl;rw[qrh,e];by_cases h:s<100000
  . rw[if_pos h]
  . rw[if_neg h,qjf h]
 | x::r,b,s=>by
  have e1:yd s (x::r++b)=if s<100000 then yd (s+x) (r++b) else s:=rfl
  have e2:yd s (x::r)=if s<100000 then yd (s+x) r else s:=rfl
  rw[e1,e2];by_cases h:s<100000
  . have i:=Qa (a:=r) (b:=b) (s:=s+x);simp only[if_pos h];exact i
  . simp only[if_neg h]
theorem qiO (c:Cls)(hc:ClsOk c):∀ e,za e->Ko (qf c) e=false->PZ 280 [.agg (qz e),.agg (qn c)] (I_ (jt (qf c) e)):=by
 refine Ex.ind fun e ih hn hu=>?_
 refine Pure.k qg Tryz.func280 rfl (by kernel_rfl) ?_;have h33:=W5 hn;have h8:=jy (qf c) e.name;have hcf:Fits c.fields:=by have:=hc.nf;unfold Fits;omega
 have hfi:=vJ c e.name hcf;have hsz:e.op=3\/e.op=24->(qc c e.name).getD 0=(qA (qf c) e.name:Int):=fun h=>Jh hc ((zy hn.self).2.2.2.2.2.2.1 h)
 have hr:=Qe (qf c) e;have hxs:∀ x∈e.args.map (jt (qf c)),0<=x/\x<=100000:=by
  intro x hx;obtain⟨a,ha,rfl⟩:=qq3.1 hx;exact vI (qf c) a (hn.arg ha) (zj hu ha)
 generalize jt (qf c) e=r at hr;generalize (qc c e.name).isSome=sm at hfi;simp only[qn]at hfi ih ⊢;generalize hN:(qc c e.name).getD 0=N at hfi hsz;unfold qjr at hr;by_cases c24:e.op=24
 . have hsz:=hsz (.inr c24);rw[if_pos c24]at hr;have hw1:IntKind.i64.wrap (2*N)=2*N:=wr (by omega) (by omega);have hw2:IntKind.i64.wrap (2*N-1)=2*N-1:=wr (by omega) (by omega);rw[<- hsz]at hr;subst hr;simp only[qa e];simp[-getElem?_pos,c24];refine qd.call hfi (by simp) ?_;simp[-getElem?_pos,hw1,hw2]
 rw[if_neg c24]at hr;have hsr:=wJ (s:=0) (by omega) (by omega) hxs;obtain⟨sd,hsd⟩:∃ sd,sd=yd 0 (e.args.map (jt (qf c))):=⟨_,rfl⟩;rw[<- hsd]at hsr hr;by_cases c3:e.op=3
 . obtain⟨a,ha⟩:=YV hn c3;have hsz:=hsz (.inl c3);have hsd':sd=yd 0 (e.args.map (jt (qf c))):=hsd;have hl1:e.args.length=1:=(by rw[ha];rfl);have hg1:e.args[0]?=some a:=(by rw[ha];rfl);have hho:qc2 e.args=a.op:=(by rw[ha];rfl);rw[hho]at hr;rw[<- hsz]at hr;by_cases ca:a.op=1
   . rw[if_pos ⟨c3,ca⟩]at hr;subst hr;simp only[qa e];simp[-getElem?_pos];refine qd.call hfi (by simp) ?_;simp[-getElem?_pos,c24];refine qv.listR e.args (fun d ev O=>ev 2=.ptr 0 0/\ev 3=.ptr 1 0/\ev 5=I_ N/\ev 7=I_ (yd 0 (d.map (jt (qf c))))/\ev 8=I_ d.length/\O.H[0]?=some (.cells [I_ e.op,I_ e.n,.str e.name,sE e.args])/\O.H[1]?=some (.cells [.str c.name,.str c.parent,sF c.fields,sB c.blocks])) ?_ ?_ ?_
     . exact⟨by simp,by simp,by simp,by simp[yd],by simp,by simp,by simp⟩
     . rintro d a1 rest ev O R hR hd hx hlt ⟨h2,h3,h5,h7,h8',b0,b1⟩;have ham:a1∈e.args:=qqW hx;have hdw:=wq (n:=d.length) (by omega);have hi:=ih a1 ham (hn.arg ham) (zj hu ham);have hra:=vI (qf c) a1 (hn.arg ham) (zj hu ham);have hsub:∀ b∈d,b∈e.args:=fun b hb=>by rw[hd];simp[hb]
       have hdr:=wJ (s:=0) (xs:=d.map (jt (qf c))) (by omega) (by omega) fun x hx=>hxs x (by
        obtain⟨b,hb,rfl⟩:=qq3.1 hx;exact qq3.2 ⟨b,hsub b hb,rfl⟩)
       have hsn:yd 0 ((d++[a1]).map (jt (qf c)))=if yd 0 (d.map (jt (qf c)))<100000 then yd 0 (d.map (jt (qf c)))+jt (qf c) a1 else yd 0 (d.map (jt (qf c))):=by
        rw[qrf,Qa];split
        . rename_i h;simp[yd,h]
        . rfl
       have hall:¬ yd 0 (d.map (jt (qf c)))<100000->sd=yd 0 (d.map (jt (qf c))):=fun h=>by
        rw[hsd,hd,qrf,Qa,if_neg h]
       simp only[qa a1]at hi;generalize yd 0 (d.map (jt (qf c)))=sq at *;generalize jt (qf c) a1=ra at *;by_cases hlt2:sq<100000
       . rw[if_pos hlt2]at hsn;have hw:IntKind.i64.wrap (sq+ra)=sq+ra:=wr (by omega) (by omega);simp[-getElem?_pos,h2,h3,h7,h8',b0,b1,hlt,hx,hlt2,qa a1];refine qd.call hi (by simp) ?_;simp[-getElem?_pos,h8',hdw,hw];exact hR _ _ ⟨h2,h3,h5,by rw[hsn];simp,by simp,b0,b1⟩
       . have hq:=hall hlt2;subst hq;simp[-getElem?_pos,h2,h7,h8',b0,hlt2,c3,ca,hl1,hg1,qa a,YP,(show IntKind.i64.wrap 1=1 by decide)]
     . rintro ev O ⟨h2,h3,h5,h7,h8',b0,b1⟩;rw[<- hsd']at h7;simp[-getElem?_pos,h2,h8',b0,c3,ca,hl1,hg1,qa a,YP,(show IntKind.i64.wrap 1=1 by decide)]
   . rw[if_neg (fun h=>ca h.2),if_pos c3]at hr;have hp:0<=N*(sd+4)/\N*(sd+4)<=8*(sd+4):=⟨qtt (by omega) (by omega),qsV (by omega) (by omega)⟩;have hw1:IntKind.i64.wrap (sd+4)=sd+4:=wr (by omega) (by omega);have hw2:IntKind.i64.wrap (N*(sd+4))=N*(sd+4):=wr (by omega) (by omega);have hw3:IntKind.i64.wrap (N*(sd+4)+1)=N*(sd+4)+1:=wr (by omega) (by omega);subst hr;simp only[qa e];simp[-getElem?_pos];refine qd.call hfi (by simp) ?_;simp[-getElem?_pos,c24];refine qv.listR e.args (fun d ev O=>ev 2=.ptr 0 0/\ev 3=.ptr 1 0/\ev 5=I_ N/\ev 7=I_ (yd 0 (d.map (jt (qf c))))/\ev 8=I_ d.length/\O.H[0]?=some (.cells [I_ e.op,I_ e.n,.str e.name,sE e.args])/\O.H[1]?=some (.cells [.str c.name,.str c.parent,sF c.fields,sB c.blocks])) ?_ ?_ ?_
     . exact⟨by simp,by simp,by simp,by simp[yd],by simp,by simp,by simp⟩
     . rintro d a1 rest ev O R hR hd hx hlt ⟨h2,h3,h5,h7,h8',b0,b1⟩;have ham:a1∈e.args:=qqW hx;have hdw:=wq (n:=d.length) (by omega);have hi:=ih a1 ham (hn.arg ham) (zj hu ham);have hra:=vI (qf c) a1 (hn.arg ham) (zj hu ham);have hsub:∀ b∈d,b∈e.args:=fun b hb=>by rw[hd];simp[hb]
       have hdr:=wJ (s:=0) (xs:=d.map (jt (qf c))) (by omega) (by omega) fun x hx=>hxs x (by
        obtain⟨b,hb,rfl⟩:=qq3.1 hx;exact qq3.2 ⟨b,hsub b hb,rfl⟩)
       have hsn:yd 0 ((d++[a1]).map (jt (qf c)))=if yd 0 (d.map (jt (qf c)))<100000 then yd 0 (d.map (jt (qf c)))+jt (qf c) a1 else yd 0 (d.map (jt (qf c))):=by
        rw[qrf,Qa];split
        . rename_i h;simp[yd,h]
        . rfl
       have hall:¬ yd 0 (d.map (jt (qf c)))<100000->sd=yd 0 (d.map (jt (qf c))):=fun h=>by
        rw[hsd,hd,qrf,Qa,if_neg h]
       simp only[qa a1]at hi;generalize yd 0 (d.map (jt (qf c)))=sq at *;generalize jt (qf c) a1=ra at *;by_cases hlt2:sq<100000
       . rw[if_pos hlt2]at hsn;have hw:IntKind.i64.wrap (sq+ra)=sq+ra:=wr (by omega) (by omega);simp[-getElem?_pos,h2,h3,h7,h8',b0,b1,hlt,hx,hlt2,qa a1];refine qd.call hi (by simp) ?_;simp[-getElem?_pos,h8',hdw,hw];exact hR _ _ ⟨h2,h3,h5,by rw[hsn];simp,by simp,b0,b1⟩
       . have hq:=hall hlt2;subst hq;simp[-getElem?_pos,h2,h5,h7,h8',b0,hlt2,c3,ca,hl1,hg1,qa a,YP,hw1,hw2,hw3,qan]
     . rintro ev O ⟨h2,h3,h5,h7,h8',b0,b1⟩;rw[<- hsd']at h7;simp[-getElem?_pos,h2,h5,h7,h8',b0,c3,ca,hl1,hg1,qa a,YP,hw1,hw2,hw3,qan]
 . rw[if_neg (fun h=>c3 h.1),if_neg c3]at hr;have hsd':sd=yd 0 (e.args.map (jt (qf c))):=hsd;have hw3:IntKind.i64.wrap (sd+1)=sd+1:=wr (by omega) (by omega);subst hr;simp only[qa e];simp[-getElem?_pos];refine qd.call hfi (by simp) ?_;simp[-getElem?_pos,c24];refine qv.listR e.args (fun d ev O=>ev 2=.ptr 0 0/\ev 3=.ptr 1 0/\ev 5=I_ N/\ev 7=I_ (yd 0 (d.map (jt (qf c))))/\ev 8=I_ d.length/\O.H[0]?=some (.cells [I_ e.op,I_ e.n,.str e.name,sE e.args])/\O.H[1]?=some (.cells [.str c.name,.str c.parent,sF c.fields,sB c.blocks])) ?_ ?_ ?_
   . exact⟨by simp,by simp,by simp,by simp[yd],by simp,by simp,by simp⟩
   . rintro d a1 rest ev O R hR hd hx hlt ⟨h2,h3,h5,h7,h8',b0,b1⟩;have ham:a1∈e.args:=qqW hx;have hdw:=wq (n:=d.length) (by omega);have hi:=ih a1 ham (hn.arg ham) (zj hu ham);have hra:=vI (qf c) a1 (hn.arg ham) (zj hu ham);have hsub:∀ b∈d,b∈e.args:=fun b hb=>by rw[hd];simp[hb]
     have hdr:=wJ (s:=0) (xs:=d.map (jt (qf c))) (by omega) (by omega) fun x hx=>hxs x (by
      obtain⟨b,hb,rfl⟩:=qq3.1 hx;exact qq3.2 ⟨b,hsub b hb,rfl⟩)
     have hsn:yd 0 ((d++[a1]).map (jt (qf c)))=if yd 0 (d.map (jt (qf c)))<100000 then yd 0 (d.map (jt (qf c)))+jt (qf c) a1 else yd 0 (d.map (jt (qf c))):=by
      rw[qrf,Qa];split
      . rename_i h;simp[yd,h]
      . rfl
     have hall:¬ yd 0 (d.map (jt (qf c)))<100000->sd=yd 0 (d.map (jt (qf c))):=fun h=>by
      rw[hsd,hd,qrf,Qa,if_neg h]
     simp only[qa a1]at hi;generalize yd 0 (d.map (jt (qf c)))=sq at *;generalize jt (qf c) a1=ra at *;by_cases hlt2:sq<100000
     . rw[if_pos hlt2]at hsn;have hw:IntKind.i64.wrap (sq+ra)=sq+ra:=wr (by omega) (by omega);simp[-getElem?_pos,h2,h3,h7,h8',b0,b1,hlt,hx,hlt2,qa a1];refine qd.call hi (by simp) ?_;simp[-getElem?_pos,h8',hdw,hw];exact hR _ _ ⟨h2,h3,h5,by rw[hsn];simp,by simp,b0,b1⟩
     . have hq:=hall hlt2;subst hq;simp[-getElem?_pos,h2,h5,h7,h8',b0,hlt,hlt2,c3,YP,hw3,qan]
   . rintro ev O ⟨h2,h3,h5,h7,h8',b0,b1⟩;rw[<- hsd']at h7;simp[-getElem?_pos,h2,h5,h7,h8',b0,c3,YP,hw3,qan]
theorem qhD (e:Ex)(c:Cls)(hc:ClsOk c)(hwe:Wen e)(hsz:(pre e).length<=100000)(hh:hgt e<=1000):PZ 219 [.agg (qz e),.agg (qn c)] (.tup [.agg (qz (wP (qc c) (qf c) e)),I_ (qE (qc c) (qf c) e)]):=by
 refine Pure.k qg Tryz.func219 rfl (by kernel_rfl) ?_;have hcf:Fits c.fields:=by have:=hc.nf;unfold Fits;omega
 have hp:∀ a n,qc c a=some n->0<=n:=fun a n h=>by
  obtain⟨f,hf,_,rfl⟩:=kF h;exact (zk (hc.fields f hf)).s0
 have hva:=JS e hwe hh hsz;have has:=qgV e c [] hwe (by omega) hcf hp (by simp);have hr:qE (qc c) (qf c) e=if qM e≠0 then qM e else if Ql (qc c) [] e≠0 then Ql (qc c) [] e else if 400<(zx (qf c) e).1 then 2 else if qM (scE (qf c) e)≠0 then 2 else 0:=rfl
 have hX:wP (qc c) (qf c) e=if qE (qc c) (qf c) e=0 then scE (qf c) e else zEx:=rfl
 generalize wP (qc c) (qf c) e=X at hX;generalize qE (qc c) (qf c) e=r at hr hX;have hzz:r≠0->X=zEx:=fun h=>by rw[hX,if_neg h]
 have hz4:qz zEx=[I_ 0,I_ 0,.str [],.sl 4 [] .none]:=by simp[zEx,qa]
 by_cases h1:qM e=0
 . rw[if_neg (by simp[h1])]at hr;have hn:=jK h1;by_cases h2:Ql (qc c) [] e=0
   . rw[if_neg (by simp[h2])]at hr;have hu:=WF hc hn h2;have hwt:=qiO c hc e hn hu;have hsc:=qhC c hc e hn hu;have hrx:=qpv (qf c) e hn hu;have hok:=WE (qf c) e hn hu;rw[h1]at hva;rw[h2]at has;simp only[qn,qa e,qq9]at hva has hwt hsc;by_cases h5:jt (qf c) e≥50000
     . have h4:400<(zx (qf c) e).1:=by
        apply Classical.byContradiction;intro h;have:=hrx (by omega);omega
       rw[if_pos h4]at hr;subst hr;rw[hzz (by decide),hz4];simp only[qa e];simp[-getElem?_pos];refine qd.call hva (by simp) ?_;simp[-getElem?_pos];refine qd.less has (by simp) (by simp[zt,Leq]) ?_;simp[-getElem?_pos];refine qd.call hwt (by simp) ?_;simp[-getElem?_pos,h5]
       try simp[Leq,zt]
     . by_cases h4:400<(zx (qf c) e).1
       . rw[if_pos h4]at hr;have w1:=qpn (l:=qf c) hn;have hle:=ext_le (qf c) e hn hu;have hws:((pre (scE (qf c) e)).length:Int)<=jt (qf c) e:=qpo (qf c) e hn hu (by omega);have hgs:=hgt_sc (qf c) e hn;have h24:=Vw h1;have h6:qM (scE (qf c) e)≠0:=qhm (by omega) (by omega);have hvs:=JS (scE (qf c) e) w1 (by omega) (by omega);generalize scE (qf c) e=S at *;simp only[qa S]at hsc hvs;subst hr;rw[hzz (by decide),hz4];simp only[qa e];simp[-getElem?_pos];refine qd.call hva (by simp) ?_;simp[-getElem?_pos];refine qd.less has (by simp) (by simp[zt,Leq]) ?_;simp[-getElem?_pos];refine qd.call hwt (by simp) ?_;simp[-getElem?_pos,h5];refine qd.call hsc (by simp) ?_;simp[-getElem?_pos];refine qd.call hvs (by simp) ?_;simp[-getElem?_pos,h6]
         try simp[Leq,zt]
       . rw[if_neg h4]at hr;obtain⟨w1,w2,w3⟩:=qjo hn hu h4;have hvs:=JS (scE (qf c) e) w1 (by omega) (by omega);generalize scE (qf c) e=S at *;simp only[qa S]at hsc hvs;by_cases h6:qM S=0
         . rw[if_neg (by simp[h6])]at hr;subst hr;rw[if_pos rfl]at hX;subst hX;rw[h6]at hvs;simp only[qa e,qa X];simp[-getElem?_pos];refine qd.call hva (by simp) ?_;simp[-getElem?_pos];refine qd.less has (by simp) (by simp[zt,Leq]) ?_;simp[-getElem?_pos];refine qd.call hwt (by simp) ?_;simp[-getElem?_pos,h5];refine qd.call hsc (by simp) ?_;simp[-getElem?_pos];refine qd.call hvs (by simp) ?_;simp[-getElem?_pos]
         . rw[if_pos h6]at hr;subst hr;rw[hzz (by decide),hz4];simp only[qa e];simp[-getElem?_pos];refine qd.call hva (by simp) ?_;simp[-getElem?_pos];refine qd.less has (by simp) (by simp[zt,Leq]) ?_;simp[-getElem?_pos];refine qd.call hwt (by simp) ?_;simp[-getElem?_pos,h5];refine qd.call hsc (by simp) ?_;simp[-getElem?_pos];refine qd.call hvs (by simp) ?_;simp[-getElem?_pos,h6]
           try simp[Leq,zt]
   . rw[if_pos h2]at hr;rw[h1]at hva;simp only[qn,qa e,qq9]at hva has;generalize Ql (qc c) [] e=q at *;subst hr;rw[hzz h2,hz4];simp only[qa e];simp[-getElem?_pos];refine qd.call hva (by simp) ?_;simp[-getElem?_pos];refine qd.less has (by simp) (by simp[zt,Leq]) ?_;simp[-getElem?_pos,h2]
     try simp[Leq,zt]
 . rw[if_pos h1]at hr;simp only[qa e]at hva;generalize qM e=q at *;subst hr;rw[hzz h1,hz4];simp only[qa e];simp[-getElem?_pos];refine qd.call hva (by simp) ?_;simp[-getElem?_pos,h1]
   try simp[Leq,zt]
def yJ (p:Int×Int):List AV:=[I_ p.1,I_ p.2]
abbrev sP (l:List (Int×Int)):AV:=.sl 2 (l.map yJ) .none
theorem qj2 (E:List (Int×Int))(hE:Fits E)(i:Int):PZ 218 [.sl 2 (E.map yJ) .none,I_ i] (.bool (yP E i)):=by
 refine Pure.k qg Tryz.func218 rfl (by kernel_rfl) ?_;have hr:yP E i=E.any fun e=>e.1==i||e.2==i:=rfl
 generalize yP E i=r at hr;simp[-getElem?_pos];refine qv.listR E (fun d ev O=>ev 0=.sl 2 (E.map yJ) .none/\ev 1=I_ i/\ev 5=I_ d.length/\(∃ H,O=⟨H,[]⟩)/\∀ e∈d,(e.1==i||e.2==i)=false) ?_ ?_ ?_
 . exact⟨by simp,by simp,by simp,⟨_,rfl⟩,by simp⟩
 . rintro d x rest ev O R hR hd hx hlt ⟨h0,h1,h5,⟨H,rfl⟩,hz⟩;have hdw:IntKind.i64.wrap ((d.length:Int)+1)=(d.length+1:Nat):=(by rw[wr (by omega) (by omega)];omega);by_cases c1:x.1=i
   . have:r=true:=by rw[hr];exact qq2.2 ⟨x,qqW hx,by simp[c1]⟩
     subst this;simp[-getElem?_pos,h0,h1,h5,hlt,hx,c1,yJ]
   . by_cases c2:x.2=i
     . have:r=true:=by rw[hr];exact qq2.2 ⟨x,qqW hx,by simp[c2]⟩
       subst this;simp[-getElem?_pos,h0,h1,h5,hlt,hx,c1,c2,yJ]
     . simp[-getElem?_pos,h0,h1,h5,hlt,hx,c1,c2,yJ,hdw];exact hR _ _ ⟨h0,h1,by simp,⟨_,rfl⟩,zu hz (by simp[c1,c2])⟩
 . rintro ev O ⟨h0,h1,h5,⟨H,rfl⟩,hz⟩;have:r=false:=by rw[hr,qrx];exact fun x hx=>by simp[hz x hx]
   subst this;simp[-getElem?_pos,h0,h5]
noncomputable def Qs (c:Cls)(k:Int)(x:List It):Int:=qh (fun y:It=>qE (qc c) (qf c) y.expr) (qx k x)
def kW (c:Cls)(k:Int)(x:List It):List Ex:=(qx k x).map fun y=>scE (qf c) y.expr
theorem qeq (c:Cls)(k:Int)(d:List It)(y:It):kW c k (d++[y])=kW c k d++(if y.kind=k then [scE (qf c) y.expr] else []):=by
 unfold kW qx;rw[qrI,qrf];congr 1;by_cases h:y.kind=k<;>simp[h]
theorem qhx (c:Cls)(k:Int)(d:List It):(kW c k d).length<=d.length:=by
 unfold kW qx;rw[qrv];exact qrr _ _
theorem VC (l:List It)(k:Int)(c:Cls)(hc:ClsOk c)(hl:l.length<=1000000)(hi:∀ y∈l,y.kind=k->Wen y.expr/\(pre y.expr).length<=100000/\hgt y.expr<=1000) :
 PZ 144 [.sl 12 (l.map qK) .none,I_ k,.agg (qn c)] (.tup [.sl 4 ((if Qs c k l≠0 then [] else kW c k l).map qz) .none,I_ (Qs c k l)]):=by
 refine Pure.k qg Tryz.func144 rfl (by kernel_rfl) ?_;have hr:Qs c k l=qh (fun y:It=>qE (qc c) (qf c) y.expr) (qx k l):=rfl;generalize Qs c k l=r at hr;simp[-getElem?_pos];refine qv.listR l (fun d ev O=>ev 0=.sl 12 (l.map qK) .none/\ev 1=I_ k/\ev 5=.ptr 0 0/\ev 8=ye 4 qz 0 (kW c k d)/\ev 9=I_ d.length/\(∃ H,O=⟨H,zG [] (kW c k d)⟩/\H[0]?=some (.cells (qn c)))/\∀ y∈d,y.kind=k->qE (qc c) (qf c) y.expr=0) ?_ ?_ ?_
 . exact⟨by simp,by simp,by simp,by simp[kW,qx],by simp,⟨_,by simp[kW,qx];rfl,by simp⟩,by simp⟩
 . rintro d y rest ev O R hR hd hx hlt ⟨h0,h1,h5,h8,h9,⟨H,rfl,b0⟩,hz⟩;have hdw:IntKind.i64.wrap ((d.length:Int)+1)=(d.length+1:Nat):=(by rw[wr (by omega) (by omega)];omega);have hym:=qqW hx;have hv:=fun hk=>qhD y.expr c hc (hi y hym hk).1 (hi y hym hk).2.1 (hi y hym hk).2.2
   have hX0:wP (qc c) (qf c) y.expr=if qE (qc c) (qf c) y.expr=0 then scE (qf c) y.expr else zEx:=rfl
   have hsn:=qeq c k d y;have hln:=qhx c k d;generalize kW c k d=D at *;simp only[qn]at b0 hv;by_cases hk:y.kind=k
   . rw[if_pos hk]at hsn;have hv:=hv hk;by_cases f0:qE (qc c) (qf c) y.expr=0
     . rw[if_pos f0]at hX0;rw[hX0,f0]at hv;simp[-getElem?_pos,h0,h1,h5,h9,b0,hlt,hx,ql y,hk];have hX:=zq (D:=Dof Zp) (H:=H++[.cells (qz (scE (qf c) y.expr))]) (sz:=4) (en:=qz) (T:=[]) (s:=D) (m:=[scE (qf c) y.expr]) (tok:=.tight) D32 rfl D55 rfl (by omega) rfl (by decide) (by simp only[qq8];omega) 4 (.inl rfl);simp only[qqZ,qq9,qrt]at hX;generalize scE (qf c) y.expr=S at *;simp only[qa S]at hX hv;refine qd.call hv (by simp) ?_;simp[-getElem?_pos,h8,h9,hX,hdw];exact hR _ _ ⟨h0,h1,h5,by rw[hsn];simp,by simp,⟨_,by rw[hsn],qb b0 _⟩,zu hz fun _=>f0⟩
     . rw[if_neg f0]at hX0;have hz4:qz zEx=[I_ 0,I_ 0,.str [],.sl 4 [] .none]:=(by simp[zEx,qa]);rw[hX0,hz4]at hv;have:r=qE (qc c) (qf c) y.expr:=by
        have hkl:qx k l=qx k d++y::qx k rest:=by
         rw[hd];unfold qx;rw[qrI,qsg];simp[hk]
        rw[hr,hkl];exact ja (fun z hz'=>hz z (qrz.1 hz').1 (of_decide_eq_true (qrz.1 hz').2)) f0
       subst this;generalize qE (qc c) (qf c) y.expr=r at *;simp[-getElem?_pos,h0,h1,h5,h9,b0,hlt,hx,ql y,hk];refine qd.call hv (by simp) ?_;simp[-getElem?_pos,h8,f0]
   . rw[if_neg hk,qrl]at hsn;simp[-getElem?_pos,h0,h1,h5,h9,b0,hlt,hx,ql y,hk,hdw];exact hR _ _ ⟨h0,h1,h5,by rw[hsn];simp[h8],by simp,⟨H,by rw[hsn],b0⟩,zu hz fun h=>absurd h hk⟩
 . rintro ev O ⟨h0,h1,h5,h8,h9,⟨H,rfl,b0⟩,hz⟩;have:r=0:=by
    rw[hr];refine qr.2 fun y hy=>?_
    obtain⟨h1,h2⟩:=qrz.1 hy;exact hz y h1 (of_decide_eq_true h2)
   subst this;simp[-getElem?_pos,h0,h8,h9]
@[simp]theorem nrPr1 (p:Int×Int):qu (yJ p)=true:=by simp[yJ]
@[simp]theorem nrPr (l:List (Int×Int)):zp (l.map yJ)=true:=qS (fun x=>by simp[yJ]) l
def Qt (B A:List Int):List (Int×Int):=B.flatMap fun i=>A.map fun k=>(i,k)
def qjE (l:List Var)(x:It):List (Int×Int):=if x.kind=6 then Qt (Y2 l x.before) (Y2 l x.after) else []
def YM (l:List Var)(x:List It):List (Int×Int):=x.flatMap (qjE l)
theorem KS (A:List Int):∀ B:List Int,(Qt B A).length=B.length*A.length
 | []=>by simp[Qt]
 | b::r=>by
  have ih:=KS A r;unfold Qt at *;rw[qrm,qqY,ih,qrv,qq5,qse];omega
theorem qmr {l:List Var}{x:It}(h:x.kind=6->x.before.length<=8/\x.after.length<=8):(qjE l x).length<=4096:=by
 unfold qjE;split
 . rename_i hk;obtain⟨h1,h2⟩:=h hk;have a:=Jq l x.before;have b:=Jq l x.after;rw[KS];exact qrN (qsw (show _<=64 by omega) (show _<=64 by omega)) (by omega)
 . simp
theorem qaP {l:List Var}:∀ {x:List It},(∀ y∈x,y.kind=6->y.before.length<=8/\y.after.length<=8)->(YM l x).length<=x.length*4096
 | [],_=>by simp[YM]
 | y::r,h=>by
  have ih:=qaP (l:=l) (x:=r) fun z hz=>h z (by simp[hz])
  have hy:=qmr (l:=l) (h y (by simp));unfold YM at *;rw[qrm,qqY,qq5];omega
theorem qez (l:List Var)(x:List It)(hl:l.length<=100000)(hx:x.length<=100000)(h8:∀ y∈x,y.kind=6->y.before.length<=8/\y.after.length<=8/\∀ s∈y.before++y.after,s.length<=1000) :
 PZ 216 [sV l,sI x] (.sl 2 ((YM l x).map yJ) .none):=by
 refine Pure.k qg Tryz.func216 rfl (by kernel_rfl) ?_;simp[-getElem?_pos];refine qv.listR x (fun d ev O=>ev 0=sV l/\ev 1=sI x/\ev 5=ye 2 yJ 0 (YM l d)/\ev 6=I_ d.length/\∃ H,O=⟨H,zG [] (YM l d)⟩) ?_ ?_ ?_
 . exact⟨by simp,by simp,by simp[YM],by simp,_,by simp[YM];rfl⟩
 . rintro d y rest ev O R hR hd hyx hlt ⟨h0,h1,h5,h6,H,rfl⟩;have hdw:=wq (n:=d.length) (by omega);have hln:=qaP (l:=l) (x:=d) fun z hz hk=>⟨(h8 z (by rw[hd];simp[hz]) hk).1,(h8 z (by rw[hd];simp[hz]) hk).2.1⟩
   have hsn:YM l (d++[y])=YM l d++qjE l y:=(by simp[YM]);by_cases hk:y.kind=6
   . obtain⟨q1,q2,q3⟩:=h8 y (qqW hyx) hk;have hv1:=VG l y.before hl (by omega) fun s hs=>q3 s (by simp[hs])
     have hv2:=VG l y.after hl (by omega) fun s hs=>q3 s (by simp[hs])
     have hb1:=Jq l y.before;have hb2:=Jq l y.after;have hX:qjE l y=Qt (Y2 l y.before) (Y2 l y.after):=(by unfold qjE;rw[if_pos hk]);rw[hX]at hsn;generalize Y2 l y.before=B at *;generalize Y2 l y.after=A at *;generalize YM l d=D at *;simp[-getElem?_pos,h0,h1,h6,hlt,hyx,ql y,qa y.expr,hk];refine qd.call hv1 (by simp) ?_;simp[-getElem?_pos,h0,h1,h6,hyx,ql y,qa y.expr,hk];refine qd.call hv2 (by simp) ?_;simp[-getElem?_pos];refine qv.listR B (fun e ev O=>ev 0=sV l/\ev 1=sI x/\ev 5=ye 2 yJ 0 (D++Qt e A)/\ev 6=I_ d.length/\ev 7=sN B/\ev 8=sN A/\ev 9=I_ e.length/\∃ H,O=⟨H,zG [] (D++Qt e A)⟩) ?_ ?_ ?_
     . exact⟨by simp[h0],by simp[h1],by simp[h5,Qt],by simp[h6],by simp,by simp,by simp,_,by simp[Qt];rfl⟩
     . clear h0 h1 h5 h6;rintro e b rest2 ev O R2 hR2 he hxb hltb ⟨h0,h1,h5,h6,h7,h8',h9,H2,rfl⟩;have hew:=wq (n:=e.length) (by omega);have hps:Qt (e++[b]) A=Qt e A++A.map fun k=>(b,k):=by simp[Qt]
       have hpl:(Qt e A).length<=4096:=(by rw[KS];exact qrN (qsw (show _<=64 by omega) (show _<=64 by omega)) (by omega));have hQl:(D++Qt e A).length<=100000*4096+4096:=(by rw[qqY];omega);have hRR:∀ ev O,(ev 0=sV l/\ev 1=sI x/\ev 5=ye 2 yJ 0 (D++Qt (e++[b]) A)/\ev 6=I_ d.length/\ev 7=sN B/\ev 8=sN A/\ev 9=I_ (e++[b]).length/\∃ H,O=⟨H,zG [] (D++Qt (e++[b]) A)⟩)->R2 ev O:=hR2;rw[hps,<- qri]at hRR;generalize D++Qt e A=Q at *;simp[-getElem?_pos,h7,h9,hltb];refine qv.listR A (fun g ev O=>ev 0=sV l/\ev 1=sI x/\ev 5=ye 2 yJ 0 (Q++g.map fun k=>(b,k))/\ev 6=I_ d.length/\ev 7=sN B/\ev 8=sN A/\ev 9=I_ e.length/\ev 10=I_ g.length/\∃ H,O=⟨H,zG [] (Q++g.map fun k=>(b,k))⟩) ?_ ?_ ?_
       . exact⟨by simp[h0],by simp[h1],by simp[h5],by simp[h6],by simp[h7],by simp[h8'],by simp[h9],by simp,H2,by simp⟩
       . clear h0 h1 h5 h6 h7 h8' h9;rintro g a rest3 ev O R3 hR3 hg hxa hlta ⟨h0,h1,h5,h6,h7,h8',h9,h10,H3,rfl⟩;have hgw:=wq (n:=g.length) (by omega);have hgl:(Q++g.map fun k=>(b,k)).length+1<=1073741824:=(by rw[qqY,qrv];omega);have hgs:(g++[a]).map (fun k=>(b,k))=g.map (fun k=>(b,k))++[(b,a)]:=(by simp);have hRR:∀ ev O,(ev 0=sV l/\ev 1=sI x/\ev 5=ye 2 yJ 0 (Q++(g++[a]).map fun k=>(b,k))/\ev 6=I_ d.length/\ev 7=sN B/\ev 8=sN A/\ev 9=I_ e.length/\ev 10=I_ (g++[a]).length/\∃ H,O=⟨H,zG [] (Q++(g++[a]).map fun k=>(b,k))⟩)->R3 ev O:=hR3;rw[hgs,<- qri]at hRR;generalize (Q++g.map fun k=>(b,k))=P at *;have hX:=zq (D:=Dof Zp) (H:=H3) (sz:=2) (en:=yJ) (T:=[]) (s:=P) (m:=[(b,a)]) (tok:=.tight) D251 rfl D285 rfl (by omega) rfl (by decide) (by simp only[qq8];omega) 2 (.inl rfl);simp only[qqZ,qq9,yJ,qrt]at hX;simp[-getElem?_pos,h5,h7,h8',h9,h10,hxb,hlta,hxa,hX,hgw];exact hRR _ _ ⟨by simp[h0],by simp[h1],by simp,by simp[h6],by simp[h7],by simp[h8'],by simp[h9],by simp,H3,by simp⟩
       . clear h0 h1 h5 h6 h7 h8' h9;rintro ev O ⟨h0,h1,h5,h6,h7,h8',h9,h10,H3,rfl⟩;simp[-getElem?_pos,h8',h9,h10,hew];exact hRR _ _ ⟨by simp[h0],by simp[h1],by simp[h5],by simp[h6],by simp[h7],by simp[h8'],by simp,H3,rfl⟩
     . clear h0 h1 h5 h6;rintro ev O ⟨h0,h1,h5,h6,h7,h8',h9,H2,rfl⟩;simp[-getElem?_pos,h6,h7,h9,hdw];exact hR _ _ ⟨by simp[h0],by simp[h1],by rw[hsn];simp[h5],by simp,H2,by rw[hsn]⟩
   . have hX:qjE l y=[]:=(by unfold qjE;rw[if_neg hk]);rw[hX,qrl]at hsn;simp[-getElem?_pos,h0,h1,h6,hlt,hyx,ql y,hk,hdw];exact hR _ _ ⟨by simp[h0],by simp[h1],by rw[hsn];simp[h5],by simp,H,by rw[hsn]⟩
 . rintro ev O ⟨h0,h1,h5,h6,H,rfl⟩;simp[-getElem?_pos,h1,h5,h6]
def qlP (acc:List (Int×Int))(e:Int×Int):List (Int×Int):=if acc.any (fun p=>p==e)=true then acc else acc++[e]
def QZ (E:List (Int×Int)):List (Int×Int):=E.foldl qlP []
theorem qim (d:List (Int×Int))(e:Int×Int):QZ (d++[e])=qlP (QZ d) e:=by simp[QZ]
theorem qdE (d:List (Int×Int)):(QZ d).length<=d.length:=by
 unfold QZ;have:∀ (E acc:List (Int×Int)),(E.foldl qlP acc).length<=acc.length+E.length:=by
  intro E
  induction E with
  | nil=>intro acc;simp
  | cons a r ih=>
   intro acc;have h:=ih (qlP acc a);have:(qlP acc a).length<=acc.length+1:=by unfold qlP;split<;>simp
   simp only[qrP,qq5];omega
 simpa using this d []
theorem qk8 {E:List (Int×Int)}{p:Int×Int}:p∈QZ E↔p∈E:=by
 unfold QZ;have:∀ (E acc:List (Int×Int)),p∈E.foldl qlP acc↔p∈acc\/p∈E:=by
  intro E
  induction E with
  | nil=>intro acc;simp
  | cons a r ih=>
   intro acc;rw[qrP,ih];have:p∈qlP acc a↔p∈acc\/p=a:=by
    unfold qlP;split
    . rename_i h;obtain⟨x,hx,he⟩:=qq2.1 h;have:x=a:=by simpa using he
      subst this;constructor
      . exact fun h=>.inl h
      . rintro (h|rfl)
        . exact h
        . exact hx
    . simp
   rw[this];simp only[qra];constructor
   . rintro ((h|h)|h)
     . exact .inl h
     . exact .inr (.inl h)
     . exact .inr (.inr h)
   . rintro (h|h|h)
     . exact .inl (.inl h)
     . exact .inl (.inr h)
     . exact .inr h
 simpa using this E []
theorem eqPr (a b:Int×Int):Vn (Dof Zp) 285 (yJ a) (yJ b)=some (a==b):=by
 obtain⟨a1,a2⟩:=a;obtain⟨b1,b2⟩:=b;have hr:List.replicate 2 (TD.int .i64)=[.int .i64,.int .i64]:=rfl;simp[Vn,qif,arrT,vL,km,yt,vB,yJ,hr];rfl
theorem len251 (D:List (Int×Int))(O:St):kw (Dof Zp) O 251 (ye 2 yJ 0 D)=some (I_ D.length):=by
 cases D<;>simp[kw,ye]
theorem qfp (E:List (Int×Int))(hE:E.length<=1000000000):PZ 215 [sP E] (.sl 2 ((QZ E).map yJ) .none):=by
 refine Pure.k qg Tryz.func215 rfl (by kernel_rfl) ?_;simp[-getElem?_pos];refine qv.listR E (fun d ev O=>ev 0=sP E/\ev 3=ye 2 yJ 0 (QZ d)/\ev 4=I_ d.length/\∃ H,O=⟨H,zG [] (QZ d)⟩) ?_ ?_ ?_
 . exact⟨by simp,by simp[QZ],by simp,_,by simp[QZ];rfl⟩
 . rintro d e rest ev O R hR hd hx hlt ⟨h0,h3,h4,H,rfl⟩;have hdl:d.length<=1000000000:=(by omega);have hdw:=wq (n:=d.length) (by omega);have hsn:=qim d e;have hln:=qdE d;generalize QZ d=D at *;simp[-getElem?_pos,h0,h4,hlt];refine qv.listR D (fun g ev O=>ev 0=sP E/\ev 3=ye 2 yJ 0 D/\ev 4=I_ d.length/\ev 5=.bool (g.any fun p=>p==e)/\ev 6=I_ g.length/\∃ H,O=⟨H,zG [] D⟩) ?_ ?_ ?_
   . exact⟨h0,h3,h4,by simp,by simp,H,rfl⟩
   . clear h0 h3 h4;rintro g p rest2 ev O R2 hR2 hg hxp hltp ⟨h0,h3,h4,h5,h6,H2,rfl⟩;have hgw:=wq (n:=g.length) (by omega);have hne:D≠[]:=(by rintro rfl;simp at hltp);have hq:=eqPr p e;simp only[yJ]at hq;have h3':=h3;rw[qaV hne]at h3';cases ha:g.any fun p=>p==e
     . rw[ha]at h5;simp[-getElem?_pos,h0,h3',h4,h5,h6,hltp,hxp,hx,hq,hgw,yJ];exact hR2 _ _ ⟨h0,h3,h4,by simp[ha],by simp,H2,rfl⟩
     . rw[ha]at h5;simp[-getElem?_pos,h3',h5,h6,hltp,hgw];exact hR2 _ _ ⟨h0,h3,h4,by simp[ha],by simp,H2,rfl⟩
   . clear h0 h3 h4;rintro ev O ⟨h0,h3,h4,h5,h6,H2,rfl⟩;have hlen:=len251 D;unfold qlP at hsn;cases ha:D.any fun p=>p==e
     . rw[ha,if_neg (by simp)]at hsn;rw[ha]at h5;have hX:=zq (D:=Dof Zp) (H:=H2) (sz:=2) (en:=yJ) (T:=[]) (s:=D) (m:=[e]) (tok:=.tight) D251 rfl D285 rfl (by omega) rfl (by decide) (by simp only[qq8];omega) 2 (.inl rfl);simp only[qqZ,qq9,yJ,qrt]at hX;simp[-getElem?_pos,-kw,h0,h3,h4,h5,h6,hlen,hx,yJ,hX,hdw];exact hR _ _ ⟨h0,by rw[hsn];simp,by simp,H2,by rw[hsn]⟩
     . rw[ha,if_pos rfl]at hsn;rw[ha]at h5;simp[-getElem?_pos,-kw,h3,h4,h5,h6,hlen,hdw];exact hR _ _ ⟨h0,by rw[hsn];simp[h3],by simp,H2,by rw[hsn]⟩
 . rintro ev O ⟨h0,h3,h4,H,rfl⟩;simp[-getElem?_pos,h0,h3,h4]
theorem make28 (H:List Blk)(T:List (Option Nat))(n:Nat)(h1:1<=n)(hn:n<=1000):je (Dof Zp) ⟨H,T⟩ 28 (I_ (n:Int)) (I_ (n:Int))=some (.ms H.length 0 n 1,⟨H++[.cells (tab n fun _=>0)],T⟩):=by
 have h2:(n:Int)<=1073741824:=by omega
 have h3:¬ n=0:=by omega
 have h4:(List.replicate n [AV.int .i64 0]).flatten=tab n fun _=>0:=by
  rw[<- ql9];clear h1 hn h2 h3
  induction n with
  | zero=>rfl
  | succ n ih=>rw[qss,qrA,ih,qss];rfl
 simp[je,wx,h2,h3,St.push,h4]
theorem qh4 (E:List (Int×Int))(n:Nat)(h1:1<=n)(hn:n<=1000)(hE:E.length<=1000000000)(hb:Below (wX E) n)(H:List Blk)(T:List (Option Nat)) :
 qq Zp GG 217 [sP E,I_ n] ⟨H,T⟩ (fun r O'=>
  (acyc (wX E) n=true/\r=.tup [.ms H.length 0 n 1,.bool true]/\O'=⟨H++[.cells (tab n fun j=>(qJ (wX E) n j:Int))],T⟩) \/
  (acyc (wX E) n=false/\r=.tup [.sl 0 [] .nil,.bool false]/\∃ c,O'=⟨H++[c],T⟩)):=by
 refine qq.k qg Tryz.func217 rfl (by kernel_rfl) ?_;have hms:=make28 H T n h1 hn;simp[-getElem?_pos,hms];refine qv.count (n+1) (fun r ev O=>ev 0=sP E/\ev 1=I_ n/\ev 6=.ms H.length 0 n 1/\ev 7=I_ r/\∃ lv,O=⟨H++[.cells (tab n lv)],T⟩/\Rnd (wX E) n r lv/\∀ i,lv i<=(r*E.length:Nat)) ?_ ?_ ?_
 . exact⟨by simp,by simp,by simp,by simp,fun _=>0,by simp,Rnd.init n,by simp⟩
 . rintro r ev O hr ⟨h0,h1',h6,h7,lv0,rfl,hR0,hB0⟩;have hrn:(r:Int)<=n:=(by omega);have hrw:=wq (n:=r) (by omega);have hrE:r*E.length<=1001*1000000000:=qsw (by omega) hE;have hrs:(r+1)*E.length=r*E.length+E.length:=qse _ _;simp[-getElem?_pos,-Int.natCast_add,h1',h7,hrn];refine qv.listR E (fun d ev O=>ev 0=sP E/\ev 1=I_ n/\ev 6=.ms H.length 0 n 1/\ev 7=I_ r/\ev 8=I_ d.length/\∃ lv ch,O=⟨H++[.cells (tab n lv)],T⟩/\Mid (wX E) n r lv0 (fun x=>(x.2,x.1)∈d) lv ch/\∀ i,lv i<=(r*E.length+d.length:Nat)) ?_ ?_ ?_
   . refine⟨h0,h1',h6,h7,by simp,lv0,false,rfl,?_,by simpa using hB0⟩;exact⟨hR0,fun x _ h=>by simp at h,fun _ x _ h=>by simp at h,fun _ _=>rfl⟩
   . clear h0 h1' h6 h7;rintro d ⟨e1,e2⟩ rest ev O R hR hd hx hlt ⟨h0,h1',h6,h7,h8,lv,ch,rfl,hM,hB⟩;have hdw:=wq (n:=d.length) (by omega);have hmem:(e2,e1)∈wX E:=wL.2 (qqW hx);obtain⟨⟨b1,b2⟩,b3,b4⟩:=hb _ hmem;simp only at b1 b2 b3 b4;obtain⟨a,rfl⟩:=qrj b1;obtain⟨c,rfl⟩:=qrj b3;have ha:a<n:=(by omega);have hc:c<n:=(by omega);have hBa:=hB a;have hBc:=hB c;have nna:=hM.rnd.nn a;have nnc:=hM.rnd.nn c;have hcw:IntKind.i64.wrap (lv c+1)=lv c+1:=wr (by omega) (by omega);obtain⟨t1,_⟩:=jf (Yt lv ha);obtain⟨t2,_⟩:=jf (Yt lv hc);have l1:a+1<=n:=ha;have l2:c+1<=n:=hc;have hdm:∀ x:Int×Int,(x.2,x.1)∈d++[((c:Int),(a:Int))]->(x.2,x.1)∈d\/x=((a:Int),(c:Int)):=fun x h=>by
      rcases qre.1 h with h|h
      . exact .inl h
      . right;simp only[qrM,Prod.mk.injEq]at h;exact Prod.ext h.2 h.1
     have hBs:∀ i,lv i<=(r*E.length+(d.length+1):Nat):=fun i=>by have:=hB i;omega
     by_cases hle:lv a<=lv c
     . have hle':lv a<lv c+1:=(by omega);have hts:=qem lv ha (lv c+1);simp[-getElem?_pos,-Int.natCast_add,h0,h6,h8,hlt,hx,yJ,b2,b4,yD,t1,t2,l1,l2,qa6,hcw,hle',hts,hdw];refine hR _ _ ⟨h0,h1',h6,h7,by simp[-Int.natCast_add],_,true,rfl,hM.raise hmem hle hdm,fun i=>?_⟩;rw[qqY,qq8];split
       . omega
       . exact hBs i
     . have hle':¬ lv a<lv c+1:=(by omega);have hts:(tab n lv).set a (I_ (lv a))=tab n lv:=by
        rw[qem lv ha (lv a)];refine Jc fun i _=>?_
        split
        . rename_i h;rw[h]
        . rfl
       simp[-getElem?_pos,-Int.natCast_add,h0,h6,h8,hlt,hx,yJ,b2,b4,yD,t1,t2,l1,l2,qa6,hcw,hle',hts,hdw];exact hR _ _ ⟨h0,h1',h6,h7,by simp[-Int.natCast_add],lv,ch,rfl,hM.keep (e:=((a:Int),(c:Int))) (by simp only;omega) hdm,fun i=>by rw[qqY,qq8];exact hBs i⟩
   . rintro ev O ⟨h0,h1',h6,h7,h8,lv,ch,rfl,hM,hB⟩;simp[-getElem?_pos,-Int.natCast_add,h0,h1',h6,h7,h8,hrw];refine⟨lv,rfl,hM.next fun e he=>?_,fun i=>by rw[<- qs9,hrs];exact hB i⟩;exact wL.1 (show ((e.1,e.2):Int×Int)∈wX E from he)
 . rintro ev O ⟨h0,h1',h6,h7,lv,rfl,hR,hB⟩;have hrn:¬ ((n+1:Nat):Int)<=n:=(by omega);simp[-getElem?_pos,-Int.natCast_add,h1',h7,hrn]
   cases ha:acyc (wX E) n with
   | true=>
    have hl:=fun i=>hR.lev (by omega) ha i
    have hlt:=fun (i:Nat) (hi:i<n)=>qn0 ha hb (i:=(i:Int)) (by omega) (by omega)
    have hT:tab n lv=tab n fun j=>(qJ (wX E) n j:Int):=Jc fun i _=>hl i
    rw[hT];refine qv.count n (fun i ev O=>ev 0=sP E/\ev 1=I_ n/\ev 6=.ms H.length 0 n 1/\ev 9=I_ i/\O=⟨H++[.cells (tab n fun j=>(qJ (wX E) n j:Int))],T⟩) ?_ ?_ ?_
    . exact⟨h0,h1',h6,by simp,rfl⟩
    . clear h0 h1' h6 h7;rintro i ev O hi ⟨h0,h1',h6,h9,rfl⟩;have hiw:=wq (n:=i) (by omega);have hii:(i:Int)<n:=(by omega);have hi1:i+1<=n:=hi;have hlt':=hlt i hi;have hlt2:¬ (n:Int)<=(qJ (wX E) n (i:Int):Int):=(by omega);have hlt3:¬ n<=qJ (wX E) n (i:Int):=(by omega);obtain⟨t1,_⟩:=jf (Yt (fun j=>(qJ (wX E) n j:Int)) hi);simp[-getElem?_pos,-Int.natCast_add,h0,h1',h6,h9,hii,hi1,yD,t1,hlt2,hiw]
    . clear h0 h1' h6 h7;rintro ev O ⟨h0,h1',h6,h9,rfl⟩;simp[-getElem?_pos,-Int.natCast_add,h1',h6,h9]
   | false=>
    obtain⟨q,q0,q1,q2⟩:=hR.cycle ha hb;obtain⟨q,rfl⟩:=qrj q0;refine qv.count n (fun i ev O=>ev 0=sP E/\ev 1=I_ n/\ev 6=.ms H.length 0 n 1/\ev 9=I_ i/\O=⟨H++[.cells (tab n lv)],T⟩/\∀ j:Nat,j<i->lv (j:Int)<n) ?_ ?_ ?_
    . exact⟨h0,h1',h6,by simp,rfl,by simp⟩
    . clear h0 h1' h6 h7;rintro i ev O hi ⟨h0,h1',h6,h9,rfl,hz⟩;have hiw:=wq (n:=i) (by omega);have hii:(i:Int)<n:=(by omega);have hi1:i+1<=n:=hi;obtain⟨t1,_⟩:=jf (Yt lv hi);by_cases hc:(n:Int)<=lv i
      . simp[-getElem?_pos,-Int.natCast_add,h1',h6,h9,hii,hi1,yD,t1,hc]
      . simp[-getElem?_pos,-Int.natCast_add,h0,h1',h6,h9,hii,hi1,yD,t1,hc,hiw];intro j hj;by_cases hji:j=i
        . subst hji;omega
        . exact hz j (by omega)
    . clear h0 h1' h6 h7;rintro ev O ⟨h0,h1',h6,h9,rfl,hz⟩;have:=hz q (by omega);omega
theorem qp6 (H:List Blk)(T:List (Option Nat)):je (Dof Zp) ⟨H,T⟩ 28 (I_ 0) (I_ 0)=some (.sl 1 [] (.chain T.length 0),⟨H,T++[some 0]⟩):=by simp[je,wx]
theorem qe1 (H:List Blk)(T:List (Option Nat)) :
 qq Zp GG 217 [.sl 2 [] .none,I_ 0] ⟨H,T⟩ (fun r O'=>r=.tup [.sl 1 [] (.chain T.length 0),.bool true]/\O'=⟨H,T++[some 0]⟩):=by
 refine qq.k qg Tryz.func217 rfl (by kernel_rfl) ?_;simp[-getElem?_pos,qp6];refine qv.count 1 (fun r ev O=>ev 0=.sl 2 [] .none/\ev 1=I_ 0/\ev 6=.sl 1 [] (.chain T.length 0)/\ev 7=I_ r/\O=⟨H,T++[some 0]⟩) ?_ ?_ ?_
 . exact⟨by simp,by simp,by simp,by simp,by simp⟩
 . rintro r ev O hr ⟨h0,h1',h6,h7,rfl⟩;obtain rfl:r=0:=by omega
   simp[-getElem?_pos,h1',h7];refine qv.count 0 (fun r ev O=>ev 0=.sl 2 [] .none/\ev 1=I_ 0/\ev 6=.sl 1 [] (.chain T.length 0)/\ev 7=I_ 0/\ev 8=I_ 0/\O=⟨H,T++[some 0]⟩) ?_ ?_ ?_
   . exact⟨h0,h1',h6,h7,by simp,rfl⟩
   . intro i ev O hi;omega
   . clear h0 h1' h6 h7;rintro ev O ⟨h0,h1',h6,h7,h8,rfl⟩;simp[-getElem?_pos,h0,h1',h6,h7,h8];exact wr (by omega) (by omega)
 . rintro ev O ⟨h0,h1',h6,h7,rfl⟩;simp[-getElem?_pos,h1',h7];refine qv.count 0 (fun r ev O=>ev 1=I_ 0/\ev 6=.sl 1 [] (.chain T.length 0)/\ev 9=I_ 0/\O=⟨H,T++[some 0]⟩) ?_ ?_ ?_
   . exact⟨h1',h6,by simp,rfl⟩
   . intro i ev O hi;omega
   . clear h0 h1' h6 h7;rintro ev O ⟨h1',h6,h9,rfl⟩;simp[-getElem?_pos,h1',h6,h9]
theorem qkM {α:Type}{sz:Nat}{en:α->List AV}(hn:∀ x,qu (en x)=true)(ha:∀ x,(en x).all AV.atom=true)(H:List Blk)(k:Nat)(l:List α)(t m:Nat):Abs.frz H (k+1) (.sl sz (l.map en) (.chain t m))=.sl sz (l.map en) .none:=by
 have hr:=kQ (H:=H) hn (n:=k) l;have hall:((l.map en).map (·.map (Abs.frz H k))).all (·.all AV.atom)=true:=by
  rw[hr,qsA,qq7];intro x _;exact ha x
 rw[Abs.frz,if_neg (by simp[zg])];simp only[if_pos hall];rw[hr]
def enG (p:GP):List AV:=[gv p]
def OwnG (p:GP):Prop:=p.1=1/\∃ t m,p.2.2=.chain t m
theorem qia {H:List Blk}{T:List (Option Nat)}{v:AV}{ps:List GP}(h:yc 0 1 enG T v ps)(hp:∀ p∈ps,OwnG p)(k:Nat):zg (Abs.frz H (k+2) v)=true/\Leq (Abs.frz H (k+2) v) (.sl 1 (ps.map fun p=>zZ p.2.1) .none):=by
 rcases h with ⟨rfl,rfl⟩|⟨hne,t,_,rfl,_⟩
 . rw[qP (by simp)];exact⟨by simp,Leq.slnil⟩
 . have hrows:(ps.map enG).map (·.map (Abs.frz H (k+1)))=ps.map fun p=>zZ p.2.1:=by
    rw[qr2];refine qr7 fun p hpm=>?_
    obtain⟨h1,t,m,h2⟩:=hp p hpm;show [Abs.frz H (k+1) (gv p)]=zZ p.2.1;unfold gv;rw[h1,h2,qkM (fun x=>by simp[qY]) (fun x=>by simp[qY])];rfl
   have hall:((ps.map enG).map (·.map (Abs.frz H (k+1)))).all (·.all AV.atom)=true:=by
    rw[hrows,qsA,qq7];intro x _;simp[zZ]
   rw[Abs.frz,if_neg (by simp[zg])];simp only[if_pos hall];rw[hrows];refine⟨?_,Leq.refl _⟩;simp only[zg,qsi];exact qS (fun x=>by simp[zZ]) _
theorem len34 {T:List (Option Nat)}{v:AV}{l:List Int}{n:Nat}(h:yc n 1 qY T v l)(O:St):kw (Dof Zp) O 28 v=some (I_ l.length):=by
 rcases h with ⟨rfl,rfl⟩|⟨hne,t,_,rfl,_⟩<;>simp[kw]
def qkC (V:List Var)(E:List (Int×Int))(k:Nat):List (List Int):=((List.range k).map (qbU V E V.length)).filter fun g=>!g.isEmpty
theorem qkB (V:List Var)(E:List (Int×Int))(k:Nat):qkC V E (k+1)=if qbU V E V.length k=[] then qkC V E k else qkC V E k++[qbU V E V.length k]:=by
 unfold qkC;rw[qrX,qrf,qrI,qqZ,qq9];cases h:qbU V E V.length k<;>simp
theorem qgD (V:List Var)(E:List (Int×Int))(k:Nat):(qkC V E k).length<=k:=by
 unfold qkC;refine qrN (qrr _ _) ?_;simp
theorem qjM {l:List Var}{names:List Str}{i:Int}(h:i∈Y2 l names):0<=i/\i<l.length/\zW l i=true:=by
 unfold Y2 at h;obtain⟨h1,h2⟩:=qrz.1 h;obtain⟨s,_,h3⟩:=qrp.1 h1;obtain⟨h4,h5⟩:=qeT h3;exact⟨h4,h5,h2⟩
theorem qpA {l:List Var}{x:List It}{a b:Int}(h:(a,b)∈YM l x):(0<=a/\a<l.length)/\0<=b/\b<l.length:=by
 unfold YM at h;obtain⟨y,_,hy⟩:=qrp.1 h;unfold qjE at hy;split at hy
 . obtain⟨i,hi,hk⟩:=qrp.1 hy;obtain⟨k,hk2,he⟩:=qq3.1 hk;simp only[Prod.mk.injEq]at he;obtain⟨rfl,rfl⟩:=he;have h1:=qjM hi;have h2:=qjM hk2;exact⟨⟨h1.1,h1.2.1⟩,h2.1,h2.2.1⟩
 . cases hy
def YN (l:List Var)(x:List It):List (Int×Int):=wX (YM l x)
theorem qhH (l:List Var)(x:List It):Below (YN l x) l.length:=fun e he=>by
 obtain⟨a,b⟩:=e;have h:=qpA (wL.1 he);exact⟨h.2,h.1⟩
def ordG (l:List Var)(x:List It):List (List Int):=if acyc (YN l x) l.length=true then zB l (YN l x) else []
def qhM (l:List Var)(x:List It):Int:=if acyc (YN l x) l.length=true then 0 else 10
theorem qmq (l:List Var)(x:List It):∀ e,e∈wX (QZ (YM l x))↔e∈YN l x:=fun e=>by
 obtain⟨a,b⟩:=e;unfold YN;rw[wL,wL,qk8]
theorem zfinG (H:List Blk)(n:Int):zg (Abs.frz H 8 (.tup [.sl 0 [] .nil,I_ n]))=true/\Leq (Abs.frz H 8 (.tup [.sl 0 [] .nil,I_ n])) (.tup [.sl 1 [] .none,I_ n]):=by
 rw[qP (by simp)];simp[Leq,zt]
theorem qmU (l:List Var)(x:List It)(hl:l.length<=1000)(hx:x.length<=100000)(h8:∀ y∈x,y.kind=6->y.before.length<=8/\y.after.length<=8/\∀ s∈y.before++y.after,s.length<=1000) :
 PZ 143 [sV l,sI x] (.tup [.sl 1 ((ordG l x).map zZ) .none,I_ (qhM l x)]):=by
 refine Pure.kO o0 true qg Tryz.func143 rfl (by kernel_rfl) ?_;have hrl:=qez l x (by omega) hx h8;have hRl:=qaP (l:=l) (x:=x) fun y hy hk=>⟨(h8 y hy hk).1,(h8 y hy hk).2.1⟩
 have hdl:=qdE (YM l x);have hds:=qfp (YM l x) (by omega);have hsm:=qmq l x;have hbl:=qhH l x;have hGd:ordG l x=if acyc (YN l x) l.length=true then zB l (YN l x) else []:=rfl
 have hFd:qhM l x=if acyc (YN l x) l.length=true then 0 else 10:=rfl
 rw[<- W8 hsm,<- YB hsm]at hGd;rw[<- W8 hsm]at hFd;have hbl2:Below (wX (QZ (YM l x))) l.length:=fun e he=>hbl e ((hsm e).1 he)
 have hDl:(QZ (YM l x)).length<=1000000000:=by omega
 clear hbl hsm;generalize YM l x=RS at *;generalize QZ RS=R at *;generalize ordG l x=OG at *;generalize qhM l x=OF at *;simp;refine qd.call hrl (by simp) ?_;simp;refine qd.call hds (by simp) ?_;simp;clear hrl hds hRl hdl;by_cases hn:l=[]
 . subst hn;have hR0:R=[]:=by
    cases R with
    | nil=>rfl
    | cons e r=>
     have:=(hbl2 (e.2,e.1) (wL.2 (by simp))).1;simp at this;omega
   subst hR0;have hg:OG=[]:=(by rw[hGd];rfl);have hf:OF=0:=(by rw[hFd];rfl);subst hg hf;clear hGd hFd hbl2;simp;refine qd.acall (qe1 _ _) ?_;rintro v O' ⟨rfl,rfl⟩;simp;refine qv.count 0 (fun r ev O=>ev 0=.sl 4 [] .none/\ev 9=I_ 0/\ev 10=I_ 0) ?_ ?_ ?_
   . exact⟨by simp,by simp,by simp⟩
   . intro i ev O hi;omega
   . rintro ev O ⟨h0,h9,h10⟩;simp[h0,h10];refine qv.count 1 (fun r ev O=>ev 0=.sl 4 [] .none/\ev 9=I_ 0/\ev 11=.sl 0 [] .nil/\ev 12=I_ r) ?_ ?_ ?_
     . exact⟨h0,h9,by simp,by simp⟩
     . clear h0 h9 h10;rintro r ev O hr ⟨h0,h9,h11,h12⟩;obtain rfl:r=0:=by omega
       simp[h9,h12];refine qv.count 0 (fun r ev O=>ev 0=.sl 4 [] .none/\ev 9=I_ 0/\ev 11=.sl 0 [] .nil/\ev 12=I_ 0/\ev 13=.sl 0 [] .nil/\ev 14=I_ 0) ?_ ?_ ?_
       . exact⟨h0,h9,h11,h12,by simp,by simp⟩
       . intro i ev O hi;omega
       . clear h0 h9 h11 h12;rintro ev O ⟨h0,h9,h11,h12,h13,h14⟩;simp[h0,h9,h11,h12,h13,h14];exact wr (by omega) (by omega)
     . clear h0 h9 h10;rintro ev O ⟨h0,h9,h11,h12⟩;simp[h9,h11,h12];exact zfinG O.H 0
 . have hn1:1<=l.length:=qrH.2 hn;generalize hE':wX R=E' at *;refine qd.acall (qh4 R l.length hn1 hl hDl (by rw[hE'];exact hbl2) _ _) ?_;rw[hE'];rintro v O' (⟨ha,rfl,rfl⟩|⟨ha,rfl,c,rfl⟩)
   . rw[if_pos ha]at hGd hFd;subst hGd hFd;simp[-Int.natCast_add];have hoc:=qj2 R (by unfold Fits;omega);have hio:∀ i,yP R i=yP E' i:=fun i=>by rw[<- hE',qh2]
     have htab0:tab l.length (fun j=>(qJ E' l.length j:Int))=tab l.length (qd5 l E' 0):=Jc fun i _=>by
      unfold qd5;rw[if_neg (by omega)]
     rw[htab0];refine qv.listR l (fun d ev O=>ev 0=sV l/\ev 6=sP R/\ev 7=.ms 0 0 l.length 1/\ev 9=I_ (YQ E' l.length d.length)/\ev 10=I_ d.length/\O=⟨[.cells (tab l.length (qd5 l E' d.length))],[]⟩) ?_ ?_ ?_
     . exact⟨by simp,by simp,by simp,by simp[YQ],by simp,by simp⟩
     . rintro d w rest ev O Rl hRl hd hxw hlt ⟨h0,h6,h7,h9,h10,rfl⟩;have hdw:=wq (n:=d.length) (by omega);have hii:(d.length:Int)<l.length:=(by omega);have hi1:d.length+1<=l.length:=hlt;have hrn:zW l d.length=(w.mode != 0):=(by simp[zW,hxw]);obtain⟨t1,_⟩:=jf (Yt (qd5 l E' d.length) hlt);have hlv:qd5 l E' d.length d.length=qJ E' l.length d.length:=(by unfold qd5;rw[if_neg (by omega)]);rw[hlv]at t1;have hls:=J6 E' l.length d.length;have hmax:(if YQ E' l.length d.length<qJ E' l.length (d.length:Int) then (qJ E' l.length d.length:Int) else (YQ E' l.length d.length:Int))=(YQ E' l.length (d.length+1):Nat):=by
        rw[hls];split<;>omega
       have hstep:∀ b:Bool,zW l d.length=b->(b=true->yP E' d.length=true)->tab l.length (qd5 l E' (d.length+1))=tab l.length (qd5 l E' d.length):=fun b hb1 hb2=>Jc fun i _=>by
        unfold qd5;by_cases hid:i=d.length
        . subst hid;have n1:¬ ((d.length:Int)<((d.length+1:Nat):Int)/\zW l d.length=true/\yP E' d.length=false):=by
           rintro⟨_,q1,q2⟩;rw[hb1]at q1;rw[hb2 q1]at q2;cases q2
          rw[if_neg n1,if_neg (fun h=>by have:=h.1;omega)]
        . by_cases hlt':i<d.length
          . congr 1;rw[eq_iff_iff];constructor<;>rintro⟨_,q⟩<;>exact⟨by omega,q⟩
          . rw[if_neg (by omega),if_neg (by omega)]
       by_cases hm:w.mode=0
       . have hr0:zW l d.length=false:=(by rw[hrn,hm];rfl);have hst:=hstep false hr0 (by simp);simp[-Int.natCast_add,h0,h7,h9,h10,hii,hi1,hxw,yD,t1,hm,qa6,hmax,hdw];exact hRl _ _ ⟨h0,h6,h7,by simp[-Int.natCast_add],by simp[-Int.natCast_add],by rw[qqY,qq8,hst]⟩
       . have hr1:zW l d.length=true:=(by rw[hrn];simp[hm]);have hov:=hoc d.length;rw[hio]at hov
         cases hin:yP E' d.length with
         | true=>
          rw[hin]at hov;have hst:=hstep true hr1 (fun _=>hin);simp[-Int.natCast_add,h0,h6,h7,h9,h10,hii,hi1,hxw,yD,t1,hm,qa6,hmax,hdw];refine qd.call hov (by simp) ?_;simp[-Int.natCast_add,h10,hdw];exact hRl _ _ ⟨h0,h6,h7,by simp[-Int.natCast_add],by simp[-Int.natCast_add],by rw[qqY,qq8,hst]⟩
         | false=>
          rw[hin]at hov;have hts:(tab l.length (qd5 l E' d.length)).set d.length (I_ (-1))=tab l.length (qd5 l E' (d.length+1)):=by
           rw[qem _ hlt];refine Jc fun i _=>?_
           unfold qd5;by_cases hid:i=d.length
           . subst hid;rw[if_pos rfl,if_pos ⟨by omega,hr1,hin⟩]
           . rw[if_neg (by omega)];by_cases hlt':i<d.length
             . congr 1;rw[eq_iff_iff];constructor<;>rintro⟨_,q⟩<;>exact⟨by omega,q⟩
             . rw[if_neg (by omega),if_neg (by omega)]
          simp[-Int.natCast_add,h0,h6,h7,h9,h10,hii,hi1,hxw,yD,t1,hm,qa6,hmax,hdw];refine qd.call hov (by simp) ?_;simp[-Int.natCast_add,h7,h10,hii,hi1,yD,hdw,hts];exact hRl _ _ ⟨h0,h6,h7,by simp[-Int.natCast_add],by simp[-Int.natCast_add],by rw[qqY,qq8]⟩
     . rintro ev O ⟨h0,h6,h7,h9,h10,rfl⟩;rw[qko hbl2]at h9;have htl:JT E' l.length<=l.length:=QC fun e _=>wV _ _
       have hgr:zB l E'=qkC l E' (JT E' l.length+1):=rfl;rw[hgr];have hgx:=fun (i k:Nat) (hi:i<l.length) (hr:zW l (i:Int)=true)=>qm7 (V:=l) (E:=E') (i:=i) (k:=k) hi hr
       generalize JT E' l.length=top at *;simp[-Int.natCast_add,h0,h10];generalize hlx:qd5 l E' l.length=lx at *;refine qv.count (top+1) (fun k ev O=>ev 0=sV l/\ev 7=.ms 0 0 l.length 1/\ev 9=I_ top/\ev 12=I_ k/\O.H=[.cells (tab l.length lx)]/\∃ ps:List GP,yc 0 1 enG O.T (ev 11) ps/\(∀ p∈ps,OwnG p)/\ps.map (fun p=>p.2.1)=qkC l E' k) ?_ ?_ ?_
       . exact⟨h0,h7,h9,by simp,rfl,[],by simpa using yc.nil,by simp,by simp[qkC]⟩
       . clear h0 h6 h7 h9 h10;rintro k ev ⟨Hk,Tk⟩ hk ⟨h0,h7,h9,h12,hH,ps,ho,hp,hpg⟩;simp only at hH ho;subst hH;have hkw:=wq (n:=k) (by omega);have hkt:(k:Int)<=top:=(by omega);have hkt':k<=top:=(by omega);have hpl:ps.length<=k:=by
          have:=congrArg List.length hpg;rw[qrv]at this;rw[this];exact qgD _ _ _
         generalize hvo:ev 11=vo at *;simp[-Int.natCast_add,h9,h12,hkt];refine qv.listR l (fun d ev O=>ev 0=sV l/\ev 7=.ms 0 0 l.length 1/\ev 9=I_ top/\ev 12=I_ k/\ev 11=vo/\ev 14=I_ d.length/\O.H=[.cells (tab l.length lx)]/\Tk <+: O.T/\yc Tk.length 1 qY O.T (ev 13) (qbU l E' d.length k)) ?_ ?_ ?_
         . exact⟨h0,h7,h9,h12,by simp[hvo],by simp,rfl,qr6,by simpa[qbU] using yc.nil⟩
         . clear h0 h7 h9 h12 hvo;rintro d w rest ev ⟨H3,T3⟩ Rl hRl hd hxw hlt ⟨h0,h7,h9,h12,h11,h14,hH3,hT3,hg⟩;simp only at hH3 hT3 hg;subst hH3;have hdw:=wq (n:=d.length) (by omega);have hii:(d.length:Int)<l.length:=(by omega);have hi1:d.length+1<=l.length:=hlt;have hrn:zW l d.length=(w.mode != 0):=(by simp[zW,hxw]);obtain⟨t1,_⟩:=jf (Yt lx hlt);have hgs:=Wo l E' d.length k;have hgl:=JC l E' d.length k;have hgk:=hgx d.length k hlt;generalize hvg:ev 13=vg at *;have hno:¬ (zW l (d.length:Int)=true/\yk E' l.length (d.length:Int)=k)->∀ ev':Env,(ev' 0=sV l/\ev' 7=.ms 0 0 l.length 1/\ev' 9=I_ top/\ev' 12=I_ k/\ev' 11=vo/\ev' 14=I_ (d.length+1:Nat)/\ev' 13=vg)->Rl ev' ⟨[.cells (tab l.length lx)],T3⟩:=fun hh ev' ⟨k0,k7,k9,k12,k11,k14,k13⟩=>by
            rw[if_neg hh]at hgs;exact hRl _ _ ⟨k0,k7,k9,k12,k11,by rw[k14];simp,rfl,hT3,by rw[k13,qqY,qq8,hgs];exact hg⟩
           obtain⟨vg',T',hX,hg',hT'⟩:=hg.append (D:=Dof Zp) (m:=[(d.length:Int)]) (tok:=.tight) hT3 D28 rfl D3 rfl (by omega) rfl (by decide) (by simp only[qq8];omega) 1 (.inl rfl);simp only[qqZ,qq9,qY]at hX;have hyes:(zW l (d.length:Int)=true/\yk E' l.length (d.length:Int)=k)->∀ ev':Env,(ev' 0=sV l/\ev' 7=.ms 0 0 l.length 1/\ev' 9=I_ top/\ev' 12=I_ k/\ev' 11=vo/\ev' 14=I_ (d.length+1:Nat)/\ev' 13=vg')->Rl ev' ⟨[.cells (tab l.length lx)],T'⟩:=fun hh ev' ⟨k0,k7,k9,k12,k11,k14,k13⟩=>by
            rw[if_pos hh]at hgs;exact hRl _ _ ⟨k0,k7,k9,k12,k11,by rw[k14];simp,rfl,hT',by rw[k13,qqY,qq8,hgs];exact hg'⟩
           have hgat:=hg.atom;have hgac:=hg.acells;by_cases hm:w.mode=0
           . have hr0:zW l d.length=false:=(by rw[hrn,hm];rfl);simp[-Int.natCast_add,h0,h14,hii,hxw,hm,hdw];exact hno (by rw[hr0];simp) _ ⟨h0,h7,h9,h12,h11,by simp[-Int.natCast_add],by simp[hvg]⟩
           . have hr1:zW l d.length=true:=(by rw[hrn];simp[hm]);have hgk:=hgk hr1;generalize lx (d.length:Int)=z at *;by_cases c1:z=k
             . have hyes:=hyes ⟨hr1,hgk.1 (.inl c1)⟩;simp[-Int.natCast_add,h0,h7,h12,h14,hvg,hii,hi1,hxw,yD,t1,hm,hdw,c1,hX];exact hyes _ ⟨h0,h7,h9,h12,h11,by simp[-Int.natCast_add],by simp⟩
             . by_cases c2:z<0
               . by_cases c3:k=top
                 . have hyes:=hyes ⟨hr1,hgk.1 (.inr ⟨c2,c3⟩)⟩;have c4:(k:Int)=top:=(by omega);have c5:¬ z=(top:Int):=(by rw[<- c4];exact c1);simp[-Int.natCast_add,h0,h7,h9,h12,h14,hvg,hii,hi1,hxw,yD,t1,hm,hdw,c2,c3,c5,hX];exact hyes _ ⟨h0,h7,h9,by simp[h12,c3],h11,by simp[-Int.natCast_add],by simp⟩
                 . have hno:=hno (fun hh=>by rcases hgk.2 hh.2 with q | ⟨_,q⟩;exact c1 q;exact c3 q);have c4:¬ (k:Int)=top:=(by omega);simp[-Int.natCast_add,h0,h7,h9,h12,h14,hvg,hii,hi1,hxw,yD,t1,hm,hdw,c1,c2,c4];exact hno _ ⟨h0,h7,h9,h12,h11,by simp[-Int.natCast_add],by simp[hvg]⟩
               . have hno:=hno (fun hh=>by rcases hgk.2 hh.2 with q | ⟨q,_⟩;exact c1 q;exact c2 q);simp[-Int.natCast_add,h0,h7,h12,h14,hvg,hii,hi1,hxw,yD,t1,hm,hdw,c1,c2];exact hno _ ⟨h0,h7,h9,h12,h11,by simp[-Int.natCast_add],by simp[hvg]⟩
         . clear h0 h7 h9 h12 hvo;rintro ev ⟨H3,T3⟩ ⟨h0,h7,h9,h12,h11,h14,hH3,hT3,hg⟩;simp only at hH3 hT3 hg;subst hH3;have hks:=qkB l E' k;have hlen:=len34 hg;have ho2:=ho.ext hT3;have hgl:=JC l E' l.length k;generalize hvg:ev 13=vg at *;generalize qbU l E' l.length k=g at *;rcases hg with ⟨rfl,rfl⟩|⟨hne,t,ht,rfl,hk4⟩
           . rw[if_pos rfl]at hks;simp[-Int.natCast_add,h0,h7,h9,h11,h12,h14,hvg,hkw];exact⟨ps,ho2,fun a b c h=>hp _ h,by rw[hks];exact hpg⟩
           . rw[if_neg hne]at hks;have hgp:0<g.length:=qrH.2 hne;obtain⟨vo',T',hX,ho',hT'⟩:=ho2.append (T0:=[]) (D:=Dof Zp) (m:=[((1,g,.chain t g.length):GP)]) (tok:=.tight) (qtp) D34 rfl D28 rfl (by omega) rfl (by decide) (by simp only[qq8];omega) 1 (.inl rfl);simp only[qqZ,qq9,enG,gv]at hX;simp[-Int.natCast_add,h0,h7,h9,h11,h12,h14,hvg,hkw,hgp,hX];refine⟨_,ho',fun a b c h=>?_,by rw[qrf,hpg,hks];rfl⟩;rcases qre.1 h with h|h
             . exact hp _ h
             . have:=qrM.1 h;rw[this];exact⟨rfl,t,_,rfl⟩
       . clear h0 h6 h7 h9 h10;rintro ev ⟨H3,T3⟩ ⟨h0,h7,h9,h12,hH,ps,ho,hp,hpg⟩;have hkt:¬ ((top+1:Nat):Int)<=top:=(by omega);simp only at hH ho;subst hH;have hz:=qia (H:=[.cells (tab l.length lx)]) ho hp 5;simp[-Int.natCast_add,h9,h12,hkt];refine qbu hz.1 ?_;have hmap:(qkC l E' (top+1)).map zZ=ps.map fun p=>zZ p.2.1:=by rw[<- hpg,qr2];rfl
         rw[hmap];exact hz.2
   . rw[if_neg (by rw[ha];simp)]at hGd hFd;subst hGd hFd;simp;exact zfinG _ 10
def QX (l:List Var)(x:It):List Dist:=if x.kind=3 then (Vb l x.name).map fun i=>⟨i,x.ws⟩ else []
def zH (l:List Var)(x:List It):List Dist:=x.flatMap (QX l)
def qbW (l:List Var)(x:List It):List Dist:=if zl l (zH l x)≠0 then [] else zH l x
theorem qqy {l:List Var}{a r:List Dist}{x:Dist}(h:a.any (fun y=>y.var==x.var)=true):zl l (a++x::r)=8:=by
 unfold zl;rw[if_pos];refine qq2.2 ⟨a.length,qrC.2 (by simp),?_⟩;unfold qk5;simp only[qro (qrn _),qsP,qsf];rw[qsF]
 . exact h
 . rfl
def qd3 (D:List Dist):Prop:=∀ k,k<D.length->qk5 D k=false
theorem qd3.snoc {a:List Dist}{x:Dist}(h:qd3 a)(hx:a.any (fun y=>y.var==x.var)=false):qd3 (a++[x]):=fun k hk=>by
 unfold qk5;by_cases hka:k<a.length
 . have:=h k hka;unfold qk5 at this;rw[qrc hka,qsb (by omega)];exact this
 . have:k=a.length:=by rw[qqY,qq8]at hk;omega
   subst this;simp only[qro (qrn _),qsP,qsf];rw[qsF]
   . exact hx
   . rfl
theorem qd3.dist {l:List Var}{D:List Dist}(h:qd3 D):zl l D=if D.any (fun x=>!zW l x.var)=true then 1 else 0:=by
 unfold zl;rw[if_neg];rw[qsa,qrx];intro k hk;rw[h k (qrC.1 hk)];simp
theorem qil (l:List Var)(x:It):(QX l x).length<=8:=by
 unfold QX;split
 . rw[qrv];exact Y5 l x.name
 . simp
theorem Yf (l:List Var):∀ x:List It,(zH l x).length<=x.length*8
 | []=>by simp[zH]
 | y::r=>by
  have h1:=Yf l r;have h2:=qil l y;unfold zH at *;rw[qrm,qqY,qq5];omega
theorem qk7 {l:List Var}{x:List It}{d:Dist}(h:d∈zH l x):0<=d.var/\d.var<l.length:=by
 obtain⟨y,_,hy⟩:=qrp.1 h;unfold QX at hy;split at hy
 . obtain⟨i,hi,rfl⟩:=qq3.1 hy;exact qeT hi
 . cases hy
theorem len33 (D:List Dist)(O:St):kw (Dof Zp) O 33 (ye 2 qG 0 D)=some (I_ D.length):=by
 cases D<;>simp[kw,ye]
theorem qlT (l:List Var)(x:List It)(hl:l.length<=100000)(hx:x.length<=100000)(hs:∀ y∈x,y.kind=3->y.name.length<=1000) :
 PZ 142 [sV l,sI x] (.tup [.sl 2 ((qbW l x).map qG) .none,I_ (zl l (zH l x))]):=by
 refine Pure.k qg Tryz.func142 rfl (by kernel_rfl) ?_;have hO:qbW l x=if zl l (zH l x)≠0 then [] else zH l x:=rfl
 have hF:zl l (zH l x)=zl l (zH l x):=rfl;generalize qbW l x=O_ at hO;generalize hFF:zl l (zH l x)=F at hO;clear hF;simp[-getElem?_pos];refine qv.listR x (fun d ev O=>ev 0=sV l/\ev 1=sI x/\ev 6=ye 2 qG 0 (zH l d)/\ev 7=I_ d.length/\(∃ H,O=⟨H,zG [] (zH l d)⟩)/\qd3 (zH l d)) ?_ ?_ ?_
 . exact⟨by simp,by simp,by simp[zH],by simp,⟨_,by simp[zH];rfl⟩,fun k hk=>by simp[zH]at hk⟩
 . rintro d y rest ev O R hR hd hyx hlt ⟨h0,h1,h6,h7,⟨H,rfl⟩,hnd⟩;have hdw:=wq (n:=d.length) (by omega);have hln:=Yf l d;have hsn:zH l (d++[y])=zH l d++QX l y:=(by simp[zH]);have htot:zH l x=zH l d++(QX l y++zH l rest):=(by rw[hd];simp[zH]);by_cases hk:y.kind=3
   . have hv:=VY l y.name (by unfold Fits;omega) (hs y (qqW hyx) hk);have hX:QX l y=(Vb l y.name).map fun i=>⟨i,y.ws⟩:=by unfold QX;rw[if_pos hk]
     have hml:=Y5 l y.name;rw[hX]at hsn htot;generalize Vb l y.name=M at *;generalize zH l d=D at *;generalize zH l rest=Rs at *;simp[-getElem?_pos,h0,h1,h7,hlt,hyx,ql y,qa y.expr,hk];refine qd.call hv (by simp) ?_;simp[-getElem?_pos];refine qv.listR M (fun e ev O=>ev 0=sV l/\ev 1=sI x/\ev 6=ye 2 qG 0 (D++e.map fun i=>⟨i,y.ws⟩)/\ev 7=I_ d.length/\ev 8=sN M/\ev 9=I_ e.length/\(∃ H,O=⟨H,zG [] (D++e.map fun i=>⟨i,y.ws⟩)⟩)/\qd3 (D++e.map fun i=>⟨i,y.ws⟩)) ?_ ?_ ?_
     . exact⟨by simp[h0],by simp[h1],by simp[h6],by simp[h7],by simp,by simp,⟨_,by simp;rfl⟩,by simpa using hnd⟩
     . clear h0 h1 h6 h7;rintro e i rest2 ev O R2 hR2 he hxi hlti ⟨h0,h1,h6,h7,h8,h9,⟨H2,rfl⟩,hnd2⟩;have hew:=wq (n:=e.length) (by omega);have hes:(e++[i]).map (fun i=>(⟨i,y.ws⟩:Dist))=e.map (fun i=>⟨i,y.ws⟩)++[⟨i,y.ws⟩]:=(by simp);have hRR:∀ ev O,(ev 0=sV l/\ev 1=sI x/\ev 6=ye 2 qG 0 (D++(e++[i]).map fun i=>⟨i,y.ws⟩)/\ev 7=I_ d.length/\ev 8=sN M/\ev 9=I_ (e++[i]).length/\(∃ H,O=⟨H,zG [] (D++(e++[i]).map fun i=>⟨i,y.ws⟩)⟩)/\qd3 (D++(e++[i]).map fun i=>⟨i,y.ws⟩))->R2 ev O:=hR2;rw[hes,<- qri]at hRR;have hel:(e.map fun i=>(⟨i,y.ws⟩:Dist)).length<=8:=(by rw[qrv];omega);have hQl:(D++e.map fun i=>(⟨i,y.ws⟩:Dist)).length<=1000000:=(by rw[qqY];omega);have htq:zH l x=(D++e.map fun i=>(⟨i,y.ws⟩:Dist))++⟨i,y.ws⟩::(rest2.map (fun i=>⟨i,y.ws⟩)++Rs):=(by rw[htot,he];simp);generalize (D++e.map fun i=>(⟨i,y.ws⟩:Dist))=Q at *;simp[-getElem?_pos,h8,h9,hlti];refine qv.listR Q (fun g ev O=>ev 0=sV l/\ev 1=sI x/\ev 6=ye 2 qG 0 Q/\ev 7=I_ d.length/\ev 8=sN M/\ev 9=I_ e.length/\ev 10=I_ g.length/\(∃ H,O=⟨H,zG [] Q⟩)/\∀ z∈g,(z.var==i)=false) ?_ ?_ ?_
       . exact⟨by simp[h0],by simp[h1],by simp[h6],by simp[h7],by simp[h8],by simp[h9],by simp,⟨_,rfl⟩,by simp⟩
       . clear h0 h1 h6 h7 h8 h9;rintro g z rest3 ev O R3 hR3 hg hxz hltz ⟨h0,h1,h6,h7,h8,h9,h10,⟨H3,rfl⟩,hz⟩;have hgw:=wq (n:=g.length) (by omega);have hne:Q≠[]:=(by rintro rfl;simp at hltz);have h6':=h6;rw[qaV hne]at h6';by_cases hzi:z.var=i
         . have hF8:F=8:=by
            rw[<- hFF,htq];exact qqy (qq2.2 ⟨z,qqW hxz,by simpa using hzi⟩)
           subst hF8;rw[if_pos (by decide)]at hO;subst hO;simp[-getElem?_pos,h6',h8,h9,h10,hltz,hxz,hxi,hzi]
         . simp[-getElem?_pos,h6',h8,h9,h10,hltz,hxz,hxi,hzi,hgw];exact hR3 _ _ ⟨by simp[h0],by simp[h1],by simp[h6],by simp[h7],by simp[h8],by simp[h9],by simp,⟨_,rfl⟩,zu hz (by simpa using hzi)⟩
       . clear h0 h1 h6 h7 h8 h9;rintro ev O ⟨h0,h1,h6,h7,h8,h9,h10,⟨H3,rfl⟩,hz⟩;have hlen:=len33 Q;have hX:=zq (D:=Dof Zp) (H:=H3) (sz:=2) (en:=qG) (T:=[]) (s:=Q) (m:=[⟨i,y.ws⟩]) (tok:=.tight) D33 rfl D118 rfl (by omega) rfl (by decide) (by simp only[qq8];omega) 2 (.inl rfl);simp only[qqZ,qq9,qG,qrt]at hX;have hnd3:=hnd2.snoc (x:=⟨i,y.ws⟩) (qrx.2 fun z hzm=>by simp[hz z hzm]);simp[-getElem?_pos,-kw,h1,h6,h7,h8,h9,h10,hlen,hxi,hyx,ql y,qa y.expr,hX,hew];exact hRR _ _ ⟨by simp[h0],by simp[h1],by simp,by simp[h7],by simp[h8],by simp,⟨_,rfl⟩,hnd3⟩
     . clear h0 h1 h6 h7;rintro ev O ⟨h0,h1,h6,h7,h8,h9,⟨H2,rfl⟩,hnd2⟩;simp[-getElem?_pos,h7,h8,h9,hdw];exact hR _ _ ⟨by simp[h0],by simp[h1],by rw[hsn];simp[h6],by simp,⟨_,by rw[hsn]⟩,by rw[hsn];exact hnd2⟩
   . have hX:QX l y=[]:=(by unfold QX;rw[if_neg hk]);rw[hX,qrl]at hsn;simp[-getElem?_pos,h0,h1,h7,hlt,hyx,ql y,qa y.expr,hk,hdw];exact hR _ _ ⟨by simp[h0],by simp[h1],by rw[hsn];simp[h6],by simp,⟨_,by rw[hsn]⟩,by rw[hsn];exact hnd⟩
 . rintro ev O ⟨h0,h1,h6,h7,⟨H,rfl⟩,hnd⟩;have hdi:=hnd.dist (l:=l);have hln:=Yf l x;have hin:∀ d∈zH l x,0<=d.var/\d.var<l.length:=fun d=>qk7
   rw[hFF]at hdi;generalize zH l x=D at *;have hlen:=len33 D;simp[-getElem?_pos,h1,h7];refine qv.listR D (fun g ev O=>ev 0=sV l/\ev 6=ye 2 qG 0 D/\ev 11=I_ g.length/\(∃ H,O=⟨H,zG [] D⟩)/\∀ z∈g,(!zW l z.var)=false) ?_ ?_ ?_
   . exact⟨by simp[h0],by simp[h6],by simp,⟨_,rfl⟩,by simp⟩
   . clear h0 h1 h6 h7;rintro g z rest3 ev O R3 hR3 hg hxz hltz ⟨h0,h6,h11,⟨H3,rfl⟩,hz⟩;have hgw:=wq (n:=g.length) (by omega);have hne:D≠[]:=(by rintro rfl;simp at hltz);have h6':=h6;rw[qaV hne]at h6';have hzm:=qqW hxz;obtain⟨i0,i1⟩:=hin z hzm;obtain⟨n,hn⟩:=qrj i0;have hnl:n<l.length:=(by omega);obtain⟨v,hvn⟩:∃ v,l[n]?=some v:=⟨l[n],qq6 hnl⟩;have hrn:zW l z.var=(v.mode != 0):=(by rw[hn];simp[zW,hvn]);by_cases hm:v.mode=0
     . have hr0:zW l z.var=false:=(by rw[hrn,hm];rfl);rw[if_pos (qq2.2 ⟨z,hzm,by rw[hr0];rfl⟩)]at hdi;subst hdi;rw[if_pos (by decide)]at hO;subst hO;simp[-getElem?_pos,h0,h6',h11,hltz,hxz,hn,hvn,hm]
     . have hr1:zW l z.var=true:=(by rw[hrn];simp[hm]);simp[-getElem?_pos,h0,h6',h11,hltz,hxz,hn,hvn,hm,hgw];exact hR3 _ _ ⟨by simp[h0],by simp[h6],by simp,⟨_,rfl⟩,zu hz (by rw[hr1];rfl)⟩
   . clear h0 h1 h6 h7;rintro ev O ⟨h0,h6,h11,⟨H3,rfl⟩,hz⟩;rw[if_neg (by rw[qsa,qrx];exact fun z hzm=>by simp[hz z hzm])]at hdi;subst hdi;rw[if_neg (by simp)]at hO;subst hO;simp[-getElem?_pos,-kw,h6,h11,hlen]
section
attribute [local simp] acells fin zh ze pl1 plain pl2 AV.atom
theorem qbl {c:Cls}(h:ClsOk c){a:Str}{i:Nat}(hi:i<8):vZ (qf c) (qH a i)=true↔∃ f∈c.fields,f.name=a/\(i:Int)<f.size:=by
 rw[qbk];constructor
 . rintro⟨v,hv,hn⟩;obtain⟨f,hf,⟨h0,rfl⟩|⟨j,hj,rfl⟩⟩:=(wa h).1 hv
   . have hk:=(zk (h.fields f hf)).name;simp only at hn;rw[hn,Jw]at hk;cases hk
   . have hk:=zk (h.fields f hf);obtain⟨e1,e2⟩:=QV (by have:=hk.s8;omega) hi hn;exact⟨f,hf,e1,by omega⟩
 . rintro⟨f,hf,rfl,hi⟩;exact⟨_,(wa h).2 ⟨f,hf,.inr ⟨i,hi,rfl⟩⟩,rfl⟩
theorem qnL {c:Cls}(h:ClsOk c)(s:Str){k:Nat}(hk:k<8):vZ (qf c) (qH s k)=true↔k<qA (qf c) s:=by
 constructor
 . intro h1;obtain⟨f,hf,rfl,hlt⟩:=(qbl h hk).1 h1;have hs8:=(zk (h.fields f hf)).s8;have hs0:=(zk (h.fields f hf)).s0;have:qA (qf c) f.name=f.size.toNat:=qaI (by omega) (fun j hj=>(qbl h (by omega)).2 ⟨f,hf,rfl,by omega⟩) fun h8=>by
    rw[qrG];intro e;obtain⟨g,hg,hn,hlt⟩:=(qbl h (by omega)).1 e;have h1:=vR h hg;have h2:=vR h hf;rw[hn,h2]at h1;have:=Option.some.inj h1;omega
   omega
 . exact fun h1=>KA h1
theorem qqk {l:List Var}{s:Str}:0<=ka l s↔vZ l s=true:=vw (qso 0)
theorem qgO {c:Cls}(h:ClsOk c)(s:Str):∀ n:Nat,n<=8->qd7 (qf c) s n=(List.range (min n (qA (qf c) s))).map fun k=>ka (qf c) (qH s k)
 | 0,_=>by simp[qd7]
 | n+1,hn=>by
  rw[qdy,qgO h s n (by omega)];have hi:=qnL h s (k:=n) (by omega);rw[<- qqk]at hi;by_cases hlt:n<qA (qf c) s
  . rw[if_pos (hi.2 hlt),Nat.min_eq_left (by omega),Nat.min_eq_left (by omega),qrX,qrf];rfl
  . rw[if_neg (fun e=>hlt (hi.1 e)),qtP (by omega),qtP (by omega),qrl]
theorem VZ {c:Cls}(h:ClsOk c)(s:Str):Vb (qf c) s=wj (qf c) s:=by
 unfold Vb wj;split
 . rfl
 . rw[qgO h s 8 (qrn _),qtP (jy _ _)]
theorem Wa (V:List Var)(S:List Signal)(s:Str):Vb (q6 V S) s=Vb V s:=by
 have h:∀ t,ka (q6 V S) t=ka V t:=fun t=>qbj (Qj S V) t
 unfold Vb qd7;simp only[h]
theorem KQ (V:List Var)(S:List Signal)(names:List Str):Y2 (q6 V S) names=Y2 V names:=by
 unfold Y2;have h:zW (q6 V S)=zW V:=funext fun i=>ZK V S i
 have h2:Vb (q6 V S)=Vb V:=funext fun s=>Wa V S s
 rw[h,h2]
theorem KN (V:List Var)(S:List Signal)(x:List It):YM (q6 V S) x=YM V x:=by
 unfold YM;congr 1;funext y;unfold qjE;rw[KQ,KQ]
theorem qag {c:Cls}(h:ClsOk c)(S:List Signal)(x:List It):zH (q6 (qf c) S) x=x.flatMap (z5 (qf c)):=by
 unfold zH;congr 1;funext y;unfold QX z5;rw[Wa,VZ h]
theorem qcv {c:Cls}(h:ClsOk c)(x:List It):∀ e,e∈YN (qf c) x↔e∈x.flatMap (zE (qf c)):=fun e=>by
 obtain⟨i,k⟩:=e;unfold YN;rw[wL];unfold YM;rw[qrp,qrp];refine exists_congr fun y=>and_congr_right fun _=>?_
 unfold qjE zE;split
 . unfold Qt;simp only[qrp,qq3,Prod.mk.injEq];have hr:∀ (names:List Str) (j:Int),j∈Y2 (qf c) names↔j∈zX (qf c) names/\zW (qf c) j=true:=fun names j=>by
    unfold Y2 zX;rw[qrz];have:names.flatMap (Vb (qf c))=names.flatMap (wj (qf c)):=by
     congr 1;funext s;exact VZ h s
    rw[this]
   have he:∀ j,(i,k)∈yK (qf c) (zX (qf c) y.before) j↔i=j/\k∈zX (qf c) y.before/\zW (qf c) j=true/\zW (qf c) k=true:=fun j=>by
    unfold yK;simp only[qq3,qrz,Prod.mk.injEq,qq1];constructor
    . rintro⟨q,⟨h1,h2,h3⟩,rfl,rfl⟩;exact⟨rfl,h1,h2,h3⟩
    . rintro⟨rfl,h1,h2,h3⟩;exact⟨k,⟨h1,h2,h3⟩,rfl,rfl⟩
   simp only[he];constructor
   . rintro⟨q,hq,p,hp,rfl,rfl⟩;have h1:=(hr _ _).1 hq;have h2:=(hr _ _).1 hp;exact⟨p,h2.1,rfl,h1.1,h2.2,h1.2⟩
   . rintro⟨p,hp,rfl,h1,h2,h3⟩;exact⟨k,(hr _ _).2 ⟨h1,h3⟩,i,(hr _ _).2 ⟨hp,h2⟩,rfl,rfl⟩
 . simp
theorem Ky (V:List Var)(S:List Signal):(q6 V S).length=V.length:=vQ S V
theorem qjZ {c:Cls}(h:ClsOk c)(S:List Signal)(x:List It):qhM (q6 (qf c) S) x=if acyc (x.flatMap (zE (qf c))) (qf c).length=true then 0 else 10:=by
 unfold qhM;have h1:YN (q6 (qf c) S) x=YN (qf c) x:=by unfold YN;rw[KN]
 rw[h1,Ky,W8 (qcv h x)]
theorem qe2 {c:Cls}(h:ClsOk c)(S:List Signal)(x:List It):zB (q6 (qf c) S) (YN (q6 (qf c) S) x)=zB (qf c) (x.flatMap (zE (qf c))):=by
 have h1:YN (q6 (qf c) S) x=YN (qf c) x:=by unfold YN;rw[KN]
 rw[ZB,h1,YB (qcv h x)]
end
def qiy (l:List Var)(x:List It)(c:Cls):Problem:=⟨l,kW c 1 x,kW c 2 x,zH l x,zB l (YN l x)⟩
noncomputable def qlu (l:List Var)(x:List It)(c:Cls):Int :=
 if zl l (zH l x)≠0 then zl l (zH l x)
 else if qhM l x≠0 then qhM l x
 else if Qs c 1 x≠0 then Qs c 1 x
 else if Qs c 2 x≠0 then Qs c 2 x
 else zT (qiy l x c)
noncomputable def asmP (l:List Var)(x:List It)(c:Cls):Problem:=if qlu l x c≠0 then yC else qiy l x c
theorem qfz (l:List Var)(x:List It)(c:Cls)(hc:ClsOk c)(hl:l.length<=1000)(hx:x.length<=100000)(hs:∀ y∈x,y.kind=3->y.name.length<=1000)
 (h8:∀ y∈x,y.kind=6->y.before.length<=8/\y.after.length<=8/\∀ s∈y.before++y.after,s.length<=1000) (hi:∀ y∈x,y.kind=1\/y.kind=2->Wen y.expr/\(pre y.expr).length<=100000/\hgt y.expr<=1000)
 (hv:zl l (zH l x)=0->qhM l x=0->Qs c 1 x=0->Qs c 2 x=0->PZ 23 [.agg (yM (qiy l x c))] (I_ (zT (qiy l x c)))) :
 PZ 76 [sV l,sI x,.agg (qn c)] (.tup [.agg (yM (asmP l x c)),I_ (qlu l x c)]):=by
 refine Pure.k qg Tryz.func76 rfl (by kernel_rfl) ?_;have hw:=qlT l x (by omega) hx hs;have ho:=qmU l x hl hx h8;have h1:=VC x 1 c hc (by omega) fun y hy hk=>hi y hy (.inl hk)
 have h2:=VC x 2 c hc (by omega) fun y hy hk=>hi y hy (.inr hk)
 have hD:qbW l x=if zl l (zH l x)≠0 then [] else zH l x:=rfl
 have hG:ordG l x=if acyc (YN l x) l.length=true then zB l (YN l x) else []:=rfl
 have hGF:qhM l x=if acyc (YN l x) l.length=true then 0 else 10:=rfl
 have hE:qlu l x c=if zl l (zH l x)≠0 then zl l (zH l x) else if qhM l x≠0 then qhM l x else if Qs c 1 x≠0 then Qs c 1 x else if Qs c 2 x≠0 then Qs c 2 x else zT (qiy l x c):=rfl
 have hP:asmP l x c=if qlu l x c≠0 then yC else qiy l x c:=rfl
 have hQ:qiy l x c=⟨l,kW c 1 x,kW c 2 x,zH l x,zB l (YN l x)⟩:=rfl;generalize asmP l x c=P at *;generalize qlu l x c=E at *;generalize zl l (zH l x)=de at *;generalize qbW l x=wd at *;have hG0:qhM l x=0->ordG l x=zB l (YN l x):=fun h=>by
  rw[hGF]at h;split at h
  . rename_i ha;rw[hG,if_pos ha]
  . cases h
 clear hG hGF;generalize qhM l x=oe at *;generalize ordG l x=og at *;generalize Qs c 1 x=e1 at *;generalize Qs c 2 x=e2 at *;generalize qiy l x c=Q at *;generalize zT Q=ve at *;generalize zH l x=D at *;generalize zB l (YN l x)=G at *;generalize kW c 1 x=X1 at *;generalize kW c 2 x=X2 at *;have hz:∀ n:Int,E=n->n≠0->P=yC:=fun n q1 q2=>by rw[hP,if_pos (by rw[q1];exact q2)]
 simp only[qn]at h1 h2;simp;refine qd.call hw (by simp) ?_;by_cases d0:de=0
 . subst d0;rw[if_neg (by simp)]at hD hE;subst hD;simp;refine qd.call ho (by simp) ?_;by_cases o0:oe=0
   . subst o0;rw[if_neg (by simp)]at hE;rw[hG0 rfl];simp;refine qd.call h1 (by simp) ?_;by_cases k1:e1=0
     . subst k1;rw[if_neg (by simp)]at hE;rw[if_neg (by simp)];simp;refine qd.call h2 (by simp) ?_;by_cases k2:e2=0
       . subst k2;rw[if_neg (by simp)]at hE;have hv:=hv rfl rfl rfl rfl;subst hQ;subst hE;rw[if_neg (by simp)];simp only[yM]at hv;simp;refine qd.call hv (by simp) ?_;by_cases v0:E=0
         . subst v0;rw[if_neg (by simp)]at hP;subst hP;simp
         . have:=hz E rfl v0;subst this;simp[v0,yC]
       . rw[if_pos k2]at hE;have:=hz E rfl (by rw[hE];exact k2);subst this;subst hE;rw[if_pos k2];simp[k2,yC]
     . rw[if_pos k1]at hE;have:=hz E rfl (by rw[hE];exact k1);subst this;subst hE;rw[if_pos k1];simp[k1,yC]
   . rw[if_pos o0]at hE;have:=hz E rfl (by rw[hE];exact o0);subst this;subst hE;simp[o0,yC]
 . rw[if_pos d0]at hE;have:=hz E rfl (by rw[hE];exact d0);subst this;subst hE;simp[d0,yC]
structure AskR (q:Ask):Prop where
 ok:AskOk q
 str:∀ c∈q.src,StrC c
 nest:∀ l∈zr (qy q.src q.name) q.off q.more,∀ x∈l,jG x<=90000
theorem Ji {A:List Blk}{b:Nat}{x:Blk}(h:A[b]?=some x)(y:Blk):(A.set b y)[b]?=some y:=qq4 (qqV.1 h).1
theorem qbI {c:Cls}(hc:ClsOk c)(S:List Signal)(X:List It) :
 qiy (q6 (qf c) S) X c=⟨q6 (qf c) S,(qx 1 X).map fun y=>scE (qf c) y.expr,(qx 2 X).map fun y=>scE (qf c) y.expr,X.flatMap (z5 (qf c)),zB (qf c) (X.flatMap (zE (qf c)))⟩:=by
 unfold qiy;rw[qag hc,qe2 hc];rfl
theorem qqO {c:Cls}(hc:ClsOk c)(S:List Signal)(X:List It) :
 qlu (q6 (qf c) S) X c=if zl (qf c) (X.flatMap (z5 (qf c)))≠0 then zl (qf c) (X.flatMap (z5 (qf c)))
  else if acyc (X.flatMap (zE (qf c))) (qf c).length=false then 10
  else if qh (fun y=>qE (qc c) (qf c) y.expr) (qx 1 X)≠0 then qh (fun y=>qE (qc c) (qf c) y.expr) (qx 1 X)
  else if qh (fun y=>qE (qc c) (qf c) y.expr) (qx 2 X)≠0 then qh (fun y=>qE (qc c) (qf c) y.expr) (qx 2 X)
  else zT ⟨q6 (qf c) S,(qx 1 X).map fun y=>scE (qf c) y.expr,(qx 2 X).map fun y=>scE (qf c) y.expr,X.flatMap (z5 (qf c)),zB (qf c) (X.flatMap (zE (qf c)))⟩:=by
 unfold qlu;rw[qbI hc,qag hc,QY,qjZ hc];have h1:Qs c 1 X=qh (fun y=>qE (qc c) (qf c) y.expr) (qx 1 X):=rfl;have h2:Qs c 2 X=qh (fun y=>qE (qc c) (qf c) y.expr) (qx 2 X):=rfl;rw[h1,h2];cases acyc (X.flatMap (zE (qf c))) (qf c).length<;>simp
theorem V8 {m:Nat}:∀ l:List (List Int),(∀ g∈l,g.length<=m)->l.flatten.length<=l.length*m
 | [],_=>by simp
 | g::r,h=>by
  have h1:=V8 r fun x hx=>h x (by simp[hx])
  have h2:=h g (by simp);rw[qrA,qqY,qq5,qse];omega
theorem qe4 {V:List Var}(hV:V.length<=500)(E:List (Int×Int)):(zB V E).flatten.length<1000000:=by
 have htl:JT E V.length<=V.length:=QC fun e _=>wV _ _
 have hgr:zB V E=qkC V E (JT E V.length+1):=rfl;have h1:=qgD V E (JT E V.length+1);have h2:=V8 (m:=500) (zB V E) fun g hg=>by
  rw[hgr]at hg;obtain⟨k,_,rfl⟩:=qq3.1 (qrz.1 hg).1;have:=JC V E V.length k;omega
 have h3:(zB V E).length<=501:=by rw[hgr];omega
 have h4:=qrJ 500 h3;omega
theorem qi0 {c:Cls}(hc:ClsOk c):(qf c).length<=500:=by
 rw[qaz hc];have h:=yW (f:=yG) (n:=9) (l:=c.fields) fun f hf=>by
  have:=(zk (hc.fields f hf)).s8;unfold yG;rw[qqY,qrv,qtf];split<;>simp<;>omega
 have:=hc.nf;omega
theorem qn5 {c:Cls}(hc:ClsOk c)(S:List Signal){ls:List (List It)}(hf:∀ l∈ls,FewN l)(h0:qh (qU (qc c)) ls=0)(hn:ls.length<=25) :
 PZ 76 [.sl 4 ((q6 (qf c) S).map qo) .none,.sl 12 ((qi (qc c) ls).map qK) .none,.agg (qn c)] (.tup [.agg (yM (asmP (q6 (qf c) S) (qi (qc c) ls) c)),I_ (qlu (q6 (qf c) S) (qi (qc c) ls) c)]):=by
 obtain⟨hx1,hx2⟩:=ZT hf h0;have hXl:(qi (qc c) ls).length<=10000:=by omega
 have hbad:∀ y∈qi (qc c) ls,y.kind=1\/y.kind=2->qM y.expr=0:=fun y hy hk=>by
  obtain⟨l,hlm,hyl⟩:=qrp.1 (show y∈ls.flatMap (qQ (qc c) 6 none) from hy);have hb:=(yX (qr.1 h0 l hlm)).2.2 y hyl;unfold qgU YU at hb;rcases hk with hk|hk<;>rw[hk]at hb<;>simpa using hb
 generalize qi (qc c) ls=X at *;have hVl:=Z9 hc;refine qfz _ X c hc (by rw[Ky];exact hVl) (by omega) (fun y hy hk=>?_) (fun y hy hk=>?_) (fun y hy hk=>?_) fun d0 o0 k1 k2=>?_
 . have:=Q3 ((hx1 y hy).2.dist hk);omega
 . obtain⟨_,hN⟩:=hx1 y hy;exact⟨hN.before,hN.after,fun s hs=>by have:=Q3 (hN.solve hk s hs);omega⟩
 . obtain⟨ho,_⟩:=hx1 y hy;exact⟨ho.wen,by have:=ho.size;omega,by have:=Vw (hbad y hy hk);omega⟩
 . have hvq:=J2 hc hVl X hx1 hXl S k1 k2;rw[qbI hc];refine ql5 _ hvq ?_;exact qe4 (qi0 hc) (X.flatMap (zE (qf c)))
theorem qjO (q:Ask)(h:AskR q):PZ 20 [.sl 4 (q.src.map qn) .none,.str q.name,.sl 1 (q.off.map qs) .none,.sl 12 (q.more.map qK) .none,.sl 2 (q.state.map qD) .none] (.tup [.agg (yM (jP q)),I_ (jm q)]):=by
 refine Pure.k qg Tryz.func20 rfl (by kernel_rfl) ?_;have hfl:=qhE q.src h.ok.src h.ok.low h.str q.name;have hE:jm q=if jR q.src q.name≠0 then jR q.src q.name else if q.off.any (fun s=>!(qy q.src q.name).blocks.any fun b=>b.name==s)=true then 7 else WW (qy q.src q.name) q.off q.more q.state:=rfl
 have hS:jP q=if jm q≠0 then yC else Qr (qy q.src q.name) q.off q.more q.state:=rfl
 have hok:jR q.src q.name=0->ClsOk (qy q.src q.name):=fun h=>qbr h
 have hfew:=h.ok.few;have hoff:=h.ok.off;have hst:=h.ok.state;have hnest:=h.nest;have hstr:jR q.src q.name=0->(Fits (qy q.src q.name).name/\Fits (qy q.src q.name).parent/\Fits (qy q.src q.name).fields/\(∀ f∈(qy q.src q.name).fields,Fits f.name)/\Fits (qy q.src q.name).blocks/\∀ b∈(qy q.src q.name).blocks,Fits b.name):=fun h0=>by
  have hc:=qbr h0;have nl:∀ s,qO s=true->Fits s:=fun s hs=>by
   simp only[qO,qq1,decide_eq_true_eq]at hs;unfold Fits;have:=hs.1.2;omega
  refine⟨nl _ hc.name,?_,by have:=hc.nf;unfold Fits;omega,fun f hf=>nl _ (zk (hc.fields f hf)).name,by have:=hc.nb;unfold Fits;omega,fun b hb=>nl _ (hc.blocks b hb)⟩;rcases hc.parent with hp|hp
  . rw[hp];simp[Fits]
  . exact nl _ hp
 clear h;generalize jP q=PS at *;generalize hPE:jm q=pe at *;generalize qy q.src q.name=c at *;generalize jR q.src q.name=le at *;obtain⟨src,name,off,more,state⟩:=q;simp only at *;have hzp:∀ n:Int,pe=n->n≠0->PS=yC:=fun n e1 e2=>by rw[hS,if_pos (by rw[e1];exact e2)]
 simp only[qn]at hfl;by_cases hl0:le=0
 . subst hl0;have hc:=hok rfl;obtain⟨s1,s2,s3,s4,s5,s6⟩:=hstr rfl;rw[if_neg (by simp)]at hE;have hit:=qqf c hc off hoff more fun l hl=>⟨(hfew l hl).few,hnest l hl⟩
   have hva:=qpw c s1 s2 s3 s4 s5 s6;have hstw:=qmb (qf c) (Z9 hc) state hst (qb4 hc);have hnb:(zr c off more).length<=25:=by
    have:=hc.nb;have h1:=qrr (onB off) c.blocks;simp only[zr,qqY,qrv,qq8];omega
   have haw:=qn5 hc state hfew;have hBE:WW c off more state=if qh (qU (qc c)) (zr c off more)≠0 then qh (qU (qc c)) (zr c off more) else if jO (qf c) state≠0 then jO (qf c) state else qlu (q6 (qf c) state) (qi (qc c) (zr c off more)) c:=by
    rw[qqO hc];rfl
   have hBP:Qr c off more state=qiy (q6 (qf c) state) (qi (qc c) (zr c off more)) c:=by
    rw[qbI hc];rfl
   have hIR:qcS c off more=if qh (qU (qc c)) (zr c off more)≠0 then [] else qi (qc c) (zr c off more):=rfl
   have hSR:stR (qf c) state=if jO (qf c) state≠0 then [] else q6 (qf c) state:=rfl
   have hAP:asmP (q6 (qf c) state) (qi (qc c) (zr c off more)) c=if qlu (q6 (qf c) state) (qi (qc c) (zr c off more)) c≠0 then yC else qiy (q6 (qf c) state) (qi (qc c) (zr c off more)) c:=rfl
   rw[hBE]at hE;rw[hBP]at hS;have hcn:=hc.nb;have haw:=fun h0=>haw h0 hnb
   clear hBE hBP hok hstr hfew hnest hnb hc s1 s2 s3 s4 s5 s6;generalize qcS c off more=IR at *;generalize stR (qf c) state=SR at *;generalize qh (qU (qc c)) (zr c off more)=fe at *;generalize qi (qc c) (zr c off more)=X at *;generalize jO (qf c) state=se at *;generalize q6 (qf c) state=SV at *;generalize qf c=V at *;generalize qiy SV X c=AQ at *;generalize asmP SV X c=AP at *;generalize qlu SV X c=ae at *;simp only[qn]at hit hva haw;simp only[yM]at haw;simp[-getElem?_pos];refine qd.call hfl (by simp) ?_;simp[-getElem?_pos];generalize hbn:(fun s:Str=>c.blocks.any fun b=>b.name==s)=bn at *;refine qv.listR off (fun d ev O=>ev 2=.sl 1 (off.map qs) .none/\ev 3=.sl 12 (more.map qK) .none/\ev 4=.sl 2 (state.map qD) .none/\ev 10=.ptr 0 0/\ev 12=.ptr 1 0/\ev 14=I_ d.length/\(∃ H,O=⟨H,[]⟩/\H[0]?=some (.cells [.sl 0 [] .nil,.sl 0 [] .nil,.sl 0 [] .nil,.sl 0 [] .nil,.sl 0 [] .nil])/\H[1]?=some (.cells [.str c.name,.str c.parent,.sl 5 (c.fields.map q8) .none,.sl 2 (c.blocks.map qR) .none]))/\∀ s∈d,(!c.blocks.any fun b=>b.name==s)=false) ?_ ?_ ?_
   . exact⟨by simp,by simp,by simp,by simp,by simp,by simp,⟨_,rfl,by simp,by simp⟩,by simp⟩
   . rintro d s rest ev O R hR hd hx hlt ⟨h2,h3,h4,h10,h12,h14,⟨H,rfl,b0,b1⟩,hz⟩;have hdw:IntKind.i64.wrap ((d.length:Int)+1)=(d.length+1:Nat):=(by rw[wr (by unfold Fits at hoff;omega) (by unfold Fits at hoff;omega)];omega);simp[-getElem?_pos,h2,h14,hlt];refine qv.listR c.blocks (fun e ev O=>ev 2=.sl 1 (off.map qs) .none/\ev 3=.sl 12 (more.map qK) .none/\ev 4=.sl 2 (state.map qD) .none/\ev 10=.ptr 0 0/\ev 12=.ptr 1 0/\ev 14=I_ d.length/\ev 15=.bool (e.any fun b=>b.name==s)/\ev 16=I_ e.length/\(∃ H,O=⟨H,[]⟩/\H[0]?=some (.cells [.sl 0 [] .nil,.sl 0 [] .nil,.sl 0 [] .nil,.sl 0 [] .nil,.sl 0 [] .nil])/\H[1]?=some (.cells [.str c.name,.str c.parent,.sl 5 (c.fields.map q8) .none,.sl 2 (c.blocks.map qR) .none]))) ?_ ?_ ?_
     . exact⟨h2,h3,h4,h10,h12,h14,by simp,by simp,H,rfl,b0,b1⟩
     . clear h2 h3 h4 h10 h12 h14 b0 b1;rintro e b rest2 ev O R2 hR2 he hxb hltb ⟨h2,h3,h4,h10,h12,h14,h15,h16,H2,rfl,b0,b1⟩;have hew:IntKind.i64.wrap ((e.length:Int)+1)=(e.length+1:Nat):=(by rw[wr (by omega) (by omega)];omega);have hsn:((e++[b]).any fun b=>b.name==s)=((e.any fun b=>b.name==s)||(b.name==s)):=(by simp);have hRR:∀ ev O,(ev 2=.sl 1 (off.map qs) .none/\ev 3=.sl 12 (more.map qK) .none/\ev 4=.sl 2 (state.map qD) .none/\ev 10=.ptr 0 0/\ev 12=.ptr 1 0/\ev 14=I_ d.length/\ev 15=.bool ((e.any fun b=>b.name==s)||(b.name==s))/\ev 16=I_ (e.length+1:Nat)/\(∃ H,O=⟨H,[]⟩/\H[0]?=some (.cells [.sl 0 [] .nil,.sl 0 [] .nil,.sl 0 [] .nil,.sl 0 [] .nil,.sl 0 [] .nil])/\H[1]?=some (.cells [.str c.name,.str c.parent,.sl 5 (c.fields.map q8) .none,.sl 2 (c.blocks.map qR) .none])))->R2 ev O:=fun ev O hh=>by
        obtain⟨g2,g3,g4,g10,g12,g14,g15,g16,gg⟩:=hh;exact hR2 _ _ ⟨g2,g3,g4,g10,g12,g14,by rw[g15,hsn],by rw[g16];simp,gg⟩
       cases ha:e.any fun b=>b.name==s with
       | true=>
        rw[ha]at h15 hRR;simp[-getElem?_pos,h12,h15,h16,b1,hltb,hew];exact hRR _ _ ⟨h2,h3,h4,h10,h12,h14,by simp,by simp,H2,rfl,b0,b1⟩
       | false=>
        rw[ha]at h15 hRR;simp[-getElem?_pos,h2,h12,h14,h15,h16,b1,hltb,hxb,hx,hew];exact hRR _ _ ⟨h2,h3,h4,h10,h12,h14,by simp,by simp,H2,rfl,b0,b1⟩
     . clear h2 h3 h4 h10 h12 h14 b0 b1;rintro ev O ⟨h2,h3,h4,h10,h12,h14,h15,h16,H2,rfl,b0,b1⟩
       cases ha:c.blocks.any fun b=>b.name==s with
       | true=>
        rw[ha]at h15;simp[-getElem?_pos,h12,h14,h15,h16,b1,hdw];exact hR _ _ ⟨h2,h3,h4,h10,h12,by simp,⟨H2,rfl,b0,b1⟩,zu hz (by rw[ha];rfl)⟩
       | false=>
        rw[ha]at h15;have hany:off.any (fun s=>!c.blocks.any fun b=>b.name==s)=true:=qq2.2 ⟨s,qqW hx,by rw[ha];rfl⟩;rw[if_pos hany]at hE;have:=hzp 7 hE (by decide);subst this;subst hE;simp[-getElem?_pos,h10,h12,h15,h16,b0,b1,yC,Ji b0]
   . rintro ev O ⟨h2,h3,h4,h10,h12,h14,⟨H,rfl,b0,b1⟩,hz⟩;have hany:¬ off.any (fun s=>!c.blocks.any fun b=>b.name==s)=true:=by
      rw[qsa,qrx];exact fun s hs=>by rw[hz s hs];simp
     rw[if_neg hany]at hE;simp[-getElem?_pos,h2,h3,h12,h14,b1];refine qd.call hit (by simp) ?_;by_cases f0:fe=0
     . subst f0;rw[if_neg (by simp)]at hE hIR;subst hIR;have haw:=haw rfl;simp[-getElem?_pos,h12,b1];refine qd.call hva (by simp) ?_;simp[-getElem?_pos,h4];refine qd.call hstw (by simp) ?_;by_cases t0:se=0
       . subst t0;rw[if_neg (by simp)]at hE hSR;subst hSR;simp[-getElem?_pos,h12,b1];refine qd.call haw (by simp) ?_;have hPA:PS=AP:=(by rw[hS,hAP,hE]);subst hPA;subst hE;simp[-getElem?_pos,h10,b0,Ji b0]
       . rw[if_pos t0]at hE;have:=hzp se hE t0;subst this;subst hE;simp[-getElem?_pos,h10,h12,b0,b1,t0,yC,Ji b0]
     . rw[if_pos f0]at hE;have:=hzp fe hE f0;subst this;subst hE;simp[-getElem?_pos,h10,h12,b0,b1,f0,yC,Ji b0]
 . rw[if_pos hl0]at hE;have:=hzp le hE hl0;subst this;subst hE;simp[-getElem?_pos];refine qd.call hfl (by simp) ?_;simp[-getElem?_pos,hl0,yC]
section
attribute [local simp] acells fin zh ze pl1 plain pl2 AV.atom
attribute [local simp high] zO
attribute [local simp] z9 z8 zP jq zS zK zz jd zY jC
end
section
attribute [local simp] acells fin zh ze pl1 plain pl2 AV.atom
attribute [local simp high] zO
attribute [local simp] z9 z8 zP jq zS zK zz jd zY jC
end
section
attribute [local simp] acells fin zh ze pl1 plain pl2 AV.atom
attribute [local simp high] zO
attribute [local simp] z9 z8 zP jq zS zK zz jd zY jC
end
end Go.Proofs.YtpgcmnabljandaaGreatDoor
end
