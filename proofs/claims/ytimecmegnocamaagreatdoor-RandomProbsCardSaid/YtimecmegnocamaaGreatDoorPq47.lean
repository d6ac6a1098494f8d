import Derived.Test.YtimecmegnocamaaGreatDoorPq46
set_option maxRecDepth 100000
set_option maxHeartbeats 16000000
set_option linter.all false
set_option linter.defProp false
namespace Go.Proofs.YtimecmegnocamaaGreatDoor
open Go Go.Abs Proofs.Tryz
def qsD(p)(hl:p.vars.length<=1000):Pure prog GG 90 [.agg (qA p)] (.sl 1 ((p.vars.map Var.value).map qh) .none):=by
 refine qFm qg func90 rfl (by kernel_rfl) ?_;obtain⟨S,hS⟩:∃S,S=p.vars.map Var.value:=⟨_,rfl⟩;rw[<- hS];simp[-getElem?_pos];refine qFt p.vars (fun d env U=>env 1=.ptr 0 0/\env 3=ww 1 qh 0 (d.map Var.value)/\env 4=.int .i64 d.length/\U=⟨[.cells (qA p)],jY [] (d.map Var.value)⟩) ?_ ?_ ?_
 . simp
 . rintro d v s env U hd hv hlt ⟨e1,e3,e4,rfl⟩;have hw:=wr (n:=(d.length:Int)+1) (by omega) (by omega);have hap:=qqn [.cells (qA p)] (d.map Var.value) v.value (by simp;omega);simp only[qA]at hap;simp[-getElem?_pos,e1,e3,e4,hlt,hv,qM,qi,qp,hap,hw]
 rintro env U ⟨e1,e3,e4,rfl⟩;rw[<- hS]at e3⊢;simp[-getElem?_pos,-fin,-yb,-yP,e1,e3,e4]
noncomputable def qiG(p:Problem)(l:List Ex)(a:List Int):Bool:=l.all fun e=>decide (Qs (yo p.vars a) e=0)&&!decide (jz (yo p.vars a) e=0)
def qca(p l a)(hl:p.vars.length<=1000)(ha:Fits a)(hf:Fits l)(hx:∀e∈l,Wen e/\hgt e<=1000/\(pre e).length<=100000):
 Pure prog GG 91 [.agg (qA p),.sl 4 (l.map qt) .none,.sl 1 (a.map qh) .none] (.bool (qiG p l a)):=by
 refine qFm qg func91 rfl (by kernel_rfl) ?_;obtain⟨r,hr⟩:∃r,r=qiG p l a:=⟨_,rfl⟩;rw[<- hr];have hen:=qpA p a hl ha;simp only[qA]at hen;have hfe:Fits (yo p.vars a):=by
  have:=qa3 (l:=p.vars) (a:=a);unfold Fits;omega
 simp;refine qFp (G:=zl GG) hen (by simp) ?_;simp;refine qFt l (fun d env U=>env 1=.sl 4 (l.map qt) .none/\env 7=.sl 2 ((yo p.vars a).map qK) .none/\env 8=.int .i64 d.length/\U=⟨[.cells (qA p)],[]⟩/\qiG p d a=true) ?_ ?_ ?_
 . simp[qiG]
 . rintro d e s env U hd hv hlt ⟨e1,e7,e8,rfl,hs⟩;have hw:=wr (n:=(d.length:Int)+1) (by omega) (by omega);obtain⟨t1,t2,t3⟩:=hx e (qAV hv);have hev:=qjL (yo p.vars a) hfe e t1 t2 t3;rw[qc e]at hev;have bad:(decide (Qs (yo p.vars a) e=0)&&!decide (jz (yo p.vars a) e=0))=false->r=false:=fun h=>by
    rw[hr,qCe];intro h2;unfold qiG at h2;have:=qA3.1 h2 e (qAV hv);rw[h]at this;cases this
   simp[-getElem?_pos,e1,e7,e8,hlt,hv,qc e];refine qFp (G:=zl GG) hev (by simp) ?_;by_cases h1:Qs (yo p.vars a) e=0
   . by_cases h2:jz (yo p.vars a) e=0
     . have hb:=bad (by simp[h2]);simp[h1,h2,hb]
     . simp[e1,e7,e8,h1,h2,hw];unfold qiG at hs⊢;rw[qCx,hs];simp[h1,h2]
   have hb:=bad (by simp[h1]);simp[h1,hb]
 rintro env U ⟨e1,e7,e8,rfl,hs⟩;have:r=true:=by rw[hr,hs]
 simp[e1,e8,this]
def WY(vs:List Var)(a:List Int):List Int×Bool:=if(qI vs a).2=true then([],false) else((qI vs a).1,true)
def qz9(p:Problem)(a:List Int)(m:Nat)(ev:Env)(U:St):Prop :=
 ev 2=.ptr 0 0/\ev 6=.ms 1 0 a.length 1/\ev 7=.int .i64 ((m:Int)-1)/\m<=a.length/\(qI (p.vars.drop m) (a.drop m)).2=true/\∃T,U=⟨[.cells (qA p),.cells (zb (a.take m++(qI (p.vars.drop m) (a.drop m)).1))],T⟩
def qm7(p a)(hl:a.length=p.vars.length)(hl2:a.length<=1000)(hok:okA p.vars a)(hw:∀v∈p.vars,0<=v.width/\v.width<=28):
 Pure prog GG 92 [.agg (qA p),.sl 1 (a.map qh) .none] (.tup [.sl 1 ((WY p.vars a).1.map qh) .none,.bool (WY p.vars a).2]):=by
 refine qFl oM true qg func92 rfl (by kernel_rfl) ?_;by_cases ha:a=[]
 . subst ha;have hv:=qA6 hl.symm;rw[show WY p.vars []=([],false) by rw[hv];rfl];simp[oM,zx,ja,qV,Kc,qq,za];refine qFu (fun m ev U=>ev 7=.int .i64 (-1)) 0 (by simp;decide) ?_;rintro m ev U R hR e7;simp[e7];rw[qF (by simp)];exact⟨by simp,by simp[Leq,zm]⟩
 have hl0:=qBf.2 ha;simp[oM,zx,ja,qV,Kc,show ¬(a.length=0) by omega,show a.length<=549755813888 by omega,ha];refine qFu (fun m ev U=>qz9 p a m ev U) a.length ?_ ?_
 . refine⟨by simp,by simp,by simp;rw[wr (by omega) (by omega)],qA5 _,?_,[],?_⟩
   . rw[hl,qBL,<- hl,qBL];rfl
   . rw[qBL,hl,qBL,<- hl,qCr];have e0:a++(qI [] []).1=a:=(by show a++[]=a;rw[qBC]);rw[e0,jM,qCD];simp
 rintro m ev U R hR ⟨e2,e6,e7,hm,ho,T,rfl⟩
 cases m with
 | zero=>
  simp only[qBZ,qBk]at ho;have hn:WY p.vars a=([],false):=if_pos ho;simp[e7,hn];rw[qF (by simp)];exact⟨by simp,by simp[Leq,zm]⟩
 | succ m=>
  have hma:m<a.length:=by omega
  obtain⟨x,hx⟩:∃x,a[m]?=some x:=⟨_,qAW hma⟩;obtain⟨v,hv⟩:∃v,p.vars[m]?=some v:=⟨_,qAW (by omega)⟩;have hst:=qd7 hl hv hx ho;have hpre:=Yx hl m;have hwv:=hw v (qAV hv);have hs1:=wG hwv.1 hwv.2;have e7':ev 7=.int .i64 (m:Int):=by rw[e7];congr 1;omega
  have hw1:=wr (n:=(m:Int)-1) (by omega) (by omega);have hokx:v.mode≠0->0<=x/\x<(zU v:Nat):=fun hm0=>by
   have:=qf3 hok hv hx
   rwa[if_neg hm0]at this
  have hsz:zU v<=2^28:=qBn (by omega) (by omega);have hdl:(a.drop (m+1)).length=(p.vars.drop (m+1)).length:=by simp[hl]
  have hS:(a.take m).length+((qI (p.vars.drop (m+1)) (a.drop (m+1))).1.length+1)=a.length:=by
   rw[ZD hdl];simp;omega
  rw[show a.take (m+1)=a.take m++[x] by rw[qBi,hx];rfl];have hpl:(a.take m).length=m:=by simp;omega
  generalize hSS:(qI (p.vars.drop (m+1)) (a.drop (m+1))).1=S at *;generalize hPP:a.take m=P at *;simp only[qBE,qC5];have hen:∀y,zb (P++y::S)=zb P++.int .i64 y::zb S:=fun y=>by simp[zb]
  have hepl:(zb P).length=m:=by rw[qR,hpl]
  have hg:∀y,(zb P++AV.int .i64 y::zb S)[m]?=some (.int .i64 y):=fun y=>by
   rw[qA4 (by omega),hepl,qBS];rfl
  have hd:∀y,(zb P++AV.int .i64 y::zb S).drop m=.int .i64 y::zb S:=fun y=>by
   rw[qCB (by omega),qBq (by omega)];rfl
  have hst2:∀y z,(zb P++AV.int .i64 y::zb S).set m (.int .i64 z)=zb P++.int .i64 z::zb S:=fun y z=>by
   rw[qBK _ _ (by omega),hepl,qBS];rfl
  have hlen2:∀y,(zb P++AV.int .i64 y::zb S).length=a.length:=fun y=>by
   rwa[qAY,qBc,qR,qR]
  rw[hen];have hml:m<p.vars.length:=by omega
  have hma1:m+1<=a.length:=hma;by_cases hm0:v.mode=0
  . rw[if_pos hm0]at hst;simp[e2,e7',hv,hm0,hw1];refine hR m _ _ (by omega) ⟨by simp[e2],by simp[e6],by simp,by omega,by rw[hst],T,?_⟩;rw[hst];simp only[hPP];rw[hen];simp
  have hx0:=hokx hm0;have hwx:=wr (n:=x+1) (by omega) (by omega);rw[if_neg hm0]at hst;have hwn:¬v.width<0:=by omega
  have hszv:zU v=2^v.width.toNat:=rfl;rw[<- hszv]at hs1;by_cases hx1:x+1<(zU v:Nat)
  . rw[if_pos hx1]at hst;have hpr:=hpre (by rw[hst]);rw[hst]at hpr;simp only at hpr;rw[show WY p.vars a=(P++(x+1)::S,true) by unfold WY;rw[hpr];rfl];simp[e2,e6,e7',hv,hm0,hw1,hd,hst2,hlen2,hwx,hs1,hma,hma1,hwn,IntKind.bits,hx1];rw[show zb P++AV.int .i64 (x+1)::zb S=(P++(x+1)::S).flatMap qh by rw[<- jM,hen],show a.length=(P++(x+1)::S).length by simp;omega];obtain⟨H,hH⟩:∃H:List Blk,H=[.cells (qA p),.cells ((P++(x+1)::S).flatMap qh)]:=⟨_,rfl⟩;simp only[qA]at hH;rw[<- hH];have ho:jr 1 1 qh H (.ms 1 0 (P++(x+1)::S).length 1) (P++(x+1)::S):=.inr ⟨by simp,rfl,by rw[hH];rfl⟩;have f1:=ho.frz (fun x=>by simp) (fun x=>by simp) (fun x=>by simp) 6;have f2:=ho.frzNo (fun x=>by simp) (fun x=>by simp) (fun x=>by simp) 6;rw[frz,if_neg (by simp[qO,qw])];simp only[qA7,qBy,qaR,qO,qw,Leq,zm,qC2,and_true];refine⟨f2,?_⟩;simpa[qh] using f1
  rw[if_neg hx1]at hst;simp[e2,e6,e7',hv,hm0,hw1,hd,hst2,hlen2,hwx,hs1,hma,hma1,hwn,IntKind.bits,hx1];refine hR m _ _ (by omega) ⟨by simp[e2],by simp[e6],by simp,by omega,by rw[hst],T,?_⟩;rw[hst];simp only[hPP];rw[hen];simp
def qv4(H s n)(hs:s.length<2^30):qq (Dof prog) ⟨H,jY [] s⟩ 25 (ww 1 qD 0 s) (.sl 1 [[.sl 1 (n.map qh) .none]] .tight)=some (ww 1 qD 0 (s++[n]),⟨H,jY [] (s++[n])⟩) :=
 ya (D:=Dof prog) (sz:=1) (T:=[]) (H:=H) (m:=[n]) (en:=qD) D25 rfl D28 rfl (by decide) rfl (by decide) (by simp only[qBo];omega) 1 (.inl rfl)
noncomputable def qd9(p:Problem)(l:List Ex):List (List Int):=(jH p.vars).filter (qiG p l)
def qap(p l)(hl:p.vars.length<=1000)(hs:p.vars.map Var.value=zC p.vars)(hw:∀v∈p.vars,0<=v.width/\v.width<=28)(hfl:Fits l)(hx:∀e∈l,Wen e/\hgt e<=1000/\(pre e).length<=100000)(hn:(jH p.vars).length<2^30):
 Pure prog GG 50 [.agg (qA p),.sl 4 (l.map qt) .none] (.sl 1 ((qd9 p l).map qD) .none):=by
 refine qFm qg func50 rfl (by kernel_rfl) ?_;obtain⟨S,hS⟩:∃S,S=qd9 p l:=⟨_,rfl⟩;rw[<- hS];have hf:=qsD p hl;rw[hs]at hf;have hsat:=fun(a:List Int) (ha:okA p.vars a)=>qca p l a hl (by have:=ha.len;unfold Fits;omega) hfl hx
 have hnx:=fun(a:List Int) (ha:okA p.vars a)=>qm7 p a ha.len (by have:=ha.len;omega) ha hw
 simp only[qA]at hf hsat hnx;simp;refine qFp (G:=zl GG) hf (by simp) ?_;simp;have hSl:S.length<2^30:=by rw[hS];unfold qd9;exact qB3 (qC6 _ _) hn
 refine qFu (fun n ev U=>∃s a,ev 1=.sl 4 (l.map qt) .none/\ev 2=.ptr 0 0/\ev 5=ww 1 qD 0 s/\ev 6=.sl 1 (a.map qh) .none/\U=⟨[.cells (qA p)],jY [] s⟩/\((ev 7=.bool true/\okA p.vars a/\n=(wm p.vars a).length/\S=s++(wm p.vars a).filter (qiG p l))\/(ev 7=.bool false/\n=0/\S=s))) (jH p.vars).length ?_ ?_
 . refine⟨[],zC p.vars,by simp,by simp,by simp,by simp,by simp,.inl ⟨by simp,Qe _,by rw[yA],?_⟩⟩;rw[yA,hS];rfl
 rintro n ev U R hR ⟨s,a,e1,e2,e5,e6,rfl,h|⟨e7,rfl,rfl⟩⟩
 . obtain⟨e7,hok,rfl,hSs⟩:=h;have hfs:=Qo hok;have hap:=qv4 [.cells (qA p)] s a (by rw[hSs]at hSl;simp at hSl;omega);simp only[qA]at hap;have go:∀(s':List (List Int)) (ev':Env),ev' 1=.sl 4 (l.map qt) .none->ev' 2=.ptr 0 0->ev' 5=ww 1 qD 0 s'->ev' 6=.sl 1 ((WY p.vars a).1.map qh) .none->ev' 7=.bool (WY p.vars a).2->S=s'++(if(qI p.vars a).2=true then [] else wm p.vars (qI p.vars a).1).filter (qiG p l)->R ev' ⟨[.cells (qA p)],jY [] s'⟩:=by
    intro s' ev' a1 a2 a5 a6 a7 hS';by_cases ho:(qI p.vars a).2=true
    . have hn0:WY p.vars a=([],false):=if_pos ho;rw[hn0]at a6 a7;rw[if_pos ho]at hS';exact hR 0 _ _ (by rw[hfs];simp) ⟨s',[],a1,a2,a5,a6,rfl,.inr ⟨a7,rfl,by simpa using hS'⟩⟩
    have hn0:WY p.vars a=((qI p.vars a).1,true):=if_neg ho;rw[hn0]at a6 a7;rw[if_neg ho]at hS';exact hR (wm p.vars (qI p.vars a).1).length _ _ (by rw[hfs,if_neg ho];simp) ⟨s',(qI p.vars a).1,a1,a2,a5,a6,rfl,.inl ⟨a7,ZR hok,rfl,hS'⟩⟩
   rw[hfs,qEN]at hSs;simp only[qA]at go;simp[e1,e2,e6,e7];refine qFp (G:=zl GG) (hsat a hok) (by simp) ?_
   cases hc:qiG p l a with
   | true=>
    rw[hc,if_pos rfl]at hSs;simp[e2,e5,e6,qi,qp,hap];refine qFp (G:=zl GG) (hnx a hok) (by simp) ?_;simp;exact go (s++[a]) _ (by simp[e1]) (by simp[e2]) (by simp) (by simp) (by simp) (by rw[hSs];simp)
   | false=>
    rw[hc,if_neg (by simp)]at hSs;simp[e2,e6];refine qFp (G:=zl GG) (hnx a hok) (by simp) ?_;simp;exact go s _ (by simp[e1]) (by simp[e2]) (by simp[e5]) (by simp) (by simp) hSs
 simp[-fin,-yb,-yP,e5,e7]
def qmO(vs d)(h:d.weights=[]):vM vs d=jE 0:=by
 unfold vM;split
 . rename_i v _;have:Zz v d.weights=[]:=by
    unfold Zz;rw[h];have:(vO [])=fun _=>false:=by funext n;rfl
    rw[this];simp
   rw[this];rfl
 rfl
def qrd(vs l a)(h:jE 0∈l):yD vs l a=false:=by
 have h0:jz (yo vs a) (jE 0)=0:=by
  unfold jz;split
  . rw[yX];simp[jE,vw,Ex.op,Ex.n]
  rfl
 unfold yD;rw[qD6];exact⟨_,h,by simp[h0]⟩
def Km{p}(h:VQ p)(hd:p.dists.length<=10000)(hs5:p.soft.length<=10000)(he:(qC p).2=0):
 qo p=0/\(∀e∈(qC p).1,zB p.vars e=0/\Ji e)/\(qC p).1.length<=50000/\∀d∈p.dists,d.weights≠[]:=by
 obtain⟨hv,hsat,hR,_⟩:=v7 (by rwa[<- wQ]);have hnk:=Qf h hv;have hsl:jF p=wk p:=by unfold jF;rw[if_pos hv]
 rw[hR];refine⟨hv,fun e hm=>?_,?_,fun d hdm hw=>?_⟩
 . have hmm:e∈zy p++p.soft:=by
    rcases qBb.1 hm with hm|hm
    . exact qBb.2 (.inl hm)
    obtain⟨q,hq,rfl⟩:=qBj.1 hm;obtain⟨k,_,hk⟩:=qew hq;exact qBb.2 (.inr (qAV hk))
   have:=hnk e hmm;exact⟨by simpa[wJ] using this.1,this.2⟩
 . have h1:=qaN p;have h2:=h.hard;have h3:(wk p).length=p.dists.length:=(by simp[wk]);simp only[qAY,qBA,zy,hsl];omega
 have hin:jE 0∈zy p:=by
  unfold zy;rw[hsl];exact qBb.2 (.inr (qBj.2 ⟨d,hdm,qmO _ _ hw⟩))
 unfold jQ at hsat;obtain⟨a,_,ha⟩:=qBr.1 hsat;rw[qrd _ _ _ hin]at ha;cases ha
def qrA:List (Nat×Sch×List Nat):=[(4,.step 1 [8,7,6] (.step 2 [8,7,6,5,3] (.step 3 [8,7,6,5] (.step 4 [8,7,6,5] (.fork (.cons 0 (.step 5 [8,7,6] (.step 6 [8,7] (.step 7 [8] (.step 8 [] (.done))))) (.cons 5 (.step 0 [8,7,6] (.step 6 [8,7] (.step 7 [8] (.step 8 [] (.done))))) (.nil))))))),[5])]
def OpQ(p:Problem)(H:List Blk)(r:AV)(U':St):Prop :=
 KpL [] H U'.H/\(((qC p).2≠0/\r=.tup [.nilp,.int .i64 (qC p).2]) \/
  ((qC p).2=0/\∃s d,r=.tup [.ptr s.S 0,.int .i64 0]/\H.length<=s.S/\H.length<=s.L/\H.length<=s.LL/\s.p=p/\s.R=(qC p).1/\SpOk s U'.H/\SpV s d /\
    (s.small=true->∀b,evD d b s.root=yD p.vars (qC p).1 (QV p.vars (qS p) b))))
def qfX(p)(h:VQ p)(hv20:p.vars.length<=20)(hb:wh p.vars (qQ p)<=18)(hd:p.dists.length<=10000)(hs5:p.soft.length<=10000)(hws:∀d∈p.dists,d.weights.length<=1000)(H T):
 qj prog GG 15 [.agg (qA p)] ⟨H,T⟩ (OpQ p H):=by
 refine qFn ⟨false,qrA,[],[]⟩ qg func15 rfl (by kernel_rfl) ?_;by_cases he:(qC p).2=0
 case neg=>
  have hr:=qmc p h hv20 hb hd hs5;simp;refine qFp hr (by simp) ?_;have hq:∀u T',OpQ p H (.tup [.nilp,.int .i64 (qC p).2]) ⟨H++u,T'⟩:=fun u T'=>⟨qFX,.inl ⟨he,rfl⟩⟩
  generalize (qC p).2=er at *;simp[he];exact hq _ _
 case pos=>
  obtain⟨hv,hk,hl,hwn⟩:=Km h hd hs5 he;have hlv:=qdF p h hv;simp;refine qFs (qpj p h hv20 hb hd hs5 he _ _) ?_;rintro r ⟨H1,T1⟩ ⟨tok,rfl,htok,hk1⟩;have bx:=hk1.2 _ _ lk0 (by simp);have hlen1:=hk1.1;simp only[qAY,qBc,qB8]at hlen1;obtain⟨R,hR⟩:∃R,R=(qC p).1:=⟨_,rfl⟩;rw[<- hR]at htok hk hl⊢;simp;rw[qU rfl];simp only[qA]at hlv;simp[zg,bx];refine qFp hlv (by simp) ?_;simp[zg,bx];have hwg:=qmv p h hv H1 T1;simp only[qA]at hwg;refine⟨qFs hwg ?_,qFs hwg ?_⟩
  all_goals
   rintro r ⟨H2,T2⟩ ⟨hk2,L,LL,rfl,hL1,hL2,hwf⟩;have bx2:=hk2.2 _ _ bx (by simp);have hkH2:=(qFX.trans hk1).trans hk2;have hLlt:L<H2.length:=(by obtain⟨c,hc,_⟩:=hwf;exact(qAU.1 hc).1);obtain⟨LL',hLL',hLL1,hwf'⟩:∃LL',LL'<H2.length/\H.length<=LL'/\WFn p L LL' H2:=by
    obtain⟨c,hc,hc2⟩:=hwf;by_cases hpv:p.vars=[]
    . exact⟨L,hLlt,by omega,c,hc,fun hn=>absurd hpv hn⟩
    exact⟨LL,(qAU.1 (hc2 hpv).2).1,by omega,c,hc,hc2⟩
   simp[zg,bx2,qf bx2,zu,zZ,qP];refine qFs ((qwm p h hv R (by omega) hk _ _).leq (by simp[qA])) ?_;rintro r ⟨H3,T3⟩ ⟨hk3,hr⟩;dsimp only at hk3;have bS:=hk3.2 _ _ lk0 (by simp);have hSl:=(qAU.1 bS).1;have hkH3:KpL [] H H3:=hkH2.trans (qFX.trans hk3);have hwf3:WFn p L LL' H3:=by
    obtain⟨c,hL,hc⟩:=hwf';have hk':=qFX.trans hk3;exact⟨c,hk'.2 _ _ hL (by simp),fun hn=>⟨(hc hn).1,hk'.2 _ _ (hc hn).2 (by simp)⟩⟩
   have hws':∀(i:Nat) (w:List Weight),(jc p.vars.length p.dists)[i]?=some (some w)->w≠[]/\w.length<=1000:=fun i w hi=>by
    obtain⟨d,hd,rfl⟩:=qh3 (qAV hi);exact⟨hwn d hd,hws d hd⟩
   have fin:∀(dv:AV) (root:Nat) (small:Bool) (d:List Nd) (T':List (Option Nat)),(small=true->DagOk d/\(∃tok,dv=.sl 3 (d.map qN) tok)/\root<d.length)->(small=true->∀b,evD d b root=yD p.vars R (QV p.vars (qS p) b)) ->
    OpQ p H (.tup [.ptr H2.length 0,.int .i64 0]) ⟨H3.set H2.length (.cells (qA p++[.sl 4 (R.map qt) tok,.sl 1 ((qS p).map qh) .none,dv,.int .i64 root,.bool small,.fn 70 [] [.ptr L 0]])),T'⟩:=by
    intro dv root small d T' hdag hroot;refine⟨hkH3.setF (by have:=hkH2.1;omega),.inr ⟨he,⟨H2.length,L,LL',p,R,tok,qS p,dv,root,small⟩,d,rfl,hkH2.1,by dsimp only;omega,hLL1,rfl,hR,⟨?_,?_,?_⟩,⟨h,hv,hv20,hb,hk,hl,htok,rfl,hdag,hws'⟩,by rw[<- hR];exact hroot⟩⟩
    . exact qA0 hSl
    . obtain⟨c,hL,hc⟩:=hwf3;exact⟨c,by dsimp only;rw[qAX (by omega)];exact hL,fun hn=>⟨(hc hn).1,by dsimp only;rw[qAX (by omega)];exact(hc hn).2⟩⟩
    dsimp only;rw[qCj];omega
   rcases hr with rfl|⟨d,t,tk,rfl,hdk,ht,hev⟩
   . simp[-getElem?_pos,bS,hSl];exact fin (.sl 0 [] .nil) 0 false [] T3 (by simp) (by simp)
   simp[-getElem?_pos,bS,hSl];exact fin (.sl 3 (d.map qN) tk) t true d T3 (fun _=>⟨hdk,⟨tk,rfl⟩,ht⟩) (fun _=>hev)
def wy:∀{vs:List Var}{a:List Int},okA vs a->∀{i:Nat}{v:Var},vs[i]?=some v->∃x,a[i]?=some x/\(if v.mode=0 then x=v.value else 0<=x/\x<(zU v:Nat))
 |[],_,_,i,v,hv=>by simp at hv
 |w::vs,[],h,i,v,hv=>h.elim
 | w::vs,y::a,h,0,v,hv=>by
  simp at hv;subst hv;exact⟨y,rfl,h.1⟩
 | w::vs,y::a,h,i+1,v,hv=>by
  obtain⟨x,h1,h2⟩:=wy (vs:=vs) (a:=a) h.2 (i:=i) (v:=v) (by simpa using hv);exact⟨x,by simpa using h1,h2⟩
def eqP(p:Problem)(q:Nat×Nat):Ex:=eqE (Ym p q.1) (q.2:Int)
def qvG{p}(hv:qo p=0){a}(ha:a∈jH p.vars){i v}(hi:p.vars[i]?=some v){n}(hn:n<=65535):
 decide (jz (yo p.vars a) (eqP p (i,n))≠0)=decide (a[i]?=some (n:Int)):=by
 have hok:=wc.1 ha;obtain⟨x,hx,hxr⟩:=wy hok hi;have hm:=qAV hi;have hve:=zi (jd hv v hm);have hvv:=qae (jd hv v hm);have hx2:0<=x/\x<=65535:=by
  split at hxr
  . omega
  have h3:2^v.width.toNat<=2^8:=qBn (by omega) (by omega);unfold zU at hxr;omega
 have hf:=Qp (yW hv) hi hx;rw[QB hx2.1 hx2.2]at hf;have hen:yo p.vars a=(p.vars.zip a).map fun q=>⟨q.1.name,q.2⟩:=by unfold yo;rw[if_pos hok.len]
 have ho:=qqe hve.1 (n:=(n:Int)) (by omega) (by omega);have hex:=ho.valid (by omega) (by omega) (by unfold Qn;rw[qBr];exact⟨v,hm,by simp⟩);have hval:zp (eqE v.name (n:Int))=0:=by
  by_cases h0:zp (eqE v.name (n:Int))=0
  . exact h0
  unfold zB at hex;rw[if_pos h0]at hex;exact absurd hex h0
 have hkn:jL (yo p.vars a) (eqE v.name (n:Int))=true:=by
  unfold jL;rw[qei,hen];simp[qiJ,eqE,wN,jE,Ex.op,Ex.name,hf]
 have hev:jz (yo p.vars a) (eqE v.name (n:Int))=b2i (decide (x=(n:Int))):=by
  unfold jz;rw[if_pos ⟨hval,hkn⟩,yX,hen];simp[eqE,wN,jE,Ex.op,Ex.name,Ex.args,Ex.n,vw,yX,hf,opW,jZ,b2i]
 show decide (jz _ (eqE (Ym p i) (n:Int))≠0)=_;rw[show Ym p i=v.name by simp[Ym,hi],hev,hx];by_cases hxn:x=(n:Int)<;>simp[b2i,hxn]
noncomputable def okC(p:Problem)(R:List Ex)(c:List (Nat×Nat)):Bool:=(jH p.vars).any fun a=>yD p.vars R a&&c.all fun q=>decide (a[q.1]?=some (q.2:Int))
noncomputable def qbr(p:Problem)(R:List Ex)(fx:Nat->Option Nat):List Nat->List (Nat×Nat)->Nat
 |[],c=>if okC p R c=true then 1 else 0
 |i::r,c=>if okC p R c=true then(vL (jO p i) (fx i)).foldl (fun s v=>sat (s+sat (wtP p i v*qbr p R fx r (c++[(i,v)])))) 0 else 0
def qpl(p:Problem)(c:List (Nat×Nat)):Prop:=∀q∈c,(∃v,p.vars[q.1]?=some v/\v.mode≠0)/\q.2<2^jO p q.1
def qqL{p}(hv:qo p=0){i v}(hi:p.vars[i]?=some v):jO p i=v.width.toNat/\v.width.toNat<=8:=by
 have hve:=zi (jd hv v (qAV hi));exact⟨by unfold jO zP;rw[hi],by omega⟩
def qpl.lt{p}(hv:qo p=0){c}(h:qpl p c){q}(hq:q∈c):q.2<=65535:=by
 obtain⟨⟨v,hi,_⟩,hlt⟩:=h q hq;obtain⟨h1,h2⟩:=qqL hv hi;rw[h1]at hlt;have h3:2^v.width.toNat<=2^8:=qBn (by omega) (by omega);omega
def qfy{p}(hv:qo p=0)(R){c}(hc:qpl p c):jQ p.vars (R++c.map (eqP p))=okC p R c:=by
 unfold jQ okC;apply qBP.2;simp only[qBr];have key:∀a∈jH p.vars,yD p.vars (R++c.map (eqP p)) a=(yD p.vars R a&&c.all fun q=>decide (a[q.1]?=some (q.2:Int))):=fun a ha=>by
  unfold yD;rw[qCx,qDT];congr 1;apply qBP.2;simp only[qA3];refine forall_congr' fun q=>forall_congr' fun hq=>?_
  obtain⟨⟨v,hi,_⟩,_⟩:=hc q hq;have:=qvG hv ha hi (hc.lt hv hq);simp only[Function.comp];rw[<- this]
 constructor
 . rintro⟨a,ha,h⟩;exact⟨a,ha,by rw[<- key a ha];exact h⟩
 rintro⟨a,ha,h⟩;exact⟨a,ha,by rw[key a ha];exact h⟩
def qmq(p:Problem)(fx:Nat->Option Nat):Prop:=∀i x,fx i=some x->x<2^jO p i
def qi4{p fx}(hf:qmq p fx){i v}(h:v∈vL (jO p i) (fx i)):v<2^jO p i:=by
 unfold vL at h;split at h
 . exact qCd.1 h
 rename_i x hx;have:=qBD.1 h;subst this;exact hf i _ hx
def kZ{α:Type}{f g:Nat->α->Nat}:∀{l:List α}{s:Nat},(∀s,∀v∈l,f s v=g s v)->l.foldl f s=l.foldl g s
 |[],s,h=>rfl
 | a::r,s,h=>by
  rw[qBw,qBw,h s a (by simp)];exact kZ fun s v hv=>h s v (by simp[hv])
def qji{p}(hv:qo p=0)(R){fx}(hf:qmq p fx):∀(g) (c),(∀i∈g,∃v,p.vars[i]?=some v/\v.mode≠0)->qpl p c ->
 qd3 p fx g (R++c.map (eqP p))=qbr p R fx g c:=by
 intro g
 induction g with
 |nil=>intro c _ hc;unfold qd3 qbr;rw[qfy hv R hc]
 | cons i r ih=>
  intro c hg hc;unfold qd3 qbr;rw[qfy hv R hc];split
  . refine kZ fun s v hvm=>?_
    have hc':qpl p (c++[(i,v)]):=fun q hq=>by
     rcases qBb.1 hq with hq|hq
     . exact hc q hq
     have:=qBD.1 hq;subst this;exact⟨hg i (by simp),qi4 hf hvm⟩
    have:=ih (c++[(i,v)]) (fun j hj=>hg j (by simp[hj])) hc';rw[qBV,<- qBE]at this;rw[<- this];rfl
  rfl
def LW(p:Problem)(l:List Nat):Nat:=(l.map (jO p)).sum
def qgV(p l m):LW p (l++m)=LW p l+LW p m:=by simp[LW]
def qbp{p}(hv:qo p=0):∀l:List Nat,kx p.vars (l.map fun n:Nat=>(n:Int))=(LW p l:Int)
 |[]=>rfl
 | i::r=>by
  have ih:=qbp hv r;have h0:=Jj (QD hv) i;have e1:kx p.vars ((i::r).map fun n:Nat=>(n:Int))=zP p.vars i+kx p.vars (r.map fun n:Nat=>(n:Int)):=by simp[kx]
  have e2:LW p (i::r)=jO p i+LW p r:=by simp[LW]
  rw[e1,e2,ih];unfold jO;omega
def qcD{p}(hv:qo p=0){k i}(hk:(NG p).flatten[k]?=some i):Js (qS p) i=LW p ((NG p).flatten.take k):=by
 have hk':p.groups.flatten[k]?=some (i:Int):=by rw[Zv hv,qBp,hk];rfl
 have h1:=KR hv hk';rw[Zv hv,<- List.map_take,qbp hv]at h1;unfold Js;rw[qA8,h1];simp
def qmg{p}(hv:qo p=0):LW p (NG p).flatten<=20:=by
 have:=We hv;rw[Zv hv,qbp hv]at this;omega
def qlk{d}(h:DagOk d){node l w v}(hn:node<d.length)(hl:l<=lvD d node)(hlw:l+w<=20):∀k,k<=w ->
 vG d l w v node k<d.length/\l+k<=lvD d (vG d l w v node k)/\∀b,(∀j,j<k->b (l+j)=v.testBit (w-1-j))->evD d b node=evD d b (vG d l w v node k):=by
 intro k
 induction k with
 |zero=>intro _;exact⟨hn,hl,fun b _=>rfl⟩
 | succ k ih=>
  intro hk;obtain⟨h1,h2,h3⟩:=ih (by omega);rw[JH];obtain⟨g1,g2,g3⟩:=kj h h1 (L:=l+k) (by omega) h2 (v.testBit (w-1-k));refine⟨g1,by omega,fun b hb=>?_⟩;rw[h3 b fun j hj=>hb j (by omega),g3 b (hb k (by omega))]
def Yu(p:Problem)(b:Nat->Bool)(i:Nat):Nat:=zt (fun k=>b (Js (qS p) i+jO p i-1-k)) (jO p i)
def Y5{p b i v}(h:Yu p b i=v){j}(hj:j<jO p i):b (Js (qS p) i+j)=v.testBit (jO p i-1-j):=by
 rw[<- h];unfold Yu;rw[zc];simp[show jO p i-1-j<jO p i by omega,show Js (qS p) i+jO p i-1-(jO p i-1-j)=Js (qS p) i+j by omega]
def qlL:List (Nat×Nat)->Nat->Bool
 |[],_=>false
 |(w,v)::r,l=>if l<w then v.testBit (w-1-l) else qlL r (l-w)
def qgJ:∀(l) (k w v j),l[k]?=some (w,v)->j<w->qlL l (((l.take k).map (·.1)).sum+j)=v.testBit (w-1-j)
 |[],k,w,v,j,h,_=>by simp at h
 | (w',v')::r,0,w,v,j,h,hj=>by
  simp at h;obtain⟨rfl,rfl⟩:=h;simp[qlL,hj]
 | (w',v')::r,k+1,w,v,j,h,hj=>by
  have ih:=qgJ r k w v j (by simpa using h) hj;have e:((((w',v')::r).take (k+1)).map (·.1)).sum+j=w'+(((r.take k).map (·.1)).sum+j):=by simp;omega
  rw[e,qlL,if_neg (by omega),qB0,ih]
def qgI{p}(hv:qo p=0)(val:Nat->Nat):∃b,∀i∈(NG p).flatten,Yu p b i=val i%2^jO p i:=by
 refine⟨qlL ((NG p).flatten.map fun i=>(jO p i,val i)),fun i hi=>?_⟩;obtain⟨k,hk⟩:=qBB hi;have hl:=qcD hv hk;rw[<- JV];unfold Yu;apply zw;intro j hj;have h:=qgJ ((NG p).flatten.map fun i=>(jO p i,val i)) k (jO p i) (val i) (jO p i-1-j) (by rw[qBp,hk];rfl) (by omega);have e1:(((((NG p).flatten.map fun i=>(jO p i,val i)).take k).map (·.1)).sum)=LW p ((NG p).flatten.take k):=by
  unfold LW;rw[<- List.map_take,qCo];rfl
 rw[e1,<- hl]at h;rw[show Js (qS p) i+jO p i-1-j=Js (qS p) i+(jO p i-1-j) by omega,h,show jO p i-1-(jO p i-1-j)=j by omega]
def qas{p}(hv:qo p=0){i v}(hi:p.vars[i]?=some v)(hm:v.mode≠0):i∈(NG p).flatten:=by
 obtain⟨k,hk⟩:=qjI hv hi hm;rw[Zv hv,qBp]at hk
 cases h:(NG p).flatten[k]? with
 |none=>rw[h]at hk;cases hk
 | some j=>
  rw[h]at hk;have:(j:Int)=i:=by simpa using hk
  have:j=i:=by omega
  exact this▸qAV h
def kE{p}(hv:qo p=0){i}(hi:i∈(NG p).flatten):∃v,p.vars[i]?=some v/\v.mode≠0:=by
 obtain⟨k,hk⟩:=qme hv hi;obtain⟨n,v,hn,hv',hm⟩:=ZK ((j5 hv).2.1 _ (qAV hk));have:n=i:=by omega
 subst this;exact⟨v,hv',hm⟩
def vH{p}(hv:qo p=0)(b){i v}(hi:p.vars[i]?=some v)(hm:v.mode≠0):(QV p.vars (qS p) b)[i]?=some (Yu p b i:Int):=by
 have hli:=qAW (by rw[kK];exact(qAU.1 hi).1);rw[qe2 hi hli];unfold qjd Yu Js;rw[if_neg hm,(qqL hv hi).1,qA8,hli];rfl
def qbg{p:Problem}(b:Nat->Bool){i:Nat}{v:Var}(hi:p.vars[i]?=some v)(hm:v.mode=0):(QV p.vars (qS p) b)[i]?=some v.value:=by
 have hli:=qAW (by rw[kK];exact(qAU.1 hi).1);rw[qe2 hi hli];unfold qjd;rw[if_pos hm]
def qj7:∀{vs:List Var}{a:List Int},a.length=vs.length->(∀(i:Nat) (v:Var),vs[i]?=some v->∃x,a[i]?=some x/\(if v.mode=0 then x=v.value else 0<=x/\x<(zU v:Nat)))->okA vs a
 |[],[],_,_=>trivial
 |[],_::_,h,_=>by simp at h
 |_::_,[],h,_=>by simp at h
 | v::vs,x::a,h,hx=>by
  obtain⟨y,hy,hc⟩:=hx 0 v rfl;simp at hy;subst hy;exact⟨hc,qj7 (by simpa using h) fun i w hw=>by
   obtain⟨y,hy,hc⟩:=hx (i+1) w (by simpa using hw);exact⟨y,by simpa using hy,hc⟩⟩
def qqX(p b i):Yu p b i<2^jO p i:=kR _ _
def qbh{p}(hv:qo p=0)(b):QV p.vars (qS p) b∈jH p.vars:=by
 refine wc.2 (qj7 (YP (kK p) b) fun i v hi=>?_);by_cases hm:v.mode=0
 . exact⟨_,qbg b hi hm,by rw[if_pos hm]⟩
 refine⟨_,vH hv b hi hm,?_⟩;rw[if_neg hm];have:=qqX p b i;rw[(qqL hv hi).1]at this;unfold zU;omega
def qdu{p}(hv:qo p=0){a}(ha:a∈jH p.vars):∃b,QV p.vars (qS p) b=a/\∀i∈(NG p).flatten,a[i]?=some (Yu p b i:Int):=by
 have hok:=wc.1 ha;obtain⟨b,hb⟩:=qgI hv (fun i=>(a.getD i 0).toNat);have hr:∀i∈(NG p).flatten,a[i]?=some (Yu p b i:Int):=fun i hi=>by
  obtain⟨v,hv',hm⟩:=kE hv hi;obtain⟨x,hx,hc⟩:=wy hok hv';rw[if_neg hm]at hc;have:=hb i hi;rw[qA8,hx]at this;unfold zU at hc;rw[(qqL hv hv').1]at this;dsimp only[Option.getD]at this;have hlt:x.toNat<2^v.width.toNat:=by omega
  rw[qDe hlt]at this;rw[hx,this];congr 1;omega
 refine⟨b,?_,hr⟩;apply qB2;intro i
 cases hi:p.vars[i]? with
 | none=>
  have hl:=List.getElem?_eq_none_iff.1 hi;rw[qBs (by rw[YP (kK p)];exact hl),qBs (by rwa[hok.len])]
 | some v=>
  by_cases hm:v.mode=0
  . obtain⟨x,hx,hc⟩:=wy hok hi;rw[if_pos hm]at hc;rw[qbg b hi hm,hx,hc]
  rw[vH hv b hi hm,hr i (qas hv hi hm)]
structure Inv(p)(d:List Nd)(root)(c:List (Nat×Nat))(node):Prop where
 lt:node<d.length
 lv:LW p (c.map (·.1))<=lvD d node
 pre:∃post,(NG p).flatten=c.map (·.1)++post
 ev:∀b,(∀q∈c,Yu p b q.1=q.2)->evD d b root=evD d b node
def qgg{p}(hv:qo p=0){d}(hd:DagOk d){root c node}(h:Inv p d root c node){i v}(hi:∃post,(NG p).flatten=c.map (·.1)++i::post):
 Inv p d root (c++[(i,v)]) (vG d (Js (qS p) i) (jO p i) v node (jO p i)):=by
 obtain⟨post,hpost⟩:=hi;have hk:(NG p).flatten[(c.map (·.1)).length]?=some i:=by rw[hpost,qA4 (qA5 _),qBS];rfl
 have hlv:=qcD hv hk;rw[show(NG p).flatten.take (c.map (·.1)).length=c.map (·.1) by rw[hpost,List.take_left]]at hlv;have hle:LW p (c.map (·.1))+jO p i<=20:=by
  have h1:=qmg hv;rw[hpost,qgV]at h1;have:LW p (i::post)=jO p i+LW p post:=by simp[LW]
  omega
 obtain⟨h1,h2,h3⟩:=qlk hd (w:=jO p i) (v:=v) h.lt (l:=Js (qS p) i) (by rw[hlv];exact h.lv) (by omega) (jO p i) (qA5 _);refine⟨h1,?_,⟨post,by rw[hpost];simp⟩,fun b hb=>?_⟩
 . rw[qBV,qgV];have:LW p (([(i,v)]:List (Nat×Nat)).map (·.1))=jO p i:=by simp[LW]
   omega
 rw[h.ev b fun q hq=>hb q (by simp[hq])];exact h3 b fun j hj=>Y5 (hb (i,v) (by simp)) hj
def Vc{p b b' i}(h:∀j,j<jO p i->b (Js (qS p) i+j)=b' (Js (qS p) i+j)):Yu p b i=Yu p b' i:=by
 unfold Yu;apply zw;intro k hk;rw[show Js (qS p) i+jO p i-1-k=Js (qS p) i+(jO p i-1-k) by omega];exact h _ (by omega)
def qgx{q}:∀{c:List (Nat×Nat)},(c.map (·.1)).Nodup->q∈c->c.find? (fun q'=>q'.1==q.1)=some q
 |[],_,h=>by simp at h
 | x::r,hn,h=>by
  rw[qA7,qDA]at hn;rcases qBt.1 h with rfl|h
  . simp
  have hne:¬x.1=q.1:=fun e=>hn.1 (qBj.2 ⟨q,h,e.symm⟩)
  have:(x.1==q.1)=false:=by simpa using hne
  rw[qDC,this];exact qgx hn.2 h
def qgf{p}(hv:qo p=0){R d}(hd:DagOk d){root}(hroot:∀b,evD d b root=yD p.vars R (QV p.vars (qS p) b)){c}(hc:qpl p c)(hnd:(NG p).flatten.Nodup){node}(h:Inv p d root c node):
 okC p R c = !decide (node=0):=by
 obtain⟨post,hpost⟩:=h.pre;have hmem:∀q∈c,q.1∈(NG p).flatten:=fun q hq=>by rw[hpost];exact qBb.2 (.inl (qBj.2 ⟨q,hq,rfl⟩))
 by_cases h0:node=0
 . have:okC p R c=false:=by
    rw[qCe];intro hok;unfold okC at hok;obtain⟨a,ha,hs⟩:=qBr.1 hok;rw[qA1]at hs;obtain⟨b,hb,hbv⟩:=qdu hv ha;have hf:∀q∈c,Yu p b q.1=q.2:=fun q hq=>by
     have h1:=hbv _ (hmem q hq);have h2:=of_decide_eq_true (qA3.1 hs.2 q hq);rw[h1]at h2;have:(Yu p b q.1:Int)=(q.2:Int):=by simpa using h2
     omega
    have h1:=h.ev b hf;rw[hroot,hb,h0,Yo hd]at h1;rw[h1]at hs;cases hs.1
   rw[this,h0];rfl
 have:okC p R c=true:=by
  obtain⟨b,hb⟩:=qsW hd node node h.lt (qA5 _) h0;obtain⟨b0,hb0⟩:=qgI hv (fun i=>match c.find? (fun q=>q.1==i) with|some q=>q.2|none=>0);obtain⟨b',hb'⟩:∃b':Nat->Bool,b'=fun l=>if l<LW p (c.map (·.1)) then b0 l else b l:=⟨_,rfl⟩
  have hnode:evD d b' node=true:=by
   rw[<- hb];apply Wn hd h.lt;intro l hl;have:=h.lv;rw[hb'];dsimp only;rw[if_neg (by omega)]
  have hcn:(c.map (·.1)).Nodup:=by
   rw[hpost]at hnd;exact(qCu.1 hnd).1
  have hf:∀q∈c,Yu p b' q.1=q.2:=fun q hq=>by
   obtain⟨k,hk⟩:=qBB hq;have hkl:=(qAU.1 hk).1;have hkF:(NG p).flatten[k]?=some q.1:=(by rw[hpost,qBa (by simpa using hkl),qBp,hk];rfl);have hlv:=qcD hv hkF;have hw:Js (qS p) q.1+jO p q.1<=LW p (c.map (·.1)):=by
    rw[hlv,show(NG p).flatten.take k=(c.map (·.1)).take k by rw[hpost,qB6 (by simp;omega)]];have h1:(c.map (·.1))=(c.map (·.1)).take k++q.1::(c.map (·.1)).drop (k+1):=by
     have h2:(c.map (·.1)).drop k=q.1::(c.map (·.1)).drop (k+1):=by
      have h3:(c.map (·.1))[k]?=some q.1:=(by rw[qBp,hk];rfl);obtain⟨h4,h5⟩:=qAU.1 h3;rw[qA9 h4,h5]
     rw[<- h2,qBF]
    have h2:=congrArg (LW p) h1;rw[qgV]at h2;have h3:LW p (q.1::(c.map (·.1)).drop (k+1))=jO p q.1+LW p ((c.map (·.1)).drop (k+1)):=(by simp[LW]);omega
   have e1:Yu p b' q.1=Yu p b0 q.1:=Vc fun j hj=>by
    rw[hb'];dsimp only;rw[if_pos (by omega)]
   rw[e1,hb0 _ (hmem q hq)];have hfind:=qgx hcn hq;rw[hfind];exact qDe (hc q hq).2
  have hr:=h.ev b' hf;rw[hnode,hroot]at hr;unfold okC;refine qBr.2 ⟨_,qbh hv b',?_⟩;rw[hr,qB7,qA3];intro q hq;obtain⟨⟨v,hi,hm⟩,_⟩:=hc q hq;rw[vH hv b' hi hm,hf q hq];simp
 rw[this];simp[h0]
def qjk{p}(hv:qo p=0){R d}(hd:DagOk d){root}(hroot:∀b,evD d b root=yD p.vars R (QV p.vars (qS p) b))(hnd:(NG p).flatten.Nodup){fx}(hf:qmq p fx):
 ∀(g) (c) (node),(∃post,(NG p).flatten=c.map (·.1)++g++post)->qpl p c->Inv p d root c node->qbq p (qS p) d fx g node=qbr p R fx g c:=by
 intro g
 induction g with
 | nil=>
  intro c node hg hc h;unfold qbq qbr;rw[qgf hv hd hroot hc hnd h];by_cases h0:node=0<;>simp[h0]
 | cons i r ih=>
  intro c node hg hc h;obtain⟨post,hpost⟩:=hg;unfold qbq qbr;rw[qgf hv hd hroot hc hnd h];by_cases h0:node=0
  . simp[h0]
  simp only[h0,if_false,decide_false,qE6,if_true];refine kZ fun s v hvm=>?_
  have hc':qpl p (c++[(i,v)]):=fun q hq=>by
   rcases qBb.1 hq with hq|hq
   . exact hc q hq
   have:=qBD.1 hq;subst this;exact⟨kE hv (by rw[hpost];simp),qi4 hf hvm⟩
  rw[ih (c++[(i,v)]) _ ⟨post,by rw[hpost];simp⟩ hc' (qgg hv hd h ⟨r++post,by rw[hpost];simp⟩)]
def qsk{p d root}(h:root<d.length):Inv p d root [] root:=⟨h,by simp[LW],⟨_,rfl⟩,fun b _=>rfl⟩
def qn7{p}(hv:qo p=0){d}(hd:DagOk d){root}(val:Nat->Nat):∀(l) (c) (node),Inv p d root c node->(∃post,(NG p).flatten=c.map (·.1)++l++post) ->
 Inv p d root (c++l.map fun i=>(i,val i)) (l.foldl (fun node i=>vG d (Js (qS p) i) (jO p i) (val i) node (jO p i)) node):=by
 intro l
 induction l with
 |nil=>intro c node h _;simpa using h
 | cons i r ih=>
  intro c node h ⟨post,hpost⟩;have h1:=qgg hv hd h (i:=i) (v:=val i) ⟨r++post,by rw[hpost];simp⟩;have h2:=ih _ _ h1 ⟨post,by rw[hpost];simp⟩;rw[qBw,qA7];simpa using h2
def qgT{p gi g}(h:(NG p)[gi]?=some g):∃post,(NG p).flatten=((NG p).take gi).flatten++g++post:=by
 have h1:=qBF gi (NG p);obtain⟨h2,h3⟩:=qAU.1 h;refine⟨((NG p).drop (gi+1)).flatten,?_⟩
 conv=>lhs;rw[<- h1,show(NG p).drop gi=g::(NG p).drop (gi+1) by rw[qA9 h2,h3]]
 simp
def qgU{p}(hv:qo p=0):(NG p).flatten.Nodup:=by
 have h:=(j5 hv).2.2.1;rw[Zv hv]at h;exact(qD5.1 h).imp fun hne e=>hne (by rw[e])
def qq3{s d}(h:SpV s d)(hroot:s.small=true->∀b,evD d b s.root=yD s.p.vars s.R (QV s.p.vars (qS s.p) b)){fx}(hf:qmq s.p fx){a}(ha:∀i∈(NG s.p).flatten,aN a i<2^jO s.p i){gi}(hgi:gi<(NG s.p).length):
 qbY s d fx a gi=qbr s.p s.R fx ((NG s.p).getD gi []) (((NG s.p).take gi).flatten.map fun i=>(i,aN a i)):=by
 obtain⟨g,hg⟩:∃g,(NG s.p)[gi]?=some g:=⟨_,qAW hgi⟩;obtain⟨post,hpost⟩:=qgT hg;have hin:∀i∈((NG s.p).take gi).flatten,i∈(NG s.p).flatten:=fun i hi=>by rw[hpost];simp[hi]
 have hc:qpl s.p (((NG s.p).take gi).flatten.map fun i=>(i,aN a i)):=fun q hq=>by
  obtain⟨i,hi,rfl⟩:=qBj.1 hq;exact⟨kE h.vp (hin i hi),ha i (hin i hi)⟩
 have hmm:(((NG s.p).take gi).flatten.map fun i=>(i,aN a i)).map (·.1)=((NG s.p).take gi).flatten:=by
  rw[qCo];exact qE0 _
 unfold qbY;rw[show(NG s.p).getD gi []=g by simp[qA8,hg]];by_cases hsm:s.small=true
 . rw[if_pos hsm];obtain⟨hd,_,hr⟩:=h.dag hsm;have hi:=qn7 h.vp hd (aN a) ((NG s.p).take gi).flatten [] s.root (qsk hr) ⟨g++post,by rw[hpost];simp⟩;rw[h.lv];have:=qjk h.vp hd (hroot hsm) (qgU h.vp) hf g _ _ ⟨post,by rw[qBk,hmm];exact hpost⟩ (by rwa[qBk]) hi;rw[qBk]at this;rw[<- this];unfold ZS;rw[h.lv]
 rw[if_neg hsm];have:=qji h.vp s.R hf g _ (fun i hi=>kE h.vp (by rw[hpost];simp[hi])) hc;rw[<- this];unfold Vr;rw[qCo];rfl
noncomputable def qiF(p:Problem)(fx:Nat->Option Nat)(a:List Int)(gi:Nat):Nat:=qbr p (qC p).1 fx ((NG p).getD gi []) (((NG p).take gi).flatten.map fun i=>(i,aN a i))
noncomputable def vX(p:Problem)(gi:Int)(a:List Int):Int×Int :=
 if gi<0\/((NG p).length:Int)<=gi\/qL p.vars a=false then(0,1)
 else if qiF p (fun _=>none) a gi.toNat=0 then(0,11) else if qiF p (fun _=>none) a gi.toNat=lim then(0,3) else(qiF p (fun _=>none) a gi.toNat,0)
noncomputable def chP(p:Problem)(a:List Int)(gi:Nat):List Nat->(Nat->Option Nat)->Int->List Int->List Int
 |[],_,_,out=>out
 | i::r,fx,idx,out=>
  let q:=wH (fun x=>qiF p (wP fx i x) a gi) (2^wdN p i) 0 idx
  chP p a gi r (wP fx i q.1) q.2 (out.set i q.1)
noncomputable def JL(p:Problem)(gi:Nat)(a:List Int)(idx:Int):List Int:=chP p a gi (kU ((NG p).getD gi [])) (fun _=>none) idx a
def qiS(p i):wdN p i=jO p i:=by
 unfold wdN jO zP;split<;>rename_i h<;>simp[h]
def qfR(F):∀(n x) (idx),0<n->x<=(wH F n x idx).1/\(wH F n x idx).1<x+n
 |0,x,idx,h=>absurd h (by omega)
 | n+1,x,idx,_=>by
  unfold wH;split
  . exact⟨qA5 _,by simp⟩
  split
  . exact⟨qA5 _,by simp⟩
  have:=qfR F n (x+1) (idx-F x) (by omega);omega
def KB{F G}:∀(n x) (idx),(∀y,x<=y->y<x+n->F y=G y)->wH F n x idx=wH G n x idx
 |0,x,idx,h=>rfl
 | n+1,x,idx,h=>by
  unfold wH;rw[h x (qA5 _) (by omega),KB n (x+1) _ fun y h1 h2=>h y (by omega) (by omega)]
def qmq.upd{p fx}(h:qmq p fx){i x}(hx:x<2^jO p i):qmq p (wP fx i x):=fun k y hy=>by
 unfold wP at hy;split at hy
 . rename_i e;subst e;have:x=y:=by simpa using hy
   omega
 exact h k y hy
def qvT{s d p a gi}(hp:s.p=p)(hs:∀fx,qmq p fx->qbY s d fx a gi=qiF p fx a gi):∀(l) (fx) (idx) (out),qmq p fx->chS s d a gi l fx idx out=chP p a gi l fx idx out:=by
 intro l
 induction l with
 |nil=>intro fx idx out _;rfl
 | cons i r ih=>
  intro fx idx out hf;have hpk:wH (fun x=>qbY s d (wP fx i x) a gi) (2^wdN s.p i) 0 idx=wH (fun x=>qiF p (wP fx i x) a gi) (2^wdN p i) 0 idx:=by
   rw[hp];refine KB _ _ _ fun y _ hy=>hs _ (hf.upd ?_)
   rw[qiS]at hy;omega
  have hlt:=qfR (fun x=>qiF p (wP fx i x) a gi) (2^wdN p i) 0 idx (qDS _);rw[qiS]at hlt;unfold chS chP;dsimp only;rw[hpk];rw[qiS]at *;exact ih _ _ _ (hf.upd (by omega))
def QU{p}(h:qo p=0){a}(ha:qL p.vars a=true):a.length=p.vars.length/\∀i∈(NG p).flatten,aN a i<2^jO p i:=by
 unfold qL at ha;simp only[qA1,decide_eq_true_eq]at ha;refine⟨ha.1,fun i hi=>?_⟩;obtain⟨v,hv,hm⟩:=kE h hi;have hil:=(qAU.1 hv).1;obtain⟨x,hx⟩:∃x,a[i]?=some x:=⟨_,qAW (by omega)⟩;have hz:(v,x)∈p.vars.zip a:=qAV (i:=i) (qCA.2 ⟨hv,hx⟩);have h1:=qA3.1 ha.2 _ hz;unfold zG at h1;simp at h1;have h3:((2^v.width.toNat:Nat):Int)=(2:Int)^v.width.toNat:=by simp
 unfold aN;rw[qA8,hx,(qqL h hv).1];dsimp only[Option.getD];omega
structure SpR(p)(s:Spc)(d):Prop where
 pe:s.p=p
 R:s.R=(qC p).1
 v:SpV s d
 root:s.small=true->∀b,evD d b s.root=yD p.vars (qC p).1 (QV p.vars (qS p) b)
def SpR.sum{p s d}(h:SpR p s d){a}(ha:qL p.vars a=true){gi}(hgi:gi<(NG p).length)(fx)(hf:qmq p fx):qbY s d fx a gi=qiF p fx a gi:=by
 obtain⟨hp,hR,hv,hr⟩:=h;subst hp;have:=qq3 hv (by rwa[hR]) hf (QU hv.vp ha).2 hgi;rw[this,hR];rfl
def SpR.tot{p s d}(h:SpR p s d)(gi a):Vh s d gi a=vX p gi a:=by
 unfold Vh vX;rw[h.pe];split
 . rfl
 rename_i hn;have h1:qL p.vars a=true:=by
  cases hA:qL p.vars a with
  |true=>rfl
  |false=>exact absurd (.inr (.inr hA)) hn
 have h2:gi.toNat<(NG p).length:=by
  have:¬gi<0:=fun e=>hn (.inl e)
  have:¬((NG p).length:Int)<=gi:=fun e=>hn (.inr (.inl e))
  omega
 rw[h.sum h1 h2 _ (fun i x hx=>by cases hx)]
def SpR.ch{p s d}(h:SpR p s d){a}(ha:qL p.vars a=true){gi}(hgi:gi<(NG p).length)(idx):qbb s d gi a idx=JL p gi a idx:=by
 unfold qbb JL;rw[qvT h.pe (fun fx hf=>h.sum ha hgi fx hf) _ _ _ _ (fun i x hx=>by cases hx),h.pe]
def qlF(p a gi):∀(l) (fx) (idx) (out),(chP p a gi l fx idx out).length=out.length
 |[],_,_,_=>rfl
 | i::r,fx,idx,out=>by
  unfold chP;dsimp only;rw[qlF p a gi r];simp
def qeT(p gi a idx):(JL p gi a idx).length=a.length:=qlF _ _ _ _ _ _ _
noncomputable def wj(p:Problem)(R:List Ex)(fx:Nat->Option Nat):List Nat->List (Nat×Nat)->Nat
 |[],c=>if okC p R c=true then 1 else 0
 |i::r,c=>ku (fun v=>wtP p i v*wj p R fx r (c++[(i,v)])) (vL (jO p i) (fx i))
def qrQ{p R c d}(h:okC p R (c++d)=true):okC p R c=true:=by
 unfold okC at h⊢;obtain⟨a,ha,hs⟩:=qBr.1 h;rw[qA1,qCx,qA1]at hs;exact qBr.2 ⟨a,ha,by rw[qA1];exact⟨hs.1,hs.2.1⟩⟩
def Vg{p R fx}:∀(g) (c),okC p R c≠true->wj p R fx g c=0
 |[],c,h=>if_neg h
 | i::r,c,h=>by
  unfold wj;refine ZA fun v _=>?_
  rw[Vg r _ (fun h'=>h (qrQ h')),qEM]
def quy(w t)(h:w<=lim):sat (w*sat t)=sat (w*t):=by
 have:=qre w t;have e:sat w=w:=qCq h
 rwa[e]at this
def qgu{α}(w t:α->Nat)(hw:∀x,w x<=lim):∀(l) (s),l.foldl (fun s v=>sat (s+sat (w v*sat (t v)))) (sat s)=sat (s+ku (fun v=>w v*t v) l)
 |[],s=>by simp[ku]
 | x::l,s=>by
  rw[qBw,quy _ _ (hw x),qrf,qgu w t hw l];simp only[ku];rw[qC0]
def qb1{p R fx}:∀(g:List Nat) (c:List (Nat×Nat)),qbr p R fx g c=sat (wj p R fx g c)
 | [],c=>by
  unfold qbr wj;split<;>rfl
 | i::r,c=>by
  by_cases h:okC p R c=true
  . unfold qbr wj;rw[if_pos h];have e:(fun s v=>sat (s+sat (wtP p i v*qbr p R fx r (c++[(i,v)]))))=(fun s v=>sat (s+sat (wtP p i v*sat (wj p R fx r (c++[(i,v)]))))):=by
     funext s v;rw[qb1 r]
    rw[e];have:=qgu (fun v=>wtP p i v) (fun v=>wj p R fx r (c++[(i,v)])) (fun v=>qfb p i v) (vL (jO p i) (fx i)) 0;rw[qCC]at this;exact this
  rw[Vg _ _ h];unfold qbr;rw[if_neg h];rfl
def qbZ{α β}(F:α->β->Nat):∀(l) (m),ku (fun v=>ku (fun x=>F v x) m) l=ku (fun x=>ku (fun v=>F v x) l) m
 |[],m=>by simp only[ku];exact(ZA fun _ _=>rfl).symm
 | a::l,m=>by
  simp only[ku];rw[qbZ F l m]
  induction m with
  |nil=>rfl
  |cons x m ih=>simp only[ku];omega
noncomputable def jR(p:Problem)(val:Nat->Nat):List Nat->Nat
 |[]=>1
 |i::r=>wtP p i (val i)*jR p val r
def qbX(p fx a gi):qiF p fx a gi=sat (wj p (qC p).1 fx ((NG p).getD gi []) (((NG p).take gi).flatten.map fun i=>(i,aN a i))):=qb1 _ _
def qcv{α:Type}[DecidableEq α]:∀{a b:List α},a.Nodup->(∀x∈a,x∈b)->a.length<=b.length
 |[],_,_,_=>by simp
 | x::a,b,hn,hs=>by
  rw[qDA]at hn;have hx:=hs x (by simp);have h1:a.length<=(b.erase x).length:=qcv hn.2 fun y hy=>by
   have hne:y≠x:=(by rintro rfl;exact hn.1 hy);exact(List.mem_erase_of_ne hne).2 (hs y (by simp[hy]))
  rw[qEL hx]at h1;have:=qEY hx;simp only[qBc];omega
def Yl(p:Problem)(a:List Int)(gi:Nat):List (Nat×Nat):=((NG p).take gi).flatten.map fun i=>(i,aN a i)
def qq0{p}{gi:Nat}{a}(h:(vX p gi a).2=0):gi<(NG p).length/\qL p.vars a=true/\(vX p gi a).1=(wj p (qC p).1 (fun _=>none) ((NG p).getD gi []) (Yl p a gi):Nat)/\0<wj p (qC p).1 (fun _=>none) ((NG p).getD gi []) (Yl p a gi)/\wj p (qC p).1 (fun _=>none) ((NG p).getD gi []) (Yl p a gi)<lim:=by
 unfold vX at h⊢;split at h
 . cases h
 rename_i hn;split at h
 . cases h
 rename_i h1;split at h
 . cases h
 rename_i h2;rw[if_neg hn,if_neg h1,if_neg h2];have hg:gi<(NG p).length:=by
  have:¬((NG p).length:Int)<=gi:=fun e=>hn (.inr (.inl e))
  omega
 have ha:qL p.vars a=true:=by
  cases hA:qL p.vars a with
  |true=>rfl
  |false=>exact absurd (.inr (.inr hA)) hn
 have e:qiF p (fun _=>none) a (gi:Int).toNat=sat (wj p (qC p).1 (fun _=>none) ((NG p).getD gi []) (Yl p a gi)):=qbX _ _ _ _;rw[e]at h1 h2⊢;have h3:=quz h2;rw[h3]at h1⊢;refine⟨hg,ha,rfl,qDj h1,?_⟩;have:=Kh (wj p (qC p).1 (fun _=>none) ((NG p).getD gi []) (Yl p a gi));omega
def qjr{vs l m}(h:∀e,e∈l↔e∈m):jQ vs l=jQ vs m:=by
 have:∀a,yD vs l a=yD vs m a:=fun a=>by
  unfold yD;rw[qBP,qA3,qA3];exact⟨fun h1 e he=>h1 e ((h e).2 he),fun h1 e he=>h1 e ((h e).1 he)⟩
 unfold jQ;congr 1;funext a;exact this a
def KW(vs):∀(L) (R),jQ vs R=true->jQ vs (R++(yu vs R L).map (·.2))=true
 |[],R,h=>by simpa[yu] using h
 | x::r,R,h=>by
  unfold yu;split
  . rename_i h1;have:=KW vs r (R++[x.2]) h1;simpa using this
  exact KW vs r R h
def kJ{p}(h:(qC p).2=0):qo p=0/\jQ p.vars (zy p)=true/\jQ p.vars (qC p).1=true/\∀e∈zy p,e∈(qC p).1:=by
 rw[wQ]at h;obtain⟨h1,h2,h3,_⟩:=v7 h;refine⟨h1,h2,?_,fun e he=>?_⟩
 . rw[h3];have:=KW p.vars (Zj p.soft) (zy p) h2;rw[<- this];refine qjr fun e=>?_
   have hn:qes p=zy p:=by
    unfold qes zy;have:jF p=wk p:=if_pos h1;rw[this]
   unfold Zk;rw[hn];simp
 rw[h3];exact qBJ _ he
def qaZ{env e}(h:jz env e≠0):Qs env e=0/\yn env e≠0:=by
 unfold jz at h;split at h
 . rename_i hc;refine⟨?_,h⟩;unfold Qs;rw[if_neg (by simp[hc.1]),if_pos hc.2]
 exact absurd rfl h
def qsE{p:Problem}(hv:qo p=0){a:List Int}(ha:a∈jH p.vars){i:Nat}{v:Var}{z:Int}(hi:p.vars[i]?=some v)(hz:a[i]?=some z):jB (yo p.vars a) v.name=some z/\0<=z/\z<(zU v:Nat)\/v.mode=0:=by
 by_cases hm:v.mode=0
 . exact .inr hm
 left;have hok:=wc.1 ha;obtain⟨x,hx,hxr⟩:=wy hok hi;rw[hz]at hx;cases hx;rw[if_neg hm]at hxr;have hve:=zi (jd hv v (qAV hi));have h3:2^v.width.toNat<=2^8:=qBn (by omega) (by omega);have hsz:zU v=2^v.width.toNat:=rfl;have hf:=Qp (yW hv) hi hz;rw[QB hxr.1 (by omega)]at hf;rw[show yo p.vars a=(p.vars.zip a).map fun q=>⟨q.1.name,q.2⟩ by unfold yo;rw[if_pos hok.len]];exact⟨hf,hxr⟩
def qhf{v}(h:j4 v=0):0<=v.value/\v.value<(2:Int)^v.width.toNat:=by
 unfold j4 at h;split at h
 . cases h
 split at h
 . cases h
 rename_i hc;omega
def qrg(p l a):qiG p l a=yD p.vars l a:=by
 unfold qiG yD;apply qBP.2;simp only[qA3];constructor
 . intro h e he;have:=h e he;simp at this;simpa using this.2
 intro h e he;have:=h e he;have h2:jz (yo p.vars a) e≠0:=by simpa using this
 have h3:=(qaZ h2).1;simp[h2,h3]
def qm1(p l):qd9 p l=(jH p.vars).filter (yD p.vars l):=by
 unfold qd9;congr 1;funext a;exact qrg p l a
noncomputable def Jf(p:Problem):List (List Int)×Int:=if(qC p).2=0 then((jH p.vars).filter (yD p.vars (qC p).1),0) else([],(qC p).2)
def qv9(p)(h:RfH p)(hb:wh p.vars (qQ p)<=18):Pure prog GG 22 [.agg (qA p)] (.tup [.sl 1 ((Jf p).1.map qD) .none,.int .i64 (Jf p).2]):=by
 refine qFm qg func22 rfl (by kernel_rfl) ?_;have hr:=qnd p h;simp only[qA]at hr;by_cases he:(qC p).2=0
 case neg=>
  have ha:Jf p=([],(qC p).2):=if_neg he;rw[ha];simp;refine qFp (G:=zl GG) hr (by simp) ?_;simp[he,Leq,zm]
 obtain⟨hv,hrt,hrl,_⟩:=Km h.vq h.dists h.soft he;rw[show Jf p=(qd9 p (qC p).1,0) by unfold Jf;rw[if_pos he,qm1]];rw[he]at hr;have hal:(jH p.vars).length<2^30:=by
  obtain⟨h1,h2⟩:=YQ hv h.vq.vars;rw[h2];have:(p.vars.map qlN).sum<=18:=by omega
  have:=qBn (n:=2) (by decide) this;omega
 have hs:=qap p (qC p).1 h.vq.vars (Y2 hv) (fun v hm=>by have:=zi (jd hv v hm);omega) (by unfold Fits;omega) (fun e he=>(hrt e he).2) hal;simp only[qA]at hs;generalize qd9 p (qC p).1=S at *;generalize (qC p).1=L at *;simp;refine qFp (G:=zl GG) hr (by simp) ?_;simp;refine qFp (G:=zl GG) hs (by simp) ?_;simp
def agV(a b:List Int)(v:Int):Bool:=decide (a.getD v.toNat 0=b.getD v.toNat 0)
def agG(a b:List Int)(g:List Int):Bool:=g.all (agV a b)
def jf(G:List (List Int))(f t:Nat)(a b:List Int):Bool:=((G.drop f).take (t-f)).all (agG a b)
def qgR(p:Problem)(f t)(a b:List Int)(ht:t<=p.groups.length)(hf:f<=t)(hG:p.groups.length<=10000000)(hg:∀g∈p.groups,g.length<=10000000/\∀v∈g,0<=v/\v<(a.length:Nat)/\v<(b.length:Nat)):
 Pure prog GG 151 [.agg (qA p),.int .i64 f,.int .i64 t,.sl 1 (a.map qh) .none,.sl 1 (b.map qh) .none] (.bool (jf p.groups f t a b)):=by
 refine qFm qg func151 rfl (by kernel_rfl) ?_;obtain⟨r,hr⟩:∃r,r=jf p.groups f t a b:=⟨_,rfl⟩;rw[<- hr];simp;refine qFu (fun m ev U=>∃i,m=t-i/\f<=i/\i<=t/\ev 2=.int .i64 t/\ev 3=.sl 1 (a.map qh) .none/\ev 4=.sl 1 (b.map qh) .none/\ev 5=.ptr 0 0/\ev 11=.int .i64 i/\U=⟨[.cells (qA p)],[]⟩/\r=jf p.groups i t a b) (t-f) ?_ ?_
 . exact⟨f,rfl,qA5 _,hf,by simp,by simp,by simp,by simp,by simp,by simp,hr⟩
 rintro m ev U R hR ⟨i,rfl,hfi,hi,e2,e3,e4,e5,e11,rfl,hri⟩;by_cases hlt:i<t
 case neg=>
  have hlt':¬(i:Int)<t:=by omega
  simp[e2,e11,hlt',show r=true by rw[hri];unfold jf;rw[show t-i=0 by omega];rfl]
 have hw:=wr (n:=(i:Int)+1) (by omega) (by omega);obtain⟨g,hgi⟩:∃g,p.groups[i]?=some g:=⟨_,qAW (by omega)⟩;obtain⟨hgl,hgv⟩:=hg g (qAV hgi);have hrs:r=(agG a b g&&jf p.groups (i+1) t a b):=by
  rw[hri];unfold jf;rw[zf hgi,show t-i=(t-(i+1))+1 by omega,qCt,qCm]
 simp[e2,e11,show(i:Int)<t by omega];refine qFu (fun m ev U=>∃k,m=g.length-k/\k<=g.length/\ev 2=.int .i64 t/\ev 3=.sl 1 (a.map qh) .none/\ev 4=.sl 1 (b.map qh) .none/\ev 5=.ptr 0 0/\ev 11=.int .i64 i/\ev 12=.int .i64 k/\U=⟨[.cells (qA p)],[]⟩/\r=((g.drop k).all (agV a b)&&jf p.groups (i+1) t a b)) g.length ?_ ?_
 . exact⟨0,rfl,by omega,by simp[e2],by simp[e3],by simp[e4],by simp[e5],by simp[e11],by simp,rfl,by rw[hrs];rfl⟩
 rintro m ev U R2 hR2 ⟨k,rfl,hk,e2,e3,e4,e5,e11,e12,rfl,hrk⟩;by_cases hkl:k<g.length
 case neg=>
  rw[show g.drop k=[] by simp;omega]at hrk;have hrk:=hrk;have hkl':¬(k:Int)<g.length:=by omega
  simp[e5,e11,e12,hgi,hkl',hw];exact hR (t-(i+1)) _ _ (by omega) ⟨i+1,rfl,by omega,by omega,by simp[e2],by simp[e3],by simp[e4],by simp[e5],by simp,by simp,hrk⟩
 have hkl':(k:Int)<g.length:=by omega
 have hw2:=wr (n:=(k:Int)+1) (by omega) (by omega);obtain⟨v,hv⟩:∃v,g[k]?=some v:=⟨_,qAW hkl⟩;obtain⟨v0,va,vb⟩:=hgv v (qAV hv);obtain⟨w,rfl⟩:=qBe v0;obtain⟨x,hx⟩:∃x,a[w]?=some x:=⟨_,qAW (by omega)⟩;obtain⟨y,hy⟩:∃y,b[w]?=some y:=⟨_,qAW (by omega)⟩;rw[zf hv,qCm,show agV a b (w:Int)=decide (x=y) by unfold agV;simp[List.getD,hx,hy]]at hrk;by_cases hxy:x=y
 . subst hxy;simp[e3,e4,e5,e11,e12,hgi,hkl',hv,hx,hy,hw2];exact hR2 (g.length-(k+1)) _ _ (by omega) ⟨k+1,rfl,by omega,by simp[e2],by simp[e3],by simp[e4],by simp[e5],by simp[e11],by simp,by simp,by rw[hrk];simp⟩
 have hr0:r=false:=by rw[hrk];simp[hxy]
 simp[e3,e4,e5,e11,e12,hgi,hkl',hv,hx,hy,hxy,hr0]
def qh7(x:Int):List Int->List Int->List Int
 |[],B=>x::B
 |a::A,B=>if x<a then qh7 x A (a::B) else A.reverse++a::x::B
def zS(l:List Int):List Int:=l.foldl (fun S x=>qh7 x S.reverse []) []
def qgk(x):∀A B,(qh7 x A B).length=A.length+B.length+1
 |[],B=>by simp[qh7]
 | a::A,B=>by
  unfold qh7;split
  . rw[qgk x A];simp;omega
  simp;omega
def Jl(l x):zS (l++[x])=qh7 x (zS l).reverse []:=by unfold zS;rw[qBX];rfl
def Kd(l):(zS l).length=l.length:=by
 induction hn:l.length generalizing l with
 |zero=>rw[qA6 hn];rfl
 | succ n ih=>
  obtain⟨d,x,rfl⟩:∃d x,l=d++[x]:=⟨l.dropLast,l.getLast (by rintro rfl;simp at hn),(qB9 _).symm⟩;rw[Jl,qgk,qEn,ih d (by simpa using hn)];rfl
def qjn(l)(hl:l.length<=1000000):Pure prog GG 229 [.sl 1 (l.map qh) .none] (.sl 1 ((zS l).map qh) .none):=by
 refine qFl oM true qg func229 rfl (by kernel_rfl) ?_;by_cases h0:l=[]
 . subst h0;simp[oM,zx,ja,qV,Kc,qq,za];refine qFu (fun m ev U=>ev 3=.sl 0 [] .nil/\ev 4=.int .i64 1) 0 ⟨by simp,by simp⟩ ?_;rintro m ev U R hR ⟨e3,e4⟩;simp[e3,e4];rw[qF (by simp)];exact⟨by simp,by simp[zS,Leq]⟩
 have hl0:=qBf.2 h0;simp[oM,zx,ja,qV,Kc,show ¬(l.length=0) by omega,show l.length<=549755813888 by omega,h0];refine qFu (fun m ev U=>∃i T,m=l.length-i/\1<=i/\i<=l.length/\ev 3=.ms 0 0 l.length 1/\ev 4=.int .i64 i/\U=⟨[.cells (zb (zS (l.take i)++l.drop i))],T⟩) (l.length-1) ?_ ?_
 . refine⟨1,[],by omega,by omega,by omega,by simp,by simp,?_⟩;obtain⟨a,q,rfl⟩:∃a q,l=a::q:=by
    cases l with
    |nil=>exact absurd rfl h0
    |cons a q=>exact⟨a,q,rfl⟩
   have:zS ((a::q).take 1)++(a::q).drop 1=a::q:=rfl;rw[this,jM,qCD]
 rintro m ev U R hR ⟨i,T,rfl,h1,hi,e3,e4,rfl⟩;by_cases hlt:i<l.length
 case neg=>
  have hil:i=l.length:=by omega
  subst hil;have hlt':¬(l.length:Int)<l.length:=by omega
  have hrow:zS (l.take l.length)++l.drop l.length=zS l:=by rw[qCr,qBL,qBC]
  rw[hrow];simp[e3,e4];have hsl:=Kd l;rw[<- hsl];have ho:jr 0 1 qh [.cells (zb (zS l))] (.ms 0 0 (zS l).length 1) (zS l):=.inr ⟨fun h=>by rw[h]at hsl;simp at hsl;omega,rfl,by rw[jM];rfl⟩;exact⟨ho.frzNo (fun x=>by simp) (fun x=>by simp) (fun x=>by simp) 7,ho.frz (fun x=>by simp) (fun x=>by simp) (fun x=>by simp) 7⟩
 have hw:=wr (n:=(i:Int)+1) (by omega) (by omega);obtain⟨x,hx⟩:∃x,l[i]?=some x:=⟨_,qAW hlt⟩;have hSl:(zS (l.take i)).length=i:=by rw[Kd,qBG];omega
 have htk:zS (l.take (i+1))=qh7 x (zS (l.take i)).reverse []:=by
  rw[qBi,hx];exact Jl _ _
 obtain⟨Q,hQ⟩:∃Q,Q=l.drop (i+1):=⟨_,rfl⟩;have hQl:Q.length=l.length-(i+1):=by rw[hQ,qCM]
 rw[zf hx,<- hQ];generalize hTG:qh7 x (zS (l.take i)).reverse []=TG at *;generalize zS (l.take i)=S at *;simp[e3,e4,show(i:Int)<l.length by omega];refine qFu (fun m ev U=>∃A B,m=A.length/\A.length+B.length=i/\ev 3=.ms 0 0 l.length 1/\ev 4=.int .i64 i/\ev 5=.int .i64 (A.length:Nat)/\U=⟨[.cells (zb (A.reverse++x::(B++Q)))],T⟩/\qh7 x A B=TG) S.length ?_ ?_
 . exact⟨S.reverse,[],by simp,by simp[hSl],by simp[e3],by simp[e4],by simp[hSl],by simp,hTG⟩
 clear e3 e4;rintro m ev U R2 hR2 ⟨A,B,rfl,hAB,e3,e4,e5,rfl,hin⟩;have fin:∀ev',ev' 3=.ms 0 0 l.length 1->ev' 4=.int .i64 ((i:Int)+1)->TG=A.reverse++x::B->R ev' ⟨[.cells (zb (A.reverse++x::(B++Q)))],T⟩:=fun ev' a3 a4 h=>
  hR (l.length-(i+1)) _ _ (by omega) ⟨i+1,T,rfl,by omega,by omega,a3,by rw[a4];simp,by rw[htk,h,<- hQ];simp⟩
 cases A with
 | nil=>
  simp[e4,e5,hw];exact fin _ (by simp[e3]) (by simp) (by rw[<- hin];rfl)
 | cons a A=>
  obtain⟨P,hP⟩:∃P,P=A.reverse:=⟨_,rfl⟩;obtain⟨m,hm⟩:∃m,m=A.length:=⟨_,rfl⟩;have hPl:(zb P).length=m:=by rw[qR,hP,qEn,hm]
  obtain⟨Z,hZ⟩:∃Z,Z=zb (B++Q):=⟨_,rfl⟩;have hrow:∀y z,zb (P++y::z::(B++Q))=zb P++.int .i64 y::.int .i64 z::Z:=fun y z=>by rw[hZ];simp[zb]
  have hd1:∀y z,(zb P++AV.int .i64 y::.int .i64 z::Z).drop m=.int .i64 y::.int .i64 z::Z:=fun y z=>by
   rw[qCB (by omega),qBq (by omega)];rfl
  have hd2:∀y z,(zb P++AV.int .i64 y::.int .i64 z::Z).drop (m+1)=.int .i64 z::Z:=fun y z=>by
   rw[show m+1=m+1 from rfl,<- qEo,hd1];rfl
  have hs1:∀y z w,(zb P++AV.int .i64 y::.int .i64 z::Z).set m (.int .i64 w)=zb P++.int .i64 w::.int .i64 z::Z:=fun y z w=>by
   rw[qBK _ _ (by omega),hPl,qBS];rfl
  have hs2:∀y z w,(zb P++AV.int .i64 y::.int .i64 z::Z).set (m+1) (.int .i64 w)=zb P++.int .i64 y::.int .i64 w::Z:=fun y z w=>by
   rw[qBK _ _ (by omega),hPl,show m+1-m=1 by omega];rfl
  have hln:∀y z,(zb P++AV.int .i64 y::.int .i64 z::Z).length=l.length:=fun y z=>by
   simp only[qAY,qBc,hPl,show Z.length=B.length+Q.length by rw[hZ,qR,qAY]]at *;omega
  have hml1:m+1<l.length:=by simp at hAB;omega
  have hml2:m+1<=l.length:=by omega
  have hml3:m+2<=l.length:=by omega
  have hml4:(m:Int)+1<l.length:=by omega
  have hml5:(m:Int)<l.length:=by omega
  have hwm:=wr (n:=(m:Int)) (by omega) (by omega);have e5':ev 5=.int .i64 ((m:Int)+1):=by rw[e5,hm];simp
  have hp1:(0:Int)<(m:Int)+1:=by omega
  have hp2:(0:Int)<=(m:Int)+1:=by omega
  have hrA:(a::A).reverse++x::(B++Q)=P++a::x::(B++Q):=by rw[hP];simp
  have hin2:=hin;unfold qh7 at hin2;by_cases hxa:x<a
  . rw[if_pos hxa]at hin2;rw[hrA,hrow];simp[e3,e5',hp1,hp2,hml2,hml3,hml4,hml5,hd1,hd2,hs1,hs2,hln,hwm,hxa];refine hR2 A.length _ _ (by simp) ⟨A,a::B,rfl,by simp at hAB⊢;omega,by simp[e3],by simp[e4],by simp[hm],?_,hin2⟩;rw[<- hP,qBl,hrow]
  rw[if_neg hxa]at hin2;have yP:=fin;rw[hrA,hrow]at yP⊢;simp[e3,e4,e5',hp1,hp2,hml2,hml3,hml4,hml5,hd1,hd2,hln,hwm,hxa,hw];exact yP _ (by simp[e3]) (by simp) (by rw[<- hin2];simp)
def qgj{x v}:∀{A B:List Int},v∈qh7 x A B↔v=x\/v∈A\/v∈B
 |[],B=>by simp[qh7]
 | a::A,B=>by
  unfold qh7;split
  . rw[qgj];simp only[qBt];constructor
    . rintro(h|h|h|h)
      . exact .inl h
      . exact .inr (.inl (.inr h))
      . exact .inr (.inl (.inl h))
      . exact .inr (.inr h)
    rintro(h|(h|h)|h)
    . exact .inl h
    . exact .inr (.inr (.inl h))
    . exact .inr (.inl h)
    exact .inr (.inr (.inr h))
  simp only[qBb,qEb,qBt];constructor
  . rintro(h|h|h|h)
    . exact .inr (.inl (.inr h))
    . exact .inr (.inl (.inl h))
    . exact .inl h
    . exact .inr (.inr h)
  rintro(h|(h|h)|h)
  . exact .inr (.inr (.inl h))
  . exact .inr (.inl h)
  . exact .inl h
  exact .inr (.inr (.inr h))
def ZE{v}(l):v∈zS l↔v∈l:=by
 induction hn:l.length generalizing l with
 |zero=>rw[qA6 hn];simp[zS]
 | succ n ih=>
  obtain⟨d,x,rfl⟩:∃d x,l=d++[x]:=⟨l.dropLast,l.getLast (by rintro rfl;simp at hn),(qB9 _).symm⟩;rw[Jl,qgj,qEb,ih d (by simpa using hn)];simp[or_comm]
def jK(a b:List Int):List Int->Bool
 |[]=>false
 |v::r=>if a.getD v.toNat 0=b.getD v.toNat 0 then jK a b r else decide (a.getD v.toNat 0<b.getD v.toNat 0)
def qr8(p:Problem)(i:Nat)(g:List Int)(a b:List Int)(hgi:p.groups[i]?=some g)(hgl:g.length<=1000000)(hgv:∀v∈g,0<=v/\v<(a.length:Nat)/\v<(b.length:Nat)):
 Pure prog GG 152 [.agg (qA p),.int .i64 i,.sl 1 (a.map qh) .none,.sl 1 (b.map qh) .none] (.bool (jK a b (zS g))):=by
 refine qFm qg func152 rfl (by kernel_rfl) ?_;have hso:=qjn g hgl;have hsl:=Kd g;have hsv:∀v∈zS g,0<=v/\v<(a.length:Nat)/\v<(b.length:Nat):=fun v hv=>hgv v ((ZE g).1 hv)
 have hil:=(qAU.1 hgi).1;generalize zS g=S at *;obtain⟨r,hr⟩:∃r,r=jK a b S:=⟨_,rfl⟩;rw[<- hr];simp;refine qFu (fun m ev U=>∃k,m=S.length-k/\k<=S.length/\ev 1=.int .i64 i/\ev 2=.sl 1 (a.map qh) .none/\ev 3=.sl 1 (b.map qh) .none/\ev 4=.ptr 0 0/\ev 9=.int .i64 k/\U=⟨[.cells (qA p)],[]⟩/\r=jK a b (S.drop k)) S.length ?_ ?_
 . exact⟨0,rfl,by omega,by simp,by simp,by simp,by simp,by simp,by simp,hr⟩
 rintro m ev U R hR ⟨k,rfl,hk,e1,e2,e3,e4,e9,rfl,hrk⟩;by_cases hkl:k<S.length
 case neg=>
  rw[show S.drop k=[] by simp;omega]at hrk;have hrk:r=false:=hrk;have hkl':¬(k:Int)<g.length:=by omega
  simp[e1,e4,e9,hgi,hkl',hrk]
 have hkl1:k<g.length:=by omega
 have hw2:=wr (n:=(k:Int)+1) (by omega) (by omega);obtain⟨v,hv⟩:∃v,S[k]?=some v:=⟨_,qAW hkl⟩;obtain⟨v0,va,vb⟩:=hsv v (qAV hv);obtain⟨w,rfl⟩:=qBe v0;obtain⟨x,hx⟩:∃x,a[w]?=some x:=⟨_,qAW (by omega)⟩;obtain⟨y,hy⟩:∃y,b[w]?=some y:=⟨_,qAW (by omega)⟩;rw[zf hv]at hrk;unfold jK at hrk;simp only[qBu,List.getD,hx,hy,qDI]at hrk;simp[e1,e4,e9,hgi,show(k:Int)<g.length by omega];refine qFp (G:=zl GG) hso (by simp) ?_;by_cases hxy:x=y
 . subst hxy;rw[if_pos rfl]at hrk;simp[e2,e3,e9,hv,hx,hy,hw2,show(k:Int)<S.length by omega];exact hR (S.length-(k+1)) _ _ (by omega) ⟨k+1,rfl,by omega,by simp[e1],by simp[e2],by simp[e3],by simp[e4],by simp,by simp,hrk⟩
 rw[if_neg hxy]at hrk;simp[e2,e3,e9,hv,hx,hy,hxy,hrk]
