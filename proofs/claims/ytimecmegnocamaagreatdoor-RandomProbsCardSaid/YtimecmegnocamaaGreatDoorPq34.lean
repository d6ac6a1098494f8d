import Derived.Test.YtimecmegnocamaaGreatDoorPq33
import Derived.Test.YtimecmegnocamaaGreatDoorPq17
import Derived.Test.YtimecmegnocamaaGreatDoorPq29
set_option maxRecDepth 100000
set_option maxHeartbeats 16000000
set_option linter.all false
set_option linter.defProp false
namespace Go.Proofs.YtimecmegnocamaaGreatDoor
open Go Go.Abs Tryz
def qcL(env e):jL env e=((zQ [2] e).all (fun s=>(jB env s).isSome)&&(zQ [3,24] e).all fun s=>(jB env (zX s 0)).isSome):=by
 rw[qBP,qA1,jL];simp only[qA3];constructor
 . intro h;refine⟨fun s hs=>?_,fun s hs=>?_⟩
   . obtain⟨x,hx,hop,rfl⟩:=yd.1 hs;have:=h x hx;have h2:x.op=2:=(by simpa using hop);simpa[qiJ,h2] using this
   obtain⟨x,hx,hop,rfl⟩:=yd.1 hs;have:=h x hx;have h3:x.op=3\/x.op=24:=(by simpa using hop);unfold qiJ at this
   rwa[if_neg (by omega),if_pos h3]at this
 rintro⟨h1,h2⟩ x hx;unfold qiJ;split
 . rename_i h;exact h1 _ (yd.2 ⟨x,hx,by simp[h],rfl⟩)
 split
 . rename_i h;exact h2 _ (yd.2 ⟨x,hx,by simpa using h,rfl⟩)
 rfl
def ql8{α:Type}{p:α->Bool}{l:List α}{i:Nat}{a:α}(h:l[i]?=some a)(hp:p a=false):l.all p=false:=qe5 (qAV h) hp
def qbn{α:Type}{p:α->Bool}{l:List α}{i:Nat}(hi:l.length<=i)(h:∀a∈l.take i,p a=true):l.all p=true:=by
 rw[qAZ hi]at h;exact qA3.2 h
def qcy{ops e}:(zQ ops e).length<=(pre e).length:=by
 unfold zQ;have:∀(l:List Ex) (s:List Str),(l.foldl (WJ ops) s).length<=s.length+l.length:=by
  intro l
  induction l with
  |nil=>intro s;simp
  | cons a r ih=>
   intro s;have h1:=ih (WJ ops s a);have h2:=vJ (ops:=ops) (s:=s) (e:=a);simp only[qBw,qBc];omega
 simpa using this (pre e) []
def qsa(env)(hl:Fits env)(e)(hwe:Wen e)(hn:y9 e)(hsz:(pre e).length<=100000):Pure prog GG 137 [.agg [.sl 2 (env.map qK) .none],.agg (qt e)] (.bool (jL env e)):=by
 refine qFP qg func137 rfl (by kernel_rfl) ?_;have hnm:=ZT e hwe hsz;have har:=QA e hwe hsz;have hk:=qcL env e;generalize jL env e=r at hk⊢;have harr:∀s∈zQ [3,24] e,s.length<=1000:=by
  intro s hs;obtain⟨x,hx,hop,rfl⟩:=yd.1 hs;have:=wA ((jk (hn x hx)).2.2.2.2.2.2.1 (by simpa using hop));omega
 have l1:=qcy (ops:=[2]) (e:=e);have l2:=qcy (ops:=[3,24]) (e:=e);generalize zQ [2] e=A at hnm l1 hk⊢;generalize zQ [3,24] e=B at har harr l2 hk⊢;simp only[qc e];simp;rw[<- qc e];refine qFz hnm (by simp) ?_
 try simp
 refine qFM (fun n ev U=>∃i,i<=A.length/\n=A.length-i/\ev 2=.ptr 0 0/\ev 3=.ptr 1 0/\ev 14=.sl 1 (A.map jm) .none/\ev 15=.int .i64 A.length/\ev 16=.int .i64 i/\U=⟨[.cells [.sl 2 (env.map qK) .none],.cells (qt e)],[]⟩/\∀s∈A.take i,(jB env s).isSome=true) A.length ⟨0,by simp[qc e]⟩ ?_;rintro n ev U ⟨i,hi,rfl,h2,h3,h14,h15,h16,rfl,hz⟩
 cases hv:A[i]? with
 | some s=>
  obtain⟨hc,hv'⟩:=qAU.1 hv;simp[h2,h3,h14,h15,h16,hc,hv'];refine qFz (qeG env s hl) (by simp) ?_;cases hf:(jB env s).isSome
  . rw[ql8 (p:=fun s=>(jB env s).isSome) hv hf,qDf]at hk;subst hk;simp[Q5,hf]
  simp[Q5,hf,h2,h3,h14,h15,h16];exact⟨_,by omega,i+1,by omega,rfl,wr (by omega) (by omega),by simpa using q9 (p:=fun s=>(jB env s).isSome=true) hv (by simpa using hz) hf⟩
 | none=>
  have hlen:A.length<=i:=by simpa using hv
  have hc:¬i<A.length:=by omega
  rw[qbn (p:=fun s=>(jB env s).isSome) hlen hz,qB7]at hk;simp[h3,h14,h15,h16,hc,qc e];rw[<- qc e];refine qFz har (by simp) ?_
  try simp
  have h2':=h2;refine qFM (fun n ev U=>∃i,i<=B.length/\n=B.length-i/\ev 2=.ptr 0 0/\ev 30=.sl 1 (B.map jm) .none/\ev 31=.int .i64 B.length/\ev 32=.int .i64 i/\U=⟨[.cells [.sl 2 (env.map qK) .none],.cells (qt e)],[]⟩/\∀s∈B.take i,(jB env (zX s 0)).isSome=true) B.length ⟨0,by simp[qc e,h2']⟩ ?_;rintro n ev U ⟨i,hi,rfl,h2,h30,h31,h32,rfl,hz⟩
  cases hv:B[i]? with
  | some s=>
   obtain⟨hc,hv'⟩:=qAU.1 hv;obtain⟨b,hb,hb0⟩:=qe0 (env:=env) (a:=s) (i:=0);have hb0:=hb0 rfl;have hat:=qta env s 0 hl (harr s (qAV hv));rw[hb]at hat;simp[h2,h30,h31,h32,hc,hv'];refine qFz hat (by simp) ?_;cases hf:(jB env (zX s 0)).isSome
   . rw[ql8 (p:=fun s=>(jB env (zX s 0)).isSome) hv hf]at hk;subst hk;simp[hb0,hf]
   simp[hb0,hf,h2,h30,h31,h32];exact⟨_,by omega,i+1,by omega,rfl,wr (by omega) (by omega),by simpa using q9 (p:=fun s=>(jB env (zX s 0)).isSome=true) hv (by simpa using hz) hf⟩
  | none=>
   have hlen:B.length<=i:=(by simpa using hv);have hc:¬i<B.length:=(by omega);rw[qbn (p:=fun s=>(jB env (zX s 0)).isSome) hlen hz]at hk;subst hk;simp[h30,h31,h32,hc]
def qqa(env)(hl:Fits env)(e)(hwe:Wen e)(hh:hgt e<1000000)(hsz:(pre e).length<=100000):Pure prog GG 77 [.agg (qt e),.sl 2 (env.map qK) .none] (.tup [.int .i64 (jz env e),.int .i64 (Qs env e)]):=by
 refine qFP qg func77 rfl (by kernel_rfl) ?_;have hva:=Y4 e hwe hh;have hE:Qs env e=if zp e≠0 then 1 else if jL env e=true then 0 else 7:=rfl
 have hV:jz env e=if zp e=0/\jL env e=true then yn env e else 0:=rfl
 by_cases h0:zp e=0
 . have hn:=vU h0;have hkn:=qsa env hl e hwe hn hsz;have hval:=qqT env hl e hwe hn;cases hk:jL env e
   . have e1:Qs env e=7:=(by rw[hE];simp[h0,hk]);have e2:jz env e=0:=(by rw[hV];simp[h0,hk]);rw[e1,e2];rw[h0]at hva;rw[hk]at hkn;simp only[qc e];simp[zu,zZ,qP,zA];rw[<- qc e];refine qFz hva (by simp) ?_;simp[qc e];rw[<- qc e];refine qFz hkn (by simp) ?_;simp
   have e1:Qs env e=0:=(by rw[hE];simp[h0,hk]);have e2:jz env e=yn env e:=(by rw[hV];simp[h0,hk]);rw[e1,e2];rw[h0]at hva;rw[hk]at hkn;simp only[qc e];simp[zu,zZ,qP,zA];rw[<- qc e];refine qFz hva (by simp) ?_;simp[qc e];rw[<- qc e];refine qFz hkn (by simp) ?_;simp[qc e];rw[<- qc e];refine qFz hval (by simp) ?_;simp
 have e1:Qs env e=1:=by rw[hE];simp[h0]
 have e2:jz env e=0:=by rw[hV];simp[h0]
 rw[e1,e2];simp only[qc e];simp[zu,zZ,qP,zA];rw[<- qc e];refine qFz hva (by simp) ?_;simp[h0]
def qAa(F A:Nat)(p:Problem)(l:List Ex)(s:Option (List Int)×Bool)(H:List Blk)(r:AV)(U':St):Prop :=
 KpL [F,A] H U'.H/\(∃va n,U'.H[F]?=some (.cells (qbv p l va s.2 n)))/\((∃a bh vh,s.1=some a/\r=.tup [vh,.bool true]/\qiK bh U'.H vh a)\/(s.1=none/\r=.tup [.sl 0 [] .nil,.bool false]))
def qAb(F A t:Nat)(p:Problem)(l:List Ex)(s:Option (List Int)×Bool)(H:List Blk)(n:Nat)(ev:Env)(U:St):Prop :=
 ev 0=.ptr F 0/\∃H' T' a over b c,U=⟨H',T'⟩/\KpL [F,A] H H'/\FndR F A t p l a over n H'/\okA p.vars a/\jr b 2 qK H' (ev 4) (wF p.vars c)/\c.length=p.vars.length/\b≠F/\b≠A/\H.length<=b/\s=if over then(none,true) else qdJ p.vars l n a
def qon{L:List Signal}{i g x}(h:L[i]?=some g):(L.flatMap qK).set (i*2+1) (.int .i64 x)=(L.set i ⟨g.name,x⟩).flatMap qK:=by
 induction L generalizing i with
 |nil=>simp at h
 | cons a r ih=>
  cases i with
  |zero=>simp at h;subst h;simp
  | succ i=>
   simp at h;rw[show(i+1)*2+1=(i*2+1)+2 by omega,qBm,qDB,qBm,<- ih h];simp
def qox{vs}{c a:List Int}(hc:c.length=vs.length)(ha:a.length=vs.length){i x}(hx:a[i]?=some x){g}(hg:(wF vs (a.take i++c.drop i))[i]?=some g):(wF vs (a.take i++c.drop i)).set i ⟨g.name,x⟩=wF vs (a.take (i+1)++c.drop (i+1)):=by
 apply qB2;intro k;have hl:(a.take i++c.drop i).length=vs.length:=by simp;omega
 have hl':(a.take (i+1)++c.drop (i+1)).length=vs.length:=by simp;omega
 by_cases hk:k<vs.length
 . obtain⟨v,hv⟩:∃v,vs[k]?=some v:=⟨_,qAW hk⟩;by_cases hki:k=i
   . subst hki;have h1:(a.take (k+1)++c.drop (k+1))[k]?=some x:=by
      rw[qBa (by simp;omega),qDc (by omega),hx]
     rw[qA0 (by rwa[yK hl]),vD hv h1];obtain⟨y,hy⟩:∃y,(a.take k++c.drop k)[k]?=some y:=⟨_,qAW (by omega)⟩;rw[vD hv hy]at hg;cases hg;rfl
   rw[qAX (Ne.symm hki)];have:(a.take i++c.drop i)[k]?=(a.take (i+1)++c.drop (i+1))[k]?:=by
    rw[qBO,qBO];simp only[qBG,qBY,qBM];by_cases h1:k<i
    . rw[if_pos (by omega),if_pos (by omega),if_pos (by omega),if_pos (by omega)]
    rw[if_neg (by omega),if_neg (by omega)];congr 1;omega
   obtain⟨y,hy⟩:∃y,(a.take i++c.drop i)[k]?=some y:=⟨_,qAW (by omega)⟩;rw[vD hv hy,vD hv (by rwa[<- this])]
 rw[qBs (by rw[qCj,yK hl];omega),qBs (by rw[yK hl'];omega)]
def qnv:List (Nat×Sch×List Nat):=[(1,.step 0 [9,8,3,2,1] (.step 1 [9,8,3,2] (.step 2 [9,8,3] (.step 3 [9,8] (.step 4 [9,8,7,6,5] (.step 5 [9,8,7,6] (.step 6 [9,8,7] (.step 7 [9,8] (.step 8 [9] (.step 9 [] (.done)))))))))),[8])]
def qvi{F A t p l a n H}(T)(h:FndR F A t p l a false n H)(hAl:A<H.length)(hn:n<=262144)(hl2:p.vars.length<=1000)(hok:okA p.vars a)(hw:∀v∈p.vars,0<=v.width/\v.width<=28)
 (hx:∀e∈l,Wen e/\hgt e<=1000/\(pre e).length<=100000) (hfl:Fits l):qj prog GG 245 [.ptr F 0] ⟨H,T⟩ (qAa F A p l (qdJ p.vars l n a) H):=by
 refine qFn ⟨false,qnv,[],[]⟩ qg func245 rfl (by kernel_rfl) ?_;have hF:=h.f;have hlen:=hok.len;have henv:=qsL (A:=A) (t:=t) p a hlen hl2 T h.r;simp only[qA]at henv;simp only[qbv]at hF;simp;rw[qU rfl];simp[zg,hF];refine qFs henv ?_;rintro v ⟨H1,T1⟩ ⟨rfl,hk1,b,ho,hb⟩;simp only at hk1 ho;simp;obtain⟨s,hs⟩:∃s,s=qdJ p.vars l n a:=⟨_,rfl⟩;rw[<- hs];have hFl:=(qAU.1 h.f).1;have hr1:FndR F A t p l a false n H1:=⟨(hk1.2 _ _ h.f (by simp)),fun ha=>hk1.2 _ _ (h.r ha) (by simp)⟩;rw[show yo p.vars a=wF p.vars a by rw[Qt,if_pos hlen]]at ho;refine qFu (fun m ev U=>m<=262144/\qAb F A t p l s H m ev U) n ?_ ?_
 . refine⟨hn,by simp,H1,T1,a,false,b,a,rfl,hk1.sub (by simp),hr1,hok,by simpa using ho,hlen,?_,?_,hb,by simpa using hs⟩
   . omega
   . omega
 rintro m ev U R hR ⟨hm,e0,H',T',a',over,b',c,rfl,hk,hfr,hok',ho',hc,hbF,hbA,hbH,hs'⟩;have hF':=hfr.f;have hF'l:=(qAU.1 hF').1;simp only[qbv]at hF'
 cases over with
 | true=>
  simp at hs';subst hs';simp[e0,hF'];exact⟨hk,⟨_,_,hfr.f⟩,.inr ⟨rfl,rfl⟩⟩
 | false=>
  simp only[qBz,if_false]at hs'
  cases m with
  | zero=>
   have hs':=hs';subst hs';simp[e0,hF'];exact⟨hk,⟨_,_,hfr.f⟩,.inr ⟨rfl,rfl⟩⟩
  | succ m=>
   have hlen':=hok'.len;have hw1:=wr (n:=(m:Int)) (by omega) (by omega);have hcl:=qoR (A:=A) (t:=t) a' (by omega) T' (H:=H'.set F (.cells (qbv p l (Jg A t a') false m))) (fun ha=>by
    have:=hfr.r ha;rw[qAX (Ne.symm (hfr.ne ha))];exact this)
   have hFs:∀y,(H'.set F y)[F]?=some y:=fun y=>qA0 hF'l
   simp only[qbv]at hcl;simp[e0,hF',hw1,show(0:Int)<(m:Int)+1 by omega,hFs];refine qFs hcl ?_;rintro vh ⟨H2,T2⟩ ⟨rfl,hk2,bh,hrow,hbh⟩;simp only at hk2 hrow;rw[qCj]at hbh;have hA2:a'≠[]->H2[A]?=some (.cells (zb a')):=fun ha=>hk2.2 _ _ (by rw[qAX (Ne.symm (hfr.ne ha))];exact hfr.r ha) (by simp)
   have ho2:jr b' 2 qK H2 (ev 4) (wF p.vars c):=ho'.keep fun x _ hx=>hk2.2 _ _ (by rw[qAX (Ne.symm hbF)];exact hx) (by simp)
   have hkH2:=(hk.trans (qFY (by simp))).trans (hk2.sub (by simp));have hbh':bh≠F/\bh≠A:=by
    have:=hk.1;constructor<;>omega
   have hbb:a'≠[]->bh≠b':=fun ha=>by
    have hne:wF p.vars c≠[]:=fun e=>by
     have:=yK hc;rw[e]at this;exact ha (qA6 (by rw[hlen',<- this];rfl))
    have:=ho'.lt hne;omega
   generalize hv4:ev 4=v4 at *;have hln:∀H T,YD (Dof prog) ⟨H,T⟩ 28 vh=some (.int .i64 a'.length):=fun H T=>by
    rcases hrow with⟨ha0,szt,tok,rfl⟩|⟨ha0,rfl,hbc⟩
    . simp[YD,ha0]
    simp[YD]
   by_cases hdummy:True
   . simp[-YD,hln];refine qFF a' (fun d ev2 U2=>ev2 0=.ptr F 0/\ev2 4=v4/\ev2 5=vh/\ev2 45=vh/\ev2 46=.int .i64 a'.length/\ev2 47=.int .i64 d.length/\∃H3,U2=⟨H3,T2⟩/\KpL [b'] H2 H3/\jr b' 2 qK H3 v4 (wF p.vars (a'.take d.length++c.drop d.length))) ?_ ?_ ?_
     . exact⟨by simp[e0],by simp[hv4],by simp,by simp,by simp,by simp,H2,by simp,qFV,by simpa using ho2⟩
     . rintro d x rest ev2 U2 R2 hR2 hd hx2 hlt ⟨g0,g4,g5,g45,g46,g47,H3,rfl,hk3,ho3⟩;have hdw:=wr (n:=(d.length:Int)+1) (by omega) (by omega);have ha0:a'≠[]:=fun e=>by rw[e]at hlt;simp at hlt
       obtain⟨_,hvh,hbc⟩:=hrow.resolve_left (fun h=>ha0 h.1);have g45':=g45;rw[hvh]at g45';have hdr:(zb a').drop d.length=.int .i64 x::(zb a').drop (d.length+1):=by
        obtain⟨h1,h2⟩:=qAU.1 (by rw[qa4,hx2];rfl);rw[qA9 h1,h2]
       have hcl:(a'.take d.length++c.drop d.length).length=p.vars.length:=(by simp;omega);have hel:=yK hcl;have hne:wF p.vars (a'.take d.length++c.drop d.length)≠[]:=fun e=>by rw[e]at hel;simp at hel;omega
       obtain⟨hv,hbl⟩:=ho3.at hne;obtain⟨g,hg⟩:∃g,(wF p.vars (a'.take d.length++c.drop d.length))[d.length]?=some g:=⟨_,qAW (by rw[hel];omega)⟩;have hset:=qon (x:=x) hg;have hput:=qox hc hlen' hx2 hg;have hfl2:((wF p.vars (a'.take d.length++c.drop d.length)).flatMap qK).length=p.vars.length*2:=(by rw[Go.Abs.ju (sz:=2) (fun x=>by simp),hel]);have hbll:=(qAU.1 hbl).1;rw[hel]at hv;rw[hput]at hset;generalize hFL:(wF p.vars (a'.take d.length++c.drop d.length)).flatMap qK=FL at *;simp[g4,g45',g46,g47,hlt,show H3[bh]?=some (.cells (zb a')) from hk3.2 _ _ hbc (by simpa using hbb ha0),hdr,show d.length+1<=(zb a').length by rw[qR];omega,hv,show(d.length:Int)<p.vars.length by omega,hbl,show d.length*2+1+1<=p.vars.length*2 by omega,hfl2,hset,hdw];have hcl':(a'.take (d.length+1)++c.drop (d.length+1)).length=p.vars.length:=(by simp;omega);have hel':=yK hcl';refine hR2 _ _ ⟨by simp[g0],by simp[g4],by simp[g5],by simp[g45],by simp[g46],by simp,_,rfl,hk3.trans (qFY (by simp)),?_⟩;rw[qAY,qBo];refine .inr ⟨fun e=>by rw[e]at hel';simp at hel';omega,by rw[hel'];exact hv,qA0 hbll⟩
     rintro ev2 U2 ⟨g0,g4,g5,g45,g46,g47,H3,rfl,hk3,ho3⟩;rw[show a'.take a'.length++c.drop a'.length=a' by rw[qCr,qBq (by omega),qBC]]at ho3;have hF3:FndR F A t p l a' false m H3:=⟨hk3.2 _ _ (hk2.2 _ _ (hFs _) (by simp)) (by simpa using Ne.symm hbF),fun ha=>hk3.2 _ _ (hA2 ha) (by simpa using Ne.symm hbA)⟩;have hadv:=qiA T2 hF3 hlen' (by omega) hok' hw;simp[g0,g46,g47];refine qFs hadv ?_;rintro v2 ⟨H4,T4⟩ ⟨rfl,hT4,hF4,hk4⟩;simp only at hT4 hF4 hk4;subst hT4;have ho4:jr b' 2 qK H4 v4 (wF p.vars a'):=ho3.keep fun x _ hx=>hk4.2 _ _ hx (by simp;exact⟨hbF,hbA⟩)
     have hrow4:∀u,qiK bh (H4++u) vh a':=fun u=>by
      rcases hrow with h|⟨h1,h2,h3⟩
      . exact .inl h
      exact .inr ⟨h1,h2,qf (hk4.2 _ _ (hk3.2 _ _ h3 (by simpa using hbb h1)) (by simp;exact hbh')) u⟩
     have hF4f:=hF4.f;simp only[qbv]at hF4f;have hkH4:KpL [F,A] H H4:=by
      refine⟨by have:=hkH2.1;have:=hk3.1;have:=hk4.1;omega,fun k x hk0 hn0=>?_⟩;have h2:=hkH2.2 k x hk0 hn0;have hkl:=(qAU.1 hk0).1;have h3:=hk3.2 k x h2 (by simp;omega);exact hk4.2 k x h3 hn0
     have hstep:s=if yD p.vars l a' then(some a',(qI p.vars a').2) else if(qI p.vars a').2 then(none,true) else qdJ p.vars l m (qI p.vars a').1:=hs'
     have hok4:=ZR hok';simp[hF4f,g0];have hel4:=yK hlen';have hsat:yD p.vars l a'=l.all fun e=>decide (jz (wF p.vars a') e≠0):=by unfold yD;rw[show yo p.vars a'=wF p.vars a' by rw[Qt,if_pos hlen']]
     refine qFF l (fun d ev3 U3=>ev3 0=.ptr F 0/\ev3 4=v4/\ev3 5=vh/\ev3 63=.sl 4 (l.map qt) .none/\ev3 64=.int .i64 l.length/\ev3 65=.int .i64 d.length/\(∃u,U3=⟨H4++u,T4⟩)/\∀e∈d,jz (wF p.vars a') e≠0) ?_ ?_ ?_
     . exact⟨by simp[g0],by simp[g4],by simp[g5],by simp,by simp,by simp,⟨[],by simp⟩,by simp⟩
     . rintro d e rest ev3 U3 R3 hR3 hd hx3 hlt ⟨f0,f4,f5,f63,f64,f65,⟨u,rfl⟩,hnz⟩;have hm3:=qAV hx3;obtain⟨hwe,hh,hsz⟩:=hx e hm3;have hdw:=wr (n:=(d.length:Int)+1) (by unfold Fits at hfl;omega) (by unfold Fits at hfl;omega);have hev:=qqa (wF p.vars a') (by show(wF p.vars a').length<_;omega) e hwe (by omega) hsz;have hou:∀u,jr b' 2 qK (H4++u) v4 (wF p.vars a'):=fun u=>ho4.keep fun x _ hx=>qf hx u
       simp[-getElem?_pos,f4,f63,f64,f65,hlt,hx3,qc e];rw[<- qc e];refine qFr hev rfl ?_ ?_
       . simp only[qA7,qBy,zm,and_true];refine⟨?_,(hou _).frz (fun x=>by simp) (fun x=>by simp) (fun x=>by simp) 7⟩;rw[qF (by simp)];exact qFw _
       by_cases hz:jz (wF p.vars a') e=0
       . have hsf:yD p.vars l a'=false:=(by rw[hsat,qD6];exact⟨e,hm3,by simp[hz]⟩);rw[hsf]at hstep;simp only[qBz,if_false]at hstep;simp[hz];exact hR m _ _ (by omega) ⟨by omega,by simp[f0],_,T4,(qI p.vars a').1,(qI p.vars a').2,b',a',rfl,hkH4.trans qFX,hF4.look _,hok4,by simpa[f4] using hou _,hlen',hbF,hbA,hbH,hstep⟩
       simp[hz,f65,hdw];refine hR3 _ _ ⟨by simp[f0],by simp[f4],by simp[f5],by simp[f63],by simp[f64],by simp,⟨_,by simp;rfl⟩,fun x hx=>?_⟩;rcases qBb.1 hx with hx|hx
       . exact hnz x hx
       simp only[qBt,qDg,or_false]at hx
       rwa[hx]
     rintro ev3 U3 ⟨f0,f4,f5,f63,f64,f65,⟨u,rfl⟩,hnz⟩;rw[show yD p.vars l a'=true by rw[hsat,qA3];exact fun e he=>by simpa using hnz e he,if_pos rfl]at hstep;simp[f5,f64,f65];rw[hstep];exact⟨hkH4.trans qFX,⟨_,_,(hF4.look u).f⟩,.inl ⟨a',bh,_,rfl,rfl,hrow4 u⟩⟩
   exact absurd trivial hdummy
