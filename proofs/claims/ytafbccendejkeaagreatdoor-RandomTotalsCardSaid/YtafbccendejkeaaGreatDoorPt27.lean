import Derived.Test.YtafbccendejkeaaGreatDoorPt26
import Derived.Test.YtafbccendejkeaaGreatDoorPt12
set_option maxRecDepth 100000
set_option maxHeartbeats 16000000
set_option linter.all false
set_option linter.defProp false
namespace Go.Proofs.YtafbccendejkeaaGreatDoor
open Go Go.Abs Tryz
def qcF(env e):jK env e=((zO [2] e).all (fun s=>(jA env s).isSome)&&(zO [3,24] e).all fun s=>(jA env (zT s 0)).isSome):=by
 rw[qBd,qAr,jK];simp only[qAv];constructor
 . intro h;refine⟨fun s hs=>?_,fun s hs=>?_⟩
   . obtain⟨x,hx,hop,rfl⟩:=j7.1 hs;have:=h x hx;have h2:x.op=2:=(by simpa using hop);simpa[qix,h2] using this
   obtain⟨x,hx,hop,rfl⟩:=j7.1 hs;have:=h x hx;have h3:x.op=3\/x.op=24:=(by simpa using hop);unfold qix at this;rw[if_neg (by omega),if_pos h3]at this;exact this
 rintro⟨h1,h2⟩ x hx;unfold qix;split
 . rename_i h;exact h1 _ (j7.2 ⟨x,hx,by simp[h],rfl⟩)
 split
 . rename_i h;exact h2 _ (j7.2 ⟨x,hx,by simpa using h,rfl⟩)
 rfl
def qlO{α:Type}{p:α->Bool}{l:List α}{i:Nat}{a:α}(h:l[i]?=some a)(hp:p a=false):l.all p=false:=qe4 (qAn h) hp
def qbj{α:Type}{p:α->Bool}{l:List α}{i:Nat}(hi:l.length<=i)(h:∀a∈l.take i,p a=true):l.all p=true:=by
 rw[qAs hi]at h;exact qAv.2 h
def qcs{ops e}:(zO ops e).length<=(pre e).length:=by
 unfold zO;have:∀(l:List Ex) (s:List Str),(l.foldl (Wz ops) s).length<=s.length+l.length:=by
  intro l
  induction l with
  |nil=>intro s;simp
  | cons a r ih=>
   intro s;have h1:=ih (Wz ops s a);have h2:=vC (ops:=ops) (s:=s) (e:=a);simp only[qA1,qAD];omega
 simpa using this (pre e) []
def qrS(env)(hl:Fits env)(e)(hwe:Wen e)(hn:yV e)(hsz:(pre e).length<=100000):Pure prog GG 164 [.agg [.sl 2 (env.map qG) .none],.agg (qp e)] (.bool (jK env e)):=by
 refine qE9 qe func164 rfl (by kernel_rfl) ?_;have hnm:=ZO e hwe hsz;have har:=Qt e hwe hsz;have hk:=qcF env e;generalize jK env e=r at hk⊢;have harr:∀s∈zO [3,24] e,s.length<=1000:=by
  intro s hs;obtain⟨x,hx,hop,rfl⟩:=j7.1 hs;have:=wq ((ji (hn x hx)).2.2.2.2.2.2.1 (by simpa using hop));omega
 have l1:=qcs (ops:=[2]) (e:=e);have l2:=qcs (ops:=[3,24]) (e:=e);generalize zO [2] e=A at hnm l1 hk⊢;generalize zO [3,24] e=B at har harr l2 hk⊢;simp only[qc e];simp;rw[<- qc e];refine qET hnm (by simp) ?_
 try simp
 refine qE6 (fun n ev U=>∃i,i<=A.length/\n=A.length-i/\ev 2=.ptr 0 0/\ev 3=.ptr 1 0/\ev 14=.sl 1 (A.map jk) .none/\ev 15=.int .i64 A.length/\ev 16=.int .i64 i/\U=⟨[.cells [.sl 2 (env.map qG) .none],.cells (qp e)],[]⟩/\∀s∈A.take i,(jA env s).isSome=true) A.length ⟨0,by simp[qc e]⟩ ?_;rintro n ev U ⟨i,hi,rfl,h2,h3,h14,h15,h16,rfl,hz⟩
 cases hv:A[i]? with
 | some s=>
  obtain⟨hc,hv'⟩:=qAm.1 hv;simp[h2,h3,h14,h15,h16,hc,hv'];refine qET (qeF env s hl) (by simp) ?_;cases hf:(jA env s).isSome
  . rw[qlO (p:=fun s=>(jA env s).isSome) hv hf,qCA]at hk;subst hk;simp[QU,hf]
  simp[QU,hf,h2,h3,h14,h15,h16];exact⟨_,by omega,i+1,by omega,rfl,wr (by omega) (by omega),by simpa using qW (p:=fun s=>(jA env s).isSome=true) hv (by simpa using hz) hf⟩
 | none=>
  have hlen:A.length<=i:=by simpa using hv
  have hc:¬i<A.length:=by omega
  rw[qbj (p:=fun s=>(jA env s).isSome) hlen hz,qBC]at hk;simp[h3,h14,h15,h16,hc,qc e];rw[<- qc e];refine qET har (by simp) ?_
  try simp
  have h2':=h2;refine qE6 (fun n ev U=>∃i,i<=B.length/\n=B.length-i/\ev 2=.ptr 0 0/\ev 30=.sl 1 (B.map jk) .none/\ev 31=.int .i64 B.length/\ev 32=.int .i64 i/\U=⟨[.cells [.sl 2 (env.map qG) .none],.cells (qp e)],[]⟩/\∀s∈B.take i,(jA env (zT s 0)).isSome=true) B.length ⟨0,by simp[qc e,h2']⟩ ?_;rintro n ev U ⟨i,hi,rfl,h2,h30,h31,h32,rfl,hz⟩
  cases hv:B[i]? with
  | some s=>
   obtain⟨hc,hv'⟩:=qAm.1 hv;obtain⟨b,hb,hb0⟩:=qeZ (env:=env) (a:=s) (i:=0);have hb0:=hb0 rfl;have hat:=qsN env s 0 hl (harr s (qAn hv));rw[hb]at hat;simp[h2,h30,h31,h32,hc,hv'];refine qET hat (by simp) ?_;cases hf:(jA env (zT s 0)).isSome
   . rw[qlO (p:=fun s=>(jA env (zT s 0)).isSome) hv hf]at hk;subst hk;simp[hb0,hf]
   simp[hb0,hf,h2,h30,h31,h32];exact⟨_,by omega,i+1,by omega,rfl,wr (by omega) (by omega),by simpa using qW (p:=fun s=>(jA env (zT s 0)).isSome=true) hv (by simpa using hz) hf⟩
  | none=>
   have hlen:B.length<=i:=(by simpa using hv);have hc:¬i<B.length:=(by omega);rw[qbj (p:=fun s=>(jA env (zT s 0)).isSome) hlen hz]at hk;subst hk;simp[h30,h31,h32,hc]
def qpP(env)(hl:Fits env)(e)(hwe:Wen e)(hh:hgt e<1000000)(hsz:(pre e).length<=100000):Pure prog GG 111 [.agg (qp e),.sl 2 (env.map qG) .none] (.tup [.int .i64 (jw env e),.int .i64 (Qk env e)]):=by
 refine qE9 qe func111 rfl (by kernel_rfl) ?_;have hva:=YZ e hwe hh;have hE:Qk env e=if zi e≠0 then 1 else if jK env e=true then 0 else 7:=rfl
 have hV:jw env e=if zi e=0/\jK env e=true then yf env e else 0:=rfl
 by_cases h0:zi e=0
 . have hn:=vO h0;have hkn:=qrS env hl e hwe hn hsz;have hval:=qqA env hl e hwe hn;cases hk:jK env e
   . have e1:Qk env e=7:=(by rw[hE];simp[h0,hk]);have e2:jw env e=0:=(by rw[hV];simp[h0,hk]);rw[e1,e2];rw[h0]at hva;rw[hk]at hkn;simp only[qc e];simp[zs,zW,qM,zx];rw[<- qc e];refine qET hva (by simp) ?_;simp[qc e];rw[<- qc e];refine qET hkn (by simp) ?_;simp
   have e1:Qk env e=0:=(by rw[hE];simp[h0,hk]);have e2:jw env e=yf env e:=(by rw[hV];simp[h0,hk]);rw[e1,e2];rw[h0]at hva;rw[hk]at hkn;simp only[qc e];simp[zs,zW,qM,zx];rw[<- qc e];refine qET hva (by simp) ?_;simp[qc e];rw[<- qc e];refine qET hkn (by simp) ?_;simp[qc e];rw[<- qc e];refine qET hval (by simp) ?_;simp
 have e1:Qk env e=1:=by rw[hE];simp[h0]
 have e2:jw env e=0:=by rw[hV];simp[h0]
 rw[e1,e2];simp only[qc e];simp[zs,zW,qM,zx];rw[<- qc e];refine qET hva (by simp) ?_;simp[h0]
def qzC(F A:Nat)(p:Problem)(l:List Ex)(s:Option (List Int)×Bool)(H:List Blk)(r:AV)(U':St):Prop :=
 KpL [F,A] H U'.H/\(∃va n,U'.H[F]?=some (.cells (qa0 p l va s.2 n)))/\((∃a bh vh,s.1=some a/\r=.tup [vh,.bool true]/\qit bh U'.H vh a)\/(s.1=none/\r=.tup [.sl 0 [] .nil,.bool false]))
def qzD(F A t:Nat)(p:Problem)(l:List Ex)(s:Option (List Int)×Bool)(H:List Blk)(n:Nat)(ev:Env)(U:St):Prop :=
 ev 0=.ptr F 0/\∃H' T' a over b c,U=⟨H',T'⟩/\KpL [F,A] H H'/\FndR F A t p l a over n H'/\okA p.vars a/\jx b 2 qG H' (ev 4) (wA p.vars c)/\c.length=p.vars.length/\b≠F/\b≠A/\H.length<=b/\s=if over then(none,true) else qdB p.vars l n a
def qnZ{L:List Signal}{i g x}(h:L[i]?=some g):(L.flatMap qG).set (i*2+1) (.int .i64 x)=(L.set i ⟨g.name,x⟩).flatMap qG:=by
 induction L generalizing i with
 |nil=>simp at h
 | cons a r ih=>
  cases i with
  |zero=>simp at h;subst h;simp
  | succ i=>
   simp at h;rw[show(i+1)*2+1=(i*2+1)+2 by omega,qAO,qDb,qAO,<- ih h];simp
def qob{vs}{c a:List Int}(hc:c.length=vs.length)(ha:a.length=vs.length){i x}(hx:a[i]?=some x){g}(hg:(wA vs (a.take i++c.drop i))[i]?=some g):(wA vs (a.take i++c.drop i)).set i ⟨g.name,x⟩=wA vs (a.take (i+1)++c.drop (i+1)):=by
 apply qBn;intro k;have hl:(a.take i++c.drop i).length=vs.length:=by simp;omega
 have hl':(a.take (i+1)++c.drop (i+1)).length=vs.length:=by simp;omega
 by_cases hk:k<vs.length
 . obtain⟨v,hv⟩:∃v,vs[k]?=some v:=⟨_,qAo hk⟩;by_cases hki:k=i
   . subst hki;have h1:(a.take (k+1)++c.drop (k+1))[k]?=some x:=by
      rw[qAB (by simp;omega),qCO (by omega),hx]
     rw[qAt (by rw[yB hl];exact hk),vu hv h1];obtain⟨y,hy⟩:∃y,(a.take k++c.drop k)[k]?=some y:=⟨_,qAo (by omega)⟩;rw[vu hv hy]at hg;cases hg;rfl
   rw[qAp (Ne.symm hki)];have:(a.take i++c.drop i)[k]?=(a.take (i+1)++c.drop (i+1))[k]? := by
    rw[qBg,qBg];simp only[qA8,qBo,qBe];by_cases h1:k<i
    . rw[if_pos (by omega),if_pos (by omega),if_pos (by omega),if_pos (by omega)]
    rw[if_neg (by omega),if_neg (by omega)];congr 1;omega
   obtain⟨y,hy⟩:∃y,(a.take i++c.drop i)[k]?=some y:=⟨_,qAo (by omega)⟩;rw[vu hv hy,vu hv (by rw[<- this];exact hy)]
 rw[qAU (by rw[qBK,yB hl];omega),qAU (by rw[yB hl'];omega)]
def qnb:List (Nat×Sch×List Nat):=[(1,.step 0 [9,8,3,2,1] (.step 1 [9,8,3,2] (.step 2 [9,8,3] (.step 3 [9,8] (.step 4 [9,8,7,6,5] (.step 5 [9,8,7,6] (.step 6 [9,8,7] (.step 7 [9,8] (.step 8 [9] (.step 9 [] (.done)))))))))),[8])]
def quQ{F A t p l a n H}(T)(h:FndR F A t p l a false n H)(hAl:A<H.length)(hn:n<=262144)(hl2:p.vars.length<=1000)(hok:okA p.vars a)(hw:∀v∈p.vars,0<=v.width/\v.width<=28)
 (hx:∀e∈l,Wen e/\hgt e<=1000/\(pre e).length<=100000) (hfl:Fits l):qg prog GG 242 [.ptr F 0] ⟨H,T⟩ (qzC F A p l (qdB p.vars l n a) H):=by
 refine qEH ⟨false,qnb,[],[]⟩ qe func242 rfl (by kernel_rfl) ?_;have hF:=h.f;have hlen:=hok.len;have henv:=qsr (A:=A) (t:=t) p a hlen hl2 T h.r;simp only[qt]at henv;simp only[qa0]at hF;simp;rw[qR rfl];simp[ze,hF];refine qEM henv ?_;rintro v ⟨H1,T1⟩ ⟨rfl,hk1,b,ho,hb⟩;simp only at hk1 ho;simp;obtain⟨s,hs⟩:∃s,s=qdB p.vars l n a:=⟨_,rfl⟩;rw[<- hs];have hFl:=(qAm.1 h.f).1;have hr1:FndR F A t p l a false n H1:=⟨(hk1.2 _ _ h.f (by simp)),fun ha=>hk1.2 _ _ (h.r ha) (by simp)⟩;rw[show yg p.vars a=wA p.vars a by rw[Ql,if_pos hlen]]at ho;refine qEO (fun m ev U=>m<=262144/\qzD F A t p l s H m ev U) n ?_ ?_
 . refine⟨hn,by simp,H1,T1,a,false,b,a,rfl,hk1.sub (by simp),hr1,hok,by simpa using ho,hlen,?_,?_,hb,by simpa using hs⟩
   . omega
   . omega
 rintro m ev U R hR ⟨hm,e0,H',T',a',over,b',c,rfl,hk,hfr,hok',ho',hc,hbF,hbA,hbH,hs'⟩;have hF':=hfr.f;have hF'l:=(qAm.1 hF').1;simp only[qa0]at hF'
 cases over with
 | true=>
  simp at hs';subst hs';simp[e0,hF'];exact⟨hk,⟨_,_,hfr.f⟩,.inr ⟨rfl,rfl⟩⟩
 | false=>
  simp only[qAP,if_false]at hs'
  cases m with
  | zero=>
   have hs':=hs';subst hs';simp[e0,hF'];exact⟨hk,⟨_,_,hfr.f⟩,.inr ⟨rfl,rfl⟩⟩
  | succ m=>
   have hlen':=hok'.len;have hw1:=wr (n:=(m:Int)) (by omega) (by omega);have hcl:=qou (A:=A) (t:=t) a' (by omega) T' (H:=H'.set F (.cells (qa0 p l (Jd A t a') false m))) (fun ha=>by
    have:=hfr.r ha;rw[qAp (Ne.symm (hfr.ne ha))];exact this)
   have hFs:∀y,(H'.set F y)[F]?=some y:=fun y=>qAt hF'l
   simp only[qa0]at hcl;simp[e0,hF',hw1,show(0:Int)<(m:Int)+1 by omega,hFs];refine qEM hcl ?_;rintro vh ⟨H2,T2⟩ ⟨rfl,hk2,bh,hrow,hbh⟩;simp only at hk2 hrow;rw[qBK]at hbh;have hA2:a'≠[]->H2[A]?=some (.cells (zc a')):=fun ha=>hk2.2 _ _ (by rw[qAp (Ne.symm (hfr.ne ha))];exact hfr.r ha) (by simp)
   have ho2:jx b' 2 qG H2 (ev 4) (wA p.vars c):=ho'.keep fun x _ hx=>hk2.2 _ _ (by rw[qAp (Ne.symm hbF)];exact hx) (by simp)
   have hkH2:=(hk.trans (qFi (by simp))).trans (hk2.sub (by simp));have hbh':bh≠F/\bh≠A:=by
    have:=hk.1;constructor<;>omega
   have hbb:a'≠[]->bh≠b':=fun ha=>by
    have hne:wA p.vars c≠[]:=fun e=>by
     have:=yB hc;rw[e]at this;exact ha (qAA (by rw[hlen',<- this];rfl))
    have:=ho'.lt hne;omega
   generalize hv4:ev 4=v4 at *;have hln:∀H T,YA (Dof prog) ⟨H,T⟩ 28 vh=some (.int .i64 a'.length):=fun H T=>by
    rcases hrow with⟨ha0,szt,tok,rfl⟩|⟨ha0,rfl,hbc⟩
    . simp[YA,ha0]
    simp[YA]
   by_cases hdummy:True
   . simp[-YA,hln];refine qEZ a' (fun d ev2 U2=>ev2 0=.ptr F 0/\ev2 4=v4/\ev2 5=vh/\ev2 45=vh/\ev2 46=.int .i64 a'.length/\ev2 47=.int .i64 d.length/\∃H3,U2=⟨H3,T2⟩/\KpL [b'] H2 H3/\jx b' 2 qG H3 v4 (wA p.vars (a'.take d.length++c.drop d.length))) ?_ ?_ ?_
     . exact⟨by simp[e0],by simp[hv4],by simp,by simp,by simp,by simp,H2,by simp,qFf,by simpa using ho2⟩
     . rintro d x rest ev2 U2 R2 hR2 hd hx2 hlt ⟨g0,g4,g5,g45,g46,g47,H3,rfl,hk3,ho3⟩;have hdw:=wr (n:=(d.length:Int)+1) (by omega) (by omega);have ha0:a'≠[]:=fun e=>by rw[e]at hlt;simp at hlt
       obtain⟨_,hvh,hbc⟩:=hrow.resolve_left (fun h=>ha0 h.1);have g45':=g45;rw[hvh]at g45';have hdr:(zc a').drop d.length=.int .i64 x::(zc a').drop (d.length+1):=by
        obtain⟨h1,h2⟩:=qAm.1 (by rw[qaZ,hx2];rfl);rw[qAJ h1,h2]
       have hcl:(a'.take d.length++c.drop d.length).length=p.vars.length:=(by simp;omega);have hel:=yB hcl;have hne:wA p.vars (a'.take d.length++c.drop d.length)≠[]:=fun e=>by rw[e]at hel;simp at hel;omega
       obtain⟨hv,hbl⟩:=ho3.at hne;obtain⟨g,hg⟩:∃g,(wA p.vars (a'.take d.length++c.drop d.length))[d.length]?=some g:=⟨_,qAo (by rw[hel];omega)⟩;have hset:=qnZ (x:=x) hg;have hput:=qob hc hlen' hx2 hg;have hfl2:((wA p.vars (a'.take d.length++c.drop d.length)).flatMap qG).length=p.vars.length*2:=(by rw[Go.Abs.jq (sz:=2) (fun x=>by simp),hel]);have hbll:=(qAm.1 hbl).1;rw[hel]at hv;rw[hput]at hset;generalize hFL:(wA p.vars (a'.take d.length++c.drop d.length)).flatMap qG=FL at *;simp[g4,g45',g46,g47,hlt,show H3[bh]?=some (.cells (zc a')) from hk3.2 _ _ hbc (by simpa using hbb ha0),hdr,show d.length+1<=(zc a').length by rw[qS];omega,hv,show(d.length:Int)<p.vars.length by omega,hbl,show d.length*2+1+1<=p.vars.length*2 by omega,hfl2,hset,hdw];have hcl':(a'.take (d.length+1)++c.drop (d.length+1)).length=p.vars.length:=(by simp;omega);have hel':=yB hcl';refine hR2 _ _ ⟨by simp[g0],by simp[g4],by simp[g5],by simp[g45],by simp[g46],by simp,_,rfl,hk3.trans (qFi (by simp)),?_⟩;rw[qAq,qAQ];refine .inr ⟨fun e=>by rw[e]at hel';simp at hel';omega,by rw[hel'];exact hv,qAt hbll⟩
     rintro ev2 U2 ⟨g0,g4,g5,g45,g46,g47,H3,rfl,hk3,ho3⟩;rw[show a'.take a'.length++c.drop a'.length=a' by rw[qB7,qA3 (by omega),qA6]]at ho3;have hF3:FndR F A t p l a' false m H3:=⟨hk3.2 _ _ (hk2.2 _ _ (hFs _) (by simp)) (by simpa using Ne.symm hbF),fun ha=>hk3.2 _ _ (hA2 ha) (by simpa using Ne.symm hbA)⟩;have hadv:=qir T2 hF3 hlen' (by omega) hok' hw;simp[g0,g46,g47];refine qEM hadv ?_;rintro v2 ⟨H4,T4⟩ ⟨rfl,hT4,hF4,hk4⟩;simp only at hT4 hF4 hk4;subst hT4;have ho4:jx b' 2 qG H4 v4 (wA p.vars a'):=ho3.keep fun x _ hx=>hk4.2 _ _ hx (by simp;exact⟨hbF,hbA⟩)
     have hrow4:∀u,qit bh (H4++u) vh a':=fun u=>by
      rcases hrow with h|⟨h1,h2,h3⟩
      . exact .inl h
      exact .inr ⟨h1,h2,qd (hk4.2 _ _ (hk3.2 _ _ h3 (by simpa using hbb h1)) (by simp;exact hbh')) u⟩
     have hF4f:=hF4.f;simp only[qa0]at hF4f;have hkH4:KpL [F,A] H H4:=by
      refine⟨by have:=hkH2.1;have:=hk3.1;have:=hk4.1;omega,fun k x hk0 hn0=>?_⟩;have h2:=hkH2.2 k x hk0 hn0;have hkl:=(qAm.1 hk0).1;have h3:=hk3.2 k x h2 (by simp;omega);exact hk4.2 k x h3 hn0
     have hstep:s=if kN p.vars l a' then(some a',(qF p.vars a').2) else if(qF p.vars a').2 then(none,true) else qdB p.vars l m (qF p.vars a').1:=hs'
     have hok4:=ZM hok';simp[hF4f,g0];have hel4:=yB hlen';have hsat:kN p.vars l a'=l.all fun e=>decide (jw (wA p.vars a') e≠0):=by unfold kN;rw[show yg p.vars a'=wA p.vars a' by rw[Ql,if_pos hlen']]
     refine qEZ l (fun d ev3 U3=>ev3 0=.ptr F 0/\ev3 4=v4/\ev3 5=vh/\ev3 63=.sl 4 (l.map qp) .none/\ev3 64=.int .i64 l.length/\ev3 65=.int .i64 d.length/\(∃u,U3=⟨H4++u,T4⟩)/\∀e∈d,jw (wA p.vars a') e≠0) ?_ ?_ ?_
     . exact⟨by simp[g0],by simp[g4],by simp[g5],by simp,by simp,by simp,⟨[],by simp⟩,by simp⟩
     . rintro d e rest ev3 U3 R3 hR3 hd hx3 hlt ⟨f0,f4,f5,f63,f64,f65,⟨u,rfl⟩,hnz⟩;have hm3:=qAn hx3;obtain⟨hwe,hh,hsz⟩:=hx e hm3;have hdw:=wr (n:=(d.length:Int)+1) (by unfold Fits at hfl;omega) (by unfold Fits at hfl;omega);have hev:=qpP (wA p.vars a') (by show(wA p.vars a').length<_;omega) e hwe (by omega) hsz;have hou:∀u,jx b' 2 qG (H4++u) v4 (wA p.vars a'):=fun u=>ho4.keep fun x _ hx=>qd hx u
       simp[-getElem?_pos,f4,f63,f64,f65,hlt,hx3,qc e];rw[<- qc e];refine qEL hev rfl ?_ ?_
       . simp only[qAz,qAZ,zn,and_true];refine⟨?_,(hou _).frz (fun x=>by simp) (fun x=>by simp) (fun x=>by simp) 7⟩;rw[qA (by simp)];exact qEQ _
       by_cases hz:jw (wA p.vars a') e=0
       . have hsf:kN p.vars l a'=false:=(by rw[hsat,qDq];exact⟨e,hm3,by simp[hz]⟩);rw[hsf]at hstep;simp only[qAP,if_false]at hstep;simp[hz];exact hR m _ _ (by omega) ⟨by omega,by simp[f0],_,T4,(qF p.vars a').1,(qF p.vars a').2,b',a',rfl,hkH4.trans qFh,hF4.look _,hok4,by simpa[f4] using hou _,hlen',hbF,hbA,hbH,hstep⟩
       simp[hz,f65,hdw];refine hR3 _ _ ⟨by simp[f0],by simp[f4],by simp[f5],by simp[f63],by simp[f64],by simp,⟨_,by simp;rfl⟩,fun x hx=>?_⟩;rcases qAC.1 hx with hx|hx
       . exact hnz x hx
       simp only[qAM,qB0,or_false]at hx;rw[hx];exact hz
     rintro ev3 U3 ⟨f0,f4,f5,f63,f64,f65,⟨u,rfl⟩,hnz⟩;rw[show kN p.vars l a'=true by rw[hsat,qAv];exact fun e he=>by simpa using hnz e he,if_pos rfl]at hstep;simp[f5,f64,f65];rw[hstep];exact⟨hkH4.trans qFh,⟨_,_,(hF4.look u).f⟩,.inl ⟨a',bh,_,rfl,rfl,hrow4 u⟩⟩
   exact absurd trivial hdummy
