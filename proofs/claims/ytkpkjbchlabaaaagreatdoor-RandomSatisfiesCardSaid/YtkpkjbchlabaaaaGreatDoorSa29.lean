/- A part of the proof. -/
import Derived.Test.YtkpkjbchlabaaaaGreatDoorSa28
import Derived.Test.YtkpkjbchlabaaaaGreatDoorSa11
import Derived.Test.YtkpkjbchlabaaaaGreatDoorSa24
set_option linter.unusedVariables false
set_option linter.unusedSimpArgs false
set_option maxRecDepth 100000
set_option maxHeartbeats 16000000
set_option linter.defProp false
section
namespace Go.Proofs.YtkpkjbchlabaaaaGreatDoor
open Go Go.Abs
theorem qa8 (env:List Signal)(e:Ex):wc env e=((zD [2] e).all (fun s=>(ye env s).isSome)&&(zD [3,24] e).all fun s=>(ye env (zW s 0)).isSome):=by
 rw[qq4,qqi,wc];simp only[qqo];constructor
 . intro h;refine⟨fun s hs=>?_,fun s hs=>?_⟩
   . obtain⟨x,hx,hop,rfl⟩:=jJ.1 hs;have:=h x hx;have h2:x.op=2:=(by simpa using hop);simpa[askV,h2] using this
   . obtain⟨x,hx,hop,rfl⟩:=jJ.1 hs;have:=h x hx;have h3:x.op=3\/x.op=24:=(by simpa using hop);unfold askV at this;rw[if_neg (by omega),if_pos h3]at this;exact this
 . rintro⟨h1,h2⟩ x hx;unfold askV;split
   . rename_i h;exact h1 _ (jJ.2 ⟨x,hx,by simp[h],rfl⟩)
   . split
     . rename_i h;exact h2 _ (jJ.2 ⟨x,hx,by simpa using h,rfl⟩)
     . rfl
theorem qjt {α:Type}{p:α->Bool}{l:List α}{i:Nat}{a:α}(h:l[i]?=some a)(hp:p a=false):l.all p=false:=qju (qqd h) hp
theorem VS {α:Type}{p:α->Bool}{l:List α}{i:Nat}(hi:l.length<=i)(h:∀ a∈l.take i,p a=true):l.all p=true:=by
 rw[qqk hi]at h;exact qqo.2 h
theorem qaX {ops:List Int}{e:Ex}:(zD ops e).length<=(pre e).length:=by
 unfold zD;have:∀ (l:List Ex) (s:List Str),(l.foldl (Kl ops) s).length<=s.length+l.length:=by
  intro l
  induction l with
  | nil=>intro s;simp
  | cons a r ih=>
   intro s;have h1:=ih (Kl ops s a);have h2:=wQ (ops:=ops) (s:=s) (e:=a);simp only[qqR,qqs];omega
 simpa using this (pre e) []
theorem qo1 (env:List Signal)(hl:Fits env)(e:Ex)(hwe:Wen e)(hn:yL e)(hsz:(pre e).length<=100000):Pure Tryz.prog GG 83 [.agg [.sl 2 (env.map qY) .none],.agg (qr e)] (.bool (wc env e)):=by
 refine Pure.vc qe Tryz.func83 rfl (by kernel_rfl) ?_;have hnm:=QW e hwe hsz;have har:=vO e hwe hsz;have hk:=qa8 env e;generalize wc env e=r at hk ⊢;have harr:∀ s∈zD [3,24] e,s.length<=1000:=by
  intro s hs;obtain⟨x,hx,hop,rfl⟩:=jJ.1 hs;have:=wF ((je (hn x hx)).2.2.2.2.2.2.1 (by simpa using hop));omega
 have l1:=qaX (ops:=[2]) (e:=e);have l2:=qaX (ops:=[3,24]) (e:=e);generalize zD [2] e=A at hnm l1 hk ⊢;generalize zD [3,24] e=B at har harr l2 hk ⊢;simp only[qd e];simp;rw[<- qd e];refine qb.call hnm (by simp) ?_
 try simp
 refine qy.intro (fun n ev U=>∃ i,i<=A.length/\n=A.length-i/\ev 2=.ptr 0 0/\ev 3=.ptr 1 0/\ev 14=.sl 1 (A.map zZ) .none/\ev 15=.int .i64 A.length/\ev 16=.int .i64 i/\U=⟨[.cells [.sl 2 (env.map qY) .none],.cells (qr e)],[]⟩/\∀ s∈A.take i,(ye env s).isSome=true) A.length ⟨0,by simp[qd e]⟩ ?_;rintro n ev U ⟨i,hi,rfl,h2,h3,h14,h15,h16,rfl,hz⟩
 cases hv:A[i]? with
 | some s=>
  obtain⟨hc,hv'⟩:=qqc.1 hv;simp[h2,h3,h14,h15,h16,hc,hv'];refine qb.call (qcT env s hl) (by simp) ?_;cases hf:(ye env s).isSome
  . rw[qjt (p:=fun s=>(ye env s).isSome) hv hf,qrV]at hk;subst hk;simp[qbv,hf]
  . simp[qbv,hf,h2,h3,h14,h15,h16];exact⟨_,by omega,i+1,by omega,rfl,wr (by omega) (by omega),by simpa using zb (p:=fun s=>(ye env s).isSome=true) hv (by simpa using hz) hf⟩
 | none=>
  have hlen:A.length<=i:=by simpa using hv
  have hc:¬ i<A.length:=by omega
  rw[VS (p:=fun s=>(ye env s).isSome) hlen hz,qrg]at hk;simp[h2,h3,h14,h15,h16,hc,qd e];rw[<- qd e];refine qb.call har (by simp) ?_
  try simp
  have h2':=h2;clear h2 h14 h15 h16 hz;refine qy.intro (fun n ev U=>∃ i,i<=B.length/\n=B.length-i/\ev 2=.ptr 0 0/\ev 30=.sl 1 (B.map zZ) .none/\ev 31=.int .i64 B.length/\ev 32=.int .i64 i/\U=⟨[.cells [.sl 2 (env.map qY) .none],.cells (qr e)],[]⟩/\∀ s∈B.take i,(ye env (zW s 0)).isSome=true) B.length ⟨0,by simp[qd e,h2']⟩ ?_;rintro n ev U ⟨i,hi,rfl,h2,h30,h31,h32,rfl,hz⟩
  cases hv:B[i]? with
  | some s=>
   obtain⟨hc,hv'⟩:=qqc.1 hv;obtain⟨b,hb,hb0⟩:=qdb (env:=env) (a:=s) (i:=0);have hb0:=hb0 rfl;have hat:=qpT env s 0 hl (harr s (qqd hv));rw[hb]at hat;simp[h2,h30,h31,h32,hc,hv'];refine qb.call hat (by simp) ?_;cases hf:(ye env (zW s 0)).isSome
   . rw[qjt (p:=fun s=>(ye env (zW s 0)).isSome) hv hf]at hk;subst hk;simp[hb0,hf]
   . simp[hb0,hf,h2,h30,h31,h32];exact⟨_,by omega,i+1,by omega,rfl,wr (by omega) (by omega),by simpa using zb (p:=fun s=>(ye env (zW s 0)).isSome=true) hv (by simpa using hz) hf⟩
  | none=>
   have hlen:B.length<=i:=(by simpa using hv);have hc:¬ i<B.length:=(by omega);rw[VS (p:=fun s=>(ye env (zW s 0)).isSome) hlen hz]at hk;subst hk;simp[h2,h30,h31,h32,hc]
theorem qnl (env:List Signal)(hl:Fits env)(e:Ex)(hwe:Wen e)(hh:hgt e<1000000)(hsz:(pre e).length<=100000):Pure Tryz.prog GG 40 [.agg (qr e),.sl 2 (env.map qY) .none] (.tup [.int .i64 (yD env e),.int .i64 (KB env e)]):=by
 refine Pure.vc qe Tryz.func40 rfl (by kernel_rfl) ?_;have hva:=J2 e hwe hh;have hE:KB env e=if zf e≠0 then 1 else if wc env e=true then 0 else 7:=rfl
 have hV:yD env e=if zf e=0/\wc env e=true then vd env e else 0:=rfl
 by_cases h0:zf e=0
 . have hn:=ZX h0;have hkn:=qo1 env hl e hwe hn hsz;have hval:=qnZ env hl e hwe hn;cases hk:wc env e
   . have e1:KB env e=7:=(by rw[hE];simp[h0,hk]);have e2:yD env e=0:=(by rw[hV];simp[h0,hk]);rw[e1,e2];rw[h0]at hva;rw[hk]at hkn;simp only[qd e];simp[zn,zS,qF,zj];rw[<- qd e];refine qb.call hva (by simp) ?_;simp[qd e];rw[<- qd e];refine qb.call hkn (by simp) ?_;simp
   . have e1:KB env e=0:=(by rw[hE];simp[h0,hk]);have e2:yD env e=vd env e:=(by rw[hV];simp[h0,hk]);rw[e1,e2];rw[h0]at hva;rw[hk]at hkn;simp only[qd e];simp[zn,zS,qF,zj];rw[<- qd e];refine qb.call hva (by simp) ?_;simp[qd e];rw[<- qd e];refine qb.call hkn (by simp) ?_;simp[qd e];rw[<- qd e];refine qb.call hval (by simp) ?_;simp
 . have e1:KB env e=1:=(by rw[hE];simp[h0]);have e2:yD env e=0:=(by rw[hV];simp[h0]);rw[e1,e2];simp only[qd e];simp[zn,zS,qF,zj];rw[<- qd e];refine qb.call hva (by simp) ?_;simp[h0]
def HitQ (F A:Nat)(p:Problem)(l:List Ex)(s:Option (List Int)×Bool)(H:List Blk)(r:AV)(U':St):Prop :=
 KpL [F,A] H U'.H/\(∃ va n,U'.H[F]?=some (.cells (KC p l va s.2 n)))/\((∃ a bh vh,s.1=some a/\r=.tup [vh,.bool true]/\qgl bh U'.H vh a)\/(s.1=none/\r=.tup [.sl 0 [] .nil,.bool false]))
def HitI (F A t:Nat)(p:Problem)(l:List Ex)(s:Option (List Int)×Bool)(H:List Blk)(n:Nat)(ev:Env)(U:St):Prop :=
 ev 0=.ptr F 0/\∃ H' T' a over b c,U=⟨H',T'⟩/\KpL [F,A] H H'/\FndR F A t p l a over n H'/\okA p.vars a/\js b 2 qY H' (ev 4) (wV p.vars c)/\c.length=p.vars.length/\b≠F/\b≠A/\H.length<=b/\s=if over then (none,true) else qb0 p.vars l n a
theorem qlB {L:List Signal}{i:Nat}{g:Signal}{x:Int}(h:L[i]?=some g):(L.flatMap qY).set (i*2+1) (.int .i64 x)=(L.set i ⟨g.name,x⟩).flatMap qY:=by
 induction L generalizing i with
 | nil=>simp at h
 | cons a r ih=>
  cases i with
  | zero=>simp at h;subst h;simp
  | succ i=>
   simp at h;have e:(i+1)*2+1=(i*2+1)+2:=(by omega);rw[e,qqD,qsR,qqD,<- ih h];simp
theorem qlP {vs:List Var}{c a:List Int}(hc:c.length=vs.length)(ha:a.length=vs.length){i:Nat}{x:Int}(hx:a[i]?=some x){g:Signal}(hg:(wV vs (a.take i++c.drop i))[i]?=some g):(wV vs (a.take i++c.drop i)).set i ⟨g.name,x⟩=wV vs (a.take (i+1)++c.drop (i+1)):=by
 have hi:=(qqc.1 hx).1;apply qq3;intro k;have hl:(a.take i++c.drop i).length=vs.length:=by simp;omega
 have hl':(a.take (i+1)++c.drop (i+1)).length=vs.length:=by simp;omega
 by_cases hk:k<vs.length
 . obtain⟨v,hv⟩:∃ v,vs[k]?=some v:=⟨_,qqe hk⟩;by_cases hki:k=i
   . subst hki;have h1:(a.take (k+1)++c.drop (k+1))[k]?=some x:=by
      rw[qqq (by simp;omega),qty (by omega),hx]
     rw[qqh (by rw[yy hl];exact hk),v7 hv h1];obtain⟨y,hy⟩:∃ y,(a.take k++c.drop k)[k]?=some y:=⟨_,qqe (by omega)⟩;rw[v7 hv hy]at hg;cases hg;rfl
   . rw[qqf (Ne.symm hki)];have:(a.take i++c.drop i)[k]?=(a.take (i+1)++c.drop (i+1))[k]? := by
      rw[qqZ,qqZ];simp only[qqP,qq2,qq1];by_cases h1:k<i
      . rw[if_pos (by omega),if_pos (by omega),if_pos (by omega),if_pos (by omega)]
      . rw[if_neg (by omega),if_neg (by omega)];congr 1;omega
     obtain⟨y,hy⟩:∃ y,(a.take i++c.drop i)[k]?=some y:=⟨_,qqe (by omega)⟩;rw[v7 hv hy,v7 hv (by rw[<- this];exact hy)]
 . rw[qqC (by rw[qry,yy hl];omega),qqC (by rw[yy hl'];omega)]
def qkD:List (Nat×Sch×List Nat):=[(1,.step 0 [9,8,3,2,1] (.step 1 [9,8,3,2] (.step 2 [9,8,3] (.step 3 [9,8] (.step 4 [9,8,7,6,5] (.step 5 [9,8,7,6] (.step 6 [9,8,7] (.step 7 [9,8] (.step 8 [9] (.step 9 [] (.done)))))))))),[8])]
theorem hit327 {F A t:Nat}{p:Problem}{l:List Ex}{a:List Int}{n:Nat}{H:List Blk}(T:List (Option Nat))(h:FndR F A t p l a false n H)(hAl:A<H.length)(hn:n<=262144)(hl2:p.vars.length<=1000)(hok:okA p.vars a)(hw:∀ v∈p.vars,0<=v.width/\v.width<=28)
 (hx:∀ e∈l,Wen e/\hgt e<=1000/\(pre e).length<=100000) (hfl:Fits l):qf Tryz.prog GG 235 [.ptr F 0] ⟨H,T⟩ (HitQ F A p l (qb0 p.vars l n a) H):=by
 refine qf.kO ⟨false,qkD,[],[]⟩ qe Tryz.func235 rfl (by kernel_rfl) ?_;have hF:=h.f;have hlen:=hok.len;have henv:=qpu (A:=A) (t:=t) p a hlen hl2 T h.r;simp only[qE]at henv;simp only[KC]at hF;simp[-getElem?_pos];rw[qG rfl];simp[-getElem?_pos,qN,hF];refine qc.acall henv ?_;rintro v ⟨H1,T1⟩ ⟨rfl,hk1,b,ho,hb⟩;have hen:kQ p.vars a=wV p.vars a:=by rw[ZG,if_pos hlen]
 simp only at hk1 ho;simp[-getElem?_pos];obtain⟨s,hs⟩:∃ s,s=qb0 p.vars l n a:=⟨_,rfl⟩;rw[<- hs];have hF1:H1[F]?=some (.cells (KC p l (V3 A t a) false n)):=hk1.2 _ _ h.f (by simp);have hFl:=(qqc.1 h.f).1;have hr1:FndR F A t p l a false n H1:=⟨hF1,fun ha=>hk1.2 _ _ (h.r ha) (by simp)⟩;rw[hen]at ho;refine qX.gen (fun m ev U=>m<=262144/\HitI F A t p l s H m ev U) n ?_ ?_
 . refine⟨hn,by simp,H1,T1,a,false,b,a,rfl,hk1.sub (by simp),hr1,hok,by simpa using ho,hlen,?_,?_,hb,by simpa using hs⟩
   . omega
   . omega
 . rintro m ev U R hR ⟨hm,e0,H',T',a',over,b',c,rfl,hk,hfr,hok',ho',hc,hbF,hbA,hbH,hs'⟩;have hF':=hfr.f;have hF'l:=(qqc.1 hF').1;simp only[KC]at hF';have hmi:(m:Int)<=262144:=(by omega)
   cases over with
   | true=>
    simp at hs';subst hs';simp[-getElem?_pos,e0,hF'];exact⟨hk,⟨_,_,hfr.f⟩,.inr ⟨rfl,rfl⟩⟩
   | false=>
    simp only[qqy,if_false]at hs'
    cases m with
    | zero=>
     have hs':s=(none,false):=hs';subst hs';simp[-getElem?_pos,e0,hF'];exact⟨hk,⟨_,_,hfr.f⟩,.inr ⟨rfl,rfl⟩⟩
    | succ m=>
     have hlen':=hok'.len;have hw1:=wr (n:=(m:Int)) (by omega) (by omega);have hp:(0:Int)<(m:Int)+1:=(by omega);have hcl:=ql8 (A:=A) (t:=t) a' (by omega) T' (H:=H'.set F (.cells (KC p l (V3 A t a') false m))) (fun ha=>by
      have:=hfr.r ha;rw[qqf (Ne.symm (hfr.ne ha))];exact this)
     have hFs:∀ y,(H'.set F y)[F]?=some y:=fun y=>qqh hF'l
     simp only[KC]at hcl;simp[-getElem?_pos,e0,hF',hw1,hp,hFs];refine qc.acall hcl ?_;rintro vh ⟨H2,T2⟩ ⟨rfl,hk2,bh,hrow,hbh⟩;simp only at hk2 hrow;rw[qry]at hbh;have hF2:H2[F]?=some (.cells (KC p l (V3 A t a') false m)):=hk2.2 _ _ (hFs _) (by simp);have hA2:a'≠[]->H2[A]?=some (.cells (zI a')):=fun ha=>hk2.2 _ _ (by rw[qqf (Ne.symm (hfr.ne ha))];exact hfr.r ha) (by simp)
     have ho2:js b' 2 qY H2 (ev 4) (wV p.vars c):=ho'.keep fun x _ hx=>hk2.2 _ _ (by rw[qqf (Ne.symm hbF)];exact hx) (by simp)
     have hkH2:KpL [F,A] H H2:=(hk.trans (KpL.set (by simp))).trans (hk2.sub (by simp));have hbh':bh≠F/\bh≠A:=by
      have:=hk.1;constructor<;>omega
     have hbb:a'≠[]->bh≠b':=fun ha=>by
      have hne:wV p.vars c≠[]:=fun e=>by
       have:=yy hc;rw[e]at this;exact ha (qqv (by rw[hlen',<- this];rfl))
      have:=ho'.lt hne;omega
     generalize hv4:ev 4=v4 at *;have hln:∀ H T,JG (Dof Tryz.prog) ⟨H,T⟩ 28 vh=some (.int .i64 a'.length):=fun H T=>by
      rcases hrow with ⟨ha0,szt,tok,rfl⟩|⟨ha0,rfl,hbc⟩
      . simp[JG,ha0]
      . simp[JG]
     have hle:a'.length<=1000:=(by omega);have hlN:(zI a').length=a'.length:=za;by_cases hdummy:True
     . simp[-getElem?_pos,-JG,hln];refine qX.listR a' (fun d ev2 U2=>ev2 0=.ptr F 0/\ev2 4=v4/\ev2 5=vh/\ev2 45=vh/\ev2 46=.int .i64 a'.length/\ev2 47=.int .i64 d.length/\∃ H3,U2=⟨H3,T2⟩/\KpL [b'] H2 H3/\js b' 2 qY H3 v4 (wV p.vars (a'.take d.length++c.drop d.length))) ?_ ?_ ?_
       . exact⟨by simp[e0],by simp[hv4],by simp,by simp,by simp,by simp,H2,by simp,KpL.refl,by simpa using ho2⟩
       . rintro d x rest ev2 U2 R2 hR2 hd hx2 hlt ⟨g0,g4,g5,g45,g46,g47,H3,rfl,hk3,ho3⟩;have hdw:=wr (n:=(d.length:Int)+1) (by omega) (by omega);have ha0:a'≠[]:=fun e=>by rw[e]at hlt;simp at hlt
         obtain⟨_,hvh,hbc⟩:=hrow.resolve_left (fun h=>ha0 h.1);have hb3:H3[bh]?=some (.cells (zI a')):=hk3.2 _ _ hbc (by simpa using hbb ha0);have g45':=g45;rw[hvh]at g45';have hto:(zI a')[d.length]?=some (.int .i64 x):=(by rw[Vx,hx2];rfl);have hdr:(zI a').drop d.length=.int .i64 x::(zI a').drop (d.length+1):=by
          obtain⟨h1,h2⟩:=qqc.1 hto;rw[qqu h1,h2]
         have hl1:d.length+1<=(zI a').length:=(by rw[za];omega);have hcl:(a'.take d.length++c.drop d.length).length=p.vars.length:=(by simp;omega);have hel:=yy hcl;have hne:wV p.vars (a'.take d.length++c.drop d.length)≠[]:=fun e=>by rw[e]at hel;simp at hel;omega
         obtain⟨hv,hbl⟩:=ho3.at hne;obtain⟨g,hg⟩:∃ g,(wV p.vars (a'.take d.length++c.drop d.length))[d.length]?=some g:=⟨_,qqe (by rw[hel];omega)⟩;have hset:=qlB (x:=x) hg;have hput:=qlP hc hlen' hx2 hg;have hfl2:((wV p.vars (a'.take d.length++c.drop d.length)).flatMap qY).length=p.vars.length*2:=(by rw[Go.Abs.z9 (sz:=2) (fun x=>by simp),hel]);have hbll:=(qqc.1 hbl).1;rw[hel]at hv;have hdv:(d.length:Int)<p.vars.length:=(by omega);have hst1:d.length*2+1+1<=p.vars.length*2:=(by omega);rw[hput]at hset;generalize hFL:(wV p.vars (a'.take d.length++c.drop d.length)).flatMap qY=FL at *;simp[-getElem?_pos,g4,g45',g46,g47,hlt,hb3,hdr,hl1,hv,hdv,hbl,hst1,hfl2,hset,hdw];have hcl':(a'.take (d.length+1)++c.drop (d.length+1)).length=p.vars.length:=(by simp;omega);have hel':=yy hcl';refine hR2 _ _ ⟨by simp[g0],by simp[g4],by simp[g5],by simp[g45],by simp[g46],by simp,_,rfl,hk3.trans (KpL.set (by simp)),?_⟩;rw[qqg,qqK];refine .inr ⟨fun e=>by rw[e]at hel';simp at hel';omega,by rw[hel'];exact hv,qqh hbll⟩
       . rintro ev2 U2 ⟨g0,g4,g5,g45,g46,g47,H3,rfl,hk3,ho3⟩;have hta:a'.take a'.length++c.drop a'.length=a':=(by rw[qsf,qqO (by omega),qqV]);rw[hta]at ho3;have hF3:FndR F A t p l a' false m H3:=⟨hk3.2 _ _ hF2 (by simpa using Ne.symm hbF),fun ha=>hk3.2 _ _ (hA2 ha) (by simpa using Ne.symm hbA)⟩;have hadv:=qgj T2 hF3 hlen' (by omega) hok' hw;simp[-getElem?_pos,g0,g46,g47];refine qc.acall hadv ?_;rintro v2 ⟨H4,T4⟩ ⟨rfl,hT4,hF4,hk4⟩;simp only at hT4 hF4 hk4;subst hT4;have ho4:js b' 2 qY H4 v4 (wV p.vars a'):=ho3.keep fun x _ hx=>hk4.2 _ _ hx (by simp;exact⟨hbF,hbA⟩)
         have hrow4:∀ u,qgl bh (H4++u) vh a':=fun u=>by
          rcases hrow with h|⟨h1,h2,h3⟩
          . exact .inl h
          . exact .inr ⟨h1,h2,qa (hk4.2 _ _ (hk3.2 _ _ h3 (by simpa using hbb h1)) (by simp;exact hbh')) u⟩
         have hF4f:=hF4.f;simp only[KC]at hF4f;have hkH4:KpL [F,A] H H4:=by
          refine⟨by have:=hkH2.1;have:=hk3.1;have:=hk4.1;omega,fun k x hk0 hn0=>?_⟩;have h2:=hkH2.2 k x hk0 hn0;have hkl:=(qqc.1 hk0).1;have h3:=hk3.2 k x h2 (by simp;omega);exact hk4.2 k x h3 hn0
         have hstep:s=if wu p.vars l a' then (some a',(qT p.vars a').2) else if (qT p.vars a').2 then (none,true) else qb0 p.vars l m (qT p.vars a').1:=hs'
         have hok4:=W8 hok';have hen4:kQ p.vars a'=wV p.vars a':=(by rw[ZG,if_pos hlen']);simp[-getElem?_pos,hF4f,g0];have hel4:=yy hlen';have hfe:Fits (wV p.vars a'):=(by show (wV p.vars a').length<_;omega);have hsat:wu p.vars l a'=l.all fun e=>decide (yD (wV p.vars a') e≠0):=by unfold wu;rw[hen4]
         refine qX.listR l (fun d ev3 U3=>ev3 0=.ptr F 0/\ev3 4=v4/\ev3 5=vh/\ev3 63=.sl 4 (l.map qr) .none/\ev3 64=.int .i64 l.length/\ev3 65=.int .i64 d.length/\(∃ u,U3=⟨H4++u,T4⟩)/\∀ e∈d,yD (wV p.vars a') e≠0) ?_ ?_ ?_
         . exact⟨by simp[g0],by simp[g4],by simp[g5],by simp,by simp,by simp,⟨[],by simp⟩,by simp⟩
         . rintro d e rest ev3 U3 R3 hR3 hd hx3 hlt ⟨f0,f4,f5,f63,f64,f65,⟨u,rfl⟩,hnz⟩;have hm3:=qqd hx3;obtain⟨hwe,hh,hsz⟩:=hx e hm3;have hdw:=wr (n:=(d.length:Int)+1) (by unfold Fits at hfl;omega) (by unfold Fits at hfl;omega);have hev:=qnl (wV p.vars a') hfe e hwe (by omega) hsz;have hou:∀ u,js b' 2 qY (H4++u) v4 (wV p.vars a'):=fun u=>ho4.keep fun x _ hx=>qa hx u
           simp[-getElem?_pos,f4,f63,f64,f65,hlt,hx3,qd e];rw[<- qd e];refine qc.lent hev rfl ?_ ?_
           . simp only[qqp,qqU,zu,and_true];refine⟨?_,(hou _).frz (fun x=>by simp) (fun x=>by simp) (fun x=>by simp) 7⟩;rw[qI (by simp)];exact Leq.refl _
           . by_cases hz:yD (wV p.vars a') e=0
             . have hsf:wu p.vars l a'=false:=(by rw[hsat,qtm];exact⟨e,hm3,by simp[hz]⟩);rw[hsf]at hstep;simp only[qqy,if_false]at hstep;simp[-getElem?_pos,hz];exact hR m _ _ (by omega) ⟨by omega,by simp[f0],_,T4,(qT p.vars a').1,(qT p.vars a').2,b',a',rfl,hkH4.trans KpL.app,hF4.look _,hok4,by simpa[f4] using hou _,hlen',hbF,hbA,hbH,hstep⟩
             . simp[-getElem?_pos,hz,f65,hdw];refine hR3 _ _ ⟨by simp[f0],by simp[f4],by simp[f5],by simp[f63],by simp[f64],by simp,⟨_,by simp;rfl⟩,fun x hx=>?_⟩;rcases qqA.1 hx with hx|hx
               . exact hnz x hx
               . simp only[qqE,qrA,or_false]at hx;rw[hx];exact hz
         . rintro ev3 U3 ⟨f0,f4,f5,f63,f64,f65,⟨u,rfl⟩,hnz⟩;have hst:wu p.vars l a'=true:=(by rw[hsat,qqo];exact fun e he=>by simpa using hnz e he);rw[hst,if_pos rfl]at hstep;simp[-getElem?_pos,f5,f64,f65];rw[hstep];exact⟨hkH4.trans KpL.app,⟨_,_,(hF4.look u).f⟩,.inl ⟨a',bh,_,rfl,rfl,hrow4 u⟩⟩
     . exact absurd trivial hdummy
end Go.Proofs.YtkpkjbchlabaaaaGreatDoor
end
