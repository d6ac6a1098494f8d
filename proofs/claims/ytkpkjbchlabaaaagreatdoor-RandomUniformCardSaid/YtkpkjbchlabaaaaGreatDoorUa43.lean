/- A part of the proof. -/
import Derived.Test.YtkpkjbchlabaaaaGreatDoorUa42
set_option maxHeartbeats 16000000
set_option linter.unusedVariables false
set_option linter.unusedSimpArgs false
set_option maxRecDepth 100000
set_option linter.defProp false
section
namespace Go.Proofs.YtkpkjbchlabaaaaGreatDoor
open Go Go.Abs
def qje {α:Type}(sz:Nat)(en:α->List AV)(s:List α):AV:=match s with
 | []=>.sl 0 [] .nil
 | a::r=>.sl sz ((a::r).map en) (.chain 0 (r.length+1))
def qkm {α:Type}(s:List α):List (Option Nat):=match s with
 | []=>[]
 | _::r=>[some (r.length+1)]
theorem qkp {α:Type}{sz:Nat}{en:α->List AV}(s:List α)(H:List Blk)(hn:∀ x,qw (en x)=true):q9 (fin H (qje sz en s))=true/\Leq (fin H (qje sz en s)) (.sl sz (s.map en) .none):=by
 cases s with
 | nil=>simp[qje,Leq]
 | cons a r=>
  have h:=zw hn (a::r);refine⟨?_,Leq.sl rfl⟩;simpa[qje] using h
theorem env16 (p:Problem)(a:List Int)(hl:p.vars.length<=1000)(ha:Fits a):Pure Tryz.prog GG 41 [.agg (qG p),.sl 1 (a.map qr) .none] (.sl 2 ((ky p.vars a).map qU) .none):=by
 refine Pure.vc qe Tryz.func41 rfl (by kernel_rfl) ?_;by_cases hlen:a.length=p.vars.length
 . rw[Zv,if_pos hlen];have hE:=yj hlen;simp[hlen];refine qv.intro (fun n ev U=>∃ i tl,i<=p.vars.length/\n=p.vars.length-i/\ev 1=.sl 1 (a.map qr) .none/\ev 5=qje 2 qU ((wH p.vars a).take i)/\ev 15=.sl 4 (p.vars.map qE) .none/\ev 16=.int .i64 p.vars.length/\ev 17=.int .i64 i/\U=⟨tl,qkm ((wH p.vars a).take i)⟩) p.vars.length ⟨0,_,by simp,by simp,by simp,by simp[qje],by simp,by simp,by simp,by simp[qkm];rfl⟩ ?_;rintro n ev U ⟨i,tl,hi,rfl,h1,h5,h15,h16,h17,rfl⟩
   cases hv:p.vars[i]? with
   | some v=>
    obtain⟨hc,hv'⟩:=qpy.1 hv;have hca:i<a.length:=(by omega);obtain⟨x,hx⟩:∃ x,a[i]?=some x:=⟨_,qpA hca⟩;have hx':=(qpy.1 hx).2;have ht:(wH p.vars a).take (i+1)=(wH p.vars a).take i++[⟨v.name,x⟩]:=by
     rw[qp4,vJ hv hx];rfl
    have hRl:((wH p.vars a).take i).length<=1000:=(by simp;omega);generalize hR:(wH p.vars a).take i=R at h5 ht hRl ⊢
    cases R with
    | nil=>
     simp only[qje]at h5;simp[h1,h5,h15,h16,h17,hc,hca,hv',hx',qpT,qkm,zn,zS,qF,qK,qj,qs,zK,zi];exact⟨_,by omega,i+1,by omega,rfl,by rw[ht];simp[qje],wr (by omega) (by omega),by rw[ht];simp⟩
    | cons b r=>
     have hb:r.length<=549755813886:=(by simp at hRl;omega);simp only[qje]at h5;simp[h1,h5,h15,h16,h17,hc,hca,hv',hx',qpT,qkm,zn,zS,qF,qK,qj,qs,zK,zi,hb];exact⟨_,by omega,i+1,by omega,rfl,by rw[ht];simp[qje],wr (by omega) (by omega),by rw[ht];simp⟩
   | none=>
    have hc:¬ i<p.vars.length:=(by simp at hv;omega);rw[qpH (by omega)]at h5 ⊢;have he:=qkp (sz:=2) (en:=qU) (wH p.vars a) tl (fun x=>by simp);simp[h1,h5,h15,h16,h17,hc];exact he
 . rw[Zv,if_neg hlen];have hlen':¬ (a.length:Int)=p.vars.length:=(by omega);simp[hlen,hlen',Leq]
theorem qfQ {l:List Var}{a:List Int}{i:Nat}{v:Var}{x:Int}(h:l[i]?=some v)(h':a[i]?=some x):(l.zip a)[i]?=some (v,x):=(qqW (z:=(v,x))).2 ⟨h,h'⟩
theorem qcI {l:List Var}{a:List Int}(h:¬ a.length=l.length):qC l a=false:=by simp[qC,h]
theorem qbk {l:List Var}{a:List Int}{i:Nat}{v:Var}{x:Int}(h:l[i]?=some v)(h':a[i]?=some x)(hb:zM (v,x)=false):qC l a=false:=by
 unfold qC;rw[qiY (qpz (qfQ h h')) hb,qsi]
theorem Vk {l:List Var}{a:List Int}{i:Nat}(hlen:a.length=l.length)(hi:l.length<=i)(hz:∀ q∈(l.zip a).take i,zM q=true):qC l a=true:=by
 unfold qC;rw[decide_eq_true hlen,qqx];exact Vs (by simp;omega) hz
theorem qeB {v:Var}(h:jt v=0):1<=v.width/\v.width<=8:=(zc h).2
theorem qiK (p:Problem)(a:List Int)(hl:p.vars.length<=1000)(ha:Fits a)(hv:∀ v∈p.vars,jt v=0):Pure Tryz.prog GG 39 [.agg (qG p),.sl 1 (a.map qr) .none] (.bool (qC p.vars a)):=by
 refine Pure.vc qe Tryz.func39 rfl (by kernel_rfl) ?_;by_cases hlen:a.length=p.vars.length
 . generalize hr:qC p.vars a=r;simp[hlen];refine qv.intro (fun n ev U=>∃ i tl,i<=p.vars.length/\n=p.vars.length-i/\ev 1=.sl 1 (a.map qr) .none/\ev 14=.sl 4 (p.vars.map qE) .none/\ev 15=.int .i64 p.vars.length/\ev 16=.int .i64 i/\U=⟨tl,[]⟩/\∀ q∈(p.vars.zip a).take i,zM q=true) p.vars.length ⟨0,_,by simp,by simp,by simp,by simp,by simp,by simp,rfl,by simp⟩ ?_;rintro n ev U ⟨i,tl,hi,rfl,h1,h14,h15,h16,rfl,hz⟩
   cases hvi:p.vars[i]? with
   | some v=>
    obtain⟨hc,hv'⟩:=qpy.1 hvi;have hca:i<a.length:=(by omega);obtain⟨x,hx⟩:∃ x,a[i]?=some x:=⟨_,qpA hca⟩;have hx':=(qpy.1 hx).2;obtain⟨w1,w8⟩:=qeB (hv v (qpz hvi));have hs:IntKind.i64.wrap (2 ^ min v.width.toNat IntKind.i64.bits)=2 ^ v.width.toNat:=shl1 w1 w8;have hw0:¬ v.width<0:=(by omega);have bad:zM (v,x)=false->r=false:=fun hb=>by rw[<- hr];exact qbk hvi hx hb
    have good:zM (v,x)=true->∀ q∈(p.vars.zip a).take (i+1),zM q=true:=fun hg=>qZ (p:=fun q=>zM q=true) (qfQ hvi hx) hz hg
    by_cases c1:x<0
    . rw[bad (by simp only[zM];rw[decide_eq_false (by omega:¬ 0<=x)];rfl)];simp[h1,h14,h15,h16,hc,hca,hv',hx',qpT,c1]
    by_cases c2:(2:Int) ^ v.width.toNat<=x
    . rw[bad (by simp only[zM];rw[decide_eq_false (by omega:¬ x<2 ^ v.width.toNat)];simp)];simp[h1,h14,h15,h16,hc,hca,hv',hx',qpT,c1,hs,hw0,c2]
    by_cases c3:v.mode=0
    . by_cases c4:x=v.value
      . have g:=good (by simp only[zM];rw[decide_eq_true (by omega:0<=x),decide_eq_true (by omega:x<2 ^ v.width.toNat),decide_eq_true c4];simp);subst c4;simp[h1,h14,h15,h16,hc,hca,hv',hx',qpT,c1,hs,hw0,c2,c3];exact⟨_,by omega,i+1,by omega,rfl,wr (by omega) (by omega),by simpa using g⟩
      . rw[bad (by simp only[zM];rw[decide_eq_true c3,decide_eq_false c4];simp)];simp[h1,h14,h15,h16,hc,hca,hv',hx',qpT,c1,hs,hw0,c2,c3,c4]
    . have g:=good (by simp only[zM];rw[decide_eq_true (by omega:0<=x),decide_eq_true (by omega:x<2 ^ v.width.toNat),decide_eq_false c3];simp);simp[h1,h14,h15,h16,hc,hca,hv',hx',qpT,c1,hs,hw0,c2,c3];exact⟨_,by omega,i+1,by omega,rfl,wr (by omega) (by omega),by simpa using g⟩
   | none=>
    have hle:p.vars.length<=i:=(by simpa using hvi);have hc:¬ i<p.vars.length:=(by omega);rw[Vk hlen hle hz]at hr;subst hr;simp[h1,h14,h15,h16,hc]
 . rw[qcI hlen];have hlen':¬ (a.length:Int)=p.vars.length:=(by omega);simp[hlen,hlen']
theorem qhB (p:Problem)(a:List Int)(e:Ex):jA p a e=(decide (qk p=0)&&qC p.vars a&&decide (Kk (ky p.vars a) e=0)&&!decide (yp (ky p.vars a) e=0)):=rfl
theorem qdT (p:Problem)(a:List Int)(e:Ex)(h:VQ p)(ha:Fits a)(hwe:Wen e)(hh:hgt e<=1000)(hsz:(pre e).length<=100000):Pure Tryz.prog GG 17 [.agg (qG p),.sl 1 (a.map qr) .none,.agg (qq e)] (.bool (jA p a e)):=by
 refine Pure.vc qe Tryz.func17 rfl (by kernel_rfl) ?_;have hva:=yh p h;have hen:=env16 p a h.vars ha;have hev:=qmO (ky p.vars a) (by have:=qlh (l:=p.vars) (a:=a);have:=h.vars;omega) e hwe (by omega) hsz;have hr:=qhB p a e;generalize jA p a e=r at hr ⊢;simp only[qG]at hva hen;simp only[qd e];simp;refine qb.call hva (by simp) ?_;by_cases h0:qk p=0
 . have has:=qiK p a h.vars ha (JQ h0);simp only[qG]at has;simp[h0];refine qb.call has (by simp) ?_;rw[decide_eq_true h0,qqx]at hr;cases hc:qC p.vars a
   . rw[hc]at hr;subst hr;simp
   . rw[hc,qqx]at hr;simp;refine qb.call hen (by simp) ?_
     try simp[qd e]
     try rw[<- qd e]
     refine qb.call hev (by simp) ?_;by_cases h1:Kk (ky p.vars a) e=0
     . by_cases h2:yp (ky p.vars a) e=0
       . rw[decide_eq_true h1,decide_eq_true h2]at hr;subst hr;simp[h1,h2]
       . rw[decide_eq_true h1,decide_eq_false h2]at hr;subst hr;simp[h1,h2]
     . rw[decide_eq_false h1]at hr;simp at hr;subst hr;simp[h1]
 . rw[decide_eq_false h0]at hr;simp at hr;subst hr;simp[h0]
theorem qd7 {p:Problem}(hvp:qk p=0){a:List Int}{e:Ex}(h:yp (ky p.vars a) e≠0)(ha:qC p.vars a=true):jA p a e=true:=by
 obtain⟨h1,h2⟩:=qle h;unfold jA;simp[hvp,ha,h1,h]
theorem qcM {p:Problem}(hvp:qk p=0){a:List Int}(ha:a∈yg p.vars):qC p.vars a=true:=by
 have hok:=k0.1 ha;unfold qC;simp only[qpC,decide_eq_true_eq,qpJ];refine⟨hok.len,?_⟩;rintro⟨v,x⟩ hx;obtain⟨i,hi⟩:=qqg hx;obtain⟨h1,h2⟩:=qqW.1 hi;obtain⟨y,hy,hc⟩:=kh hok h1;rw[h2]at hy;cases hy;dsimp only at h1 h2 hc ⊢;have hve:=ju hvp v (qpz h1);have h3:((2 ^ v.width.toNat:Nat):Int)=(2:Int) ^ v.width.toNat:=by simp
 unfold zM;by_cases hm:v.mode=0
 . rw[if_pos hm]at hc;subst hc;have hvv:=qeA hve;simp[hm,hvv]
 . rw[if_neg hm]at hc;unfold jm at hc;have:x<(2:Int) ^ v.width.toNat:=by omega
   simp[hm,hc.1,this]
theorem Kx (e:Ex):(qq e).take 4=qq e:=qpH (Nat.le_of_eq (za e))
theorem qkX {c:Nat}{cfr:List AV}(q:Ex->Bool)(l:List Ex)(hl:l.length<=50000)(tok:Abs.Tok)(H:List Blk)(T:List (Option Nat))
 (hc:∀ e∈l,∀ (H':List Blk) (T':List (Option Nat)),KpL [] H H'->qf Tryz.prog GG c (.agg (qq e)::cfr) ⟨H',T'⟩ (fun r U'=>r=.bool (q e)/\KpL [] H' U'.H)) :
 qf Tryz.prog GG 118 [.sl 4 (l.map qq) tok,.fn c [] cfr] ⟨H,T⟩ (fun r U'=>(∃ n:Int,r=.int .i64 n/\(l.any q=true->0<=n)/\(l.any q=false->n<0))/\KpL [] H U'.H):=by
 refine qf.k qe Tryz.func118 rfl (by kernel_rfl) ?_;obtain⟨res,hres⟩:∃ res,res=l.any q:=⟨_,rfl⟩;rw[<- hres];simp[-getElem?_pos];refine qY.listR l (fun d ev U=>ev 0=.sl 4 (l.map qq) tok/\ev 1=.fn c [] cfr/\ev 7=.int .i64 l.length/\ev 8=.int .i64 d.length/\KpL [] H U.H/\res=(l.drop d.length).any q) ?_ ?_ ?_
 . exact⟨by simp,by simp,by simp,by simp,KpL.refl,by simpa using hres⟩
 . rintro d e rest ev ⟨H1,T1⟩ R hR hd hx hlt ⟨e0,e1,e7,e8,hk,hr⟩;dsimp only at hk;have hdw:=wr (n:=(d.length:Int)+1) (by omega) (by omega);have hlt':(d.length:Int)<l.length:=(by omega);have hc1:=hc e (qpz hx) H1 T1 hk;have hdr:l.drop d.length=e::l.drop (d.length+1):=by
    obtain⟨h1,h2⟩:=qpy.1 hx;rw[qpP h1,h2]
   rw[hdr,qrC]at hr;simp[-getElem?_pos,-qN,e0,e1,e7,e8,hlt,hlt',hx,za,yl,Kx];refine qc.acall hc1 ?_;rintro r ⟨H2,T2⟩ ⟨rfl,hk2⟩;dsimp only at hk2
   cases hq:q e with
   | true=>
    rw[hq,Bool.true_or]at hr;subst hr;simp[-getElem?_pos,e0,e1,e7,e8];exact hk.trans hk2
   | false=>
    rw[hq,qrO]at hr;simp[-getElem?_pos,e0,e1,e7,e8,hdw];exact hR _ _ ⟨by simp[e0],by simp[e1],by simp[e7],by simp,hk.trans hk2,by rw[qpD];exact hr⟩
 . rintro ev ⟨H1,T1⟩ ⟨e0,e1,e7,e8,hk,hr⟩;have:res=false:=by rw[hr,qrj];rfl
   subst this;simp[-getElem?_pos,e0,e1,e7,e8];exact hk
theorem qcz {c:Nat}{cfr:List AV}(q:Ex->Bool)(l:List Ex)(hl:l.length<=50000)(tok:Abs.Tok)(H:List Blk)(T:List (Option Nat))
 (hc:∀ e∈l,∀ (H':List Blk) (T':List (Option Nat)),KpL [] H H'->qf Tryz.prog GG c (.agg (qq e)::cfr) ⟨H',T'⟩ (fun r U'=>r=.bool (q e)/\KpL [] H' U'.H)) :
 qf Tryz.prog GG 64 [.sl 4 (l.map qq) tok,.fn c [] cfr] ⟨H,T⟩ (fun r U'=>r=.bool (l.any q)/\KpL [] H U'.H):=by
 refine qf.k qe Tryz.func64 rfl (by kernel_rfl) ?_;have hi:=qkX q l hl tok H T hc;generalize l.any q=res at *;simp[-getElem?_pos];refine qc.acall hi ?_;rintro r ⟨H1,T1⟩ ⟨⟨n,rfl,h1,h2⟩,hk⟩;dsimp only at hk
 cases res with
 | true=>
  have:=h1 rfl;simp[-getElem?_pos,this];exact hk
 | false=>
  have:¬ (0<=n):=by have:=h2 rfl;omega
  simp[-getElem?_pos,this];exact hk
theorem qgv {s:Spc}{H:List Blk}(hq:VQ s.p)(hs:SpOk s H){r:AV}{a:List Int}(haf:Fits a)(hfr:∀ H',KpL [] H H'->Leq (frz H' 8 r) (.sl 1 (a.map qr) .none)){e:Ex}(hwe:Wen e)(hh:hgt e<=1000)(hsz:(pre e).length<=100000){B1 B2:Nat}(h1:H[B1]?=some (.cells [.ptr s.S 0]))(h2:H[B2]?=some (.cells [r]))(T:List (Option Nat)) :
 qf Tryz.prog GG 65 [.agg (qq e),.ptr B1 0,.ptr B2 0] ⟨H,T⟩ (fun v U'=>v=.bool (!jA s.p a e)/\KpL [] H U'.H):=by
 refine qf.k qe Tryz.func65 rfl (by kernel_rfl) ?_;have hS:=hs.c;have hh1:=qdT s.p a e hq haf hwe hh hsz;generalize jA s.p a e=res at *;simp only[spE,qG,qpU,qpS]at hS;simp only[qG,qd e]at hh1;simp only[qd e];have k1:=qa h1;have k2:=qa h2;have k3:=qa hS;simp[-getElem?_pos,k1,k2,k3];refine qc.lent hh1 rfl ?_ ?_
 . simp only[qpK,qqa,zu,and_true];refine⟨?_,hfr _ KpL.app,?_⟩
   . rw[qW (by simp)];exact Leq.refl _
   . rw[qW (by simp)];exact Leq.refl _
 . simp[-getElem?_pos,unA];exact KpL.app
theorem qdb {s:Spc}{H:List Blk}(hq:VQ s.p)(hs:SpOk s H)(hl:s.R.length<=50000){r:AV}{a:List Int}(haf:Fits a)(hbx:qN r=some [r])(hfr:∀ H',KpL [] H H'->Leq (frz H' 8 r) (.sl 1 (a.map qr) .none))(hx:∀ e∈s.R,Wen e/\hgt e<=1000/\(pre e).length<=100000)(T:List (Option Nat)) :
 qf Tryz.prog GG 33 [.ptr s.S 0,r] ⟨H,T⟩ (fun v U'=>v=.bool (s.R.all (jA s.p a))/\KpL [] H U'.H):=by
 refine qf.k qe Tryz.func33 rfl (by kernel_rfl) ?_;have hS:=hs.c;have hk0:KpL [] H (H++[.cells [.ptr s.S 0],.cells [r]]):=KpL.app;have hcon:=qcz (c:=65) (cfr:=[.ptr H.length 0,.ptr (H.length+1) 0]) (fun e=>!jA s.p a e) s.R hl s.rtok (H++[.cells [.ptr s.S 0],.cells [r]]) T (fun e he H' T' hk=>by
  obtain⟨x1,x2,x3⟩:=hx e he;have hkk:=hk0.trans hk;exact qgv hq (hs.keep hkk (by simp) (by simp) (by simp)) haf (fun H2 hk2=>hfr _ (hkk.trans hk2)) x1 x2 x3 (hk.2 _ _ lk0 (by simp)) (hk.2 _ _ lk1 (by simp)) T')
 have hany:(!s.R.any fun e=>!jA s.p a e)=s.R.all (jA s.p a):=by simp[List.all_eq_not_any_not]
 generalize (s.R.any fun e=>!jA s.p a e)=res at *;rw[<- hany];simp only[spE,qG,qpU,qpS]at hS;have k1:=qa hS;simp[-getElem?_pos,-qN,hbx,k1,show qN (.ptr s.S 0)=some [.ptr s.S 0] from rfl];refine qc.acall hcon ?_;rintro v ⟨H1,T1⟩ ⟨rfl,hk1⟩;simp[-getElem?_pos,unA];exact hk0.trans hk1
def qeb (ok:List Int->Bool)(vs:List Var)(pre:List Int):Nat:=(yg vs).countP fun x=>ok (pre++x)
theorem qly (ok:List Int->Bool)(pre:List Int):qeb ok [] pre=if ok pre then 1 else 0:=by
 simp[qeb,yg,qs5]
theorem qo8 (ok:List Int->Bool){v:Var}(h:v.mode=0)(vs:List Var)(pre:List Int):qeb ok (v::vs) pre=qeb ok vs (pre++[v.value]):=by
 unfold qeb;rw[Y2 h,qsr];congr 1;funext x;simp
def qlw (ok:List Int->Bool)(vs:List Var)(pre:List Int)(k:Nat):Nat:=((List.range k).flatMap fun n:Nat=>(yg vs).map ((n:Int)::·)).countP fun x=>ok (pre++x)
theorem qo9 (ok:List Int->Bool){v:Var}(h:¬ v.mode=0)(vs:List Var)(pre:List Int):qeb ok (v::vs) pre=qlw ok vs pre (2 ^ v.width.toNat):=by
 unfold qeb qlw;rw[Y3 h];rfl
theorem qbc (ok:List Int->Bool)(vs:List Var)(pre:List Int)(k:Nat):qlw ok vs pre (k+1)=qlw ok vs pre k+qeb ok vs (pre++[(k:Int)]):=by
 unfold qlw qeb;rw[qqT,List.flatMap_append,List.countP_append];congr 1;simp only[qpY,qrZ,qqc,qsr];congr 1;funext x;simp
theorem qil (ok:List Int->Bool)(vs:List Var)(pre:List Int):∀ k,qlw ok vs pre k<=k*(yg vs).length
 | 0=>by simp[qlw]
 | k+1=>by
  have h1:=qil ok vs pre k;have h2:qeb ok vs (pre++[(k:Int)])<=(yg vs).length:=qs6;rw[qbc,qrH];omega
theorem qcO {v:Var}(h:¬ v.mode=0)(vs:List Var):(yg (v::vs)).length=2 ^ v.width.toNat*(yg vs).length:=by
 rw[Qp,Qp];simp only[qpK,qrD,if_neg h,Nat.pow_add]
theorem qcN {v:Var}(h:v.mode=0)(vs:List Var):(yg (v::vs)).length=(yg vs).length:=by
 rw[Qp,Qp];simp only[qpK,qrD,if_pos h,qq4]
structure EnB where
 A:Nat
 P:Nat
 N:Nat
 V:Nat
 AL:Nat
structure EnOk (B:EnB)(s:Spc)(rv:AV)(a:List Int)(n:Nat)(H:List Blk):Prop where
 sp:SpOk s H
 fa:H[B.A]?=some (.cells [rv])
 fp:H[B.P]?=some (.cells [.ptr s.S 0])
 fn:H[B.N]?=some (.cells [.int .i64 (n:Nat)])
 fv:H[B.V]?=some (.cells [.fn 56 [] [.ptr B.A 0,.ptr B.P 0,.ptr B.N 0,.ptr B.V 0]])
 fr:qfN B.AL H rv a
 ne:B.N≠B.AL
 o:∀ b∈[B.A,B.P,B.V,s.S,s.L,s.LL],b≠B.N/\b≠B.AL
theorem EnOk.keep {B:EnB}{s:Spc}{rv:AV}{a:List Int}{n:Nat}{H H':List Blk}(h:EnOk B s rv a n H)(hk:KpL [] H H'):EnOk B s rv a n H' :=
 ⟨h.sp.keep hk (by simp) (by simp) (by simp),hk.2 _ _ h.fa (by simp),hk.2 _ _ h.fp (by simp),hk.2 _ _ h.fn (by simp),hk.2 _ _ h.fv (by simp),h.fr.imp id fun ⟨h1,h2,h3⟩=>⟨h1,h2,hk.2 _ _ h3 (by simp)⟩,h.ne,h.o⟩
theorem EnOk.setN {B:EnB}{s:Spc}{rv:AV}{a:List Int}{n:Nat}{H:List Blk}(h:EnOk B s rv a n H)(m:Nat):EnOk B s rv a m (H.set B.N (.cells [.int .i64 (m:Nat)])):=by
 have hl:=(qpy.1 h.fn).1;have hk:KpL [B.N] H (H.set B.N (.cells [.int .i64 (m:Nat)])):=KpL.set (by simp);have ho:=h.o;exact⟨h.sp.keep hk (by simpa using (ho s.S (by simp)).1) (by simpa using (ho s.L (by simp)).1) (by simpa using (ho s.LL (by simp)).1),hk.2 _ _ h.fa (by simpa using (ho B.A (by simp)).1),hk.2 _ _ h.fp (by simpa using (ho B.P (by simp)).1),qpF hl,hk.2 _ _ h.fv (by simpa using (ho B.V (by simp)).1),
  h.fr.imp id fun ⟨h1,h2,h3⟩=>⟨h1,h2,hk.2 _ _ h3 (by simpa using Ne.symm h.ne)⟩,h.ne,h.o⟩
theorem EnOk.setA {B:EnB}{s:Spc}{rv:AV}{a:List Int}{n:Nat}{H:List Blk}(h:EnOk B s rv a n H)(ha:a≠[])(i:Nat)(x:Int):EnOk B s rv (a.set i x) n (H.set B.AL (.cells (zL (a.set i x)))):=by
 rcases h.fr with ⟨h0,-⟩|⟨h1,h2,h3⟩
 . exact absurd h0 ha
 have hl:=(qpy.1 h3).1;have hk:KpL [B.AL] H (H.set B.AL (.cells (zL (a.set i x)))):=KpL.set (by simp);have ho:=h.o;exact⟨h.sp.keep hk (by simpa using (ho s.S (by simp)).2) (by simpa using (ho s.L (by simp)).2) (by simpa using (ho s.LL (by simp)).2),hk.2 _ _ h.fa (by simpa using (ho B.A (by simp)).2),hk.2 _ _ h.fp (by simpa using (ho B.P (by simp)).2),hk.2 _ _ h.fn (by simpa using h.ne),hk.2 _ _ h.fv (by simpa using (ho B.V (by simp)).2),
  .inr ⟨by simpa using ha,by rw[qqR];exact h2,qpF hl⟩,h.ne,h.o⟩
noncomputable def okE (s:Spc)(a:List Int):Bool:=s.R.all (jA s.p a)
def EnQ (B:EnB)(s:Spc)(rv:AV)(i:Nat)(a:List Int)(n:Nat)(H:List Blk)(r:AV)(U':St):Prop :=
 KpL [B.N,B.AL] H U'.H/\∃ a',a'.length=a.length/\a'.take i=a.take i/\EnOk B s rv a' (n+qeb (okE s) (s.p.vars.drop i) (a.take i)) U'.H
theorem qfN.ac {b:Nat}{H:List Blk}{v:AV}{a:List Int}(h:qfN b H v a):qN v=some [v]:=by
 rcases h with ⟨-,sz,tok,rfl⟩|⟨-,rfl,-⟩<;>rfl
theorem qfN.ln {b:Nat}{H:List Blk}{v:AV}{a:List Int}(h:qfN b H v a)(U:St):Jw (Dof Tryz.prog) U 28 v=some (.int .i64 (a.length:Nat)):=by
 rcases h with ⟨rfl,sz,tok,rfl⟩|⟨h0,rfl,hb⟩<;>simp
theorem qh3 {B:EnB}{s:Spc}(hq:VQ s.p)(hv:∀ v∈s.p.vars,0<=v.width/\v.width<=20)(hRl:s.R.length<=50000)(hx:∀ e∈s.R,Wen e/\hgt e<=1000/\(pre e).length<=100000)(rv:AV) :
 ∀ (k i:Nat) (a:List Int) (n:Nat),i+k=s.p.vars.length->a.length=s.p.vars.length->n+(yg (s.p.vars.drop i)).length<=2 ^ 24->∀ (H:List Blk) (T:List (Option Nat)),EnOk B s rv a n H ->
  qf Tryz.prog GG 56 [.int .i64 i,.ptr B.A 0,.ptr B.P 0,.ptr B.N 0,.ptr B.V 0] ⟨H,T⟩ (EnQ B s rv i a n H):=by
 intro k
 induction k with
 | zero=>
  intro i a n hik hal hn H T ok;refine qf.k qe Tryz.func56 rfl (by kernel_rfl) ?_;obtain⟨hsp,bA,bP,bN,bV,hr,hne,ho⟩:=id ok;have hln:=hr.ln;have hd:s.p.vars.drop i=[]:=qp9 (by omega);have hcnt:qeb (okE s) (s.p.vars.drop i) (a.take i)=if okE s a then 1 else 0:=by rw[hd,qly,qpH (by omega)]
  rw[hd]at hn;have hn:n+1<=2 ^ 24:=by simpa[yg] using hn
  have hi:(i:Int)=a.length:=by omega
  have hl:=hq.vars;have hfr:∀ H',KpL [] H H'->Leq (frz H' 8 rv) (.sl 1 (a.map qr) .none):=fun H' hk=>by
   have:=(qfN.frz (b:=B.AL) (H:=H') (v:=rv) (a:=a) (hr.imp id fun ⟨h1,h2,h3⟩=>⟨h1,h2,hk.2 _ _ h3 (by simp)⟩) 7).2.1;exact this
  have hso:=qdb hq hsp hRl (r:=rv) (a:=a) (by unfold Fits;omega) hr.ac hfr hx T;have fin:EnQ B s rv i a n H=fun r U'=>KpL [B.N,B.AL] H U'.H/\∃ a',a'.length=a.length/\a'.take i=a.take i/\EnOk B s rv a' (n+if okE s a then 1 else 0) U'.H:=by
   funext r U';unfold EnQ;rw[hcnt]
  rw[fin];change qf _ _ _ _ _ (fun v U'=>v=.bool (okE s a)/\_) at hso;generalize okE s a=res at *;simp[-getElem?_pos,-Jw,bA,bP,hln,hi];refine qc.acall hso ?_;rintro r ⟨H1,T1⟩ ⟨rfl,hk1⟩;dsimp only at hk1;have ok1:=ok.keep hk1;have bN1:=ok1.fn;have lN1:=(qpy.1 bN1).1;have hw:=wr (n:=(n:Int)+1) (by omega) (by omega)
  cases res with
  | false=>
   simp[-getElem?_pos];exact⟨hk1.sub (by simp),a,rfl,rfl,ok1⟩
  | true=>
   simp[-getElem?_pos,bN1,hw];exact⟨(hk1.sub (by simp)).trans (KpL.set (by simp)),a,rfl,rfl,by have:=ok1.setN (n+1);simpa using this⟩
 | succ k ih=>
  intro i a n hik hal hn H T ok;refine qf.k qe Tryz.func56 rfl (by kernel_rfl) ?_;obtain⟨hsp,bA,bP,bN,bV,hr,hne,ho⟩:=id ok;have hil:i<s.p.vars.length:=by omega
  have hia:i<a.length:=by omega
  have ha0:a≠[]:=fun e=>by rw[e]at hia;simp at hia
  obtain⟨v,hvi⟩:∃ v,s.p.vars[i]?=some v:=⟨_,qpA hil⟩;have hvw:=hv v (qpz hvi);have hdr:s.p.vars.drop i=v::s.p.vars.drop (i+1):=by
   obtain⟨h1,h2⟩:=qpy.1 hvi;rw[qpP h1,h2]
  have hl:=hq.vars;rcases hr with ⟨h0,-⟩|⟨-,hrv,bAL⟩
  . exact absurd h0 ha0
  subst hrv;have hS:=hsp.c;simp only[spE,qG,qpU,qpS]at hS;have kA:=qa bA;have kP:=qa bP;have kV:=qa bV;have kL:=qa bAL;have kS:=qa hS;have hni:¬ (i:Int)=a.length:=by omega
  have hia':(i:Int)<a.length:=by omega
  have hil':(i:Int)<s.p.vars.length:=by omega
  have hla:i+1<=a.length:=hia;have hset:∀ (a:List Int) x,(zL a).set i (.int .i64 x)=zL (a.set i x):=fun a x=>by simp[zL,qsq]
  have hwi:=wr (n:=(i:Int)+1) (by omega) (by omega);have htk:∀ (a':List Int) x,a'.length=a.length->a'.take i=a.take i->(a'.set i x).take (i+1)=a.take i++[x]:=fun a' x h1 h2=>by
   rw[qp4,qpF (by omega),List.take_set_of_le (qpI _),h2];rfl
  by_cases hm:v.mode=0
  . have hcs:=qo8 (okE s) hm (s.p.vars.drop (i+1)) (a.take i);rw[hdr,qcN hm]at hn;have ok1:=(ok.keep (H':=H++[.cells (qE v)]) KpL.app).setA ha0 i v.value;have hih:=ih (i+1) (a.set i v.value) n (by omega) (by simpa using hal) hn _ T ok1;have bV1:=ok1.fv;simp only[qE,hm]at hih bV1;rw[show (((i+1:Nat)):Int)=(i:Int)+1 by omega]at hih;simp[-getElem?_pos,kA,kP,kS,kL,bA,bP,hS,hvi,hil,hil',hia,hia',hni,hm,hset,hla,zb,bV1,hwi];refine qc.acall hih ?_;rintro r ⟨H1,T1⟩ ⟨hk1,a',l1,l2,ok2⟩;dsimp only at hk1 ok2;simp[-getElem?_pos];refine⟨KpL.trans (KpL.trans KpL.app (KpL.set (by simp))) hk1,a',by simpa using l1,?_,?_⟩
    . have:=congrArg (List.take i) l2;rw[htk a v.value rfl rfl]at this;simpa[qs7,qq8 (by omega:i<=i+1),qq8 (by omega:i<=a.length)] using this
    . rw[hdr,hcs];rw[htk a v.value rfl rfl]at ok2;exact ok2
  . have hcs:=qo9 (okE s) hm (s.p.vars.drop (i+1)) (a.take i);have hcl:=fun k=>qil (okE s) (s.p.vars.drop (i+1)) (a.take i) k
    have hsu:=fun k=>qbc (okE s) (s.p.vars.drop (i+1)) (a.take i) k
    rw[hdr,qcO hm]at hn;have hs1:=Qc hvw.1 (by omega);have hwn:¬ v.width<0:=(by omega);have hNb:2 ^ v.width.toNat<=2 ^ 20:=qp3 (by omega) (by omega);have fin:EnQ B s (.ms B.AL 0 a.length 1) i a n H=fun r U'=>KpL [B.N,B.AL] H U'.H/\∃ a',a'.length=a.length/\a'.take i=a.take i/\EnOk B s (.ms B.AL 0 a.length 1) a' (n+qlw (okE s) (s.p.vars.drop (i+1)) (a.take i) (2 ^ v.width.toNat)) U'.H:=by
     funext r U';unfold EnQ;rw[hdr,hcs]
    rw[fin];generalize 2 ^ v.width.toNat=W at *;simp[-getElem?_pos,kA,kP,kS,kL,bA,bP,hS,hvi,hil,hil',hia,hia',hni,hm,hwn,hs1,IntKind.bits];refine yq W (fun k ev U=>ev 0=.int .i64 i/\ev 1=.ptr B.A 0/\ev 2=.ptr B.P 0/\ev 3=.ptr B.N 0/\ev 4=.ptr B.V 0/\ev 39=.int .i64 W/\ev 40=.int .i64 k/\KpL [B.N,B.AL] H U.H/\∃ a',a'.length=a.length/\a'.take i=a.take i/\EnOk B s (.ms B.AL 0 a.length 1) a' (n+qlw (okE s) (s.p.vars.drop (i+1)) (a.take i) k) U.H) ?_ ?_ ?_
    . exact⟨by simp,by simp,by simp,by simp,by simp,by simp,by simp,KpL.app,a,rfl,rfl,ok.keep KpL.app⟩
    . rintro k ev ⟨H1,T1⟩ R hR hkW ⟨e0,e1,e2,e3,e4,e39,e40,hk1,a',l1,l2,ok1⟩;dsimp only at hk1 ok1;have hkW':(k:Int)<W:=(by omega);have hwk:=wr (n:=(k:Int)+1) (by omega) (by omega);have hmul:(k+1)*(yg (s.p.vars.drop (i+1))).length<=W*(yg (s.p.vars.drop (i+1))).length:=qqA _ hkW;rw[qrH]at hmul;have hck:=hcl k;have ha0':a'≠[]:=fun e=>by rw[e]at l1;simp at l1;omega
      obtain⟨hsp1,bA1,bP1,bN1,bV1,hr1,-,-⟩:=id ok1;rcases hr1 with ⟨h0,-⟩|⟨-,hrv1,bAL1⟩
      . exact absurd h0 ha0'
      have ok2:=ok1.setA ha0' i (k:Int);have bV2:=ok2.fv;have hih:=ih (i+1) (a'.set i (k:Int)) _ (by omega) (by simp;omega) (qqr (Nat.add_le_add_right (Nat.add_le_add_left hck n) _) (by omega)) _ T1 ok2;rw[show (((i+1:Nat)):Int)=(i:Int)+1 by omega]at hih;have hla':i+1<=a'.length:=(by omega);simp[-getElem?_pos,e0,e1,e2,e3,e4,e39,e40,hkW',bA1,bAL1,hia,hia',hset,hla,hla',zb,bV2,hwi];refine qc.acall hih ?_;rintro r ⟨H2,T2⟩ ⟨hk2,a2,m1,m2,ok3⟩;dsimp only at hk2 ok3;rw[htk a' k l1 l2]at m2 ok3;simp[-getElem?_pos,e0,e1,e2,e3,e4,e39,e40,hwk];refine hR _ _ ⟨by simp[e0],by simp[e1],by simp[e2],by simp[e3],by simp[e4],by simp[e39],by simp,hk1.trans (KpL.trans (KpL.set (by simp)) hk2),a2,by rw[m1,qqR,l1],?_,?_⟩
      . have:=congrArg (List.take i) m2;simpa[qs7,qq8 (by omega:i<=i+1),qq8 (by omega:i<=a.length)] using this
      . rw[hsu,<- qrv];exact ok3
    . rintro ev ⟨H1,T1⟩ ⟨e0,e1,e2,e3,e4,e39,e40,hk1,a',l1,l2,ok1⟩;dsimp only at hk1 ok1;simp[-getElem?_pos,e0,e1,e2,e3,e4,e39,e40];exact⟨hk1,a',l1,l2,ok1⟩
noncomputable def nSat (s:Spc):Nat:=(yg s.p.vars).countP (okE s)
theorem SpOk.lt {s:Spc}{H:List Blk}(h:SpOk s H):s.S<H.length/\s.L<H.length/\s.LL<H.length:=by
 refine⟨(qpy.1 h.c).1,?_,h.b⟩;obtain⟨c,hc,_⟩:=h.w;exact (qpy.1 hc).1
theorem KpL.fresh {H H1 H2:List Blk}{bs:List Nat}(h:KpL [] H H1)(h2:KpL bs H1 H2)(hB:∀ b∈bs,H.length<=b):KpL [] H H2:=⟨qqr h.1 h2.1,fun k x hk _=>h2.2 k x (h.2 k x hk (by simp)) (fun hb=>by have:=(qpy.1 hk).1;have:=hB k hb;omega)⟩
theorem enum82 {s:Spc}(hq:VQ s.p)(hv:∀ v∈s.p.vars,0<=v.width/\v.width<=20)(hRl:s.R.length<=50000)(hx:∀ e∈s.R,Wen e/\hgt e<=1000/\(pre e).length<=100000)(hn:(yg s.p.vars).length<=2 ^ 24){H:List Blk}(hs:SpOk s H)(T:List (Option Nat)) :
 qf Tryz.prog GG 25 [.ptr s.S 0] ⟨H,T⟩ (fun r U'=>r=.int .i64 (nSat s:Nat)/\KpL [] H U'.H):=by
 refine qf.k qe Tryz.func25 rfl (by kernel_rfl) ?_;have hl:=hq.vars;obtain⟨g1,g2,g3⟩:=hs.lt;have hS:=hs.c;simp only[spE,qG,qpU,qpS]at hS;have kS:=qa hS;have hcn:qeb (okE s) s.p.vars []=nSat s:=by unfold qeb nSat;simp
 by_cases h0:s.p.vars=[]
 . have lk:∀ (a b c d:Blk),(H++[a,b,c,d])[H.length]?=some a/\(H++[a,b,c,d])[H.length+1]?=some b/\(H++[a,b,c,d])[H.length+2]?=some c/\(H++[a,b,c,d])[H.length+3]?=some d:=by
    intros
    refine⟨?_,?_,?_,?_⟩<;>simp[qpG]
   obtain⟨a0,a1,a2,a3⟩:=lk (.cells [.ptr s.S 0]) (.cells [.sl 1 [] (.chain T.length 0)]) (.cells [.int .i64 0]) (.cells [.fn 56 [] [.ptr (H.length+1) 0,.ptr H.length 0,.ptr (H.length+2) 0,.ptr (H.length+3) 0]]);have ok:EnOk ⟨H.length+1,H.length,H.length+2,H.length+3,H.length+100⟩ s (.sl 1 [] (.chain T.length 0)) [] 0 (H++[.cells [.ptr s.S 0],.cells [.sl 1 [] (.chain T.length 0)],.cells [.int .i64 0],.cells [.fn 56 [] [.ptr (H.length+1) 0,.ptr H.length 0,.ptr (H.length+2) 0,.ptr (H.length+3) 0]]]) :=
    ⟨hs.keep KpL.app (bs:=[]) (by simp) (by simp) (by simp),a1,a0,a2,a3,.inl ⟨rfl,1,_,rfl⟩,by dsimp only;omega,by simp;omega⟩
   have he:=qh3 hq hv hRl hx _ s.p.vars.length 0 [] 0 (by omega) (by rw[h0];rfl) (by simpa using hn) _ (T++[some 0]) ok;simp[-getElem?_pos,kS,h0,qy];refine qc.acall he ?_;rintro r ⟨H1,T1⟩ ⟨hk1,a',l1,l2,ok2⟩;dsimp only at hk1 ok2;have bN:=ok2.fn;simp only[qqQ,List.take_nil,hcn,qq4]at bN;simp[-getElem?_pos,bN];exact KpL.fresh KpL.app hk1 (by simp)
 . have hpos:=qpO.2 h0;have hne:¬ (s.p.vars.length:Int)=0:=(by omega);have hle:(s.p.vars.length:Int)<=549755813888:=(by omega);have lk:∀ (a b c d e:Blk),(H++[a,b,c,d,e])[H.length]?=some a/\(H++[a,b,c,d,e])[H.length+1]?=some b/\(H++[a,b,c,d,e])[H.length+2]?=some c/\(H++[a,b,c,d,e])[H.length+3]?=some d/\(H++[a,b,c,d,e])[H.length+4]?=some e:=by
    intros
    refine⟨?_,?_,?_,?_,?_⟩<;>simp[qpG]
   obtain⟨a0,a1,a2,a3,a4⟩:=lk (.cells [.ptr s.S 0]) (.cells (List.replicate s.p.vars.length (.int .i64 0))) (.cells [.ms (H.length+1) 0 s.p.vars.length 1]) (.cells [.int .i64 0]) (.cells [.fn 56 [] [.ptr (H.length+2) 0,.ptr H.length 0,.ptr (H.length+3) 0,.ptr (H.length+4) 0]]);have hrn:∀ n,zL (List.replicate n 0)=List.replicate n (.int .i64 0):=fun n=>by simp[zL]
   have ok:EnOk ⟨H.length+2,H.length,H.length+3,H.length+4,H.length+1⟩ s (.ms (H.length+1) 0 s.p.vars.length 1) (List.replicate s.p.vars.length 0) 0 (H++[.cells [.ptr s.S 0],.cells (List.replicate s.p.vars.length (.int .i64 0)),.cells [.ms (H.length+1) 0 s.p.vars.length 1],.cells [.int .i64 0],.cells [.fn 56 [] [.ptr (H.length+2) 0,.ptr H.length 0,.ptr (H.length+3) 0,.ptr (H.length+4) 0]]]) :=
    ⟨hs.keep KpL.app (bs:=[]) (by simp) (by simp) (by simp),a2,a0,a3,a4,.inr ⟨by simpa using h0,by simp,by rw[hrn];exact a1⟩,by dsimp only;omega,by simp;omega⟩
   have he:=qh3 hq hv hRl hx _ s.p.vars.length 0 (List.replicate s.p.vars.length 0) 0 (by omega) (by simp) (by simpa using hn) _ T ok;simp[-getElem?_pos,kS,h0,qy,hne,hle];refine qc.acall he ?_;rintro r ⟨H1,T1⟩ ⟨hk1,a',l1,l2,ok2⟩;dsimp only at hk1 ok2;have bN:=ok2.fn;simp only[qqQ,qs8,hcn,qq4]at bN;simp[-getElem?_pos,bN];exact KpL.fresh KpL.app hk1 (by simp)
theorem ZI:∀ vs:List Var,(yg vs).Nodup
 | []=>by simp[yg]
 | v::vs=>by
  have ih:=ZI vs;have hc:∀ x:Int,((yg vs).map (x::·)).Nodup:=fun x=>qsl.2 (ih.imp fun h e=>h (List.cons.inj e).2)
  by_cases h:v.mode=0
  . rw[Y2 h];exact hc _
  . rw[Y3 h];refine List.pairwise_flatMap.2 ⟨fun n _=>hc _,(List.nodup_range (n:=jm v)).imp fun {a b} hab x hx y hy e=>?_⟩;obtain⟨x',-,rfl⟩:=qp1.1 hx;obtain⟨y',-,rfl⟩:=qp1.1 hy;have:=(List.cons.inj e).1;exact hab (by omega)
theorem LW_in {p:Problem}:∀ (l:List Nat) (x:Nat),x<LW p l->∃ k i,l[k]?=some i/\LW p (l.take k)<=x/\x<LW p (l.take k)+jx p i
 | [],x,h=>by simp[LW]at h
 | i::l,x,h=>by
  by_cases hx:x<jx p i
  . exact⟨0,i,rfl,by simp[LW],by simpa[LW] using hx⟩
  . have h2:LW p (i::l)=jx p i+LW p l:=(by simp[LW]);obtain⟨k,j,h3,h4,h5⟩:=LW_in (p:=p) l (x-jx p i) (by omega);refine⟨k+1,j,by simpa using h3,?_,?_⟩
    . rw[qrK,show LW p (i::l.take k)=jx p i+LW p (l.take k) by simp[LW]];omega
    . rw[qrK,show LW p (i::l.take k)=jx p i+LW p (l.take k) by simp[LW]];omega
theorem qpw {p:Problem}{l:List Nat}{k i:Nat}(h:l[k]?=some i):LW p (l.take k)+jx p i<=LW p l:=by
 have hk:=(qpy.1 h).1;have e:l=l.take k++i::l.drop (k+1):=by
  obtain⟨h1,h2⟩:=qpy.1 h;have:=qqt k l;rw[qpP h1,h2]at this;exact this.symm
 have:=congrArg (LW p) e;rw[qej,show LW p (i::l.drop (k+1))=jx p i+LW p (l.drop (k+1)) by simp[LW]]at this;omega
theorem Wj {p:Problem}(hv:qk p=0){b c:Nat->Bool}(h:∀ l,l<LW p (NG p).flatten->b l=c l):vL p.vars (qA p) b=vL p.vars (qA p) c:=by
 have hl:=fun b=>(k0.1 (Vn hv b)).len
 apply qqm;intro i;by_cases hi:i<p.vars.length
 . obtain⟨v,hvi⟩:∃ v,p.vars[i]?=some v:=⟨_,qpA hi⟩;by_cases hm:v.mode=0
   . rw[Vm b hvi hm,Vm c hvi hm]
   . rw[wC hv b hvi hm,wC hv c hvi hm];obtain⟨k,hk⟩:=qqg (WF hv hvi hm);have e:Jr p b i=Jr p c i:=Ks fun j hj=>h _ (by
      rw[qaz hv hk];have:=qpw (p:=p) hk;omega)
     rw[e]
 . rw[qpW (by rw[hl];omega),qpW (by rw[hl];omega)]
theorem qlO {p:Problem}(hv:qk p=0){b c:Nat->Bool}(h:vL p.vars (qA p) b=vL p.vars (qA p) c):∀ l,l<LW p (NG p).flatten->b l=c l:=by
 intro l hl;obtain⟨k,i,hk,h1,h2⟩:=LW_in _ l hl;obtain⟨v,hvi,hm⟩:=ko hv (qpz hk);have e1:=wC hv b hvi hm;rw[h,wC hv c hvi hm]at e1;have e2:Jr p b i=Jr p c i:=by
  have:=Option.some.inj e1;omega
 have hl:=qaz hv hk;have f1:=JS e2 (j:=l-Zj (qA p) i) (by omega);have f2:=JS (rfl:Jr p c i=Jr p c i) (j:=l-Zj (qA p) i) (by omega);rw[show Zj (qA p) i+(l-Zj (qA p) i)=l by omega]at f1 f2;rw[f1,f2]
theorem qlI (n:Nat)(b:Nat->Bool){l:Nat}(hl:l<n):qmY ((List.range n).map b) l=b l:=by
 unfold qmY;rw[qpM,qpX,qr4 hl];rfl
theorem Vl {p:Problem}(hv:qk p=0):((qbs (LW p (NG p).flatten)).map fun s=>vL p.vars (qA p) (qmY s)).Perm (yg p.vars):=by
 refine (List.perm_ext_iff_of_nodup ?_ (ZI _)).2 fun a=>?_
 . refine qsl.2 (List.Pairwise.imp_of_mem (fun {s t} hs ht hst e=>hst ?_) (Wk _));have ls:=JI.1 hs;have lt:=JI.1 ht;apply qqm;intro i;by_cases hi:i<LW p (NG p).flatten
   . have:=qlO hv e i hi;unfold qmY at this;rw[qpM,qpM]at this;rw[qpA (by omega),qpA (by omega)]at this ⊢;exact congrArg some (by simpa using this)
   . rw[qpW (by omega),qpW (by omega)]
 . constructor
   . intro h;obtain⟨s,-,rfl⟩:=qp1.1 h;exact Vn hv _
   . intro h;obtain⟨b,hb,-⟩:=qbm hv h;refine qp1.2 ⟨(List.range (LW p (NG p).flatten)).map b,JI.2 (by simp),?_⟩;rw[<- hb];exact Wj hv fun l hl=>qlI _ b hl
noncomputable def JW (p:Problem)(R:List Ex):Nat:=(yg p.vars).countP (vV p.vars R)
theorem qlu {p:Problem}(hv:qk p=0){R:List Ex}{d:List Nd}(hd:DagOk d){root:Nat}(hr:root<d.length)(hroot:∀ b,evD d b root=vV p.vars R (vL p.vars (qA p) b)) :
 j8 d root<LW p (NG p).flatten/\Wg d 0 (LW p (NG p).flatten) root=JW p R:=by
 have h1:j8 d root<LW p (NG p).flatten:=qo3 hd _ (root+1) root (by omega) hr fun b c hbc=>by rw[hroot,hroot,Wj hv hbc]
 refine⟨h1,?_⟩;rw[qlx hd (qi7 hv) hr h1];unfold JW;rw[<- (Vl hv).countP_eq,qsr];congr 1;funext s;simp[hroot]
theorem qnH {s:Spc}(hv:qk s.p=0){a:List Int}(ha:a∈yg s.p.vars):okE s a=vV s.p.vars s.R a:=by
 unfold okE vV;have has:=qcM hv ha;rw[qqo,qpJ,qpJ];refine⟨fun h e he=>?_,fun h e he=>qd7 hv (by simpa using h e he) has⟩;have:=h e he;unfold jA at this;simp at this;simpa using this.2
theorem qhd {s:Spc}(hv:qk s.p=0):nSat s=JW s.p s.R:=List.countP_congr fun a ha=>by rw[qnH hv ha]
theorem Vu:∀ n,(qbs n).length=2 ^ n
 | 0=>rfl
 | n+1=>by rw[qbs,qpD,qqd,qqd,Vu n,qrV];omega
theorem qi8 {p:Problem}(hv:qk p=0)(hl:p.vars.length<=1000):(LW p (NG p).flatten:Int)=yX p.vars (qz p):=by
 obtain⟨h1,h2⟩:=Vt hv hl;have h3:=(Vl hv).length_eq;rw[qqd,Vu,h2]at h3;have:LW p (NG p).flatten=(p.vars.map qjg).sum:=by
  rcases Nat.lt_trichotomy (LW p (NG p).flatten) (p.vars.map qjg).sum with h|h|h
  . have:=Nat.pow_lt_pow_right (by decide:1<2) h;omega
  . exact h
  . have:=Nat.pow_lt_pow_right (by decide:1<2) h;omega
 rw[h1,this]
structure FoB where
 E:Nat
 D:Nat
 G:Nat
 V:Nat
 C:Nat
 K:Nat
 DL:Nat
 KL:Nat
def qoY (b:Bool):AV:=.bool b
def qlj (n:Int):AV:=.int .i64 n
structure FoOk (B:FoB)(nv cf:AV)(e0 e1:Int)(f:Nat)(val:Nat->Int)(H:List Blk):Prop where
 e:H[B.E]?=some (.cells [.int .i64 e0,.int .i64 e1])
 d:H[B.D]?=some (.cells [.ms B.DL 0 (f+1) 1])
 g:H[B.G]?=some (.cells [nv])
 v:H[B.V]?=some (.cells [.fn 166 [] [.ptr B.E 0,.ptr B.D 0,.ptr B.G 0,.ptr B.V 0,.ptr B.C 0,.ptr B.K 0]])
 c:H[B.C]?=some (.cells [cf])
 k:H[B.K]?=some (.cells [.ms B.KL 0 (f+1) 1])
 ne:B.DL≠B.KL
 o:∀ b∈[B.E,B.D,B.G,B.V,B.C,B.K],b≠B.DL/\b≠B.KL
 r:∃ (dn:List Bool) (kn:List Int),H[B.DL]?=some (.cells (dn.map qoY))/\H[B.KL]?=some (.cells (kn.map qlj))/\dn.length=f+1/\kn.length=f+1/\∀ j,dn[j]?=some true->kn[j]?=some (val j)
theorem FoOk.keep {B:FoB}{nv cf:AV}{e0 e1:Int}{f:Nat}{val:Nat->Int}{H H':List Blk}(h:FoOk B nv cf e0 e1 f val H)(hk:KpL [] H H'):FoOk B nv cf e0 e1 f val H':=by
 obtain⟨dn,kn,h1,h2,h3⟩:=h.r;exact⟨hk.2 _ _ h.e (by simp),hk.2 _ _ h.d (by simp),hk.2 _ _ h.g (by simp),hk.2 _ _ h.v (by simp),hk.2 _ _ h.c (by simp),hk.2 _ _ h.k (by simp),h.ne,h.o,dn,kn,hk.2 _ _ h1 (by simp),hk.2 _ _ h2 (by simp),h3⟩
def FoQ (B:FoB)(nv cf:AV)(e0 e1:Int)(f:Nat)(val:Nat->Int)(k:Nat)(H:List Blk)(r:AV)(U':St):Prop:=r=.int .i64 (val k)/\KpL [B.DL,B.KL] H U'.H/\FoOk B nv cf e0 e1 f val U'.H
def qkc:List (Nat×Sch×List Nat):=[(5,.step 0 [9,8,7,3] (.step 1 [9,8,7,3,2] (.step 2 [9,8,7,3] (.step 5 [9,8,7,6] (.fork (.cons 3 (.step 4 [9,8,7] (.step 6 [9,8,7] (.step 7 [9,8] (.step 8 [9] (.step 9 [] (.done)))))) (.cons 4 (.fork (.cons 3 (.step 6 [9,8,7] (.step 7 [9,8] (.step 8 [9] (.step 9 [] (.done))))) (.cons 6 (.step 3 [9,8,7] (.step 7 [9,8] (.step 8 [9] (.step 9 [] (.done))))) (.nil)))) (.cons 6 (.fork (.cons 3 (.step 4 [9,8,7] (.step 7 [9,8] (.step 8 [9] (.step 9 [] (.done))))) (.cons 4 (.step 3 [9,8,7] (.step 7 [9,8] (.step 8 [9] (.step 9 [] (.done))))) (.nil)))) (.nil)))))))),[3,7]),(6,.step 1 [12,11,10,9] (.step 3 [12,11] (.step 4 [12,11,10,9,8] (.step 5 [12,11,10,9,8] (.step 6 [12,11,10,9,8] (.step 7 [12,11,10,9,8] (.fork (.cons 0 (.fork (.cons 2 (.step 8 [12,11,10,9] (.step 9 [12,11,10] (.step 10 [12,11] (.step 11 [12] (.step 12 [] (.done)))))) (.cons 8 (.step 9 [12,11,10] (.fork (.cons 2 (.step 10 [12,11] (.step 11 [12] (.step 12 [] (.done)))) (.cons 10 (.step 2 [12,11] (.step 11 [12] (.step 12 [] (.done)))) (.nil))))) (.nil)))) (.cons 2 (.fork (.cons 0 (.step 8 [12,11,10,9] (.step 9 [12,11,10] (.step 10 [12,11] (.step 11 [12] (.step 12 [] (.done)))))) (.cons 8 (.step 0 [12,11,10,9] (.step 9 [12,11,10] (.step 10 [12,11] (.step 11 [12] (.step 12 [] (.done)))))) (.nil)))) (.cons 8 (.step 0 [12,11,10,9] (.step 9 [12,11,10] (.fork (.cons 2 (.step 10 [12,11] (.step 11 [12] (.step 12 [] (.done)))) (.cons 10 (.step 2 [12,11] (.step 11 [12] (.step 12 [] (.done)))) (.nil)))))) (.nil)))))))))),[8])]
theorem qo0 {dn:List Bool}{k:Nat}{b:Bool}(h:dn[k]?=some b):(dn.map qoY).drop k=.bool b::(dn.map qoY).drop (k+1):=by
 have h':(dn.map qoY)[k]?=some (.bool b):=by rw[qpX,h];rfl
 obtain⟨h1,h2⟩:=qpy.1 h';rw[qpP h1,h2]
theorem qos {kn:List Int}{k:Nat}{b:Int}(h:kn[k]?=some b):(kn.map qlj).drop k=.int .i64 b::(kn.map qlj).drop (k+1):=by
 have h':(kn.map qlj)[k]?=some (.int .i64 b):=by rw[qpX,h];rfl
 obtain⟨h1,h2⟩:=qpy.1 h';rw[qpP h1,h2]
theorem qoJ {B:FoB}{nv cf:AV}{e0 e1:Int}{f:Nat}{val:Nat->Int}{H0 H:List Blk}{k:Nat}{r:Int}{dn:List Bool}{kn:List Int}(h:FoOk B nv cf e0 e1 f val H)(hk:k<=f)(h1:H[B.DL]?=some (.cells (dn.map qoY)))(h2:H[B.KL]?=some (.cells (kn.map qlj)))(l1:dn.length=f+1)(l2:kn.length=f+1)
 (hv:∀ j,dn[j]?=some true->kn[j]?=some (val j)) (hr:r=val k) (hkp:KpL [B.DL,B.KL] H0 H) (T:List (Option Nat)):FoQ B nv cf e0 e1 f val k H0 (.int .i64 r) ⟨(H.set B.KL (.cells ((kn.map qlj).set k (.int .i64 r)))).set B.DL (.cells ((dn.map qoY).set k (.bool true))),T⟩:=by
 have lD:=(qpy.1 h1).1;have lK:=(qpy.1 h2).1;have hs:∀ b∈[B.E,B.D,B.G,B.V,B.C,B.K],∀ y z,((H.set B.KL y).set B.DL z)[b]?=H[b]? := fun b hb y z=>by
  obtain⟨o1,o2⟩:=h.o b hb;rw[qpB (Ne.symm o1),qpB (Ne.symm o2)]
 refine⟨by rw[hr],hkp.trans (KpL.trans (KpL.set (by simp)) (KpL.set (by simp))),?_⟩;refine⟨by rw[hs _ (by simp)];exact h.e,by rw[hs _ (by simp)];exact h.d,by rw[hs _ (by simp)];exact h.g,by rw[hs _ (by simp)];exact h.v,by rw[hs _ (by simp)];exact h.c,by rw[hs _ (by simp)];exact h.k,h.ne,h.o,dn.set k true,kn.set k r,?_,?_,by simp[l1],by simp[l2],?_⟩
 . dsimp only;rw[qpF (by rw[qqR];exact lD),qsq];rfl
 . dsimp only;rw[qpB h.ne,qpF lK,qsq];rfl
 . intro j hj;by_cases hjk:k=j
   . subst hjk;rw[qpF (by omega),hr]
   . rw[qpB hjk]at hj ⊢;exact hv j hj
theorem qoI {B:FoB}(Rc:Nat->Prop){d:List Nd}{tok:Abs.Tok}(hd:DagOk d){c:Nat}{cfr:List AV}{e0 e1:Int}{f:Nat}{val:Nat->Int}(hf:f<d.length)(P:List Blk->Prop)(hP:∀ H H',P H->KpL [B.DL,B.KL] H H'->P H')
 (comb:Nd->Int->Int->Int) (hv0:val 0=e0) (hv1:val 1=e1) (hv2:∀ k n,Rc k->2<=k->d[k]?=some n->Rc n.2.1/\Rc n.2.2/\val k=comb n (val n.2.1) (val n.2.2))
 (hc:∀ k n (H:List Blk) (T:List (Option Nat)),Rc k->2<=k->d[k]?=some n->P H->qf Tryz.prog GG c ([.agg (qu n),.int .i64 (val n.2.1),.int .i64 (val n.2.2)]++cfr) ⟨H,T⟩ (fun r U'=>r=.int .i64 (comb n (val n.2.1) (val n.2.2))/\KpL [] H U'.H)) :
 ∀ (m k:Nat),k<m->k<=f->Rc k->∀ (H:List Blk) (T:List (Option Nat)),P H->FoOk B (.sl 3 (d.map qu) tok) (.fn c [] cfr) e0 e1 f val H ->
  qf Tryz.prog GG 166 [.int .i64 k,.ptr B.E 0,.ptr B.D 0,.ptr B.G 0,.ptr B.V 0,.ptr B.C 0,.ptr B.K 0] ⟨H,T⟩ (FoQ B (.sl 3 (d.map qu) tok) (.fn c [] cfr) e0 e1 f val k H):=by
 intro m
 induction m with
 | zero=>intro k hk;omega
 | succ m ih=>
  intro k hkm hkf hRk H T hPH hok;refine qf.kO ⟨false,qkc,[],[]⟩ qe Tryz.func166 rfl (by kernel_rfl) ?_;have hdm:=hd.most;obtain⟨dn,kn,hdn,hkn,ldn,lkn,hval⟩:=hok.r;obtain⟨bE,bD,bG,bV,bC,bK,hne,ho,-⟩:=id hok;by_cases h2:k<2
  . have fin:∀ u,FoQ B (.sl 3 (d.map qu) tok) (.fn c [] cfr) e0 e1 f val k H (.int .i64 (val k)) ⟨H++u,T⟩:=fun u=>⟨rfl,KpL.app,hok.keep KpL.app⟩
    have hk01:k=0\/k=1:=(by omega);rcases hk01 with rfl|rfl
    . rw[hv0]at fin;simp[-getElem?_pos,bE];have:=fin [];simpa using this
    . rw[hv1]at fin;simp[-getElem?_pos,bE];have:=fin [];simpa using this
  have h2':¬ (k:Int)<2:=by omega
  have h2b:2<=k:=by omega
  obtain⟨n,hn⟩:∃ n,d[k]?=some n:=⟨_,qpA (by omega)⟩;obtain⟨b,hb⟩:∃ b,dn[k]?=some b:=⟨_,qpA (by omega)⟩;have hdr:=qo0 hb;have hkl:k<f+1:=by omega
  have hkl':(k:Int)<f+1:=by omega
  cases b with
  | true=>
   have hkv:=hval k hb;have hdk:=qos hkv;simp[-getElem?_pos,h2,h2',hkf,bE,bD,bG,bK,hdn,hkn,hdr,hdk,hkl,hkl',ldn,lkn];exact⟨rfl,KpL.refl,hok⟩
  | false=>
   obtain⟨hn20,hlo,hhi,-⟩:=hd.node k n h2b hn;obtain⟨nl,lo,hi⟩:=n;dsimp only at hlo hhi;have hkd:k<d.length:=(by omega);simp[-getElem?_pos,h2,h2',hkf,bE,bD,bG,bK,bV,hdn,hkn,hdr,hkl,hkl',ldn,lkn,hn,hkd];rw[qI rfl];have bE0:=qa bE;have bD0:=qa bD;have bG0:=qa bG;have bV0:=qa bV;have bC0:=qa bC;have bK0:=qa bK;simp[-getElem?_pos,qO,bV0];have hok0:FoOk B (.sl 3 (d.map qu) tok) (.fn c [] cfr) e0 e1 f val (H++[.cells [.int .i64 nl,.int .i64 lo,.int .i64 hi]]):=hok.keep KpL.app;have hP0:P (H++[.cells [.int .i64 nl,.int .i64 lo,.int .i64 hi]]):=hP _ _ hPH KpL.app;have hv2k:=hv2 k _ hRk h2b hn;dsimp only at hv2k;have c1:=ih lo (by omega) (by omega) hv2k.1 (H++[.cells [.int .i64 nl,.int .i64 lo,.int .i64 hi]]) T hP0 hok0;have hkv:val k=comb (nl,lo,hi) (val lo) (val hi):=hv2k.2.2;have hlD:=(qpy.1 hdn).1;have hlK:=(qpy.1 hkn).1;have hbX:H.length≠B.DL/\H.length≠B.KL:=⟨by omega,by omega⟩
   repeat' with_reducible refine And.intro ?_ ?_
   all_goals
    refine qc.acall c1 ?_;rintro r ⟨H1,T1⟩ ⟨rfl,hk1,ok1⟩;dsimp only at hk1 ok1;have bX1:=hk1.2 _ _ lk0 (by simpa using hbX);have bV1:=ok1.v;have P1:=hP _ _ hP0 hk1;have c2:=ih hi (by omega) (by omega) hv2k.2.1 H1 T1 P1 ok1;simp[-getElem?_pos,qO,bV1,bX1];refine qc.acall c2 ?_;rintro r ⟨H2,T2⟩ ⟨rfl,hk2,ok2⟩;dsimp only at hk2 ok2;have bX2:=hk2.2 _ _ bX1 (by simpa using hbX);have P2:=hP _ _ P1 hk2;obtain⟨dn2,kn2,hdn2,hkn2,ldn2,lkn2,hval2⟩:=ok2.r;obtain⟨bE2,bD2,bG2,bV2,bC2,bK2,-,-,-⟩:=id ok2;simp[-getElem?_pos,qO,bX2];rw[qI rfl];simp[-getElem?_pos,qO,bX2,bC2,bK2,bD2]
    repeat' with_reducible refine And.intro ?_ ?_
    all_goals
     have c3:=hc k (nl,lo,hi) H2 T2 hRk h2b hn P2;simp only[qu,qpU,qpS]at c3;refine qc.acall c3 ?_;rintro r ⟨H3,T3⟩ ⟨rfl,hk3⟩;dsimp only at hk3;have ok3:=ok2.keep hk3;have hdn3:=hk3.2 _ _ hdn2 (by simp);have hkn3:=hk3.2 _ _ hkn2 (by simp);have bK3:=ok3.k;have bD3:=ok3.d;have bX3:=hk3.2 _ _ bX2 (by simp);have lK3:=(qpy.1 hkn3).1;have lD3:=(qpy.1 hdn3).1;have oK:=ho B.K (by simp);have oD:=ho B.D (by simp);have fin:=qoJ (r:=comb (nl,lo,hi) (val lo) (val hi)) ok3 hkf hdn3 hkn3 ldn2 lkn2 hval2 hkv.symm (KpL.trans (KpL.app.trans (hk1.trans hk2)) (hk3.sub (by simp))) T3;have q1:∀ y,(H3.set B.KL y)[B.D]?=some (.cells [.ms B.DL 0 (f+1) 1]):=fun y=>by rw[qpB (Ne.symm oD.2)];exact bD3
     have q2:∀ y,(H3.set B.KL y)[B.K]?=some (.cells [.ms B.KL 0 (f+1) 1]):=fun y=>by rw[qpB (Ne.symm oK.2)];exact bK3
     have q3:∀ y,(H3.set B.KL y)[B.DL]?=some (.cells (dn2.map qoY)):=fun y=>by rw[qpB (Ne.symm hne)];exact hdn3
     have q4:∀ y z,((H3.set B.KL y).set B.DL z)[B.K]?=some (.cells [.ms B.KL 0 (f+1) 1]):=fun y z=>by rw[qpB (Ne.symm oK.1)];exact q2 y
     have q5:∀ y z,((H3.set B.KL y).set B.DL z)[B.KL]?=some y:=fun y z=>by rw[qpB hne];exact qpF lK3
     have q6:∀ x,((kn2.map qlj).set k x).drop k=x::(kn2.map qlj).drop (k+1):=fun x=>by
      have hl:k<((kn2.map qlj).set k x).length:=(by simp;omega);rw[qpP hl,List.getElem_set_self,List.drop_set_of_lt (by omega)]
     simp[-getElem?_pos,qO,q6,bX3,bK3,bD3,hdn3,hkn3,q1,q2,q3,q4,q5,hkf,lK3,lD3,ldn2,lkn2,hkl,hkl'];exact fin
theorem qhP (Rc:Nat->Prop){d:List Nd}(hd:DagOk d){c:Nat}{cfr:List AV}{e0 e1:Int}{f:Nat}{val:Nat->Int}(hf:f<d.length)(hRf:Rc f)
 (comb:Nd->Int->Int->Int) (hv0:val 0=e0) (hv1:val 1=e1) (hv2:∀ k n,Rc k->2<=k->d[k]?=some n->Rc n.2.1/\Rc n.2.2/\val k=comb n (val n.2.1) (val n.2.2)) (H:List Blk) (T:List (Option Nat))
 (hc:∀ k n (H':List Blk) (T':List (Option Nat)),Rc k->2<=k->d[k]?=some n->KpL [] H H'->qf Tryz.prog GG c ([.agg (qu n),.int .i64 (val n.2.1),.int .i64 (val n.2.2)]++cfr) ⟨H',T'⟩ (fun r U'=>r=.int .i64 (comb n (val n.2.1) (val n.2.2))/\KpL [] H' U'.H)) :
 qf Tryz.prog GG 103 [.agg [.sl 3 (d.map qu) .none],.int .i64 f,.agg [.int .i64 e0,.int .i64 e1],.fn c [] cfr] ⟨H,T⟩ (fun r U'=>r=.int .i64 (val f)/\KpL [] H U'.H):=by
 refine qf.k qe Tryz.func103 rfl (by kernel_rfl) ?_;have hdm:=hd.most;have hw:=wr (n:=(f:Int)+1) (by omega) (by omega);have h0:¬ (f:Int)+1=0:=by omega
 have h1:(f:Int)+1<=549755813888:=by omega
 have h2:(0:Int)<=(f:Int)+1:=by omega
 simp[-getElem?_pos,hw,qy,h0,h1,h2];have lk:∀ (a b c d e f g h:Blk),(H++[a,b,c,d,e,f,g,h])[H.length]?=some a/\(H++[a,b,c,d,e,f,g,h])[H.length+1]?=some b/\(H++[a,b,c,d,e,f,g,h])[H.length+2]?=some c/\(H++[a,b,c,d,e,f,g,h])[H.length+3]?=some d/\(H++[a,b,c,d,e,f,g,h])[H.length+4]?=some e/\(H++[a,b,c,d,e,f,g,h])[H.length+5]?=some f/\(H++[a,b,c,d,e,f,g,h])[H.length+6]?=some g/\(H++[a,b,c,d,e,f,g,h])[H.length+7]?=some h:=by
  intros
  refine⟨?_,?_,?_,?_,?_,?_,?_,?_⟩<;>simp[qpG]
 have hfo:=qoI (B:=⟨H.length+1,H.length+6,H.length,H.length+7,H.length+2,H.length+4,H.length+5,H.length+3⟩) Rc (tok:=.none) hd (c:=c) (cfr:=cfr) (e0:=e0) (e1:=e1) (f:=f) (val:=val) hf (fun H'=>KpL [] H H')
  (fun H1 H2 h1 h2=>⟨qqr h1.1 h2.1,fun k x hk _=>h2.2 k x (h1.2 k x hk (by simp)) (by have:=(qpy.1 hk).1;simp;omega)⟩) comb hv0 hv1 hv2 hc (f+1) f (by omega) (qpI _) hRf
 refine qc.acall (hfo _ _ KpL.app ?_) ?_
 . obtain⟨a0,a1,a2,a3,a4,a5,a6,a7⟩:=lk (.cells [.sl 3 (d.map qu) .none]) (.cells [.int .i64 e0,.int .i64 e1]) (.cells [.fn c [] cfr]) (.cells (List.replicate (f+1) (.int .i64 0))) (.cells [.ms (H.length+3) 0 (f+1) 1]) (.cells (List.replicate (f+1) (.bool false))) (.cells [.ms (H.length+5) 0 (f+1) 1]) (.cells [.fn 166 [] [.ptr (H.length+1) 0,.ptr (H.length+6) 0,.ptr H.length 0,.ptr (H.length+7) 0,.ptr (H.length+2) 0,.ptr (H.length+4) 0]]);refine⟨a1,a6,a0,a7,a2,a4,by dsimp only;omega,by simp,List.replicate (f+1) false,List.replicate (f+1) 0,by dsimp only;rw[a5,qsd];rfl,by dsimp only;rw[a3,qsd];rfl,by simp,by simp,fun j hj=>?_⟩;rw[qrw]at hj;split at hj<;>cases hj
 . rintro r ⟨H1,T1⟩ ⟨rfl,hk1,-⟩;dsimp only at hk1;simp[-getElem?_pos];exact⟨qqr (by simp) hk1.1,fun k x hk _=>hk1.2 k x (qa hk _) (by have:=(qpy.1 hk).1;simp;omega)⟩
theorem WW {d:List Nd}{k n:Nat}(hk:k<d.length):Pure Tryz.prog GG 106 [.agg [.sl 3 (d.map qu) .none,.int .i64 n],.int .i64 k] (.int .i64 (wc d n k:Nat)):=by
 refine Pure.k qe Tryz.func106 rfl (by kernel_rfl) ?_;obtain⟨x,hx⟩:∃ x,d[k]?=some x:=⟨_,qpA hk⟩;have hl:wM (.int .i64 (x.1:Int)) (.int .i64 (n:Int))=some (.int .i64 (wc d n k:Nat)):=by
  have:wc d n k=min x.1 n:=by unfold wc;rw[zI hx]
  rw[this];simp only[wM];congr 2;split<;>omega
 simp[-getElem?_pos,hx,hk,hl]
theorem ishl (a s:Nat)(hs:s<=20)(ha:a*2 ^ s<2 ^ 62):IntKind.i64.wrap ((a:Int)*2 ^ (min s 64))=((a*2 ^ s:Nat):Int):=by
 have e:min s 64=s:=by omega
 rw[e,show ((a:Int)*2 ^ s)=((a*2 ^ s:Nat):Int) by simp];generalize a*2 ^ s=N at ha;rw[wr (by omega) (by omega)]
def qo7 (d:List Nd)(n:Nat)(x:Nd)(a b:Int):Int:=a*2 ^ (wc d n x.2.1-(x.1+1))+b*2 ^ (wc d n x.2.2-(x.1+1))
theorem qlK {d:List Nd}(hd:DagOk d){n k:Nat}{x:Nd}(hn:n<=20)(h2:2<=k)(hx:d[k]?=some x)(hdp:j8 d k<n){C:Nat}{H:List Blk}(hC:H[C]?=some (.cells [.sl 3 (d.map qu) .none,.int .i64 n]))(T:List (Option Nat)) :
 qf Tryz.prog GG 167 [.agg (qu x),.int .i64 (JF d n x.2.1:Nat),.int .i64 (JF d n x.2.2:Nat),.ptr C 0] ⟨H,T⟩ (fun r U'=>r=.int .i64 (JF d n k:Nat)/\KpL [] H U'.H):=by
 refine qf.k qe Tryz.func167 rfl (by kernel_rfl) ?_;obtain⟨c1,c2,c3,c4,c5,c6⟩:=qbb hd hn h2 hx hdp;obtain⟨g1,g2,g3,g4,g5,g6⟩:=hd.node k x h2 hx;have hk:=(qpy.1 hx).1;have b1:=qik d n x.2.1;have b2:=qik d n x.2.2;have l1:=WW (d:=d) (k:=x.2.1) (n:=n) (by omega);have l2:=WW (d:=d) (k:=x.2.2) (n:=n) (by omega);have m1:wc d n x.2.1<=n:=qrB _ _;have m2:wc d n x.2.2<=n:=qrB _ _;obtain⟨L,lo,hi⟩:=x;dsimp only at *;generalize JF d n lo=A at *;generalize JF d n hi=B at *;generalize wc d n lo=P at *;generalize wc d n hi=Q at *;have p20:∀ {a m s:Nat},a<=2 ^ m->m+s<=20->a*2 ^ s<=2 ^ 20:=fun {a m s} h1 h2=>by
  have:=qqA (2 ^ s) h1;rw[<- Nat.pow_add]at this;exact qqr this (qp3 (by omega) h2)
 have e1:=p20 (s:=P-(L+1)) b1 (by omega);have e2:=p20 (s:=Q-(L+1)) b2 (by omega);have s1:=ishl A (P-(L+1)) (by omega) (by omega);have s2:=ishl B (Q-(L+1)) (by omega) (by omega);rw[c6];generalize A*2 ^ (P-(L+1))=U_ at *;generalize B*2 ^ (Q-(L+1))=V at *;have w1:=wr (n:=(P:Int)-L) (by omega) (by omega);have w2:=wr (n:=(P:Int)-L-1) (by omega) (by omega);have w3:=wr (n:=(Q:Int)-L) (by omega) (by omega);have w4:=wr (n:=(Q:Int)-L-1) (by omega) (by omega);have w5:=wr (n:=(U_:Int)+V) (by omega) (by omega);have q1:(P:Int)-L-1=((P-(L+1):Nat):Int):=by omega
 have q2:(Q:Int)-L-1=((Q-(L+1):Nat):Int):=by omega
 rw[q1]at w2;rw[q2]at w4;have hC0:=qa hC;have n1:¬ ((P-(L+1):Nat):Int)<0:=by omega
 have n2:¬ ((Q-(L+1):Nat):Int)<0:=by omega
 simp[-getElem?_pos,-zj,QF,vX,hC0];refine qc.call l1 (by simp) ?_;simp[-getElem?_pos,-zj,QF,vX,hC0,w1,w2,q1,s1,n1,IntKind.bits];refine qc.call l2 (by simp) ?_;simp[-getElem?_pos,-zj,QF,vX,hC0,w3,w4,q2,s2,n2,w5,IntKind.bits];exact KpL.app
theorem qmX {d:List Nd}(hd:DagOk d){n:Nat}(hn:n<=20):∀ k x,(k<d.length/\j8 d k<n)->2<=k->d[k]?=some x->(x.2.1<d.length/\j8 d x.2.1<n)/\(x.2.2<d.length/\j8 d x.2.2<n)/\(JF d n k:Int)=qo7 d n x (JF d n x.2.1:Nat) (JF d n x.2.2:Nat):=fun k x hk h2 hx=>by
 obtain⟨c1,c2,c3,c4,c5,c6⟩:=qbb hd hn h2 hx hk.2;obtain⟨g1,g2,g3,g4,g5,g6⟩:=hd.node k x h2 hx;refine⟨⟨by omega,c4⟩,⟨by omega,c5⟩,?_⟩;rw[c6];simp[qo7]
theorem qlL {d:List Nd}(hd:DagOk d){n k:Nat}(hn:n<=20)(hk:k<d.length)(hdp:j8 d k<n)(H:List Blk)(T:List (Option Nat)) :
 qf Tryz.prog GG 105 [.agg [.sl 3 (d.map qu) .none,.int .i64 n],.int .i64 k] ⟨H,T⟩ (fun r U'=>r=.int .i64 (JF d n k:Nat)/\KpL [] H U'.H):=by
 refine qf.k qe Tryz.func105 rfl (by kernel_rfl) ?_;have hf:=qhP (fun k=>k<d.length/\j8 d k<n) hd (c:=167) (cfr:=[.ptr H.length 0]) (e0:=0) (e1:=1) (f:=k) (val:=fun k=>(JF d n k:Nat)) hk ⟨hk,hdp⟩ (qo7 d n) (by rw[cntV_0 hd hn];rfl) (by rw[cntV_1 hd hn];rfl) (qmX hd hn)
  (H++[.cells [.sl 3 (d.map qu) .none,.int .i64 n]]) T (fun k x H' T' hk h2 hx hk'=>by
    have:=qlK hd hn h2 hx hk.2 (C:=H.length) (H:=H') (hk'.2 _ _ lk0 (by simp)) T';rw[<- (qmX hd hn k x hk h2 hx).2.2];exact this)
 simp[-getElem?_pos];refine qc.acall hf ?_;rintro r ⟨H1,T1⟩ ⟨rfl,hk1⟩;simp[-getElem?_pos];exact KpL.app.trans hk1
def qki:List (Nat×Sch×List Nat):=[(1,.step 0 [9,8,7,5,2] (.step 1 [9,8,7,5,2] (.step 4 [9,8,7,5] (.step 6 [9,8,7] (.fork (.cons 2 (.step 3 [9,8,7,5] (.step 5 [9,8,7] (.step 7 [9,8] (.step 8 [9] (.step 9 [] (.done)))))) (.cons 3 (.step 2 [9,8,7,5] (.step 5 [9,8,7] (.step 7 [9,8] (.step 8 [9] (.step 9 [] (.done)))))) (.nil))))))),[2])]
theorem qoH {d:List Nd}(hd:DagOk d){n k:Nat}(hn:n<=20)(hk:k<d.length)(hdp:j8 d k<n)(H:List Blk)(T:List (Option Nat)) :
 qf Tryz.prog GG 54 [.agg [.sl 3 (d.map qu) .none,.int .i64 n],.int .i64 k,.int .i64 0] ⟨H,T⟩ (fun r U'=>r=.int .i64 (Wg d 0 n k:Nat)/\KpL [] H U'.H):=by
 refine qf.kO ⟨false,qki,[],[]⟩ qe Tryz.func54 rfl (by kernel_rfl) ?_;have hb:=qlL hd hn hk hdp (H++[.cells [.sl 3 (d.map qu) .none,.int .i64 n]]) T;have hl:=WW (d:=d) (k:=k) (n:=n) hk;have hc:=YU (d:=d) (n:=n) (k:=k) (l:=0) (qrb _);have hle:=Vh d n 0 k;have m1:wc d n k<=n:=qrB _ _;rw[qsN,qsN]at hc;rw[hc]at hle ⊢;have h20:(2:Nat) ^ n<=2 ^ 20:=qp3 (by omega) hn;have s1:=ishl (JF d n k) (wc d n k) (by omega) (by omega);generalize JF d n k*2 ^ wc d n k=U_ at *;generalize JF d n k=A at *;generalize wc d n k=P at *;have w1:=wr (n:=(P:Int)) (by omega) (by omega);have n1:¬ (P:Int)<0:=by omega
 simp[-getElem?_pos];rw[qI rfl];simp[-getElem?_pos,qO];refine⟨qc.acall hb ?_,qc.acall hb ?_⟩
 all_goals
  rintro r ⟨H1,T1⟩ ⟨rfl,hk1⟩;dsimp only at hk1;have b1:=hk1.2 _ _ lk0 (by simp);simp[-getElem?_pos,qO,b1];refine qc.call hl (by simp) ?_;simp[-getElem?_pos,-zj,qO,QF,b1,w1,n1,s1,IntKind.bits];exact KpL.app.trans hk1
theorem qoM {d:List Nd}(hd:DagOk d){n k:Nat}(hn:n<=20)(hk:k<d.length)(hdp:j8 d k<n)(H:List Blk)(T:List (Option Nat)) :
 qf Tryz.prog GG 53 [.agg (zr d),.int .i64 k,.int .i64 n] ⟨H,T⟩ (fun r U'=>r=.bool true/\KpL [] H U'.H):=by
 refine qf.k qe Tryz.func53 rfl (by kernel_rfl) ?_;have hdm:=hd.most;have n1:¬ (n:Int)<0:=by omega
 have n2:¬ (20:Int)<n:=by omega
 have n3:¬ (k:Int)<0:=by omega
 have n4:¬ (d.length:Int)<=k:=by omega
 have n5:¬ d.length<=k:=by omega
 have hf:=qhP (fun _=>True) hd (c:=104) (cfr:=[]) (e0:=-1) (e1:=-1) (f:=k) (val:=j8 d) hk trivial QY qhO qhN (fun k x _ h2 hx=>⟨trivial,trivial,kQ hd h2 hx⟩)
  (H++[.cells (zr d)]) T (fun k x H' T' _ h2 hx hk'=>qoL x _ _ H' T')
 simp only[zr]at hf;have hv:=YR d hd;simp only[zr]at hv;generalize j8 d k=D at *;simp[-getElem?_pos,n1,n2,n3,n4,n5];refine qc.call hv (by simp) ?_;simp[-getElem?_pos,n1,n2,n3,n4,n5];refine qc.acall hf ?_;rintro r ⟨H1,T1⟩ ⟨rfl,hk1⟩;simp[-getElem?_pos,hdp];exact KpL.app.trans hk1
theorem qo6 {d:List Nd}(hd:DagOk d){n k:Nat}(hn:n<=20)(hk:k<d.length)(hdp:j8 d k<n)(H:List Blk)(T:List (Option Nat)) :
 qf Tryz.prog GG 23 [.agg (zr d),.int .i64 k,.int .i64 n] ⟨H,T⟩ (fun r U'=>r=.tup [.int .i64 (Wg d 0 n k:Nat),.int .i64 0]/\KpL [] H U'.H):=by
 refine qf.k qe Tryz.func23 rfl (by kernel_rfl) ?_;have hf:=qoM hd hn hk hdp (H++[.cells (zr d)]) T;simp only[zr]at hf;simp[-getElem?_pos];refine qc.acall hf ?_;rintro r ⟨H1,T1⟩ ⟨rfl,hk1⟩;dsimp only at hk1;have b1:=hk1.2 _ _ lk0 (by simp);simp[-getElem?_pos,b1];refine qc.acall (qoH hd hn hk hdp H1 T1) ?_;rintro r ⟨H2,T2⟩ ⟨rfl,hk2⟩;simp[-getElem?_pos];exact KpL.app.trans (hk1.trans hk2)
structure RnH (p:Problem):Prop where
 q:VQ p
 v20:p.vars.length<=20
 bits:yX p.vars (qz p)<=18
 dl:p.dists.length<=10000
 sl:p.soft.length<=10000
 wl:∀ d∈p.dists,d.weights.length<=1000
noncomputable def jI (p:Problem):Nat×Int:=if (qx p).2≠0 then (0,(qx p).2) else (JW p (qx p).1,0)
def qnV:List (Nat×Sch×List Nat):=[(5,.step 0 [14,13,12,11,10,3,2,1] (.step 1 [14,13,12,11,10,3,2] (.step 2 [14,13,12,11,10,3] (.step 3 [14,13,12,11,10] (.step 4 [14,13,12,11,10,7,6,5] (.step 5 [14,13,12,11,10,7,6] (.step 6 [14,13,12,11,10,7] (.step 7 [14,13,12,11,10] (.step 8 [14,13,12,11,10,9] (.step 9 [14,13,12,11,10] (.step 10 [14,13,12,11] (.step 11 [14,13] (.step 12 [14,13] (.step 13 [14] (.step 14 [] (.done))))))))))))))),[10])]
theorem RnH.LW {p:Problem}(h:RnH p)(hv:qk p=0):LW p (NG p).flatten<=18:=by
 have h1:=qi8 hv h.q.vars;have h2:=h.bits;omega
theorem RnH.all {p:Problem}(h:RnH p)(hv:qk p=0):(yg p.vars).length<=2 ^ 18:=by
 have h3:=(Vl hv).length_eq;rw[qqd,Vu]at h3;rw[<- h3];exact qp3 (by omega) (h.LW hv)
theorem qnC (p:Problem)(R:List Ex):JW p R<=(yg p.vars).length:=qs6
theorem qbv (p:Problem)(h:RnH p)(H:List Blk)(T:List (Option Nat)) :
 qf Tryz.prog GG 10 [.agg (qG p)] ⟨H,T⟩ (fun r U'=>r=.tup [.int .i64 (jI p).1,.int .i64 (jI p).2]/\KpL [] H U'.H):=by
 refine qf.kO ⟨false,qnV,[],[]⟩ qe Tryz.func10 rfl (by kernel_rfl) ?_;have hop:=qdx p h.q h.v20 h.bits h.dl h.sl h.wl (H++[.cells (qG p)]) T;obtain⟨res,hres⟩:∃ res,res=jI p:=⟨_,rfl⟩;rw[<- hres];unfold jI at hres;simp only[qG]at hop;simp[-getElem?_pos];refine qc.acall hop ?_;rintro v ⟨H1,T1⟩ ⟨hk1,hr⟩;dsimp only at hk1;have b0:=hk1.2 _ _ lk0 (by simp);have hkH:KpL [] H H1:=KpL.app.trans hk1;rcases hr with ⟨he,rfl⟩|⟨he,s,d,rfl,hS,hL,hLL,hsp,hsR,hso,hsv,hroot⟩
 . rw[if_pos he]at hres;subst hres;simp[-getElem?_pos,he];exact hkH
 . rw[if_neg (by simp[he])]at hres;subst hres;subst hsp;have hv:=hsv.vp;have hsc:=hso.c;simp only[spE,qG,qpU,qpS]at hsc
   cases hsm:s.small with
   | true=>
    obtain⟨hd,⟨tok,hdv⟩,hrt⟩:=hsv.dag hsm;obtain⟨c1,c2⟩:=qlu hv hd hrt (hroot hsm);have hb:=qiE s.p h.q h.v20;have hlw:=h.LW hv;rw[<- qi8 hv h.q.vars]at hb;have hc:=qo6 hd (n:=LW s.p (NG s.p).flatten) (k:=s.root) (by omega) hrt c1 H1 T1;rw[c2]at hc;rw[hsm,hdv]at hsc;simp only[qG]at hb;generalize JW s.p (qx s.p).1=N at *;simp[-getElem?_pos,hsc];rw[qI rfl];simp[-getElem?_pos,qO,hsc,b0];refine qc.call hb (by simp) ?_;simp[-getElem?_pos,qO];refine qc.acall (hc.leq (by simp[zr,Leq.sl])) ?_;rintro r ⟨H2,T2⟩ ⟨rfl,hk2⟩;dsimp only at hk2;simp[-getElem?_pos,qO];exact hkH.trans hk2
   | false=>
    have hen:=enum82 (s:=s) h.q (fun v hv'=>by have:=zc (ju hv v hv');omega) hsv.rl (fun e he'=>(hsv.rk e he').2) (qqr (h.all hv) (by decide)) hso T1;rw[qhd hv,hsR]at hen;rw[hsm]at hsc;generalize JW s.p (qx s.p).1=N at *;simp[-getElem?_pos,hsc];refine qc.acall hen ?_;rintro r ⟨H2,T2⟩ ⟨rfl,hk2⟩;dsimp only at hk2;simp[-getElem?_pos];exact hkH.trans hk2
theorem Y6 (p:Problem)(h:RnH p):Pure Tryz.prog GG 10 [.agg (qG p)] (.tup [.int .i64 (jI p).1,.int .i64 (jI p).2]):=by
 refine Pure.ofA (qbv p h [] []) ?_;rintro v U' ⟨rfl,-⟩;rw[qW (by simp)];exact⟨by simp,Leq.refl _⟩
noncomputable def yx (p:Problem)(gi:Int)(a:List Int):Int×Int:=if (qx p).2≠0 then (0,(qx p).2) else Kc p gi a
theorem ql2 (p:Problem)(h:RnH p)(gi:Int){r:AV}{a:List Int}{H:List Blk}(ha:AsR r a H)(T:List (Option Nat)) :
 qf Tryz.prog GG 11 [.agg (qG p),.int .i64 gi,r] ⟨H,T⟩ (fun v U'=>v=.tup [.int .i64 (yx p gi a).1,.int .i64 (yx p gi a).2]/\KpL [] H U'.H):=by
 refine qf.k qe Tryz.func11 rfl (by kernel_rfl) ?_;have hop:=qdx p h.q h.v20 h.bits h.dl h.sl h.wl (H++[.cells (qG p)]) T;obtain⟨res,hres⟩:∃ res,res=yx p gi a:=⟨_,rfl⟩;rw[<- hres];unfold yx at hres;simp only[qG]at hop;simp[-getElem?_pos];refine qc.acall hop ?_;rintro v ⟨H1,T1⟩ ⟨hk1,hr⟩;dsimp only at hk1;have hkH:KpL [] H H1:=KpL.app.trans hk1;rcases hr with ⟨he,rfl⟩|⟨he,s,d,rfl,hS,hL,hLL,hsp,hsR,hso,hsv,hroot⟩
 . rw[if_pos he]at hres;subst hres;simp[-getElem?_pos,he];exact hkH
 . rw[if_neg (by simp[he])]at hres;have hR:SpR p s d:=⟨hsp,hsR,hsv,hroot⟩;have ht:=qbO hsv gi hso (ha.keep hkH (by simp)) T1;rw[hR.tot,<- hres]at ht;simp[-getElem?_pos];refine qc.acall ht ?_;rintro v ⟨H2,T2⟩ ⟨rfl,hk2⟩;dsimp only at hk2;simp[-getElem?_pos];exact hkH.trans hk2
theorem qi0 (p:Problem)(h:RnH p)(gi:Int)(a:List Int):Pure Tryz.prog GG 11 [.agg (qG p),.int .i64 gi,.sl 1 (a.map qr) .none] (.tup [.int .i64 (yx p gi a).1,.int .i64 (yx p gi a).2]):=by
 refine Pure.ofA (ql2 p h gi (H:=[]) (.inl ⟨.none,rfl⟩) []) ?_;rintro v U' ⟨rfl,-⟩;rw[qW (by simp)];exact⟨by simp,Leq.refl _⟩
noncomputable def Qm (p:Problem)(gi:Int)(a:List Int)(k:Int):List Int×Int :=
 if (yx p gi a).2≠0 then ([],(yx p gi a).2) else if k<0\/(yx p gi a).1<=k then ([],12) else (ZC p gi.toNat a k,0)
def ChO (o:List Int×Int)(H:List Blk)(v:AV)(U':St):Prop:=KpL [] H U'.H/\∃ w b,v=.tup [w,.int .i64 o.2]/\qfN b U'.H w o.1
theorem qjG (p:Problem)(R:List Ex)(fx:Nat->Option Nat)(g:List Nat)(c:List (Nat×Nat)):Vy p R fx g c<=lim:=by
 cases g with
 | nil=>unfold Vy lim;split<;>omega
 | cons i r=>
  unfold Vy;split
  . exact ye _ _ _ (qrb _)
  . exact qrb _
theorem qc1 {p:Problem}{gi:Int}{a:List Int}(h:(Kc p gi a).2=0):0<=gi/\gi.toNat<(NG p).length/\qC p.vars a=true/\1<=(Kc p gi a).1/\(Kc p gi a).1<lim:=by
 unfold Kc at h⊢;split at h
 . cases h
 . rename_i hc;rw[if_neg hc];split at h
   . cases h
   . rename_i h0;rw[if_neg h0];split at h
     . cases h
     . rename_i h1;rw[if_neg h1];have hle:qgn p (fun _=>none) a gi.toNat<=lim:=qjG _ _ _ _ _;refine⟨?_,?_,?_,?_,?_⟩
       . exact Int.not_lt.1 fun e=>hc (.inl e)
       . have:¬ gi<0:=fun e=>hc (.inl e)
         have:¬ ((NG p).length:Int)<=gi:=fun e=>hc (.inr (.inl e))
         omega
       . cases hA:qC p.vars a with
         | true=>rfl
         | false=>exact absurd (.inr (.inr hA)) hc
       . dsimp only;omega
       . dsimp only;omega
theorem qja (p:Problem)(h:RnH p)(hl12:qk p=0->(NG p).flatten.length<=12)(gi:Int){r:AV}{a:List Int}{H:List Blk}(ha:AsR r a H)(k:Int)(T:List (Option Nat)) :
 qf Tryz.prog GG 13 [.agg (qG p),.int .i64 gi,r,.int .i64 k] ⟨H,T⟩ (ChO (Qm p gi a k) H):=by
 refine qf.k qe Tryz.func13 rfl (by kernel_rfl) ?_;have hop:=qdx p h.q h.v20 h.bits h.dl h.sl h.wl (H++[.cells (qG p)]) T;obtain⟨res,hres⟩:∃ res,res=Qm p gi a k:=⟨_,rfl⟩;rw[<- hres];unfold Qm at hres;simp only[qG]at hop;simp[-getElem?_pos];refine qc.acall hop ?_;rintro v ⟨H1,T1⟩ ⟨hk1,hr⟩;dsimp only at hk1;have hkH:KpL [] H H1:=KpL.app.trans hk1;rcases hr with ⟨he,rfl⟩|⟨he,s,d,rfl,hS,hL,hLL,hsp,hsR,hso,hsv,hroot⟩
 . have hto:yx p gi a=(0,(qx p).2):=if_pos he;rw[hto,if_pos he]at hres;subst hres;simp[-getElem?_pos,he];exact⟨hkH,_,0,rfl,.inl ⟨rfl,_,_,rfl⟩⟩
 . have hto:yx p gi a=Kc p gi a:=if_neg (by simp[he]);rw[hto]at hres;have hR:SpR p s d:=⟨hsp,hsR,hsv,hroot⟩;have hv:=hsv.vp;rw[hsp]at hv;have ht:=qbO hsv gi hso (ha.keep hkH (by simp)) T1;rw[hR.tot]at ht;have hok:=qc1 (p:=p) (gi:=gi) (a:=a);have hch:=fun h1 h2 idx=>hR.ch (a:=a) (gi:=gi.toNat) h1 h2 idx
   generalize Kc p gi a=tt at *;obtain⟨n,e⟩:=tt;dsimp only at hres ht hok;simp[-getElem?_pos];refine qc.acall ht ?_;rintro v ⟨H2,T2⟩ ⟨rfl,hk2⟩;dsimp only at hk2;have hkk:=hkH.trans hk2;by_cases he0:e=0
   . subst he0;rw[if_neg (by simp)]at hres;obtain⟨g0,g1,has,n1,n2⟩:=hok rfl;by_cases hk0:k<0
     . rw[if_pos (.inl hk0)]at hres;subst hres;simp[-getElem?_pos,hk0];exact⟨hkk,_,0,rfl,.inl ⟨rfl,_,_,rfl⟩⟩
     by_cases hk1:n<=k
     . rw[if_pos (.inr hk1)]at hres;subst hres;simp[-getElem?_pos,hk0,hk1];exact⟨hkk,_,0,rfl,.inl ⟨rfl,_,_,rfl⟩⟩
     rw[if_neg (fun h=>h.elim hk0 hk1)]at hres;have hc:=qlE hsv (by rw[hsp];exact hl12 hv) (gi:=gi.toNat) (by rw[hsp];exact g1) (r:=r) (a:=a) (by rw[hsp];exact Qn hv has) (by rw[hsp];exact (ZH hv has).1) (hso.keep hk2 (by simp) (by simp) (by simp)) (ha.keep hkk (by simp)) T2 (idx:=k) (by omega) (by unfold lim at n2;omega);rw[hch has g1 k,show ((gi.toNat:Nat):Int)=gi by omega]at hc;simp[-getElem?_pos,hk0,hk1];refine qc.acall hc ?_;rintro v ⟨H3,T3⟩ ⟨hk3,N,rfl,hN1,hN2⟩;dsimp only at hk3 hN2;subst hres;simp[-getElem?_pos];refine⟨hkk.trans hk3,_,N,rfl,?_⟩;by_cases hnil:ZC p gi.toNat a k=[]
     . exfalso;have hlen:=congrArg List.length hnil;rw[qcD,(ZH hv has).1]at hlen;obtain⟨g,hg⟩:∃ g,(NG p)[gi.toNat]?=some g:=⟨_,qpA g1⟩;have hg':=qpz hg;have hgn:g≠[]:=by
        obtain⟨g',hg2,rfl⟩:=qp1.1 hg';have:=(jQ hv).1 g' hg2;simpa using this
       have h1:=qi4 hv
       cases g with
       | nil=>exact hgn rfl
       | cons x g=>
        have hx:x∈(NG p).flatten:=qqy.2 ⟨_,hg',by simp⟩;have h2:=List.length_pos_of_mem hx;have h3:p.vars.length=0:=(by simpa using hlen);omega
     . exact .inr ⟨hnil,rfl,hN2⟩
   . rw[if_pos he0]at hres;subst hres;simp[-getElem?_pos,he0];exact⟨hkk,_,0,rfl,.inl ⟨rfl,_,_,rfl⟩⟩
theorem qdh (n:Nat)(h:n<9223372036854775808):Pure Tryz.prog GG 119 [.int .i64 n] (.int .u64 n):=by
 refine Pure.k qe Tryz.func119 rfl (by kernel_rfl) ?_;have h1:=wru (n:=n) (by omega) (by omega);have h2:¬ (n:Int)<0:=by omega
 simp[h2,kW,h1]
theorem qbZ:∀ (b a:Nat),a<18446744073709551616->b<18446744073709551616->Pure Tryz.prog GG 120 [.int .u64 a,.int .u64 b] (.int .u64 (Nat.gcd a b:Nat)):=by
 intro b a ha hb;refine Pure.k qe Tryz.func120 rfl (by kernel_rfl) ?_;simp;refine qY.gen (fun n ev U=>∃ x y:Nat,n=y/\x<18446744073709551616/\y<18446744073709551616/\ev 0=.int .u64 x/\ev 1=.int .u64 y/\Nat.gcd x y=Nat.gcd a b) b ⟨a,b,rfl,ha,hb,by simp,by simp,rfl⟩ ?_;rintro y ev U R hR ⟨x,_,rfl,hx,hy,h0,h1,hg⟩;by_cases hz:y=0
 . subst hz;simp at hg;simp[h0,h1,hg]
 . simp[h0,h1,hz];refine hR (x % y) _ _ (qsh _ (by omega)) ⟨y,x % y,rfl,hy,qq2 (Nat.mod_le _ _) hx,by simp,by simp[qsC],?_⟩;rw[qsO y,<- Nat.gcd_rec,qsO];exact hg
theorem WB (a b:Nat)(ha:a<9223372036854775808)(hb:b<9223372036854775808):Pure Tryz.prog GG 66 [.int .i64 a,.int .i64 b] (.agg [.bool false,.int .u64 a,.int .u64 b]):=by
 refine Pure.k qe Tryz.func66 rfl (by kernel_rfl) ?_;have h1:¬ (a:Int)<0:=by omega
 have h2:¬ (b:Int)<0:=by omega
 simp[h1,h2];refine qc.call (qdh a ha) (by simp) ?_;simp;refine qc.call (qdh b hb) (by simp) ?_;simp
theorem udiv (a b:Nat)(hb:0<b)(ha:a<18446744073709551616):zj .quo .u64 a b=some (.int .u64 (a / b:Nat)):=by
 have h:¬ (b:Int)=0:=by omega
 have h2:a / b<18446744073709551616:=qq2 (qqK _ _) ha;simp only[zj];rw[if_neg h,qrF (by omega)];show some (AV.int .u64 (IntKind.u64.wrap (((a / b:Nat):Int))))=_;rw[wru (Int.natCast_nonneg _) (Int.ofNat_lt.2 h2)]
theorem KK (n d:Nat)(hn:n<18446744073709551616)(hd:d<18446744073709551616)(h0:0<d) :
 Pure Tryz.prog GG 67 [.agg [.bool false,.int .u64 n,.int .u64 d]] (.agg [.bool false,.int .u64 (n / Nat.gcd n d:Nat),.int .u64 (d / Nat.gcd n d:Nat)]):=by
 refine Pure.k qe Tryz.func67 rfl (by kernel_rfl) ?_;have hg:0<Nat.gcd n d:=qqM _ h0;have h1:=udiv n _ hg hn;have h2:=udiv d _ hg hd;simp[-zj];refine qc.call (qbZ d n hn hd) (by simp) ?_;generalize Nat.gcd n d=g at *;simp[-zj,h1,h2]
def qdj (n d:Nat):Nat×Nat×Nat:=if n<9223372036854775808/\d<9223372036854775808 then (n,d,0) else (0,0,3)
theorem qmk (n d:Nat)(hn:n<18446744073709551616)(hd:d<18446744073709551616) :
 Pure Tryz.prog GG 68 [.agg [.bool false,.int .u64 n,.int .u64 d]] (.tup [.agg [.int .i64 (qdj n d).1,.int .i64 (qdj n d).2.1],.int .i64 (qdj n d).2.2]):=by
 refine Pure.k qe Tryz.func68 rfl (by kernel_rfl) ?_;unfold qdj;by_cases h1:n<9223372036854775808
 . have h1':¬ (9223372036854775807:Int)<n:=(by omega);have w1:=wr (n:=n) (by omega) (by omega);by_cases h2:d<9223372036854775808
   . have h2':¬ (9223372036854775807:Int)<d:=(by omega);have w2:=wr (n:=d) (by omega) (by omega);simp[h1,h1',h2,h2',kW,w1,w2]
   . have h2':(9223372036854775807:Int)<d:=(by omega);simp[h1,h1',h2,h2']
 . have h1':(9223372036854775807:Int)<n:=(by omega);simp[h1,h1']
def yd (a b:Nat):Nat×Nat:=(a / Nat.gcd a b,b / Nat.gcd a b)
theorem qmx (a b:Nat)(ha:a<9223372036854775808)(hb:b<9223372036854775808)(h0:0<b) :
 Pure Tryz.prog GG 34 [.int .i64 a,.int .i64 b] (.tup [.agg [.int .i64 (yd a b).1,.int .i64 (yd a b).2],.int .i64 0]):=by
 refine Pure.k qe Tryz.func34 rfl (by kernel_rfl) ?_;have hb0:¬ (b:Int)=0:=by omega
 have h1:a / Nat.gcd a b<9223372036854775808:=qq2 (qqK _ _) ha;have h2:b / Nat.gcd a b<9223372036854775808:=qq2 (qqK _ _) hb;have hr:=qmk (a / Nat.gcd a b) (b / Nat.gcd a b) (by omega) (by omega);have hre:=KK a b (by omega) (by omega) h0;unfold qdj at hr;rw[if_pos ⟨h1,h2⟩]at hr;unfold yd;generalize a / Nat.gcd a b=x at *;generalize b / Nat.gcd a b=y at *;simp[hb0,show ¬ b=0 by omega];refine qc.call (WB a b ha hb) (by simp) ?_;simp;refine qc.call hre (by simp) ?_;simp;refine qc.call hr (by simp) ?_;simp
theorem qhY (a b c d:Int):Vb (Dof Tryz.prog) 41 [.int .i64 a,.int .i64 b] [.int .i64 c,.int .i64 d]=some ((a==c)&&(b==d)):=by
 simp[Vb,YG,yy,qR,zR,qqT,zY,yS]
theorem qcY (a b:Nat)(ha:a<9223372036854775808)(hb:b<9223372036854775808)(h0:0<b)(hc:Nat.gcd a b=1) :
 Pure Tryz.prog GG 121 [.agg [.int .i64 a,.int .i64 b]] (.bool true):=by
 refine Pure.k qe Tryz.func121 rfl (by kernel_rfl) ?_;have hb1:¬ (b:Int)<1:=by omega
 have hm:=qmx a b ha hb h0;unfold yd at hm;rw[hc,qsZ,qsZ]at hm;simp[hb1];refine qc.call hm (by simp) ?_;simp[qhY]
theorem qpc (a b c d:Nat)(ha:a<9223372036854775808)(hb:b<9223372036854775808)(h0:0<b)(hab:Nat.gcd a b=1)(hc:c<9223372036854775808)(hd:d<9223372036854775808)(h1:0<d)(hcd:Nat.gcd c d=1) :
 Pure Tryz.prog GG 70 [.agg [.int .i64 a,.int .i64 b],.agg [.int .i64 c,.int .i64 d]] (.bool true):=by
 refine Pure.k qe Tryz.func70 rfl (by kernel_rfl) ?_;simp;refine qc.call (qcY a b ha hb h0 hab) (by simp) ?_;simp;refine qc.call (qcY c d hc hd h1 hcd) (by simp) ?_;simp
def qjV (a b c d:Nat):Nat:=(a / Nat.gcd a d)*(c / Nat.gcd c b)
def qgO (a b c d:Nat):Nat:=(b / Nat.gcd c b)*(d / Nat.gcd a d)
theorem ZS {a b c d:Nat}(hb:0<b)(hd:0<d)(hab:Nat.gcd a b=1)(hcd:Nat.gcd c d=1):Nat.gcd (qjV a b c d) (qgO a b c d)=1:=by
 have hg:0<Nat.gcd a d:=qqM _ hd;have hh:0<Nat.gcd c b:=qqM _ hb;have k1:Nat.Coprime (a / Nat.gcd a d) (d / Nat.gcd a d):=qrX hg;have k2:Nat.Coprime (c / Nat.gcd c b) (b / Nat.gcd c b):=qrX hh;have k3:Nat.Coprime (a / Nat.gcd a d) (b / Nat.gcd c b):=Nat.Coprime.coprime_dvd_left (qsf (qsn a d)) (Nat.Coprime.coprime_dvd_right (qsf (qru c b)) hab);have k4:Nat.Coprime (c / Nat.gcd c b) (d / Nat.gcd a d):=Nat.Coprime.coprime_dvd_left (qsf (qsn c b)) (Nat.Coprime.coprime_dvd_right (qsf (qru a d)) hcd);exact Nat.Coprime.mul_left (Nat.Coprime.mul_right k3 k1) (Nat.Coprime.mul_right k2 k4)
def yn (a b c d:Nat):Nat×Nat×Nat:=qdj (qjV a b c d) (qgO a b c d)
theorem qeV (a b c d:Nat)(ha:a<9223372036854775808)(hb:b<9223372036854775808)(h0:0<b)(hab:Nat.gcd a b=1)(hc:c<9223372036854775808)(hd:d<9223372036854775808)(h1:0<d)(hcd:Nat.gcd c d=1) :
 Pure Tryz.prog GG 71 [.agg [.bool false,.int .u64 a,.int .u64 b],.agg [.bool false,.int .u64 c,.int .u64 d]] (.tup [.agg [.int .i64 (yn a b c d).1,.int .i64 (yn a b c d).2.1],.int .i64 (yn a b c d).2.2]):=by
 refine Pure.k qe Tryz.func71 rfl (by kernel_rfl) ?_;have hg:0<Nat.gcd a d:=qqM _ h1;have hh:0<Nat.gcd c b:=qqM _ h0;have q1:=udiv a _ hg (by omega);have q2:=udiv c _ hh (by omega);have q3:=udiv b _ hh (by omega);have q4:=udiv d _ hg (by omega);have l1:a / Nat.gcd a d<=a:=qqK _ _;have l2:c / Nat.gcd c b<=c:=qqK _ _;have l3:b / Nat.gcd c b<=b:=qqK _ _;have l4:d / Nat.gcd a d<=d:=qqK _ _;have hcop:=ZS h0 h1 hab hcd;have p3:0<b / Nat.gcd c b:=qsx (qr2 h0 (qru _ _)) hh;have p4:0<d / Nat.gcd a d:=qsx (qr2 h1 (qru _ _)) hg;have g1:=qbZ d a (by omega) (by omega);have g2:=qbZ b c (by omega) (by omega);unfold yn;unfold qjV qgO at *;generalize Nat.gcd a d=g at *;generalize Nat.gcd c b=h at *;generalize a / g=A at *;generalize c / h=C at *;generalize b / h=B at *;generalize d / g=D at *;have hD:0<B*D:=Nat.mul_pos p3 p4;generalize hN:A*C=N at *;generalize hM:B*D=M at *;obtain⟨nh,nl,hn1,hn2⟩:∃ nh nl,N=18446744073709551616*nh+nl/\nl<18446744073709551616:=⟨N / 18446744073709551616,N % 18446744073709551616,by omega,by omega⟩;obtain⟨mh,ml,hm1,hm2⟩:∃ mh ml,M=18446744073709551616*mh+ml/\ml<18446744073709551616:=⟨M / 18446744073709551616,M % 18446744073709551616,by omega,by omega⟩;have m1:=qaw A C nh nl (by omega) (by omega) (by rw[hN];exact hn1) hn2;have m2:=qaw B D mh ml (by omega) (by omega) (by rw[hM];exact hm1) hm2;simp[-zj];refine qc.call g1 (by simp) ?_;simp[-zj];refine qc.call g2 (by simp) ?_;simp[-zj,q1,q2];refine qc.call m1 (by simp) ?_;simp[-zj,q3,q4];refine qc.call m2 (by simp) ?_;by_cases n0:nh=0
 . by_cases n1:mh=0
   . subst n0 n1;have e1:N=nl:=(by omega);have e2:M=ml:=(by omega);subst e1 e2;have hre:=KK N M hn2 hm2 hD;rw[hcop,qsZ,qsZ]at hre;have hra:=qmk N M hn2 hm2;generalize qdj N M=rs at *;simp;refine qc.call hre (by simp) ?_;simp;refine qc.call hra (by simp) ?_;simp
   . have hr:qdj N M=(0,0,3):=(by unfold qdj;rw[if_neg (by omega)]);simp[hr,n0,n1,unA]
 . have hr:qdj N M=(0,0,3):=(by unfold qdj;rw[if_neg (by omega)]);simp[hr,n0,unA]
theorem mul93 (a b c d:Nat)(ha:a<9223372036854775808)(hb:b<9223372036854775808)(h0:0<b)(hab:Nat.gcd a b=1)(hc:c<9223372036854775808)(hd:d<9223372036854775808)(h1:0<d)(hcd:Nat.gcd c d=1) :
 Pure Tryz.prog GG 36 [.agg [.int .i64 a,.int .i64 b],.agg [.int .i64 c,.int .i64 d]] (.tup [.agg [.int .i64 (yn a b c d).1,.int .i64 (yn a b c d).2.1],.int .i64 (yn a b c d).2.2]):=by
 refine Pure.k qe Tryz.func36 rfl (by kernel_rfl) ?_;simp;refine qc.call (qpc a b c d ha hb h0 hab hc hd h1 hcd) (by simp) ?_;simp;refine qc.call (WB a b ha hb) (by simp) ?_;simp;refine qc.call (WB c d hc hd) (by simp) ?_;simp;refine qc.call (qeV a b c d ha hb h0 hab hc hd h1 hcd) (by simp) ?_;simp
theorem ql8 (p:Problem)(h:RnH p)(hl12:qk p=0->(NG p).flatten.length<=12)(gi:Int)(a:List Int)(k:Int) :
 Pure Tryz.prog GG 13 [.agg (qG p),.int .i64 gi,.sl 1 (a.map qr) .none,.int .i64 k] (.tup [.sl 1 ((Qm p gi a k).1.map qr) .none,.int .i64 (Qm p gi a k).2]):=by
 refine Pure.ofA (qja p h hl12 gi (H:=[]) (.inl ⟨.none,rfl⟩) k []) ?_;rintro v U' ⟨_,w,b,rfl,hr⟩;obtain⟨h1,h2,h3⟩:=hr.frz 6;exact QP h1 h2 h3
def yD (p:Problem)(gi:Nat)(a:List Int):Nat:=((NG p).getD gi []).foldl (fun n i=>sat (n*wtP p i (aN a i))) 1
def qnT:List (Nat×Sch×List Nat):=[(5,.step 0 [12,11] (.step 1 [12,11,10,4,3,2] (.step 2 [12,11,10,4,3] (.step 3 [12,11,10,4] (.step 4 [12,11,10] (.step 5 [12,11,10] (.step 6 [12,11,10,9,8] (.step 7 [12,11,10,9,8] (.step 8 [12,11,10,9] (.step 9 [12,11,10] (.step 10 [12,11] (.step 11 [12] (.step 12 [] (.done))))))))))))),[10])]
theorem qgM {s:Spc}{d:List Nd}(h:SpV s d){gi:Nat}(hgi:gi<(NG s.p).length){r:AV}{a:List Int}{H:List Blk}(hao:AOk s.p a)(hs:SpOk s H)(ha:AsR r a H)(T:List (Option Nat)) :
 qf Tryz.prog GG 35 [.ptr s.S 0,.int .i64 gi,r] ⟨H,T⟩ (fun v U'=>v=.int .i64 (yD s.p gi a:Nat)/\KpL [] H U'.H):=by
 refine qf.kO ⟨false,qnT,[],[]⟩ qe Tryz.func35 rfl (by kernel_rfl) ?_;have hS:=hs.c;have hG:=Wl h.vp;obtain⟨g,hg⟩:∃ g,(NG s.p)[gi]?=some g:=⟨_,qpA hgi⟩;have hgd:(NG s.p).getD gi []=g:=by simp[qpM,hg]
 have hl:=(qcR h.vp h.vq.vars).1 g (qpz hg);have hgr:ql6 s g:=h.gr fun i hi=>qqy.2 ⟨g,qpz hg,hi⟩
 have hin:∀ i∈g,i∈(NG s.p).flatten:=fun i hi=>qqy.2 ⟨g,qpz hg,hi⟩
 simp only[spE,qG,qpU,qpS,hG]at hS;have hgi':(gi:Int)<(NG s.p).length:=by omega
 unfold yD;rw[hgd];simp[-getElem?_pos,hS,hg,hgi,hgi',j7];refine qY.listR g (fun dn ev U=>ev 0=.ptr s.S 0/\ev 2=r/\ev 7=.int .i64 (dn.foldl (fun n i=>sat (n*wtP s.p i (aN a i))) 1:Nat)/\ev 17=.sl 1 (g.map zE) .none/\ev 18=.int .i64 g.length/\ev 19=.int .i64 dn.length/\KpL [] H U.H) ?_ ?_ ?_
 . exact⟨by simp,by simp,by simp,by simp,by simp,by simp,KpL.refl⟩
 . rintro dn i rest ev ⟨H1,T1⟩ R hR hdl hx hlt ⟨e0,e2,e7,e17,e18,e19,hk⟩;dsimp only at hk;obtain⟨v,l,hv,hw0,hw8,hll,hl20,hwn⟩:=hgr i (qpz hx);obtain⟨x,hax,hxb⟩:=hao i (hin i (qpz hx));have hs1:=hs.keep hk (by simp) (by simp) (by simp);have hS1:=hs1.c;simp only[spE,qG,qpU,qpS,hG]at hS1;obtain⟨u,hu1,hu2⟩:=(ha.keep hk (by simp)).at0 hax;have hdw:=wr (n:=(dn.length:Int)+1) (by omega) (by omega);have hlt':(dn.length:Int)<g.length:=(by omega);obtain⟨o,ho⟩:∃ o,(ji s.p.vars.length s.p.dists)[i]?=some o:=⟨_,qpA (by rw[yI];exact (qpy.1 hv).1)⟩;have hwt:wtP s.p i x=wtO o (x:Int):=(by simp[wtP,qpM,ho]);have hweigh:=Wn s.p hs1.w ho (fun w hw=>hwn w (by rw[ho,hw])) (x:Int) T1;rw[<- hwt]at hweigh;have hwle:=qcS s.p i x;have haN:aN a i=x:=(by unfold aN;rw[qpM,hax];simp);have hsnoc:(dn++[i]).foldl (fun n i=>sat (n*wtP s.p i (aN a i))) 1=sat (dn.foldl (fun n i=>sat (n*wtP s.p i (aN a i))) 1*wtP s.p i x):=(by rw[qqO,<- haN];rfl);have hacc:dn.foldl (fun n i=>sat (n*wtP s.p i (aN a i))) 1<=lim:=by
    have:∀ (l:List Nat) (n:Nat),n<=lim->l.foldl (fun n i=>sat (n*wtP s.p i (aN a i))) n<=lim:=by
     intro l
     induction l with
     | nil=>intro n hn;exact hn
     | cons y l ih=>intro n hn;rw[qqe];exact ih _ (KF _)
    exact this dn 1 (by decide)
   generalize dn.foldl (fun n i=>sat (n*wtP s.p i (aN a i))) 1=acc at *;generalize wtP s.p i x=wx at *;have ht:=Wx acc wx hacc hwle;have hidx:zq (Dof Tryz.prog) 28 (.sl 1 (g.map zE) .none) (.int .i64 (dn.length:Nat))=some (.rptr [.int .i64 i]):=(by simp[-getElem?_pos,hlt,hx,zE]);have hlo:∀ U,yE (Dof Tryz.prog) U 3 (.rptr [.int .i64 (i:Int)])=some (.int .i64 i):=fun U=>by simp
   simp[-getElem?_pos,-zq,-yE,e0,e2,e7,e17,e18,e19,hlt,hlt',hidx,hlo];have hl10:yE (Dof Tryz.prog) ⟨H1,T1⟩ 68 (.ptr s.S 10)=some (.fn 98 [] [.ptr s.L 0]):=(by simp[-getElem?_pos,hS1]);rw[qI rfl];simp[-getElem?_pos,-zq,-yE,qO,hl10,e0,e2,e7,e17,e18,e19,hS1,hu1,hu2];refine qc.acall hweigh ?_;rintro w U ⟨rfl,rfl⟩;simp[-getElem?_pos];refine qc.call ht (by simp) ?_;simp[-getElem?_pos,e19,hdw];exact hR _ _ ⟨by simp[e0],by simp[e2],by simp[hsnoc],by simp[e17],by simp[e18],by simp,hk⟩
 . rintro ev ⟨H1,T1⟩ ⟨e0,e2,e7,e17,e18,e19,hk⟩;dsimp only at hk;simp[-getElem?_pos,e0,e2,e7,e17,e18,e19];exact hk
noncomputable def Yb (p:Problem)(a:List Int):List Nat->Nat->Nat->Nat×Nat×Int
 | [],n,d=>(n,d,0)
 | gi::rest,n,d=>
  if (Kc p gi a).2≠0 then (0,0,(Kc p gi a).2)
  else if (yn n d (yd (yD p gi a) (Kc p gi a).1.toNat).1 (yd (yD p gi a) (Kc p gi a).1.toNat).2).2.2≠0 then (0,0,3)
  else Yb p a rest (yn n d (yd (yD p gi a) (Kc p gi a).1.toNat).1 (yd (yD p gi a) (Kc p gi a).1.toNat).2).1 (yn n d (yd (yD p gi a) (Kc p gi a).1.toNat).1 (yd (yD p gi a) (Kc p gi a).1.toNat).2).2.1
noncomputable def Jf (p:Problem)(a:List Int):Nat×Nat×Int :=
 if (qx p).2≠0 then (0,0,(qx p).2) else if qC p.vars a=false then (0,0,1) else if (qx p).1.all (jA p a)=false then (0,1,0)
 else Yb p a (List.range (NG p).length) 1 1
structure FrOk (n d:Nat):Prop where
 nl:n<9223372036854775808
 dl:d<9223372036854775808
 pos:0<d
 cop:Nat.gcd n d=1
theorem qom {a b:Nat}(ha:a<9223372036854775808)(hb:b<9223372036854775808)(h0:0<b):FrOk (yd a b).1 (yd a b).2:=by
 have hg:0<Nat.gcd a b:=qqM _ h0;exact⟨qq2 (qqK _ _) ha,qq2 (qqK _ _) hb,qsx (qr2 h0 (qru _ _)) hg,qrX hg⟩
theorem mul_ok {a b c d:Nat}(h:FrOk a b)(g:FrOk c d)(he:(yn a b c d).2.2=0):FrOk (yn a b c d).1 (yn a b c d).2.1:=by
 have hc:=ZS h.pos g.pos h.cop g.cop;have hp:0<qgO a b c d:=Nat.mul_pos (qsx (qr2 h.pos (qru _ _)) (qqM _ h.pos)) (qsx (qr2 g.pos (qru _ _)) (qqM _ g.pos));unfold yn qdj at *;split at he
 . rename_i hlt;rw[if_pos hlt];exact⟨hlt.1,hlt.2,hp,hc⟩
 . cases he
theorem mul_e (a b c d:Nat):(yn a b c d).2.2≠0->(yn a b c d).2.2=3:=by
 unfold yn qdj;split<;>simp
theorem qjU (p:Problem)(gi:Nat)(a:List Int):yD p gi a<=lim:=by
 have:∀ (l:List Nat) (n:Nat),n<=lim->l.foldl (fun n i=>sat (n*wtP p i (aN a i))) n<=lim:=by
  intro l
  induction l with
  | nil=>intro n hn;exact hn
  | cons y l ih=>intro n hn;rw[qqe];exact ih _ (KF _)
 exact this _ 1 (by decide)
def PrQ (o:Nat×Nat×Int)(H:List Blk)(v:AV)(U':St):Prop:=v=.tup [.agg [.int .i64 (o.1:Nat),.int .i64 (o.2.1:Nat)],.int .i64 o.2.2]/\KpL [] H U'.H
theorem qpv (p:Problem)(h:RnH p)(a:List Int)(haf:Fits a)(H:List Blk)(T:List (Option Nat)) :
 qf Tryz.prog GG 15 [.agg (qG p),.sl 1 (a.map qr) .none] ⟨H,T⟩ (PrQ (Jf p a) H):=by
 refine qf.k qe Tryz.func15 rfl (by kernel_rfl) ?_;have hop:=qdx p h.q h.v20 h.bits h.dl h.sl h.wl (H++[.cells (qG p),.cells [.int .i64 0,.int .i64 0]]) T;obtain⟨res,hres⟩:∃ res,res=Jf p a:=⟨_,rfl⟩;rw[<- hres];unfold Jf at hres;simp only[qG]at hop;simp[-getElem?_pos];refine qc.acall hop ?_;rintro v ⟨H1,T1⟩ ⟨hk1,hr⟩;dsimp only at hk1;have b0:=hk1.2 _ _ lk0 (by simp);have b1:=hk1.2 _ _ lk1 (by simp);have b1l:=(qpy.1 b1).1;have hkH:KpL [] H H1:=KpL.app.trans hk1
 -- what is returned
 have out:∀ (H2:List Blk) (T2:List (Option Nat)) (n d:Nat) (e:Int),res=(n,d,e)->KpL [] H H2->PrQ res H (.tup [.agg [.int .i64 n,.int .i64 d],.int .i64 e]) ⟨H2.set (H.length+1) (.cells [.int .i64 n,.int .i64 d]),T2⟩:=fun H2 T2 n d e he hk=>by
  rw[he];exact⟨rfl,hk.setF (by omega)⟩
 rcases hr with ⟨he,rfl⟩|⟨he,s,d,rfl,hS,hL,hLL,hsp,hsR,hso,hsv,hroot⟩
 . rw[if_pos he]at hres;simp[-getElem?_pos,he,b1,b1l];exact out _ _ 0 0 _ hres hkH
 rw[if_neg (by simp[he])]at hres;have hR:SpR p s d:=⟨hsp,hsR,hsv,hroot⟩;have hw:∀ v∈s.p.vars,0<=v.width/\v.width<=8:=fun v hv=>by have:=zc (ju hsv.vp v hv);omega
 have has:=qbl hso hw hsv.vq.vars (r:=.sl 1 (a.map qr) .none) (a:=a) (.inl ⟨.none,rfl⟩) T1;have hv:=hsv.vp;rw[hsp]at has hv;simp[-getElem?_pos,he];refine qc.acall has ?_;rintro v ⟨H2,T2⟩ ⟨rfl,hk2⟩;dsimp only at hk2;have hkH2:=hkH.trans hk2;have b1':=hk2.2 _ _ b1 (by simp);have b1l':=(qpy.1 b1').1
 cases hA:qC p.vars a with
 | false=>
  rw[if_pos hA]at hres;simp[-getElem?_pos,b1',b1l',unA];exact out _ _ 0 0 _ hres hkH2
 | true=>
  rw[if_neg (by simp[hA])]at hres;have hso2:=hso.keep hk2 (by simp) (by simp) (by simp);have hsl:=qdb (s:=s) (hsp▸h.q) hso2 hsv.rl (r:=.sl 1 (a.map qr) .none) haf rfl (fun H' _=>by rw[qW (by simp)];exact Leq.refl _) (fun e he'=>(hsv.rk e he').2) T2;rw[hsR,hsp]at hsl;simp[-getElem?_pos,unA];refine qc.acall hsl ?_;rintro v ⟨H3,T3⟩ ⟨rfl,hk3⟩;dsimp only at hk3;have hkH3:=hkH2.trans hk3;have c1:=hk3.2 _ _ b1' (by simp);have c1l:=(qpy.1 c1).1
  cases hB:(qx p).1.all (jA p a) with
  | false=>
   rw[if_pos hB]at hres;simp[-getElem?_pos,c1,c1l,unA];exact out _ _ 0 1 _ hres hkH3
  | true=>
   rw[if_neg (by simp[hB])]at hres;have c0:=hk3.2 _ _ (hk2.2 _ _ b0 (by simp)) (by simp);have hG:=Wl hv;have hng:=qcR hv h.q.vars;simp only[qG,hG]at c0;have c0':=qa c0;simp[-getElem?_pos,unA,c0,c0'];refine yq (NG p).length (fun k ev U=>ev 1=.sl 1 (a.map qr) .none/\ev 4=.ptr (H.length+1) 0/\ev 6=.ptr s.S 0/\ev 8=.ptr H3.length 0/\ev 38=.int .i64 (NG p).length/\ev 39=.int .i64 k/\KpL [] H U.H/\SpOk s U.H/\U.H[H.length+1]?=some (.cells [.int .i64 0,.int .i64 0]) /\
    ∃ n d:Nat,U.H[H3.length]?=some (.cells [.int .i64 n,.int .i64 d])/\FrOk n d/\res=Yb p a (List.range' k ((NG p).length-k)) n d) ?_ ?_ ?_
   . exact⟨by simp,by simp,by simp,by simp,by simp,by simp,hkH3.trans KpL.app,hso2.keep (hk3.trans KpL.app) (by simp) (by simp) (by simp),qa c1 _,1,1,lk0,⟨by decide,by decide,by decide,by decide⟩,by rw[hres,qrr];simp⟩
   . rintro k ev ⟨H4,T4⟩ R hR' hkn ⟨e1,e4,e6,e8,e38,e39,hk4,hso4,d1,n,dd,d8,hfr,hpr⟩;dsimp only at hk4 hso4 d1 d8;have hkn':(k:Int)<(NG p).length:=(by omega);have hwk:=wr (n:=(k:Int)+1) (by omega) (by omega);have hrg:List.range' k ((NG p).length-k)=k::List.range' (k+1) ((NG p).length-(k+1)):=by
      obtain⟨m,hm⟩:∃ m,(NG p).length-k=m+1:=⟨(NG p).length-k-1,by omega⟩;rw[hm,qry,show (NG p).length-(k+1)=m by omega]
     rw[hrg]at hpr;unfold Yb at hpr;have ht:=qbO hsv (k:Int) hso4 (r:=.sl 1 (a.map qr) .none) (a:=a) (.inl ⟨.none,rfl⟩) T4;rw[hR.tot]at ht;have hok:=qc1 (p:=p) (gi:=(k:Int)) (a:=a);have hpl:=qjU p k a;rw[qqi]at hok;have hpd:=fun H T (hs:SpOk s H)=>qgM hsv (gi:=k) (by rw[hsp];exact hkn) (r:=.sl 1 (a.map qr) .none) (a:=a) (by rw[hsp];exact Qn hv hA) hs (.inl ⟨.none,rfl⟩) T
     rw[hsp]at hpd;generalize yD p k a=pr at *;generalize Kc p (k:Int) a=tt at *;obtain⟨t,e⟩:=tt;dsimp only at hpr ht hok;simp[-getElem?_pos,e1,e4,e6,e8,e38,e39,hkn'];refine qc.acall ht ?_;rintro v ⟨H5,T5⟩ ⟨rfl,hk5⟩;dsimp only at hk5;have f1:=hk5.2 _ _ d1 (by simp);have f1l:=(qpy.1 f1).1;by_cases he0:e=0
     case neg=>
      rw[if_pos he0]at hpr;simp[-getElem?_pos,e1,e4,e6,e8,e38,e39,he0,f1,f1l];exact out _ _ 0 0 _ hpr (hk4.trans hk5)
     subst he0;rw[if_neg (by simp)]at hpr;obtain⟨g0,g1,-,n1,n2⟩:=hok rfl;obtain⟨t,rfl⟩:=qp7 (by omega:0<=t);rw[qqi]at hpr;unfold lim at n2 hpl;have hso5:=hso4.keep hk5 (by simp) (by simp) (by simp);have hmk:=qmx pr t (by omega) (by omega) (by omega);have hmf:=qom (a:=pr) (b:=t) (by omega) (by omega) (by omega);generalize yd pr t=mk at *;obtain⟨x,y⟩:=mk;dsimp only at hpr hmk hmf;have hml:=mul93 n dd x y hfr.nl hfr.dl hfr.pos hfr.cop hmf.nl hmf.dl hmf.pos hmf.cop;have hmo:=mul_ok hfr hmf;have hme:=mul_e n dd x y;generalize yn n dd x y=mm at *;obtain⟨u,w,z⟩:=mm;dsimp only at hpr hml hmo hme;simp[-getElem?_pos,e1,e4,e6,e8,e38,e39];refine qc.acall (hpd _ _ hso5) ?_;rintro v ⟨H6,T6⟩ ⟨rfl,hk6⟩;dsimp only at hk6;have hkk6:=(hk4.trans hk5).trans hk6;have g1':=hk6.2 _ _ f1 (by simp);have g8:=hk6.2 _ _ (hk5.2 _ _ d8 (by simp)) (by simp);have g1l:=(qpy.1 g1').1;have g8l:=(qpy.1 g8).1;have g8a:=qa g8;have g1a:=qa g1';simp[-getElem?_pos,e1,e4,e6,e8,e38,e39];refine qc.call hmk (by simp) ?_;simp[-getElem?_pos,e1,e4,e6,e8,e38,e39,g8a];refine qc.call hml (by simp) ?_;have hne:H3.length≠H.length+1:=(by have:=hk3.1;omega);have q1:∀ X Y,((H6++[X]).set H3.length Y)[H.length+1]?=some (.cells [.int .i64 0,.int .i64 0]):=fun X Y=>by rw[qpB hne];exact g1a _
     have hl3:∀ X:Blk,H3.length<(H6++[X]).length:=fun X=>by simp;omega
     have hl1:∀ X:Blk,H.length+1<(H6++[X]).length:=fun X=>by simp;omega
     have hkx:∀ X Y,KpL [] H ((H6++[X]).set H3.length Y):=fun X Y=>KpL.setF (hkk6.trans KpL.app) (by have:=hkH3.1;omega)
     by_cases hz:z=0
     . subst hz;rw[if_neg (by simp)]at hpr;simp[-getElem?_pos,e1,e4,e6,e8,e38,e39,g8a,hwk,q1];have hlt3:=(hso2.keep hk3 (by simp) (by simp) (by simp)).lt;have hso7:SpOk s ((H6++[Blk.cells [.int .i64 x,.int .i64 y]]).set H3.length (Blk.cells [.int .i64 u,.int .i64 w])):=hso5.keep (bs:=[H3.length]) (KpL.trans (hk6.sub (by simp)) (KpL.trans KpL.app (KpL.set (by simp)))) (by simp;omega) (by simp;omega) (by simp;omega);exact hR' _ _ ⟨by simp[e1],by simp[e4],by simp[e6],by simp[e8],by simp[e38],by simp,hkx _ _,hso7,q1 _ _,u,w,qpF (hl3 _),hmo rfl,hpr⟩
     . rw[if_pos hz]at hpr;have:=hme hz;subst this;have q2:∀ X Y Z,(((H6++[X]).set H3.length Y).set (H.length+1) Z)[H.length+1]?=some Z:=fun X Y Z=>qpF (by rw[qqR];exact hl1 X)
       simp[-getElem?_pos,e1,e4,e6,e8,e38,e39,g8a,q1,q2];exact out _ _ 0 0 _ hpr (hkx _ _)
   . rintro ev ⟨H4,T4⟩ ⟨e1,e4,e6,e8,e38,e39,hk4,hso4,d1,n,dd,d8,hfr,hpr⟩;dsimp only at hk4 hso4 d1 d8;have d1l:=(qpy.1 d1).1;have:res=(n,dd,0):=by rw[hpr,qqL];rfl
     simp[-getElem?_pos,e1,e4,e6,e8,e38,e39,d8,d1,d1l];exact out _ _ _ _ _ this hk4
theorem qi2 (p:Problem)(h:RnH p)(a:List Int)(haf:Fits a):Pure Tryz.prog GG 15 [.agg (qG p),.sl 1 (a.map qr) .none] (.tup [.agg [.int .i64 ((Jf p a).1:Nat),.int .i64 ((Jf p a).2.1:Nat)],.int .i64 (Jf p a).2.2]):=by
 refine Pure.ofA (qpv p h a haf [] []) ?_;rintro v U' ⟨rfl,-⟩;rw[qW (by simp)];exact⟨by simp,Leq.refl _⟩
end Go.Proofs.YtkpkjbchlabaaaaGreatDoor
end
