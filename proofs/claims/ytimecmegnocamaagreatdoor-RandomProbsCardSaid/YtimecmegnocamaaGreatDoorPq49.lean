import Derived.Test.YtimecmegnocamaaGreatDoorPq48
set_option maxHeartbeats 16000000
set_option maxRecDepth 100000
set_option linter.all false
set_option linter.defProp false
namespace Go.Proofs.YtimecmegnocamaaGreatDoor
open Go Go.Abs Proofs.Tryz Go.RowKit
def qdK{l:List Var}{a:List Int}{i:Nat}{v:Var}{x:Int}(h:l[i]?=some v)(h':a[i]?=some x):(l.zip a)[i]?=some (v,x):=(qCA (z:=(v,x))).2 ⟨h,h'⟩
def WF{l a}(h:¬a.length=l.length):qL l a=false:=by simp[qL,h]
def Yd{l:List Var}{a:List Int}{i:Nat}{v:Var}{x:Int}(h:l[i]?=some v)(h':a[i]?=some x)(hb:zG (v,x)=false):qL l a=false:=by
 unfold qL;rw[qe5 (qAV (qdK h h')) hb,qDG]
def Jc{l a i}(hlen:a.length=l.length)(hi:l.length<=i)(hz:∀q∈(l.zip a).take i,zG q=true):qL l a=true:=by
 unfold qL;rw[decide_eq_true hlen,qB7];exact qbn (by simp;omega) hz
def Va{v}(h:j4 v=0):1<=v.width/\v.width<=8:=(zi h).2
def qlU(p a)(hl:p.vars.length<=1000)(ha:Fits a)(hv:∀v∈p.vars,j4 v=0):Pure prog GG 76 [.agg (qA p),.sl 1 (a.map qh) .none] (.bool (qL p.vars a)):=by
 refine qFP qg func76 rfl (by kernel_rfl) ?_;by_cases hlen:a.length=p.vars.length
 . generalize hr:qL p.vars a=r;simp[hlen];refine qFM (fun n ev U=>∃i tl,i<=p.vars.length/\n=p.vars.length-i/\ev 1=.sl 1 (a.map qh) .none/\ev 14=.sl 4 (p.vars.map qM) .none/\ev 15=.int .i64 p.vars.length/\ev 16=.int .i64 i/\U=⟨tl,[]⟩/\∀q∈(p.vars.zip a).take i,zG q=true) p.vars.length ⟨0,_,by simp,by simp,by simp,by simp,by simp,by simp,rfl,by simp⟩ ?_;rintro n ev U ⟨i,tl,hi,rfl,h1,h14,h15,h16,rfl,hz⟩
   cases hvi:p.vars[i]? with
   | some v=>
    obtain⟨hc,hv'⟩:=qAU.1 hvi;have hca:i<a.length:=(by omega);obtain⟨x,hx⟩:∃x,a[i]?=some x:=⟨_,qAW hca⟩;have hx':=(qAU.1 hx).2;obtain⟨w1,w8⟩:=Va (hv v (qAV hvi));have hs:IntKind.i64.wrap (2^min v.width.toNat IntKind.i64.bits)=2^v.width.toNat:=qwv w1 w8;have hw0:¬v.width<0:=(by omega);have bad:zG (v,x)=false->r=false:=fun hb=>by rw[<- hr];exact Yd hvi hx hb
    have good:zG (v,x)=true->∀q∈(p.vars.zip a).take (i+1),zG q=true:=fun hg=>q9 (p:=fun q=>zG q=true) (qdK hvi hx) hz hg
    by_cases c1:x<0
    . rw[bad (by simp only[zG];rw[decide_eq_false (by omega:¬0<=x)];rfl)];simp[*,qBx]
    by_cases c2:(2:Int)^v.width.toNat<=x
    . rw[bad (by simp only[zG];rw[decide_eq_false (by omega:¬x<2^v.width.toNat)];simp)];simp[*,qBx]
    by_cases c3:v.mode=0
    . by_cases c4:x=v.value
      . have g:=good (by simp only[zG];rw[decide_eq_true (by omega:0<=x),decide_eq_true (by omega:x<2^v.width.toNat),decide_eq_true c4];simp);subst c4;simp[*,qBx];exact⟨_,by omega,i+1,by omega,rfl,wr (by omega) (by omega),by simpa using g⟩
      . rw[bad (by simp only[zG];rw[decide_eq_true c3,decide_eq_false c4];simp)];simp[*,qBx]
    have g:=good (by simp only[zG];rw[decide_eq_true (by omega:0<=x),decide_eq_true (by omega:x<2^v.width.toNat),decide_eq_false c3];simp);simp[*,qBx];exact⟨_,by omega,i+1,by omega,rfl,wr (by omega) (by omega),by simpa using g⟩
   | none=>
    have hle:p.vars.length<=i:=(by simpa using hvi);have hc:¬i<p.vars.length:=(by omega);rw[Jc hlen hle hz]at hr;subst hr;simp[*]
 rw[WF hlen];simp[show ¬(a.length:Int)=p.vars.length by omega]
def Vu(p a)(h:VP p)(ha:Fits a):Pure prog GG 23 [.agg (qA p),.sl 1 (a.map qh) .none] (.bool (decide (qo p=0)&&qL p.vars a)):=by
 refine qFP qg func23 rfl (by kernel_rfl) ?_;have hva:=qqU p h;simp at hva;generalize hr:(decide (qo p=0)&&qL p.vars a)=r;simp;refine qFz hva (by simp) ?_;by_cases h0:qo p=0
 . have hv:=Y3 h0;rw[decide_eq_true h0,qB7]at hr;by_cases hlen:a.length=p.vars.length
   . simp[*];refine qFM (fun n ev U=>∃i tl,i<=p.vars.length/\n=p.vars.length-i/\ev 1=.sl 1 (a.map qh) .none/\ev 2=.ptr 0 0/\ev 5=.int .i64 i/\U=⟨.cells (qA p)::tl,[]⟩/\∀q∈(p.vars.zip a).take i,zG q=true) p.vars.length ⟨0,[],by simp⟩ ?_;rintro n ev U ⟨i,tl,hi,rfl,h1,h2,h5,rfl,hz⟩
     cases hvi:p.vars[i]? with
     | some v=>
      obtain⟨hc,hv'⟩:=qAU.1 hvi;have hca:i<a.length:=(by omega);obtain⟨x,hx⟩:∃x,a[i]?=some x:=⟨_,qAW hca⟩;have hx':=(qAU.1 hx).2;obtain⟨w1,w8⟩:=Va (hv v (qAV hvi));have hs:IntKind.i64.wrap (2^min v.width.toNat IntKind.i64.bits)=2^v.width.toNat:=qwv w1 w8;have hw0:¬v.width<0:=(by omega);have bad:zG (v,x)=false->r=false:=fun hb=>by rw[<- hr];exact Yd hvi hx hb
      have good:zG (v,x)=true->∀q∈(p.vars.zip a).take (i+1),zG q=true:=fun hg=>q9 (p:=fun q=>zG q=true) (qdK hvi hx) hz hg
      by_cases c4:v.mode=0/\¬x=v.value
      . rw[bad (by simp only[zG];rw[decide_eq_true c4.1,decide_eq_false c4.2];simp)];simp[*,qBx,c4.1,c4.2]
      by_cases c1:x<0
      . rw[bad (by simp only[zG];rw[decide_eq_false (by omega:¬0<=x)];rfl)];by_cases c3:v.mode=0
        . have c5:=Classical.byContradiction fun hn=>c4 ⟨c3,hn⟩
          subst c5;simp[*,qBx]
        simp[*,qBx]
      by_cases c2:(2:Int)^v.width.toNat<=x
      . rw[bad (by simp only[zG];rw[decide_eq_false (by omega:¬x<2^v.width.toNat)];simp)];by_cases c3:v.mode=0
        . have c5:=Classical.byContradiction fun hn=>c4 ⟨c3,hn⟩
          subst c5;simp[*,qBx]
        simp[*,qBx]
      by_cases c3:v.mode=0
      . have c5:=Classical.byContradiction fun hn=>c4 ⟨c3,hn⟩
        have g:=good (by simp only[zG];rw[decide_eq_true (by omega:0<=x),decide_eq_true (by omega:x<2^v.width.toNat),decide_eq_true c5];simp);subst c5;simp[*,qBx];exact⟨_,by omega,i+1,by omega,rfl,wr (by omega) (by omega),by simpa using g⟩
      have g:=good (by simp only[zG];rw[decide_eq_true (by omega:0<=x),decide_eq_true (by omega:x<2^v.width.toNat),decide_eq_false c3];simp);simp[*,qBx];exact⟨_,by omega,i+1,by omega,rfl,wr (by omega) (by omega),by simpa using g⟩
     | none=>
      have hle:p.vars.length<=i:=(by simpa using hvi);have hc:¬i<p.vars.length:=(by omega);have hca:¬i<a.length:=(by omega);rw[Jc hlen hle hz]at hr;subst hr;simp[*]
   rw[WF hlen]at hr;subst hr;simp[h0,show ¬(a.length:Int)=p.vars.length by omega]
 rw[decide_eq_false h0,qDf]at hr;subst hr;simp[h0]
def qkJ(p a e):yi p a e=(decide (qo p=0)&&qL p.vars a&&decide (Qs (yo p.vars a) e=0)&&!decide (jz (yo p.vars a) e=0)):=rfl
def qof(p a e)(h:VQ p)(ha:Fits a)(hwe:Wen e)(hh:hgt e<=1000)(hsz:(pre e).length<=100000):Pure prog GG 41 [.agg (qA p),.sl 1 (a.map qh) .none,.agg (qt e)] (.bool (yi p a e)):=by
 refine qFP qg func41 rfl (by kernel_rfl) ?_;have hva:=ka p h;have hen:=qy3 p a h.vars ha;have hev:=qqa (yo p.vars a) (by have:=qa3 (l:=p.vars) (a:=a);have:=h.vars;omega) e hwe (by omega) hsz;have hr:=qkJ p a e;generalize yi p a e=r at hr⊢;simp at hva hen;simp only[qc e];simp;refine qFz hva (by simp) ?_;by_cases h0:qo p=0
 . have has:=qlU p a h.vars ha (Y3 h0);simp at has;simp[h0];refine qFz has (by simp) ?_;rw[decide_eq_true h0,qB7]at hr;cases hc:qL p.vars a
   . rw[hc]at hr;subst hr;simp
   rw[hc,qB7]at hr;simp;refine qFz hen (by simp) ?_
   try simp[qc e]
   try rw[<- qc e]
   refine qFz hev (by simp) ?_;by_cases h1:Qs (yo p.vars a) e=0
   . by_cases h2:jz (yo p.vars a) e=0
     . rw[decide_eq_true h1,decide_eq_true h2]at hr;subst hr;simp[*]
     . rw[decide_eq_true h1,decide_eq_false h2]at hr;subst hr;simp[*]
   rw[decide_eq_false h1]at hr;simp at hr;subst hr;simp[h1]
 rw[decide_eq_false h0]at hr;simp at hr;subst hr;simp[h0]
def qaY{p}(hvp:qo p=0){a e}(h:jz (yo p.vars a) e≠0)(ha:qL p.vars a=true):yi p a e=true:=by
 obtain⟨h1,h2⟩:=qaZ h;unfold yi;simp[hvp,ha,h1,h]
def WG{p}(hvp:qo p=0){a}(ha:a∈jH p.vars):qL p.vars a=true:=by
 have hok:=wc.1 ha;unfold qL;simp only[qA1,decide_eq_true_eq,qA3];refine⟨hok.len,?_⟩;rintro⟨v,x⟩ hx;obtain⟨i,hi⟩:=qBB hx;obtain⟨h1,h2⟩:=qCA.1 hi;obtain⟨y,hy,hc⟩:=wy hok h1;rw[h2]at hy;cases hy;dsimp only at h1 h2 hc⊢;have hve:=jd hvp v (qAV h1);have h3:((2^v.width.toNat:Nat):Int)=(2:Int)^v.width.toNat:=by simp
 unfold zG;by_cases hm:v.mode=0
 . rw[if_pos hm]at hc;subst hc;have hvv:=qhf hve;simp[hm,hvv]
 rw[if_neg hm]at hc;unfold zU at hc;have:x<(2:Int)^v.width.toNat:=by omega
 simp[hm,hc.1,this]
def qhl(e):(qt e).take 4=qt e:=qAZ (Nat.le_of_eq (zo e))
def qod{c:Nat}{cfr:List AV}(q:Ex->Bool)(l:List Ex)(hl:l.length<=50000)(tok:Abs.Tok)(H:List Blk)(T:List (Option Nat))
 (hc:∀e∈l,∀(H':List Blk) (T':List (Option Nat)),KpL [] H H'->qj prog GG c (.agg (qt e)::cfr) ⟨H',T'⟩ (fun r U'=>r=.bool (q e)/\KpL [] H' U'.H)):
 qj prog GG 75 [.sl 4 (l.map qt) tok,.fn c [] cfr] ⟨H,T⟩ (fun r U'=>(∃n:Int,r=.int .i64 n/\(l.any q=true->0<=n)/\(l.any q=false->n<0))/\KpL [] H U'.H):=by
 refine qFo qg func75 rfl (by kernel_rfl) ?_;obtain⟨res,hres⟩:∃res,res=l.any q:=⟨_,rfl⟩;rw[<- hres];simp;refine qFF l (fun d ev U=>ev 0=.sl 4 (l.map qt) tok/\ev 1=.fn c [] cfr/\ev 7=.int .i64 l.length/\ev 8=.int .i64 d.length/\KpL [] H U.H/\res=(l.drop d.length).any q) ?_ ?_ ?_
 . exact⟨by simp,by simp,by simp,by simp,qFV,by simpa using hres⟩
 . rintro d e rest ev ⟨H1,T1⟩ R hR hd hx hlt ⟨e0,e1,e7,e8,hk,hr⟩;have hdw:=wr (n:=(d.length:Int)+1) (by omega) (by omega);have hc1:=hc e (qAV hx) H1 T1 hk;have hdr:l.drop d.length=e::l.drop (d.length+1):=by
    obtain⟨h1,h2⟩:=qAU.1 hx;rw[qA9 h1,h2]
   rw[hdr,qC1]at hr;simp[-qZ,e0,e1,e7,e8,show(d.length:Int)<l.length by omega,hx,qhl];refine qFs hc1 ?_;rintro r ⟨H2,T2⟩ ⟨rfl,hk2⟩
   cases hq:q e with
   | true=>
    rw[hq,Bool.true_or]at hr;subst hr;simp[e8];exact hk.trans hk2
   | false=>
    rw[hq,qDz]at hr;simp[e8,hdw];exact hR _ _ ⟨by simp[e0],by simp[e1],by simp[e7],by simp,hk.trans hk2,by rw[qAY];exact hr⟩
 rintro ev ⟨H1,T1⟩ ⟨e0,e1,e7,e8,hk,hr⟩;have:res=false:=by rw[hr,qBL];rfl
 subst this;simp[e7,e8];exact hk
def qeQ{c:Nat}{cfr:List AV}(q:Ex->Bool)(l:List Ex)(hl:l.length<=50000)(tok:Abs.Tok)(H:List Blk)(T:List (Option Nat))
 (hc:∀e∈l,∀(H':List Blk) (T':List (Option Nat)),KpL [] H H'->qj prog GG c (.agg (qt e)::cfr) ⟨H',T'⟩ (fun r U'=>r=.bool (q e)/\KpL [] H' U'.H)):
 qj prog GG 39 [.sl 4 (l.map qt) tok,.fn c [] cfr] ⟨H,T⟩ (fun r U'=>r=.bool (l.any q)/\KpL [] H U'.H):=by
 refine qFo qg func39 rfl (by kernel_rfl) ?_;have hi:=qod q l hl tok H T hc;generalize l.any q=res at *;simp;refine qFs hi ?_;rintro r ⟨H1,T1⟩ ⟨⟨n,rfl,h1,h2⟩,hk⟩
 cases res with
 | true=>
  have:=h1 rfl;simp[this];exact hk
 | false=>
  have:¬(0<=n):=by have:=h2 rfl;omega
  simp[this];exact hk
def qjq{s H}(hq:VQ s.p)(hs:SpOk s H){r a}(haf:Fits a)(hfr:∀H',KpL [] H H'->Leq (frz H' 8 r) (.sl 1 (a.map qh) .none)){e}(hwe:Wen e)(hh:hgt e<=1000)(hsz:(pre e).length<=100000){B1 B2}(h1:H[B1]?=some (.cells [.ptr s.S 0]))(h2:H[B2]?=some (.cells [r]))(T):
 qj prog GG 40 [.agg (qt e),.ptr B1 0,.ptr B2 0] ⟨H,T⟩ (fun v U'=>v=.bool (!yi s.p a e)/\KpL [] H U'.H):=by
 refine qFo qg func40 rfl (by kernel_rfl) ?_;have hS:=hs.c;have hh1:=qof s.p a e hq haf hwe hh hsz;generalize yi s.p a e=res at *;simp only[spE,qA,qBl,qBk]at hS;simp only[qA,qc e]at hh1;simp only[qc e];have k1:=qf h1;have k2:=qf h2;have k3:=qf hS;simp[k1,k2,k3];refine qFr hh1 rfl ?_ ?_
 . simp only[qA7,qBy,zm,and_true];refine⟨?_,hfr _ qFX,?_⟩
   . rw[qF (by simp)];exact qFw _
   rw[qF (by simp)];exact qFw _
 simp[unA];exact qFX
def qfx{s H}(hq:VQ s.p)(hs:SpOk s H)(hl:s.R.length<=50000){r a}(haf:Fits a)(hbx:qZ r=some [r])(hfr:∀H',KpL [] H H'->Leq (frz H' 8 r) (.sl 1 (a.map qh) .none))(hx:∀e∈s.R,Wen e/\hgt e<=1000/\(pre e).length<=100000)(T):
 qj prog GG 17 [.ptr s.S 0,r] ⟨H,T⟩ (fun v U'=>v=.bool (s.R.all (yi s.p a))/\KpL [] H U'.H):=by
 refine qFo qg func17 rfl (by kernel_rfl) ?_;have hS:=hs.c;have hk0:KpL [] H (H++[.cells [.ptr s.S 0],.cells [r]]):=qFX;have hcon:=qeQ (c:=40) (cfr:=[.ptr H.length 0,.ptr (H.length+1) 0]) (fun e=>!yi s.p a e) s.R hl s.rtok (H++[.cells [.ptr s.S 0],.cells [r]]) T (fun e he H' T' hk=>by
  obtain⟨x1,x2,x3⟩:=hx e he;have hkk:=hk0.trans hk;exact qjq hq (hs.keep hkk (by simp) (by simp) (by simp)) haf (fun H2 hk2=>hfr _ (hkk.trans hk2)) x1 x2 x3 (hk.2 _ _ lk0 (by simp)) (hk.2 _ _ lk1 (by simp)) T')
 have hany:(!s.R.any fun e=>!yi s.p a e)=s.R.all (yi s.p a):=by simp[List.all_eq_not_any_not]
 generalize (s.R.any fun e=>!yi s.p a e)=res at *;rw[<- hany];simp only[spE,qA,qBl,qBk]at hS;have k1:=qf hS;simp[-qZ,hbx,k1,show qZ (.ptr s.S 0)=some [.ptr s.S 0] from rfl];refine qFs hcon ?_;rintro v ⟨H1,T1⟩ ⟨rfl,hk1⟩;simp[unA];exact hk0.trans hk1
def qgG(ok:List Int->Bool)(vs:List Var)(pre:List Int):Nat:=(jH vs).countP fun x=>ok (pre++x)
def qoN(ok pre):qgG ok [] pre=if ok pre then 1 else 0:=by
 simp[qgG,jH,qE8]
def qs1(ok){v}(h:v.mode=0)(vs pre):qgG ok (v::vs) pre=qgG ok vs (pre++[v.value]):=by
 unfold qgG;rw[WH h,qEg];congr 1;funext x;simp
def qoL(ok:List Int->Bool)(vs:List Var)(pre:List Int)(k:Nat):Nat:=((List.range k).flatMap fun n:Nat=>(jH vs).map ((n:Int)::·)).countP fun x=>ok (pre++x)
def qs2(ok){v}(h:¬v.mode=0)(vs pre):qgG ok (v::vs) pre=qoL ok vs pre (2^v.width.toNat):=by
 unfold qgG qoL;rw[WI h];rfl
def qdg(ok vs pre k):qoL ok vs pre (k+1)=qoL ok vs pre k+qgG ok vs (pre++[(k:Int)]):=by
 unfold qoL qgG;rw[qCk,List.flatMap_append,List.countP_append];congr 1;simp only[qBm,qDK,qBC,qEg];congr 1;funext x;simp
def qlu(ok vs pre):∀k,qoL ok vs pre k<=k*(jH vs).length
 |0=>by simp[qoL]
 | k+1=>by
  have h1:=qlu ok vs pre k;have h2:qgG ok vs (pre++[(k:Int)])<=(jH vs).length:=List.countP_le_length;rw[qdg,qDs];omega
def qe7{v}(h:¬v.mode=0)(vs):(jH (v::vs)).length=2^v.width.toNat*(jH vs).length:=by
 rw[Zu,Zu];simp only[qA7,qDl,if_neg h,qEX]
def qe6{v}(h:v.mode=0)(vs):(jH (v::vs)).length=(jH vs).length:=by
 rw[Zu,Zu];simp only[qA7,qDl,if_pos h,qCC]
structure EnB where
 A:Nat
 P:Nat
 N:Nat
 V:Nat
 AL:Nat
structure EnOk(B:EnB)(s rv a n H):Prop where
 sp:SpOk s H
 fa:H[B.A]?=some (.cells [rv])
 fp:H[B.P]?=some (.cells [.ptr s.S 0])
 fn:H[B.N]?=some (.cells [.int .i64 (n:Nat)])
 fv:H[B.V]?=some (.cells [.fn 62 [] [.ptr B.A 0,.ptr B.P 0,.ptr B.N 0,.ptr B.V 0]])
 fr:qiK B.AL H rv a
 ne:B.N≠B.AL
 o:∀b∈[B.A,B.P,B.V,s.S,s.L,s.LL],b≠B.N/\b≠B.AL
def EnOk.keep{B s rv a n H H'}(h:EnOk B s rv a n H)(hk:KpL [] H H'):EnOk B s rv a n H' :=
 ⟨h.sp.keep hk (by simp) (by simp) (by simp),hk.2 _ _ h.fa (by simp),hk.2 _ _ h.fp (by simp),hk.2 _ _ h.fn (by simp),hk.2 _ _ h.fv (by simp),h.fr.imp id fun⟨h1,h2,h3⟩=>⟨h1,h2,hk.2 _ _ h3 (by simp)⟩,h.ne,h.o⟩
def EnOk.setN{B s rv a n H}(h:EnOk B s rv a n H)(m):EnOk B s rv a m (H.set B.N (.cells [.int .i64 (m:Nat)])):=by
 have hl:=(qAU.1 h.fn).1;have hk:KpL [B.N] H (H.set B.N (.cells [.int .i64 (m:Nat)])):=qFY (by simp);have ho:=h.o;exact⟨h.sp.keep hk (by simpa using(ho s.S (by simp)).1) (by simpa using(ho s.L (by simp)).1) (by simpa using(ho s.LL (by simp)).1),hk.2 _ _ h.fa (by simpa using(ho B.A (by simp)).1),hk.2 _ _ h.fp (by simpa using(ho B.P (by simp)).1),qA0 hl,hk.2 _ _ h.fv (by simpa using(ho B.V (by simp)).1),
  h.fr.imp id fun⟨h1,h2,h3⟩=>⟨h1,h2,hk.2 _ _ h3 (by simpa using Ne.symm h.ne)⟩,h.ne,h.o⟩
def EnOk.setA{B s rv a n H}(h:EnOk B s rv a n H)(ha:a≠[])(i x):EnOk B s rv (a.set i x) n (H.set B.AL (.cells (zb (a.set i x)))):=by
 rcases h.fr with⟨h0,-⟩|⟨h1,h2,h3⟩
 . exact absurd h0 ha
 have hl:=(qAU.1 h3).1;have hk:KpL [B.AL] H (H.set B.AL (.cells (zb (a.set i x)))):=qFY (by simp);have ho:=h.o;exact⟨h.sp.keep hk (by simpa using(ho s.S (by simp)).2) (by simpa using(ho s.L (by simp)).2) (by simpa using(ho s.LL (by simp)).2),hk.2 _ _ h.fa (by simpa using(ho B.A (by simp)).2),hk.2 _ _ h.fp (by simpa using(ho B.P (by simp)).2),hk.2 _ _ h.fn (by simpa using h.ne),hk.2 _ _ h.fv (by simpa using(ho B.V (by simp)).2),
  .inr ⟨by simpa using ha,by rw[qCj];exact h2,qA0 hl⟩,h.ne,h.o⟩
noncomputable def okE(s:Spc)(a:List Int):Bool:=s.R.all (yi s.p a)
def EnQ(B:EnB)(s:Spc)(rv:AV)(i:Nat)(a:List Int)(n:Nat)(H:List Blk)(r:AV)(U':St):Prop :=
 KpL [B.N,B.AL] H U'.H/\∃a',a'.length=a.length/\a'.take i=a.take i/\EnOk B s rv a' (n+qgG (okE s) (s.p.vars.drop i) (a.take i)) U'.H
def qiK.ac{b H v a}(h:qiK b H v a):qZ v=some [v]:=by
 rcases h with⟨-,sz,tok,rfl⟩|⟨-,rfl,-⟩<;>rfl
def qiK.ln{b H v a}(h:qiK b H v a)(U):YD (Dof prog) U 28 v=some (.int .i64 (a.length:Nat)):=by
 rcases h with⟨rfl,sz,tok,rfl⟩|⟨h0,rfl,hb⟩<;>simp
def qlb{B s}(hq:VQ s.p)(hv:∀v∈s.p.vars,0<=v.width/\v.width<=20)(hRl:s.R.length<=50000)(hx:∀e∈s.R,Wen e/\hgt e<=1000/\(pre e).length<=100000)(rv):
 ∀ (k i:Nat) (a) (n),i+k=s.p.vars.length->a.length=s.p.vars.length->n+(jH (s.p.vars.drop i)).length<=2^24->∀(H) (T),EnOk B s rv a n H ->
  qj prog GG 62 [.int .i64 i,.ptr B.A 0,.ptr B.P 0,.ptr B.N 0,.ptr B.V 0] ⟨H,T⟩ (EnQ B s rv i a n H):=by
 intro k
 induction k with
 | zero=>
  intro i a n hik hal hn H T ok;refine qFo qg func62 rfl (by kernel_rfl) ?_;obtain⟨hsp,bA,bP,bN,bV,hr,hne,ho⟩:=id ok;have hln:=hr.ln;have hd:s.p.vars.drop i=[]:=qBq (by omega);rw[hd]at hn;have hn:n+1<=2^24:=by simpa[jH] using hn
  have hl:=hq.vars;have hfr:∀H',KpL [] H H'->Leq (frz H' 8 rv) (.sl 1 (a.map qh) .none):=fun H' hk=>by
   have:=(qiK.frz (b:=B.AL) (H:=H') (v:=rv) (a:=a) (hr.imp id fun⟨h1,h2,h3⟩=>⟨h1,h2,hk.2 _ _ h3 (by simp)⟩) 7).2.1;exact this
  have hso:=qfx hq hsp hRl (r:=rv) (a:=a) (by unfold Fits;omega) hr.ac hfr hx T;have fin:EnQ B s rv i a n H=fun r U'=>KpL [B.N,B.AL] H U'.H/\∃a',a'.length=a.length/\a'.take i=a.take i/\EnOk B s rv a' (n+if okE s a then 1 else 0) U'.H:=by
   funext r U';unfold EnQ;rw[show qgG (okE s) (s.p.vars.drop i) (a.take i)=if okE s a then 1 else 0 by rw[hd,qoN,qAZ (by omega)]]
  rw[fin];change qj _ _ _ _ _ (fun v U'=>v=.bool (okE s a)/\_) at hso;generalize okE s a=res at *;simp[-YD,bA,bP,hln,show(i:Int)=a.length by omega];refine qFs hso ?_;rintro r ⟨H1,T1⟩ ⟨rfl,hk1⟩;have ok1:=ok.keep hk1;have bN1:=ok1.fn;have lN1:=(qAU.1 bN1).1;have hw:=wr (n:=(n:Int)+1) (by omega) (by omega)
  cases res with
  | false=>
   simp;exact⟨hk1.sub (by simp),a,rfl,rfl,ok1⟩
  | true=>
   simp[bN1,hw];exact⟨(hk1.sub (by simp)).trans (qFY (by simp)),a,rfl,rfl,by have:=ok1.setN (n+1);simpa using this⟩
 | succ k ih=>
  intro i a n hik hal hn H T ok;refine qFo qg func62 rfl (by kernel_rfl) ?_;obtain⟨hsp,bA,bP,bN,bV,hr,hne,ho⟩:=id ok;have hia:i<a.length:=by omega
  have ha0:a≠[]:=fun e=>by rw[e]at hia;simp at hia
  obtain⟨v,hvi⟩:∃v,s.p.vars[i]?=some v:=⟨_,qAW (by omega)⟩;have hvw:=hv v (qAV hvi);have hdr:s.p.vars.drop i=v::s.p.vars.drop (i+1):=by
   obtain⟨h1,h2⟩:=qAU.1 hvi;rw[qA9 h1,h2]
  have hl:=hq.vars;rcases hr with⟨h0,-⟩|⟨-,hrv,bAL⟩
  . exact absurd h0 ha0
  subst hrv;have hS:=hsp.c;simp only[spE,qA,qBl,qBk]at hS;have kA:=qf bA;have kP:=qf bP;have kL:=qf bAL;have hni:¬(i:Int)=a.length:=by omega
  have hia':(i:Int)<a.length:=by omega
  have hil':(i:Int)<s.p.vars.length:=by omega
  have hla:i+1<=a.length:=hia;have hset:∀(a:List Int) x,(zb a).set i (.int .i64 x)=zb (a.set i x):=fun a x=>by simp[zb,qEf]
  have hwi:=wr (n:=(i:Int)+1) (by omega) (by omega);have htk:∀(a':List Int) x,a'.length=a.length->a'.take i=a.take i->(a'.set i x).take (i+1)=a.take i++[x]:=fun a' x h1 h2=>by
   rw[qBi,qA0 (by omega),List.take_set_of_le (qA5 _),h2];rfl
  by_cases hm:v.mode=0
  . have hcs:=qs1 (okE s) hm (s.p.vars.drop (i+1)) (a.take i);rw[hdr,qe6 hm]at hn;have ok1:=(ok.keep (H':=H++[.cells (qM v)]) qFX).setA ha0 i v.value;have hih:=ih (i+1) (a.set i v.value) n (by omega) (by simpa using hal) hn _ T ok1;have bV1:=ok1.fv;simp only[qM,hm]at hih bV1;rw[show(((i+1:Nat)):Int)=(i:Int)+1 by omega]at hih;simp[kA,kL,bA,bP,hS,hvi,hia',hni,hm,hset,hla,qR,bV1,hwi];refine qFs hih ?_;rintro r ⟨H1,T1⟩ ⟨hk1,a',l1,l2,ok2⟩;simp;refine⟨qFW (qFW qFX (qFY (by simp))) hk1,a',by simpa using l1,?_,?_⟩
    . have:=congrArg (List.take i) l2;rw[htk a v.value rfl rfl]at this;simpa[qEq,qCq (by omega:i<=i+1),qCq (by omega:i<=a.length)] using this
    rw[hdr,hcs]
    rwa[htk a v.value rfl rfl]at ok2
  have hcs:=qs2 (okE s) hm (s.p.vars.drop (i+1)) (a.take i);have hcl:=fun k=>qlu (okE s) (s.p.vars.drop (i+1)) (a.take i) k
  have hsu:=fun k=>qdg (okE s) (s.p.vars.drop (i+1)) (a.take i) k
  rw[hdr,qe7 hm]at hn;have hs1:=wG hvw.1 (by omega);have hNb:2^v.width.toNat<=2^20:=qBn (by omega) (by omega);have fin:EnQ B s (.ms B.AL 0 a.length 1) i a n H=fun r U'=>KpL [B.N,B.AL] H U'.H/\∃a',a'.length=a.length/\a'.take i=a.take i/\EnOk B s (.ms B.AL 0 a.length 1) a' (n+qoL (okE s) (s.p.vars.drop (i+1)) (a.take i) (2^v.width.toNat)) U'.H:=by
   funext r U';unfold EnQ;rw[hdr,hcs]
  rw[fin];generalize 2^v.width.toNat=W at *;simp[kA,kL,bA,bP,hS,hvi,hia',hni,hm,show ¬v.width<0 by omega,hs1,IntKind.bits];refine kl W (fun k ev U=>ev 0=.int .i64 i/\ev 1=.ptr B.A 0/\ev 2=.ptr B.P 0/\ev 3=.ptr B.N 0/\ev 4=.ptr B.V 0/\ev 39=.int .i64 W/\ev 40=.int .i64 k/\KpL [B.N,B.AL] H U.H/\∃a',a'.length=a.length/\a'.take i=a.take i/\EnOk B s (.ms B.AL 0 a.length 1) a' (n+qoL (okE s) (s.p.vars.drop (i+1)) (a.take i) k) U.H) ?_ ?_ ?_
  . exact⟨by simp,by simp,by simp,by simp,by simp,by simp,by simp,qFX,a,rfl,rfl,ok.keep qFX⟩
  . rintro k ev ⟨H1,T1⟩ R hR hkW ⟨e0,e1,e2,e3,e4,e39,e40,hk1,a',l1,l2,ok1⟩;have hwk:=wr (n:=(k:Int)+1) (by omega) (by omega);have hmul:(k+1)*(jH (s.p.vars.drop (i+1))).length<=W*(jH (s.p.vars.drop (i+1))).length:=qBU _ hkW;rw[qDs]at hmul;have hck:=hcl k;have ha0':a'≠[]:=fun e=>by rw[e]at l1;simp at l1;omega
    obtain⟨hsp1,bA1,bP1,bN1,bV1,hr1,-,-⟩:=id ok1;rcases hr1 with⟨h0,-⟩|⟨-,hrv1,bAL1⟩
    . exact absurd h0 ha0'
    have ok2:=ok1.setA ha0' i (k:Int);have bV2:=ok2.fv;have hih:=ih (i+1) (a'.set i (k:Int)) _ (by omega) (by simp;omega) (qBN (Nat.add_le_add_right (Nat.add_le_add_left hck n) _) (by omega)) _ T1 ok2;rw[show(((i+1:Nat)):Int)=(i:Int)+1 by omega]at hih;simp[e0,e1,e4,e39,e40,show(k:Int)<W by omega,bA1,bAL1,hia',hset,show i+1<=a'.length by omega,qR,bV2,hwi];refine qFs hih ?_;rintro r ⟨H2,T2⟩ ⟨hk2,a2,m1,m2,ok3⟩;rw[htk a' k l1 l2]at m2 ok3;simp[*];refine hR _ _ ⟨by simp[e0],by simp[e1],by simp[e2],by simp[e3],by simp[e4],by simp[e39],by simp,hk1.trans (qFW (qFY (by simp)) hk2),a2,by rw[m1,qCj,l1],?_,?_⟩
    . have:=congrArg (List.take i) m2;simpa[qEq,qCq (by omega:i<=i+1),qCq (by omega:i<=a.length)] using this
    rwa[hsu,<- qC0]
  rintro ev ⟨H1,T1⟩ ⟨e0,e1,e2,e3,e4,e39,e40,hk1,a',l1,l2,ok1⟩;simp[e39,e40];exact⟨hk1,a',l1,l2,ok1⟩
noncomputable def qwP(s:Spc):Nat:=(jH s.p.vars).countP (okE s)
def SpOk.lt{s H}(h:SpOk s H):s.S<H.length/\s.L<H.length/\s.LL<H.length:=by
 refine⟨(qAU.1 h.c).1,?_,h.b⟩;obtain⟨c,hc,_⟩:=h.w;exact(qAU.1 hc).1
def KpL.fresh{H H1 H2 bs}(h:KpL [] H H1)(h2:KpL bs H1 H2)(hB:∀b∈bs,H.length<=b):KpL [] H H2:=⟨qBN h.1 h2.1,fun k x hk _=>h2.2 k x (h.2 k x hk (by simp)) (fun hb=>by have:=(qAU.1 hk).1;have:=hB k hb;omega)⟩
def qvJ{s}(hq:VQ s.p)(hv:∀v∈s.p.vars,0<=v.width/\v.width<=20)(hRl:s.R.length<=50000)(hx:∀e∈s.R,Wen e/\hgt e<=1000/\(pre e).length<=100000)(hn:(jH s.p.vars).length<=2^24){H}(hs:SpOk s H)(T):
 qj prog GG 33 [.ptr s.S 0] ⟨H,T⟩ (fun r U'=>r=.int .i64 (qwP s:Nat)/\KpL [] H U'.H):=by
 refine qFo qg func33 rfl (by kernel_rfl) ?_;have hl:=hq.vars;obtain⟨g1,g2,g3⟩:=hs.lt;have hS:=hs.c;simp only[spE,qA,qBl,qBk]at hS;have kS:=qf hS;have hcn:qgG (okE s) s.p.vars []=qwP s:=by unfold qgG qwP;simp
 by_cases h0:s.p.vars=[]
 . have lk:∀(a b c d:Blk),(H++[a,b,c,d])[H.length]?=some a/\(H++[a,b,c,d])[H.length+1]?=some b/\(H++[a,b,c,d])[H.length+2]?=some c/\(H++[a,b,c,d])[H.length+3]?=some d:=by
    intros
    refine⟨?_,?_,?_,?_⟩<;>simp[]
   obtain⟨a0,a1,a2,a3⟩:=lk (.cells [.ptr s.S 0]) (.cells [.sl 1 [] (.chain T.length 0)]) (.cells [.int .i64 0]) (.cells [.fn 62 [] [.ptr (H.length+1) 0,.ptr H.length 0,.ptr (H.length+2) 0,.ptr (H.length+3) 0]]);have ok:EnOk ⟨H.length+1,H.length,H.length+2,H.length+3,H.length+100⟩ s (.sl 1 [] (.chain T.length 0)) [] 0 (H++[.cells [.ptr s.S 0],.cells [.sl 1 [] (.chain T.length 0)],.cells [.int .i64 0],.cells [.fn 62 [] [.ptr (H.length+1) 0,.ptr H.length 0,.ptr (H.length+2) 0,.ptr (H.length+3) 0]]]) :=
    ⟨hs.keep qFX (bs:=[]) (by simp) (by simp) (by simp),a1,a0,a2,a3,.inl ⟨rfl,1,_,rfl⟩,by dsimp only;omega,by simp;omega⟩
   have he:=qlb hq hv hRl hx _ s.p.vars.length 0 [] 0 (by omega) (by rw[h0];rfl) (by simpa using hn) _ (T++[some 0]) ok;simp[kS,h0,qG];refine qFs he ?_;rintro r ⟨H1,T1⟩ ⟨hk1,a',l1,l2,ok2⟩;have bN:=ok2.fn;simp only[qBZ,List.take_nil,hcn,qCC]at bN;simp[bN];exact KpL.fresh qFX hk1 (by simp)
 have hpos:=qBf.2 h0;have hne:¬(s.p.vars.length:Int)=0:=by omega
 have lk:∀(a b c d e:Blk),(H++[a,b,c,d,e])[H.length]?=some a/\(H++[a,b,c,d,e])[H.length+1]?=some b/\(H++[a,b,c,d,e])[H.length+2]?=some c/\(H++[a,b,c,d,e])[H.length+3]?=some d/\(H++[a,b,c,d,e])[H.length+4]?=some e:=by
  intros
  refine⟨?_,?_,?_,?_,?_⟩<;>simp[]
 obtain⟨a0,a1,a2,a3,a4⟩:=lk (.cells [.ptr s.S 0]) (.cells (List.replicate s.p.vars.length (.int .i64 0))) (.cells [.ms (H.length+1) 0 s.p.vars.length 1]) (.cells [.int .i64 0]) (.cells [.fn 62 [] [.ptr (H.length+2) 0,.ptr H.length 0,.ptr (H.length+3) 0,.ptr (H.length+4) 0]]);have ok:EnOk ⟨H.length+2,H.length,H.length+3,H.length+4,H.length+1⟩ s (.ms (H.length+1) 0 s.p.vars.length 1) (List.replicate s.p.vars.length 0) 0 (H++[.cells [.ptr s.S 0],.cells (List.replicate s.p.vars.length (.int .i64 0)),.cells [.ms (H.length+1) 0 s.p.vars.length 1],.cells [.int .i64 0],.cells [.fn 62 [] [.ptr (H.length+2) 0,.ptr H.length 0,.ptr (H.length+3) 0,.ptr (H.length+4) 0]]]) :=
  ⟨hs.keep qFX (bs:=[]) (by simp) (by simp) (by simp),a2,a0,a3,a4,.inr ⟨by simpa using h0,by simp,by rw[show ∀n,zb (List.replicate n 0)=List.replicate n (.int .i64 0) from fun n=>by simp[zb]];exact a1⟩,by dsimp only;omega,by simp;omega⟩
 have he:=qlb hq hv hRl hx _ s.p.vars.length 0 (List.replicate s.p.vars.length 0) 0 (by omega) (by simp) (by simpa using hn) _ T ok;simp[kS,h0,qG,show(s.p.vars.length:Int)<=549755813888 by omega];refine qFs he ?_;rintro r ⟨H1,T1⟩ ⟨hk1,a',l1,l2,ok2⟩;have bN:=ok2.fn;simp only[qBZ,qD0,hcn,qCC]at bN;simp[bN];exact KpL.fresh qFX hk1 (by simp)
end Go.Proofs.YtimecmegnocamaaGreatDoor
namespace Go.Abs
def qmm(b:Nat->Bool)(L:Nat)(v:Bool):Nat->Bool:=fun l=>if l=L then v else b l
def YK{d}(h:DagOk d){i L}(hi:i<d.length)(hL:L<lvD d i)(b v):evD d (qmm b L v) i=evD d b i :=
 Wn h hi fun l hl=>if_neg (by omega)
def VW{d}(h:DagOk d){i n}(h2:2<=i)(hn:d[i]?=some n)(b):evD d (qmm b n.1 false) i=evD d b n.2.1:=by
 obtain⟨g1,g2,g3,g4,g5,g6⟩:=h.node i n h2 hn;have hi:=(List.getElem?_eq_some_iff.1 hn).1;rw[QS h _ h2 hn];have:qmm b n.1 false n.1=false:=by simp[qmm]
 rw[this];exact YK h (by omega) g5 b false
def VX{d}(h:DagOk d){i n}(h2:2<=i)(hn:d[i]?=some n)(b):evD d (qmm b n.1 true) i=evD d b n.2.2:=by
 obtain⟨g1,g2,g3,g4,g5,g6⟩:=h.node i n h2 hn;have hi:=(List.getElem?_eq_some_iff.1 hn).1;rw[QS h _ h2 hn];have:qmm b n.1 true n.1=true:=by simp[qmm]
 rw[this];exact YK h (by omega) g6 b true
def qln{d}(h:DagOk d):∀(m i j),i<=m->j<=m->i<d.length->j<d.length->(∀b,evD d b i=evD d b j)->i=j:=by
 intro m
 induction m with
 |zero=>intro i j hm hm' _ _ _;omega
 | succ m ih=>
  intro i j hm hm' hi hj he
  -- a node above another one
  have above:∀(i j:Nat),i<=m+1->j<=m+1->i<d.length->j<d.length->(∀b,evD d b i=evD d b j)->lvD d i<lvD d j->False:=by
   intro i j hm hm' hi hj he hl;have h2:2<=i:=by
    apply Classical.byContradiction;intro hc;have:i=0\/i=1:=by omega
    have h1:=qf8 h j;rcases this with rfl|rfl
    . rw[qhZ h]at hl;omega
    rw[qhY h]at hl;omega
   obtain⟨n,hn⟩:∃n,d[i]?=some n:=⟨_,List.getElem?_eq_getElem hi⟩;obtain⟨g1,g2,g3,g4,g5,g6⟩:=h.node i n h2 hn;rw[zV hn]at hl;refine g4 (ih _ _ (by omega) (by omega) (by omega) (by omega) fun b=>?_);rw[<- VW h h2 hn b,<- VX h h2 hn b,he,he,YK h hj hl,YK h hj hl]
  by_cases h1:lvD d i<lvD d j
  . exact(above i j hm hm' hi hj he h1).elim
  by_cases h2:lvD d j<lvD d i
  . exact(above j i hm' hm hj hi (fun b=>(he b).symm) h2).elim
  have hll:lvD d i=lvD d j:=by omega
  by_cases hi2:2<=i
  . have hl20:=qkr h hi2 hi;have hj2:2<=j:=by
     apply Classical.byContradiction;intro hc;have:j=0\/j=1:=by omega
     rcases this with rfl|rfl
     . rw[qhZ h]at hll;omega
     rw[qhY h]at hll;omega
    obtain⟨n,hn⟩:∃n,d[i]?=some n:=⟨_,List.getElem?_eq_getElem hi⟩;obtain⟨k,hk⟩:∃k,d[j]?=some k:=⟨_,List.getElem?_eq_getElem hj⟩;obtain⟨g1,g2,g3,g4,g5,g6⟩:=h.node i n hi2 hn;obtain⟨k1,k2,k3,k4,k5,k6⟩:=h.node j k hj2 hk;rw[zV hn,zV hk]at hll;have e1:n.2.1=k.2.1:=ih _ _ (by omega) (by omega) (by omega) (by omega) fun b=>by
     rw[<- VW h hi2 hn b,<- VW h hj2 hk b,he,hll]
    have e2:n.2.2=k.2.2:=ih _ _ (by omega) (by omega) (by omega) (by omega) fun b=>by
     rw[<- VX h hi2 hn b,<- VX h hj2 hk b,he,hll]
    have e:=Prod.ext hll (Prod.ext e1 e2);subst e;exact(List.getElem?_inj hi h.nodup).1 (hn.trans hk.symm)
  by_cases hj2:2<=j
  . have hl20:=qkr h hj2 hj;have:i=0\/i=1:=by omega
    rcases this with rfl|rfl
    . rw[qhZ h]at hll;omega
    rw[qhY h]at hll;omega
  have e:=he fun _=>false
  rw[JC h _ (by omega),JC h _ (by omega)]at e;have a:i=0\/i=1:=by omega
  have b:j=0\/j=1:=by omega
  rcases a with rfl|rfl<;>rcases b with rfl|rfl<;>simp_all
def WZ(d:List Nd)(e0 e1:Int)(comb:Nd->Int->Int->Int):Nat->Nat->Int
 |0,k=>if k=0 then e0 else e1
 | m+1,k=>if k=0 then e0 else if k=1 then e1 else match d[k]? with
  |some n=>comb n (WZ d e0 e1 comb m n.2.1) (WZ d e0 e1 comb m n.2.2)
  |none=>0
def qaT(d:List Nd)(e0 e1:Int)(comb:Nd->Int->Int->Int)(k:Nat):Int:=WZ d e0 e1 comb (k+1) k
def YF{d}(h:DagOk d){e0 e1 comb}:∀(m m' k),k<m->k<m'->WZ d e0 e1 comb m k=WZ d e0 e1 comb m' k
 |0,_,k,hk,_=>by omega
 |m+1,0,k,_,hk=>by omega
 | m+1,m'+1,k,h1,h2=>by
  by_cases hk2:2<=k
  . unfold WZ;rw[if_neg (by omega),if_neg (by omega),if_neg (by omega),if_neg (by omega)]
    cases hn:d[k]? with
    |none=>rfl
    | some n=>
     obtain⟨g1,g2,g3,-⟩:=h.node k n hk2 hn;dsimp only;rw[YF h m m' _ (by omega) (by omega),YF h m m' n.2.2 (by omega) (by omega)]
  have:k=0\/k=1:=by omega
  rcases this with rfl|rfl<;>simp[WZ]
def qkX{d e0 e1 comb}:qaT d e0 e1 comb 0=e0:=by simp[qaT,WZ]
def qkW{d e0 e1 comb}:qaT d e0 e1 comb 1=e1:=by simp[qaT,WZ]
def wY{d}(h:DagOk d){e0 e1 comb k n}(h2:2<=k)(hn:d[k]?=some n):qaT d e0 e1 comb k=comb n (qaT d e0 e1 comb n.2.1) (qaT d e0 e1 comb n.2.2):=by
 obtain⟨g1,g2,g3,-⟩:=h.node k n h2 hn;unfold qaT;rw[WZ,if_neg (by omega),if_neg (by omega),hn];dsimp only;rw[YF h k (n.2.1+1) _ (by omega) (by omega),YF h k (n.2.2+1) n.2.2 (by omega) (by omega)]
def Z7(n:Nd)(lo hi:Int):Int:=max (max (n.1:Int) lo) hi
def yM(d:List Nd)(k:Nat):Int:=qaT d (-1) (-1) Z7 k
def qsV{d}(h:DagOk d)(N):∀(m k),k<m->k<d.length->(∀b c:Nat->Bool,(∀l,l<N->b l=c l)->evD d b k=evD d c k)->yM d k<N:=by
 intro m
 induction m with
 |zero=>intro k hk;omega
 | succ m ih=>
  intro k hkm hk hb;by_cases h2:2<=k
  . obtain⟨n,hn⟩:∃n,d[k]?=some n:=⟨_,List.getElem?_eq_getElem hk⟩;obtain⟨g1,g2,g3,g4,g5,g6⟩:=h.node k n h2 hn;have hlv:n.1<N:=by
     apply Classical.byContradiction;intro hc;refine g4 (qln h (n.2.1+n.2.2) _ _ (by omega) (by omega) (by omega) (by omega) fun b=>?_);rw[<- VW h h2 hn b,<- VX h h2 hn b];refine hb _ _ fun l hl=>?_
     unfold qmm;rw[if_neg (by omega),if_neg (by omega)]
    have l1:=ih n.2.1 (by omega) (by omega) fun b c hbc=>by
     rw[<- VW h h2 hn b,<- VW h h2 hn c];refine hb _ _ fun l hl=>?_
     unfold qmm;split
     . rfl
     exact hbc l hl
    have l2:=ih n.2.2 (by omega) (by omega) fun b c hbc=>by
     rw[<- VX h h2 hn b,<- VX h h2 hn c];refine hb _ _ fun l hl=>?_
     unfold qmm;split
     . rfl
     exact hbc l hl
    unfold yM at *;rw[wY h h2 hn];unfold Z7 at *;omega
  unfold yM;have:k=0\/k=1:=by omega
  rcases this with rfl|rfl
  . rw[qkX];omega
  rw[qkW];omega
def V0(d:List Nd):Nat->Nat->Nat->Nat
 |_,0,k=>if k=1 then 1 else 0
 |l,m+1,k=>V0 d (l+1) m (yl d k l false)+V0 d (l+1) m (yl d k l true)
def VN{d k l}(h:l<lvD d k)(v):yl d k l v=k:=by
 unfold yl;unfold lvD at h
 cases hn:d[k]? with
 |none=>rfl
 | some n=>
  rw[hn]at h;dsimp only at h⊢;rw[if_neg (by omega)]
def qdi{d k}:∀(j l m),l+j<=lvD d k->j<=m->V0 d l m k=V0 d (l+j) (m-j) k*2^j
 |0,l,m,_,_=>by simp
 |j+1,l,0,_,h=>by omega
 | j+1,l,m+1,h,hj=>by
  rw[V0,VN (by omega),VN (by omega),qdi j (l+1) m (by omega) (by omega),show l+1+j=l+(j+1) by omega,show m+1-(j+1)=m-j by omega,Nat.pow_succ];generalize V0 d (l+(j+1)) (m-j) k=x;rw[<- Nat.mul_assoc,Nat.mul_two]
def qba(d):∀(m l k),V0 d l m k<=2^m
 |0,l,k=>by unfold V0;split<;>simp
 | m+1,l,k=>by
  have h1:=qba d m (l+1) (yl d k l false);have h2:=qba d m (l+1) (yl d k l true);rw[V0,Nat.pow_succ];omega
def qdA:Nat->List (List Bool)
 |0=>[[]]
 |n+1=>(qdA n).map (false::·)++(qdA n).map (true::·)
def YR:∀{n:Nat}{l:List Bool},l∈qdA n↔l.length=n
 |0,l=>by simp[qdA]
 |n+1,[]=>by simp[qdA]
 | n+1,b::l=>by
  cases b<;>simp[qdA,YR]
def V8:∀n,(qdA n).Nodup
 |0=>by simp[qdA]
 | n+1=>by
  have h:=V8 n;rw[qdA,List.nodup_append];refine⟨?_,?_,?_⟩
  . exact List.Pairwise.map _ (fun a b hab e=>hab (List.cons.inj e).2) h
  . exact List.Pairwise.map _ (fun a b hab e=>hab (List.cons.inj e).2) h
  intro a ha b hb e;obtain⟨x,-,rfl⟩:=List.mem_map.1 ha;obtain⟨y,-,rfl⟩:=List.mem_map.1 hb;cases e
def qql(l:List Bool):Nat->Bool:=fun i=>l.getD i false
def qlm{d:List Nd}(h:DagOk d){k N l:Nat}(hk:k<d.length)(hd:yM d k<N)(v:Bool):yM d (yl d k l v)<N:=by
 unfold yl;have hn:=List.getElem?_eq_getElem hk;rw[hn];dsimp only;split
 . rename_i hl;by_cases h2:2<=k
   . unfold yM at *;rw[wY h h2 hn]at hd;unfold Z7 at *;split<;>omega
   have:k=0\/k=1:=by omega
   rcases this with rfl|rfl
   . have e:=h.n0;rw[hn]at e;rw[Option.some.inj e];simp;exact hd
   have e:=h.n1;rw[hn]at e;rw[Option.some.inj e];simp;exact hd
 exact hd
def qll{d:List Nd}(h:DagOk d){k N:Nat}(h2:2<=k)(hk:k<d.length)(hd:yM d k<N):lvD d k<N:=by
 have hn:=List.getElem?_eq_getElem hk;unfold yM at hd;rw[wY h h2 hn]at hd;rw[zV hn];unfold Z7 at hd;omega
def qdh{d}(h:DagOk d):∀(m l k) (pre),pre.length=l->l+m<=20->k<d.length->l<=lvD d k->yM d k<(l+m:Nat)->V0 d l m k=(qdA m).countP fun s=>evD d (qql (pre++s)) k
 | 0,l,k,pre,hp,hlm,hk,hl,hd=>by
  have hk2:¬2<=k:=fun h2=>by have:=qll h h2 hk hd;omega
  unfold V0;simp only[qdA,List.countP_singleton,List.append_nil];rw[JC h _ (by omega)];by_cases h1:k=1
  . simp[h1]
  simp[h1]
 | m+1,l,k,pre,hp,hlm,hk,hl,hd=>by
  have half:∀v:Bool,V0 d (l+1) m (yl d k l v)=((qdA m).map (v::·)).countP fun s=>evD d (qql (pre++s)) k:=fun v=>by
   obtain⟨a1,a2,a3⟩:=kj h hk (by omega:l<20) hl v;rw[qdh h m (l+1) (yl d k l v) (pre++[v]) (by simp[hp]) (by omega) a1 (by omega) (by have:=qlm h hk hd (l:=l) v;omega),List.countP_map];congr 1;funext s;simp only[Function.comp_apply];rw[List.append_assoc,List.singleton_append];exact(a3 _ (by unfold qql;rw[List.getD_eq_getElem?_getD,List.getElem?_append_right (by omega),hp,Nat.sub_self];rfl)).symm
  rw[V0,half,half,qdA,List.countP_append]
def qoM{d}(h:DagOk d){n k:Nat}(hn:n<=20)(hk:k<d.length)(hd:yM d k<n):V0 d 0 n k=(qdA n).countP fun s=>evD d (qql s) k:=by
 have:=qdh h n 0 k [] rfl (by omega) hk (Nat.zero_le _) (by omega);simpa using this
def ve(d:List Nd)(n k:Nat):Nat:=min (lvD d k) n
def YN(d:List Nd)(n k:Nat):Nat:=V0 d (ve d n k) (n-ve d n k) k
def qvR{d}(h:DagOk d){n}(hn:n<=20):YN d n 0=0:=by
 have:ve d n 0=n:=by unfold ve;rw[qhZ h];omega
 unfold YN;rw[this,Nat.sub_self];rfl
def qvQ{d}(h:DagOk d){n}(hn:n<=20):YN d n 1=1:=by
 have:ve d n 1=n:=by unfold ve;rw[qhY h];omega
 unfold YN;rw[this,Nat.sub_self];rfl
def Wy{d n k l}(hl:l<=ve d n k):V0 d l (n-l) k=YN d n k*2^(ve d n k-l):=by
 unfold YN;have h1:ve d n k<=lvD d k:=Nat.min_le_left _ _;have h2:ve d n k<=n:=Nat.min_le_right _ _;rw[qdi (ve d n k-l) l (n-l) (by omega) (by omega),show l+(ve d n k-l)=ve d n k by omega,show n-l-(ve d n k-l)=n-ve d n k by omega]
def qdf{d}(h:DagOk d){n k:Nat}{x}(hn:n<=20)(h2:2<=k)(hx:d[k]?=some x)(hd:yM d k<n):
 x.1<n/\x.1+1<=ve d n x.2.1/\x.1+1<=ve d n x.2.2/\yM d x.2.1<n/\yM d x.2.2<n/\YN d n k=YN d n x.2.1*2^(ve d n x.2.1-(x.1+1))+YN d n x.2.2*2^(ve d n x.2.2-(x.1+1)):=by
 have hk:=(List.getElem?_eq_some_iff.1 hx).1;obtain⟨g1,g2,g3,g4,g5,g6⟩:=h.node k x h2 hx;have hl:=qll h h2 hk hd;rw[zV hx]at hl;have e1:x.1+1<=ve d n x.2.1:=by unfold ve;omega
 have e2:x.1+1<=ve d n x.2.2:=by unfold ve;omega
 have hd':=hd;unfold yM at hd';rw[wY h h2 hx]at hd';unfold Z7 at hd';refine⟨hl,e1,e2,by unfold yM Z7;omega,by unfold yM Z7;omega,?_⟩;rw[<- Wy e1,<- Wy e2];unfold YN;rw[show ve d n k=x.1 by unfold ve;rw[zV hx];omega,show n-x.1=(n-(x.1+1))+1 by omega,V0];rw[show yl d k x.1 false=x.2.1 by unfold yl;rw[hx];simp,show yl d k x.1 true=x.2.2 by unfold yl;rw[hx];simp]
def qlt(d n k):YN d n k<=2^(n-ve d n k):=qba d _ _ _
end Go.Abs
namespace Go.Proofs.YtimecmegnocamaaGreatDoor
open Go Go.Abs Proofs.Tryz Go.RowKit
def V9:∀vs:List Var,(jH vs).Nodup
 |[]=>by simp[jH]
 | v::vs=>by
  have ih:=V9 vs;have hc:∀x:Int,((jH vs).map (x::·)).Nodup:=fun x=>qD5.2 (ih.imp fun h e=>h (List.cons.inj e).2)
  by_cases h:v.mode=0
  . rw[WH h];exact hc _
  rw[WI h];refine List.pairwise_flatMap.2 ⟨fun n _=>hc _,(List.nodup_range (n:=zU v)).imp fun {a b} hab x hx y hy e=>?_⟩;obtain⟨x',-,rfl⟩:=qBj.1 hx;obtain⟨y',-,rfl⟩:=qBj.1 hy;have:=(List.cons.inj e).1;exact hab (by omega)
def qwh{p}:∀(l) (x),x<LW p l->∃k i,l[k]?=some i/\LW p (l.take k)<=x/\x<LW p (l.take k)+jO p i
 |[],x,h=>by simp[LW]at h
 | i::l,x,h=>by
  by_cases hx:x<jO p i
  . exact⟨0,i,rfl,by simp[LW],by simpa[LW] using hx⟩
  have h2:LW p (i::l)=jO p i+LW p l:=by simp[LW]
  obtain⟨k,j,h3,h4,h5⟩:=qwh (p:=p) l (x-jO p i) (by omega);refine⟨k+1,j,by simpa using h3,?_,?_⟩
  . rw[qCt,show LW p (i::l.take k)=jO p i+LW p (l.take k) by simp[LW]];omega
  rw[qCt,show LW p (i::l.take k)=jO p i+LW p (l.take k) by simp[LW]];omega
def qtn{p l k i}(h:l[k]?=some i):LW p (l.take k)+jO p i<=LW p l:=by
 have e:l=l.take k++i::l.drop (k+1):=by
  obtain⟨h1,h2⟩:=qAU.1 h;have:=qBF k l;rw[qA9 h1,h2]at this;exact this.symm
 have:=congrArg (LW p) e;rw[qgV,show LW p (i::l.drop (k+1))=jO p i+LW p (l.drop (k+1)) by simp[LW]]at this;omega
def V7{p}(hv:qo p=0){b c}(h:∀l,l<LW p (NG p).flatten->b l=c l):QV p.vars (qS p) b=QV p.vars (qS p) c:=by
 have hl:=fun b=>(wc.1 (qbh hv b)).len
 apply qB2;intro i;by_cases hi:i<p.vars.length
 . obtain⟨v,hvi⟩:∃v,p.vars[i]?=some v:=⟨_,qAW hi⟩;by_cases hm:v.mode=0
   . rw[qbg b hvi hm,qbg c hvi hm]
   rw[vH hv b hvi hm,vH hv c hvi hm];obtain⟨k,hk⟩:=qBB (qas hv hvi hm);have e:Yu p b i=Yu p c i:=Vc fun j hj=>h _ (by
    rw[qcD hv hk];have:=qtn (p:=p) hk;omega)
   rw[e]
 rw[qBs (by rw[hl];omega),qBs (by rw[hl];omega)]
def qo5{p}(hv:qo p=0){b c}(h:QV p.vars (qS p) b=QV p.vars (qS p) c):∀l,l<LW p (NG p).flatten->b l=c l:=by
 intro l hl;obtain⟨k,i,hk,h1,h2⟩:=qwh _ l hl;obtain⟨v,hvi,hm⟩:=kE hv (qAV hk);have e1:=vH hv b hvi hm;rw[h,vH hv c hvi hm]at e1;have e2:Yu p b i=Yu p c i:=by
  have:=Option.some.inj e1;omega
 have hl:=qcD hv hk;have f1:=Y5 e2 (j:=l-Js (qS p) i) (by omega);have f2:=Y5 (rfl:Yu p c i=Yu p c i) (j:=l-Js (qS p) i) (by omega);rw[show Js (qS p) i+(l-Js (qS p) i)=l by omega]at f1 f2;rw[f1,f2]
def qoX(n b){l}(hl:l<n):qql ((List.range n).map b) l=b l:=by
 unfold qql;rw[qA8,qBp,qEl hl];rfl
def qbf{p}(hv:qo p=0):((qdA (LW p (NG p).flatten)).map fun s=>QV p.vars (qS p) (qql s)).Perm (jH p.vars):=by
 refine(List.perm_ext_iff_of_nodup ?_ (V9 _)).2 fun a=>?_
 . refine qD5.2 (List.Pairwise.imp_of_mem (fun {s t} hs ht hst e=>hst ?_) (V8 _));have ls:=YR.1 hs;have lt:=YR.1 ht;apply qB2;intro i;by_cases hi:i<LW p (NG p).flatten
   . have:=qo5 hv e i hi;unfold qql at this;rw[qA8,qA8]at this;rw[qAW (by omega),qAW (by omega)]at this⊢;exact congrArg some (by simpa using this)
   rw[qBs (by omega),qBs (by omega)]
 constructor
 . intro h;obtain⟨s,-,rfl⟩:=qBj.1 h;exact qbh hv _
 intro h;obtain⟨b,hb,-⟩:=qdu hv h;refine qBj.2 ⟨(List.range (LW p (NG p).flatten)).map b,YR.2 (by simp),?_⟩;rw[<- hb];exact V7 hv fun l hl=>qoX _ b hl
noncomputable def qtv(p:Problem)(R:List Ex):Nat:=(jH p.vars).countP (yD p.vars R)
def qoK{p}(hv:qo p=0){R d}(hd:DagOk d){root}(hr:root<d.length)(hroot:∀b,evD d b root=yD p.vars R (QV p.vars (qS p) b)):
 yM d root<LW p (NG p).flatten/\V0 d 0 (LW p (NG p).flatten) root=qtv p R:=by
 have h1:yM d root<LW p (NG p).flatten:=qsV hd _ (root+1) root (by omega) hr fun b c hbc=>by rw[hroot,hroot,V7 hv hbc]
 refine⟨h1,?_⟩;rw[qoM hd (qmg hv) hr h1];unfold qtv;rw[<- (qbf hv).countP_eq,qEg];congr 1;funext s;simp[hroot]
def qrc{s}(hv:qo s.p=0){a}(ha:a∈jH s.p.vars):okE s a=yD s.p.vars s.R a:=by
 unfold okE yD;have has:=WG hv ha;rw[qBP,qA3,qA3];refine⟨fun h e he=>?_,fun h e he=>qaY hv (by simpa using h e he) has⟩;have:=h e he;unfold yi at this;simp at this;simpa using this.2
def qki{s}(hv:qo s.p=0):qwP s=qtv s.p s.R:=List.countP_congr fun a ha=>by rw[qrc hv ha]
def qbo:∀n,(qdA n).length=2^n
 |0=>rfl
 |n+1=>by rw[qdA,qAY,qBA,qBA,qbo n,qCi];omega
def qmh{p}(hv:qo p=0)(hl:p.vars.length<=1000):(LW p (NG p).flatten:Int)=wh p.vars (qQ p):=by
 obtain⟨h1,h2⟩:=YQ hv hl;have h3:=(qbf hv).length_eq;rw[qBA,qbo,h2]at h3;have:LW p (NG p).flatten=(p.vars.map qlN).sum:=by
  rcases Nat.lt_trichotomy (LW p (NG p).flatten) (p.vars.map qlN).sum with h|h|h
  . have:=Nat.pow_lt_pow_right (by decide:1<2) h;omega
  . exact h
  have:=Nat.pow_lt_pow_right (by decide:1<2) h;omega
 rw[h1,this]
def qsA(n a b H T):qj prog GG 109 [.agg (qN n),.int .i64 a,.int .i64 b] ⟨H,T⟩ (fun r U'=>r=.int .i64 (Z7 n a b)/\KpL [] H U'.H):=by
 refine⟨by kernel_rfl,fun w0 ro0 K w vs hw hvs=>?_⟩;simp only[ql,qk,qN]at hvs;obtain⟨v0,vr,e0,⟨cs,rfl,c0,cr,e1,rfl,c1,cr1,rfl,rfl,c2,cr2,rfl,rfl,rfl⟩,v1,vr1,rfl,rfl,v2,vr2,rfl,rfl,rfl⟩:=hvs;have ecs:cs = #[.int .i64 n.1,.int .i64 n.2.1,.int .i64 n.2.2]:=by apply Array.ext';simpa using e1
 subst ecs;have evs:vs = #[.agg #[.int .i64 n.1,.int .i64 n.2.1,.int .i64 n.2.2],.int .i64 a,.int .i64 b]:=by apply Array.ext';simpa using e0
 subst evs
 go_enter func109,Tryz.ntmps109
 go_wp2
 have hmax:∀W:World,Sem.run prog (Builtin.max_ #[3,3,3] 3 #[.int .i64 n.1,.int .i64 a,.int .i64 b]) W=.ok (.int .i64 (Z7 n a b)) W:=fun W=>by
  have e:(if b > (if a > (n.1:Int) then a else(n.1:Int)) then b else(if a > (n.1:Int) then a else(n.1:Int)))=Z7 n a b:=by
   unfold Z7;split<;>split<;>omega
  rw[<- e];simp[Builtin.max_,Builtin.max2]
 rw[hmax];simp only[Result.andThen];rw[Oper.upon_value]
 go_wp2
 have hw3:=hw.push (b:=.cells [.int .i64 n.1,.int .i64 n.2.1,.int .i64 n.2.2]) (o:=.cells #[.int .i64 n.1,.int .i64 n.2.1,.int .i64 n.2.2] 159) ⟨_,159,rfl,by simp,by simp,fun i a e=>by
  match i,e with
  |0,e=>simp at e;subst e;exact⟨_,rfl,by simp[qk]⟩
  |1,e=>simp at e;subst e;exact⟨_,rfl,by simp[qk]⟩
  |2,e=>simp at e;subst e;exact⟨_,rfl,by simp[qk]⟩
  |i+3,e=>simp at e⟩
 simp only[bodyPost];refine⟨trivial,.int .i64 (Z7 n a b),by simp[results,Tryz.results109,go_sem],.inl ⟨_,.int .i64 (Z7 n a b),_,_,rfl,qFC hw w.heap.size _,hw3,by simp[qk],rfl,qFX⟩⟩
def qcI{n i w}:∀{l:List Dist},(jc n l)[i]?=some (some w)->∃d∈l,d.var.toNat=i/\d.weights=w:=by
 intro l
 induction hn:l.length generalizing l with
 | zero=>
  have:=qA6 hn;subst this;intro h;simp[jc]at h;have:=qDd (qAV h);cases this
 | succ k ih=>
  obtain⟨d,x,rfl⟩:∃d x,l=d++[x]:=⟨l.dropLast,l.getLast (by rintro rfl;simp at hn),(qB9 _).symm⟩;intro h;rw[KP]at h;by_cases hi:x.var.toNat=i
  . have hl:x.var.toNat<(jc n d).length:=by
     have:=(qAU.1 h).1;rw[qCj]at this;omega
    subst hi;rw[qA0 hl]at h;simp at h;exact⟨x,by simp,rfl,h⟩
  rw[qAX hi]at h;obtain⟨y,hy,h1,h2⟩:=ih (by simpa using hn) h;exact⟨y,by simp[hy],h1,h2⟩
def Jm:∀(l) (s),(zN l s).2=0->∃m:Nat,(zN l s).1=m/\s∣m/\∀w∈l,w.each≠true->wsz w∣m
 |[],s,_=>⟨s,rfl,Nat.dvd_refl _,by simp⟩
 | w::r,s,h=>by
  unfold zN at h⊢;by_cases he:w.each=true
  . rw[if_pos he]at h⊢;obtain⟨m,h1,h2,h3⟩:=Jm r s h;refine⟨m,h1,h2,fun x hx hne=>?_⟩;rcases qBt.1 hx with rfl|hx
    . exact absurd he hne
    exact h3 x hx hne
  rw[if_neg he]at h⊢;by_cases hl:Nat.lcm s (wsz w)<9223372036854775808
  . rw[if_pos hl]at h⊢;obtain⟨m,h1,h2,h3⟩:=Jm r _ h;refine⟨m,h1,Nat.dvd_trans (Nat.dvd_lcm_left _ _) h2,fun x hx hne=>?_⟩;rcases qBt.1 hx with rfl|hx
    . exact Nat.dvd_trans (Nat.dvd_lcm_right _ _) h2
    exact h3 x hx hne
  rw[if_neg hl]at h;cases h
def qdM{l v}(hp:vO l v=true)(h:(zW l v).2=0):1<=(zW l v).1:=by
 unfold zW at h⊢;split at h
 . exact absurd h (by assumption)
 rename_i h1;split at h
 . exact absurd h (by assumption)
 rename_i h2;rw[if_neg h1,if_neg h2];obtain⟨hw,_,_⟩:=vV (qB1.1 h1);have hs:=kg l 1 hw (by omega) (by omega);obtain⟨m,m1,_,m3⟩:=Jm l 1 (qB1.1 h2);have hm0:0<m:=by
  rcases hs with⟨_,h3,_⟩|h3
  . rw[m1]at h3;omega
  rw[h3]at h2;exact absurd (show((3:Int))≠0 by decide) h2
 rw[m1]at h⊢;rw[show((m:Int)).toNat=m by omega]at h⊢;unfold vP at h⊢;have ho:J1 l v=l.find? (inW v):=rfl;unfold vO at hp;rw[<- ho]at hp
 cases hO:J1 l v with
 |none=>rw[hO]at hp;cases hp
 | some w=>
  rw[hO]at hp h;dsimp only at hp h⊢;have hwp:=of_decide_eq_true hp;have hwm:=qEH hO;have hwl:=hw w hwm;by_cases he:w.each=true
  . rw[if_pos he]at h⊢;unfold J6 at h⊢;split at h
    . rename_i hlt;rw[if_pos hlt];have:0<w.weight.toNat*m:=qDF (by omega) hm0;dsimp only;omega
    cases h
  rw[if_neg he]at h⊢;unfold J6 at h⊢;split at h
  . rename_i hlt;rw[if_pos hlt];have hd:=qD8 (qDn hm0 (m3 w hwm he)) (YT hwl.2.1);have:0<w.weight.toNat*(m/wsz w):=qDF (by omega) hd;dsimp only;omega
  cases h
def qqB{l v}(hp:vO l v=true):0<wtO (some l) v:=by
 unfold wtO;dsimp only;split
 . unfold lim;omega
 rename_i h;have:=qdM hp (qB1.1 h);exact qDj fun e=>by
  rw[Zf]at e;omega
def qpo{p}(hv:qo p=0){b}(hb:b∈jH p.vars)(hs:∀e∈zy p,jz (yo p.vars b) e≠0){i}(hi:i∈(NG p).flatten):0<wtP p i (aN b i)/\aN b i<2^jO p i/\b[i]?=some (aN b i:Int):=by
 obtain⟨v,hv',hm⟩:=kE hv hi;obtain⟨x,hx,hc⟩:=wy (wc.1 hb) hv';rw[if_neg hm]at hc;have hax:aN b i=x.toNat:=by unfold aN;rw[qA8,hx];rfl
 have hxx:((aN b i:Nat):Int)=x:=by rw[hax];omega
 refine⟨?_,?_,by rw[hxx];exact hx⟩
 . unfold wtP;obtain⟨o,ho⟩:∃o,(jc p.vars.length p.dists)[i]?=some o:=⟨_,qAW (by rw[ye];exact(qAU.1 hv').1)⟩;rw[qA8,ho]
   cases o with
   |none=>exact Nat.one_pos
   | some w=>
    obtain⟨d,hd,hdv,hdw⟩:=qcI ho;have hsup:vM p.vars d∈zy p:=by
     unfold zy jF wk;rw[if_pos hv];exact qCl _ (qBj.2 ⟨d,hd,rfl⟩)
    have hev:=(qaZ (hs _ hsup)).2;have hse:vM p.vars d=kf v.name (QH (Zz v w)):=by
     unfold vM;rw[hdv,hv',hdw]
    rw[hse]at hev;have hmem:=(qhh _ _ _).1 hev;rcases qsE hv hb hv' hx with⟨hf,_⟩|h0
    . rw[hf]at hmem;have:=(qCc.1 hmem).2;rw[hxx];exact qqB this
    exact absurd h0 hm
 have:=(qqL hv hv').1;rw[this,hax];unfold zU at hc;omega
def qfm{p R val}:∀(g) (c),(∀i∈g,val i<2^jO p i)->jR p val g*(if okC p R (c++g.map fun i=>(i,val i))=true then 1 else 0)<=wj p R (fun _=>none) g c
 | [],c,_=>by
  unfold wj jR;simp
 | i::r,c,h=>by
  have ih:=qfm (p:=p) (R:=R) r (c++[(i,val i)]) fun k hk=>h k (by simp[hk])
  unfold wj jR;rw[qBE]at ih;have hm:val i∈List.range (2^jO p i):=qCd.2 (h i (by simp));have:=qjj (f:=fun v=>wtP p i v*wj p R (fun _=>none) r (c++[(i,v)])) hm;refine qBN ?_ this;rw[qCb];exact qEm _ ih
def YB{p val}:∀{g:List Nat},(∀i∈g,0<wtP p i (val i))->0<jR p val g
 |[],_=>Nat.one_pos
 |i::r,h=>qDF (h i (by simp)) (YB fun k hk=>h k (by simp[hk]))
