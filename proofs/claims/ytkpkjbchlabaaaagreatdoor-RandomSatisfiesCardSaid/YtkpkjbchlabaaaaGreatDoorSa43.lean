/- A part of the proof. -/
import Derived.Test.YtkpkjbchlabaaaaGreatDoorSa42
set_option maxHeartbeats 16000000
set_option linter.unusedVariables false
set_option linter.unusedSimpArgs false
set_option maxRecDepth 100000
set_option linter.defProp false
section
namespace Go.Proofs.YtkpkjbchlabaaaaGreatDoor
open Go Go.Abs
def qjH {α:Type}(sz:Nat)(en:α->List AV)(s:List α):AV:=match s with
 | []=>.sl 0 [] .nil
 | a::r=>.sl sz ((a::r).map en) (.chain 0 (r.length+1))
def qkQ {α:Type}(s:List α):List (Option Nat):=match s with
 | []=>[]
 | _::r=>[some (r.length+1)]
theorem qkT {α:Type}{sz:Nat}{en:α->List AV}(s:List α)(H:List Blk)(hn:∀ x,qv (en x)=true):qR (fin H (qjH sz en s))=true/\Leq (fin H (qjH sz en s)) (.sl sz (s.map en) .none):=by
 cases s with
 | nil=>simp[qjH,Leq]
 | cons a r=>
  have h:=zy hn (a::r);refine⟨?_,Leq.sl rfl⟩;simpa[qjH] using h
theorem env16 (p:Problem)(a:List Int)(hl:p.vars.length<=1000)(ha:Fits a):Pure Tryz.prog GG 41 [.agg (qE p),.sl 1 (a.map qt) .none] (.sl 2 ((kQ p.vars a).map qY) .none):=by
 refine Pure.vc qe Tryz.func41 rfl (by kernel_rfl) ?_;by_cases hlen:a.length=p.vars.length
 . rw[ZG,if_pos hlen];have hE:=yy hlen;simp[hlen];refine qy.intro (fun n ev U=>∃ i tl,i<=p.vars.length/\n=p.vars.length-i/\ev 1=.sl 1 (a.map qt) .none/\ev 5=qjH 2 qY ((wV p.vars a).take i)/\ev 15=.sl 4 (p.vars.map qA) .none/\ev 16=.int .i64 p.vars.length/\ev 17=.int .i64 i/\U=⟨tl,qkQ ((wV p.vars a).take i)⟩) p.vars.length ⟨0,_,by simp,by simp,by simp,by simp[qjH],by simp,by simp,by simp,by simp[qkQ];rfl⟩ ?_;rintro n ev U ⟨i,tl,hi,rfl,h1,h5,h15,h16,h17,rfl⟩
   cases hv:p.vars[i]? with
   | some v=>
    obtain⟨hc,hv'⟩:=qqc.1 hv;have hca:i<a.length:=(by omega);obtain⟨x,hx⟩:∃ x,a[i]?=some x:=⟨_,qqe hca⟩;have hx':=(qqc.1 hx).2;have ht:(wV p.vars a).take (i+1)=(wV p.vars a).take i++[⟨v.name,x⟩]:=by
     rw[qqH,v7 hv hx];rfl
    have hRl:((wV p.vars a).take i).length<=1000:=(by simp;omega);generalize hR:(wV p.vars a).take i=R at h5 ht hRl ⊢
    cases R with
    | nil=>
     simp only[qjH]at h5;simp[h1,h5,h15,h16,h17,hc,hca,hv',hx',qqx,qkQ,zn,zS,qF,qO,qk,qu,zL,zj];exact⟨_,by omega,i+1,by omega,rfl,by rw[ht];simp[qjH],wr (by omega) (by omega),by rw[ht];simp⟩
    | cons b r=>
     have hb:r.length<=549755813886:=(by simp at hRl;omega);simp only[qjH]at h5;simp[h1,h5,h15,h16,h17,hc,hca,hv',hx',qqx,qkQ,zn,zS,qF,qO,qk,qu,zL,zj,hb];exact⟨_,by omega,i+1,by omega,rfl,by rw[ht];simp[qjH],wr (by omega) (by omega),by rw[ht];simp⟩
   | none=>
    have hc:¬ i<p.vars.length:=(by simp at hv;omega);rw[qqk (by omega)]at h5 ⊢;have he:=qkT (sz:=2) (en:=qY) (wV p.vars a) tl (fun x=>by simp);simp[h1,h5,h15,h16,h17,hc];exact he
 . rw[ZG,if_neg hlen];have hlen':¬ (a.length:Int)=p.vars.length:=(by omega);simp[hlen,hlen',Leq]
theorem qgq {l:List Var}{a:List Int}{i:Nat}{v:Var}{x:Int}(h:l[i]?=some v)(h':a[i]?=some x):(l.zip a)[i]?=some (v,x):=(qrO (z:=(v,x))).2 ⟨h,h'⟩
theorem qdc {l:List Var}{a:List Int}(h:¬ a.length=l.length):qH l a=false:=by simp[qH,h]
theorem qbL {l:List Var}{a:List Int}{i:Nat}{v:Var}{x:Int}(h:l[i]?=some v)(h':a[i]?=some x)(hb:z5 (v,x)=false):qH l a=false:=by
 unfold qH;rw[qju (qqd (qgq h h')) hb,qsY]
theorem VG {l:List Var}{a:List Int}{i:Nat}(hlen:a.length=l.length)(hi:l.length<=i)(hz:∀ q∈(l.zip a).take i,z5 q=true):qH l a=true:=by
 unfold qH;rw[decide_eq_true hlen,qrg];exact VS (by simp;omega) hz
theorem qfb {v:Var}(h:jH v=0):1<=v.width/\v.width<=8:=(zd h).2
theorem qji (p:Problem)(a:List Int)(hl:p.vars.length<=1000)(ha:Fits a)(hv:∀ v∈p.vars,jH v=0):Pure Tryz.prog GG 39 [.agg (qE p),.sl 1 (a.map qt) .none] (.bool (qH p.vars a)):=by
 refine Pure.vc qe Tryz.func39 rfl (by kernel_rfl) ?_;by_cases hlen:a.length=p.vars.length
 . generalize hr:qH p.vars a=r;simp[hlen];refine qy.intro (fun n ev U=>∃ i tl,i<=p.vars.length/\n=p.vars.length-i/\ev 1=.sl 1 (a.map qt) .none/\ev 14=.sl 4 (p.vars.map qA) .none/\ev 15=.int .i64 p.vars.length/\ev 16=.int .i64 i/\U=⟨tl,[]⟩/\∀ q∈(p.vars.zip a).take i,z5 q=true) p.vars.length ⟨0,_,by simp,by simp,by simp,by simp,by simp,by simp,rfl,by simp⟩ ?_;rintro n ev U ⟨i,tl,hi,rfl,h1,h14,h15,h16,rfl,hz⟩
   cases hvi:p.vars[i]? with
   | some v=>
    obtain⟨hc,hv'⟩:=qqc.1 hvi;have hca:i<a.length:=(by omega);obtain⟨x,hx⟩:∃ x,a[i]?=some x:=⟨_,qqe hca⟩;have hx':=(qqc.1 hx).2;obtain⟨w1,w8⟩:=qfb (hv v (qqd hvi));have hs:IntKind.i64.wrap (2 ^ min v.width.toNat IntKind.i64.bits)=2 ^ v.width.toNat:=shl1 w1 w8;have hw0:¬ v.width<0:=(by omega);have bad:z5 (v,x)=false->r=false:=fun hb=>by rw[<- hr];exact qbL hvi hx hb
    have good:z5 (v,x)=true->∀ q∈(p.vars.zip a).take (i+1),z5 q=true:=fun hg=>zb (p:=fun q=>z5 q=true) (qgq hvi hx) hz hg
    by_cases c1:x<0
    . rw[bad (by simp only[z5];rw[decide_eq_false (by omega:¬ 0<=x)];rfl)];simp[h1,h14,h15,h16,hc,hca,hv',hx',qqx,c1]
    by_cases c2:(2:Int) ^ v.width.toNat<=x
    . rw[bad (by simp only[z5];rw[decide_eq_false (by omega:¬ x<2 ^ v.width.toNat)];simp)];simp[h1,h14,h15,h16,hc,hca,hv',hx',qqx,c1,hs,hw0,c2]
    by_cases c3:v.mode=0
    . by_cases c4:x=v.value
      . have g:=good (by simp only[z5];rw[decide_eq_true (by omega:0<=x),decide_eq_true (by omega:x<2 ^ v.width.toNat),decide_eq_true c4];simp);subst c4;simp[h1,h14,h15,h16,hc,hca,hv',hx',qqx,c1,hs,hw0,c2,c3];exact⟨_,by omega,i+1,by omega,rfl,wr (by omega) (by omega),by simpa using g⟩
      . rw[bad (by simp only[z5];rw[decide_eq_true c3,decide_eq_false c4];simp)];simp[h1,h14,h15,h16,hc,hca,hv',hx',qqx,c1,hs,hw0,c2,c3,c4]
    . have g:=good (by simp only[z5];rw[decide_eq_true (by omega:0<=x),decide_eq_true (by omega:x<2 ^ v.width.toNat),decide_eq_false c3];simp);simp[h1,h14,h15,h16,hc,hca,hv',hx',qqx,c1,hs,hw0,c2,c3];exact⟨_,by omega,i+1,by omega,rfl,wr (by omega) (by omega),by simpa using g⟩
   | none=>
    have hle:p.vars.length<=i:=(by simpa using hvi);have hc:¬ i<p.vars.length:=(by omega);rw[VG hlen hle hz]at hr;subst hr;simp[h1,h14,h15,h16,hc]
 . rw[qdc hlen];have hlen':¬ (a.length:Int)=p.vars.length:=(by omega);simp[hlen,hlen']
theorem qib (p:Problem)(a:List Int)(e:Ex):jM p a e=(decide (qj p=0)&&qH p.vars a&&decide (KB (kQ p.vars a) e=0)&&!decide (yD (kQ p.vars a) e=0)):=rfl
theorem Vo (p:Problem)(a:List Int)(e:Ex)(h:VQ p)(ha:Fits a)(hwe:Wen e)(hh:hgt e<=1000)(hsz:(pre e).length<=100000):Pure Tryz.prog GG 17 [.agg (qE p),.sl 1 (a.map qt) .none,.agg (qr e)] (.bool (jM p a e)):=by
 refine Pure.vc qe Tryz.func17 rfl (by kernel_rfl) ?_;have hva:=yv p h;have hen:=env16 p a h.vars ha;have hev:=qnl (kQ p.vars a) (by have:=qlO (l:=p.vars) (a:=a);have:=h.vars;omega) e hwe (by omega) hsz;have hr:=qib p a e;generalize jM p a e=r at hr ⊢;simp only[qE]at hva hen;simp only[qd e];simp;refine qb.call hva (by simp) ?_;by_cases h0:qj p=0
 . have has:=qji p a h.vars ha (qce h0);simp only[qE]at has;simp[h0];refine qb.call has (by simp) ?_;rw[decide_eq_true h0,qrg]at hr;cases hc:qH p.vars a
   . rw[hc]at hr;subst hr;simp
   . rw[hc,qrg]at hr;simp;refine qb.call hen (by simp) ?_
     try simp[qd e]
     try rw[<- qd e]
     refine qb.call hev (by simp) ?_;by_cases h1:KB (kQ p.vars a) e=0
     . by_cases h2:yD (kQ p.vars a) e=0
       . rw[decide_eq_true h1,decide_eq_true h2]at hr;subst hr;simp[h1,h2]
       . rw[decide_eq_true h1,decide_eq_false h2]at hr;subst hr;simp[h1,h2]
     . rw[decide_eq_false h1]at hr;simp at hr;subst hr;simp[h1]
 . rw[decide_eq_false h0]at hr;simp at hr;subst hr;simp[h0]
theorem Vt {p:Problem}(hvp:qj p=0){a:List Int}{e:Ex}(h:yD (kQ p.vars a) e≠0)(ha:qH p.vars a=true):jM p a e=true:=by
 obtain⟨h1,h2⟩:=qlL h;unfold jM;simp[hvp,ha,h1,h]
theorem kg {p:Problem}(hvp:qj p=0){a:List Int}(ha:a∈yl p.vars):qH p.vars a=true:=by
 have hok:=wY.1 ha;unfold qH;simp only[qqi,decide_eq_true_eq,qqo];refine⟨hok.len,?_⟩;rintro⟨v,x⟩ hx;obtain⟨i,hi⟩:=qqN hx;obtain⟨h1,h2⟩:=qrO.1 hi;obtain⟨y,hy,hc⟩:=wE hok h1;rw[h2]at hy;cases hy;dsimp only at h1 h2 hc ⊢;have hve:=jl hvp v (qqd h1);have h3:((2 ^ v.width.toNat:Nat):Int)=(2:Int) ^ v.width.toNat:=by simp
 unfold z5;by_cases hm:v.mode=0
 . rw[if_pos hm]at hc;subst hc;have hvv:=qfa hve;simp[hm,hvv]
 . rw[if_neg hm]at hc;unfold jx at hc;have:x<(2:Int) ^ v.width.toNat:=by omega
   simp[hm,hc.1,this]
theorem Zm (e:Ex):(qr e).take 4=qr e:=qqk (Nat.le_of_eq (zc e))
theorem qlt {c:Nat}{cfr:List AV}(q:Ex->Bool)(l:List Ex)(hl:l.length<=50000)(tok:Abs.Tok)(H:List Blk)(T:List (Option Nat))
 (hc:∀ e∈l,∀ (H':List Blk) (T':List (Option Nat)),KpL [] H H'->qf Tryz.prog GG c (.agg (qr e)::cfr) ⟨H',T'⟩ (fun r U'=>r=.bool (q e)/\KpL [] H' U'.H)) :
 qf Tryz.prog GG 118 [.sl 4 (l.map qr) tok,.fn c [] cfr] ⟨H,T⟩ (fun r U'=>(∃ n:Int,r=.int .i64 n/\(l.any q=true->0<=n)/\(l.any q=false->n<0))/\KpL [] H U'.H):=by
 refine qf.k qe Tryz.func118 rfl (by kernel_rfl) ?_;obtain⟨res,hres⟩:∃ res,res=l.any q:=⟨_,rfl⟩;rw[<- hres];simp[-getElem?_pos];refine qX.listR l (fun d ev U=>ev 0=.sl 4 (l.map qr) tok/\ev 1=.fn c [] cfr/\ev 7=.int .i64 l.length/\ev 8=.int .i64 d.length/\KpL [] H U.H/\res=(l.drop d.length).any q) ?_ ?_ ?_
 . exact⟨by simp,by simp,by simp,by simp,KpL.refl,by simpa using hres⟩
 . rintro d e rest ev ⟨H1,T1⟩ R hR hd hx hlt ⟨e0,e1,e7,e8,hk,hr⟩;dsimp only at hk;have hdw:=wr (n:=(d.length:Int)+1) (by omega) (by omega);have hlt':(d.length:Int)<l.length:=(by omega);have hc1:=hc e (qqd hx) H1 T1 hk;have hdr:l.drop d.length=e::l.drop (d.length+1):=by
    obtain⟨h1,h2⟩:=qqc.1 hx;rw[qqu h1,h2]
   rw[hdr,qst]at hr;simp[-getElem?_pos,-qQ,e0,e1,e7,e8,hlt,hlt',hx,zc,yh,Zm];refine qc.acall hc1 ?_;rintro r ⟨H2,T2⟩ ⟨rfl,hk2⟩;dsimp only at hk2
   cases hq:q e with
   | true=>
    rw[hq,Bool.true_or]at hr;subst hr;simp[-getElem?_pos,e0,e1,e7,e8];exact hk.trans hk2
   | false=>
    rw[hq,qsv]at hr;simp[-getElem?_pos,e0,e1,e7,e8,hdw];exact hR _ _ ⟨by simp[e0],by simp[e1],by simp[e7],by simp,hk.trans hk2,by rw[qqg];exact hr⟩
 . rintro ev ⟨H1,T1⟩ ⟨e0,e1,e7,e8,hk,hr⟩;have:res=false:=by rw[hr,qr1];rfl
   subst this;simp[-getElem?_pos,e0,e1,e7,e8];exact hk
theorem qc4 {c:Nat}{cfr:List AV}(q:Ex->Bool)(l:List Ex)(hl:l.length<=50000)(tok:Abs.Tok)(H:List Blk)(T:List (Option Nat))
 (hc:∀ e∈l,∀ (H':List Blk) (T':List (Option Nat)),KpL [] H H'->qf Tryz.prog GG c (.agg (qr e)::cfr) ⟨H',T'⟩ (fun r U'=>r=.bool (q e)/\KpL [] H' U'.H)) :
 qf Tryz.prog GG 64 [.sl 4 (l.map qr) tok,.fn c [] cfr] ⟨H,T⟩ (fun r U'=>r=.bool (l.any q)/\KpL [] H U'.H):=by
 refine qf.k qe Tryz.func64 rfl (by kernel_rfl) ?_;have hi:=qlt q l hl tok H T hc;generalize l.any q=res at *;simp[-getElem?_pos];refine qc.acall hi ?_;rintro r ⟨H1,T1⟩ ⟨⟨n,rfl,h1,h2⟩,hk⟩;dsimp only at hk
 cases res with
 | true=>
  have:=h1 rfl;simp[-getElem?_pos,this];exact hk
 | false=>
  have:¬ (0<=n):=by have:=h2 rfl;omega
  simp[-getElem?_pos,this];exact hk
theorem qg0 {s:Spc}{H:List Blk}(hq:VQ s.p)(hs:SpOk s H){r:AV}{a:List Int}(haf:Fits a)(hfr:∀ H',KpL [] H H'->Leq (frz H' 8 r) (.sl 1 (a.map qt) .none)){e:Ex}(hwe:Wen e)(hh:hgt e<=1000)(hsz:(pre e).length<=100000){B1 B2:Nat}(h1:H[B1]?=some (.cells [.ptr s.S 0]))(h2:H[B2]?=some (.cells [r]))(T:List (Option Nat)) :
 qf Tryz.prog GG 65 [.agg (qr e),.ptr B1 0,.ptr B2 0] ⟨H,T⟩ (fun v U'=>v=.bool (!jM s.p a e)/\KpL [] H U'.H):=by
 refine qf.k qe Tryz.func65 rfl (by kernel_rfl) ?_;have hS:=hs.c;have hh1:=Vo s.p a e hq haf hwe hh hsz;generalize jM s.p a e=res at *;simp only[spE,qE,qqz,qqw]at hS;simp only[qE,qd e]at hh1;simp only[qd e];have k1:=qa h1;have k2:=qa h2;have k3:=qa hS;simp[-getElem?_pos,k1,k2,k3];refine qc.lent hh1 rfl ?_ ?_
 . simp only[qqp,qqU,zu,and_true];refine⟨?_,hfr _ KpL.app,?_⟩
   . rw[qI (by simp)];exact Leq.refl _
   . rw[qI (by simp)];exact Leq.refl _
 . simp[-getElem?_pos,unA];exact KpL.app
theorem qdK {s:Spc}{H:List Blk}(hq:VQ s.p)(hs:SpOk s H)(hl:s.R.length<=50000){r:AV}{a:List Int}(haf:Fits a)(hbx:qQ r=some [r])(hfr:∀ H',KpL [] H H'->Leq (frz H' 8 r) (.sl 1 (a.map qt) .none))(hx:∀ e∈s.R,Wen e/\hgt e<=1000/\(pre e).length<=100000)(T:List (Option Nat)) :
 qf Tryz.prog GG 33 [.ptr s.S 0,r] ⟨H,T⟩ (fun v U'=>v=.bool (s.R.all (jM s.p a))/\KpL [] H U'.H):=by
 refine qf.k qe Tryz.func33 rfl (by kernel_rfl) ?_;have hS:=hs.c;have hk0:KpL [] H (H++[.cells [.ptr s.S 0],.cells [r]]):=KpL.app;have hcon:=qc4 (c:=65) (cfr:=[.ptr H.length 0,.ptr (H.length+1) 0]) (fun e=>!jM s.p a e) s.R hl s.rtok (H++[.cells [.ptr s.S 0],.cells [r]]) T (fun e he H' T' hk=>by
  obtain⟨x1,x2,x3⟩:=hx e he;have hkk:=hk0.trans hk;exact qg0 hq (hs.keep hkk (by simp) (by simp) (by simp)) haf (fun H2 hk2=>hfr _ (hkk.trans hk2)) x1 x2 x3 (hk.2 _ _ lk0 (by simp)) (hk.2 _ _ lk1 (by simp)) T')
 have hany:(!s.R.any fun e=>!jM s.p a e)=s.R.all (jM s.p a):=by simp[List.all_eq_not_any_not]
 generalize (s.R.any fun e=>!jM s.p a e)=res at *;rw[<- hany];simp only[spE,qE,qqz,qqw]at hS;have k1:=qa hS;simp[-getElem?_pos,-qQ,hbx,k1,show qQ (.ptr s.S 0)=some [.ptr s.S 0] from rfl];refine qc.acall hcon ?_;rintro v ⟨H1,T1⟩ ⟨rfl,hk1⟩;simp[-getElem?_pos,unA];exact hk0.trans hk1
def qeJ (ok:List Int->Bool)(vs:List Var)(pre:List Int):Nat:=(yl vs).countP fun x=>ok (pre++x)
theorem ql4 (ok:List Int->Bool)(pre:List Int):qeJ ok [] pre=if ok pre then 1 else 0:=by
 simp[qeJ,yl,qtQ]
theorem qpK (ok:List Int->Bool){v:Var}(h:v.mode=0)(vs:List Var)(pre:List Int):qeJ ok (v::vs) pre=qeJ ok vs (pre++[v.value]):=by
 unfold qeJ;rw[Kj h,qs8];congr 1;funext x;simp
def ql2 (ok:List Int->Bool)(vs:List Var)(pre:List Int)(k:Nat):Nat:=((List.range k).flatMap fun n:Nat=>(yl vs).map ((n:Int)::·)).countP fun x=>ok (pre++x)
theorem qpL (ok:List Int->Bool){v:Var}(h:¬ v.mode=0)(vs:List Var)(pre:List Int):qeJ ok (v::vs) pre=ql2 ok vs pre (2 ^ v.width.toNat):=by
 unfold qeJ ql2;rw[Kk h];rfl
theorem qbD (ok:List Int->Bool)(vs:List Var)(pre:List Int)(k:Nat):ql2 ok vs pre (k+1)=ql2 ok vs pre k+qeJ ok vs (pre++[(k:Int)]):=by
 unfold ql2 qeJ;rw[qrG,List.flatMap_append,List.countP_append];congr 1;simp only[qqD,qsH,qqV,qs8];congr 1;funext x;simp
theorem qiT (ok:List Int->Bool)(vs:List Var)(pre:List Int):∀ k,ql2 ok vs pre k<=k*(yl vs).length
 | 0=>by simp[ql2]
 | k+1=>by
  have h1:=qiT ok vs pre k;have h2:qeJ ok vs (pre++[(k:Int)])<=(yl vs).length:=List.countP_le_length;rw[qbD,qso];omega
theorem qdj {v:Var}(h:¬ v.mode=0)(vs:List Var):(yl (v::vs)).length=2 ^ v.width.toNat*(yl vs).length:=by
 rw[QD,QD];simp only[qqp,qsj,if_neg h,Nat.pow_add]
theorem qdi {v:Var}(h:v.mode=0)(vs:List Var):(yl (v::vs)).length=(yl vs).length:=by
 rw[QD,QD];simp only[qqp,qsj,if_pos h,qrL]
structure EnB where
 A:Nat
 P:Nat
 N:Nat
 V:Nat
 AL:Nat
structure EnOk (B:EnB)(s:Spc)(rv:AV)(a:List Int)(n:Nat)(H:List Blk):Prop where
 sp:SpOk s H
 fa:H[B.A]?=some (.cells [rv])
 fp:H[B.P]?=some (.cells [.ptr s.S 0])
 fn:H[B.N]?=some (.cells [.int .i64 (n:Nat)])
 fv:H[B.V]?=some (.cells [.fn 56 [] [.ptr B.A 0,.ptr B.P 0,.ptr B.N 0,.ptr B.V 0]])
 fr:qgl B.AL H rv a
 ne:B.N≠B.AL
 o:∀ b∈[B.A,B.P,B.V,s.S,s.L,s.LL],b≠B.N/\b≠B.AL
theorem EnOk.keep {B:EnB}{s:Spc}{rv:AV}{a:List Int}{n:Nat}{H H':List Blk}(h:EnOk B s rv a n H)(hk:KpL [] H H'):EnOk B s rv a n H' :=
 ⟨h.sp.keep hk (by simp) (by simp) (by simp),hk.2 _ _ h.fa (by simp),hk.2 _ _ h.fp (by simp),hk.2 _ _ h.fn (by simp),hk.2 _ _ h.fv (by simp),h.fr.imp id fun ⟨h1,h2,h3⟩=>⟨h1,h2,hk.2 _ _ h3 (by simp)⟩,h.ne,h.o⟩
theorem EnOk.setN {B:EnB}{s:Spc}{rv:AV}{a:List Int}{n:Nat}{H:List Blk}(h:EnOk B s rv a n H)(m:Nat):EnOk B s rv a m (H.set B.N (.cells [.int .i64 (m:Nat)])):=by
 have hl:=(qqc.1 h.fn).1;have hk:KpL [B.N] H (H.set B.N (.cells [.int .i64 (m:Nat)])):=KpL.set (by simp);have ho:=h.o;exact⟨h.sp.keep hk (by simpa using (ho s.S (by simp)).1) (by simpa using (ho s.L (by simp)).1) (by simpa using (ho s.LL (by simp)).1),hk.2 _ _ h.fa (by simpa using (ho B.A (by simp)).1),hk.2 _ _ h.fp (by simpa using (ho B.P (by simp)).1),qqh hl,hk.2 _ _ h.fv (by simpa using (ho B.V (by simp)).1),
  h.fr.imp id fun ⟨h1,h2,h3⟩=>⟨h1,h2,hk.2 _ _ h3 (by simpa using Ne.symm h.ne)⟩,h.ne,h.o⟩
theorem EnOk.setA {B:EnB}{s:Spc}{rv:AV}{a:List Int}{n:Nat}{H:List Blk}(h:EnOk B s rv a n H)(ha:a≠[])(i:Nat)(x:Int):EnOk B s rv (a.set i x) n (H.set B.AL (.cells (zI (a.set i x)))):=by
 rcases h.fr with ⟨h0,-⟩|⟨h1,h2,h3⟩
 . exact absurd h0 ha
 have hl:=(qqc.1 h3).1;have hk:KpL [B.AL] H (H.set B.AL (.cells (zI (a.set i x)))):=KpL.set (by simp);have ho:=h.o;exact⟨h.sp.keep hk (by simpa using (ho s.S (by simp)).2) (by simpa using (ho s.L (by simp)).2) (by simpa using (ho s.LL (by simp)).2),hk.2 _ _ h.fa (by simpa using (ho B.A (by simp)).2),hk.2 _ _ h.fp (by simpa using (ho B.P (by simp)).2),hk.2 _ _ h.fn (by simpa using h.ne),hk.2 _ _ h.fv (by simpa using (ho B.V (by simp)).2),
  .inr ⟨by simpa using ha,by rw[qry];exact h2,qqh hl⟩,h.ne,h.o⟩
noncomputable def okE (s:Spc)(a:List Int):Bool:=s.R.all (jM s.p a)
def EnQ (B:EnB)(s:Spc)(rv:AV)(i:Nat)(a:List Int)(n:Nat)(H:List Blk)(r:AV)(U':St):Prop :=
 KpL [B.N,B.AL] H U'.H/\∃ a',a'.length=a.length/\a'.take i=a.take i/\EnOk B s rv a' (n+qeJ (okE s) (s.p.vars.drop i) (a.take i)) U'.H
theorem qgl.ac {b:Nat}{H:List Blk}{v:AV}{a:List Int}(h:qgl b H v a):qQ v=some [v]:=by
 rcases h with ⟨-,sz,tok,rfl⟩|⟨-,rfl,-⟩<;>rfl
theorem qgl.ln {b:Nat}{H:List Blk}{v:AV}{a:List Int}(h:qgl b H v a)(U:St):JG (Dof Tryz.prog) U 28 v=some (.int .i64 (a.length:Nat)):=by
 rcases h with ⟨rfl,sz,tok,rfl⟩|⟨h0,rfl,hb⟩<;>simp
theorem qiB {B:EnB}{s:Spc}(hq:VQ s.p)(hv:∀ v∈s.p.vars,0<=v.width/\v.width<=20)(hRl:s.R.length<=50000)(hx:∀ e∈s.R,Wen e/\hgt e<=1000/\(pre e).length<=100000)(rv:AV) :
 ∀ (k i:Nat) (a:List Int) (n:Nat),i+k=s.p.vars.length->a.length=s.p.vars.length->n+(yl (s.p.vars.drop i)).length<=2 ^ 24->∀ (H:List Blk) (T:List (Option Nat)),EnOk B s rv a n H ->
  qf Tryz.prog GG 56 [.int .i64 i,.ptr B.A 0,.ptr B.P 0,.ptr B.N 0,.ptr B.V 0] ⟨H,T⟩ (EnQ B s rv i a n H):=by
 intro k
 induction k with
 | zero=>
  intro i a n hik hal hn H T ok;refine qf.k qe Tryz.func56 rfl (by kernel_rfl) ?_;obtain⟨hsp,bA,bP,bN,bV,hr,hne,ho⟩:=id ok;have hln:=hr.ln;have hd:s.p.vars.drop i=[]:=qqO (by omega);have hcnt:qeJ (okE s) (s.p.vars.drop i) (a.take i)=if okE s a then 1 else 0:=by rw[hd,ql4,qqk (by omega)]
  rw[hd]at hn;have hn:n+1<=2 ^ 24:=by simpa[yl] using hn
  have hi:(i:Int)=a.length:=by omega
  have hl:=hq.vars;have hfr:∀ H',KpL [] H H'->Leq (frz H' 8 rv) (.sl 1 (a.map qt) .none):=fun H' hk=>by
   have:=(qgl.frz (b:=B.AL) (H:=H') (v:=rv) (a:=a) (hr.imp id fun ⟨h1,h2,h3⟩=>⟨h1,h2,hk.2 _ _ h3 (by simp)⟩) 7).2.1;exact this
  have hso:=qdK hq hsp hRl (r:=rv) (a:=a) (by unfold Fits;omega) hr.ac hfr hx T;have fin:EnQ B s rv i a n H=fun r U'=>KpL [B.N,B.AL] H U'.H/\∃ a',a'.length=a.length/\a'.take i=a.take i/\EnOk B s rv a' (n+if okE s a then 1 else 0) U'.H:=by
   funext r U';unfold EnQ;rw[hcnt]
  rw[fin];change qf _ _ _ _ _ (fun v U'=>v=.bool (okE s a)/\_) at hso;generalize okE s a=res at *;simp[-getElem?_pos,-JG,bA,bP,hln,hi];refine qc.acall hso ?_;rintro r ⟨H1,T1⟩ ⟨rfl,hk1⟩;dsimp only at hk1;have ok1:=ok.keep hk1;have bN1:=ok1.fn;have lN1:=(qqc.1 bN1).1;have hw:=wr (n:=(n:Int)+1) (by omega) (by omega)
  cases res with
  | false=>
   simp[-getElem?_pos];exact⟨hk1.sub (by simp),a,rfl,rfl,ok1⟩
  | true=>
   simp[-getElem?_pos,bN1,hw];exact⟨(hk1.sub (by simp)).trans (KpL.set (by simp)),a,rfl,rfl,by have:=ok1.setN (n+1);simpa using this⟩
 | succ k ih=>
  intro i a n hik hal hn H T ok;refine qf.k qe Tryz.func56 rfl (by kernel_rfl) ?_;obtain⟨hsp,bA,bP,bN,bV,hr,hne,ho⟩:=id ok;have hil:i<s.p.vars.length:=by omega
  have hia:i<a.length:=by omega
  have ha0:a≠[]:=fun e=>by rw[e]at hia;simp at hia
  obtain⟨v,hvi⟩:∃ v,s.p.vars[i]?=some v:=⟨_,qqe hil⟩;have hvw:=hv v (qqd hvi);have hdr:s.p.vars.drop i=v::s.p.vars.drop (i+1):=by
   obtain⟨h1,h2⟩:=qqc.1 hvi;rw[qqu h1,h2]
  have hl:=hq.vars;rcases hr with ⟨h0,-⟩|⟨-,hrv,bAL⟩
  . exact absurd h0 ha0
  subst hrv;have hS:=hsp.c;simp only[spE,qE,qqz,qqw]at hS;have kA:=qa bA;have kP:=qa bP;have kV:=qa bV;have kL:=qa bAL;have kS:=qa hS;have hni:¬ (i:Int)=a.length:=by omega
  have hia':(i:Int)<a.length:=by omega
  have hil':(i:Int)<s.p.vars.length:=by omega
  have hla:i+1<=a.length:=hia;have hset:∀ (a:List Int) x,(zI a).set i (.int .i64 x)=zI (a.set i x):=fun a x=>by simp[zI,qs7]
  have hwi:=wr (n:=(i:Int)+1) (by omega) (by omega);have htk:∀ (a':List Int) x,a'.length=a.length->a'.take i=a.take i->(a'.set i x).take (i+1)=a.take i++[x]:=fun a' x h1 h2=>by
   rw[qqH,qqh (by omega),List.take_set_of_le (qqn _),h2];rfl
  by_cases hm:v.mode=0
  . have hcs:=qpK (okE s) hm (s.p.vars.drop (i+1)) (a.take i);rw[hdr,qdi hm]at hn;have ok1:=(ok.keep (H':=H++[.cells (qA v)]) KpL.app).setA ha0 i v.value;have hih:=ih (i+1) (a.set i v.value) n (by omega) (by simpa using hal) hn _ T ok1;have bV1:=ok1.fv;simp only[qA,hm]at hih bV1;rw[show (((i+1:Nat)):Int)=(i:Int)+1 by omega]at hih;simp[-getElem?_pos,kA,kP,kS,kL,bA,bP,hS,hvi,hil,hil',hia,hia',hni,hm,hset,hla,za,bV1,hwi];refine qc.acall hih ?_;rintro r ⟨H1,T1⟩ ⟨hk1,a',l1,l2,ok2⟩;dsimp only at hk1 ok2;simp[-getElem?_pos];refine⟨KpL.trans (KpL.trans KpL.app (KpL.set (by simp))) hk1,a',by simpa using l1,?_,?_⟩
    . have:=congrArg (List.take i) l2;rw[htk a v.value rfl rfl]at this;simpa[qtR,qrF (by omega:i<=i+1),qrF (by omega:i<=a.length)] using this
    . rw[hdr,hcs];rw[htk a v.value rfl rfl]at ok2;exact ok2
  . have hcs:=qpL (okE s) hm (s.p.vars.drop (i+1)) (a.take i);have hcl:=fun k=>qiT (okE s) (s.p.vars.drop (i+1)) (a.take i) k
    have hsu:=fun k=>qbD (okE s) (s.p.vars.drop (i+1)) (a.take i) k
    rw[hdr,qdj hm]at hn;have hs1:=Qp hvw.1 (by omega);have hwn:¬ v.width<0:=(by omega);have hNb:2 ^ v.width.toNat<=2 ^ 20:=qqJ (by omega) (by omega);have fin:EnQ B s (.ms B.AL 0 a.length 1) i a n H=fun r U'=>KpL [B.N,B.AL] H U'.H/\∃ a',a'.length=a.length/\a'.take i=a.take i/\EnOk B s (.ms B.AL 0 a.length 1) a' (n+ql2 (okE s) (s.p.vars.drop (i+1)) (a.take i) (2 ^ v.width.toNat)) U'.H:=by
     funext r U';unfold EnQ;rw[hdr,hcs]
    rw[fin];generalize 2 ^ v.width.toNat=W at *;simp[-getElem?_pos,kA,kP,kS,kL,bA,bP,hS,hvi,hil,hil',hia,hia',hni,hm,hwn,hs1,IntKind.bits];refine yE W (fun k ev U=>ev 0=.int .i64 i/\ev 1=.ptr B.A 0/\ev 2=.ptr B.P 0/\ev 3=.ptr B.N 0/\ev 4=.ptr B.V 0/\ev 39=.int .i64 W/\ev 40=.int .i64 k/\KpL [B.N,B.AL] H U.H/\∃ a',a'.length=a.length/\a'.take i=a.take i/\EnOk B s (.ms B.AL 0 a.length 1) a' (n+ql2 (okE s) (s.p.vars.drop (i+1)) (a.take i) k) U.H) ?_ ?_ ?_
    . exact⟨by simp,by simp,by simp,by simp,by simp,by simp,by simp,KpL.app,a,rfl,rfl,ok.keep KpL.app⟩
    . rintro k ev ⟨H1,T1⟩ R hR hkW ⟨e0,e1,e2,e3,e4,e39,e40,hk1,a',l1,l2,ok1⟩;dsimp only at hk1 ok1;have hkW':(k:Int)<W:=(by omega);have hwk:=wr (n:=(k:Int)+1) (by omega) (by omega);have hmul:(k+1)*(yl (s.p.vars.drop (i+1))).length<=W*(yl (s.p.vars.drop (i+1))).length:=qrj _ hkW;rw[qso]at hmul;have hck:=hcl k;have ha0':a'≠[]:=fun e=>by rw[e]at l1;simp at l1;omega
      obtain⟨hsp1,bA1,bP1,bN1,bV1,hr1,-,-⟩:=id ok1;rcases hr1 with ⟨h0,-⟩|⟨-,hrv1,bAL1⟩
      . exact absurd h0 ha0'
      have ok2:=ok1.setA ha0' i (k:Int);have bV2:=ok2.fv;have hih:=ih (i+1) (a'.set i (k:Int)) _ (by omega) (by simp;omega) (qq6 (Nat.add_le_add_right (Nat.add_le_add_left hck n) _) (by omega)) _ T1 ok2;rw[show (((i+1:Nat)):Int)=(i:Int)+1 by omega]at hih;have hla':i+1<=a'.length:=(by omega);simp[-getElem?_pos,e0,e1,e2,e3,e4,e39,e40,hkW',bA1,bAL1,hia,hia',hset,hla,hla',za,bV2,hwi];refine qc.acall hih ?_;rintro r ⟨H2,T2⟩ ⟨hk2,a2,m1,m2,ok3⟩;dsimp only at hk2 ok3;rw[htk a' k l1 l2]at m2 ok3;simp[-getElem?_pos,e0,e1,e2,e3,e4,e39,e40,hwk];refine hR _ _ ⟨by simp[e0],by simp[e1],by simp[e2],by simp[e3],by simp[e4],by simp[e39],by simp,hk1.trans (KpL.trans (KpL.set (by simp)) hk2),a2,by rw[m1,qry,l1],?_,?_⟩
      . have:=congrArg (List.take i) m2;simpa[qtR,qrF (by omega:i<=i+1),qrF (by omega:i<=a.length)] using this
      . rw[hsu,<- qsb];exact ok3
    . rintro ev ⟨H1,T1⟩ ⟨e0,e1,e2,e3,e4,e39,e40,hk1,a',l1,l2,ok1⟩;dsimp only at hk1 ok1;simp[-getElem?_pos,e0,e1,e2,e3,e4,e39,e40];exact⟨hk1,a',l1,l2,ok1⟩
noncomputable def nSat (s:Spc):Nat:=(yl s.p.vars).countP (okE s)
theorem SpOk.lt {s:Spc}{H:List Blk}(h:SpOk s H):s.S<H.length/\s.L<H.length/\s.LL<H.length:=by
 refine⟨(qqc.1 h.c).1,?_,h.b⟩;obtain⟨c,hc,_⟩:=h.w;exact (qqc.1 hc).1
theorem KpL.fresh {H H1 H2:List Blk}{bs:List Nat}(h:KpL [] H H1)(h2:KpL bs H1 H2)(hB:∀ b∈bs,H.length<=b):KpL [] H H2:=⟨qq6 h.1 h2.1,fun k x hk _=>h2.2 k x (h.2 k x hk (by simp)) (fun hb=>by have:=(qqc.1 hk).1;have:=hB k hb;omega)⟩
theorem enum82 {s:Spc}(hq:VQ s.p)(hv:∀ v∈s.p.vars,0<=v.width/\v.width<=20)(hRl:s.R.length<=50000)(hx:∀ e∈s.R,Wen e/\hgt e<=1000/\(pre e).length<=100000)(hn:(yl s.p.vars).length<=2 ^ 24){H:List Blk}(hs:SpOk s H)(T:List (Option Nat)) :
 qf Tryz.prog GG 25 [.ptr s.S 0] ⟨H,T⟩ (fun r U'=>r=.int .i64 (nSat s:Nat)/\KpL [] H U'.H):=by
 refine qf.k qe Tryz.func25 rfl (by kernel_rfl) ?_;have hl:=hq.vars;obtain⟨g1,g2,g3⟩:=hs.lt;have hS:=hs.c;simp only[spE,qE,qqz,qqw]at hS;have kS:=qa hS;have hcn:qeJ (okE s) s.p.vars []=nSat s:=by unfold qeJ nSat;simp
 by_cases h0:s.p.vars=[]
 . have lk:∀ (a b c d:Blk),(H++[a,b,c,d])[H.length]?=some a/\(H++[a,b,c,d])[H.length+1]?=some b/\(H++[a,b,c,d])[H.length+2]?=some c/\(H++[a,b,c,d])[H.length+3]?=some d:=by
    intros
    refine⟨?_,?_,?_,?_⟩<;>simp[qql]
   obtain⟨a0,a1,a2,a3⟩:=lk (.cells [.ptr s.S 0]) (.cells [.sl 1 [] (.chain T.length 0)]) (.cells [.int .i64 0]) (.cells [.fn 56 [] [.ptr (H.length+1) 0,.ptr H.length 0,.ptr (H.length+2) 0,.ptr (H.length+3) 0]]);have ok:EnOk ⟨H.length+1,H.length,H.length+2,H.length+3,H.length+100⟩ s (.sl 1 [] (.chain T.length 0)) [] 0 (H++[.cells [.ptr s.S 0],.cells [.sl 1 [] (.chain T.length 0)],.cells [.int .i64 0],.cells [.fn 56 [] [.ptr (H.length+1) 0,.ptr H.length 0,.ptr (H.length+2) 0,.ptr (H.length+3) 0]]]) :=
    ⟨hs.keep KpL.app (bs:=[]) (by simp) (by simp) (by simp),a1,a0,a2,a3,.inl ⟨rfl,1,_,rfl⟩,by dsimp only;omega,by simp;omega⟩
   have he:=qiB hq hv hRl hx _ s.p.vars.length 0 [] 0 (by omega) (by rw[h0];rfl) (by simpa using hn) _ (T++[some 0]) ok;simp[-getElem?_pos,kS,h0,qx];refine qc.acall he ?_;rintro r ⟨H1,T1⟩ ⟨hk1,a',l1,l2,ok2⟩;dsimp only at hk1 ok2;have bN:=ok2.fn;simp only[qrx,List.take_nil,hcn,qrL]at bN;simp[-getElem?_pos,bN];exact KpL.fresh KpL.app hk1 (by simp)
 . have hpos:=qqt.2 h0;have hne:¬ (s.p.vars.length:Int)=0:=(by omega);have hle:(s.p.vars.length:Int)<=549755813888:=(by omega);have lk:∀ (a b c d e:Blk),(H++[a,b,c,d,e])[H.length]?=some a/\(H++[a,b,c,d,e])[H.length+1]?=some b/\(H++[a,b,c,d,e])[H.length+2]?=some c/\(H++[a,b,c,d,e])[H.length+3]?=some d/\(H++[a,b,c,d,e])[H.length+4]?=some e:=by
    intros
    refine⟨?_,?_,?_,?_,?_⟩<;>simp[qql]
   obtain⟨a0,a1,a2,a3,a4⟩:=lk (.cells [.ptr s.S 0]) (.cells (List.replicate s.p.vars.length (.int .i64 0))) (.cells [.ms (H.length+1) 0 s.p.vars.length 1]) (.cells [.int .i64 0]) (.cells [.fn 56 [] [.ptr (H.length+2) 0,.ptr H.length 0,.ptr (H.length+3) 0,.ptr (H.length+4) 0]]);have hrn:∀ n,zI (List.replicate n 0)=List.replicate n (.int .i64 0):=fun n=>by simp[zI]
   have ok:EnOk ⟨H.length+2,H.length,H.length+3,H.length+4,H.length+1⟩ s (.ms (H.length+1) 0 s.p.vars.length 1) (List.replicate s.p.vars.length 0) 0 (H++[.cells [.ptr s.S 0],.cells (List.replicate s.p.vars.length (.int .i64 0)),.cells [.ms (H.length+1) 0 s.p.vars.length 1],.cells [.int .i64 0],.cells [.fn 56 [] [.ptr (H.length+2) 0,.ptr H.length 0,.ptr (H.length+3) 0,.ptr (H.length+4) 0]]]) :=
    ⟨hs.keep KpL.app (bs:=[]) (by simp) (by simp) (by simp),a2,a0,a3,a4,.inr ⟨by simpa using h0,by simp,by rw[hrn];exact a1⟩,by dsimp only;omega,by simp;omega⟩
   have he:=qiB hq hv hRl hx _ s.p.vars.length 0 (List.replicate s.p.vars.length 0) 0 (by omega) (by simp) (by simpa using hn) _ T ok;simp[-getElem?_pos,kS,h0,qx,hne,hle];refine qc.acall he ?_;rintro r ⟨H1,T1⟩ ⟨hk1,a',l1,l2,ok2⟩;dsimp only at hk1 ok2;have bN:=ok2.fn;simp only[qrx,qtS,hcn,qrL]at bN;simp[-getElem?_pos,bN];exact KpL.fresh KpL.app hk1 (by simp)
theorem WD:∀ vs:List Var,(yl vs).Nodup
 | []=>by simp[yl]
 | v::vs=>by
  have ih:=WD vs;have hc:∀ x:Int,((yl vs).map (x::·)).Nodup:=fun x=>qs2.2 (ih.imp fun h e=>h (List.cons.inj e).2)
  by_cases h:v.mode=0
  . rw[Kj h];exact hc _
  . rw[Kk h];refine List.pairwise_flatMap.2 ⟨fun n _=>hc _,(List.nodup_range (n:=jx v)).imp fun {a b} hab x hx y hy e=>?_⟩;obtain⟨x',-,rfl⟩:=qqG.1 hx;obtain⟨y',-,rfl⟩:=qqG.1 hy;have:=(List.cons.inj e).1;exact hab (by omega)
theorem LW_in {p:Problem}:∀ (l:List Nat) (x:Nat),x<LW p l->∃ k i,l[k]?=some i/\LW p (l.take k)<=x/\x<LW p (l.take k)+z0 p i
 | [],x,h=>by simp[LW]at h
 | i::l,x,h=>by
  by_cases hx:x<z0 p i
  . exact⟨0,i,rfl,by simp[LW],by simpa[LW] using hx⟩
  . have h2:LW p (i::l)=z0 p i+LW p l:=(by simp[LW]);obtain⟨k,j,h3,h4,h5⟩:=LW_in (p:=p) l (x-z0 p i) (by omega);refine⟨k+1,j,by simpa using h3,?_,?_⟩
    . rw[qsp,show LW p (i::l.take k)=z0 p i+LW p (l.take k) by simp[LW]];omega
    . rw[qsp,show LW p (i::l.take k)=z0 p i+LW p (l.take k) by simp[LW]];omega
theorem qp9 {p:Problem}{l:List Nat}{k i:Nat}(h:l[k]?=some i):LW p (l.take k)+z0 p i<=LW p l:=by
 have hk:=(qqc.1 h).1;have e:l=l.take k++i::l.drop (k+1):=by
  obtain⟨h1,h2⟩:=qqc.1 h;have:=qq8 k l;rw[qqu h1,h2]at this;exact this.symm
 have:=congrArg (LW p) e;rw[qeT,show LW p (i::l.drop (k+1))=z0 p i+LW p (l.drop (k+1)) by simp[LW]]at this;omega
theorem WB {p:Problem}(hv:qj p=0){b c:Nat->Bool}(h:∀ l,l<LW p (NG p).flatten->b l=c l):v9 p.vars (qB p) b=v9 p.vars (qB p) c:=by
 have hl:=fun b=>(wY.1 (VK hv b)).len
 apply qq3;intro i;by_cases hi:i<p.vars.length
 . obtain⟨v,hvi⟩:∃ v,p.vars[i]?=some v:=⟨_,qqe hi⟩;by_cases hm:v.mode=0
   . rw[VJ b hvi hm,VJ c hvi hm]
   . rw[wP hv b hvi hm,wP hv c hvi hm];obtain⟨k,hk⟩:=qqN (JD hv hvi hm);have e:JA p b i=JA p c i:=KJ fun j hj=>h _ (by
      rw[qa2 hv hk];have:=qp9 (p:=p) hk;omega)
     rw[e]
 . rw[qqC (by rw[hl];omega),qqC (by rw[hl];omega)]
theorem qmk {p:Problem}(hv:qj p=0){b c:Nat->Bool}(h:v9 p.vars (qB p) b=v9 p.vars (qB p) c):∀ l,l<LW p (NG p).flatten->b l=c l:=by
 intro l hl;obtain⟨k,i,hk,h1,h2⟩:=LW_in _ l hl;obtain⟨v,hvi,hm⟩:=yx hv (qqd hk);have e1:=wP hv b hvi hm;rw[h,wP hv c hvi hm]at e1;have e2:JA p b i=JA p c i:=by
  have:=Option.some.inj e1;omega
 have hl:=qa2 hv hk;have f1:=J3 e2 (j:=l-Zs (qB p) i) (by omega);have f2:=J3 (rfl:JA p c i=JA p c i) (j:=l-Zs (qB p) i) (by omega);rw[show Zs (qB p) i+(l-Zs (qB p) i)=l by omega]at f1 f2;rw[f1,f2]
theorem qme (n:Nat)(b:Nat->Bool){l:Nat}(hl:l<n):qnw ((List.range n).map b) l=b l:=by
 unfold qnw;rw[qqm,qqB,qsL hl];rfl
theorem VI {p:Problem}(hv:qj p=0):((qbT (LW p (NG p).flatten)).map fun s=>v9 p.vars (qB p) (qnw s)).Perm (yl p.vars):=by
 refine (List.perm_ext_iff_of_nodup ?_ (WD _)).2 fun a=>?_
 . refine qs2.2 (List.Pairwise.imp_of_mem (fun {s t} hs ht hst e=>hst ?_) (WC _));have ls:=JS.1 hs;have lt:=JS.1 ht;apply qq3;intro i;by_cases hi:i<LW p (NG p).flatten
   . have:=qmk hv e i hi;unfold qnw at this;rw[qqm,qqm]at this;rw[qqe (by omega),qqe (by omega)]at this ⊢;exact congrArg some (by simpa using this)
   . rw[qqC (by omega),qqC (by omega)]
 . constructor
   . intro h;obtain⟨s,-,rfl⟩:=qqG.1 h;exact VK hv _
   . intro h;obtain⟨b,hb,-⟩:=qbN hv h;refine qqG.2 ⟨(List.range (LW p (NG p).flatten)).map b,JS.2 (by simp),?_⟩;rw[<- hb];exact WB hv fun l hl=>qme _ b hl
noncomputable def solN (p:Problem)(R:List Ex):Nat:=(yl p.vars).countP (wu p.vars R)
theorem ql1 {p:Problem}(hv:qj p=0){R:List Ex}{d:List Nd}(hd:DagOk d){root:Nat}(hr:root<d.length)(hroot:∀ b,evD d b root=wu p.vars R (v9 p.vars (qB p) b)) :
 yg d root<LW p (NG p).flatten/\Wy d 0 (LW p (NG p).flatten) root=solN p R:=by
 have h1:yg d root<LW p (NG p).flatten:=qpF hd _ (root+1) root (by omega) hr fun b c hbc=>by rw[hroot,hroot,WB hv hbc]
 refine⟨h1,?_⟩;rw[ql3 hd (qjB hv) hr h1];unfold solN;rw[<- (VI hv).countP_eq,qs8];congr 1;funext s;simp[hroot]
theorem qof {s:Spc}(hv:qj s.p=0){a:List Int}(ha:a∈yl s.p.vars):okE s a=wu s.p.vars s.R a:=by
 unfold okE wu;have has:=kg hv ha;rw[qq4,qqo,qqo];refine⟨fun h e he=>?_,fun h e he=>Vt hv (by simpa using h e he) has⟩;have:=h e he;unfold jM at this;simp at this;simpa using this.2
theorem qhL {s:Spc}(hv:qj s.p=0):nSat s=solN s.p s.R:=List.countP_congr fun a ha=>by rw[qof hv ha]
theorem VU:∀ n,(qbT n).length=2 ^ n
 | 0=>rfl
 | n+1=>by rw[qbT,qqg,qqS,qqS,VU n,qsD];omega
theorem qdn {p:Problem}(hv:qj p=0)(hl:p.vars.length<=1000):(LW p (NG p).flatten:Int)=yP p.vars (qz p):=by
 obtain⟨h1,h2⟩:=VT hv hl;have h3:=(VI hv).length_eq;rw[qqS,VU,h2]at h3;have:LW p (NG p).flatten=(p.vars.map qjI).sum:=by
  rcases Nat.lt_trichotomy (LW p (NG p).flatten) (p.vars.map qjI).sum with h|h|h
  . have:=Nat.pow_lt_pow_right (by decide:1<2) h;omega
  . exact h
  . have:=Nat.pow_lt_pow_right (by decide:1<2) h;omega
 rw[h1,this]
structure FoB where
 E:Nat
 D:Nat
 G:Nat
 V:Nat
 C:Nat
 K:Nat
 DL:Nat
 KL:Nat
def qpz (b:Bool):AV:=.bool b
def qlQ (n:Int):AV:=.int .i64 n
structure FoOk (B:FoB)(nv cf:AV)(e0 e1:Int)(f:Nat)(val:Nat->Int)(H:List Blk):Prop where
 e:H[B.E]?=some (.cells [.int .i64 e0,.int .i64 e1])
 d:H[B.D]?=some (.cells [.ms B.DL 0 (f+1) 1])
 g:H[B.G]?=some (.cells [nv])
 v:H[B.V]?=some (.cells [.fn 166 [] [.ptr B.E 0,.ptr B.D 0,.ptr B.G 0,.ptr B.V 0,.ptr B.C 0,.ptr B.K 0]])
 c:H[B.C]?=some (.cells [cf])
 k:H[B.K]?=some (.cells [.ms B.KL 0 (f+1) 1])
 ne:B.DL≠B.KL
 o:∀ b∈[B.E,B.D,B.G,B.V,B.C,B.K],b≠B.DL/\b≠B.KL
 r:∃ (dn:List Bool) (kn:List Int),H[B.DL]?=some (.cells (dn.map qpz))/\H[B.KL]?=some (.cells (kn.map qlQ))/\dn.length=f+1/\kn.length=f+1/\∀ j,dn[j]?=some true->kn[j]?=some (val j)
theorem FoOk.keep {B:FoB}{nv cf:AV}{e0 e1:Int}{f:Nat}{val:Nat->Int}{H H':List Blk}(h:FoOk B nv cf e0 e1 f val H)(hk:KpL [] H H'):FoOk B nv cf e0 e1 f val H':=by
 obtain⟨dn,kn,h1,h2,h3⟩:=h.r;exact⟨hk.2 _ _ h.e (by simp),hk.2 _ _ h.d (by simp),hk.2 _ _ h.g (by simp),hk.2 _ _ h.v (by simp),hk.2 _ _ h.c (by simp),hk.2 _ _ h.k (by simp),h.ne,h.o,dn,kn,hk.2 _ _ h1 (by simp),hk.2 _ _ h2 (by simp),h3⟩
def FoQ (B:FoB)(nv cf:AV)(e0 e1:Int)(f:Nat)(val:Nat->Int)(k:Nat)(H:List Blk)(r:AV)(U':St):Prop:=r=.int .i64 (val k)/\KpL [B.DL,B.KL] H U'.H/\FoOk B nv cf e0 e1 f val U'.H
def qkF:List (Nat×Sch×List Nat):=[(5,.step 0 [9,8,7,3] (.step 1 [9,8,7,3,2] (.step 2 [9,8,7,3] (.step 5 [9,8,7,6] (.fork (.cons 3 (.step 4 [9,8,7] (.step 6 [9,8,7] (.step 7 [9,8] (.step 8 [9] (.step 9 [] (.done)))))) (.cons 4 (.fork (.cons 3 (.step 6 [9,8,7] (.step 7 [9,8] (.step 8 [9] (.step 9 [] (.done))))) (.cons 6 (.step 3 [9,8,7] (.step 7 [9,8] (.step 8 [9] (.step 9 [] (.done))))) (.nil)))) (.cons 6 (.fork (.cons 3 (.step 4 [9,8,7] (.step 7 [9,8] (.step 8 [9] (.step 9 [] (.done))))) (.cons 4 (.step 3 [9,8,7] (.step 7 [9,8] (.step 8 [9] (.step 9 [] (.done))))) (.nil)))) (.nil)))))))),[3,7]),(6,.step 1 [12,11,10,9] (.step 3 [12,11] (.step 4 [12,11,10,9,8] (.step 5 [12,11,10,9,8] (.step 6 [12,11,10,9,8] (.step 7 [12,11,10,9,8] (.fork (.cons 0 (.fork (.cons 2 (.step 8 [12,11,10,9] (.step 9 [12,11,10] (.step 10 [12,11] (.step 11 [12] (.step 12 [] (.done)))))) (.cons 8 (.step 9 [12,11,10] (.fork (.cons 2 (.step 10 [12,11] (.step 11 [12] (.step 12 [] (.done)))) (.cons 10 (.step 2 [12,11] (.step 11 [12] (.step 12 [] (.done)))) (.nil))))) (.nil)))) (.cons 2 (.fork (.cons 0 (.step 8 [12,11,10,9] (.step 9 [12,11,10] (.step 10 [12,11] (.step 11 [12] (.step 12 [] (.done)))))) (.cons 8 (.step 0 [12,11,10,9] (.step 9 [12,11,10] (.step 10 [12,11] (.step 11 [12] (.step 12 [] (.done)))))) (.nil)))) (.cons 8 (.step 0 [12,11,10,9] (.step 9 [12,11,10] (.fork (.cons 2 (.step 10 [12,11] (.step 11 [12] (.step 12 [] (.done)))) (.cons 10 (.step 2 [12,11] (.step 11 [12] (.step 12 [] (.done)))) (.nil)))))) (.nil)))))))))),[8])]
theorem qpC {dn:List Bool}{k:Nat}{b:Bool}(h:dn[k]?=some b):(dn.map qpz).drop k=.bool b::(dn.map qpz).drop (k+1):=by
 have h':(dn.map qpz)[k]?=some (.bool b):=by rw[qqB,h];rfl
 obtain⟨h1,h2⟩:=qqc.1 h';rw[qqu h1,h2]
theorem qo2 {kn:List Int}{k:Nat}{b:Int}(h:kn[k]?=some b):(kn.map qlQ).drop k=.int .i64 b::(kn.map qlQ).drop (k+1):=by
 have h':(kn.map qlQ)[k]?=some (.int .i64 b):=by rw[qqB,h];rfl
 obtain⟨h1,h2⟩:=qqc.1 h';rw[qqu h1,h2]
theorem qpj {B:FoB}{nv cf:AV}{e0 e1:Int}{f:Nat}{val:Nat->Int}{H0 H:List Blk}{k:Nat}{r:Int}{dn:List Bool}{kn:List Int}(h:FoOk B nv cf e0 e1 f val H)(hk:k<=f)(h1:H[B.DL]?=some (.cells (dn.map qpz)))(h2:H[B.KL]?=some (.cells (kn.map qlQ)))(l1:dn.length=f+1)(l2:kn.length=f+1)
 (hv:∀ j,dn[j]?=some true->kn[j]?=some (val j)) (hr:r=val k) (hkp:KpL [B.DL,B.KL] H0 H) (T:List (Option Nat)):FoQ B nv cf e0 e1 f val k H0 (.int .i64 r) ⟨(H.set B.KL (.cells ((kn.map qlQ).set k (.int .i64 r)))).set B.DL (.cells ((dn.map qpz).set k (.bool true))),T⟩:=by
 have lD:=(qqc.1 h1).1;have lK:=(qqc.1 h2).1;have hs:∀ b∈[B.E,B.D,B.G,B.V,B.C,B.K],∀ y z,((H.set B.KL y).set B.DL z)[b]?=H[b]? := fun b hb y z=>by
  obtain⟨o1,o2⟩:=h.o b hb;rw[qqf (Ne.symm o1),qqf (Ne.symm o2)]
 refine⟨by rw[hr],hkp.trans (KpL.trans (KpL.set (by simp)) (KpL.set (by simp))),?_⟩;refine⟨by rw[hs _ (by simp)];exact h.e,by rw[hs _ (by simp)];exact h.d,by rw[hs _ (by simp)];exact h.g,by rw[hs _ (by simp)];exact h.v,by rw[hs _ (by simp)];exact h.c,by rw[hs _ (by simp)];exact h.k,h.ne,h.o,dn.set k true,kn.set k r,?_,?_,by simp[l1],by simp[l2],?_⟩
 . dsimp only;rw[qqh (by rw[qry];exact lD),qs7];rfl
 . dsimp only;rw[qqf h.ne,qqh lK,qs7];rfl
 . intro j hj;by_cases hjk:k=j
   . subst hjk;rw[qqh (by omega),hr]
   . rw[qqf hjk]at hj ⊢;exact hv j hj
theorem qpi {B:FoB}(Rc:Nat->Prop){d:List Nd}{tok:Abs.Tok}(hd:DagOk d){c:Nat}{cfr:List AV}{e0 e1:Int}{f:Nat}{val:Nat->Int}(hf:f<d.length)(P:List Blk->Prop)(hP:∀ H H',P H->KpL [B.DL,B.KL] H H'->P H')
 (comb:Nd->Int->Int->Int) (hv0:val 0=e0) (hv1:val 1=e1) (hv2:∀ k n,Rc k->2<=k->d[k]?=some n->Rc n.2.1/\Rc n.2.2/\val k=comb n (val n.2.1) (val n.2.2))
 (hc:∀ k n (H:List Blk) (T:List (Option Nat)),Rc k->2<=k->d[k]?=some n->P H->qf Tryz.prog GG c ([.agg (qw n),.int .i64 (val n.2.1),.int .i64 (val n.2.2)]++cfr) ⟨H,T⟩ (fun r U'=>r=.int .i64 (comb n (val n.2.1) (val n.2.2))/\KpL [] H U'.H)) :
 ∀ (m k:Nat),k<m->k<=f->Rc k->∀ (H:List Blk) (T:List (Option Nat)),P H->FoOk B (.sl 3 (d.map qw) tok) (.fn c [] cfr) e0 e1 f val H ->
  qf Tryz.prog GG 166 [.int .i64 k,.ptr B.E 0,.ptr B.D 0,.ptr B.G 0,.ptr B.V 0,.ptr B.C 0,.ptr B.K 0] ⟨H,T⟩ (FoQ B (.sl 3 (d.map qw) tok) (.fn c [] cfr) e0 e1 f val k H):=by
 intro m
 induction m with
 | zero=>intro k hk;omega
 | succ m ih=>
  intro k hkm hkf hRk H T hPH hok;refine qf.kO ⟨false,qkF,[],[]⟩ qe Tryz.func166 rfl (by kernel_rfl) ?_;have hdm:=hd.most;obtain⟨dn,kn,hdn,hkn,ldn,lkn,hval⟩:=hok.r;obtain⟨bE,bD,bG,bV,bC,bK,hne,ho,-⟩:=id hok;by_cases h2:k<2
  . have fin:∀ u,FoQ B (.sl 3 (d.map qw) tok) (.fn c [] cfr) e0 e1 f val k H (.int .i64 (val k)) ⟨H++u,T⟩:=fun u=>⟨rfl,KpL.app,hok.keep KpL.app⟩
    have hk01:k=0\/k=1:=(by omega);rcases hk01 with rfl|rfl
    . rw[hv0]at fin;simp[-getElem?_pos,bE];have:=fin [];simpa using this
    . rw[hv1]at fin;simp[-getElem?_pos,bE];have:=fin [];simpa using this
  have h2':¬ (k:Int)<2:=by omega
  have h2b:2<=k:=by omega
  obtain⟨n,hn⟩:∃ n,d[k]?=some n:=⟨_,qqe (by omega)⟩;obtain⟨b,hb⟩:∃ b,dn[k]?=some b:=⟨_,qqe (by omega)⟩;have hdr:=qpC hb;have hkl:k<f+1:=by omega
  have hkl':(k:Int)<f+1:=by omega
  cases b with
  | true=>
   have hkv:=hval k hb;have hdk:=qo2 hkv;simp[-getElem?_pos,h2,h2',hkf,bE,bD,bG,bK,hdn,hkn,hdr,hdk,hkl,hkl',ldn,lkn];exact⟨rfl,KpL.refl,hok⟩
  | false=>
   obtain⟨hn20,hlo,hhi,-⟩:=hd.node k n h2b hn;obtain⟨nl,lo,hi⟩:=n;dsimp only at hlo hhi;have hkd:k<d.length:=(by omega);simp[-getElem?_pos,h2,h2',hkf,bE,bD,bG,bK,bV,hdn,hkn,hdr,hkl,hkl',ldn,lkn,hn,hkd];rw[qG rfl];have bE0:=qa bE;have bD0:=qa bD;have bG0:=qa bG;have bV0:=qa bV;have bC0:=qa bC;have bK0:=qa bK;simp[-getElem?_pos,qN,bV0];have hok0:FoOk B (.sl 3 (d.map qw) tok) (.fn c [] cfr) e0 e1 f val (H++[.cells [.int .i64 nl,.int .i64 lo,.int .i64 hi]]):=hok.keep KpL.app;have hP0:P (H++[.cells [.int .i64 nl,.int .i64 lo,.int .i64 hi]]):=hP _ _ hPH KpL.app;have hv2k:=hv2 k _ hRk h2b hn;dsimp only at hv2k;have c1:=ih lo (by omega) (by omega) hv2k.1 (H++[.cells [.int .i64 nl,.int .i64 lo,.int .i64 hi]]) T hP0 hok0;have hkv:val k=comb (nl,lo,hi) (val lo) (val hi):=hv2k.2.2;have hlD:=(qqc.1 hdn).1;have hlK:=(qqc.1 hkn).1;have hbX:H.length≠B.DL/\H.length≠B.KL:=⟨by omega,by omega⟩
   repeat' with_reducible refine And.intro ?_ ?_
   all_goals
    refine qc.acall c1 ?_;rintro r ⟨H1,T1⟩ ⟨rfl,hk1,ok1⟩;dsimp only at hk1 ok1;have bX1:=hk1.2 _ _ lk0 (by simpa using hbX);have bV1:=ok1.v;have P1:=hP _ _ hP0 hk1;have c2:=ih hi (by omega) (by omega) hv2k.2.1 H1 T1 P1 ok1;simp[-getElem?_pos,qN,bV1,bX1];refine qc.acall c2 ?_;rintro r ⟨H2,T2⟩ ⟨rfl,hk2,ok2⟩;dsimp only at hk2 ok2;have bX2:=hk2.2 _ _ bX1 (by simpa using hbX);have P2:=hP _ _ P1 hk2;obtain⟨dn2,kn2,hdn2,hkn2,ldn2,lkn2,hval2⟩:=ok2.r;obtain⟨bE2,bD2,bG2,bV2,bC2,bK2,-,-,-⟩:=id ok2;simp[-getElem?_pos,qN,bX2];rw[qG rfl];simp[-getElem?_pos,qN,bX2,bC2,bK2,bD2]
    repeat' with_reducible refine And.intro ?_ ?_
    all_goals
     have c3:=hc k (nl,lo,hi) H2 T2 hRk h2b hn P2;simp only[qw,qqz,qqw]at c3;refine qc.acall c3 ?_;rintro r ⟨H3,T3⟩ ⟨rfl,hk3⟩;dsimp only at hk3;have ok3:=ok2.keep hk3;have hdn3:=hk3.2 _ _ hdn2 (by simp);have hkn3:=hk3.2 _ _ hkn2 (by simp);have bK3:=ok3.k;have bD3:=ok3.d;have bX3:=hk3.2 _ _ bX2 (by simp);have lK3:=(qqc.1 hkn3).1;have lD3:=(qqc.1 hdn3).1;have oK:=ho B.K (by simp);have oD:=ho B.D (by simp);have fin:=qpj (r:=comb (nl,lo,hi) (val lo) (val hi)) ok3 hkf hdn3 hkn3 ldn2 lkn2 hval2 hkv.symm (KpL.trans (KpL.app.trans (hk1.trans hk2)) (hk3.sub (by simp))) T3;have q1:∀ y,(H3.set B.KL y)[B.D]?=some (.cells [.ms B.DL 0 (f+1) 1]):=fun y=>by rw[qqf (Ne.symm oD.2)];exact bD3
     have q2:∀ y,(H3.set B.KL y)[B.K]?=some (.cells [.ms B.KL 0 (f+1) 1]):=fun y=>by rw[qqf (Ne.symm oK.2)];exact bK3
     have q3:∀ y,(H3.set B.KL y)[B.DL]?=some (.cells (dn2.map qpz)):=fun y=>by rw[qqf (Ne.symm hne)];exact hdn3
     have q4:∀ y z,((H3.set B.KL y).set B.DL z)[B.K]?=some (.cells [.ms B.KL 0 (f+1) 1]):=fun y z=>by rw[qqf (Ne.symm oK.1)];exact q2 y
     have q5:∀ y z,((H3.set B.KL y).set B.DL z)[B.KL]?=some y:=fun y z=>by rw[qqf hne];exact qqh lK3
     have q6:∀ x,((kn2.map qlQ).set k x).drop k=x::(kn2.map qlQ).drop (k+1):=fun x=>by
      have hl:k<((kn2.map qlQ).set k x).length:=(by simp;omega);rw[qqu hl,List.getElem_set_self,List.drop_set_of_lt (by omega)]
     simp[-getElem?_pos,qN,q6,bX3,bK3,bD3,hdn3,hkn3,q1,q2,q3,q4,q5,hkf,lK3,lD3,ldn2,lkn2,hkl,hkl'];exact fin
theorem qiq (Rc:Nat->Prop){d:List Nd}(hd:DagOk d){c:Nat}{cfr:List AV}{e0 e1:Int}{f:Nat}{val:Nat->Int}(hf:f<d.length)(hRf:Rc f)
 (comb:Nd->Int->Int->Int) (hv0:val 0=e0) (hv1:val 1=e1) (hv2:∀ k n,Rc k->2<=k->d[k]?=some n->Rc n.2.1/\Rc n.2.2/\val k=comb n (val n.2.1) (val n.2.2)) (H:List Blk) (T:List (Option Nat))
 (hc:∀ k n (H':List Blk) (T':List (Option Nat)),Rc k->2<=k->d[k]?=some n->KpL [] H H'->qf Tryz.prog GG c ([.agg (qw n),.int .i64 (val n.2.1),.int .i64 (val n.2.2)]++cfr) ⟨H',T'⟩ (fun r U'=>r=.int .i64 (comb n (val n.2.1) (val n.2.2))/\KpL [] H' U'.H)) :
 qf Tryz.prog GG 103 [.agg [.sl 3 (d.map qw) .none],.int .i64 f,.agg [.int .i64 e0,.int .i64 e1],.fn c [] cfr] ⟨H,T⟩ (fun r U'=>r=.int .i64 (val f)/\KpL [] H U'.H):=by
 refine qf.k qe Tryz.func103 rfl (by kernel_rfl) ?_;have hdm:=hd.most;have hw:=wr (n:=(f:Int)+1) (by omega) (by omega);have h0:¬ (f:Int)+1=0:=by omega
 have h1:(f:Int)+1<=549755813888:=by omega
 have h2:(0:Int)<=(f:Int)+1:=by omega
 simp[-getElem?_pos,hw,qx,h0,h1,h2];have lk:∀ (a b c d e f g h:Blk),(H++[a,b,c,d,e,f,g,h])[H.length]?=some a/\(H++[a,b,c,d,e,f,g,h])[H.length+1]?=some b/\(H++[a,b,c,d,e,f,g,h])[H.length+2]?=some c/\(H++[a,b,c,d,e,f,g,h])[H.length+3]?=some d/\(H++[a,b,c,d,e,f,g,h])[H.length+4]?=some e/\(H++[a,b,c,d,e,f,g,h])[H.length+5]?=some f/\(H++[a,b,c,d,e,f,g,h])[H.length+6]?=some g/\(H++[a,b,c,d,e,f,g,h])[H.length+7]?=some h:=by
  intros
  refine⟨?_,?_,?_,?_,?_,?_,?_,?_⟩<;>simp[qql]
 have hfo:=qpi (B:=⟨H.length+1,H.length+6,H.length,H.length+7,H.length+2,H.length+4,H.length+5,H.length+3⟩) Rc (tok:=.none) hd (c:=c) (cfr:=cfr) (e0:=e0) (e1:=e1) (f:=f) (val:=val) hf (fun H'=>KpL [] H H')
  (fun H1 H2 h1 h2=>⟨qq6 h1.1 h2.1,fun k x hk _=>h2.2 k x (h1.2 k x hk (by simp)) (by have:=(qqc.1 hk).1;simp;omega)⟩) comb hv0 hv1 hv2 hc (f+1) f (by omega) (qqn _) hRf
 refine qc.acall (hfo _ _ KpL.app ?_) ?_
 . obtain⟨a0,a1,a2,a3,a4,a5,a6,a7⟩:=lk (.cells [.sl 3 (d.map qw) .none]) (.cells [.int .i64 e0,.int .i64 e1]) (.cells [.fn c [] cfr]) (.cells (List.replicate (f+1) (.int .i64 0))) (.cells [.ms (H.length+3) 0 (f+1) 1]) (.cells (List.replicate (f+1) (.bool false))) (.cells [.ms (H.length+5) 0 (f+1) 1]) (.cells [.fn 166 [] [.ptr (H.length+1) 0,.ptr (H.length+6) 0,.ptr H.length 0,.ptr (H.length+7) 0,.ptr (H.length+2) 0,.ptr (H.length+4) 0]]);refine⟨a1,a6,a0,a7,a2,a4,by dsimp only;omega,by simp,List.replicate (f+1) false,List.replicate (f+1) 0,by dsimp only;rw[a5,qsU];rfl,by dsimp only;rw[a3,qsU];rfl,by simp,by simp,fun j hj=>?_⟩;rw[qs0]at hj;split at hj<;>cases hj
 . rintro r ⟨H1,T1⟩ ⟨rfl,hk1,-⟩;dsimp only at hk1;simp[-getElem?_pos];exact⟨qq6 (by simp) hk1.1,fun k x hk _=>hk1.2 k x (qa hk _) (by have:=(qqc.1 hk).1;simp;omega)⟩
theorem Vi {d:List Nd}{k n:Nat}(hk:k<d.length):Pure Tryz.prog GG 106 [.agg [.sl 3 (d.map qw) .none,.int .i64 n],.int .i64 k] (.int .i64 (wv d n k:Nat)):=by
 refine Pure.k qe Tryz.func106 rfl (by kernel_rfl) ?_;obtain⟨x,hx⟩:∃ x,d[k]?=some x:=⟨_,qqe hk⟩;have hl:w7 (.int .i64 (x.1:Int)) (.int .i64 (n:Int))=some (.int .i64 (wv d n k:Nat)):=by
  have:wv d n k=min x.1 n:=by unfold wv;rw[zJ hx]
  rw[this];simp only[w7];congr 2;split<;>omega
 simp[-getElem?_pos,hx,hk,hl]
theorem ishl (a s:Nat)(hs:s<=20)(ha:a*2 ^ s<2 ^ 62):IntKind.i64.wrap ((a:Int)*2 ^ (min s 64))=((a*2 ^ s:Nat):Int):=by
 have e:min s 64=s:=by omega
 rw[e,show ((a:Int)*2 ^ s)=((a*2 ^ s:Nat):Int) by simp];generalize a*2 ^ s=N at ha;rw[wr (by omega) (by omega)]
def qpJ (d:List Nd)(n:Nat)(x:Nd)(a b:Int):Int:=a*2 ^ (wv d n x.2.1-(x.1+1))+b*2 ^ (wv d n x.2.2-(x.1+1))
theorem qmg {d:List Nd}(hd:DagOk d){n k:Nat}{x:Nd}(hn:n<=20)(h2:2<=k)(hx:d[k]?=some x)(hdp:yg d k<n){C:Nat}{H:List Blk}(hC:H[C]?=some (.cells [.sl 3 (d.map qw) .none,.int .i64 n]))(T:List (Option Nat)) :
 qf Tryz.prog GG 167 [.agg (qw x),.int .i64 (JP d n x.2.1:Nat),.int .i64 (JP d n x.2.2:Nat),.ptr C 0] ⟨H,T⟩ (fun r U'=>r=.int .i64 (JP d n k:Nat)/\KpL [] H U'.H):=by
 refine qf.k qe Tryz.func167 rfl (by kernel_rfl) ?_;obtain⟨c1,c2,c3,c4,c5,c6⟩:=qbC hd hn h2 hx hdp;obtain⟨g1,g2,g3,g4,g5,g6⟩:=hd.node k x h2 hx;have hk:=(qqc.1 hx).1;have b1:=qiS d n x.2.1;have b2:=qiS d n x.2.2;have l1:=Vi (d:=d) (k:=x.2.1) (n:=n) (by omega);have l2:=Vi (d:=d) (k:=x.2.2) (n:=n) (by omega);have m1:wv d n x.2.1<=n:=qsg _ _;have m2:wv d n x.2.2<=n:=qsg _ _;obtain⟨L,lo,hi⟩:=x;dsimp only at *;generalize JP d n lo=A at *;generalize JP d n hi=B at *;generalize wv d n lo=P at *;generalize wv d n hi=Q at *;have p20:∀ {a m s:Nat},a<=2 ^ m->m+s<=20->a*2 ^ s<=2 ^ 20:=fun {a m s} h1 h2=>by
  have:=qrj (2 ^ s) h1;rw[<- Nat.pow_add]at this;exact qq6 this (qqJ (by omega) h2)
 have e1:=p20 (s:=P-(L+1)) b1 (by omega);have e2:=p20 (s:=Q-(L+1)) b2 (by omega);have s1:=ishl A (P-(L+1)) (by omega) (by omega);have s2:=ishl B (Q-(L+1)) (by omega) (by omega);rw[c6];generalize A*2 ^ (P-(L+1))=U_ at *;generalize B*2 ^ (Q-(L+1))=V at *;have w1:=wr (n:=(P:Int)-L) (by omega) (by omega);have w2:=wr (n:=(P:Int)-L-1) (by omega) (by omega);have w3:=wr (n:=(Q:Int)-L) (by omega) (by omega);have w4:=wr (n:=(Q:Int)-L-1) (by omega) (by omega);have w5:=wr (n:=(U_:Int)+V) (by omega) (by omega);have q1:(P:Int)-L-1=((P-(L+1):Nat):Int):=by omega
 have q2:(Q:Int)-L-1=((Q-(L+1):Nat):Int):=by omega
 rw[q1]at w2;rw[q2]at w4;have hC0:=qa hC;have n1:¬ ((P-(L+1):Nat):Int)<0:=by omega
 have n2:¬ ((Q-(L+1):Nat):Int)<0:=by omega
 simp[-getElem?_pos,-zp,Yy,Z5,hC0];refine qc.call l1 (by simp) ?_;simp[-getElem?_pos,-zp,Yy,Z5,hC0,w1,w2,q1,s1,n1,IntKind.bits];refine qc.call l2 (by simp) ?_;simp[-getElem?_pos,-zp,Yy,Z5,hC0,w3,w4,q2,s2,n2,w5,IntKind.bits];exact KpL.app
theorem qnv {d:List Nd}(hd:DagOk d){n:Nat}(hn:n<=20):∀ k x,(k<d.length/\yg d k<n)->2<=k->d[k]?=some x->(x.2.1<d.length/\yg d x.2.1<n)/\(x.2.2<d.length/\yg d x.2.2<n)/\(JP d n k:Int)=qpJ d n x (JP d n x.2.1:Nat) (JP d n x.2.2:Nat):=fun k x hk h2 hx=>by
 obtain⟨c1,c2,c3,c4,c5,c6⟩:=qbC hd hn h2 hx hk.2;obtain⟨g1,g2,g3,g4,g5,g6⟩:=hd.node k x h2 hx;refine⟨⟨by omega,c4⟩,⟨by omega,c5⟩,?_⟩;rw[c6];simp[qpJ]
theorem qmh {d:List Nd}(hd:DagOk d){n k:Nat}(hn:n<=20)(hk:k<d.length)(hdp:yg d k<n)(H:List Blk)(T:List (Option Nat)) :
 qf Tryz.prog GG 105 [.agg [.sl 3 (d.map qw) .none,.int .i64 n],.int .i64 k] ⟨H,T⟩ (fun r U'=>r=.int .i64 (JP d n k:Nat)/\KpL [] H U'.H):=by
 refine qf.k qe Tryz.func105 rfl (by kernel_rfl) ?_;have hf:=qiq (fun k=>k<d.length/\yg d k<n) hd (c:=167) (cfr:=[.ptr H.length 0]) (e0:=0) (e1:=1) (f:=k) (val:=fun k=>(JP d n k:Nat)) hk ⟨hk,hdp⟩ (qpJ d n) (by rw[cntV_0 hd hn];rfl) (by rw[cntV_1 hd hn];rfl) (qnv hd hn)
  (H++[.cells [.sl 3 (d.map qw) .none,.int .i64 n]]) T (fun k x H' T' hk h2 hx hk'=>by
    have:=qmg hd hn h2 hx hk.2 (C:=H.length) (H:=H') (hk'.2 _ _ lk0 (by simp)) T';rw[<- (qnv hd hn k x hk h2 hx).2.2];exact this)
 simp[-getElem?_pos];refine qc.acall hf ?_;rintro r ⟨H1,T1⟩ ⟨rfl,hk1⟩;simp[-getElem?_pos];exact KpL.app.trans hk1
def qkM:List (Nat×Sch×List Nat):=[(1,.step 0 [9,8,7,5,2] (.step 1 [9,8,7,5,2] (.step 4 [9,8,7,5] (.step 6 [9,8,7] (.fork (.cons 2 (.step 3 [9,8,7,5] (.step 5 [9,8,7] (.step 7 [9,8] (.step 8 [9] (.step 9 [] (.done)))))) (.cons 3 (.step 2 [9,8,7,5] (.step 5 [9,8,7] (.step 7 [9,8] (.step 8 [9] (.step 9 [] (.done)))))) (.nil))))))),[2])]
theorem qph {d:List Nd}(hd:DagOk d){n k:Nat}(hn:n<=20)(hk:k<d.length)(hdp:yg d k<n)(H:List Blk)(T:List (Option Nat)) :
 qf Tryz.prog GG 54 [.agg [.sl 3 (d.map qw) .none,.int .i64 n],.int .i64 k,.int .i64 0] ⟨H,T⟩ (fun r U'=>r=.int .i64 (Wy d 0 n k:Nat)/\KpL [] H U'.H):=by
 refine qf.kO ⟨false,qkM,[],[]⟩ qe Tryz.func54 rfl (by kernel_rfl) ?_;have hb:=qmh hd hn hk hdp (H++[.cells [.sl 3 (d.map qw) .none,.int .i64 n]]) T;have hl:=Vi (d:=d) (k:=k) (n:=n) hk;have hc:=Kc (d:=d) (n:=n) (k:=k) (l:=0) (qrS _);have hle:=VD d n 0 k;have m1:wv d n k<=n:=qsg _ _;rw[qtw,qtw]at hc;rw[hc]at hle ⊢;have h20:(2:Nat) ^ n<=2 ^ 20:=qqJ (by omega) hn;have s1:=ishl (JP d n k) (wv d n k) (by omega) (by omega);generalize JP d n k*2 ^ wv d n k=U_ at *;generalize JP d n k=A at *;generalize wv d n k=P at *;have w1:=wr (n:=(P:Int)) (by omega) (by omega);have n1:¬ (P:Int)<0:=by omega
 simp[-getElem?_pos];rw[qG rfl];simp[-getElem?_pos,qN];refine⟨qc.acall hb ?_,qc.acall hb ?_⟩
 all_goals
  rintro r ⟨H1,T1⟩ ⟨rfl,hk1⟩;dsimp only at hk1;have b1:=hk1.2 _ _ lk0 (by simp);simp[-getElem?_pos,qN,b1];refine qc.call hl (by simp) ?_;simp[-getElem?_pos,-zp,qN,Yy,b1,w1,n1,s1,IntKind.bits];exact KpL.app.trans hk1
theorem qpm {d:List Nd}(hd:DagOk d){n k:Nat}(hn:n<=20)(hk:k<d.length)(hdp:yg d k<n)(H:List Blk)(T:List (Option Nat)) :
 qf Tryz.prog GG 53 [.agg (zt d),.int .i64 k,.int .i64 n] ⟨H,T⟩ (fun r U'=>r=.bool true/\KpL [] H U'.H):=by
 refine qf.k qe Tryz.func53 rfl (by kernel_rfl) ?_;have hdm:=hd.most;have n1:¬ (n:Int)<0:=by omega
 have n2:¬ (20:Int)<n:=by omega
 have n3:¬ (k:Int)<0:=by omega
 have n4:¬ (d.length:Int)<=k:=by omega
 have n5:¬ d.length<=k:=by omega
 have hf:=qiq (fun _=>True) hd (c:=104) (cfr:=[]) (e0:=-1) (e1:=-1) (f:=k) (val:=yg d) hk trivial Zc qip qio (fun k x _ h2 hx=>⟨trivial,trivial,wj hd h2 hx⟩)
  (H++[.cells (zt d)]) T (fun k x H' T' _ h2 hx hk'=>qpl x _ _ H' T')
 simp only[zt]at hf;have hv:=Y8 d hd;simp only[zt]at hv;generalize yg d k=D at *;simp[-getElem?_pos,n1,n2,n3,n4,n5];refine qc.call hv (by simp) ?_;simp[-getElem?_pos,n1,n2,n3,n4,n5];refine qc.acall hf ?_;rintro r ⟨H1,T1⟩ ⟨rfl,hk1⟩;simp[-getElem?_pos,hdp];exact KpL.app.trans hk1
theorem qpI {d:List Nd}(hd:DagOk d){n k:Nat}(hn:n<=20)(hk:k<d.length)(hdp:yg d k<n)(H:List Blk)(T:List (Option Nat)) :
 qf Tryz.prog GG 23 [.agg (zt d),.int .i64 k,.int .i64 n] ⟨H,T⟩ (fun r U'=>r=.tup [.int .i64 (Wy d 0 n k:Nat),.int .i64 0]/\KpL [] H U'.H):=by
 refine qf.k qe Tryz.func23 rfl (by kernel_rfl) ?_;have hf:=qpm hd hn hk hdp (H++[.cells (zt d)]) T;simp only[zt]at hf;simp[-getElem?_pos];refine qc.acall hf ?_;rintro r ⟨H1,T1⟩ ⟨rfl,hk1⟩;dsimp only at hk1;have b1:=hk1.2 _ _ lk0 (by simp);simp[-getElem?_pos,b1];refine qc.acall (qph hd hn hk hdp H1 T1) ?_;rintro r ⟨H2,T2⟩ ⟨rfl,hk2⟩;simp[-getElem?_pos];exact KpL.app.trans (hk1.trans hk2)
structure RnH (p:Problem):Prop where
 q:VQ p
 v20:p.vars.length<=20
 bits:yP p.vars (qz p)<=18
 dl:p.dists.length<=10000
 sl:p.soft.length<=10000
 wl:∀ d∈p.dists,d.weights.length<=1000
noncomputable def jY (p:Problem):Nat×Int:=if (qq p).2≠0 then (0,(qq p).2) else (solN p (qq p).1,0)
def qov:List (Nat×Sch×List Nat):=[(5,.step 0 [14,13,12,11,10,3,2,1] (.step 1 [14,13,12,11,10,3,2] (.step 2 [14,13,12,11,10,3] (.step 3 [14,13,12,11,10] (.step 4 [14,13,12,11,10,7,6,5] (.step 5 [14,13,12,11,10,7,6] (.step 6 [14,13,12,11,10,7] (.step 7 [14,13,12,11,10] (.step 8 [14,13,12,11,10,9] (.step 9 [14,13,12,11,10] (.step 10 [14,13,12,11] (.step 11 [14,13] (.step 12 [14,13] (.step 13 [14] (.step 14 [] (.done))))))))))))))),[10])]
theorem RnH.LW {p:Problem}(h:RnH p)(hv:qj p=0):LW p (NG p).flatten<=18:=by
 have h1:=qdn hv h.q.vars;have h2:=h.bits;omega
theorem RnH.all {p:Problem}(h:RnH p)(hv:qj p=0):(yl p.vars).length<=2 ^ 18:=by
 have h3:=(VI hv).length_eq;rw[qqS,VU]at h3;rw[<- h3];exact qqJ (by omega) (h.LW hv)
theorem qbW (p:Problem)(h:RnH p)(H:List Blk)(T:List (Option Nat)) :
 qf Tryz.prog GG 10 [.agg (qE p)] ⟨H,T⟩ (fun r U'=>r=.tup [.int .i64 (jY p).1,.int .i64 (jY p).2]/\KpL [] H U'.H):=by
 refine qf.kO ⟨false,qov,[],[]⟩ qe Tryz.func10 rfl (by kernel_rfl) ?_;have hop:=qaO p h.q h.v20 h.bits h.dl h.sl h.wl (H++[.cells (qE p)]) T;obtain⟨res,hres⟩:∃ res,res=jY p:=⟨_,rfl⟩;rw[<- hres];unfold jY at hres;simp only[qE]at hop;simp[-getElem?_pos];refine qc.acall hop ?_;rintro v ⟨H1,T1⟩ ⟨hk1,hr⟩;dsimp only at hk1;have b0:=hk1.2 _ _ lk0 (by simp);have hkH:KpL [] H H1:=KpL.app.trans hk1;rcases hr with ⟨he,rfl⟩|⟨he,s,d,rfl,hS,hL,hLL,hsp,hsR,hso,hsv,hroot⟩
 . rw[if_pos he]at hres;subst hres;simp[-getElem?_pos,he];exact hkH
 . rw[if_neg (by simp[he])]at hres;subst hres;subst hsp;have hv:=hsv.vp;have hsc:=hso.c;simp only[spE,qE,qqz,qqw]at hsc
   cases hsm:s.small with
   | true=>
    obtain⟨hd,⟨tok,hdv⟩,hrt⟩:=hsv.dag hsm;obtain⟨c1,c2⟩:=ql1 hv hd hrt (hroot hsm);have hb:=qjc s.p h.q h.v20;have hlw:=h.LW hv;rw[<- qdn hv h.q.vars]at hb;have hc:=qpI hd (n:=LW s.p (NG s.p).flatten) (k:=s.root) (by omega) hrt c1 H1 T1;rw[c2]at hc;rw[hsm,hdv]at hsc;simp only[qE]at hb;generalize solN s.p (qq s.p).1=N at *;simp[-getElem?_pos,hsc];rw[qG rfl];simp[-getElem?_pos,qN,hsc,b0];refine qc.call hb (by simp) ?_;simp[-getElem?_pos,qN];refine qc.acall (hc.leq (by simp[zt,Leq.sl])) ?_;rintro r ⟨H2,T2⟩ ⟨rfl,hk2⟩;dsimp only at hk2;simp[-getElem?_pos,qN];exact hkH.trans hk2
   | false=>
    have hen:=enum82 (s:=s) h.q (fun v hv'=>by have:=zd (jl hv v hv');omega) hsv.rl (fun e he'=>(hsv.rk e he').2) (qq6 (h.all hv) (by decide)) hso T1;rw[qhL hv,hsR]at hen;rw[hsm]at hsc;generalize solN s.p (qq s.p).1=N at *;simp[-getElem?_pos,hsc];refine qc.acall hen ?_;rintro r ⟨H2,T2⟩ ⟨rfl,hk2⟩;dsimp only at hk2;simp[-getElem?_pos];exact hkH.trans hk2
theorem qdl (p:Problem)(h:RnH p):Pure Tryz.prog GG 10 [.agg (qE p)] (.tup [.int .i64 (jY p).1,.int .i64 (jY p).2]):=by
 refine Pure.ofA (qbW p h [] []) ?_;rintro v U' ⟨rfl,-⟩;rw[qI (by simp)];exact⟨by simp,Leq.refl _⟩
noncomputable def ku (p:Problem)(gi:Int)(a:List Int):Int×Int:=if (qq p).2≠0 then (0,(qq p).2) else kI p gi a
theorem qmx (p:Problem)(h:RnH p)(gi:Int){r:AV}{a:List Int}{H:List Blk}(ha:AsR r a H)(T:List (Option Nat)) :
 qf Tryz.prog GG 11 [.agg (qE p),.int .i64 gi,r] ⟨H,T⟩ (fun v U'=>v=.tup [.int .i64 (ku p gi a).1,.int .i64 (ku p gi a).2]/\KpL [] H U'.H):=by
 refine qf.k qe Tryz.func11 rfl (by kernel_rfl) ?_;have hop:=qaO p h.q h.v20 h.bits h.dl h.sl h.wl (H++[.cells (qE p)]) T;obtain⟨res,hres⟩:∃ res,res=ku p gi a:=⟨_,rfl⟩;rw[<- hres];unfold ku at hres;simp only[qE]at hop;simp[-getElem?_pos];refine qc.acall hop ?_;rintro v ⟨H1,T1⟩ ⟨hk1,hr⟩;dsimp only at hk1;have hkH:KpL [] H H1:=KpL.app.trans hk1;rcases hr with ⟨he,rfl⟩|⟨he,s,d,rfl,hS,hL,hLL,hsp,hsR,hso,hsv,hroot⟩
 . rw[if_pos he]at hres;subst hres;simp[-getElem?_pos,he];exact hkH
 . rw[if_neg (by simp[he])]at hres;have hR:SpR p s d:=⟨hsp,hsR,hsv,hroot⟩;have ht:=WR hsv gi hso (ha.keep hkH (by simp)) T1;rw[hR.tot,<- hres]at ht;simp[-getElem?_pos];refine qc.acall ht ?_;rintro v ⟨H2,T2⟩ ⟨rfl,hk2⟩;dsimp only at hk2;simp[-getElem?_pos];exact hkH.trans hk2
theorem qp5 (p:Problem)(h:RnH p)(gi:Int)(a:List Int):Pure Tryz.prog GG 11 [.agg (qE p),.int .i64 gi,.sl 1 (a.map qt) .none] (.tup [.int .i64 (ku p gi a).1,.int .i64 (ku p gi a).2]):=by
 refine Pure.ofA (qmx p h gi (H:=[]) (.inl ⟨.none,rfl⟩) []) ?_;rintro v U' ⟨rfl,-⟩;rw[qI (by simp)];exact⟨by simp,Leq.refl _⟩
noncomputable def QB (p:Problem)(gi:Int)(a:List Int)(k:Int):List Int×Int :=
 if (ku p gi a).2≠0 then ([],(ku p gi a).2) else if k<0\/(ku p gi a).1<=k then ([],12) else (jn p gi.toNat a k,0)
def ChO (o:List Int×Int)(H:List Blk)(v:AV)(U':St):Prop:=KpL [] H U'.H/\∃ w b,v=.tup [w,.int .i64 o.2]/\qgl b U'.H w o.1
theorem qj8 (p:Problem)(R:List Ex)(fx:Nat->Option Nat)(g:List Nat)(c:List (Nat×Nat)):V0 p R fx g c<=lim:=by
 cases g with
 | nil=>unfold V0 lim;split<;>omega
 | cons i r=>
  unfold V0;split
  . exact yt _ _ _ (qrS _)
  . exact qrS _
theorem qdA {p:Problem}{gi:Int}{a:List Int}(h:(kI p gi a).2=0):0<=gi/\gi.toNat<(NG p).length/\qH p.vars a=true/\1<=(kI p gi a).1/\(kI p gi a).1<lim:=by
 unfold kI at h⊢;split at h
 . cases h
 . rename_i hc;rw[if_neg hc];split at h
   . cases h
   . rename_i h0;rw[if_neg h0];split at h
     . cases h
     . rename_i h1;rw[if_neg h1];have hle:VY p (fun _=>none) a gi.toNat<=lim:=qj8 _ _ _ _ _;refine⟨?_,?_,?_,?_,?_⟩
       . exact Int.not_lt.1 fun e=>hc (.inl e)
       . have:¬ gi<0:=fun e=>hc (.inl e)
         have:¬ ((NG p).length:Int)<=gi:=fun e=>hc (.inr (.inl e))
         omega
       . cases hA:qH p.vars a with
         | true=>rfl
         | false=>exact absurd (.inr (.inr hA)) hc
       . dsimp only;omega
       . dsimp only;omega
theorem qjD (p:Problem)(h:RnH p)(hl12:qj p=0->(NG p).flatten.length<=12)(gi:Int){r:AV}{a:List Int}{H:List Blk}(ha:AsR r a H)(k:Int)(T:List (Option Nat)) :
 qf Tryz.prog GG 13 [.agg (qE p),.int .i64 gi,r,.int .i64 k] ⟨H,T⟩ (ChO (QB p gi a k) H):=by
 refine qf.k qe Tryz.func13 rfl (by kernel_rfl) ?_;have hop:=qaO p h.q h.v20 h.bits h.dl h.sl h.wl (H++[.cells (qE p)]) T;obtain⟨res,hres⟩:∃ res,res=QB p gi a k:=⟨_,rfl⟩;rw[<- hres];unfold QB at hres;simp only[qE]at hop;simp[-getElem?_pos];refine qc.acall hop ?_;rintro v ⟨H1,T1⟩ ⟨hk1,hr⟩;dsimp only at hk1;have hkH:KpL [] H H1:=KpL.app.trans hk1;rcases hr with ⟨he,rfl⟩|⟨he,s,d,rfl,hS,hL,hLL,hsp,hsR,hso,hsv,hroot⟩
 . have hto:ku p gi a=(0,(qq p).2):=if_pos he;rw[hto,if_pos he]at hres;subst hres;simp[-getElem?_pos,he];exact⟨hkH,_,0,rfl,.inl ⟨rfl,_,_,rfl⟩⟩
 . have hto:ku p gi a=kI p gi a:=if_neg (by simp[he]);rw[hto]at hres;have hR:SpR p s d:=⟨hsp,hsR,hsv,hroot⟩;have hv:=hsv.vp;rw[hsp]at hv;have ht:=WR hsv gi hso (ha.keep hkH (by simp)) T1;rw[hR.tot]at ht;have hok:=qdA (p:=p) (gi:=gi) (a:=a);have hch:=fun h1 h2 idx=>hR.ch (a:=a) (gi:=gi.toNat) h1 h2 idx
   generalize kI p gi a=tt at *;obtain⟨n,e⟩:=tt;dsimp only at hres ht hok;simp[-getElem?_pos];refine qc.acall ht ?_;rintro v ⟨H2,T2⟩ ⟨rfl,hk2⟩;dsimp only at hk2;have hkk:=hkH.trans hk2;by_cases he0:e=0
   . subst he0;rw[if_neg (by simp)]at hres;obtain⟨g0,g1,has,n1,n2⟩:=hok rfl;by_cases hk0:k<0
     . rw[if_pos (.inl hk0)]at hres;subst hres;simp[-getElem?_pos,hk0];exact⟨hkk,_,0,rfl,.inl ⟨rfl,_,_,rfl⟩⟩
     by_cases hk1:n<=k
     . rw[if_pos (.inr hk1)]at hres;subst hres;simp[-getElem?_pos,hk0,hk1];exact⟨hkk,_,0,rfl,.inl ⟨rfl,_,_,rfl⟩⟩
     rw[if_neg (fun h=>h.elim hk0 hk1)]at hres;have hc:=qeK hsv (by rw[hsp];exact hl12 hv) (gi:=gi.toNat) (by rw[hsp];exact g1) (r:=r) (a:=a) (by rw[hsp];exact wO hv has) (by rw[hsp];exact (ZS hv has).1) (hso.keep hk2 (by simp) (by simp) (by simp)) (ha.keep hkk (by simp)) T2 (idx:=k) (by omega) (by unfold lim at n2;omega);rw[hch has g1 k,show ((gi.toNat:Nat):Int)=gi by omega]at hc;simp[-getElem?_pos,hk0,hk1];refine qc.acall hc ?_;rintro v ⟨H3,T3⟩ ⟨hk3,N,rfl,hN1,hN2⟩;dsimp only at hk3 hN2;subst hres;simp[-getElem?_pos];refine⟨hkk.trans hk3,_,N,rfl,?_⟩;by_cases hnil:jn p gi.toNat a k=[]
     . exfalso;have hlen:=congrArg List.length hnil;rw[QA,(ZS hv has).1]at hlen;obtain⟨g,hg⟩:∃ g,(NG p)[gi.toNat]?=some g:=⟨_,qqe g1⟩;have hg':=qqd hg;have hgn:g≠[]:=by
        obtain⟨g',hg2,rfl⟩:=qqG.1 hg';have:=(jN hv).1 g' hg2;simpa using this
       have h1:=qeS hv
       cases g with
       | nil=>exact hgn rfl
       | cons x g=>
        have hx:x∈(NG p).flatten:=qqM.2 ⟨_,hg',by simp⟩;have h2:=qtK hx;have h3:p.vars.length=0:=(by simpa using hlen);omega
     . exact .inr ⟨hnil,rfl,hN2⟩
   . rw[if_pos he0]at hres;subst hres;simp[-getElem?_pos,he0];exact⟨hkk,_,0,rfl,.inl ⟨rfl,_,_,rfl⟩⟩
theorem qdQ (n:Nat)(h:n<9223372036854775808):Pure Tryz.prog GG 119 [.int .i64 n] (.int .u64 n):=by
 refine Pure.k qe Tryz.func119 rfl (by kernel_rfl) ?_;have h1:=wru (n:=n) (by omega) (by omega);have h2:¬ (n:Int)<0:=by omega
 simp[h2,yK,h1]
theorem qcu:∀ (b a:Nat),a<18446744073709551616->b<18446744073709551616->Pure Tryz.prog GG 120 [.int .u64 a,.int .u64 b] (.int .u64 (Nat.gcd a b:Nat)):=by
 intro b a ha hb;refine Pure.k qe Tryz.func120 rfl (by kernel_rfl) ?_;simp;refine qX.gen (fun n ev U=>∃ x y:Nat,n=y/\x<18446744073709551616/\y<18446744073709551616/\ev 0=.int .u64 x/\ev 1=.int .u64 y/\Nat.gcd x y=Nat.gcd a b) b ⟨a,b,rfl,ha,hb,by simp,by simp,rfl⟩ ?_;rintro y ev U R hR ⟨x,_,rfl,hx,hy,h0,h1,hg⟩;by_cases hz:y=0
 . subst hz;simp at hg;simp[h0,h1,hg]
 . simp[h0,h1,hz];refine hR (x % y) _ _ (qs5 _ (by omega)) ⟨y,x % y,rfl,hy,qrI (Nat.mod_le _ _) hx,by simp,by simp[qsl],?_⟩;rw[qtz y,<- Nat.gcd_rec,qtz];exact hg
theorem WW (a b:Nat)(ha:a<9223372036854775808)(hb:b<9223372036854775808):Pure Tryz.prog GG 66 [.int .i64 a,.int .i64 b] (.agg [.bool false,.int .u64 a,.int .u64 b]):=by
 refine Pure.k qe Tryz.func66 rfl (by kernel_rfl) ?_;have h1:¬ (a:Int)<0:=by omega
 have h2:¬ (b:Int)<0:=by omega
 simp[h1,h2];refine qc.call (qdQ a ha) (by simp) ?_;simp;refine qc.call (qdQ b hb) (by simp) ?_;simp
theorem udiv (a b:Nat)(hb:0<b)(ha:a<18446744073709551616):zp .quo .u64 a b=some (.int .u64 (a / b:Nat)):=by
 have h:¬ (b:Int)=0:=by omega
 have h2:a / b<18446744073709551616:=qrI (qrs _ _) ha;simp only[zp];rw[if_neg h,qsm (by omega)];show some (AV.int .u64 (IntKind.u64.wrap (((a / b:Nat):Int))))=_;rw[wru (Int.natCast_nonneg _) (Int.ofNat_lt.2 h2)]
theorem KZ (n d:Nat)(hn:n<18446744073709551616)(hd:d<18446744073709551616)(h0:0<d) :
 Pure Tryz.prog GG 67 [.agg [.bool false,.int .u64 n,.int .u64 d]] (.agg [.bool false,.int .u64 (n / Nat.gcd n d:Nat),.int .u64 (d / Nat.gcd n d:Nat)]):=by
 refine Pure.k qe Tryz.func67 rfl (by kernel_rfl) ?_;have hg:0<Nat.gcd n d:=qru _ h0;have h1:=udiv n _ hg hn;have h2:=udiv d _ hg hd;simp[-zp];refine qc.call (qcu d n hn hd) (by simp) ?_;generalize Nat.gcd n d=g at *;simp[-zp,h1,h2]
def qdS (n d:Nat):Nat×Nat×Nat:=if n<9223372036854775808/\d<9223372036854775808 then (n,d,0) else (0,0,3)
theorem qmQ (n d:Nat)(hn:n<18446744073709551616)(hd:d<18446744073709551616) :
 Pure Tryz.prog GG 68 [.agg [.bool false,.int .u64 n,.int .u64 d]] (.tup [.agg [.int .i64 (qdS n d).1,.int .i64 (qdS n d).2.1],.int .i64 (qdS n d).2.2]):=by
 refine Pure.k qe Tryz.func68 rfl (by kernel_rfl) ?_;unfold qdS;by_cases h1:n<9223372036854775808
 . have h1':¬ (9223372036854775807:Int)<n:=(by omega);have w1:=wr (n:=n) (by omega) (by omega);by_cases h2:d<9223372036854775808
   . have h2':¬ (9223372036854775807:Int)<d:=(by omega);have w2:=wr (n:=d) (by omega) (by omega);simp[h1,h1',h2,h2',yK,w1,w2]
   . have h2':(9223372036854775807:Int)<d:=(by omega);simp[h1,h1',h2,h2']
 . have h1':(9223372036854775807:Int)<n:=(by omega);simp[h1,h1']
def yk (a b:Nat):Nat×Nat:=(a / Nat.gcd a b,b / Nat.gcd a b)
theorem qm4 (a b:Nat)(ha:a<9223372036854775808)(hb:b<9223372036854775808)(h0:0<b) :
 Pure Tryz.prog GG 34 [.int .i64 a,.int .i64 b] (.tup [.agg [.int .i64 (yk a b).1,.int .i64 (yk a b).2],.int .i64 0]):=by
 refine Pure.k qe Tryz.func34 rfl (by kernel_rfl) ?_;have hb0:¬ (b:Int)=0:=by omega
 have h1:a / Nat.gcd a b<9223372036854775808:=qrI (qrs _ _) ha;have h2:b / Nat.gcd a b<9223372036854775808:=qrI (qrs _ _) hb;have hr:=qmQ (a / Nat.gcd a b) (b / Nat.gcd a b) (by omega) (by omega);have hre:=KZ a b (by omega) (by omega) h0;unfold qdS at hr;rw[if_pos ⟨h1,h2⟩]at hr;unfold yk;generalize a / Nat.gcd a b=x at *;generalize b / Nat.gcd a b=y at *;simp[hb0,show ¬ b=0 by omega];refine qc.call (WW a b ha hb) (by simp) ?_;simp;refine qc.call hre (by simp) ?_;simp;refine qc.call hr (by simp) ?_;simp
theorem qnn (a b c d:Int):Vw (Dof Tryz.prog) 41 [.int .i64 a,.int .i64 b] [.int .i64 c,.int .i64 d]=some ((a==c)&&(b==d)):=by
 simp[Vw,YX,yM,qU,zR,qrG,zX,ka]
theorem qdw (a b:Nat)(ha:a<9223372036854775808)(hb:b<9223372036854775808)(h0:0<b)(hc:Nat.gcd a b=1) :
 Pure Tryz.prog GG 121 [.agg [.int .i64 a,.int .i64 b]] (.bool true):=by
 refine Pure.k qe Tryz.func121 rfl (by kernel_rfl) ?_;have hb1:¬ (b:Int)<1:=by omega
 have hm:=qm4 a b ha hb h0;unfold yk at hm;rw[hc,qtJ,qtJ]at hm;simp[hb1];refine qc.call hm (by simp) ?_;simp[qnn]
theorem qpO (a b c d:Nat)(ha:a<9223372036854775808)(hb:b<9223372036854775808)(h0:0<b)(hab:Nat.gcd a b=1)(hc:c<9223372036854775808)(hd:d<9223372036854775808)(h1:0<d)(hcd:Nat.gcd c d=1) :
 Pure Tryz.prog GG 70 [.agg [.int .i64 a,.int .i64 b],.agg [.int .i64 c,.int .i64 d]] (.bool true):=by
 refine Pure.k qe Tryz.func70 rfl (by kernel_rfl) ?_;simp;refine qc.call (qdw a b ha hb h0 hab) (by simp) ?_;simp;refine qc.call (qdw c d hc hd h1 hcd) (by simp) ?_;simp
def qop (a b c d:Nat):Nat:=(a / Nat.gcd a d)*(c / Nat.gcd c b)
def qkn (a b c d:Nat):Nat:=(b / Nat.gcd c b)*(d / Nat.gcd a d)
theorem Z4 {a b c d:Nat}(hb:0<b)(hd:0<d)(hab:Nat.gcd a b=1)(hcd:Nat.gcd c d=1):Nat.gcd (qop a b c d) (qkn a b c d)=1:=by
 have hg:0<Nat.gcd a d:=qru _ hd;have hh:0<Nat.gcd c b:=qru _ hb;have k1:Nat.Coprime (a / Nat.gcd a d) (d / Nat.gcd a d):=qsF hg;have k2:Nat.Coprime (c / Nat.gcd c b) (b / Nat.gcd c b):=qsF hh;have k3:Nat.Coprime (a / Nat.gcd a d) (b / Nat.gcd c b):=Nat.Coprime.coprime_dvd_left (qsW (qsh a d)) (Nat.Coprime.coprime_dvd_right (qsW (qsa c b)) hab);have k4:Nat.Coprime (c / Nat.gcd c b) (d / Nat.gcd a d):=Nat.Coprime.coprime_dvd_left (qsW (qsh c b)) (Nat.Coprime.coprime_dvd_right (qsW (qsa a d)) hcd);exact Nat.Coprime.mul_left (Nat.Coprime.mul_right k3 k1) (Nat.Coprime.mul_right k2 k4)
def yG (a b c d:Nat):Nat×Nat×Nat:=qdS (qop a b c d) (qkn a b c d)
theorem qfw (a b c d:Nat)(ha:a<9223372036854775808)(hb:b<9223372036854775808)(h0:0<b)(hab:Nat.gcd a b=1)(hc:c<9223372036854775808)(hd:d<9223372036854775808)(h1:0<d)(hcd:Nat.gcd c d=1) :
 Pure Tryz.prog GG 71 [.agg [.bool false,.int .u64 a,.int .u64 b],.agg [.bool false,.int .u64 c,.int .u64 d]] (.tup [.agg [.int .i64 (yG a b c d).1,.int .i64 (yG a b c d).2.1],.int .i64 (yG a b c d).2.2]):=by
 refine Pure.k qe Tryz.func71 rfl (by kernel_rfl) ?_;have hg:0<Nat.gcd a d:=qru _ h1;have hh:0<Nat.gcd c b:=qru _ h0;have q1:=udiv a _ hg (by omega);have q2:=udiv c _ hh (by omega);have q3:=udiv b _ hh (by omega);have q4:=udiv d _ hg (by omega);have l1:a / Nat.gcd a d<=a:=qrs _ _;have l2:c / Nat.gcd c b<=c:=qrs _ _;have l3:b / Nat.gcd c b<=b:=qrs _ _;have l4:d / Nat.gcd a d<=d:=qrs _ _;have hcop:=Z4 h0 h1 hab hcd;have p3:0<b / Nat.gcd c b:=qsA (qsc h0 (qsa _ _)) hh;have p4:0<d / Nat.gcd a d:=qsA (qsc h1 (qsa _ _)) hg;have g1:=qcu d a (by omega) (by omega);have g2:=qcu b c (by omega) (by omega);unfold yG;unfold qop qkn at *;generalize Nat.gcd a d=g at *;generalize Nat.gcd c b=h at *;generalize a / g=A at *;generalize c / h=C at *;generalize b / h=B at *;generalize d / g=D at *;have hD:0<B*D:=qte p3 p4;generalize hN:A*C=N at *;generalize hM:B*D=M at *;obtain⟨nh,nl,hn1,hn2⟩:∃ nh nl,N=18446744073709551616*nh+nl/\nl<18446744073709551616:=⟨N / 18446744073709551616,N % 18446744073709551616,by omega,by omega⟩;obtain⟨mh,ml,hm1,hm2⟩:∃ mh ml,M=18446744073709551616*mh+ml/\ml<18446744073709551616:=⟨M / 18446744073709551616,M % 18446744073709551616,by omega,by omega⟩;have m1:=qaZ A C nh nl (by omega) (by omega) (by rw[hN];exact hn1) hn2;have m2:=qaZ B D mh ml (by omega) (by omega) (by rw[hM];exact hm1) hm2;simp[-zp];refine qc.call g1 (by simp) ?_;simp[-zp];refine qc.call g2 (by simp) ?_;simp[-zp,q1,q2];refine qc.call m1 (by simp) ?_;simp[-zp,q3,q4];refine qc.call m2 (by simp) ?_;by_cases n0:nh=0
 . by_cases n1:mh=0
   . subst n0 n1;have e1:N=nl:=(by omega);have e2:M=ml:=(by omega);subst e1 e2;have hre:=KZ N M hn2 hm2 hD;rw[hcop,qtJ,qtJ]at hre;have hra:=qmQ N M hn2 hm2;generalize qdS N M=rs at *;simp;refine qc.call hre (by simp) ?_;simp;refine qc.call hra (by simp) ?_;simp
   . have hr:qdS N M=(0,0,3):=(by unfold qdS;rw[if_neg (by omega)]);simp[hr,n0,n1,unA]
 . have hr:qdS N M=(0,0,3):=(by unfold qdS;rw[if_neg (by omega)]);simp[hr,n0,unA]
theorem mul93 (a b c d:Nat)(ha:a<9223372036854775808)(hb:b<9223372036854775808)(h0:0<b)(hab:Nat.gcd a b=1)(hc:c<9223372036854775808)(hd:d<9223372036854775808)(h1:0<d)(hcd:Nat.gcd c d=1) :
 Pure Tryz.prog GG 36 [.agg [.int .i64 a,.int .i64 b],.agg [.int .i64 c,.int .i64 d]] (.tup [.agg [.int .i64 (yG a b c d).1,.int .i64 (yG a b c d).2.1],.int .i64 (yG a b c d).2.2]):=by
 refine Pure.k qe Tryz.func36 rfl (by kernel_rfl) ?_;simp;refine qc.call (qpO a b c d ha hb h0 hab hc hd h1 hcd) (by simp) ?_;simp;refine qc.call (WW a b ha hb) (by simp) ?_;simp;refine qc.call (WW c d hc hd) (by simp) ?_;simp;refine qc.call (qfw a b c d ha hb h0 hab hc hd h1 hcd) (by simp) ?_;simp
theorem qmD (p:Problem)(h:RnH p)(hl12:qj p=0->(NG p).flatten.length<=12)(gi:Int)(a:List Int)(k:Int) :
 Pure Tryz.prog GG 13 [.agg (qE p),.int .i64 gi,.sl 1 (a.map qt) .none,.int .i64 k] (.tup [.sl 1 ((QB p gi a k).1.map qt) .none,.int .i64 (QB p gi a k).2]):=by
 refine Pure.ofA (qjD p h hl12 gi (H:=[]) (.inl ⟨.none,rfl⟩) k []) ?_;rintro v U' ⟨_,w,b,rfl,hr⟩;obtain⟨h1,h2,h3⟩:=hr.frz 6;exact Q4 h1 h2 h3
def yp (p:Problem)(gi:Nat)(a:List Int):Nat:=((NG p).getD gi []).foldl (fun n i=>sat (n*wtP p i (aN a i))) 1
def qos:List (Nat×Sch×List Nat):=[(5,.step 0 [12,11] (.step 1 [12,11,10,4,3,2] (.step 2 [12,11,10,4,3] (.step 3 [12,11,10,4] (.step 4 [12,11,10] (.step 5 [12,11,10] (.step 6 [12,11,10,9,8] (.step 7 [12,11,10,9,8] (.step 8 [12,11,10,9] (.step 9 [12,11,10] (.step 10 [12,11] (.step 11 [12] (.step 12 [] (.done))))))))))))),[10])]
theorem qhm {s:Spc}{d:List Nd}(h:SpV s d){gi:Nat}(hgi:gi<(NG s.p).length){r:AV}{a:List Int}{H:List Blk}(hao:AOk s.p a)(hs:SpOk s H)(ha:AsR r a H)(T:List (Option Nat)) :
 qf Tryz.prog GG 35 [.ptr s.S 0,.int .i64 gi,r] ⟨H,T⟩ (fun v U'=>v=.int .i64 (yp s.p gi a:Nat)/\KpL [] H U'.H):=by
 refine qf.kO ⟨false,qos,[],[]⟩ qe Tryz.func35 rfl (by kernel_rfl) ?_;have hS:=hs.c;have hG:=WE h.vp;obtain⟨g,hg⟩:∃ g,(NG s.p)[gi]?=some g:=⟨_,qqe hgi⟩;have hgd:(NG s.p).getD gi []=g:=by simp[qqm,hg]
 have hl:=(VV h.vp h.vq.vars).1 g (qqd hg);have hgr:qmB s g:=h.gr fun i hi=>qqM.2 ⟨g,qqd hg,hi⟩
 have hin:∀ i∈g,i∈(NG s.p).flatten:=fun i hi=>qqM.2 ⟨g,qqd hg,hi⟩
 simp only[spE,qE,qqz,qqw,hG]at hS;have hgi':(gi:Int)<(NG s.p).length:=by omega
 unfold yp;rw[hgd];simp[-getElem?_pos,hS,hg,hgi,hgi',yf];refine qX.listR g (fun dn ev U=>ev 0=.ptr s.S 0/\ev 2=r/\ev 7=.int .i64 (dn.foldl (fun n i=>sat (n*wtP s.p i (aN a i))) 1:Nat)/\ev 17=.sl 1 (g.map zE) .none/\ev 18=.int .i64 g.length/\ev 19=.int .i64 dn.length/\KpL [] H U.H) ?_ ?_ ?_
 . exact⟨by simp,by simp,by simp,by simp,by simp,by simp,KpL.refl⟩
 . rintro dn i rest ev ⟨H1,T1⟩ R hR hdl hx hlt ⟨e0,e2,e7,e17,e18,e19,hk⟩;dsimp only at hk;obtain⟨v,l,hv,hw0,hw8,hll,hl20,hwn⟩:=hgr i (qqd hx);obtain⟨x,hax,hxb⟩:=hao i (hin i (qqd hx));have hs1:=hs.keep hk (by simp) (by simp) (by simp);have hS1:=hs1.c;simp only[spE,qE,qqz,qqw,hG]at hS1;obtain⟨u,hu1,hu2⟩:=(ha.keep hk (by simp)).at0 hax;have hdw:=wr (n:=(dn.length:Int)+1) (by omega) (by omega);have hlt':(dn.length:Int)<g.length:=(by omega);obtain⟨o,ho⟩:∃ o,(jf s.p.vars.length s.p.dists)[i]?=some o:=⟨_,qqe (by rw[yr];exact (qqc.1 hv).1)⟩;have hwt:wtP s.p i x=wtO o (x:Int):=(by simp[wtP,qqm,ho]);have hweigh:=WH s.p hs1.w ho (fun w hw=>hwn w (by rw[ho,hw])) (x:Int) T1;rw[<- hwt]at hweigh;have hwle:=qdo s.p i x;have haN:aN a i=x:=(by unfold aN;rw[qqm,hax];simp);have hsnoc:(dn++[i]).foldl (fun n i=>sat (n*wtP s.p i (aN a i))) 1=sat (dn.foldl (fun n i=>sat (n*wtP s.p i (aN a i))) 1*wtP s.p i x):=(by rw[qrp,<- haN];rfl);have hacc:dn.foldl (fun n i=>sat (n*wtP s.p i (aN a i))) 1<=lim:=by
    have:∀ (l:List Nat) (n:Nat),n<=lim->l.foldl (fun n i=>sat (n*wtP s.p i (aN a i))) n<=lim:=by
     intro l
     induction l with
     | nil=>intro n hn;exact hn
     | cons y l ih=>intro n hn;rw[qqR];exact ih _ (Yf _)
    exact this dn 1 (by decide)
   generalize dn.foldl (fun n i=>sat (n*wtP s.p i (aN a i))) 1=acc at *;generalize wtP s.p i x=wx at *;have ht:=WS acc wx hacc hwle;have hidx:zs (Dof Tryz.prog) 28 (.sl 1 (g.map zE) .none) (.int .i64 (dn.length:Nat))=some (.rptr [.int .i64 i]):=(by simp[-getElem?_pos,hlt,hx,zE]);have hlo:∀ U,yR (Dof Tryz.prog) U 3 (.rptr [.int .i64 (i:Int)])=some (.int .i64 i):=fun U=>by simp
   simp[-getElem?_pos,-zs,-yR,e0,e2,e7,e17,e18,e19,hlt,hlt',hidx,hlo];have hl10:yR (Dof Tryz.prog) ⟨H1,T1⟩ 68 (.ptr s.S 10)=some (.fn 98 [] [.ptr s.L 0]):=(by simp[-getElem?_pos,hS1]);rw[qG rfl];simp[-getElem?_pos,-zs,-yR,qN,hl10,e0,e2,e7,e17,e18,e19,hS1,hu1,hu2];refine qc.acall hweigh ?_;rintro w U ⟨rfl,rfl⟩;simp[-getElem?_pos];refine qc.call ht (by simp) ?_;simp[-getElem?_pos,e19,hdw];exact hR _ _ ⟨by simp[e0],by simp[e2],by simp[hsnoc],by simp[e17],by simp[e18],by simp,hk⟩
 . rintro ev ⟨H1,T1⟩ ⟨e0,e2,e7,e17,e18,e19,hk⟩;dsimp only at hk;simp[-getElem?_pos,e0,e2,e7,e17,e18,e19];exact hk
noncomputable def Jo (p:Problem)(a:List Int):List Nat->Nat->Nat->Nat×Nat×Int
 | [],n,d=>(n,d,0)
 | gi::rest,n,d=>
  if (kI p gi a).2≠0 then (0,0,(kI p gi a).2)
  else if (yG n d (yk (yp p gi a) (kI p gi a).1.toNat).1 (yk (yp p gi a) (kI p gi a).1.toNat).2).2.2≠0 then (0,0,3)
  else Jo p a rest (yG n d (yk (yp p gi a) (kI p gi a).1.toNat).1 (yk (yp p gi a) (kI p gi a).1.toNat).2).1 (yG n d (yk (yp p gi a) (kI p gi a).1.toNat).1 (yk (yp p gi a) (kI p gi a).1.toNat).2).2.1
noncomputable def Qt (p:Problem)(a:List Int):Nat×Nat×Int :=
 if (qq p).2≠0 then (0,0,(qq p).2) else if qH p.vars a=false then (0,0,1) else if (qq p).1.all (jM p a)=false then (0,1,0)
 else Jo p a (List.range (NG p).length) 1 1
structure FrOk (n d:Nat):Prop where
 nl:n<9223372036854775808
 dl:d<9223372036854775808
 pos:0<d
 cop:Nat.gcd n d=1
theorem qoW {a b:Nat}(ha:a<9223372036854775808)(hb:b<9223372036854775808)(h0:0<b):FrOk (yk a b).1 (yk a b).2:=by
 have hg:0<Nat.gcd a b:=qru _ h0;exact⟨qrI (qrs _ _) ha,qrI (qrs _ _) hb,qsA (qsc h0 (qsa _ _)) hg,qsF hg⟩
theorem mul_ok {a b c d:Nat}(h:FrOk a b)(g:FrOk c d)(he:(yG a b c d).2.2=0):FrOk (yG a b c d).1 (yG a b c d).2.1:=by
 have hc:=Z4 h.pos g.pos h.cop g.cop;have hp:0<qkn a b c d:=qte (qsA (qsc h.pos (qsa _ _)) (qru _ h.pos)) (qsA (qsc g.pos (qsa _ _)) (qru _ g.pos));unfold yG qdS at *;split at he
 . rename_i hlt;rw[if_pos hlt];exact⟨hlt.1,hlt.2,hp,hc⟩
 . cases he
theorem mul_e (a b c d:Nat):(yG a b c d).2.2≠0->(yG a b c d).2.2=3:=by
 unfold yG qdS;split<;>simp
theorem qkm (p:Problem)(gi:Nat)(a:List Int):yp p gi a<=lim:=by
 have:∀ (l:List Nat) (n:Nat),n<=lim->l.foldl (fun n i=>sat (n*wtP p i (aN a i))) n<=lim:=by
  intro l
  induction l with
  | nil=>intro n hn;exact hn
  | cons y l ih=>intro n hn;rw[qqR];exact ih _ (Yf _)
 exact this _ 1 (by decide)
def PrQ (o:Nat×Nat×Int)(H:List Blk)(v:AV)(U':St):Prop:=v=.tup [.agg [.int .i64 (o.1:Nat),.int .i64 (o.2.1:Nat)],.int .i64 o.2.2]/\KpL [] H U'.H
theorem qp8 (p:Problem)(h:RnH p)(a:List Int)(haf:Fits a)(H:List Blk)(T:List (Option Nat)) :
 qf Tryz.prog GG 15 [.agg (qE p),.sl 1 (a.map qt) .none] ⟨H,T⟩ (PrQ (Qt p a) H):=by
 refine qf.k qe Tryz.func15 rfl (by kernel_rfl) ?_;have hop:=qaO p h.q h.v20 h.bits h.dl h.sl h.wl (H++[.cells (qE p),.cells [.int .i64 0,.int .i64 0]]) T;obtain⟨res,hres⟩:∃ res,res=Qt p a:=⟨_,rfl⟩;rw[<- hres];unfold Qt at hres;simp only[qE]at hop;simp[-getElem?_pos];refine qc.acall hop ?_;rintro v ⟨H1,T1⟩ ⟨hk1,hr⟩;dsimp only at hk1;have b0:=hk1.2 _ _ lk0 (by simp);have b1:=hk1.2 _ _ lk1 (by simp);have b1l:=(qqc.1 b1).1;have hkH:KpL [] H H1:=KpL.app.trans hk1
 -- what is returned
 have out:∀ (H2:List Blk) (T2:List (Option Nat)) (n d:Nat) (e:Int),res=(n,d,e)->KpL [] H H2->PrQ res H (.tup [.agg [.int .i64 n,.int .i64 d],.int .i64 e]) ⟨H2.set (H.length+1) (.cells [.int .i64 n,.int .i64 d]),T2⟩:=fun H2 T2 n d e he hk=>by
  rw[he];exact⟨rfl,hk.setF (by omega)⟩
 rcases hr with ⟨he,rfl⟩|⟨he,s,d,rfl,hS,hL,hLL,hsp,hsR,hso,hsv,hroot⟩
 . rw[if_pos he]at hres;simp[-getElem?_pos,he,b1,b1l];exact out _ _ 0 0 _ hres hkH
 rw[if_neg (by simp[he])]at hres;have hR:SpR p s d:=⟨hsp,hsR,hsv,hroot⟩;have hw:∀ v∈s.p.vars,0<=v.width/\v.width<=8:=fun v hv=>by have:=zd (jl hsv.vp v hv);omega
 have has:=qbM hso hw hsv.vq.vars (r:=.sl 1 (a.map qt) .none) (a:=a) (.inl ⟨.none,rfl⟩) T1;have hv:=hsv.vp;rw[hsp]at has hv;simp[-getElem?_pos,he];refine qc.acall has ?_;rintro v ⟨H2,T2⟩ ⟨rfl,hk2⟩;dsimp only at hk2;have hkH2:=hkH.trans hk2;have b1':=hk2.2 _ _ b1 (by simp);have b1l':=(qqc.1 b1').1
 cases hA:qH p.vars a with
 | false=>
  rw[if_pos hA]at hres;simp[-getElem?_pos,b1',b1l',unA];exact out _ _ 0 0 _ hres hkH2
 | true=>
  rw[if_neg (by simp[hA])]at hres;have hso2:=hso.keep hk2 (by simp) (by simp) (by simp);have hsl:=qdK (s:=s) (hsp▸h.q) hso2 hsv.rl (r:=.sl 1 (a.map qt) .none) haf rfl (fun H' _=>by rw[qI (by simp)];exact Leq.refl _) (fun e he'=>(hsv.rk e he').2) T2;rw[hsR,hsp]at hsl;simp[-getElem?_pos,unA];refine qc.acall hsl ?_;rintro v ⟨H3,T3⟩ ⟨rfl,hk3⟩;dsimp only at hk3;have hkH3:=hkH2.trans hk3;have c1:=hk3.2 _ _ b1' (by simp);have c1l:=(qqc.1 c1).1
  cases hB:(qq p).1.all (jM p a) with
  | false=>
   rw[if_pos hB]at hres;simp[-getElem?_pos,c1,c1l,unA];exact out _ _ 0 1 _ hres hkH3
  | true=>
   rw[if_neg (by simp[hB])]at hres;have c0:=hk3.2 _ _ (hk2.2 _ _ b0 (by simp)) (by simp);have hG:=WE hv;have hng:=VV hv h.q.vars;simp only[qE,hG]at c0;have c0':=qa c0;simp[-getElem?_pos,unA,c0,c0'];refine yE (NG p).length (fun k ev U=>ev 1=.sl 1 (a.map qt) .none/\ev 4=.ptr (H.length+1) 0/\ev 6=.ptr s.S 0/\ev 8=.ptr H3.length 0/\ev 38=.int .i64 (NG p).length/\ev 39=.int .i64 k/\KpL [] H U.H/\SpOk s U.H/\U.H[H.length+1]?=some (.cells [.int .i64 0,.int .i64 0]) /\
    ∃ n d:Nat,U.H[H3.length]?=some (.cells [.int .i64 n,.int .i64 d])/\FrOk n d/\res=Jo p a (List.range' k ((NG p).length-k)) n d) ?_ ?_ ?_
   . exact⟨by simp,by simp,by simp,by simp,by simp,by simp,hkH3.trans KpL.app,hso2.keep (hk3.trans KpL.app) (by simp) (by simp) (by simp),qa c1 _,1,1,lk0,⟨by decide,by decide,by decide,by decide⟩,by rw[hres,qrr];simp⟩
   . rintro k ev ⟨H4,T4⟩ R hR' hkn ⟨e1,e4,e6,e8,e38,e39,hk4,hso4,d1,n,dd,d8,hfr,hpr⟩;dsimp only at hk4 hso4 d1 d8;have hkn':(k:Int)<(NG p).length:=(by omega);have hwk:=wr (n:=(k:Int)+1) (by omega) (by omega);have hrg:List.range' k ((NG p).length-k)=k::List.range' (k+1) ((NG p).length-(k+1)):=by
      obtain⟨m,hm⟩:∃ m,(NG p).length-k=m+1:=⟨(NG p).length-k-1,by omega⟩;rw[hm,qrt,show (NG p).length-(k+1)=m by omega]
     rw[hrg]at hpr;unfold Jo at hpr;have ht:=WR hsv (k:Int) hso4 (r:=.sl 1 (a.map qt) .none) (a:=a) (.inl ⟨.none,rfl⟩) T4;rw[hR.tot]at ht;have hok:=qdA (p:=p) (gi:=(k:Int)) (a:=a);have hpl:=qkm p k a;rw[qqT]at hok;have hpd:=fun H T (hs:SpOk s H)=>qhm hsv (gi:=k) (by rw[hsp];exact hkn) (r:=.sl 1 (a.map qt) .none) (a:=a) (by rw[hsp];exact wO hv hA) hs (.inl ⟨.none,rfl⟩) T
     rw[hsp]at hpd;generalize yp p k a=pr at *;generalize kI p (k:Int) a=tt at *;obtain⟨t,e⟩:=tt;dsimp only at hpr ht hok;simp[-getElem?_pos,e1,e4,e6,e8,e38,e39,hkn'];refine qc.acall ht ?_;rintro v ⟨H5,T5⟩ ⟨rfl,hk5⟩;dsimp only at hk5;have f1:=hk5.2 _ _ d1 (by simp);have f1l:=(qqc.1 f1).1;by_cases he0:e=0
     case neg=>
      rw[if_pos he0]at hpr;simp[-getElem?_pos,e1,e4,e6,e8,e38,e39,he0,f1,f1l];exact out _ _ 0 0 _ hpr (hk4.trans hk5)
     subst he0;rw[if_neg (by simp)]at hpr;obtain⟨g0,g1,-,n1,n2⟩:=hok rfl;obtain⟨t,rfl⟩:=qqL (by omega:0<=t);rw[qqT]at hpr;unfold lim at n2 hpl;have hso5:=hso4.keep hk5 (by simp) (by simp) (by simp);have hmk:=qm4 pr t (by omega) (by omega) (by omega);have hmf:=qoW (a:=pr) (b:=t) (by omega) (by omega) (by omega);generalize yk pr t=mk at *;obtain⟨x,y⟩:=mk;dsimp only at hpr hmk hmf;have hml:=mul93 n dd x y hfr.nl hfr.dl hfr.pos hfr.cop hmf.nl hmf.dl hmf.pos hmf.cop;have hmo:=mul_ok hfr hmf;have hme:=mul_e n dd x y;generalize yG n dd x y=mm at *;obtain⟨u,w,z⟩:=mm;dsimp only at hpr hml hmo hme;simp[-getElem?_pos,e1,e4,e6,e8,e38,e39];refine qc.acall (hpd _ _ hso5) ?_;rintro v ⟨H6,T6⟩ ⟨rfl,hk6⟩;dsimp only at hk6;have hkk6:=(hk4.trans hk5).trans hk6;have g1':=hk6.2 _ _ f1 (by simp);have g8:=hk6.2 _ _ (hk5.2 _ _ d8 (by simp)) (by simp);have g1l:=(qqc.1 g1').1;have g8l:=(qqc.1 g8).1;have g8a:=qa g8;have g1a:=qa g1';simp[-getElem?_pos,e1,e4,e6,e8,e38,e39];refine qc.call hmk (by simp) ?_;simp[-getElem?_pos,e1,e4,e6,e8,e38,e39,g8a];refine qc.call hml (by simp) ?_;have hne:H3.length≠H.length+1:=(by have:=hk3.1;omega);have q1:∀ X Y,((H6++[X]).set H3.length Y)[H.length+1]?=some (.cells [.int .i64 0,.int .i64 0]):=fun X Y=>by rw[qqf hne];exact g1a _
     have hl3:∀ X:Blk,H3.length<(H6++[X]).length:=fun X=>by simp;omega
     have hl1:∀ X:Blk,H.length+1<(H6++[X]).length:=fun X=>by simp;omega
     have hkx:∀ X Y,KpL [] H ((H6++[X]).set H3.length Y):=fun X Y=>KpL.setF (hkk6.trans KpL.app) (by have:=hkH3.1;omega)
     by_cases hz:z=0
     . subst hz;rw[if_neg (by simp)]at hpr;simp[-getElem?_pos,e1,e4,e6,e8,e38,e39,g8a,hwk,q1];have hlt3:=(hso2.keep hk3 (by simp) (by simp) (by simp)).lt;have hso7:SpOk s ((H6++[Blk.cells [.int .i64 x,.int .i64 y]]).set H3.length (Blk.cells [.int .i64 u,.int .i64 w])):=hso5.keep (bs:=[H3.length]) (KpL.trans (hk6.sub (by simp)) (KpL.trans KpL.app (KpL.set (by simp)))) (by simp;omega) (by simp;omega) (by simp;omega);exact hR' _ _ ⟨by simp[e1],by simp[e4],by simp[e6],by simp[e8],by simp[e38],by simp,hkx _ _,hso7,q1 _ _,u,w,qqh (hl3 _),hmo rfl,hpr⟩
     . rw[if_pos hz]at hpr;have:=hme hz;subst this;have q2:∀ X Y Z,(((H6++[X]).set H3.length Y).set (H.length+1) Z)[H.length+1]?=some Z:=fun X Y Z=>qqh (by rw[qry];exact hl1 X)
       simp[-getElem?_pos,e1,e4,e6,e8,e38,e39,g8a,q1,q2];exact out _ _ 0 0 _ hpr (hkx _ _)
   . rintro ev ⟨H4,T4⟩ ⟨e1,e4,e6,e8,e38,e39,hk4,hso4,d1,n,dd,d8,hfr,hpr⟩;dsimp only at hk4 hso4 d1 d8;have d1l:=(qqc.1 d1).1;have:res=(n,dd,0):=by rw[hpr,qro];rfl
     simp[-getElem?_pos,e1,e4,e6,e8,e38,e39,d8,d1,d1l];exact out _ _ _ _ _ this hk4
theorem qjx (p:Problem)(h:RnH p)(a:List Int)(haf:Fits a):Pure Tryz.prog GG 15 [.agg (qE p),.sl 1 (a.map qt) .none] (.tup [.agg [.int .i64 ((Qt p a).1:Nat),.int .i64 ((Qt p a).2.1:Nat)],.int .i64 (Qt p a).2.2]):=by
 refine Pure.ofA (qp8 p h a haf [] []) ?_;rintro v U' ⟨rfl,-⟩;rw[qI (by simp)];exact⟨by simp,Leq.refl _⟩
end Go.Proofs.YtkpkjbchlabaaaaGreatDoor
end
