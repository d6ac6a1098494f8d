/- A part of the proof. -/
import Derived.Test.YtcadpamddlofjaaGreatDoorPa14
import Derived.Test.YtcadpamddlofjaaGreatDoorPa13
import Derived.Test.YtcadpamddlofjaaGreatDoorPa11
set_option maxHeartbeats 16000000
set_option linter.unusedVariables false
set_option linter.unusedSimpArgs false
set_option maxRecDepth 100000
set_option linter.defProp false
section
namespace Go.Proofs.YtcadpamddlofjaaGreatDoor
open Go Go.Abs
def oM:Opts:=⟨true,[],[],[]⟩
@[simp]theorem oM_mu:oM.mu=true:=rfl
@[simp]theorem oM_lw:oM.lw=[]:=rfl
theorem qod (n:Nat)(hn:n<=1000000)(U:St):qg Tryz.prog GG 111 [.sl 0 [] .nil,.int .i64 n] U (fun r U'=>(n=0/\r=.sl 0 [] .nil/\U'=U)\/(0<n/\r=.ms U.H.length 0 0 4/\∃ c,U'=U.push (.cells c))):=by
 refine qg.vcO oM qe Tryz.func111 rfl (by kernel_rfl) ?_;have h1:¬ (n:Int)<0:=by omega
 have hw:IntKind.i64.wrap (n:Int)=n:=wr (by omega) (by omega);have w0:IntKind.i64.wrap 0=0:=by decide
 by_cases h0:n=0
 . subst h0;simp[capA,w0]
 . have h2:(0:Int)<n:=(by omega);have h3:0<n:=(by omega);have h4:(n:Int)<=549755813888:=(by omega);simp[capA,h1,hw,w0,h2,h3,h4,zo,zU,yL,zY,zu,ji,qR]
def CR (T R:List Ex)(v:AV)(U:St):Prop:=(T=[]/\v=.sl 0 [] .nil)\/∃ b c,v=.ms b 0 R.length 4/\U.H[b]?=some (.cells c)/\R.length*4<=c.length/\c.take (R.length*4)=(R.map qt).flatten
@[simp]theorem W8 (e:Ex):(qt e).length=4:=by rw[qd];rfl
theorem flat_lenW:∀ (l:List Ex),((l.map qt).flatten).length=l.length*4
 | []=>rfl
 | a::r=>by simp only[qo9,qpF,qo3,W8,flat_lenW r,qpd];omega
theorem chunk_flatW:∀ (R:List Ex) (c:List AV),R.length*4<=c.length->c.take (R.length*4)=(R.map qt).flatten->kw 4 R.length c=R.map qt
 | [],c,_,_=>rfl
 | a::r,c,hl,h=>by
  have e1:c.take 4=qt a:=by
   have:=congrArg (List.take 4) h;rw[List.take_take,qo9,qpF,List.take_left' (W8 a)]at this;rw[<- this];congr 1;simp only[qpd];omega
  have e2:(c.drop 4).take (r.length*4)=(r.map qt).flatten:=by
   have:=congrArg (List.drop 4) h;rw[qo9,qpF,List.drop_left' (W8 a),List.drop_take]at this;rw[<- this];congr 1;simp only[qpd];omega
  rw[qpd,kw,e1,chunk_flatW r (c.drop 4) (by simp only[qra,qpd]at hl ⊢;omega) e2,qo9]
theorem app_stepW {T R X:List Ex}{b:Nat}{c:List AV}{U:St}(hb:U.H[b]?=some (.cells c))(hl:R.length*4<=c.length)(h:c.take (R.length*4)=(R.map qt).flatten)(hR:R.length+X.length<=1000000) :
 ∃ v' U',zu (Dof Tryz.prog) U 23 23 (.ms b 0 R.length 4) (.sl 4 (X.map qt) .none)=some (v',U')/\CR T (R++X) v' U':=by
 cases X with
 | nil=>
  refine⟨.ms b 0 R.length 4,U,?_,.inr ⟨b,c,by simp,hb,by simpa using hl,by simpa using h⟩⟩;simp[zu,ji,qR,Ww]
 | cons x X=>
  refine⟨.ms U.H.length 0 (R.length+(X.length+1)) 4,{ U with H:=U.H.set b .dead++[.cells (c.take (R.length*4)++((x::X).map qt).flatten)] },?_,.inr ⟨U.H.length,c.take (R.length*4)++((x::X).map qt).flatten,by simp,by simp,?_,?_⟩⟩
  . have h1:R.length+(X.length+1)<=549755813888:=(by simp at hR;omega);simp[zu,ji,qR,Ww,hb,h1,hl]
  . rw[h];simp only[qo3,flat_lenW];omega
  . rw[h,qo6 (by simp only[qo3,flat_lenW];omega),qpV,qqy]
theorem qii (h s:List Ex)(hh:h.length<=10000)(hs:s.length<=10000):Pure Tryz.prog GG 74 [.sl 1 [[.sl 4 (h.map qt) .none],[.sl 4 (s.map qt) .none]] .none] (.sl 4 ((h++s).map qt) .none):=by
 refine Pure.vcO oM false qe Tryz.func74 rfl (by kernel_rfl) ?_;have w1:IntKind.i64.wrap (h.length:Int)=h.length:=wr (by omega) (by omega);have w2:IntKind.i64.wrap ((h.length:Int)+s.length)=h.length+s.length:=wr (by omega) (by omega);have n1:¬ (h.length:Int)<0:=by omega
 have n2:¬ (h.length:Int)+s.length<0:=by omega
 have wi:IntKind.i64.wrap 1=1:=by decide
 have wi2:IntKind.i64.wrap 2=2:=by decide
 simp;refine qF.intro (fun n env U=>∃ i:Nat,i<=2/\n=2-i/\env 0=.sl 1 [[.sl 4 (h.map qt) .none],[.sl 4 (s.map qt) .none]] .none/\env 3=.int .i64 (if i=0 then 0 else if i=1 then h.length else h.length+s.length)/\env 9=.sl 1 [[.sl 4 (h.map qt) .none],[.sl 4 (s.map qt) .none]] .none/\env 10=.int .i64 2/\env 11=.int .i64 i/\U=⟨[],[]⟩) 2 ⟨0,by simp⟩ ?_;rintro n env U ⟨i,hi,rfl,h0,h3,h9,h10,h11,rfl⟩;have hcase:i=0\/i=1\/i=2:=by omega
 rcases hcase with rfl|rfl|rfl
 . simp[h0,h3,h9,h10,h11,w1,n1,wi];exact⟨1,by omega,1,by omega,rfl,rfl,rfl⟩
 . simp[h0,h3,h9,h10,h11,w2,n2,wi2];exact⟨2,by omega,by omega,rfl,rfl⟩
 . have hN:((h.length:Int)+s.length)=((h.length+s.length:Nat):Int):=(by omega);simp[h0,h3,h9,h10,h11];rw[hN];refine qg.imp (qod (h.length+s.length) (by omega) ⟨[],[]⟩) ?_;intro r U' hr;have hcr:CR (h++s) [] r U':=by
    rcases hr with ⟨h1,h2,h3⟩|⟨h1,h2,c,h3⟩
    . exact .inl ⟨qpf (by rw[qo3];exact h1),h2⟩
    . subst h3;exact .inr ⟨0,c,h2,rfl,by simp,by simp⟩
   clear hr;refine qF.intro (fun n env U=>∃ i:Nat,i<=2/\n=2-i/\env 25=.sl 1 [[.sl 4 (h.map qt) .none],[.sl 4 (s.map qt) .none]] .none/\env 26=.int .i64 2/\env 27=.int .i64 i/\CR (h++s) (if i=0 then [] else if i=1 then h else h++s) (env 6) U) 2 ⟨0,by simp[h0];exact hcr⟩ ?_;clear h0 h3 h9 h10 h11 hcr;rintro n env U ⟨i,hi,rfl,h25,h26,h27,hcr⟩;have hcase:i=0\/i=1\/i=2:=(by omega);rcases hcase with rfl|rfl|rfl
   . simp only[if_true]at hcr;rcases hcr with ⟨ht,h6⟩|⟨b,c,h6,hb,hl,hc⟩
     . simp only[qry]at ht;obtain⟨rfl,rfl⟩:=ht;simp[h25,h26,h27,h6,wi,zu,ji,qN,qR,Ww,zI];exact⟨1,by omega,1,by omega,rfl,rfl,.inl ⟨rfl,rfl⟩⟩
     . obtain⟨v',U',e1,e2⟩:=app_stepW (T:=h++s) (X:=h) hb hl hc (by simp;omega);simp only[qpy]at h6 e1;simp[h25,h26,h27,h6,wi,e1];exact⟨1,by omega,1,by omega,rfl,rfl,by simpa using e2⟩
   . simp only[Nat.one_ne_zero,if_false,if_true]at hcr;rcases hcr with ⟨ht,h6⟩|⟨b,c,h6,hb,hl,hc⟩
     . simp only[qry]at ht;obtain⟨rfl,rfl⟩:=ht;simp[h25,h26,h27,h6,wi2,zu,ji,qN,qR,Ww,zI];exact⟨2,by omega,by omega,rfl,.inl ⟨rfl,rfl⟩⟩
     . obtain⟨v',U',e1,e2⟩:=app_stepW (T:=h++s) (X:=s) hb hl hc (by omega);simp[h25,h26,h27,h6,wi2,e1];exact⟨2,by omega,by omega,rfl,by simpa using e2⟩
   . simp only[show ¬ (2:Nat)=0 by omega,show ¬ (2:Nat)=1 by omega,if_false]at hcr;rcases hcr with ⟨ht,h6⟩|⟨b,c,h6,hb,hl,hc⟩
     . simp only[qry]at ht;obtain⟨rfl,rfl⟩:=ht;simp[h25,h26,h27,h6]
     . have hk:=chunk_flatW (h++s) c hl hc;simp only[qo3]at hk hl;rw[qo3]at h6;simp[h25,h26,h27,h6,hb,hl,hk,Kk]
theorem qe9 (p:Problem)(s:Str)(hl:Fits p.vars):Pure Tryz.prog GG 79 [.str s,.rptr (qL p)] (.bool (!vI p.vars s)):=by
 refine Pure.vc qe Tryz.func79 rfl (by kernel_rfl) ?_;simp;refine qb.call (index GG p.vars s hl) (by simp) ?_;have:=vg (fun v:Var=>v.name==s) p.vars;simp[this,vI]
theorem qom (p:Problem)(hl:Fits p.vars)(hh:p.hard.length<=10000)(hs:p.soft.length<=10000)(hw:∀ e∈p.hard++p.soft,Wen e/\hgt e<=1000/\(pre e).length<=100000) :
 Pure Tryz.prog GG 44 [.agg (qL p)] (.int .i64 (qW (zr p.vars) (p.hard++p.soft))):=by
 refine Pure.vc qe Tryz.func44 rfl (by kernel_rfl) ?_;simp[qm,qz];obtain⟨L,hL⟩:∃ L,L=p.hard++p.soft:=⟨_,rfl⟩;have hlen:L.length<=20000:=by rw[hL,qo3];omega
 refine qb.less (qii p.hard p.soft hh hs) (by simp) (by simp[Leq]) ?_;rw[<- hL]at hw ⊢;simp;refine qF.intro (fun n env U=>∃ i tail,i<=L.length/\n=L.length-i/\env 1=.ptr 0 0/\env 11=.sl 4 (L.map qt) .none/\env 12=.int .i64 L.length/\env 13=.int .i64 i/\U=⟨.cells (qL p)::tail,[]⟩/\∀ e∈L.take i,zr p.vars e=0) L.length ⟨0,[],by simp⟩ ?_;rintro n env U ⟨i,tail,hi,rfl,h1,h11,h12,h13,rfl,hz⟩
 cases hv:L[i]? with
 | some e=>
  obtain⟨hc,hv'⟩:=qoX.1 hv;have hm:=qoZ hv;obtain⟨hwe,hh1,hp1⟩:=hw e hm;have bad:zr p.vars e≠0->qW (zr p.vars) L=zr p.vars e:=fun h=>yT hv hz h
  simp[h1,h11,h12,h13,hc,hv',qd e,qpo];rw[<- qd e];refine qb.call (JJ e hwe (by omega)) (by simp) ?_;by_cases h0:zg e=0
  . simp[h0,h1,h11,h12,h13,qd e,qpo];rw[<- qd e];refine qb.call (vy e hwe hp1) (by simp) ?_;have hab:=vO (e:=e);cases ha:ZY e
    . rw[ha]at hab;have hlz:(zy [3,24] e).length=0:=(by have:=of_decide_eq_false hab;omega);have hnil:=qpf hlz;simp[hnil,h1,h11,h12,h13,qd e,qpo];rw[<- qd e];refine qb.call (QK e hwe hp1) (by simp) ?_
      try simp[h1,h11,h12,h13]
      have hfn:Fits (zy [2] e):=by
       have:∀ (l:List Ex) (s:List Str),(l.foldl (Y4 [2]) s).length<=s.length+l.length:=by
        intro l
        induction l with
        | nil=>intro s;simp
        | cons a r ih=>intro s;have:=ih (Y4 [2] s a);have:=wy (ops:=[2]) (s:=s) (e:=a);simp only[qpP,qpd];omega
       have:=this (pre e) [];simp only[Fits,zy,qpy]at this ⊢;omega
      refine qb.lent (YP GG (zy [2] e) (fun s=>!vI p.vars s) 79 [] [.rptr (qL p)] hfn rfl (by simp) fun s _=>qe9 p s hl) rfl ?_ ?_
      . simp[frz]
      . rw[vL];cases hf:Qj p.vars e
        . have x:zr p.vars e=0:=(by simp only[zr,h0,ha,hf];rfl);simp[h1,h11,h12,h13];exact⟨_,by omega,i+1,by omega,rfl,wr (by omega) (by omega),zc hv hz x⟩
        . have x:zr p.vars e=7:=(by simp only[zr,h0,ha,hf];rfl);rw[bad (by rw[x];decide),x];simp
    . rw[ha]at hab;have hlz:0<(zy [3,24] e).length:=of_decide_eq_true hab;have x:zr p.vars e=9:=(by simp only[zr,h0,ha];rfl);rw[bad (by rw[x];decide),x];simp[hlz]
  . have x:zr p.vars e=zg e:=(by simp only[zr];rw[if_pos h0]);rw[bad (by rw[x];exact h0),x];simp[h0]
 | none=>
  have hc:¬ i<L.length:=by simp at hv;omega
  have ht:L.take i=L:=qo6 (by omega);rw[ht]at hz;rw[zF.2 hz];simp[h1,h11,h12,h13,hc]
theorem qks (v:Var)(s:Str):Pure Tryz.prog GG 262 [.agg (qx v),.rptr [.str s]] (.bool (v.name==s)):=by
 refine Pure.k qe Tryz.func262 rfl (by kernel_rfl) ?_;simp[-getElem?_pos]
theorem Yf {ops:List Int}{e:Ex}(h:(pre e).length<=100000):(zy ops e).length<=100000:=by
 have:∀ (l:List Ex) (s:List Str),(l.foldl (Y4 ops) s).length<=s.length+l.length:=by
  intro l
  induction l with
  | nil=>intro s;simp
  | cons a r ih=>intro s;have:=ih (Y4 ops s a);have:=wy (ops:=ops) (s:=s) (e:=a);simp only[qpP,qpd];omega
 have:=this (pre e) [];simp only[zy,qpy]at this ⊢;omega
noncomputable def wl (vs:List Var)(e:Ex):Bool:=decide (zr vs e=0)
theorem qkt (p:Problem)(e:Ex)(hl:Fits p.vars)(hwe:Wen e)(hh:hgt e<1000000)(hsz:(pre e).length<=100000):Pure Tryz.prog GG 220 [.agg (qL p),.agg (qt e)] (.bool (wl p.vars e)):=by
 refine Pure.k qe Tryz.func220 rfl (by kernel_rfl) ?_;obtain⟨r,hr⟩:∃ r,r=wl p.vars e:=⟨_,rfl⟩;rw[<- hr];simp[-getElem?_pos,qd e];rw[<- qd e];refine qc.call (JJ e hwe hh) (by simp) ?_;by_cases h0:zg e=0
 case neg=>
  have:r=false:=by rw[hr];unfold wl zr;rw[if_pos h0];exact decide_eq_false h0
  simp[-getElem?_pos,h0,this]
 simp[-getElem?_pos,h0,qd e];rw[<- qd e];refine qc.call (vy e hwe hsz) (by simp) ?_;have hab:=vO (e:=e);cases ha:ZY e
 case true=>
  rw[ha]at hab;have hlz:(0:Int)<(zy [3,24] e).length:=by have:=of_decide_eq_true hab;omega
  have:r=false:=by rw[hr];unfold wl zr;simp[h0,ha]
  have hnn:¬ zy [3,24] e=[]:=fun h=>by rw[h]at hlz;simp at hlz
  simp[-getElem?_pos,hlz,hnn,this]
 rw[ha]at hab;have hlz:(zy [3,24] e).length=0:=by have:=of_decide_eq_false hab;omega
 have hnil:=qpf hlz;simp[-getElem?_pos,hnil,qd e];rw[<- qd e];refine qc.call (QK e hwe hsz) (by simp) ?_;have hfn:=Yf (ops:=[2]) hsz;have hrr:r = !((zy [2] e).any fun s=>!vI p.vars s):=by
  rw[hr,vL];unfold wl zr;cases hf:Qj p.vars e<;>simp[h0,ha,hf]
 obtain⟨N,hN⟩:∃ N,N=zy [2] e:=⟨_,rfl⟩;rw[<- hN]at hfn hrr ⊢;simp[-getElem?_pos];refine qJ.list N (fun d ev U=>ev 2=.ptr 0 0/\ev 17=.sl 1 (N.map z6) .none/\ev 18=.int .i64 N.length/\ev 19=.int .i64 d.length/\(∃ H,U=⟨H,[]⟩/\H[0]?=some (.cells (qL p)))/\∀ s∈d,vI p.vars s=true) ?_ ?_ ?_
 . simp
 . rintro d s rest ev U hd hx hlt ⟨e2,e17,e18,e19,⟨H,rfl,h0⟩,hall⟩;have hw:=wr (n:=(d.length:Int)+1) (by omega) (by omega);simp[-getElem?_pos,e2,e17,e18,e19,hlt,hx,qa h0];refine qc.lent (vt GG p.vars (fun v=>v.name==s) 262 [] [.rptr [.str s]] hl rfl (by simp) fun v _=>qks v s) rfl ?_ ?_
   . simp[frz]
   . cases hv:vI p.vars s
     . have hv':(p.vars.any fun v=>v.name==s)=false:=hv;have:r=false:=by rw[hrr,Bool.not_eq_false',qpq];exact⟨s,by rw[hd];simp,by simp[hv]⟩
       simp[-getElem?_pos,hv',this]
     . have hv':(p.vars.any fun v=>v.name==s)=true:=hv;simp[-getElem?_pos,hv',e2,e17,e18,e19,hw];exact⟨qa h0 _,fun t ht=>by
        rcases ht with ht|rfl
        . exact hall t ht
        . exact hv⟩
 . rintro ev U ⟨e2,e17,e18,e19,⟨H,rfl,h0⟩,hall⟩;have:r=true:=by
    rw[hrr,qqn,qqb];intro s hs;simp[hall s hs]
   simp[-getElem?_pos,e18,e19,this]
theorem qdQ:∀ (l:List Ex) (i:Nat) (a:Ex),l[i]?=some a->((l.flatMap qt).drop (i*4)).take 4=qt a/\i*4+4<=(l.flatMap qt).length
 | [],i,a,h=>by simp at h
 | x::r,0,a,h=>by
  simp at h;subst h;rw[qpn,qqA,qqm,qpU (by rw[zf];omega),qo6 (by rw[zf];omega),qo3,zf];exact⟨rfl,by omega⟩
 | x::r,i+1,a,h=>by
  have ih:=qdQ r i a (by simpa using h);rw[qpn,qqr,zf,qpz (by rw[zf];omega),qpl,show (i+1)*4-4=i*4 by omega,qo3,zf];exact⟨ih.1,by omega⟩
theorem qhR:∀ (l:List Ex) (i:Nat) (a:Ex),l[i]?=some a->zp (l.flatMap qt) (i*4) (qt a)=l.flatMap qt:=fun l i a h=>by
 have hi:=(qoX.1 h).1;rw[vE (sz:=4) zf l i a hi];have:l.set i a=l:=by
  obtain⟨_,rfl⟩:=qoX.1 h;exact List.set_getElem_self hi
 rw[this]
theorem qc9 {e a:Ex}(h:a∈e.args):(pre a).length<=(pre e).length:=by
 rw[jk e,qpd];have:∀ l:List Ex,a∈l->(pre a).length<=(wC l).length:=by
  intro l
  induction l with
  | nil=>intro h;cases h
  | cons x r ih=>
   intro h;rw[yi,qo3];rcases qpm.1 h with rfl|h
   . omega
   . have:=ih h;omega
 have:=this _ h;omega
theorem qd7 (e:Ex):e.args.length<=(pre e).length:=by
 rw[jk e,qpd];have:∀ l:List Ex,l.length<=(wC l).length:=by
  intro l
  induction l with
  | nil=>simp
  | cons x r ih=>rw[yi,qo3,jk x];simp;omega
 have:=this e.args;omega
theorem qih:∀ e,(pre e).length<=100000->Pure Tryz.prog GG 52 [.agg (qt e)] (.agg (qt e)):=by
 refine Ex.ind fun e ih hs=>?_
 have hal:=qd7 e;refine Pure.kO o0 true qe Tryz.func52 rfl (by kernel_rfl) ?_;have hE:=qd e;by_cases h0:e.args=[]
 . rw[h0]at hE;rw[hE];simp[-getElem?_pos,qw,ym,WT];refine qJ.gen (fun n ev U=>ev 1=.ptr 0 0/\ev 2=.ptr 1 0/\ev 3=.sl 4 [] (.chain 0 0)/\ev 14=.int .i64 0/\ev 15=.int .i64 0/\∃ T,U=⟨[.cells [.int .i64 e.op,.int .i64 e.n,.str e.name,.sl 4 [] .none],.cells [.int .i64 0,.int .i64 0,.str [],.sl 0 [] .nil]],T⟩) 0 ?_ ?_
   . exact⟨by simp,by simp,by simp,by simp,by simp,_,rfl⟩
   . rintro n ev U R hR ⟨e1,e2,e3,e14,e15,T,rfl⟩;simp[-getElem?_pos,e1,e2,e3,e14,e15];have hfc:∀ H,frz H 7 (.sl 4 [] (.chain 0 0))=.sl 4 [] .none:=fun H=>by rw[frz];simp[qC]
     rw[frz];simp[qC,qp,Qi,qhK,hfc,Leq,zn]
 . have hpos:=qpe.2 h0;have hne:¬ (e.args.length:Int)=0:=(by omega);have hb:e.args.length<=549755813888:=(by omega);have hbI:(e.args.length:Int)<=549755813888:=(by omega);have hfl:(e.args.map qt).flatten=e.args.flatMap qt:=(by rw[qqC]);have hlenf:(e.args.flatMap qt).length=e.args.length*4:=flat_len (sz:=4) zf e.args;have hz:((List.replicate e.args.length [AV.int .i64 0,.int .i64 0,.str [],.sl 0 [] .nil]).flatten).length=e.args.length*4:=(by simp);have hput:=putAt_all ((List.replicate e.args.length [AV.int .i64 0,.int .i64 0,.str [],.sl 0 [] .nil]).flatten) (e.args.flatMap qt) (by rw[hz,hlenf]);have htk:(e.args.map qt).take e.args.length=e.args.map qt:=qo6 (by simp);have hcp:∀ B0 B1:Blk,ym (Dof Tryz.prog) ⟨[B0,B1,.cells (List.replicate e.args.length [AV.int .i64 0,.int .i64 0,.str [],.sl 0 [] .nil]).flatten],[]⟩ 23 (.ms 2 0 e.args.length 4) (.sl 4 (e.args.map qt) .none)=some (.int .i64 e.args.length,⟨[B0,B1,.cells (e.args.flatMap qt)],[]⟩):=fun B0 B1=>by
    have hz':=hz;generalize (List.replicate e.args.length [AV.int .i64 0,.int .i64 0,.str [],.sl 0 [] .nil]).flatten=Z at *;simp[ym,WT,ql0,hfl,hput,hz',htk,h0]
   have hat:=qdQ e.args;have hpt:=qhR e.args;have hfr:kw 4 e.args.length (e.args.flatMap qt)=e.args.map qt:=(by have:=chunk_flat (sz:=4) zf e.args [];rwa[qpB]at this);rw[hE];generalize hZ:(List.replicate e.args.length [AV.int .i64 0,.int .i64 0,.str [],.sl 0 [] .nil]).flatten=Z at *;generalize hFE:e.args.flatMap qt=FE at *;simp[-getElem?_pos,qw,hne,h0,hbI,hZ,hcp];have hn0:e.args.length<=100000:=(by omega);have hatoms:∀ a:Ex,qZ (.agg (qt a))=some (qt a):=ko;refine qJ.listR e.args (fun d ev U=>ev 1=.ptr 0 0/\ev 2=.ptr 1 0/\ev 3=.ms 2 0 e.args.length 4/\ev 14=.int .i64 e.args.length/\ev 15=.int .i64 d.length/\U=⟨[.cells [.int .i64 e.op,.int .i64 e.n,.str e.name,.sl 4 (e.args.map qt) .none],.cells [.int .i64 0,.int .i64 0,.str [],.sl 0 [] .nil],.cells FE],[]⟩) ?_ ?_ ?_
   . exact⟨by simp,by simp,by simp,by simp,by simp,by simp⟩
   . rintro d a rest ev U R hR hd hx hlt ⟨e1,e2,e3,e14,e15,rfl⟩;have hm:=qoZ hx;have hia:=ih a hm (by have:=qc9 hm;omega);have hw:=wr (n:=(d.length:Int)+1) (by omega) (by omega);obtain⟨ht,hle⟩:=hat d.length a hx;have hp:=hpt d.length a hx;have ha2:=hatoms a;have hl4:=zf a;have hnr:=nrE a;generalize qt a=W at *;simp[-getElem?_pos,-qZ,e1,e2,e3,e14,e15,hlt,ht,hle];refine qc.call hia (by simp[qp,hnr]) ?_;simp[-getElem?_pos,-qZ,ha2,hl4,hp,hle,e1,e2,e3,e14,e15,hlt,hw];exact hR _ _ ⟨by simp[e1],by simp[e2],by simp[e3],by simp[e14],by simp,rfl⟩
   . rintro ev U ⟨e1,e2,e3,e14,e15,rfl⟩;simp[-getElem?_pos,e1,e2,e3,e14,e15];have ho:js 2 4 qt [Blk.cells [AV.int .i64 e.op,.int .i64 e.n,.str e.name,.ms 2 0 e.args.length 4],.cells [.int .i64 e.op,.int .i64 e.n,.str e.name,.ms 2 0 e.args.length 4],.cells FE] (.ms 2 0 e.args.length 4) e.args:=.inr ⟨h0,rfl,by rw[hFE];rfl⟩;have f1:=ho.frz zf (fun x=>nrE x) yg 6;have f2:=ho.frzNo zf (fun x=>nrE x) yg 6;rw[frz];rw[if_neg (by simp[qC,qp])];simp only[qo9,qpv,Qi,qhK,qC,qp,Leq,zn,qqN,qp9,and_true,true_and];exact⟨f2,f1⟩
@[simp]def qa3 (c:List (List Int)):List AV:=[.sl 1 (c.map zB) .none]
theorem qdq {w:Int}{l:List Int}:okL w l=true↔∀ k n,l[k]?=some n->okN w (l.take k) n=true:=by
 simp only[okL,qpa,qp0];constructor
 . intro h k n e;have hk:=(qoX.1 e).1;have:=h k hk
   rwa[qpg,e]at this
 . intro h k hk;have:=h k l[k] (qo1 hk)
   rwa[qpg,qo1 hk]
theorem qdR {vs:List Var}{c:List (List Int)}(hl:c.length=vs.length):qaS vs c=true↔∀ (k:Nat) (v:Var) (l:List Int),vs[k]?=some v->c[k]?=some l->okV v l=true:=by
 simp only[qaS,hl,decide_true,qp9,qpa];constructor
 . intro h k v l h1 h2;exact h (v,l) (qoZ (i:=k) (by rw[qqi];exact⟨h1,h2⟩))
 . rintro h ⟨v,l⟩ hm;obtain⟨k,hk⟩:=qpD hm;rw[qqi]at hk;exact h k v l hk.1 hk.2
def FitJ (p:Problem)(c:List (List Int))(n:Nat)(env:Env)(U:St):Prop :=
 env 2=.ptr 0 0/\env 3=.ptr 1 0/\env 18=.sl 1 (c.map zB) .none/\env 19=.int .i64 c.length/\env 20=.int .i64 n/\∃ H,U=⟨H,[]⟩/\H[0]?=some (.cells (qL p))/\H[1]?=some (.cells (qa3 c))
theorem qmo (p:Problem)(c:List (List Int))(hv:Fits p.vars)(hc:Fits c)(hcl:∀ l∈c,Fits l)(hw:∀ v∈p.vars,0<=v.width/\v.width<=28) :
 Pure Tryz.prog GG 22 [.agg (qL p),.agg (qa3 c)] (.bool (qaS p.vars c)):=by
 refine Pure.k qe Tryz.func22 rfl (by kernel_rfl) ?_;by_cases hlen:c.length=p.vars.length
 case neg=>
  have h1:¬ (c.length:Int)=p.vars.length:=by omega
  have h2:qaS p.vars c=false:=by simp[qaS,hlen]
  simp[-getElem?_pos,h1,h2]
 have hlen':(c.length:Int)=p.vars.length:=by omega
 simp[-getElem?_pos,hlen'];rw[<- hlen'];obtain⟨r,hr⟩:∃ r,r=qaS p.vars c:=⟨_,rfl⟩;rw[<- hr];refine qJ.list c (fun d env U=>FitJ p c d.length env U/\∀ (k:Nat) (v:Var) (l:List Int),k<d.length->p.vars[k]?=some v->c[k]?=some l->okV v l=true) ?_ ?_ ?_
 . simp[FitJ]
 . rintro d l s env U hd hl hlt ⟨⟨e2,e3,e18,e19,e20,H,rfl,H0,H1⟩,hall⟩;have hlv:d.length<p.vars.length:=(by omega);obtain⟨v,hvv⟩:∃ v,p.vars[d.length]?=some v:=⟨_,qo1 hlv⟩;have hvm:=qoZ hvv;have hwv:=hw v hvm;have hlm:=qoZ hl;have hfl:=hcl l hlm;have hw1:=wr (n:=(d.length:Int)+1) (by omega) (by omega);have hbad:okV v l=false->r=false:=by
    intro h;rw[hr,qp1];intro h2;have:=(qdR hlen).1 h2 _ v l hvv hl;rw[h]at this;cases this
   by_cases hm:v.mode=2\/l=[]
   case neg=>
    have hm1:¬ v.mode=2:=fun h=>hm (.inl h)
    have hl0:(0:Int)<l.length:=(by have:l≠[]:=fun h=>hm (.inr h);have:=qpe.2 this;omega);have hb:r=false:=hbad (by simp only[okV,qsg,Bool.or_eq_false_iff];left;exact⟨by simpa using hm1,by simpa using fun h=>hm (.inr h)⟩);simp[-getElem?_pos,e2,e3,e18,e19,e20,H0,hlt,hl,hvv,hm1,hl0,hb,show ¬ l=[] from fun h=>hm (.inr h)]
   have hnl:¬ v.mode=2->l=[]:=fun h=>hm.resolve_left h
   have hHl:1<H.length:=(qoX.1 H1).1;have hok:okL v.width l=true->okV v l=true:=by
    intro h;unfold okV;rcases hm with hm|hm<;>simp[hm,h]
    rw[hm]at h;exact h
   have hnext:okV v l=true->∀ (k:Nat) (v:Var) (l:List Int),k<d.length+1->p.vars[k]?=some v->c[k]?=some l->okV v l=true:=by
    intro h k v' l' hk h1 h2;by_cases hkd:k<d.length
    . exact hall k v' l' hkd h1 h2
    . obtain rfl:k=d.length:=by omega
      rw[hvv]at h1;rw[hl]at h2;cases h1;cases h2;exact h
   by_cases h2:v.mode=2
   . simp[-getElem?_pos,e2,e3,e18,e19,e20,H0,hlt,hl,hvv,h2];have hs:=wb hwv.1 hwv.2;have hp:(2:Nat) ^ v.width.toNat<=2 ^ 28:=qpr (by omega) (by omega);have hw0:¬ v.width<0:=(by omega);refine qJ.list l (fun e env τ=>FitJ p c d.length env τ/\env 6=.sl 1 (l.map qu) .none/\env 38=.sl 1 (l.map qu) .none/\env 39=.int .i64 l.length/\env 40=.int .i64 e.length/\(∃ b,env 7=.ptr b 0/\1<b/\τ.H[b]?=some (.cells (qx v)))/\∀ k n,k<e.length->l[k]?=some n->okN v.width (l.take k) n=true) ?_ ?_ ?_
     . refine⟨⟨by simpa using e2,by simpa using e3,by simpa using e18,by simpa using e19,by simpa using e20,_,rfl,?_,?_⟩,by simp,by simp,by simp,by simp,⟨H.length,by simp,by omega,?_⟩,by simp⟩
       . rw[qo8 (by omega)];exact H0
       . rw[qo8 (by omega)];exact H1
       . simp[h2]
     . rintro e n s' env τ he hn hle ⟨⟨f2,f3,f18,f19,f20,H',rfl,H0',H1'⟩,f6,f38,f39,f40,⟨b,f7,hb1,hb⟩,hk⟩;have hwe:=wr (n:=(e.length:Int)+1) (by omega) (by omega);simp only at hb;have hbadn:okN v.width (l.take e.length) n=false->r=false:=by
        intro h;refine hbad ?_;rw[qp1];intro h3;have h4:okL v.width l=true:=by
         simp only[okV,qo0]at h3;exact h3.2
        have:=qdq.1 h4 _ _ hn;rw[h]at this;cases this
       by_cases n0:n<0
       . have hr0:r=false:=hbadn (by simp[okN];omega);simp[-getElem?_pos,f2,f3,f6,f7,f18,f19,f20,f38,f39,f40,hle,hn,hb,n0,hr0]
       . by_cases n1:n<2 ^ v.width.toNat
         case neg=>
          have n1':((2 ^ v.width.toNat:Nat):Int)<=n:=(by simp only[Int.natCast_pow,Int.cast_ofNat_Int];omega);have hr0:r=false:=hbadn (by simp[okN,n1]);simp[-getElem?_pos,-Int.natCast_pow,f2,f3,f6,f7,f18,f19,f20,f38,f39,f40,hle,hn,hb,n0,hr0,hw0,IntKind.bits,hs,n1']
         have n1':¬ ((2 ^ v.width.toNat:Nat):Int)<=n:=(by simp only[Int.natCast_pow,Int.cast_ofNat_Int];omega);simp[-getElem?_pos,-Int.natCast_pow,f2,f3,f6,f7,f18,f19,f20,f38,f39,f40,hle,hn,hb,n0,hw0,IntKind.bits,hs,n1',zo,zU,yL,zY,Int.le_of_lt (Int.ofNat_lt.2 hle)];rw[<- List.map_take];refine qc.call (G:=z5 GG) (YQ GG (l.take e.length) n (qrt (List.length_take_le' _ _) hfl)) (by simp[-List.map_take,qp,qC]) ?_;cases hany:(l.take e.length).any fun x=>n==x
         . have hgn:okN v.width (l.take e.length) n=true:=(by simp only[okN,hany,qse,qqN,n1,decide_true];simpa using n0);simp[-getElem?_pos,-Int.natCast_pow,f2,f3,f6,f7,f18,f19,f20,f38,f39,f40,hany,hwe];refine⟨⟨by simpa using f2,by simpa using f3,by simpa using f18,by simpa using f19,by simpa using f20,H',rfl,H0',H1'⟩,⟨hb1,by simpa using hb⟩,fun k n' hk' hn'=>?_⟩;by_cases hke:k<e.length
           . exact hk k n' hke hn'
           . obtain rfl:k=e.length:=by omega
             rw[hn]at hn';cases hn';exact hgn
         . have hr0:r=false:=hbadn (by simp only[okN,hany,qrz,qrv]);simp[-getElem?_pos,-Int.natCast_pow,f2,f3,f6,f7,f18,f19,f20,f38,f39,f40,hany,hr0]
     . rintro env τ ⟨⟨f2,f3,f18,f19,f20,H',rfl,H0',H1'⟩,f6,f38,f39,f40,⟨b,f7,hb1,hb⟩,hk⟩;have hgood:=hnext (hok (qdq.2 fun k n e=>hk k n (qoX.1 e).1 e));simp[-getElem?_pos,f2,f3,f6,f7,f18,f19,f20,f38,f39,f40,hw1];exact⟨⟨by simpa using f2,by simpa using f3,by simpa using f18,by simpa using f19,by simp,H',rfl,H0',H1'⟩,hgood⟩
   . obtain rfl:=hnl h2;simp[-getElem?_pos,e2,e3,e18,e19,e20,H0,hlt,hl,hvv,h2];refine qJ.list ([]:List Int) (fun e env τ=>FitJ p c d.length env τ/\env 39=.int .i64 0/\env 40=.int .i64 0) ?_ ?_ ?_
     . refine⟨⟨by simpa using e2,by simpa using e3,by simpa using e18,by simpa using e19,by simpa using e20,_,rfl,?_,?_⟩,by simp,by simp⟩
       . rw[qo8 (by omega)];exact H0
       . rw[qo8 (by omega)];exact H1
     . rintro e n s' env τ he;simp at he
     . rintro env τ ⟨⟨f2,f3,f18,f19,f20,H',rfl,H0',H1'⟩,f39,f40⟩;have hgood:=hnext (hok (by simp[okL]));simp[-getElem?_pos,f2,f3,f18,f19,f20,f39,f40,hw1];exact⟨⟨by simpa using f2,by simpa using f3,by simpa using f18,by simpa using f19,by simp,H',rfl,H0',H1'⟩,hgood⟩
 . rintro env U ⟨⟨e2,e3,e18,e19,e20,H,rfl,H0,H1⟩,hall⟩;have:r=true:=by
    rw[hr];exact (qdR hlen).2 fun k v l h1 h2=>hall k v l (qoX.1 h2).1 h1 h2
   simp[-getElem?_pos,e2,e3,e18,e19,e20,this]
end Go.Proofs.YtcadpamddlofjaaGreatDoor
end
