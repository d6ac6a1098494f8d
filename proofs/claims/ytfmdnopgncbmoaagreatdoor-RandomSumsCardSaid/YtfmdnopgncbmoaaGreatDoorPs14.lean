import Derived.Test.YtfmdnopgncbmoaaGreatDoorPs12
import Derived.Test.YtfmdnopgncbmoaaGreatDoorPs13
set_option maxHeartbeats 16000000
set_option maxRecDepth 100000
set_option linter.all false
set_option linter.defProp false
namespace Go.Proofs.YtfmdnopgncbmoaaGreatDoor
open Go Go.Abs Tryz
def oM:Opts:=⟨true,[],[],[]⟩
@[simp]def qxF:oM.mu=true:=rfl
@[simp]def qxG:oM.lw=[]:=rfl
def qp3(n:Nat)(hn:n<=1000000)(U:St):qf prog GG 209 [.sl 0 [] .nil,.int .i64 n] U (fun r U'=>(n=0/\r=.sl 0 [] .nil/\U'=U)\/(0<n/\r=.ms U.H.length 0 0 4/\∃c,U'=U.push (.cells c))):=by
 refine qf.vcO oM qe func209 rfl (by kernel_rfl) ?_;have w0:IntKind.i64.wrap 0=0:=by decide
 by_cases h0:n=0
 . subst h0;simp[qrr,w0]
 have h2:(0:Int)<n:=by omega
 simp[qrr,show ¬(n:Int)<0 by omega,show IntKind.i64.wrap (n:Int)=n from wr (by omega) (by omega),w0,show 0<n by omega,show(n:Int)<=549755813888 by omega,zo,zU,kI,z0,zn,zZ,qP]
def CR(T R:List Ex)(v:AV)(U:St):Prop:=(T=[]/\v=.sl 0 [] .nil)\/∃b c,v=.ms b 0 R.length 4/\U.H[b]?=some (.cells c)/\R.length*4<=c.length/\c.take (R.length*4)=(R.map qt).flatten
@[simp]def VF(e):(qt e).length=4:=by rw[qd];rfl
def YY:∀(l:List Ex),((l.map qt).flatten).length=l.length*4
 |[]=>rfl
 |a::r=>by simp only[qyR,qzn,qyK,VF,YY r,qyY];omega
def Kh:∀(R:List Ex) (c),R.length*4<=c.length->c.take (R.length*4)=(R.map qt).flatten->vg 4 R.length c=R.map qt
 |[],c,_,_=>rfl
 | a::r,c,hl,h=>by
  have e1:c.take 4=qt a:=by
   have:=congrArg (List.take 4) h;rw[qCx,qyR,qzn,List.take_left' (VF a)]at this;rw[<- this];congr 1;simp only[qyY];omega
  have e2:(c.drop 4).take (r.length*4)=(r.map qt).flatten:=by
   have:=congrArg (List.drop 4) h;rw[qyR,qzn,List.drop_left' (VF a),List.drop_take]at this;rw[<- this];congr 1;simp only[qyY];omega
  rw[qyY,vg,e1,Kh r (c.drop 4) (by simp only[qAU,qyY]at hl⊢;omega) e2,qyR]
def qb3{T R X b c U}(hb:U.H[b]?=some (.cells c))(hl:R.length*4<=c.length)(h:c.take (R.length*4)=(R.map qt).flatten)(hR:R.length+X.length<=1000000):
 ∃v' U',zn (Dof prog) U 23 23 (.ms b 0 R.length 4) (.sl 4 (X.map qt) .none)=some (v',U')/\CR T (R++X) v' U':=by
 cases X with
 | nil=>
  refine⟨.ms b 0 R.length 4,U,?_,.inr ⟨b,c,by simp,hb,by simpa using hl,by simpa using h⟩⟩;simp[zn,zZ,qP,KA]
 | cons x X=>
  refine⟨.ms U.H.length 0 (R.length+(X.length+1)) 4,{U with H:=U.H.set b .dead++[.cells (c.take (R.length*4)++((x::X).map qt).flatten)]},?_,.inr ⟨U.H.length,c.take (R.length*4)++((x::X).map qt).flatten,by simp,by simp,?_,?_⟩⟩
  . have h1:R.length+(X.length+1)<=549755813888:=(by simp at hR;omega);simp[zn,zZ,qP,KA,hb,h1,hl]
  . rw[h];simp only[qyK,YY];omega
  rw[h,qyN (by simp only[qyK,YY];omega),qzE,qAF]
def qjl(h s:List Ex)(hh:h.length<=10000)(hs:s.length<=10000):Pure prog GG 146 [.sl 1 [[.sl 4 (h.map qt) .none],[.sl 4 (s.map qt) .none]] .none] (.sl 4 ((h++s).map qt) .none):=by
 refine Pure.vcO oM false qe func146 rfl (by kernel_rfl) ?_;have wi:IntKind.i64.wrap 1=1:=by decide
 have wi2:IntKind.i64.wrap 2=2:=by decide
 simp;refine qC9 (fun n env U=>∃i:Nat,i<=2/\n=2-i/\env 0=.sl 1 [[.sl 4 (h.map qt) .none],[.sl 4 (s.map qt) .none]] .none/\env 3=.int .i64 (if i=0 then 0 else if i=1 then h.length else h.length+s.length)/\env 9=.sl 1 [[.sl 4 (h.map qt) .none],[.sl 4 (s.map qt) .none]] .none/\env 10=.int .i64 2/\env 11=.int .i64 i/\U=⟨[],[]⟩) 2 ⟨0,by simp⟩ ?_;rintro n env U ⟨i,hi,rfl,h0,h3,h9,h10,h11,rfl⟩;have hcase:i=0\/i=1\/i=2:=by omega
 rcases hcase with rfl|rfl|rfl
 . simp[h0,h3,h9,h10,h11,show IntKind.i64.wrap (h.length:Int)=h.length from wr (by omega) (by omega),show ¬(h.length:Int)<0 by omega,wi];exact⟨1,by omega,1,by omega,rfl,rfl,rfl⟩
 . simp[h0,h3,h9,h10,h11,show IntKind.i64.wrap ((h.length:Int)+s.length)=h.length+s.length from wr (by omega) (by omega),show ¬(h.length:Int)+s.length<0 by omega,wi2];exact⟨2,by omega,by omega,rfl,rfl⟩
 have hN:((h.length:Int)+s.length)=((h.length+s.length:Nat):Int):=by omega
 simp[h0,h3,h9,h10,h11];rw[hN];refine qC0 (qp3 (h.length+s.length) (by omega) ⟨[],[]⟩) ?_;intro r U' hr;have hcr:CR (h++s) [] r U':=by
  rcases hr with⟨h1,h2,h3⟩|⟨h1,h2,c,h3⟩
  . exact .inl ⟨qyX (by rwa[qyK]),h2⟩
  subst h3;exact .inr ⟨0,c,h2,by simp⟩
 refine qC9 (fun n env U=>∃i:Nat,i<=2/\n=2-i/\env 25=.sl 1 [[.sl 4 (h.map qt) .none],[.sl 4 (s.map qt) .none]] .none/\env 26=.int .i64 2/\env 27=.int .i64 i/\CR (h++s) (if i=0 then [] else if i=1 then h else h++s) (env 6) U) 2 ⟨0,by simp[];exact hcr⟩ ?_;rintro n env U ⟨i,hi,rfl,h25,h26,h27,hcr⟩;have hcase:i=0\/i=1\/i=2:=by omega
 rcases hcase with rfl|rfl|rfl
 . simp only[if_true]at hcr;rcases hcr with⟨ht,h6⟩|⟨b,c,h6,hb,hl,hc⟩
   . simp only[qBL]at ht;obtain⟨rfl,rfl⟩:=ht;simp[h25,h26,h27,h6,wi,zn,zZ,qL,qP,KA,zK];exact⟨1,by omega,1,by omega,rfl,rfl,.inl ⟨rfl,rfl⟩⟩
   obtain⟨v',U',e1,e2⟩:=qb3 (T:=h++s) (X:=h) hb hl hc (by simp;omega);simp only[qzH]at h6 e1;simp[h25,h26,h27,h6,wi,e1];exact⟨1,by omega,1,by omega,rfl,rfl,by simpa using e2⟩
 . simp only[Nat.one_ne_zero,if_false,if_true]at hcr;rcases hcr with⟨ht,h6⟩|⟨b,c,h6,hb,hl,hc⟩
   . simp only[qBL]at ht;obtain⟨rfl,rfl⟩:=ht;simp[h25,h26,h27,h6,wi2,zn,zZ,qL,qP,KA,zK];exact⟨2,by omega,by omega,rfl,.inl ⟨rfl,rfl⟩⟩
   obtain⟨v',U',e1,e2⟩:=qb3 (T:=h++s) (X:=s) hb hl hc (by omega);simp[h25,h26,h27,h6,wi2,e1];exact⟨2,by omega,by omega,rfl,by simpa using e2⟩
 simp only[show ¬(2:Nat)=0 by omega,show ¬(2:Nat)=1 by omega,if_false]at hcr;rcases hcr with⟨ht,h6⟩|⟨b,c,h6,hb,hl,hc⟩
 . simp only[qBL]at ht;obtain⟨rfl,rfl⟩:=ht;simp[h25,h26,h27,h6]
 have hk:=Kh (h++s) c hl hc;simp only[qyK]at hk hl;rw[qyK]at h6;simp[h25,h26,h27,h6,hb,hl,hk,KF]
def qgc(p:Problem)(s:Str)(hl:Fits p.vars):Pure prog GG 150 [.str s,.rptr (qA p)] (.bool (!vK p.vars s)):=by
 refine qDb qe func150 rfl (by kernel_rfl) ?_;simp;refine qCW (index GG p.vars s hl) (by simp) ?_;have:=vM (fun v:Var=>v.name==s) p.vars;simp[this,vK]
def qql(p)(hl:Fits p.vars)(hh:p.hard.length<=10000)(hs:p.soft.length<=10000)(hw:∀e∈p.hard++p.soft,Wen e/\hgt e<=1000/\(pre e).length<=100000):
 Pure prog GG 100 [.agg (qA p)] (.int .i64 (qO (zi p.vars) (p.hard++p.soft))):=by
 refine qDb qe func100 rfl (by kernel_rfl) ?_;simp[qj,qs];obtain⟨L,hL⟩:∃L,L=p.hard++p.soft:=⟨_,rfl⟩;have hlen:L.length<=20000:=by rw[hL,qyK];omega
 refine qCX (qjl p.hard p.soft hh hs) (by simp) (by simp[Leq]) ?_;rw[<- hL]at hw⊢;simp;refine qC9 (fun n env U=>∃i tail,i<=L.length/\n=L.length-i/\env 1=.ptr 0 0/\env 11=.sl 4 (L.map qt) .none/\env 12=.int .i64 L.length/\env 13=.int .i64 i/\U=⟨.cells (qA p)::tail,[]⟩/\∀e∈L.take i,zi p.vars e=0) L.length ⟨0,[],by simp⟩ ?_;rintro n env U ⟨i,tail,hi,rfl,h1,h11,h12,h13,rfl,hz⟩
 cases hv:L[i]? with
 | some e=>
  obtain⟨hc,hv'⟩:=qyF.1 hv;have hm:=qyG hv;obtain⟨hwe,hh1,hp1⟩:=hw e hm;have bad:zi p.vars e≠0->qO (zi p.vars) L=zi p.vars e:=fun h=>kh hv hz h
  simp[h11,h12,h13,hc,hv',qd e,qzi];rw[<- qd e];refine qCW (Ya e hwe (by omega)) (by simp) ?_;by_cases h0:ze e=0
  . simp[h0,qd e];rw[<- qd e];refine qCW (vR e hwe hp1) (by simp) ?_;have hab:=Qe (e:=e);cases ha:Jq e
    . rw[ha]at hab;have hlz:(zH [3,24] e).length=0:=(by have:=of_decide_eq_false hab;omega);have hnil:=qyX hlz;simp[hnil,h1,qd e];rw[<- qd e];refine qCW (Q5 e hwe hp1) (by simp) ?_
      try simp[h1,h11,h12,h13]
      have hfn:Fits (zH [2] e):=by
       have:∀(l:List Ex) (s:List Str),(l.foldl (Kr [2]) s).length<=s.length+l.length:=by
        intro l
        induction l with
        |nil=>intro s;simp
        |cons a r ih=>intro s;have:=ih (Kr [2] s a);have:=wX (ops:=[2]) (s:=s) (e:=a);simp only[qzm,qyY];omega
       have:=this (pre e) [];simp only[Fits,zH,qzH]at this⊢;omega
      refine qb.lent (Ke GG (zH [2] e) (fun s=>!vK p.vars s) 150 [] [.rptr (qA p)] hfn rfl (by simp) fun s _=>qgc p s hl) rfl ?_ ?_
      . simp[frz]
      rw[v8];cases hf:QD p.vars e
      . have x:zi p.vars e=0:=(by simp only[zi,h0,ha,hf];rfl);simp[h1,h11,h12,h13];exact⟨_,by omega,i+1,by omega,rfl,wr (by omega) (by omega),za hv hz x⟩
      have x:zi p.vars e=7:=(by simp only[zi,h0,ha,hf];rfl);rw[bad (by rw[x];decide),x];simp
    rw[ha]at hab;have x:zi p.vars e=9:=(by simp only[zi,h0,ha];rfl);rw[bad (by rw[x];decide),x];simp[of_decide_eq_true hab]
  have x:zi p.vars e=ze e:=by simp only[zi];rw[if_pos h0]
  rw[bad (by rwa[x]),x];simp[h0]
 | none=>
  have hc:¬i<L.length:=by simp at hv;omega
  rw[show L.take i=L from qyN (by omega)]at hz;rw[zz.2 hz];simp[h11,h12,h13,hc]
