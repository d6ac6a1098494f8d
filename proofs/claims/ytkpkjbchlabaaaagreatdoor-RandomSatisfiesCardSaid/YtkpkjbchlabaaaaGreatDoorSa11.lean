/- A part of the proof. -/
import Derived.Test.YtkpkjbchlabaaaaGreatDoorSa09
import Derived.Test.YtkpkjbchlabaaaaGreatDoorSa10
set_option maxHeartbeats 16000000
set_option linter.unusedVariables false
set_option linter.unusedSimpArgs false
set_option maxRecDepth 100000
set_option linter.defProp false
section
namespace Go.Proofs.YtkpkjbchlabaaaaGreatDoor
open Go Go.Abs
def oM:Opts:=⟨true,[],[],[]⟩
@[simp]theorem oM_mu:oM.mu=true:=rfl
@[simp]theorem oM_lw:oM.lw=[]:=rfl
theorem qpd (n:Nat)(hn:n<=1000000)(U:St):qf Tryz.prog GG 184 [.sl 0 [] .nil,.int .i64 n] U (fun r U'=>(n=0/\r=.sl 0 [] .nil/\U'=U)\/(0<n/\r=.ms U.H.length 0 0 4/\∃ c,U'=U.push (.cells c))):=by
 refine qf.vcO oM qe Tryz.func184 rfl (by kernel_rfl) ?_;have h1:¬ (n:Int)<0:=by omega
 have hw:IntKind.i64.wrap (n:Int)=n:=wr (by omega) (by omega);have w0:IntKind.i64.wrap 0=0:=by decide
 by_cases h0:n=0
 . subst h0;simp[capA,w0]
 . have h2:(0:Int)<n:=(by omega);have h3:0<n:=(by omega);have h4:(n:Int)<=549755813888:=(by omega);simp[capA,h1,hw,w0,h2,h3,h4,zq,zU,kv,zY,zx,jg,qU]
def CR (T R:List Ex)(v:AV)(U:St):Prop:=(T=[]/\v=.sl 0 [] .nil)\/∃ b c,v=.ms b 0 R.length 4/\U.H[b]?=some (.cells c)/\R.length*4<=c.length/\c.take (R.length*4)=(R.map qr).flatten
@[simp]theorem Vy (e:Ex):(qr e).length=4:=by rw[qd];rfl
theorem YU:∀ (l:List Ex),((l.map qr).flatten).length=l.length*4
 | []=>rfl
 | a::r=>by simp only[qqp,qqW,qqg,Vy,YU r,qqs];omega
theorem Kd:∀ (R:List Ex) (c:List AV),R.length*4<=c.length->c.take (R.length*4)=(R.map qr).flatten->wN 4 R.length c=R.map qr
 | [],c,_,_=>rfl
 | a::r,c,hl,h=>by
  have e1:c.take 4=qr a:=by
   have:=congrArg (List.take 4) h;rw[qtR,qqp,qqW,List.take_left' (Vy a)]at this;rw[<- this];congr 1;simp only[qqs];omega
  have e2:(c.drop 4).take (r.length*4)=(r.map qr).flatten:=by
   have:=congrArg (List.drop 4) h;rw[qqp,qqW,List.drop_left' (Vy a),List.drop_take]at this;rw[<- this];congr 1;simp only[qqs];omega
  rw[qqs,wN,e1,Kd r (c.drop 4) (by simp only[qsG,qqs]at hl ⊢;omega) e2,qqp]
theorem qbR {T R X:List Ex}{b:Nat}{c:List AV}{U:St}(hb:U.H[b]?=some (.cells c))(hl:R.length*4<=c.length)(h:c.take (R.length*4)=(R.map qr).flatten)(hR:R.length+X.length<=1000000) :
 ∃ v' U',zx (Dof Tryz.prog) U 23 23 (.ms b 0 R.length 4) (.sl 4 (X.map qr) .none)=some (v',U')/\CR T (R++X) v' U':=by
 cases X with
 | nil=>
  refine⟨.ms b 0 R.length 4,U,?_,.inr ⟨b,c,by simp,hb,by simpa using hl,by simpa using h⟩⟩;simp[zx,jg,qU,WV]
 | cons x X=>
  refine⟨.ms U.H.length 0 (R.length+(X.length+1)) 4,{ U with H:=U.H.set b .dead++[.cells (c.take (R.length*4)++((x::X).map qr).flatten)] },?_,.inr ⟨U.H.length,c.take (R.length*4)++((x::X).map qr).flatten,by simp,by simp,?_,?_⟩⟩
  . have h1:R.length+(X.length+1)<=549755813888:=(by simp at hR;omega);simp[zx,jg,qU,WV,hb,h1,hl]
  . rw[h];simp only[qqg,YU];omega
  . rw[h,qqk (by simp only[qqg,YU];omega),qrb,qrC]
theorem qiR (h s:List Ex)(hh:h.length<=10000)(hs:s.length<=10000):Pure Tryz.prog GG 130 [.sl 1 [[.sl 4 (h.map qr) .none],[.sl 4 (s.map qr) .none]] .none] (.sl 4 ((h++s).map qr) .none):=by
 refine Pure.vcO oM false qe Tryz.func130 rfl (by kernel_rfl) ?_;have w1:IntKind.i64.wrap (h.length:Int)=h.length:=wr (by omega) (by omega);have w2:IntKind.i64.wrap ((h.length:Int)+s.length)=h.length+s.length:=wr (by omega) (by omega);have n1:¬ (h.length:Int)<0:=by omega
 have n2:¬ (h.length:Int)+s.length<0:=by omega
 have wi:IntKind.i64.wrap 1=1:=by decide
 have wi2:IntKind.i64.wrap 2=2:=by decide
 simp;refine qy.intro (fun n env U=>∃ i:Nat,i<=2/\n=2-i/\env 0=.sl 1 [[.sl 4 (h.map qr) .none],[.sl 4 (s.map qr) .none]] .none/\env 3=.int .i64 (if i=0 then 0 else if i=1 then h.length else h.length+s.length)/\env 9=.sl 1 [[.sl 4 (h.map qr) .none],[.sl 4 (s.map qr) .none]] .none/\env 10=.int .i64 2/\env 11=.int .i64 i/\U=⟨[],[]⟩) 2 ⟨0,by simp⟩ ?_;rintro n env U ⟨i,hi,rfl,h0,h3,h9,h10,h11,rfl⟩;have hcase:i=0\/i=1\/i=2:=by omega
 rcases hcase with rfl|rfl|rfl
 . simp[h0,h3,h9,h10,h11,w1,n1,wi];exact⟨1,by omega,1,by omega,rfl,rfl,rfl⟩
 . simp[h0,h3,h9,h10,h11,w2,n2,wi2];exact⟨2,by omega,by omega,rfl,rfl⟩
 . have hN:((h.length:Int)+s.length)=((h.length+s.length:Nat):Int):=(by omega);simp[h0,h3,h9,h10,h11];rw[hN];refine qf.imp (qpd (h.length+s.length) (by omega) ⟨[],[]⟩) ?_;intro r U' hr;have hcr:CR (h++s) [] r U':=by
    rcases hr with ⟨h1,h2,h3⟩|⟨h1,h2,c,h3⟩
    . exact .inl ⟨qqv (by rw[qqg];exact h1),h2⟩
    . subst h3;exact .inr ⟨0,c,h2,rfl,by simp,by simp⟩
   clear hr;refine qy.intro (fun n env U=>∃ i:Nat,i<=2/\n=2-i/\env 25=.sl 1 [[.sl 4 (h.map qr) .none],[.sl 4 (s.map qr) .none]] .none/\env 26=.int .i64 2/\env 27=.int .i64 i/\CR (h++s) (if i=0 then [] else if i=1 then h else h++s) (env 6) U) 2 ⟨0,by simp[h0];exact hcr⟩ ?_;clear h0 h3 h9 h10 h11 hcr;rintro n env U ⟨i,hi,rfl,h25,h26,h27,hcr⟩;have hcase:i=0\/i=1\/i=2:=(by omega);rcases hcase with rfl|rfl|rfl
   . simp only[if_true]at hcr;rcases hcr with ⟨ht,h6⟩|⟨b,c,h6,hb,hl,hc⟩
     . simp only[qs3]at ht;obtain⟨rfl,rfl⟩:=ht;simp[h25,h26,h27,h6,wi,zx,jg,qO,qU,WV,zL];exact⟨1,by omega,1,by omega,rfl,rfl,.inl ⟨rfl,rfl⟩⟩
     . obtain⟨v',U',e1,e2⟩:=qbR (T:=h++s) (X:=h) hb hl hc (by simp;omega);simp only[qq0]at h6 e1;simp[h25,h26,h27,h6,wi,e1];exact⟨1,by omega,1,by omega,rfl,rfl,by simpa using e2⟩
   . simp only[Nat.one_ne_zero,if_false,if_true]at hcr;rcases hcr with ⟨ht,h6⟩|⟨b,c,h6,hb,hl,hc⟩
     . simp only[qs3]at ht;obtain⟨rfl,rfl⟩:=ht;simp[h25,h26,h27,h6,wi2,zx,jg,qO,qU,WV,zL];exact⟨2,by omega,by omega,rfl,.inl ⟨rfl,rfl⟩⟩
     . obtain⟨v',U',e1,e2⟩:=qbR (T:=h++s) (X:=s) hb hl hc (by omega);simp[h25,h26,h27,h6,wi2,e1];exact⟨2,by omega,by omega,rfl,by simpa using e2⟩
   . simp only[show ¬ (2:Nat)=0 by omega,show ¬ (2:Nat)=1 by omega,if_false]at hcr;rcases hcr with ⟨ht,h6⟩|⟨b,c,h6,hb,hl,hc⟩
     . simp only[qs3]at ht;obtain⟨rfl,rfl⟩:=ht;simp[h25,h26,h27,h6]
     . have hk:=Kd (h++s) c hl hc;simp only[qqg]at hk hl;rw[qqg]at h6;simp[h25,h26,h27,h6,hb,hl,hk,Kx]
theorem qfZ (p:Problem)(s:Str)(hl:Fits p.vars):Pure Tryz.prog GG 134 [.str s,.rptr (qE p)] (.bool (!vH p.vars s)):=by
 refine Pure.vc qe Tryz.func134 rfl (by kernel_rfl) ?_;simp;refine qb.call (index GG p.vars s hl) (by simp) ?_;have:=vI (fun v:Var=>v.name==s) p.vars;simp[this,vH]
theorem qpt (p:Problem)(hl:Fits p.vars)(hh:p.hard.length<=10000)(hs:p.soft.length<=10000)(hw:∀ e∈p.hard++p.soft,Wen e/\hgt e<=1000/\(pre e).length<=100000) :
 Pure Tryz.prog GG 77 [.agg (qE p)] (.int .i64 (qM (zi p.vars) (p.hard++p.soft))):=by
 refine Pure.vc qe Tryz.func77 rfl (by kernel_rfl) ?_;simp[qk,qu];obtain⟨L,hL⟩:∃ L,L=p.hard++p.soft:=⟨_,rfl⟩;have hlen:L.length<=20000:=by rw[hL,qqg];omega
 refine qb.less (qiR p.hard p.soft hh hs) (by simp) (by simp[Leq]) ?_;rw[<- hL]at hw ⊢;simp;refine qy.intro (fun n env U=>∃ i tail,i<=L.length/\n=L.length-i/\env 1=.ptr 0 0/\env 11=.sl 4 (L.map qr) .none/\env 12=.int .i64 L.length/\env 13=.int .i64 i/\U=⟨.cells (qE p)::tail,[]⟩/\∀ e∈L.take i,zi p.vars e=0) L.length ⟨0,[],by simp⟩ ?_;rintro n env U ⟨i,tail,hi,rfl,h1,h11,h12,h13,rfl,hz⟩
 cases hv:L[i]? with
 | some e=>
  obtain⟨hc,hv'⟩:=qqc.1 hv;have hm:=qqd hv;obtain⟨hwe,hh1,hp1⟩:=hw e hm;have bad:zi p.vars e≠0->qM (zi p.vars) L=zi p.vars e:=fun h=>kf hv hz h
  simp[h1,h11,h12,h13,hc,hv',qd e,qqx];rw[<- qd e];refine qb.call (J2 e hwe (by omega)) (by simp) ?_;by_cases h0:zf e=0
  . simp[h0,h1,h11,h12,h13,qd e,qqx];rw[<- qd e];refine qb.call (vO e hwe hp1) (by simp) ?_;have hab:=Qa (e:=e);cases ha:Jf e
    . rw[ha]at hab;have hlz:(zD [3,24] e).length=0:=(by have:=of_decide_eq_false hab;omega);have hnil:=qqv hlz;simp[hnil,h1,h11,h12,h13,qd e,qqx];rw[<- qd e];refine qb.call (QW e hwe hp1) (by simp) ?_
      try simp[h1,h11,h12,h13]
      have hfn:Fits (zD [2] e):=by
       have:∀ (l:List Ex) (s:List Str),(l.foldl (Kl [2]) s).length<=s.length+l.length:=by
        intro l
        induction l with
        | nil=>intro s;simp
        | cons a r ih=>intro s;have:=ih (Kl [2] s a);have:=wQ (ops:=[2]) (s:=s) (e:=a);simp only[qqR,qqs];omega
       have:=this (pre e) [];simp only[Fits,zD,qq0]at this ⊢;omega
      refine qb.lent (Y9 GG (zD [2] e) (fun s=>!vH p.vars s) 134 [] [.rptr (qE p)] hfn rfl (by simp) fun s _=>qfZ p s hl) rfl ?_ ?_
      . simp[frz]
      . rw[vW];cases hf:Qw p.vars e
        . have x:zi p.vars e=0:=(by simp only[zi,h0,ha,hf];rfl);simp[h1,h11,h12,h13];exact⟨_,by omega,i+1,by omega,rfl,wr (by omega) (by omega),zb hv hz x⟩
        . have x:zi p.vars e=7:=(by simp only[zi,h0,ha,hf];rfl);rw[bad (by rw[x];decide),x];simp
    . rw[ha]at hab;have hlz:0<(zD [3,24] e).length:=of_decide_eq_true hab;have x:zi p.vars e=9:=(by simp only[zi,h0,ha];rfl);rw[bad (by rw[x];decide),x];simp[hlz]
  . have x:zi p.vars e=zf e:=(by simp only[zi];rw[if_pos h0]);rw[bad (by rw[x];exact h0),x];simp[h0]
 | none=>
  have hc:¬ i<L.length:=by simp at hv;omega
  have ht:L.take i=L:=qqk (by omega);rw[ht]at hz;rw[zr.2 hz];simp[h1,h11,h12,h13,hc]
end Go.Proofs.YtkpkjbchlabaaaaGreatDoor
end
