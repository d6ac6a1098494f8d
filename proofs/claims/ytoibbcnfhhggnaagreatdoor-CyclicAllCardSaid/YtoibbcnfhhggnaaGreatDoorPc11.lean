/- A part of the proof. -/
import Derived.Test.YtoibbcnfhhggnaaGreatDoorPc09
import Derived.Test.YtoibbcnfhhggnaaGreatDoorPc10
import Derived.Test.YtoibbcnfhhggnaaGreatDoorPc08
set_option maxHeartbeats 16000000
set_option linter.unusedVariables false
set_option linter.unusedSimpArgs false
set_option maxRecDepth 100000
set_option linter.defProp false
section
namespace Go.Proofs.YtoibbcnfhhggnaaGreatDoor
open Go Go.Abs
def oM:Opts:=⟨true,[],[],[]⟩
@[simp]theorem oM_mu:oM.mu=true:=rfl
@[simp]theorem oM_lw:oM.lw=[]:=rfl
theorem qpi (n:Nat)(hn:n<=1000000)(U:St):qg Tryz.prog GG 110 [.sl 0 [] .nil,.int .i64 n] U (fun r U'=>(n=0/\r=.sl 0 [] .nil/\U'=U)\/(0<n/\r=.ms U.H.length 0 0 4/\∃ c,U'=U.push (.cells c))):=by
 refine qg.vcO oM qe Tryz.func110 rfl (by kernel_rfl) ?_;have h1:¬ (n:Int)<0:=by omega
 have hw:IntKind.i64.wrap (n:Int)=n:=wr (by omega) (by omega);have w0:IntKind.i64.wrap 0=0:=by decide
 by_cases h0:n=0
 . subst h0;simp[capA,w0]
 . have h2:(0:Int)<n:=(by omega);have h3:0<n:=(by omega);have h4:(n:Int)<=549755813888:=(by omega);simp[capA,h1,hw,w0,h2,h3,h4,zw,zX,kf,z7,zs,z6,qS]
def CR (T R:List Ex)(v:AV)(U:St):Prop:=(T=[]/\v=.sl 0 [] .nil)\/∃ b c,v=.ms b 0 R.length 4/\U.H[b]?=some (.cells c)/\R.length*4<=c.length/\c.take (R.length*4)=(R.map qs).flatten
@[simp]theorem VS (e:Ex):(qs e).length=4:=by rw[qd];rfl
theorem Ki:∀ (l:List Ex),((l.map qs).flatten).length=l.length*4
 | []=>rfl
 | a::r=>by simp only[qqk,qqO,qqb,VS,Ki r,qqm];omega
theorem Kz:∀ (R:List Ex) (c:List AV),R.length*4<=c.length->c.take (R.length*4)=(R.map qs).flatten->kF 4 R.length c=R.map qs
 | [],c,_,_=>rfl
 | a::r,c,hl,h=>by
  have e1:c.take 4=qs a:=by
   have:=congrArg (List.take 4) h;rw[List.take_take,qqk,qqO,List.take_left' (VS a)]at this;rw[<- this];congr 1;simp only[qqm];omega
  have e2:(c.drop 4).take (r.length*4)=(r.map qs).flatten:=by
   have:=congrArg (List.drop 4) h;rw[qqk,qqO,List.drop_left' (VS a),List.drop_take]at this;rw[<- this];congr 1;simp only[qqm];omega
  rw[qqm,kF,e1,Kz r (c.drop 4) (by simp only[qrq,qqm]at hl ⊢;omega) e2,qqk]
theorem qbX {T R X:List Ex}{b:Nat}{c:List AV}{U:St}(hb:U.H[b]?=some (.cells c))(hl:R.length*4<=c.length)(h:c.take (R.length*4)=(R.map qs).flatten)(hR:R.length+X.length<=1000000) :
 ∃ v' U',zs (Dof Tryz.prog) U 23 23 (.ms b 0 R.length 4) (.sl 4 (X.map qs) .none)=some (v',U')/\CR T (R++X) v' U':=by
 cases X with
 | nil=>
  refine⟨.ms b 0 R.length 4,U,?_,.inr ⟨b,c,by simp,hb,by simpa using hl,by simpa using h⟩⟩;simp[zs,z6,qS,KK]
 | cons x X=>
  refine⟨.ms U.H.length 0 (R.length+(X.length+1)) 4,{ U with H:=U.H.set b .dead++[.cells (c.take (R.length*4)++((x::X).map qs).flatten)] },?_,.inr ⟨U.H.length,c.take (R.length*4)++((x::X).map qs).flatten,by simp,by simp,?_,?_⟩⟩
  . have h1:R.length+(X.length+1)<=549755813888:=(by simp at hR;omega);simp[zs,z6,qS,KK,hb,h1,hl]
  . rw[h];simp only[qqb,Ki];omega
  . rw[h,qqg (by simp only[qqb,Ki];omega),qqY,qrs]
theorem qjd (h s:List Ex)(hh:h.length<=10000)(hs:s.length<=10000):Pure Tryz.prog GG 76 [.sl 1 [[.sl 4 (h.map qs) .none],[.sl 4 (s.map qs) .none]] .none] (.sl 4 ((h++s).map qs) .none):=by
 refine Pure.vcO oM false qe Tryz.func76 rfl (by kernel_rfl) ?_;have w1:IntKind.i64.wrap (h.length:Int)=h.length:=wr (by omega) (by omega);have w2:IntKind.i64.wrap ((h.length:Int)+s.length)=h.length+s.length:=wr (by omega) (by omega);have n1:¬ (h.length:Int)<0:=by omega
 have n2:¬ (h.length:Int)+s.length<0:=by omega
 have wi:IntKind.i64.wrap 1=1:=by decide
 have wi2:IntKind.i64.wrap 2=2:=by decide
 simp;refine qD.intro (fun n env U=>∃ i:Nat,i<=2/\n=2-i/\env 0=.sl 1 [[.sl 4 (h.map qs) .none],[.sl 4 (s.map qs) .none]] .none/\env 3=.int .i64 (if i=0 then 0 else if i=1 then h.length else h.length+s.length)/\env 9=.sl 1 [[.sl 4 (h.map qs) .none],[.sl 4 (s.map qs) .none]] .none/\env 10=.int .i64 2/\env 11=.int .i64 i/\U=⟨[],[]⟩) 2 ⟨0,by simp⟩ ?_;rintro n env U ⟨i,hi,rfl,h0,h3,h9,h10,h11,rfl⟩;have hcase:i=0\/i=1\/i=2:=by omega
 rcases hcase with rfl|rfl|rfl
 . simp[h0,h3,h9,h10,h11,w1,n1,wi];exact⟨1,by omega,1,by omega,rfl,rfl,rfl⟩
 . simp[h0,h3,h9,h10,h11,w2,n2,wi2];exact⟨2,by omega,by omega,rfl,rfl⟩
 . have hN:((h.length:Int)+s.length)=((h.length+s.length:Nat):Int):=(by omega);simp[h0,h3,h9,h10,h11];rw[hN];refine qg.imp (qpi (h.length+s.length) (by omega) ⟨[],[]⟩) ?_;intro r U' hr;have hcr:CR (h++s) [] r U':=by
    rcases hr with ⟨h1,h2,h3⟩|⟨h1,h2,c,h3⟩
    . exact .inl ⟨qqj (by rw[qqb];exact h1),h2⟩
    . subst h3;exact .inr ⟨0,c,h2,rfl,by simp,by simp⟩
   clear hr;refine qD.intro (fun n env U=>∃ i:Nat,i<=2/\n=2-i/\env 25=.sl 1 [[.sl 4 (h.map qs) .none],[.sl 4 (s.map qs) .none]] .none/\env 26=.int .i64 2/\env 27=.int .i64 i/\CR (h++s) (if i=0 then [] else if i=1 then h else h++s) (env 6) U) 2 ⟨0,by simp[h0];exact hcr⟩ ?_;clear h0 h3 h9 h10 h11 hcr;rintro n env U ⟨i,hi,rfl,h25,h26,h27,hcr⟩;have hcase:i=0\/i=1\/i=2:=(by omega);rcases hcase with rfl|rfl|rfl
   . simp only[if_true]at hcr;rcases hcr with ⟨ht,h6⟩|⟨b,c,h6,hb,hl,hc⟩
     . simp only[qsX]at ht;obtain⟨rfl,rfl⟩:=ht;simp[h25,h26,h27,h6,wi,zs,z6,qB,qS,KK,zp];exact⟨1,by omega,1,by omega,rfl,rfl,.inl ⟨rfl,rfl⟩⟩
     . obtain⟨v',U',e1,e2⟩:=qbX (T:=h++s) (X:=h) hb hl hc (by simp;omega);simp only[qqK]at h6 e1;simp[h25,h26,h27,h6,wi,e1];exact⟨1,by omega,1,by omega,rfl,rfl,by simpa using e2⟩
   . simp only[Nat.one_ne_zero,if_false,if_true]at hcr;rcases hcr with ⟨ht,h6⟩|⟨b,c,h6,hb,hl,hc⟩
     . simp only[qsX]at ht;obtain⟨rfl,rfl⟩:=ht;simp[h25,h26,h27,h6,wi2,zs,z6,qB,qS,KK,zp];exact⟨2,by omega,by omega,rfl,.inl ⟨rfl,rfl⟩⟩
     . obtain⟨v',U',e1,e2⟩:=qbX (T:=h++s) (X:=s) hb hl hc (by omega);simp[h25,h26,h27,h6,wi2,e1];exact⟨2,by omega,by omega,rfl,by simpa using e2⟩
   . simp only[show ¬ (2:Nat)=0 by omega,show ¬ (2:Nat)=1 by omega,if_false]at hcr;rcases hcr with ⟨ht,h6⟩|⟨b,c,h6,hb,hl,hc⟩
     . simp only[qsX]at ht;obtain⟨rfl,rfl⟩:=ht;simp[h25,h26,h27,h6]
     . have hk:=Kz (h++s) c hl hc;simp only[qqb]at hk hl;rw[qqb]at h6;simp[h25,h26,h27,h6,hb,hl,hk,KT]
theorem qf7 (p:Problem)(s:Str)(hl:Fits p.vars):Pure Tryz.prog GG 81 [.str s,.rptr (qJ p)] (.bool (!vC p.vars s)):=by
 refine Pure.vc qe Tryz.func81 rfl (by kernel_rfl) ?_;simp;refine qb.call (index GG p.vars s hl) (by simp) ?_;have:=vW (fun v:Var=>v.name==s) p.vars;simp[this,vC]
theorem qpv (p:Problem)(hl:Fits p.vars)(hh:p.hard.length<=10000)(hs:p.soft.length<=10000)(hw:∀ e∈p.hard++p.soft,Wen e/\hgt e<=1000/\(pre e).length<=100000) :
 Pure Tryz.prog GG 50 [.agg (qJ p)] (.int .i64 (qR (zg p.vars) (p.hard++p.soft))):=by
 refine Pure.vc qe Tryz.func50 rfl (by kernel_rfl) ?_;simp[qk,qA];obtain⟨L,hL⟩:∃ L,L=p.hard++p.soft:=⟨_,rfl⟩;have hlen:L.length<=20000:=by rw[hL,qqb];omega
 refine qb.less (qjd p.hard p.soft hh hs) (by simp) (by simp[Leq]) ?_;rw[<- hL]at hw ⊢;simp;refine qD.intro (fun n env U=>∃ i tail,i<=L.length/\n=L.length-i/\env 1=.ptr 0 0/\env 11=.sl 4 (L.map qs) .none/\env 12=.int .i64 L.length/\env 13=.int .i64 i/\U=⟨.cells (qJ p)::tail,[]⟩/\∀ e∈L.take i,zg p.vars e=0) L.length ⟨0,[],by simp⟩ ?_;rintro n env U ⟨i,tail,hi,rfl,h1,h11,h12,h13,rfl,hz⟩
 cases hv:L[i]? with
 | some e=>
  obtain⟨hc,hv'⟩:=qp5.1 hv;have hm:=qp6 hv;obtain⟨hwe,hh1,hp1⟩:=hw e hm;have bad:zg p.vars e≠0->qR (zg p.vars) L=zg p.vars e:=fun h=>ku hv hz h
  simp[h1,h11,h12,h13,hc,hv',qd e,qqz];rw[<- qd e];refine qb.call (Yh e hwe (by omega)) (by simp) ?_;by_cases h0:zk e=0
  . simp[h0,h1,h11,h12,h13,qd e,qqz];rw[<- qd e];refine qb.call (Qa e hwe hp1) (by simp) ?_;have hab:=Qq (e:=e);cases ha:ZE e
    . rw[ha]at hab;have hlz:(zJ [3,24] e).length=0:=(by have:=of_decide_eq_false hab;omega);have hnil:=qqj hlz;simp[hnil,h1,h11,h12,h13,qd e,qqz];rw[<- qd e];refine qb.call (Zn e hwe hp1) (by simp) ?_
      try simp[h1,h11,h12,h13]
      have hfn:Fits (zJ [2] e):=by
       have:∀ (l:List Ex) (s:List Str),(l.foldl (KF [2]) s).length<=s.length+l.length:=by
        intro l
        induction l with
        | nil=>intro s;simp
        | cons a r ih=>intro s;have:=ih (KF [2] s a);have:=ve (ops:=[2]) (s:=s) (e:=a);simp only[qqV,qqm];omega
       have:=this (pre e) [];simp only[Fits,zJ,qqK]at this ⊢;omega
      refine qb.lent (Kx GG (zJ [2] e) (fun s=>!vC p.vars s) 81 [] [.rptr (qJ p)] hfn rfl (by simp) fun s _=>qf7 p s hl) rfl ?_ ?_
      . simp[frz]
      . rw[Qn];cases hf:QQ p.vars e
        . have x:zg p.vars e=0:=(by simp only[zg,h0,ha,hf];rfl);simp[h1,h11,h12,h13];exact⟨_,by omega,i+1,by omega,rfl,wr (by omega) (by omega),zh hv hz x⟩
        . have x:zg p.vars e=7:=(by simp only[zg,h0,ha,hf];rfl);rw[bad (by rw[x];decide),x];simp
    . rw[ha]at hab;have hlz:0<(zJ [3,24] e).length:=of_decide_eq_true hab;have x:zg p.vars e=9:=(by simp only[zg,h0,ha];rfl);rw[bad (by rw[x];decide),x];simp[hlz]
  . have x:zg p.vars e=zk e:=(by simp only[zg];rw[if_pos h0]);rw[bad (by rw[x];exact h0),x];simp[h0]
 | none=>
  have hc:¬ i<L.length:=by simp at hv;omega
  have ht:L.take i=L:=qqg (by omega);rw[ht]at hz;rw[zf.2 hz];simp[h1,h11,h12,h13,hc]
def qN (n:Int):Int:=n % 65536
theorem qF (n:Int):0<=qN n/\qN n<=65535:=by unfold qN;omega
theorem Q2 {n:Int}(h0:0<=n)(h1:n<=65535):qN n=n:=by unfold qN;omega
def b2i (b:Bool):Int:=if b=true then 1 else 0
theorem KD (b:Bool):0<=b2i b/\b2i b<=65535:=by cases b<;>simp[b2i]
def zV (env:List Signal)(name:Str):Option Int:=(env.find? fun s=>s.name==name).map fun s=>qN s.value
def atV (env:List Signal)(a:Str)(i:Int):Int:=if 0<=i/\i<8 then (zV env (z9 a i.toNat)).getD 0 else 0
def qmS (env:List Signal)(a:Str):Nat->Int
 | 0=>0
 | i+1=>qN (qmS env a i+atV env a i)
def kD (a:Nat):Nat->Nat
 | 0=>0
 | i+1=>kD a i+(if a.testBit i=true then 1 else 0)
def unW (op a:Int):Int :=
 if op=4 then b2i (decide (a=0)) else if op=5 then 65535-qN a else if op=6 then qN (0-a) else (kD (qN a).toNat 16:Int)
def yL (op a b:Int):Int :=
 if op=7 then qN (a+b) else if op=8 then qN (a-b) else if op=9 then qN (a*b)
 else if op=10 then ((a.toNat &&& b.toNat:Nat):Int) else if op=11 then ((a.toNat ||| b.toNat:Nat):Int) else if op=12 then ((a.toNat ^^^ b.toNat:Nat):Int)
 else if op=13 then (if 0<=b/\b<16 then qN (a*2 ^ b.toNat) else 0)
 else if op=14 then (if 0<=b/\b<16 then qN a / 2 ^ b.toNat else 0)
 else if op=15 then b2i (decide (a=b)) else if op=16 then b2i (!decide (a=b)) else if op=17 then b2i (decide (a<b)) else if op=18 then b2i (decide (a<=b))
 else if op=19 then b2i (!decide (a=0)&&!decide (b=0)) else if op=20 then b2i (!decide (a=0)||!decide (b=0))
 else b2i (decide (a=0)||!decide (b=0))
def jO (a:Int):List Int->Bool
 | x::y::r=>(decide (x<=a)&&decide (a<=y))||jO a r
 | _=>false
def opW (op:Int)(l:List Int):Int :=
 if op=22 then (if l.getD 0 0≠0 then l.getD 1 0 else l.getD 2 0)
 else if op=23 then b2i (jO (l.getD 0 0) l.tail)
 else match l with
  | []=>0
  | [a]=>unW op a
  | a::b::_=>yL op a b
def Qw (env:List Signal)(op n:Int)(name:Str)(l:List Int):Int :=
 if op=1 then n else if op=2 then (zV env name).getD 0 else if op=3 then atV env name (l.getD 0 0) else if op=24 then qmS env name 8 else opW op l
mutual
def yo (env:List Signal):Ex->Int
 | .mk op n name args=>Qw env op n name (qgX env args)
def qgX (env:List Signal):List Ex->List Int
 | []=>[]
 | e::r=>yo env e::qgX env r
end
@[simp]theorem qkf (env:List Signal):∀ l,qgX env l=l.map (yo env)
 | []=>by simp[qgX]
 | e::r=>by simp[qgX,qkf env r]
theorem yk (env:List Signal)(e:Ex):yo env e=Qw env e.op e.n e.name (e.args.map (yo env)):=by cases e;simp[yo]
def qjZ (env:List Signal)(e:Ex):Bool :=
 if e.op=2 then (zV env e.name).isSome else if e.op=3\/e.op=24 then (zV env (z9 e.name 0)).isSome else true
def yt (env:List Signal)(e:Ex):Bool:=(pre e).all (qjZ env)
noncomputable def qcY (env:List Signal)(e:Ex):Int:=if zk e≠0 then 1 else if yt env e=true then 0 else 7
noncomputable def yr (env:List Signal)(e:Ex):Int:=if zk e=0/\yt env e=true then yo env e else 0
def yM (e:Ex):Prop:=∀ x∈pre e,qr x=0
theorem yM.self {e:Ex}(h:yM e):qr e=0:=h e (by rw[jc];simp)
theorem yM.arg {e a:Ex}(h:yM e)(ha:a∈e.args):yM a:=fun x hx=>h x (by rw[jc];exact qrn _ (wR.2 ⟨a,ha,hx⟩))
theorem Jl {e:Ex}(h:zk e=0):yM e:=by
 unfold zk at h;split at h
 . cases h
 . exact zf.1 h
theorem jo {e:Ex}(h:qr e=0):1<=e.op/\e.op<=25/\(e.op=1->0<=e.n/\e.n<=65535)/\(e.op≠1->e.n=0)/\qj e=true/\(e.op=2->yW e.name=true)/\(e.op=3\/e.op=24->zY e.name=true)/\(¬ (e.op=2\/e.op=3\/e.op=24)->e.name=[]):=by
 unfold qr at h;split at h
 . cases h
 rename_i h1;split at h
 . cases h
 rename_i h2;split at h
 . cases h
 rename_i h3;split at h
 . cases h
 rename_i h4;refine⟨by omega,by omega,fun h=>?_,fun h=>?_,?_,fun h=>?_,fun h=>?_,fun h=>?_⟩
 . apply Classical.byContradiction;intro hn;exact h2 (.inl ⟨h,by omega⟩)
 . apply Classical.byContradiction;intro hn;exact h2 (.inr ⟨h,hn⟩)
 . cases ho:qj e with
   | true=>rfl
   | false=>exact absurd (.inr ho) h3
 . cases ho:yW e.name with
   | true=>rfl
   | false=>exact absurd (.inl ⟨h,ho⟩) h4
 . cases ho:zY e.name with
   | true=>rfl
   | false=>exact absurd (.inr ⟨h,ho⟩) h4
 . apply Classical.byContradiction;intro hn;exact h3 (.inl ⟨h,hn⟩)
theorem wO {e:Ex}(h:qj e=true)(h23:e.op≠23):(e.args.length:Int)=zy e.op:=by
 unfold qj at h;rw[if_neg h23]at h;simpa using h
theorem YS {e:Ex}(h:qj e=true)(h23:e.op=23):e.args.length % 2=1/\3<=e.args.length/\e.args.length<=33:=by
 unfold qj at h;rw[if_pos h23]at h;simpa using h
theorem JX (a:Nat):∀ i,kD a i<=i
 | 0=>qqf _
 | i+1=>by
  have:=JX a i;simp only[kD];split<;>omega
theorem Km {env:List Signal}{name:Str}{v:Int}(h:zV env name=some v):0<=v/\v<=65535:=by
 unfold zV at h;obtain⟨s,_,rfl⟩:=qqc.1 h;exact qF _
theorem ZY {o:Option Int}(h:∀ v,o=some v->0<=v/\v<=65535):0<=o.getD 0/\o.getD 0<=65535:=by
 cases o with
 | none=>simp
 | some v=>exact h v rfl
theorem qjx (env:List Signal)(a:Str)(i:Int):0<=atV env a i/\atV env a i<=65535:=by
 unfold atV;split
 . exact ZY fun v h=>Km h
 . omega
theorem qfs (env:List Signal)(a:Str):∀ i,0<=qmS env a i/\qmS env a i<=65535
 | 0=>by simp[qmS]
 | i+1=>qF _
theorem qha (op a:Int):0<=unW op a/\unW op a<=65535:=by
 unfold unW;split
 . exact KD _
 split
 . have:=qF a;omega
 split
 . exact qF _
 . have:=JX (qN a).toNat 16;omega
theorem qaI {a:Int}(n:Nat)(h0:0<=a)(h1:a<=65535):0<=a / 2 ^ n/\a / 2 ^ n<=65535:=by
 have hp:(0:Int)<2 ^ n:=qtw (by omega);refine⟨Int.ediv_nonneg h0 (by omega),?_⟩;have:=Int.ediv_le_self (2 ^ n) h0;omega
def InW (n:Int):Prop:=0<=n/\n<=65535
theorem InW.ite {c:Prop}[Decidable c]{a b:Int}(ha:InW a)(hb:InW b):InW (if c then a else b):=by
 split
 . exact ha
 . exact hb
theorem qgt (op:Int){a b:Int}(ha0:0<=a)(ha1:a<=65535)(hb0:0<=b)(hb1:b<=65535):0<=yL op a b/\yL op a b<=65535:=by
 obtain⟨x,rfl⟩:=qqM ha0;obtain⟨y,rfl⟩:=qqM hb0;have hx:x<2 ^ 16:=by omega
 have hy:y<2 ^ 16:=by omega
 have o1:=Nat.and_lt_two_pow (n:=16) x hy;have o2:=Nat.or_lt_two_pow (n:=16) hx hy;have o3:=Nat.xor_lt_two_pow (n:=16) hx hy;show InW (yL op x y);unfold yL;simp only[qq7]
 repeat' apply InW.ite
 all_goals first | exact qF _ | exact KD _ | exact qaI _ (qF _).1 (qF _).2 | (unfold InW;omega)
theorem qfl (env:List Signal):∀ e,yM e->0<=yo env e/\yo env e<=65535:=by
 refine Ex.ind fun e ih hn=>?_
 have hm:∀ x∈e.args.map (yo env),0<=x/\x<=65535:=by
  intro x hx;obtain⟨a,ha,rfl⟩:=qqx.1 hx;exact ih a ha (hn.arg ha)
 have hg:∀ i,0<=(e.args.map (yo env)).getD i 0/\(e.args.map (yo env)).getD i 0<=65535:=by
  intro i;rw[qqh];exact ZY fun v h=>hm v (qp6 h)
 obtain⟨h1,h2,h3,_⟩:=jo hn.self;rw[yk];unfold Qw;split
 . rename_i h;exact h3 h
 split
 . exact ZY fun v h=>Km h
 split
 . exact qjx _ _ _
 split
 . exact qfs _ _ _
 unfold opW;split
 . split
   . exact hg 1
   . exact hg 2
 split
 . exact KD _
 split
 . omega
 . exact qha _ _
 . rename_i a b r hl;rw[hl]at hm;exact qgt _ (hm a (by simp)).1 (hm a (by simp)).2 (hm b (by simp)).1 (hm b (by simp)).2
def kE (l:List Var)(a:List Int):List Signal:=if a.length=l.length then (l.zip a).map fun q=>⟨q.1.name,q.2⟩ else []
def w9 (q:Var×Int):Bool:=decide (0<=q.2)&&decide (q.2<2 ^ q.1.width.toNat)&&(!decide (q.1.mode=0)||decide (q.2=q.1.value))
def zD (l:List Var)(a:List Int):Bool:=decide (a.length=l.length)&&(l.zip a).all w9
section
theorem qa1 (f:Nat->Bool):zo f 16<65536:=ke f 16
theorem Wy (f:Nat->Bool):∀ k,k<=16->kD (zo f 16) k=Vm f k
 | 0,_=>rfl
 | k+1,h=>by
  simp only[kD,Vm,Wy f k (by omega),qW,b2n];have:decide (k<16)=true:=by simp;omega
  rw[this,qrm];cases f k<;>rfl
theorem vH (f:Nat->Bool):ZG f 16 = !decide ((zo f 16:Int)=0):=by
 rw[ZF];simp
theorem qhW (t:Bool):(zo (fun k=>decide (k=0)&&t) 16:Int)=b2i t:=by
 rw[W7 t 15];cases t<;>rfl
section
variable {x y z:Nat->Bool}
theorem w_add:(zo (fun k=>(x k ^^ y k) ^^ qah x y false k) 16:Int)=qN (zo x 16+zo y 16):=by
 rw[kL];unfold qN b2n;simp
theorem w_sub:(zo (fun k=>(x k ^^ !y k) ^^ qah x (fun k=>!y k) true k) 16:Int)=qN (zo x 16-zo y 16):=by
 rw[kL,W8];have:=qa1 x;have:=qa1 y;unfold qN b2n;simp;omega
theorem w_inv:(zo (fun k=>!x k) 16:Int)=65535-qN (zo x 16):=by
 rw[W8];have:=qa1 x;unfold qN;omega
theorem w_mul:((zo x 16*zo y 16 % 2 ^ 16:Nat):Int)=qN (zo x 16*zo y 16):=by unfold qN;simp
theorem w_shl (n:Nat):((zo x 16*2 ^ n % 2 ^ 16:Nat):Int)=qN (zo x 16*2 ^ n):=by unfold qN;simp
theorem w_shr (n:Nat):((zo x 16 / 2 ^ n:Nat):Int)=qN (zo x 16) / 2 ^ n:=by
 have:=qa1 x;have e:qN (zo x 16)=zo x 16:=Q2 (by omega) (by omega);rw[e];simp
end
def qn (d:List Nd)(b:Nat->Bool)(w:List Nat)(k:Nat):Bool:=evD d b (w.getD k 0)
def zU (d:List Nd)(b:Nat->Bool)(w:List Nat):Int:=(zo (qn d b w) 16:Nat)
def qZ (d:List Nd)(w:List Nat):Prop:=w.length=16/\∀ i∈w,i<d.length
theorem qZ.at {d:List Nd}{w:List Nat}(h:qZ d w){k:Nat}(hk:k<16):w.getD k 0<d.length:=by
 have hl:k<w.length:=by rw[h.1];exact hk
 rw[qqh,qp8 hl];exact h.2 _ (qsm hl)
theorem qZ.grown {d d':List Nd}{w:List Nat}(h:qZ d w)(hg:q9 d d'):qZ d' w:=⟨h.1,fun i hi=>qqn (h.2 i hi) hg.len⟩
theorem zI {d d':List Nd}(hd:DagOk d)(hg:q9 d d'){w:List Nat}(h:qZ d w)(b:Nat->Bool){k:Nat}(hk:k<16):qn d' b w k=qn d b w k:=hg.ev hd b (h.at hk)
theorem qfJ {d d':List Nd}(hd:DagOk d)(hg:q9 d d'){w:List Nat}(h:qZ d w)(b:Nat->Bool):zU d' b w=zU d b w:=by
 unfold zU;rw[zq fun k hk=>zI hd hg h b hk]
theorem qfI (d:List Nd)(b:Nat->Bool)(w:List Nat):0<=zU d b w/\zU d b w<=65535:=by
 unfold zU;have:=qa1 (qn d b w);omega
end
def zi (v:Var):Nat:=2 ^ v.width.toNat
def qX:List Var->List Int->List Int×Bool
 | v::vs,x::xs=>
  if (qX vs xs).2=false then (x::(qX vs xs).1,false)
  else if v.mode=0 then (x::(qX vs xs).1,true)
  else if x+1<(zi v:Nat) then ((x+1)::(qX vs xs).1,false)
  else (0::(qX vs xs).1,true)
 | _,_=>([],true)
def qP (vs:List Var):List Int:=vs.map fun v=>if v.mode=0 then v.value else 0
def QA:List Var->List (List Int)
 | []=>[[]]
 | v::vs=>if v.mode=0 then (QA vs).map (v.value::·) else (List.range (zi v)).flatMap fun n:Nat=>(QA vs).map ((n:Int)::·)
def Zu:List Var->List Int->List (List Int)
 | v::vs,x::xs=>if v.mode=0 then (Zu vs xs).map (x::·) else (Zu vs xs).map (x::·)++(List.range' (x.toNat+1) (zi v-1-x.toNat)).flatMap fun n:Nat=>(QA vs).map ((n:Int)::·)
 | _,_=>[[]]
theorem qdj {v:Var}{vs:List Var}(h:v.mode=0):QA (v::vs)=(QA vs).map (v.value::·):=by rw[QA,if_pos h]
theorem qdk {v:Var}{vs:List Var}(h:¬ v.mode=0):QA (v::vs)=(List.range (zi v)).flatMap fun n:Nat=>(QA vs).map ((n:Int)::·):=by rw[QA,if_neg h]
theorem J0 {v:Var}{vs:List Var}{x:Int}{xs:List Int}(h:v.mode=0):Zu (v::vs) (x::xs)=(Zu vs xs).map (x::·):=by rw[Zu,if_pos h]
theorem Qm {v:Var}{vs:List Var}{x:Int}{xs:List Int}(h:¬ v.mode=0):Zu (v::vs) (x::xs)=(Zu vs xs).map (x::·)++(List.range' (x.toNat+1) (zi v-1-x.toNat)).flatMap fun n:Nat=>(QA vs).map ((n:Int)::·):=by rw[Zu,if_neg h]
def okA:List Var->List Int->Prop
 | [],[]=>True
 | v::vs,x::xs=>(if v.mode=0 then x=v.value else 0<=x/\x<(zi v:Nat))/\okA vs xs
 | _,_=>False
theorem Yt (v:Var):0<zi v:=qrw _
theorem okA.len:∀ {vs:List Var} {a:List Int},okA vs a->a.length=vs.length
 | [],[],_=>rfl
 | _::vs,_::xs,h=>by simp[okA.len h.2]
 | [],_::_,h=>h.elim
 | _::_,[],h=>h.elim
theorem YT:∀ (vs:List Var),okA vs (qP vs)
 | []=>trivial
 | v::vs=>by
  have:=Yt v;show okA (v::vs) ((if v.mode=0 then v.value else 0)::qP vs);refine⟨?_,YT vs⟩;by_cases h:v.mode=0
  . rw[if_pos h,if_pos h]
  . rw[if_neg h,if_neg h];omega
theorem Vp:∀ {vs:List Var} {a:List Int},okA vs a->okA vs (qX vs a).1
 | [],[],_=>trivial
 | v::vs,x::xs,h=>by
  have h1:=Vp h.2;have h2:=h.1;have:=Yt v;unfold qX;split
  . exact⟨h2,h1⟩
  . split
    . exact⟨h2,h1⟩
    . rename_i hm;rw[if_neg hm]at h2;split
      . refine⟨?_,h1⟩;rw[if_neg hm];omega
      . refine⟨?_,h1⟩;rw[if_neg hm];omega
 | [],_::_,h=>h.elim
 | _::_,[],h=>h.elim
theorem qaE:∀ {vs:List Var} {a:List Int},okA vs a->(qX vs a).2=true->(qX vs a).1=qP vs
 | [],[],_,_=>rfl
 | v::vs,x::xs,h,ho=>by
  have h2:=h.1;unfold qX at ho ⊢;by_cases h1:(qX vs xs).2=false
  . rw[if_pos h1]at ho;cases ho
  . have h1':(qX vs xs).2=true:=(by simpa using h1);have ih:=qaE h.2 h1';rw[if_neg h1]at ho ⊢;show _=(if v.mode=0 then v.value else 0)::qP vs;by_cases hm:v.mode=0
    . rw[if_pos hm]at h2 ⊢;rw[if_pos hm,ih,h2]
    . rw[if_neg hm]at ho ⊢;rw[if_neg hm];by_cases hx:x+1<(zi v:Nat)
      . rw[if_pos hx]at ho;cases ho
      . rw[if_neg hx,ih]
 | [],_::_,h,_=>h.elim
 | _::_,[],h,_=>h.elim
theorem qfB {n:Nat}(h:0<n):List.range n=0::List.range' 1 (n-1):=by
 cases n with
 | zero=>omega
 | succ n=>rw[qrv,qrx];simp
theorem wB:∀ (vs:List Var),Zu vs (qP vs)=QA vs
 | []=>rfl
 | v::vs=>by
  show Zu (v::vs) ((if v.mode=0 then v.value else 0)::qP vs)=_;by_cases h:v.mode=0
  . rw[if_pos h,J0 h,qdj h,wB vs]
  . rw[if_neg h,Qm h,qdk h,wB vs,qfB (Yt v),qqs];rfl
theorem Kf:∀ {vs:List Var} {a:List Int},okA vs a->Zu vs a=a::if (qX vs a).2=true then [] else Zu vs (qX vs a).1
 | [],[],_=>rfl
 | v::vs,x::xs,h=>by
  have ih:=Kf h.2;have h2:=h.1;by_cases h1:(qX vs xs).2=false
  . have e:qX (v::vs) (x::xs)=(x::(qX vs xs).1,false):=(by rw[qX,if_pos h1]);rw[h1,if_neg (by simp)]at ih;rw[e,if_neg (by simp)];by_cases hm:v.mode=0
    . rw[J0 hm,J0 hm,ih];rfl
    . rw[Qm hm,Qm hm,ih];rfl
  . have h1':(qX vs xs).2=true:=(by simpa using h1);rw[h1',if_pos rfl]at ih;by_cases hm:v.mode=0
    . have e:qX (v::vs) (x::xs)=(x::(qX vs xs).1,true):=(by rw[qX,if_neg h1,if_pos hm]);rw[e,if_pos rfl,J0 hm,ih];rfl
    . rw[if_neg hm]at h2;by_cases hx:x+1<(zi v:Nat)
      . have e:qX (v::vs) (x::xs)=((x+1)::(qX vs xs).1,false):=(by rw[qX,if_neg h1,if_neg hm,if_pos hx]);have e1:(x+1).toNat=x.toNat+1:=(by omega);have e2:zi v-1-x.toNat=(zi v-1-(x.toNat+1))+1:=(by omega);have e3:((x.toNat+1:Nat):Int)=x+1:=(by omega);rw[e,if_neg (by simp),Qm hm,ih,Qm hm,qaE h.2 h1',wB,e1,e2,qrx,qqs,e3];rfl
      . have e:qX (v::vs) (x::xs)=(0::(qX vs xs).1,true):=(by rw[qX,if_neg h1,if_neg hm,if_neg hx]);have e2:zi v-1-x.toNat=0:=(by omega);rw[e,if_pos rfl,Qm hm,ih,e2];rfl
 | [],_::_,h=>h.elim
 | _::_,[],h=>h.elim
theorem qdi:∀ (vs:List Var),(QA vs).length=2 ^ ((vs.map fun v=>if v.mode=0 then 0 else v.width.toNat).sum)
 | []=>rfl
 | v::vs=>by
  by_cases h:v.mode=0
  . rw[qdj h,qqI,qdi vs];simp[h]
  . rw[qdk h];have:∀ (l:List Nat),(l.flatMap fun n:Nat=>(QA vs).map ((n:Int)::·)).length=l.length*(QA vs).length:=by
     intro l
     induction l with
     | nil=>simp
     | cons a r ih=>rw[qqs,qqb,ih,qqI,qqm,qsM,qrO]
    rw[this,qsA,qdi vs];simp only[qqk,if_neg h,qss,Nat.pow_add,zi]
theorem ky:∀ {vs:List Var} {a:List Int},a∈QA vs↔okA vs a
 | [],a=>by
  cases a with
  | nil=>simp[QA,okA]
  | cons x xs=>simp[QA,okA]
 | v::vs,a=>by
  by_cases h:v.mode=0
  . rw[qdj h,qqx];constructor
    . rintro⟨b,hb,rfl⟩;exact⟨by rw[if_pos h],ky.1 hb⟩
    . intro hk
      cases a with
      | nil=>exact hk.elim
      | cons x xs=>
       have h1:=hk.1;rw[if_pos h]at h1;exact⟨xs,ky.2 hk.2,by rw[h1]⟩
  . rw[qdk h,List.mem_flatMap];constructor
    . rintro⟨n,hn,hb'⟩;obtain⟨b,hb,rfl⟩:=qqx.1 hb';have:=qqT.1 hn;exact⟨by rw[if_neg h];omega,ky.1 hb⟩
    . intro hk
      cases a with
      | nil=>exact hk.elim
      | cons x xs=>
       have h1:=hk.1;rw[if_neg h]at h1;refine⟨x.toNat,qqT.2 (by omega),qqx.2 ⟨xs,ky.2 hk.2,?_⟩⟩;rw[Int.toNat_of_nonneg h1.1]
noncomputable def Qe (vs:List Var)(l:List Ex)(a:List Int):Bool:=l.all fun e=>decide (yr (kE vs a) e≠0)
noncomputable def qb5 (vs:List Var)(l:List Ex):Nat->List Int->Option (List Int)×Bool
 | 0,_=>(none,false)
 | k+1,a=>if Qe vs l a then (some a,(qX vs a).2) else if (qX vs a).2 then (none,true) else qb5 vs l k (qX vs a).1
theorem qew {vs:List Var}{l:List Ex}:∀ (k:Nat) {a:List Int},okA vs a->(Zu vs a).length<=k->(qb5 vs l k a).1=(Zu vs a).find? (Qe vs l)/\((qb5 vs l k a).1=none->(qb5 vs l k a).2=true)
 | 0,a,h,hk=>by rw[Kf h]at hk;simp at hk
 | k+1,a,h,hk=>by
  rw[Kf h]at hk ⊢;unfold qb5;rw[qsb];by_cases hs:Qe vs l a=true
  . rw[if_pos hs,hs];exact⟨rfl,fun e=>by cases e⟩
  . rw[if_neg hs];have hs':Qe vs l a=false:=(by simpa using hs);rw[hs'];by_cases ho:(qX vs a).2=true
    . rw[if_pos ho,if_pos ho];exact⟨rfl,fun _=>rfl⟩
    . rw[if_neg ho,if_neg ho];rw[if_neg ho]at hk;exact qew k (Vp h) (by simp at hk;omega)
noncomputable def jJ (vs:List Var)(l:List Ex):Bool:=(QA vs).any (Qe vs l)
theorem qlK {vs:List Var}{l:List Ex}{k:Nat}(hk:(QA vs).length<=k):((qb5 vs l k (qP vs)).1.isSome=jJ vs l)/\((qb5 vs l k (qP vs)).1=none->(qb5 vs l k (qP vs)).2=true):=by
 have:=qew (l:=l) k (YT vs) (by rw[wB];exact hk);rw[wB]at this;refine⟨?_,this.2⟩;rw[this.1,jJ];generalize QA vs=L
 induction L with
 | nil=>rfl
 | cons a r ih=>rw[qsb,qse];cases Qe vs l a<;>simp[ih]
abbrev Rg:=Int×Int
@[simp]def yK (r:Rg):List AV:=[.int .i64 r.1,.int .i64 r.2]
def vD (out:List Rg)(n:Int):List Rg:=match out.getLast? with
 | some r=>if r.2=n-1 then out.dropLast++[(r.1,n)] else out++[(n,n)]
 | none=>out++[(n,n)]
def kh (l:List Int):List Rg:=l.foldl vD []
def jr (n:Int):Ex:=.mk 1 n [] []
def Qt (s:Str):Ex:=.mk 2 0 s []
def wI (s:Str)(l:List Rg):Ex:=.mk 23 0 [] (Qt s::l.flatMap fun r=>[jr r.1,jr r.2])
def orE (a b:Ex):Ex:=.mk 20 0 [] [a,b]
def zZ {α:Type}(n:Nat):Nat->List α->List (List α)
 | 0,_=>[]
 | k+1,l=>if l=[] then [] else l.take n::zZ n k (l.drop n)
def v8 (s:Str)(out:Ex)(l:List (List Rg)):Ex:=l.foldl (fun o c=>orE o (wI s c)) out
def jA (s:Str)(l:List Rg):Ex:=if l=[] then jr 0 else v8 s (wI s (l.take 16)) (zZ 16 l.length (l.drop 16))
def inW (n:Int)(w:Weight):Bool:=decide (w.lo<=n)&&decide (n<=w.hi)
def qae (l:List Weight)(n:Int):Bool:=match l.find? (inW n) with
 | some w=>decide (0<w.weight)
 | none=>false
def qax (v:Var)(l:List Weight):List Int:=((List.range (zi v)).map fun n:Nat=>(n:Int)).filter (qae l)
def Jp (vs:List Var)(d:Dist):Ex:=match vs[d.var.toNat]? with
 | some v=>jA v.name (kh (qax v d.weights))
 | none=>jr 0
def wm (p:Problem):List Ex:=p.dists.map (Jp p.vars)
def qcG (p:Problem):List Ex:=p.hard++wm p
noncomputable def wh (vs:List Var)(rules:List Ex):List (Int×Ex)->List (Int×Ex)
 | []=>[]
 | x::r=>if jJ vs (rules++[x.2]) then x::wh vs (rules++[x.2]) r else wh vs rules r
def JK (l:List Ex):List (Int×Ex):=(l.zipIdx.map fun q=>((q.2:Int),q.1)).reverse
noncomputable def ZT (p:Problem):List (Int×Ex):=(wh p.vars (qcG p) (JK p.soft)).reverse
noncomputable def qhy (p:Problem):List Ex:=qcG p++(ZT p).map (·.2)
theorem Vt {n:Int}(h0:0<=n)(h1:n<=65535):qr (jr n)=0:=by
 simp[qr,jr,qj,zy,Ex.op,Ex.n,Ex.name,Ex.args];omega
theorem qgU {s:Str}(h:yW s=true):qr (Qt s)=0:=by
 simp[qr,Qt,qj,zy,Ex.op,Ex.n,Ex.name,Ex.args,h]
theorem Qj (n:Int):pre (jr n)=[jr n]:=by simp[jc,jr]
theorem qdX (s:Str):pre (Qt s)=[Qt s]:=by simp[jc,Qt]
theorem qaU:∀ (l:List Rg),wM (l.flatMap fun r=>[jr r.1,jr r.2])=l.flatMap fun r=>[jr r.1,jr r.2]
 | []=>rfl
 | r::l=>by rw[qqs,wL,qaU l];simp[Qj]
theorem qdY (s:Str)(l:List Rg):pre (wI s l)=wI s l::Qt s::l.flatMap fun r=>[jr r.1,jr r.2]:=by
 rw[jc];show wI s l::wM (Qt s::_)=_;rw[yI,qdX,qaU];rfl
theorem Vs:∀ (l:List Rg),(l.flatMap fun r=>[jr r.1,jr r.2]).length=2*l.length
 | []=>rfl
 | r::l=>by rw[qqs,qqb,Vs l];simp;omega
def qeZ (r:Rg):Prop:=(0<=r.1/\r.1<=65535)/\0<=r.2/\r.2<=65535
structure EOk (s:Str)(h m:Nat)(e:Ex):Prop where
 nodes:∀ x∈pre e,qr x=0/\x.op≠3/\x.op≠24/\(x.op=2->x.name=s)
 hgt:hgt e<=h
 size:(pre e).length<=m
theorem EOk.ins {s:Str}(hs:yW s=true){l:List Rg}(hl:l≠[])(hn:l.length<=16)(hr:∀ r∈l,qeZ r):EOk s 2 34 (wI s l):=by
 have hlen:=Vs l;have hpos:0<l.length:=qql.2 hl;refine⟨fun x hx=>?_,?_,?_⟩
 . rw[qdY]at hx;rcases qqv.1 hx with rfl|hx
   . refine⟨?_,by simp[wI,Ex.op],by simp[wI,Ex.op],by simp[wI,Ex.op]⟩;unfold qr qj;simp only[wI,Ex.op_mk,Ex.n_mk,Ex.name_mk,Ex.args_mk,qqm,hlen];have h1:(2*l.length+1) % 2=1:=(by omega);have h2:3<=2*l.length+1:=(by omega);have h3:2*l.length+1<=33:=(by omega);simp[h1,h2,h3]
   . rcases qqv.1 hx with rfl|hx
     . exact⟨qgU hs,by simp[Qt,Ex.op],by simp[Qt,Ex.op],fun _=>rfl⟩
     . obtain⟨r,hr1,hx⟩:=List.mem_flatMap.1 hx;have:=hr r hr1;simp only[qqv,qry,or_false]at hx;rcases hx with rfl|rfl
       . exact⟨Vt this.1.1 this.1.2,by simp[jr,Ex.op],by simp[jr,Ex.op],by simp[jr,Ex.op]⟩
       . exact⟨Vt this.2.1 this.2.2,by simp[jr,Ex.op],by simp[jr,Ex.op],by simp[jr,Ex.op]⟩
 . rw[vo];have:Ju (wI s l).args<=1:=by
    show Ju (Qt s::_)<=1;rw[Zs];have h1:Go.Proofs.YtoibbcnfhhggnaaGreatDoor.hgt (Qt s)=1:=(by simp[vo,Qt]);have h2:Ju (l.flatMap fun r=>[jr r.1,jr r.2])<=1:=by
     clear hlen hpos hl hn hr h1
     induction l with
     | nil=>simp
     | cons r l ih=>
      rw[qqs];simp only[qqB,qqw,Zs];have:∀ n,Go.Proofs.YtoibbcnfhhggnaaGreatDoor.hgt (jr n)=1:=fun n=>by simp[vo,jr]
      rw[this,this];omega
    omega
   omega
 . rw[qdY,qqm,qqm,hlen];omega
theorem EOk.or {s:Str}{h h' m m':Nat}{a b:Ex}(ha:EOk s h m a)(hb:EOk s h' m' b):EOk s (max h h'+1) (m+m'+1) (orE a b):=by
 have hp:pre (orE a b)=orE a b::(pre a++pre b):=by rw[jc];simp[orE]
 refine⟨fun x hx=>?_,?_,?_⟩
 . rw[hp]at hx;rcases qqv.1 hx with rfl|hx
   . refine⟨?_,by simp[orE,Ex.op],by simp[orE,Ex.op],by simp[orE,Ex.op]⟩;simp[qr,orE,qj,zy,Ex.op,Ex.n,Ex.name,Ex.args]
   . rcases qqo.1 hx with hx|hx
     . exact ha.nodes x hx
     . exact hb.nodes x hx
 . rw[vo];have:=ha.hgt;have:=hb.hgt;simp only[orE,Ex.args_mk,Zs,qlL];omega
 . rw[hp,qqm,qqb];have:=ha.size;have:=hb.size;omega
theorem EOk.chain {s:Str}(hs:yW s=true):∀ (l:List (List Rg)) {h m:Nat} {out:Ex},EOk s (h+2) m out->(∀ c∈l,c≠[]/\c.length<=16/\∀ r∈c,qeZ r)->EOk s (h+2+l.length) (m+35*l.length) (v8 s out l)
 | [],h,m,out,ho,_=>ho
 | c::l,h,m,out,ho,hc=>by
  have h1:=hc c (by simp);have h2:=ho.or (EOk.ins hs h1.1 h1.2.1 h1.2.2);have h3:=EOk.chain hs l (h:=h+1) (m:=m+34+1) (out:=orE out (wI s c)) (by
   have e:max (h+2) 2+1=h+1+2:=(by omega);rw[e]at h2;exact h2) (fun c hm=>hc c (by simp[hm]))
  have e1:h+2+(c::l).length=h+1+2+l.length:=by simp;omega
  have e2:m+35*(c::l).length=m+34+1+35*l.length:=by simp;omega
  rw[e1,e2];exact h3
theorem Zh {α:Type}{n:Nat}(hn:0<n):∀ (k:Nat) (l:List α),∀ c∈zZ n k l,c≠[]/\c.length<=n/\∀ x∈c,x∈l
 | 0,_,c,h=>by cases h
 | k+1,l,c,h=>by
  unfold zZ at h;split at h
  . cases h
  . rename_i hl;rcases qqv.1 h with rfl|h
    . have:=qql.2 hl;refine⟨qql.1 (by rw[qqD];omega),by rw[qqD];omega,fun x hx=>qq0 hx⟩
    . obtain⟨h1,h2,h3⟩:=Zh hn k _ c h;exact⟨h1,h2,fun x hx=>qru (h3 x hx)⟩
theorem YP {α:Type}{n:Nat}(hn:0<n):∀ (k:Nat) (l:List α) (m:Nat),l.length<=m*n->(zZ n k l).length<=m
 | 0,_,m,_=>by simp[zZ]
 | k+1,l,m,h=>by
  unfold zZ;split
  . simp
  . rename_i hl;have:=qql.2 hl
    cases m with
    | zero=>omega
    | succ m=>
     have:=YP hn k (l.drop n) m (by rw[qrq];rw[qsM]at h;omega);simp;omega
theorem EOk.valid {s:Str}{e:Ex}{h m:Nat}(ho:EOk s h m e)(hh:h<=24)(hm:m<=400){vs:List Var}(hv:vC vs s=true):zg vs e=0:=by
 have h1:qR qr (pre e)=0:=zf.2 fun x hx=>(ho.nodes x hx).1
 have h2:zk e=0:=by
  unfold zk;have h3:=ho.hgt;have h4:=ho.size;have h5:vy e=(pre e).length:=by unfold vy;rw[wr (by omega) (by omega)]
  rw[if_neg,h1];rintro⟨_,h|h⟩
  . omega
  . rw[h5]at h;omega
 have h3:ZE e=false:=by
  unfold ZE;rw[qrf];intro x hx;have:=ho.nodes x hx;simp[this.2.1,this.2.2.1]
 have h4:QQ vs e=false:=by
  unfold QQ;rw[qrf];intro x hx;have:=(ho.nodes x hx).2.2.2;by_cases h:x.op=2
  . simp[h,this h,hv]
  . simp[h]
 unfold zg;simp[h2,h3,h4]
theorem Wz {n:Int}(h0:0<=n)(h1:n<=65535)(vs:List Var):zg vs (jr n)=0:=by
 have hp:=Qj n;have h2:zk (jr n)=0:=by
  unfold zk vy;rw[hp];have:hgt (jr n)=1:=by simp[vo,jr]
  rw[this];simp[qR,Vt h0 h1];decide
 have h3:ZE (jr n)=false:=by unfold ZE;rw[hp];simp[jr,Ex.op]
 have h4:QQ vs (jr n)=false:=by unfold QQ;rw[hp];simp[jr,Ex.op]
 unfold zg;simp[h2,h3,h4]
theorem Jn {s:Str}(hs:yW s=true){l:List Rg}(hl:l.length<=128)(hr:∀ r∈l,qeZ r){vs:List Var}(hv:vC vs s=true):zg vs (jA s l)=0:=by
 unfold jA;split
 . exact Wz (by omega) (by omega) vs
 . rename_i h0;have hpos:=qql.2 h0;have h1:=EOk.ins hs (l:=l.take 16) (qql.1 (by rw[qqD];omega)) (by rw[qqD];omega) (fun r h=>hr r (qq0 h));have h2:=EOk.chain hs (zZ 16 l.length (l.drop 16)) (h:=0) h1 (fun c hc=>by
    obtain⟨a,b,c'⟩:=Zh (by omega) _ _ c hc;exact⟨a,b,fun r h=>hr r (qru (c' r h))⟩)
   have h3:=YP (n:=16) (by omega) l.length (l.drop 16) 7 (by rw[qrq];omega);exact h2.valid (by omega) (by omega) hv
theorem qmJ {out:List Rg}{n:Int}(hn:0<=n/\n<=65535)(h1:∀ r∈out,qeZ r)(h2:∀ r,out.getLast?=some r->r.2<n/\2*(out.length:Int)<=r.2+2) :
 (∀ r∈vD out n,qeZ r)/\∃ r,(vD out n).getLast?=some r/\r.2=n/\2*((vD out n).length:Int)<=n+2:=by
 have new:(∀ r,out.getLast?=some r->¬ r.2=n-1)->(∀ r∈out++[(n,n)],qeZ r)/\∃ r,(out++[(n,n)]).getLast?=some r/\r.2=n/\2*((out++[(n,n)]).length:Int)<=n+2:=by
  intro hne;refine⟨fun r hr=>?_,(n,n),by simp,rfl,?_⟩
  . rcases qqo.1 hr with hr|hr
    . exact h1 r hr
    . simp only[qqv,qry,or_false]at hr;subst hr;exact⟨hn,hn⟩
  . rw[qqb]
    cases h:out.getLast? with
    | none=>
     rw[qsK]at h;subst h;simp;omega
    | some r=>
     have:=h2 r h;have:=hne r h;simp only[qqm,qqK];omega
 unfold vD
 cases h:out.getLast? with
 | none=>exact new fun r hr=>by rw[h]at hr;cases hr
 | some r=>
  simp only;have h3:=h2 r h;split
  . rename_i he;obtain⟨l,rfl⟩:=qsL.1 h;rw[qr1];refine⟨fun x hx=>?_,(r.1,n),by simp,rfl,?_⟩
    . rcases qqo.1 hx with hx|hx
      . exact h1 x (by simp[hx])
      . simp only[qqv,qry,or_false]at hx;subst hx;exact⟨(h1 r (by simp)).1,hn⟩
    . simp only[qqb,qqm,qqK]at h3 ⊢;omega
  . rename_i he;exact new fun x hx=>by rw[h]at hx;cases hx;exact he
theorem qbA:∀ {l:List Int} {out:List Rg} {N:Int},l.Pairwise (· < ·)->(∀ x∈l,0<=x/\x<=65535/\x<N)->(∀ r∈out,qeZ r)->(∀ r,out.getLast?=some r->r.2<N/\2*(out.length:Int)<=r.2+2/\∀ x∈l,r.2<x) ->
 (∀ r∈l.foldl vD out,qeZ r)/\∀ r,(l.foldl vD out).getLast?=some r->r.2<N/\2*((l.foldl vD out).length:Int)<=r.2+2
 | [],out,N,_,_,h1,h2=>⟨h1,fun r hr=>⟨(h2 r hr).1,(h2 r hr).2.1⟩⟩
 | x::l,out,N,hp,hx,h1,h2=>by
  rw[qqV];obtain⟨hp1,hp2⟩:=List.pairwise_cons.1 hp;have hx0:=hx x (by simp);obtain⟨a1,r,a2,a3,a4⟩:=qmJ (n:=x) ⟨hx0.1,hx0.2.1⟩ h1 (fun r hr=>⟨(h2 r hr).2.2 x (by simp),(h2 r hr).2.1⟩);refine qbA hp2 (fun y hy=>hx y (by simp[hy])) a1 fun r' hr'=>?_
  rw[a2]at hr';cases hr';exact⟨by omega,by omega,fun y hy=>by rw[a3];exact hp1 y hy⟩
theorem YD {l:List Int}{N:Int}(hp:l.Pairwise (· < ·))(hx:∀ x∈l,0<=x/\x<=65535/\x<N)(hN:0<=N):(∀ r∈kh l,qeZ r)/\2*((kh l).length:Int)<=N+1:=by
 have:=qbA (out:=[]) hp hx (fun r h=>by cases h) (fun r h=>by cases h);refine⟨this.1,?_⟩
 cases h:(kh l).getLast? with
 | none=>rw[qsK]at h;rw[h];simp;omega
 | some r=>have:=this.2 r h;show 2*((l.foldl vD []).length:Int)<=_;omega
theorem Vb (v:Var)(l:List Weight):(qax v l).Pairwise (· < ·)/\∀ x∈qax v l,0<=x/\x<(zi v:Nat):=by
 unfold qax;refine⟨List.Pairwise.filter _ ?_,fun x hx=>?_⟩
 . rw[qsV];exact qtz.imp fun h=>by omega
 . obtain⟨hx,_⟩:=qsw.1 hx;obtain⟨n,hn,rfl⟩:=qqx.1 hx;have:=qqT.1 hn;omega
theorem JT {v:Var}(h:v.width<=8):zi v<=256:=by
 unfold zi;have:v.width.toNat<=8:=by omega
 calc 2 ^ v.width.toNat<=2 ^ 8:=qqu (by omega) this
  _=256:=rfl
theorem qfr {vs:List Var}(hv:∀ v∈vs,jL v=0)(d:Dist):zg vs (Jp vs d)=0:=by
 unfold Jp;split
 . rename_i v h;have hm:=qp6 h;have h1:=qU (hv v hm);have h2:=Vb v d.weights;have h3:=JT h1.2.2;have h4:=YD (N:=(zi v:Nat)) h2.1 (fun x hx=>by have:=h2.2 x hx;omega) (by omega);exact Jn h1.1 (by omega) h4.1 (by unfold vC;rw[qqr];exact⟨v,hm,by simp⟩)
 . exact Wz (by omega) (by omega) vs
def zF (a:List Int):List AV:=a.map (AV.int .i64 ·)
@[simp]def KX (p:Problem)(l:List Ex)(va:AV)(over:Bool)(n:Nat):List AV:=[.sl 4 (p.vars.map qo) .none,.sl 4 (p.hard.map qs) .none,.sl 4 (p.soft.map qs) .none,.sl 2 (p.dists.map zM) .none,.sl 1 (p.groups.map zc) .none,.sl 4 (l.map qs) .none,va,.bool over,.int .i64 n]
def qad (A t:Nat)(a:List Int):AV:=if a=[] then .sl 1 [] (.chain t 0) else .ms A 0 a.length 1
structure FndR (F A t:Nat)(p:Problem)(l:List Ex)(a:List Int)(over:Bool)(n:Nat)(H:List Blk):Prop where
 f:H[F]?=some (.cells (KX p l (qad A t a) over n))
 r:a≠[]->H[A]?=some (.cells (zF a))
theorem FndR.ne {F A t:Nat}{p:Problem}{l:List Ex}{a:List Int}{over:Bool}{n:Nat}{H:List Blk}(h:FndR F A t p l a over n H)(ha:a≠[]):A≠F:=by
 rintro rfl;have h1:=h.f;rw[h.r ha]at h1;simp only[zF,KX,Option.some.injEq,Blk.cells.injEq]at h1
 cases a with
 | nil=>exact ha rfl
 | cons x xs=>simp at h1
theorem yD {a:List Int}{i:Nat}{x:Int}:(zF a).set i (AV.int .i64 x)=zF (a.set i x):=by simp[zF,List.map_set]
theorem Kv {a:List Int}{i:Nat}:(zF a)[i]?=(a[i]?).map (AV.int .i64 ·):=by simp[zF]
theorem qY {a:List Int}:(zF a).length=a.length:=by simp[zF]
theorem qog {vs:List Var}{a:List Int}(hl:a.length=vs.length){m:Nat}{v:Var}{x:Int}(hv:vs[m]?=some v)(hx:a[m]?=some x)(ho:(qX (vs.drop (m+1)) (a.drop (m+1))).2=true) :
 qX (vs.drop m) (a.drop m)=if v.mode=0 then (x::(qX (vs.drop (m+1)) (a.drop (m+1))).1,true) else if x+1<(zi v:Nat) then ((x+1)::(qX (vs.drop (m+1)) (a.drop (m+1))).1,false) else (0::(qX (vs.drop (m+1)) (a.drop (m+1))).1,true):=by
 obtain⟨h1,rfl⟩:=qp5.1 hv;obtain⟨h2,rfl⟩:=qp5.1 hx;rw[qqt h1,qqt h2]
 conv=>lhs;unfold qX
 rw[ho,if_neg (by simp)]
theorem qdG:∀ {vs:List Var} {a:List Int} (hl:a.length=vs.length) (m:Nat),(qX (vs.drop m) (a.drop m)).2=false->qX vs a=(a.take m++(qX (vs.drop m) (a.drop m)).1,false)
 | vs,a,_,0,h=>by
  simp only[qrB]at h ⊢;rw[qtG,qqw,<- h]
 | [],[],_,m+1,h=>by simp[qX]at h
 | v::vs,x::xs,hl,m+1,h=>by
  have ih:=qdG (vs:=vs) (a:=xs) (by simpa using hl) m (by simpa using h);simp only[qsF]at h ⊢
  conv=>lhs;unfold qX
  rw[ih,if_pos rfl,qr3,qqB]
 | [],_::_,hl,_,_=>by simp at hl
 | _::_,[],hl,_,_=>by simp at hl
theorem qdH:∀ {vs:List Var} {a:List Int},a.length=vs.length->(qX vs a).1.length=a.length
 | [],[],_=>rfl
 | v::vs,x::xs,hl=>by
  have ih:=qdH (vs:=vs) (a:=xs) (by simpa using hl);unfold qX;split
  . simp[ih]
  . split
    . simp[ih]
    . split<;>simp[ih]
 | [],_::_,hl=>by simp at hl
 | _::_,[],hl=>by simp at hl
theorem FndR.look {F A t:Nat}{p:Problem}{l:List Ex}{a:List Int}{over:Bool}{n:Nat}{H:List Blk}(h:FndR F A t p l a over n H)(u:List Blk):FndR F A t p l a over n (H++u):=⟨qa h.f u,fun ha=>qa (h.r ha) u⟩
theorem qna:∀ {vs:List Var} {a:List Int} {m:Nat} {v:Var} {x:Int},okA vs a->vs[m]?=some v->a[m]?=some x->if v.mode=0 then x=v.value else 0<=x/\x<(zi v:Nat)
 | v::vs,x::xs,0,w,y,h,hv,hx=>by
  simp at hv hx;subst hv hx;exact h.1
 | v::vs,x::xs,m+1,w,y,h,hv,hx=>qna h.2 (by simpa using hv) (by simpa using hx)
 | [],[],_,_,_,_,hv,_=>by simp at hv
 | [],_::_,_,_,_,h,_,_=>h.elim
 | _::_,[],_,_,_,h,_,_=>h.elim
def AdvQ (F A t:Nat)(p:Problem)(l:List Ex)(a:List Int)(n:Nat)(H:List Blk)(T:List (Option Nat))(r:AV)(U':St):Prop :=
 r=.tup []/\U'.T=T/\FndR F A t p l (qX p.vars a).1 (qX p.vars a).2 n U'.H/\KpL [F,A] H U'.H
def AdvI (F A t:Nat)(p:Problem)(l:List Ex)(a:List Int)(n:Nat)(H:List Blk)(T:List (Option Nat))(m:Nat)(ev:Env)(U:St):Prop :=
 ev 0=.ptr F 0/\ev 2=.int .i64 ((m:Int)-1)/\m<=a.length/\(qX (p.vars.drop m) (a.drop m)).2=true/\∃ H',U=⟨H',T⟩/\KpL [F,A] H H'/\FndR F A t p l (a.take m++(qX (p.vars.drop m) (a.drop m)).1) false n H'
theorem qgy {F A t:Nat}{p:Problem}{l:List Ex}{a:List Int}{n:Nat}{H:List Blk}(T:List (Option Nat))(h:FndR F A t p l a false n H)(hl:a.length=p.vars.length)(hl2:a.length<=1000)(hok:okA p.vars a)(hw:∀ v∈p.vars,0<=v.width/\v.width<=28) :
 qg Tryz.prog GG 216 [.ptr F 0] ⟨H,T⟩ (AdvQ F A t p l a n H T):=by
 refine qg.k qe Tryz.func216 rfl (by kernel_rfl) ?_;have hF:=h.f;have hFl:=(qp5.1 hF).1;by_cases ha:a=[]
 . subst ha;have hv:p.vars=[]:=qqj hl.symm;have hs:qX p.vars []=([],true):=(by rw[hv];rfl);simp[-getElem?_pos,hF,qad];refine qL.gen (fun m ev U=>ev 0=.ptr F 0/\ev 2=.int .i64 (-1)/\U=⟨H,T⟩) 0 ⟨by simp,by simp;decide,rfl⟩ ?_;rintro m ev U R hR ⟨e0,e2,rfl⟩;simp[-getElem?_pos,e0,e2,hF];refine⟨rfl,rfl,⟨?_,fun h=>?_⟩,?_⟩
   . rw[hs];simp[hFl,qad]
   . rw[hs]at h;exact absurd rfl h
   . exact KpL.set (by simp)
 have hA:=h.r ha;have hne:=h.ne ha;have hAl:=(qp5.1 hA).1;have hrow:∀ b:List Int,b.length=a.length->qad A t b=.ms A 0 a.length 1:=fun b hb=>by
  unfold qad;rw[if_neg (by rintro rfl;exact ha (qqj hb.symm)),hb]
 rw[KX,hrow a rfl]at hF;simp[-getElem?_pos,hF];refine qL.gen (fun m ev U=>AdvI F A t p l a n H T m ev U) a.length ?_ ?_
 . refine⟨by simp,by simp;rw[wr (by omega) (by omega)],qqf _,?_,H,rfl,KpL.refl,?_⟩
   . rw[hl,qsn,<- hl,qsn];rfl
   . rw[qsn,hl,qsn,<- hl,qr5];show FndR F A t p l (a++[]) false n H;rw[qqP];exact h
 . rintro m ev U R hR ⟨e0,e2,hm,ho,H',rfl,hk,hfr⟩;have hF':=hfr.f;have hF'l:=(qp5.1 hF').1;have hdl:(a.drop m).length=(p.vars.drop m).length:=(by simp[hl]);have hcl:(a.take m++(qX (p.vars.drop m) (a.drop m)).1).length=a.length:=(by rw[qqb,qdH hdl];simp;omega);rw[KX,hrow _ hcl]at hF';have hcn:a.take m++(qX (p.vars.drop m) (a.drop m)).1≠[]:=fun e=>ha (qqj (by rw[<- hcl,e];rfl))
   have hA':=hfr.r hcn
   cases m with
   | zero=>
    have hneg:¬ (0:Int)<=((0:Nat):Int)-1:=(by omega);simp[-getElem?_pos,e0,e2,hF'];simp only[qrB,qtG,qqw]at ho hfr hcl hA';refine⟨rfl,rfl,⟨?_,fun _=>?_⟩,hk.trans (KpL.set (by simp))⟩
    . rw[qqa hF'l,KX,hrow _ hcl,ho]
    . rw[qp7 (Ne.symm hne)];exact hA'
   | succ m=>
    have hma:m<a.length:=(by omega);obtain⟨x,hx⟩:∃ x,a[m]?=some x:=⟨_,qp8 hma⟩;obtain⟨v,hv⟩:∃ v,p.vars[m]?=some v:=⟨_,qp8 (by omega)⟩;have hst:=qog hl hv hx ho;have hpre:=qdG hl m;have hwv:=hw v (qp6 hv);have hs1:=kg hwv.1 hwv.2;have e2':ev 2=.int .i64 (m:Int):=(by rw[e2];congr 1;omega);have hw1:=wr (n:=(m:Int)-1) (by omega) (by omega);have hokx:v.mode≠0->0<=x/\x<(zi v:Nat):=fun hm0=>by
     have:=qna hok hv hx
     rwa[if_neg hm0]at this
    have hsz:zi v<=2 ^ 28:=qqu (by omega) (by omega);have htk:a.take (m+1)=a.take m++[x]:=(by rw[qqE,hx];rfl);have hdm:(a.drop m).length=(p.vars.drop m).length:=(by simp[hl]);have hS:(a.take m).length+((qX (p.vars.drop (m+1)) (a.drop (m+1))).1.length+1)=a.length:=by
     rw[htk]at hcl;simpa using hcl
    rw[htk]at hfr hcl hA';generalize (qX (p.vars.drop (m+1)) (a.drop (m+1))).1=S at *;have hpl:(a.take m).length=m:=(by simp;omega);generalize hP:a.take m=P at *;simp only[qqC,qsa]at hfr hcl hA';have hen:∀ y,zF (P++y::S)=zF P++.int .i64 y::zF S:=fun y=>by simp[zF]
    have hepl:(zF P).length=m:=(by rw[qY,hpl]);have hg:∀ y,(zF P++AV.int .i64 y::zF S)[m]?=some (.int .i64 y):=fun y=>by
     rw[qqd (by omega),hepl,qrl];rfl
    have hd:∀ y,(zF P++AV.int .i64 y::zF S).drop m=.int .i64 y::zF S:=fun y=>by
     rw[qr2 (by omega),qqL (by omega)];rfl
    have hst2:∀ y z,(zF P++AV.int .i64 y::zF S).set m (.int .i64 z)=zF P++.int .i64 z::zF S:=fun y z=>by
     rw[qrb _ _ (by omega),hepl,qrl];rfl
    have hlen2:∀ y,(zF P++AV.int .i64 y::zF S).length=a.length:=fun y=>by
     rw[qqb,qqm,qY,qY];exact hS
    rw[hen]at hA';have hAl':=(qp5.1 hA').1;have hFset:∀ y,(H'.set A y)[F]?=some (.cells (KX p l (.ms A 0 a.length 1) false n)):=fun y=>by rw[qp7 hne];exact hF'
    have hAset:∀ y,(H'.set A y)[A]?=some y:=fun y=>qqa hAl'
    have hml:m<p.vars.length:=(by omega);have hma1:m+1<=a.length:=hma;simp only[KX]at hF' hFset;by_cases hm0:v.mode=0
    . rw[if_pos hm0]at hst;simp[-getElem?_pos,e0,e2',hF',hv,hm0,hw1];refine hR m _ _ (by omega) ⟨by simp[e0],by simp,by omega,by rw[hst],H',rfl,hk,?_⟩;rw[hst,hP];exact hfr
    . have hx0:=hokx hm0;have hwx:=wr (n:=x+1) (by omega) (by omega);rw[if_neg hm0]at hst;have hwn:¬ v.width<0:=(by omega);have hszv:zi v=2 ^ v.width.toNat:=rfl;rw[<- hszv]at hs1;by_cases hx1:x+1<(zi v:Nat)
      . rw[if_pos hx1]at hst;have hpr:=hpre (by rw[hst]);rw[hst]at hpr;simp only at hpr;simp[-getElem?_pos,e0,e2',hF',hv,hm0,hw1,hA',hd,hst2,hlen2,hwx,hFset,hAset,hs1,hma,hma1,hwn,IntKind.bits,hx1];have hL:(P++(x+1)::S).length=a.length:=(by rw[<- qY,hen];exact hlen2 _);refine⟨rfl,rfl,⟨?_,fun _=>?_⟩,hk.trans (KpL.set (by simp))⟩
        . rw[hpr,KX,hrow _ hL];exact hFset _
        . rw[hpr,hen];exact hAset _
      . rw[if_neg hx1]at hst;simp[-getElem?_pos,e0,e2',hF',hv,hm0,hw1,hA',hd,hst2,hlen2,hwx,hFset,hAset,hs1,hma,hma1,hwn,IntKind.bits,hx1];have hL:(P++0::S).length=a.length:=(by rw[<- qY,hen];exact hlen2 _);refine hR m _ _ (by omega) ⟨by simp[e0],by simp,by omega,by rw[hst],_,rfl,hk.trans (KpL.set (by simp)),?_⟩;rw[hst,hP];refine⟨?_,fun _=>?_⟩
        . rw[KX,hrow _ hL,qp7 hne];exact hF'
        . rw[hen];exact qqa hAl'
def QV (l:List Var)(a:List Int):List Signal:=(l.zip a).map fun q=>⟨q.1.name,q.2⟩
theorem qc2 (l:List Var)(a:List Int):kE l a=if a.length=l.length then QV l a else []:=rfl
theorem Zx {l:List Var}{a:List Int}{i:Nat}{v:Var}{x:Int}(h:l[i]?=some v)(h':a[i]?=some x):(QV l a)[i]?=some ⟨v.name,x⟩:=by
 unfold QV;rw[qqp,(qrc (z:=(v,x))).2 ⟨h,h'⟩];rfl
theorem wa {l:List Var}{a:List Int}(h:a.length=l.length):(QV l a).length=l.length:=by simp[QV,h]
def EnvQ (p:Problem)(a:List Int)(H:List Blk)(T:List (Option Nat))(r:AV)(U':St):Prop :=
 U'.T=T/\KpL [] H U'.H/\∃ b,jw b 2 ze U'.H r (kE p.vars a)/\H.length<=b
theorem qiV {vs:List Var}{a:List Int}{i:Nat}{v:Var}{x:Int}(h:vs[i]?=some v)(h':a[i]?=some x):(QV vs a).take (i+1)=(QV vs a).take i++[⟨v.name,x⟩]:=by
 rw[qqE,Zx h h'];rfl
def qd4:List (Nat×Sch×List Nat):=[(7,.step 0 [10,9] (.step 1 [10,9,8,7,2] (.step 2 [10,9,8,7] (.step 3 [10,9,8,7,6,5] (.step 4 [10,9,8,7,6,5] (.step 5 [10,9,8,7,6] (.step 6 [10,9,8,7] (.step 7 [10,9,8] (.step 8 [10,9] (.step 9 [10] (.step 10 [] (.done))))))))))),[])]
theorem qpw {A t:Nat}(p:Problem)(a:List Int)(hlen:a.length=p.vars.length)(hl:p.vars.length<=1000){H:List Blk}(T:List (Option Nat))(hr:a≠[]->H[A]?=some (.cells (zF a))) :
 qg Tryz.prog GG 215 [.agg (qJ p),qad A t a] ⟨H,T⟩ (EnvQ p a H T):=by
 refine qg.kO ⟨true,qd4,[],[]⟩ qe Tryz.func215 rfl (by kernel_rfl) ?_;by_cases ha:a=[]
 . subst ha;have hv:p.vars=[]:=qqj hlen.symm;have hen:kE p.vars []=[]:=(by rw[hv];rfl);have hQ:∀ u,EnvQ p [] H T (.sl 0 [] .nil) ⟨H++u,T⟩:=fun u=>⟨rfl,KpL.app,H.length,.inl ⟨hen,rfl⟩,qqf _⟩
   simp[-getElem?_pos,qad,hv];refine qL.gen (fun n ev U=>ev 5=.sl 0 [] .nil/\ev 16=.int .i64 0/\ev 17=.int .i64 0/\∃ u,U=⟨H++u,T⟩) 0 ⟨by simp,by simp,by simp,_,rfl⟩ ?_;rintro n ev U R hR ⟨e5,e16,e17,u,rfl⟩;simp[-getElem?_pos,e5,e16,e17];exact hQ u
 . have hrow:qad A t a=.ms A 0 a.length 1:=if_neg ha;have hA:=hr ha;have hE:=wa hlen;have hen:kE p.vars a=QV p.vars a:=(by rw[qc2,if_pos hlen]);rw[hrow];have hlen':(a.length:Int)=p.vars.length:=(by omega);simp[-getElem?_pos,hlen',hlen];refine qL.listR p.vars (fun d ev U=>ev 1=.ms A 0 p.vars.length 1/\ev 15=.sl 4 (p.vars.map qo) .none/\ev 16=.int .i64 p.vars.length/\ev 17=.int .i64 d.length /\
    ∃ H' b,U=⟨H',T⟩/\KpL [] H H'/\H.length<=b/\jw b 2 ze H' (ev 5) ((QV p.vars a).take d.length)) ?_ ?_ ?_
   . exact⟨by simp[hlen],by simp,by simp,by simp,_,H.length,rfl,KpL.app,qqf _,.inl ⟨by simp,by simp⟩⟩
   . rintro d v rest ev U R hR hd hx hlt ⟨e1,e15,e16,e17,H',b,rfl,hk,hb,ho⟩;have hw:=wr (n:=(d.length:Int)+1) (by omega) (by omega);have hda:d.length<a.length:=(by omega);obtain⟨x,hxa⟩:∃ x,a[d.length]?=some x:=⟨_,qp8 hda⟩;have hA':H'[A]?=some (.cells (zF a)):=hk.2 _ _ hA (by simp);have hto:(zF a)[d.length]?=some (.int .i64 x):=(by rw[Kv,hxa];rfl);have hdr:(zF a).drop d.length=.int .i64 x::(zF a).drop (d.length+1):=by
      obtain⟨h1,h2⟩:=qp5.1 hto;rw[qqt h1,h2]
     have hl1:d.length+1<=(zF a).length:=(by rw[qY];omega);have hl2':d.length+1<=p.vars.length:=(by omega);have ho':jw b 2 ze (H'++[.cells (qo v)]) (ev 5) ((QV p.vars a).take d.length):=ho.keep fun y _ h=>qa h _
     obtain⟨v',b',H2,hY,ho2,hb2,hk2,hl2⟩:=ho'.appendK (P:=Tryz.prog) (G:=jh GG) (o:=⟨true,qd4,[],[]⟩) (T:=T) (m:=[⟨v.name,x⟩]) (tok:=.tight) D80 rfl D111 rfl (by omega) rfl (by decide) (fun x=>rfl) (by simp;omega);have hkH2:KpL [] H H2:=⟨by have:=hk.1;simp at hl2;omega,fun k y hk1 _=>hk2 _ _ (qa (hk.2 k y hk1 (by simp)) _) (by
      have:=(qp5.1 hk1).1;right;omega)⟩
     simp only[qqk,qqF,ze,qo]at hY ho';generalize hv5:ev 5=v5 at *;simp[-getElem?_pos,e1,e15,e16,e17,hlt,hx,hlen];rw[qG rfl];simp[-getElem?_pos,qM,hv5,hY,e1,e15,e16,e17,hlt,hx,hda,qa hA',hto,hdr,hl1,hl2',qV,zu,qv,qk,qA,hw,hlen];refine hR _ _ ⟨by simp[e1],by simp[e15],by simp[e16],by simp,H2,b',rfl,hkH2,?_,?_⟩
     . rcases hb2 with rfl|rfl
       . exact hb
       . have:=hk.1;simp;omega
     . have:=qiV hx hxa;simp only[qqb,qqA];rw[this];simpa using ho2
   . rintro ev U ⟨e1,e15,e16,e17,H',b,rfl,hk,hb,ho⟩;simp[-getElem?_pos,e16,e17];rw[qqg (by rw[hE];exact qqf _)]at ho;exact⟨rfl,hk,b,by rw[hen];exact ho,hb⟩
def qj0 (b:Nat)(H:List Blk)(v:AV)(a:List Int):Prop:=(a=[]/\∃ sz tok,v=.sl sz [] tok)\/(a≠[]/\v=.ms b 0 a.length 1/\H[b]?=some (.cells (zF a)))
def ClnQ (a:List Int)(H:List Blk)(T:List (Option Nat))(r:AV)(U':St):Prop:=U'.T=T/\KpL [] H U'.H/\∃ b,qj0 b U'.H r a/\H.length<=b
theorem qmm {A t:Nat}(a:List Int)(hl:a.length<=1000){H:List Blk}(T:List (Option Nat))(hr:a≠[]->H[A]?=some (.cells (zF a))) :
 qg Tryz.prog GG 96 [qad A t a] ⟨H,T⟩ (ClnQ a H T):=by
 refine qg.kO ⟨true,[],[],[]⟩ qe Tryz.func96 rfl (by kernel_rfl) ?_;by_cases ha:a=[]
 . subst ha;simp[-getElem?_pos,qad,zs,z6,qB,qS,KK,zp];exact⟨⟨rfl,KpL.refl,H.length,.inl ⟨rfl,_,_,rfl⟩,qqf _⟩,⟨rfl,KpL.refl,H.length,.inl ⟨rfl,_,_,rfl⟩,qqf _⟩⟩
 . have hrow:qad A t a=.ms A 0 a.length 1:=if_neg ha;have hA:=hr ha;have h1:(zF a).take a.length=zF a:=qqg (by rw[qY];exact qqf _);have h2:a.length<=549755813888:=(by omega);rw[hrow];simp[-getElem?_pos,hA,zs,z6,qS,KK,qY,h1,h2,ha];exact⟨rfl,KpL.app,H.length,.inr ⟨ha,rfl,by simp⟩,qqf _⟩
theorem YV (n:Int):Pure Tryz.prog GG 218 [.int .i64 n] (.agg (qs (jr n))):=by
 refine Pure.k qe Tryz.func218 rfl (by kernel_rfl) ?_;simp[-getElem?_pos,jr,qd,qV,zu,qv]
theorem rg_set {L:List Rg}{r:Rg}{n:Int}:((L++[r]).flatMap yK).set (L.length*2+1) (.int .i64 n)=(L++[(r.1,n)]).flatMap yK:=by
 rw[List.flatMap_append,List.flatMap_append,qrb _ _ (by rw[jj (sz:=2) (fun x=>by simp)];omega),jj (sz:=2) (fun x=>by simp)];have:L.length*2+1-L.length*2=1:=by omega
 rw[this];simp
theorem qmI (out:List Rg)(n:Int):(vD out n).length<=out.length+1:=by
 unfold vD
 cases h:out.getLast? with
 | none=>simp
 | some r=>
  simp only;split<;>simp
theorem qbz:∀ (l:List Int) (out:List Rg),(l.foldl vD out).length<=out.length+l.length
 | [],out=>by simp
 | n::l,out=>by
  rw[qqV];have:=qbz l (vD out n);have:=qmI out n;simp;omega
theorem qhB (l:List Int)(hl:l.length<=1000)(hn:∀ n∈l,0<=n/\n<=65535):Pure Tryz.prog GG 171 [.sl 1 (l.map qy) .none] (.sl 2 ((kh l).map yK) .none):=by
 refine Pure.kO ⟨true,[],[],[]⟩ true qe Tryz.func171 rfl (by kernel_rfl) ?_;have hr:kh l=l.foldl vD []:=rfl;generalize kh l=O at hr;simp[-getElem?_pos];refine qL.listR l (fun d ev U=>ev 7=.sl 1 (l.map qy) .none/\ev 8=.int .i64 l.length/\ev 9=.int .i64 d.length/\∃ H b,U=⟨H,[]⟩/\jw b 2 yK H (ev 3) (d.foldl vD [])) ?_ ?_ ?_
 . exact⟨by simp,by simp,by simp,[],0,by simp,.inl ⟨rfl,by simp⟩⟩
 . rintro d n rest ev U R hR hd hx hlt ⟨e7,e8,e9,H,b,rfl,ho⟩;have hw:=wr (n:=(d.length:Int)+1) (by omega) (by omega);have hlen:(d.foldl vD []).length<=d.length:=(by have:=qbz d [];simpa using this);have hnn:=hn n (qp6 hx);have hwn:=wr (n:=n-1) (by omega) (by omega);have hnext:(d++[n]).foldl vD []=vD (d.foldl vD []) n:=(by simp);generalize d.foldl vD []=L at *;have hgo:∀ (ev':Env) H' b',ev' 7=.sl 1 (l.map qy) .none->ev' 8=.int .i64 l.length->ev' 9=.int .i64 (d.length+1:Nat)->jw b' 2 yK H' (ev' 3) (vD L n)->R ev' ⟨H',[]⟩:=fun ev' H' b' a1 a2 a3 a4=>
    hR _ _ ⟨a1,a2,by simpa using a3,H',b',rfl,by rw[hnext];exact a4⟩
   have hnew:∀ (ev':Env),ev' 3=ev 3->True:=fun _ _=>trivial
   generalize hv3:ev 3=v3 at *
   cases hg:L.getLast? with
   | none=>
    have hL:L=[]:=qsK.1 hg;have hadd:vD L n=[(n,n)]:=(by subst hL;rfl);obtain⟨v',b',H2,hY,ho2,_,_,_⟩:=ho.appendK (P:=Tryz.prog) (G:=jh GG) (o:=⟨true,[],[],[]⟩) (T:=[]) (m:=[(n,n)]) (tok:=.tight) D200 rfl D238 rfl (by omega) rfl (by decide) (fun x=>by simp) (by simp;omega);subst hL;rcases ho with ⟨_,rfl⟩|⟨h,_⟩
    case inr=>exact absurd rfl h
    have hm1:IntKind.i64.wrap (-1) = -1:=(by decide);simp only[qqk,qqF,yK]at hY;simp[-getElem?_pos,hv3,hY,e7,e8,e9,hlt,hx,hw,hm1,qV,zu,qv,qk,qA];exact hgo _ _ _ (by simp[e7]) (by simp[e8]) (by simp) (by rw[hadd];simpa using ho2)
   | some r=>
    obtain⟨L',rfl⟩:=qsL.1 hg;have hLne:L'++[r]≠[]:=(by simp);obtain⟨hv,hb⟩:=ho.at hLne;have hll:(L'++[r]).length=L'.length+1:=(by simp);have hlw:=wr (n:=(L'.length:Int)) (by omega) (by omega);have hf0:(L'.flatMap yK).length=L'.length*2:=jj (sz:=2) (fun x=>by simp) L';have hfe:(L'++[r]).flatMap yK=L'.flatMap yK++[.int .i64 r.1,.int .i64 r.2]:=(by rw[List.flatMap_append];simp);have hfl:((L'++[r]).flatMap yK).drop (L'.length*2+1)=[.int .i64 r.2]:=by
     rw[hfe,qrK,hf0,qqL (by omega),show L'.length*2+1-L'.length*2=1 by omega];rfl
    have hln:((L'++[r]).flatMap yK).length=L'.length*2+2:=(by rw[hfe,qqb,hf0];rfl);have hsetl:=rg_set (L:=L') (r:=r) (n:=n);have hbl:=(qp5.1 hb).1;rw[hll]at hv;subst hv;have hlt2:(L'.length:Int)<L'.length+1:=(by omega);have hle2:L'.length*2+1+1<=L'.length*2+2:=(by omega);by_cases hr2:r.2=n-1
    . have hadd:vD (L'++[r]) n=L'++[(r.1,n)]:=(by unfold vD;rw[hg];simp[hr2]);generalize (L'++[r]).flatMap yK=fl at *;simp[-getElem?_pos,hv3,hb,hlt2,hfl,hln,hsetl,hlw,hwn,hr2,hw,e7,e8,e9,hlt,hx];exact hgo _ _ b (by simp[e7]) (by simp[e8]) (by simp) (by
       rw[hadd];exact .inr ⟨by simp,by simp[hv3],by rw[qqa hbl];simp⟩)
    . have hadd:vD (L'++[r]) n=L'++[r]++[(n,n)]:=(by unfold vD;rw[hg];simp[hr2]);obtain⟨v',b',H2,hY,ho2,_,_,_⟩:=ho.appendK (P:=Tryz.prog) (G:=jh GG) (o:=⟨true,[],[],[]⟩) (T:=[]) (m:=[(n,n)]) (tok:=.tight) D200 rfl D238 rfl (by omega) rfl (by decide) (fun x=>by simp) (by simp at hlen ⊢;omega);simp only[qqk,qqF,yK]at hY;generalize (L'++[r]).flatMap yK=fl at *;simp[-getElem?_pos,hv3,hb,hlt2,hfl,hln,hsetl,hlw,hwn,hr2,hw,e7,e8,e9,hlt,hx,hY,qV,zu,qv,qk,qA];exact hgo _ _ b' (by simp[e7]) (by simp[e8]) (by simp) (by rw[hadd];simpa using ho2)
 . rintro ev U ⟨e7,e8,e9,H,b,rfl,ho⟩;rw[<- hr]at ho;simp[-getElem?_pos,e8,e9];exact⟨ho.frzNo (fun x=>by simp) (fun x=>by simp) (fun x=>by simp) 7,ho.frz (fun x=>by simp) (fun x=>by simp) (fun x=>by simp) 7⟩
def qkJ (s:Str):List AV:=[.int .i64 2,.int .i64 0,.str s,.sl 0 [] .nil]
def Qv (d:List Rg):List Ex:=d.flatMap fun r=>[jr r.1,jr r.2]
def qbU (s:Str)(d:List Rg):AV:=match d with
 | []=>.sl 4 [qkJ s] .tight
 | r::q=>.sl 4 (qkJ s::(Qv (r::q)).map qs) (.chain 0 (2*(q.length+1)))
def qjH (d:List Rg):List (Option Nat):=match d with
 | []=>[]
 | _::q=>[some (2*(q.length+1))]
theorem qmC (s:Str)(d:List Rg)(r:Rg)(hl:d.length<=1000)(H:List Blk):qB (Dof Tryz.prog) ⟨H,qjH d⟩ 23 (qbU s d) (.sl 4 [qs (jr r.1),qs (jr r.2)] .tight)=some (qbU s (d++[r]),⟨H,qjH (d++[r])⟩):=by
 cases d with
 | nil=>simp[qB,qbU,qjH,zp,Qv]
 | cons a q=>
  have h1:((Qv (a::q)).map qs).length=2*(q.length+1):=by rw[qqI,Qv,Vs];simp
  have h2:((Qv (a::q)).map qs).length+1+2<=549755813888:=by rw[h1];simp at hl;omega
  have h3:Qv (a::q++[r])=Qv (a::q)++[jr r.1,jr r.2]:=by simp[Qv]
  have h4:2*(q.length+1)+2=2*((q++[r]).length+1):=by simp;omega
  show qB (Dof Tryz.prog) ⟨H,[some (2*(q.length+1))]⟩ 23 (.sl 4 (qkJ s::(Qv (a::q)).map qs) (.chain 0 (2*(q.length+1)))) _=some (.sl 4 (qkJ s::(Qv (a::q++[r])).map qs) (.chain 0 (2*((q++[r]).length+1))),⟨H,[some (2*((q++[r]).length+1))]⟩);rw[h3,<- h4];generalize (Qv (a::q))=N at h2 ⊢;simp only[qqI]at h2;simp[qB,zp,h2]
theorem qjT:∀ L:List (List AV),j6 L L
 | []=>by simp
 | a::r=>by simp
theorem qbk (s:Str)(l:List Rg)(hl:l.length<=1000):Pure Tryz.prog GG 219 [.str s,.sl 2 (l.map yK) .none] (.agg (qs (wI s l))):=by
 refine Pure.k qe Tryz.func219 rfl (by kernel_rfl) ?_;simp[-getElem?_pos,qV,zu,qv,qk,qA];refine qL.list l (fun d ev U=>ev 4=.ptr 0 0/\ev 5=qbU s d/\ev 11=.sl 2 (l.map yK) .none/\ev 12=.int .i64 l.length/\ev 13=.int .i64 d.length/\∃ t,U=⟨.cells [.int .i64 0,.int .i64 0,.str [],.sl 0 [] .nil]::t,qjH d⟩) ?_ ?_ ?_
 . exact⟨by simp,by simp[qbU,qkJ],by simp,by simp,by simp,[],by simp[qjH]⟩
 . rintro d r rest ev U hd hx hlt ⟨e4,e5,e11,e12,e13,t,rfl⟩;have hw:=wr (n:=(d.length:Int)+1) (by omega) (by omega);have happ:=fun H=>qmC s d r (by omega) H
   generalize qbU s d=v5 at *;generalize qbU s (d++[r])=v6 at *;have hn:∀ n,qs (jr n)=[.int .i64 1,.int .i64 n,.str [],.sl 4 [] .none]:=fun n=>by simp[qd,jr]
   simp only[hn]at happ;have h1:=YV r.1;have h2:=YV r.2;simp only[hn]at h1 h2;simp[-getElem?_pos,e5,e11,e12,e13,hlt,hx];refine qc.call h1 (by simp) ?_;simp[-getElem?_pos];refine qc.call h2 (by simp) ?_;simp[-getElem?_pos,qk,qA,happ,hw,e4,e11,e12,e13]
 . rintro ev U ⟨e4,e5,e11,e12,e13,t,rfl⟩;obtain⟨R,tok,hv,hR,hnr⟩:∃ R tok,qbU s l=.sl 4 R tok/\j6 R ((Qt s::Qv l).map qs)/\qQ R=true:=by
    have hx:zm (qkJ s) (qs (Qt s)):=(by rw[qd];simp[qkJ,Qt,zm,Leq]);have ha:(qs (Qt s)).all AV.atom=true:=(by rw[qd];simp[AV.atom])
    cases l with
    | nil=>exact⟨_,_,rfl,by simp only[Qv,j6,qqk,qsB,qqF];exact⟨.inr ⟨hx,ha⟩,trivial⟩,by simp[qkJ]⟩
    | cons a q=>
     refine⟨_,_,rfl,by simp only[j6,qqk];exact⟨.inr ⟨hx,ha⟩,qjT _⟩,?_⟩;have:=nrEs (Qv (a::q));simp only[qQ,qp9];exact⟨by simp[qkJ],this⟩
   rw[hv]at e5;have hE:qs (wI s l)=[.int .i64 23,.int .i64 0,.str [],.sl 4 ((Qt s::Qv l).map qs) .none]:=(by rw[qd];rfl);rw[hE];generalize (Qt s::Qv l).map qs=R' at hR;simp[-getElem?_pos,e4,e5,e12,e13,qV,zu,qv];cases tok<;>exact⟨by simpa using hnr,by simp[Leq,hR]⟩
theorem zj (e:Ex):(qs e).length=4:=by rw[qd];rfl
theorem ju (e:Ex):(qs e).all AV.atom=true:=by
 rw[qd];simp
theorem yE (e:Ex):qK (.agg (qs e))=some (qs e):=by rw[qd];simp[qK,AV.atom]
theorem KG (k:IntKind)(n:Int):qK (.int k n)=some [.int k n]:=rfl
theorem V8 (t:List UInt8):qK (.str t)=some [.str t]:=rfl
theorem Qb (sz:Nat)(rows:List (List AV))(tok:Tok):qK (.sl sz rows tok)=some [.sl sz rows tok]:=rfl
theorem qdl {cs:List AV}(h:cs.all AV.atom=true):qK (.agg cs)=some cs:=by simp only[qK,h,if_true]
theorem putAt_all:∀ (c new:List AV),c.length=new.length->zt c 0 new=new:=by
 have gen:∀ (new pre c:List AV),c.length=new.length->zt (pre++c) pre.length new=pre++new:=by
  intro new
  induction new with
  | nil=>intro pre c h;have:c=[]:=qsp.1 h;subst this;simp[zt]
  | cons v r ih=>
   intro pre c h
   cases c with
   | nil=>simp at h
   | cons x c=>
    have h':c.length=r.length:=(by simpa using h);have:=ih (pre++[v]) c h';simp only[qqC,qsa,qqb,qqA]at this;rw[zt];have e:(pre++x::c).set pre.length v=pre++v::c:=(by simp);rw[e];exact this
 intro c new h;simpa using gen new [] c h
structure Near (c:List AV)(Y:Ex):Prop where
 len:c.length=4
 atoms:c.all AV.atom=true
 leq:zm c (qs Y)
 nr:qq c=true
theorem wy {a b:List AV}{r s:List (List AV)}(h1:a=b\/(zm a b/\b.all AV.atom=true))(h2:j6 r s):j6 (a::r) (b::s):=by
 simp only[j6];exact⟨h1,h2⟩
theorem VC:j6 [] []:=by simp only[j6]
theorem Near.row {c:List AV}{Y:Ex}(h:Near c Y):c=qs Y\/(zm c (qs Y)/\(qs Y).all AV.atom=true):=.inr ⟨h.leq,ju Y⟩
theorem qlh (Y:Ex):Near (qs Y) Y:=⟨zj Y,ju Y,zm.refl _,nrE' Y⟩
theorem qoW {o n:Int}{s:Str}{rows:List (List AV)}{args:List Ex}(h:j6 rows (args.map qs))(hn:qQ rows=true):Near [.int .i64 o,.int .i64 n,.str s,.sl 4 rows .tight] (.mk o n s args):=by
 refine⟨rfl,rfl,?_,?_⟩
 . rw[qd];simp only[zm,Leq,and_true,true_and,Ex.op_mk,Ex.n_mk,Ex.name_mk,Ex.args_mk];exact .inr ⟨h,.inl trivial⟩
 . simp[hn]
theorem Near.four {c:List AV}{Y:Ex}(h:Near c Y):∃ c0 c1 c2 c3,c=[c0,c1,c2,c3]:=by
 have:=h.len
 match c,this with
 | [c0,c1,c2,c3],_=>exact⟨c0,c1,c2,c3,rfl⟩
theorem Near.fin {c0 c1 c2 c3:AV}{Y:Ex}(h:Near [c0,c1,c2,c3] Y)(H:List Blk):kv H c0=c0/\kv H c1=c1/\kv H c2=c2/\kv H c3=c3:=by
 have:=h.nr;simp only[qq,qp9,and_true]at this;exact⟨Qo this.1,Qo this.2.1,Qo this.2.2.1,Qo this.2.2.2⟩
def qkX:List (Nat×Sch×List Nat):=[(9,.step 0 [8,7,6] (.step 1 [8,7,6,5] (.step 2 [8,7,6,5,4] (.step 3 [8,7,6,5,4] (.step 4 [8,7,6,5] (.step 5 [8,7,6] (.step 6 [8,7] (.step 7 [8] (.step 8 [] (.done))))))))),[])]
theorem min16 (k:Nat):Qx (.int .i64 16) (.int .i64 (k:Int))=some (.int .i64 ((min 16 k:Nat):Int)):=by
 simp only[Qx];congr 2;split<;>omega
@[simp]theorem nrRg (l:List Rg):qQ (l.map yK)=true:=zz (fun x=>by simp) l
theorem sl_lo {r:List Rg}{M:Nat}(h:M<=r.length):zw (.sl 2 (r.map yK) .none) none (some (.int .i64 M)) none=some (.sl 2 ((r.take M).map yK) .none):=by
 simp[zw,zX,kf,z7,h]
theorem sl_hi {r:List Rg}{M:Nat}(h:M<=r.length):zw (.sl 2 (r.map yK) .none) (some (.int .i64 M)) none none=some (.sl 2 ((r.drop M).map yK) .none):=by
 have h2:(r.map yK).take r.length=r.map yK:=qqg (by simp);simp[zw,zX,kf,z7,h,h2]
theorem qmi {r:List Rg}:r.take (min 16 r.length)=r.take 16/\r.drop (min 16 r.length)=r.drop 16:=by
 by_cases h:16<=r.length
 . rw[qsc h];exact⟨rfl,rfl⟩
 . rw[Nat.min_eq_right (by omega),qqg (by omega),qqg (by omega),qqL (by omega),qqL (by omega)];exact⟨rfl,rfl⟩
theorem qkk (s:Str)(l:List Rg)(hl:l.length<=1000):Pure Tryz.prog GG 170 [.str s,.sl 2 (l.map yK) .none] (.agg (qs (jA s l))):=by
 refine Pure.kO ⟨false,qkX,[],[]⟩ false qe Tryz.func170 rfl (by kernel_rfl) ?_;by_cases h0:l=[]
 . subst h0;have hu:jA s []=jr 0:=rfl;have hn:=YV 0;rw[hu];simp only[jr,qd,Ex.op_mk,Ex.n_mk,Ex.name_mk,Ex.args_mk,qqF]at hn ⊢;simp[-getElem?_pos];refine qc.call hn (by simp) ?_;simp[-getElem?_pos]
 . have hpos:=qql.2 h0;have hne:¬ (l.length:Int)=0:=(by omega);have hm16:=min16 l.length;have hml:min 16 l.length<=l.length:=qtq _ _;have hl1:=sl_lo (r:=l) hml;have hl2:=sl_hi (r:=l) hml;rw[qmi.1]at hl1;rw[qmi.2]at hl2;have hi:=qbk s (l.take 16) (by simp;omega);have hu:jA s l=v8 s (wI s (l.take 16)) (zZ 16 l.length (l.drop 16)):=if_neg h0;rw[hu];generalize hM:min 16 l.length=M at *;have hQl:(l.drop 16).length<=l.length:=(by simp);have hQ16:(l.drop 16).length<=1000:=(by omega);have near0:=qlh (wI s (l.take 16));generalize wI s (l.take 16)=E0 at *;generalize l.take 16=P at *;generalize l.drop 16=Q0 at *;generalize hR:v8 s E0 (zZ 16 l.length Q0)=R0 at *;have hE0:=qd E0;simp only[hE0]at hi near0;simp[-getElem?_pos,hne,h0,hm16,hl1,hl2];refine qc.call hi (by simp) ?_;simp[-getElem?_pos,hl1,hl2];refine qL.gen (fun n ev U=>∃ (Q:List Rg) (k:Nat) (c:List AV) (out:Ex) (t:List Blk),n=Q.length/\Q.length<=k/\Q.length<=1000/\ev 0=.str s/\ev 1=.sl 2 (Q.map yK) .none/\ev 4=.ptr 0 0/\ev 6=.ptr 1 0 /\
    U=⟨.cells [.int .i64 0,.int .i64 0,.str [],.sl 0 [] .nil]::.cells c::t,[]⟩/\Near c out/\R0=v8 s out (zZ 16 k Q)) Q0.length ?_ ?_
   . exact⟨Q0,l.length,_,E0,[],rfl,hQl,hQ16,by simp,by simp,by simp,by simp,by simp,near0,hR.symm⟩
   . rintro n ev U R hRR ⟨Q,k,c,out,t,rfl,hk,hq,e0,e1,e4,e6,rfl,hnear,hres⟩;obtain⟨c0,c1,c2,c3,rfl⟩:=hnear.four;have hac:=qdl hnear.atoms;have f0:=fun H=>(hnear.fin H).1
     have f1:=fun H=>(hnear.fin H).2.1
     have f2:=fun H=>(hnear.fin H).2.2.1
     have f3:=fun H=>(hnear.fin H).2.2.2
     have hnr:=hnear.nr;have hleq:=hnear.leq;by_cases hQ:Q=[]
     . subst hQ;have hp:zZ 16 k ([]:List Rg)=[]:=(by cases k<;>simp[zZ]);rw[hp]at hres;have hres:R0=out:=hres;rw[hres];simp[-getElem?_pos,-qK,-fin,-kv,-QS,hac,f0,f1,f2,f3,e0,e1,e4,e6];simp only[qq,qp9,and_true]at hnr;exact⟨hnr,hleq⟩
     . have hQp:=qql.2 hQ;have hQp':(0:Int)<Q.length:=(by omega);have hm16:=min16 Q.length;have hml:min 16 Q.length<=Q.length:=qtq _ _;have hl1:=sl_lo (r:=Q) hml;have hl2:=sl_hi (r:=Q) hml;rw[qmi.1]at hl1;rw[qmi.2]at hl2;have hi:=qbk s (Q.take 16) (by simp;omega);generalize min 16 Q.length=M at *;obtain⟨k,rfl⟩:∃ k',k=k'+1:=⟨k-1,by omega⟩;rw[zZ,if_neg hQ]at hres;have hres:R0=v8 s (orE out (wI s (Q.take 16))) (zZ 16 k (Q.drop 16)):=hres;have hdl:(Q.drop 16).length=Q.length-16:=(by simp);generalize Q.take 16=P at *;generalize Q.drop 16=Q' at *;simp[-getElem?_pos,e0,e1,e4,e6,hQ,hQp',hm16];rw[qG rfl];simp[-getElem?_pos,-qK,hac,qM,e0,e1,e4,e6,hl1,hl2];intro _;have ha2:=yE (wI s P);have hnr2:=nrE (wI s P);have hl4:=zj (wI s P);have nn:Near [.int .i64 20,.int .i64 0,.str [],.sl 4 [[c0,c1,c2,c3],qs (wI s P)] .tight] (orE out (wI s P)) :=
        qoW (wy hnear.row (wy (.inl rfl) VC)) (by simp only[qQ,qrP,qp9];exact⟨hnear.nr,hnr2⟩)
       generalize qs (wI s P)=W at *;generalize orE out (wI s P)=O2 at *;refine qc.call hi (by simp) ?_;simp[-getElem?_pos,-qK,hac,ha2,hl4,KG,V8,Qb,qM,e0,e1,e4,e6,hl1,hl2,qV,zu,qv,zt,qk,qA];exact hRR Q'.length _ _ (by omega) ⟨Q',k,_,O2,t,rfl,by omega,by omega,by simp[e0],by simp,by simp[e4],by simp[e6],rfl,nn,hres⟩
theorem qeE:∀ (l:List Ex) (i:Nat) (a:Ex),l[i]?=some a->((l.flatMap qs).drop (i*4)).take 4=qs a/\i*4+4<=(l.flatMap qs).length
 | [],i,a,h=>by simp at h
 | x::r,0,a,h=>by
  simp at h;subst h;rw[qqs,qrG,qrB,qq3 (by rw[zj];omega),qqg (by rw[zj];omega),qqb,zj];exact⟨rfl,by omega⟩
 | x::r,i+1,a,h=>by
  have ih:=qeE r i a (by simpa using h);rw[qqs,qrK,zj,qqL (by rw[zj];omega),qqw,show (i+1)*4-4=i*4 by omega,qqb,zj];exact⟨ih.1,by omega⟩
theorem qiL:∀ (l:List Ex) (i:Nat) (a:Ex),l[i]?=some a->zt (l.flatMap qs) (i*4) (qs a)=l.flatMap qs:=fun l i a h=>by
 have hi:=(qp5.1 h).1;rw[Qi (sz:=4) zj l i a hi];have:l.set i a=l:=by
  obtain⟨_,rfl⟩:=qp5.1 h;exact List.set_getElem_self hi
 rw[this]
theorem qdZ {e a:Ex}(h:a∈e.args):(pre a).length<=(pre e).length:=by
 rw[jc e,qqm];have:∀ l:List Ex,a∈l->(pre a).length<=(wM l).length:=by
  intro l
  induction l with
  | nil=>intro h;cases h
  | cons x r ih=>
   intro h;rw[yI,qqb];rcases qqv.1 h with rfl|h
   . omega
   . have:=ih h;omega
 have:=this _ h;omega
theorem qeW (e:Ex):e.args.length<=(pre e).length:=by
 rw[jc e,qqm];have:∀ l:List Ex,l.length<=(wM l).length:=by
  intro l
  induction l with
  | nil=>simp
  | cons x r ih=>rw[yI,qqb,jc x];simp;omega
 have:=this e.args;omega
theorem qjc:∀ e,(pre e).length<=100000->Pure Tryz.prog GG 58 [.agg (qs e)] (.agg (qs e)):=by
 refine Ex.ind fun e ih hs=>?_
 have hal:=qeW e;refine Pure.kO o0 true qe Tryz.func58 rfl (by kernel_rfl) ?_;have hE:=qd e;by_cases h0:e.args=[]
 . rw[h0]at hE;rw[hE];simp[-getElem?_pos,qw,yA,WG];refine qL.gen (fun n ev U=>ev 1=.ptr 0 0/\ev 2=.ptr 1 0/\ev 3=.sl 4 [] (.chain 0 0)/\ev 14=.int .i64 0/\ev 15=.int .i64 0/\∃ T,U=⟨[.cells [.int .i64 e.op,.int .i64 e.n,.str e.name,.sl 4 [] .none],.cells [.int .i64 0,.int .i64 0,.str [],.sl 0 [] .nil]],T⟩) 0 ?_ ?_
   . exact⟨by simp,by simp,by simp,by simp,by simp,_,rfl⟩
   . rintro n ev U R hR ⟨e1,e2,e3,e14,e15,T,rfl⟩;simp[-getElem?_pos,e1,e2,e3,e14,e15];have hfc:∀ H,frz H 7 (.sl 4 [] (.chain 0 0))=.sl 4 [] .none:=fun H=>by rw[frz];simp[qC]
     rw[frz];simp[qC,qq,wU,qcP,hfc,Leq,zm]
 . have hpos:=qql.2 h0;have hne:¬ (e.args.length:Int)=0:=(by omega);have hb:e.args.length<=549755813888:=(by omega);have hbI:(e.args.length:Int)<=549755813888:=(by omega);have hfl:(e.args.map qs).flatten=e.args.flatMap qs:=(by rw[qrQ]);have hlenf:(e.args.flatMap qs).length=e.args.length*4:=jj (sz:=4) zj e.args;have hz:((List.replicate e.args.length [AV.int .i64 0,.int .i64 0,.str [],.sl 0 [] .nil]).flatten).length=e.args.length*4:=(by simp);have hput:=putAt_all ((List.replicate e.args.length [AV.int .i64 0,.int .i64 0,.str [],.sl 0 [] .nil]).flatten) (e.args.flatMap qs) (by rw[hz,hlenf]);have htk:(e.args.map qs).take e.args.length=e.args.map qs:=qqg (by simp);have hcp:∀ B0 B1:Blk,yA (Dof Tryz.prog) ⟨[B0,B1,.cells (List.replicate e.args.length [AV.int .i64 0,.int .i64 0,.str [],.sl 0 [] .nil]).flatten],[]⟩ 23 (.ms 2 0 e.args.length 4) (.sl 4 (e.args.map qs) .none)=some (.int .i64 e.args.length,⟨[B0,B1,.cells (e.args.flatMap qs)],[]⟩):=fun B0 B1=>by
    have hz':=hz;generalize (List.replicate e.args.length [AV.int .i64 0,.int .i64 0,.str [],.sl 0 [] .nil]).flatten=Z at *;simp[yA,WG,qkK,hfl,hput,hz',htk,h0]
   have hat:=qeE e.args;have hpt:=qiL e.args;have hfr:kF 4 e.args.length (e.args.flatMap qs)=e.args.map qs:=(by have:=wE (sz:=4) zj e.args [];rwa[qqP]at this);rw[hE];generalize hZ:(List.replicate e.args.length [AV.int .i64 0,.int .i64 0,.str [],.sl 0 [] .nil]).flatten=Z at *;generalize hFE:e.args.flatMap qs=FE at *;simp[-getElem?_pos,qw,hne,h0,hbI,hZ,hcp];have hn0:e.args.length<=100000:=(by omega);have hatoms:∀ a:Ex,qK (.agg (qs a))=some (qs a):=yE;refine qL.listR e.args (fun d ev U=>ev 1=.ptr 0 0/\ev 2=.ptr 1 0/\ev 3=.ms 2 0 e.args.length 4/\ev 14=.int .i64 e.args.length/\ev 15=.int .i64 d.length/\U=⟨[.cells [.int .i64 e.op,.int .i64 e.n,.str e.name,.sl 4 (e.args.map qs) .none],.cells [.int .i64 0,.int .i64 0,.str [],.sl 0 [] .nil],.cells FE],[]⟩) ?_ ?_ ?_
   . exact⟨by simp,by simp,by simp,by simp,by simp,by simp⟩
   . rintro d a rest ev U R hR hd hx hlt ⟨e1,e2,e3,e14,e15,rfl⟩;have hm:=qp6 hx;have hia:=ih a hm (by have:=qdZ hm;omega);have hw:=wr (n:=(d.length:Int)+1) (by omega) (by omega);obtain⟨ht,hle⟩:=hat d.length a hx;have hp:=hpt d.length a hx;have ha2:=hatoms a;have hl4:=zj a;have hnr:=nrE a;generalize qs a=W at *;simp[-getElem?_pos,-qK,e1,e2,e3,e14,e15,hlt,ht,hle];refine qc.call hia (by simp[qq,hnr]) ?_;simp[-getElem?_pos,-qK,ha2,hl4,hp,hle,e1,e2,e3,e14,e15,hlt,hw];exact hR _ _ ⟨by simp[e1],by simp[e2],by simp[e3],by simp[e14],by simp,rfl⟩
   . rintro ev U ⟨e1,e2,e3,e14,e15,rfl⟩;simp[-getElem?_pos,e1,e2,e3,e14,e15];have ho:jw 2 4 qs [Blk.cells [AV.int .i64 e.op,.int .i64 e.n,.str e.name,.ms 2 0 e.args.length 4],.cells [.int .i64 e.op,.int .i64 e.n,.str e.name,.ms 2 0 e.args.length 4],.cells FE] (.ms 2 0 e.args.length 4) e.args:=.inr ⟨h0,rfl,by rw[hFE];rfl⟩;have f1:=ho.frz zj (fun x=>nrE x) ju 6;have f2:=ho.frzNo zj (fun x=>nrE x) ju 6;rw[frz];rw[if_neg (by simp[qC,qq])];simp only[qqk,qqF,wU,qcP,qC,qq,Leq,zm,qrP,qrm,and_true,true_and];exact⟨f2,f1⟩
def inR (v:Int)(r:Rg):Bool:=decide (r.1<=v)&&decide (v<=r.2)
theorem qnB (b:Bool):(b2i b≠0)↔b=true:=by cases b<;>simp[b2i]
theorem qg1 (env:List Signal)(n:Int):yo env (jr n)=n:=by rw[yk];simp[jr,Qw]
theorem qkg (env:List Signal)(s:Str):yo env (Qt s)=(zV env s).getD 0:=by rw[yk];simp[Qt,Qw]
theorem val_or (env:List Signal)(a b:Ex):(yo env (orE a b)≠0)↔(yo env a≠0\/yo env b≠0):=by
 rw[yk];have:Qw env (orE a b).op (orE a b).n (orE a b).name ((orE a b).args.map (yo env))=b2i (!decide (yo env a=0)||!decide (yo env b=0)):=by
  simp[orE,Qw,opW,yL]
 rw[this,qnB];simp
theorem Kc (v:Int):∀ (l:List Rg),jO v (l.flatMap fun r=>[r.1,r.2])=l.any (inR v)
 | []=>rfl
 | r::l=>by rw[qqs];simp only[qqB,qqw,jO,qse,Kc v l,inR]
theorem qdv (env:List Signal):∀ (l:List Rg),(l.flatMap fun r=>[jr r.1,jr r.2]).map (yo env)=l.flatMap fun r=>[r.1,r.2]
 | []=>rfl
 | r::l=>by rw[qqs,qqY,qdv env l,qqs];simp[qg1]
theorem qg2 (env:List Signal)(s:Str)(l:List Rg):(yo env (wI s l)≠0)↔∃ r∈l,inR ((zV env s).getD 0) r=true:=by
 rw[yk];have:Qw env (wI s l).op (wI s l).n (wI s l).name ((wI s l).args.map (yo env))=b2i (l.any (inR ((zV env s).getD 0))):=by
  rw[<- Kc,<- qdv env l];simp[wI,Qw,opW,qkg]
 rw[this,qnB,qqr]
theorem qau (env:List Signal)(s:Str):∀ (l:List (List Rg)) (out:Ex),(yo env (v8 s out l)≠0)↔(yo env out≠0\/∃ c∈l,∃ r∈c,inR ((zV env s).getD 0) r=true)
 | [],out=>by simp[v8]
 | c::l,out=>by
  show (yo env (v8 s (orE out (wI s c)) l)≠0)↔_;rw[qau env s l,val_or,qg2];simp only[qqv,exists_eq_or_imp,or_assoc]
theorem Wv {α:Type}{n:Nat}(hn:0<n):∀ (k:Nat) (l:List α),l.length<=k->(zZ n k l).flatten=l
 | 0,l,h=>by
  have:l=[]:=qqj (by omega);subst this;rfl
 | k+1,l,h=>by
  unfold zZ;split
  . rename_i h0;rw[h0];rfl
  . rename_i h0;have:=qql.2 h0;rw[qqO,Wv hn k _ (by rw[qrq];omega),qqQ]
theorem qg0 (env:List Signal)(s:Str)(l:List Rg):(yo env (jA s l)≠0)↔∃ r∈l,inR ((zV env s).getD 0) r=true:=by
 unfold jA;split
 . rename_i h;subst h;simp[qg1]
 . rw[qau,qg2];have h1:=Wv (n:=16) (by omega) l.length (l.drop 16) (by rw[qrq];omega);constructor
   . rintro (⟨r,hr,h⟩|⟨c,hc,r,hr,h⟩)
     . exact⟨r,qq0 hr,h⟩
     . refine⟨r,qru (i:=16) ?_,h⟩;rw[<- h1];exact qre.2 ⟨c,hc,hr⟩
   . rintro⟨r,hr,h⟩;rw[<- qqQ 16 l]at hr;rcases qqo.1 hr with hr|hr
     . exact .inl ⟨r,hr,h⟩
     . rw[<- h1]at hr;obtain⟨c,hc,hr⟩:=qre.1 hr;exact .inr ⟨c,hc,r,hr,h⟩
theorem qdS (v:Int):∀ (l:List Int),(∃ r∈kh l,inR v r=true)↔v∈l:=by
 have key:∀ (l:List Int) (out:List Rg),(∀ r∈out,r.1<=r.2)->((∃ r∈l.foldl vD out,inR v r=true)↔((∃ r∈out,inR v r=true)\/v∈l)):=by
  intro l
  induction l with
  | nil=>intro out _;simp
  | cons n l ih=>
   intro out ho;rw[qqV];have hs:(∀ r∈vD out n,r.1<=r.2)/\((∃ r∈vD out n,inR v r=true)↔((∃ r∈out,inR v r=true)\/v=n)):=by
    unfold vD;split
    . rename_i r hr;obtain⟨pre,hp⟩:=qsL.1 hr;subst hp;have hr2:=ho r (by simp);split
      . rename_i hn;rw[qr1];refine⟨fun q hq=>?_,?_⟩
        . rcases qqo.1 hq with hq|hq
          . exact ho q (by simp[hq])
          . have:=qqy.1 hq;subst this;dsimp only;omega
        . simp only[qqo,qqy,inR,qp9,decide_eq_true_eq];constructor
          . rintro⟨q,hq|rfl,h⟩
            . exact .inl ⟨q,.inl hq,h⟩
            . dsimp only at h;by_cases hv:v=n
              . exact .inr hv
              . exact .inl ⟨r,.inr rfl,by omega⟩
          . rintro (⟨q,hq|rfl,h⟩|rfl)
            . exact⟨q,.inl hq,h⟩
            . exact⟨_,.inr rfl,by dsimp only;omega⟩
            . exact⟨_,.inr rfl,by dsimp only;omega⟩
      . refine⟨fun q hq=>?_,?_⟩
        . rcases qqo.1 hq with hq|hq
          . exact ho q hq
          . have:=qqy.1 hq;subst this;exact qty _
        . simp only[qqo,qqy,inR,qp9,decide_eq_true_eq];constructor
          . rintro⟨q,hq|rfl,h⟩
            . exact .inl ⟨q,hq,h⟩
            . exact .inr (by dsimp only at h;omega)
          . rintro (⟨q,hq,h⟩|rfl)
            . exact⟨q,.inl hq,h⟩
            . exact⟨_,.inr rfl,by dsimp only;omega⟩
    . refine⟨fun q hq=>?_,?_⟩
      . rcases qqo.1 hq with hq|hq
        . exact ho q hq
        . have:=qqy.1 hq;subst this;exact qty _
      . simp only[qqo,qqy,inR,qp9,decide_eq_true_eq];constructor
        . rintro⟨q,hq|rfl,h⟩
          . exact .inl ⟨q,hq,h⟩
          . exact .inr (by dsimp only at h;omega)
        . rintro (⟨q,hq,h⟩|rfl)
          . exact⟨q,.inl hq,h⟩
          . exact⟨_,.inr rfl,by dsimp only;omega⟩
   rw[ih _ hs.1,hs.2];simp only[qqv,or_assoc]
 intro l;have:=key l [] (by simp);simpa[kh] using this
theorem ZL (env:List Signal)(s:Str)(l:List Int):(yo env (jA s (kh l))≠0)↔(zV env s).getD 0∈l:=by
 rw[qg0,qdS]
def qgr (l:List Int)(i:Nat)(n:Int):List Int :=
 (if i=0\/l.getD (i-1) 0≠n-1 then [n] else [])++(if i+1=l.length\/l.getD (i+1) 0≠n+1 then [n] else [])
def bndS (l:List Int):List Int:=(l.zipIdx).flatMap fun q=>qgr l q.2 q.1
def zN (l:List Rg):List Int:=l.flatMap fun r=>[r.1,r.2]
def qo0 (s:Str)(l:List Rg):Nat->Ex
 | 0=>jr 0
 | i+1=>if i=0 then wI s ((l.drop (16*i)).take 16) else orE (qo0 s l i) (wI s ((l.drop (16*i)).take 16))
theorem YO {α:Type}{n:Nat}(hn:0<n):∀ (k:Nat) (l:List α),l.length<=k->zZ n k l=(List.range ((l.length+(n-1)) / n)).map fun i=>(l.drop (n*i)).take n
 | 0,l,h=>by
  have:l=[]:=qqj (by omega);subst this;have:(([]:List α).length+(n-1)) / n=0:=qsY (by simp;omega);rw[this];rfl
 | k+1,l,h=>by
  unfold zZ;split
  . rename_i h0;subst h0;have:(([]:List α).length+(n-1)) / n=0:=qsY (by simp;omega);rw[this];rfl
  . rename_i h0;have hp:=qql.2 h0;have ih:=YO hn k (l.drop n) (by rw[qrq];omega);have hc:(l.length+(n-1)) / n=((l.drop n).length+(n-1)) / n+1:=by
     rw[qrq];by_cases hle:n<=l.length
     . have:l.length+(n-1)=(l.length-n+(n-1))+n:=by omega
       rw[this,Nat.add_div_right _ hn]
     . have h1:l.length-n=0:=(by omega);rw[h1];have h2:(0+(n-1)) / n=0:=qsY (by omega);rw[h2];have h3:l.length+(n-1)=(l.length-1)+n:=(by omega);rw[h3,Nat.add_div_right _ hn,qsY (by omega)]
    rw[ih,hc,List.range_succ_eq_map,qqk,qrp];congr 1;apply qrd;intro i hi;simp only[Function.comp,qs7];congr 2;rw[Nat.succ_eq_add_one,qsW];omega
theorem qhN (s:Str)(l:List Rg)(h0:l≠[]):qo0 s l ((l.length+15) / 16)=jA s l:=by
 have hp:=qql.2 h0;unfold jA;rw[if_neg h0,YO (by omega) _ _ (by rw[qrq];omega)];have hm:(l.length+15) / 16=((l.drop 16).length+(16-1)) / 16+1:=by rw[qrq];omega
 rw[hm];generalize ((l.drop 16).length+(16-1)) / 16=m
 induction m with
 | zero=>simp[qo0,v8]
 | succ m ih=>
  rw[qo0,if_neg (by omega),ih,qrE,qqY];unfold v8;rw[qrj,List.map_singleton,qqV,qtI];congr 2;rw[qs7];have:16*(m+1)=16+16*m:=by omega
  rw[this]
theorem qmu (l:List Int):bndS l=zN (kh l):=by
 -- up to a number: the runs so far,but for the last one's end
 have key:∀ (d r:List Int) (hd:l=d++r),(d.zipIdx).flatMap (fun q=>qgr l q.2 q.1)=(if r=[]\/d=[]\/r.getD 0 0≠d.getLast?.getD 0+1 then zN (kh d) else (zN (kh d)).dropLast)/\(d≠[]->∃ pre lo,kh d=pre++[(lo,d.getLast?.getD 0)]):=by
  intro d
  induction hn:d.length generalizing d with
  | zero=>
   intro r hd;have:d=[]:=qqj hn;subst this;exact⟨by simp[kh,zN],fun h=>absurd rfl h⟩
  | succ k ih=>
   intro r hd;obtain⟨d',n,rfl⟩:∃ d' n,d=d'++[n]:=⟨d.dropLast,d.getLast (by rintro rfl;simp at hn),(qqU _).symm⟩;have hk:d'.length=k:=(by simpa using hn);obtain⟨h1,h2⟩:=ih d' hk (n::r) (by rw[hd];simp);have hr:kh (d'++[n])=vD (kh d') n:=(by simp[kh,qrj]);have hl:(d'++[n]).getLast?.getD 0=n:=(by simp);have hget:l.getD (d'.length+1) 0=r.getD 0 0:=(by rw[hd];simp[qqh,qqd]);have hlast:(d'.length+1=l.length)↔r=[]:=by
    rw[hd];simp
   have hb:qgr l d'.length n=(if d'=[]\/n≠d'.getLast?.getD 0+1 then [n] else [])++(if r=[]\/r.getD 0 0≠n+1 then [n] else []):=by
    unfold qgr;rw[hget];congr 1
    . by_cases h0:d'=[]
      . subst h0;simp
      . have hp:=qql.2 h0;have:l.getD (d'.length-1) 0=d'.getLast?.getD 0:=by
         rw[hd,List.getLast?_eq_getElem?,qqh,qqC,qqe (by omega)]
        rw[this];have h3:d'.length≠0:=(by omega);simp only[h0,h3,false_or];by_cases hc:n=d'.getLast?.getD 0+1
        . rw[if_neg (by omega),if_neg (by simp[hc])]
        . rw[if_pos (by omega),if_pos hc]
    . by_cases h0:r=[]
      . rw[if_pos (.inl (hlast.2 h0)),if_pos (.inl h0)]
      . have:¬ (d'.length+1=l.length):=fun e=>h0 (hlast.1 e)
        simp only[h0,this,false_or]
   rw[qr7,List.flatMap_append,h1];have hz:([n].zipIdx (0+d'.length)).flatMap (fun q=>qgr l q.2 q.1)=qgr l d'.length n:=(by simp);rw[hz,hb,hr,hl];have hne:¬ (d'++[n]=[]):=(by simp);have hg0:(n::r).getD 0 0=n:=rfl;have hc0:¬ (n::r=[]):=(by simp);simp only[hc0,hg0,false_or,hne];by_cases h0:d'=[]
   . subst h0;simp only[kh,qtI,vD,List.getLast?_nil,qqw,true_or,if_true,zN,qsB,qqs,qqP];refine⟨?_,fun _=>⟨[],n,rfl⟩⟩;by_cases h:r=[]\/r.getD 0 0≠n+1
     . rw[if_pos h,if_pos h];rfl
     . rw[if_neg h,if_neg h];rfl
   . obtain⟨pre,lo,hp⟩:=h2 h0;generalize d'.getLast?.getD 0=z at *;have hgl:(kh d').getLast?=some (lo,z):=(by rw[hp];simp);by_cases hc:n=z+1
     . have ha:vD (kh d') n=pre++[(lo,n)]:=by
        unfold vD;rw[hgl];dsimp only;rw[if_pos (by omega),hp,qr1]
       rw[ha,hp];refine⟨?_,fun _=>⟨pre,lo,rfl⟩⟩;have e1:¬ (d'=[]\/n≠z+1):=(by simp[h0,hc]);rw[if_neg e1,if_neg e1];have e2:zN (pre++[(lo,z)])=(zN pre++[lo])++[z]:=(by simp[zN]);have e3:zN (pre++[(lo,n)])=(zN pre++[lo])++[n]:=(by simp[zN]);rw[e2,e3,qr1];by_cases h:r=[]\/r.getD 0 0≠n+1
       . rw[if_pos h,if_pos h];simp
       . rw[if_neg h,if_neg h,qr1];simp
     . have ha:vD (kh d') n=kh d'++[(n,n)]:=by
        unfold vD;rw[hgl];dsimp only;rw[if_neg (by omega)]
       rw[ha];refine⟨?_,fun _=>⟨kh d',n,rfl⟩⟩;rw[if_pos (.inr hc),if_pos (.inr hc)];have e3:zN (kh d'++[(n,n)])=(zN (kh d')++[n])++[n]:=(by simp[zN]);rw[e3];by_cases h:r=[]\/r.getD 0 0≠n+1
       . rw[if_pos h,if_pos h];simp
       . rw[if_neg h,if_neg h,qr1];simp
 have:=(key l [] (by simp)).1;rw[if_pos (.inl rfl)]at this;exact this
theorem vU (l:List Rg):(zN l).length=2*l.length:=by
 unfold zN
 induction l with
 | nil=>rfl
 | cons r l ih=>rw[qqs,qqb,ih];simp;omega
theorem qf8 (l:List Rg)(i:Nat):((zN l).drop (32*i)).take 32=zN ((l.drop (16*i)).take 16):=by
 have hd:∀ (l:List Rg) (k:Nat),(zN l).drop (2*k)=zN (l.drop k):=by
  intro l k
  induction k generalizing l with
  | zero=>simp
  | succ k ih=>
   cases l with
   | nil=>simp[zN]
   | cons r l=>
    have:zN (r::l)=r.1::r.2::zN l:=by simp[zN]
    rw[this,qsF,<- ih];show List.drop (2*k+1+1) _=_;rw[qsF,qsF]
 have ht:∀ (l:List Rg) (k:Nat),(zN l).take (2*k)=zN (l.take k):=by
  intro l k
  induction k generalizing l with
  | zero=>simp[zN]
  | succ k ih=>
   cases l with
   | nil=>simp[zN]
   | cons r l=>
    have:zN (r::l)=r.1::r.2::zN l:=by simp[zN]
    have h2:zN ((r::l).take (k+1))=r.1::r.2::zN (l.take k):=(by simp[zN]);rw[this,h2,<- ih];show List.take (2*k+1+1) _=_;rw[qr3,qr3]
 have e1:32*i=2*(16*i):=by omega
 rw[e1,hd];exact ht _ 16
end Go.Proofs.YtoibbcnfhhggnaaGreatDoor
end
