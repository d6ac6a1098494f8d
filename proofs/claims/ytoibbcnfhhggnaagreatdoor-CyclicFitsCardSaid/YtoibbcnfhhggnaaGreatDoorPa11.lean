/- A part of the proof. -/
import Derived.Test.YtoibbcnfhhggnaaGreatDoorPa09
import Derived.Test.YtoibbcnfhhggnaaGreatDoorPa10
import Derived.Test.YtoibbcnfhhggnaaGreatDoorPa08
set_option maxHeartbeats 16000000
set_option linter.unusedVariables false
set_option linter.unusedSimpArgs false
set_option maxRecDepth 100000
set_option linter.defProp false
section
namespace Go.Proofs.YtoibbcnfhhggnaaGreatDoor
open Go Go.Abs
def oM:Opts:=⟨true,[],[],[]⟩
@[simp]theorem oM_mu:oM.mu=true:=rfl
@[simp]theorem oM_lw:oM.lw=[]:=rfl
theorem qpD (n:Nat)(hn:n<=1000000)(U:St):qg Tryz.prog GG 110 [.sl 0 [] .nil,.int .i64 n] U (fun r U'=>(n=0/\r=.sl 0 [] .nil/\U'=U)\/(0<n/\r=.ms U.H.length 0 0 4/\∃ c,U'=U.push (.cells c))):=by
 refine qg.vcO oM qe Tryz.func110 rfl (by kernel_rfl) ?_;have h1:¬ (n:Int)<0:=by omega
 have hw:IntKind.i64.wrap (n:Int)=n:=wr (by omega) (by omega);have w0:IntKind.i64.wrap 0=0:=by decide
 by_cases h0:n=0
 . subst h0;simp[capA,w0]
 . have h2:(0:Int)<n:=(by omega);have h3:0<n:=(by omega);have h4:(n:Int)<=549755813888:=(by omega);simp[capA,h1,hw,w0,h2,h3,h4,zt,zS,yY,z5,zs,z4,qS]
def CR (T R:List Ex)(v:AV)(U:St):Prop:=(T=[]/\v=.sl 0 [] .nil)\/∃ b c,v=.ms b 0 R.length 4/\U.H[b]?=some (.cells c)/\R.length*4<=c.length/\c.take (R.length*4)=(R.map qu).flatten
@[simp]theorem VF (e:Ex):(qu e).length=4:=by rw[qc];rfl
theorem Y3:∀ (l:List Ex),((l.map qu).flatten).length=l.length*4
 | []=>rfl
 | a::r=>by simp only[qqx,qq3,qqr,VF,Y3 r,qqC];omega
theorem Kk:∀ (R:List Ex) (c:List AV),R.length*4<=c.length->c.take (R.length*4)=(R.map qu).flatten->kw 4 R.length c=R.map qu
 | [],c,_,_=>rfl
 | a::r,c,hl,h=>by
  have e1:c.take 4=qu a:=by
   have:=congrArg (List.take 4) h;rw[List.take_take,qqx,qq3,List.take_left' (VF a)]at this;rw[<- this];congr 1;simp only[qqC];omega
  have e2:(c.drop 4).take (r.length*4)=(r.map qu).flatten:=by
   have:=congrArg (List.drop 4) h;rw[qqx,qq3,List.drop_left' (VF a),List.drop_take]at this;rw[<- this];congr 1;simp only[qqC];omega
  rw[qqC,kw,e1,Kk r (c.drop 4) (by simp only[qrE,qqC]at hl ⊢;omega) e2,qqx]
theorem qbT {T R X:List Ex}{b:Nat}{c:List AV}{U:St}(hb:U.H[b]?=some (.cells c))(hl:R.length*4<=c.length)(h:c.take (R.length*4)=(R.map qu).flatten)(hR:R.length+X.length<=1000000) :
 ∃ v' U',zs (Dof Tryz.prog) U 23 23 (.ms b 0 R.length 4) (.sl 4 (X.map qu) .none)=some (v',U')/\CR T (R++X) v' U':=by
 cases X with
 | nil=>
  refine⟨.ms b 0 R.length 4,U,?_,.inr ⟨b,c,by simp,hb,by simpa using hl,by simpa using h⟩⟩;simp[zs,z4,qS,Ku]
 | cons x X=>
  refine⟨.ms U.H.length 0 (R.length+(X.length+1)) 4,{ U with H:=U.H.set b .dead++[.cells (c.take (R.length*4)++((x::X).map qu).flatten)] },?_,.inr ⟨U.H.length,c.take (R.length*4)++((x::X).map qu).flatten,by simp,by simp,?_,?_⟩⟩
  . have h1:R.length+(X.length+1)<=549755813888:=(by simp at hR;omega);simp[zs,z4,qS,Ku,hb,h1,hl]
  . rw[h];simp only[qqr,Y3];omega
  . rw[h,qqu (by simp only[qqr,Y3];omega),qrc,qrW]
theorem qjc (h s:List Ex)(hh:h.length<=10000)(hs:s.length<=10000):Pure Tryz.prog GG 76 [.sl 1 [[.sl 4 (h.map qu) .none],[.sl 4 (s.map qu) .none]] .none] (.sl 4 ((h++s).map qu) .none):=by
 refine Pure.vcO oM false qe Tryz.func76 rfl (by kernel_rfl) ?_;have w1:IntKind.i64.wrap (h.length:Int)=h.length:=wr (by omega) (by omega);have w2:IntKind.i64.wrap ((h.length:Int)+s.length)=h.length+s.length:=wr (by omega) (by omega);have n1:¬ (h.length:Int)<0:=by omega
 have n2:¬ (h.length:Int)+s.length<0:=by omega
 have wi:IntKind.i64.wrap 1=1:=by decide
 have wi2:IntKind.i64.wrap 2=2:=by decide
 simp;refine qE.intro (fun n env U=>∃ i:Nat,i<=2/\n=2-i/\env 0=.sl 1 [[.sl 4 (h.map qu) .none],[.sl 4 (s.map qu) .none]] .none/\env 3=.int .i64 (if i=0 then 0 else if i=1 then h.length else h.length+s.length)/\env 9=.sl 1 [[.sl 4 (h.map qu) .none],[.sl 4 (s.map qu) .none]] .none/\env 10=.int .i64 2/\env 11=.int .i64 i/\U=⟨[],[]⟩) 2 ⟨0,by simp⟩ ?_;rintro n env U ⟨i,hi,rfl,h0,h3,h9,h10,h11,rfl⟩;have hcase:i=0\/i=1\/i=2:=by omega
 rcases hcase with rfl|rfl|rfl
 . simp[h0,h3,h9,h10,h11,w1,n1,wi];exact⟨1,by omega,1,by omega,rfl,rfl,rfl⟩
 . simp[h0,h3,h9,h10,h11,w2,n2,wi2];exact⟨2,by omega,by omega,rfl,rfl⟩
 . have hN:((h.length:Int)+s.length)=((h.length+s.length:Nat):Int):=(by omega);simp[h0,h3,h9,h10,h11];rw[hN];refine qg.imp (qpD (h.length+s.length) (by omega) ⟨[],[]⟩) ?_;intro r U' hr;have hcr:CR (h++s) [] r U':=by
    rcases hr with ⟨h1,h2,h3⟩|⟨h1,h2,c,h3⟩
    . exact .inl ⟨qqA (by rw[qqr];exact h1),h2⟩
    . subst h3;exact .inr ⟨0,c,h2,rfl,by simp,by simp⟩
   clear hr;refine qE.intro (fun n env U=>∃ i:Nat,i<=2/\n=2-i/\env 25=.sl 1 [[.sl 4 (h.map qu) .none],[.sl 4 (s.map qu) .none]] .none/\env 26=.int .i64 2/\env 27=.int .i64 i/\CR (h++s) (if i=0 then [] else if i=1 then h else h++s) (env 6) U) 2 ⟨0,by simp[h0];exact hcr⟩ ?_;clear h0 h3 h9 h10 h11 hcr;rintro n env U ⟨i,hi,rfl,h25,h26,h27,hcr⟩;have hcase:i=0\/i=1\/i=2:=(by omega);rcases hcase with rfl|rfl|rfl
   . simp only[if_true]at hcr;rcases hcr with ⟨ht,h6⟩|⟨b,c,h6,hb,hl,hc⟩
     . simp only[qs9]at ht;obtain⟨rfl,rfl⟩:=ht;simp[h25,h26,h27,h6,wi,zs,z4,qD,qS,Ku,zg];exact⟨1,by omega,1,by omega,rfl,rfl,.inl ⟨rfl,rfl⟩⟩
     . obtain⟨v',U',e1,e2⟩:=qbT (T:=h++s) (X:=h) hb hl hc (by simp;omega);simp only[qq1]at h6 e1;simp[h25,h26,h27,h6,wi,e1];exact⟨1,by omega,1,by omega,rfl,rfl,by simpa using e2⟩
   . simp only[Nat.one_ne_zero,if_false,if_true]at hcr;rcases hcr with ⟨ht,h6⟩|⟨b,c,h6,hb,hl,hc⟩
     . simp only[qs9]at ht;obtain⟨rfl,rfl⟩:=ht;simp[h25,h26,h27,h6,wi2,zs,z4,qD,qS,Ku,zg];exact⟨2,by omega,by omega,rfl,.inl ⟨rfl,rfl⟩⟩
     . obtain⟨v',U',e1,e2⟩:=qbT (T:=h++s) (X:=s) hb hl hc (by omega);simp[h25,h26,h27,h6,wi2,e1];exact⟨2,by omega,by omega,rfl,by simpa using e2⟩
   . simp only[show ¬ (2:Nat)=0 by omega,show ¬ (2:Nat)=1 by omega,if_false]at hcr;rcases hcr with ⟨ht,h6⟩|⟨b,c,h6,hb,hl,hc⟩
     . simp only[qs9]at ht;obtain⟨rfl,rfl⟩:=ht;simp[h25,h26,h27,h6]
     . have hk:=Kk (h++s) c hl hc;simp only[qqr]at hk hl;rw[qqr]at h6;simp[h25,h26,h27,h6,hb,hl,hk,KE]
theorem qf7 (p:Problem)(s:Str)(hl:Fits p.vars):Pure Tryz.prog GG 81 [.str s,.rptr (qL p)] (.bool (!vz p.vars s)):=by
 refine Pure.vc qe Tryz.func81 rfl (by kernel_rfl) ?_;simp;refine qa.call (index GG p.vars s hl) (by simp) ?_;have:=vV (fun v:Var=>v.name==s) p.vars;simp[this,vz]
theorem qpQ (p:Problem)(hl:Fits p.vars)(hh:p.hard.length<=10000)(hs:p.soft.length<=10000)(hw:∀ e∈p.hard++p.soft,Wen e/\hgt e<=1000/\(pre e).length<=100000) :
 Pure Tryz.prog GG 50 [.agg (qL p)] (.int .i64 (qU (zm p.vars) (p.hard++p.soft))):=by
 refine Pure.vc qe Tryz.func50 rfl (by kernel_rfl) ?_;simp[qh,qw];obtain⟨L,hL⟩:∃ L,L=p.hard++p.soft:=⟨_,rfl⟩;have hlen:L.length<=20000:=by rw[hL,qqr];omega
 refine qa.less (qjc p.hard p.soft hh hs) (by simp) (by simp[Leq]) ?_;rw[<- hL]at hw ⊢;simp;refine qE.intro (fun n env U=>∃ i tail,i<=L.length/\n=L.length-i/\env 1=.ptr 0 0/\env 11=.sl 4 (L.map qu) .none/\env 12=.int .i64 L.length/\env 13=.int .i64 i/\U=⟨.cells (qL p)::tail,[]⟩/\∀ e∈L.take i,zm p.vars e=0) L.length ⟨0,[],by simp⟩ ?_;rintro n env U ⟨i,tail,hi,rfl,h1,h11,h12,h13,rfl,hz⟩
 cases hv:L[i]? with
 | some e=>
  obtain⟨hc,hv'⟩:=qql.1 hv;have hm:=qqm hv;obtain⟨hwe,hh1,hp1⟩:=hw e hm;have bad:zm p.vars e≠0->qU (zm p.vars) L=zm p.vars e:=fun h=>kf hv hz h
  simp[h1,h11,h12,h13,hc,hv',qc e,qqH];rw[<- qc e];refine qa.call (J9 e hwe (by omega)) (by simp) ?_;by_cases h0:zh e=0
  . simp[h0,h1,h11,h12,h13,qc e,qqH];rw[<- qc e];refine qa.call (v9 e hwe hp1) (by simp) ?_;have hab:=Qr (e:=e);cases ha:Jx e
    . rw[ha]at hab;have hlz:(zF [3,24] e).length=0:=(by have:=of_decide_eq_false hab;omega);have hnil:=qqA hlz;simp[hnil,h1,h11,h12,h13,qc e,qqH];rw[<- qc e];refine qa.call (Zk e hwe hp1) (by simp) ?_
      try simp[h1,h11,h12,h13]
      have hfn:Fits (zF [2] e):=by
       have:∀ (l:List Ex) (s:List Str),(l.foldl (Kq [2]) s).length<=s.length+l.length:=by
        intro l
        induction l with
        | nil=>intro s;simp
        | cons a r ih=>intro s;have:=ih (Kq [2] s a);have:=wX (ops:=[2]) (s:=s) (e:=a);simp only[qq7,qqC];omega
       have:=this (pre e) [];simp only[Fits,zF,qq1]at this ⊢;omega
      refine qa.lent (Ki GG (zF [2] e) (fun s=>!vz p.vars s) 81 [] [.rptr (qL p)] hfn rfl (by simp) fun s _=>qf7 p s hl) rfl ?_ ?_
      . simp[frz]
      . rw[Qm];cases hf:QQ p.vars e
        . have x:zm p.vars e=0:=(by simp only[zm,h0,ha,hf];rfl);simp[h1,h11,h12,h13];exact⟨_,by omega,i+1,by omega,rfl,wr (by omega) (by omega),qZ hv hz x⟩
        . have x:zm p.vars e=7:=(by simp only[zm,h0,ha,hf];rfl);rw[bad (by rw[x];decide),x];simp
    . rw[ha]at hab;have hlz:0<(zF [3,24] e).length:=of_decide_eq_true hab;have x:zm p.vars e=9:=(by simp only[zm,h0,ha];rfl);rw[bad (by rw[x];decide),x];simp[hlz]
  . have x:zm p.vars e=zh e:=(by simp only[zm];rw[if_pos h0]);rw[bad (by rw[x];exact h0),x];simp[h0]
 | none=>
  have hc:¬ i<L.length:=by simp at hv;omega
  have ht:L.take i=L:=qqu (by omega);rw[ht]at hz;rw[zl.2 hz];simp[h1,h11,h12,h13,hc]
def qt (n:Int):Int:=n % 65536
theorem qs (n:Int):0<=qt n/\qt n<=65535:=by unfold qt;omega
theorem Qb {n:Int}(h0:0<=n)(h1:n<=65535):qt n=n:=by unfold qt;omega
def b2i (b:Bool):Int:=if b=true then 1 else 0
theorem Ko (b:Bool):0<=b2i b/\b2i b<=65535:=by cases b<;>simp[b2i]
def jn (env:List Signal)(name:Str):Option Int:=(env.find? fun s=>s.name==name).map fun s=>qt s.value
def atV (env:List Signal)(a:Str)(i:Int):Int:=if 0<=i/\i<8 then (jn env (zN a i.toNat)).getD 0 else 0
def qjZ (env:List Signal)(a:Str):Nat->Int
 | 0=>0
 | i+1=>qt (qjZ env a i+atV env a i)
def yk (a:Nat):Nat->Nat
 | 0=>0
 | i+1=>yk a i+(if a.testBit i=true then 1 else 0)
def unW (op a:Int):Int :=
 if op=4 then b2i (decide (a=0)) else if op=5 then 65535-qt a else if op=6 then qt (0-a) else (yk (qt a).toNat 16:Int)
def jI (op a b:Int):Int :=
 if op=7 then qt (a+b) else if op=8 then qt (a-b) else if op=9 then qt (a*b)
 else if op=10 then ((a.toNat &&& b.toNat:Nat):Int) else if op=11 then ((a.toNat ||| b.toNat:Nat):Int) else if op=12 then ((a.toNat ^^^ b.toNat:Nat):Int)
 else if op=13 then (if 0<=b/\b<16 then qt (a*2 ^ b.toNat) else 0)
 else if op=14 then (if 0<=b/\b<16 then qt a / 2 ^ b.toNat else 0)
 else if op=15 then b2i (decide (a=b)) else if op=16 then b2i (!decide (a=b)) else if op=17 then b2i (decide (a<b)) else if op=18 then b2i (decide (a<=b))
 else if op=19 then b2i (!decide (a=0)&&!decide (b=0)) else if op=20 then b2i (!decide (a=0)||!decide (b=0))
 else b2i (decide (a=0)||!decide (b=0))
def z7 (a:Int):List Int->Bool
 | x::y::r=>(decide (x<=a)&&decide (a<=y))||z7 a r
 | _=>false
def opW (op:Int)(l:List Int):Int :=
 if op=22 then (if l.getD 0 0≠0 then l.getD 1 0 else l.getD 2 0)
 else if op=23 then b2i (z7 (l.getD 0 0) l.tail)
 else match l with
  | []=>0
  | [a]=>unW op a
  | a::b::_=>jI op a b
def wM (env:List Signal)(op n:Int)(name:Str)(l:List Int):Int :=
 if op=1 then n else if op=2 then (jn env name).getD 0 else if op=3 then atV env name (l.getD 0 0) else if op=24 then qjZ env name 8 else opW op l
mutual
def jX (env:List Signal):Ex->Int
 | .mk op n name args=>wM env op n name (qgX env args)
def qgX (env:List Signal):List Ex->List Int
 | []=>[]
 | e::r=>jX env e::qgX env r
end
@[simp]theorem qki (env:List Signal):∀ l,qgX env l=l.map (jX env)
 | []=>by simp[qgX]
 | e::r=>by simp[qgX,qki env r]
theorem yp (env:List Signal)(e:Ex):jX env e=wM env e.op e.n e.name (e.args.map (jX env)):=by cases e;simp[jX]
def qgD (env:List Signal)(e:Ex):Bool :=
 if e.op=2 then (jn env e.name).isSome else if e.op=3\/e.op=24 then (jn env (zN e.name 0)).isSome else true
def jp (env:List Signal)(e:Ex):Bool:=(pre e).all (qgD env)
theorem qbe (env:List Signal)(e:Ex):jp env e=(qgD env e&&e.args.all (jp env)):=by
 unfold jp;rw[jk,qrS];congr 1;generalize e.args=l
 induction l with
 | nil=>simp
 | cons a r ih=>simp[ih,qrM]
noncomputable def Zv (env:List Signal)(e:Ex):Int:=if zh e≠0 then 1 else if jp env e=true then 0 else 7
noncomputable def yh (env:List Signal)(e:Ex):Int:=if zh e=0/\jp env e=true then jX env e else 0
def yy (e:Ex):Prop:=∀ x∈pre e,qr x=0
theorem yy.self {e:Ex}(h:yy e):qr e=0:=h e (by rw[jk];simp)
theorem yy.arg {e a:Ex}(h:yy e)(ha:a∈e.args):yy a:=fun x hx=>h x (by rw[jk];exact qrH _ (Qi.2 ⟨a,ha,hx⟩))
theorem vE {e:Ex}(h:zh e=0):yy e:=by
 unfold zh at h;split at h
 . cases h
 . exact zl.1 h
theorem z9 {e:Ex}(h:qr e=0):1<=e.op/\e.op<=25/\(e.op=1->0<=e.n/\e.n<=65535)/\(e.op≠1->e.n=0)/\qj e=true/\(e.op=2->ku e.name=true)/\(e.op=3\/e.op=24->zY e.name=true)/\(¬ (e.op=2\/e.op=3\/e.op=24)->e.name=[]):=by
 unfold qr at h;split at h
 . cases h
 rename_i h1;split at h
 . cases h
 rename_i h2;split at h
 . cases h
 rename_i h3;split at h
 . cases h
 rename_i h4;refine⟨by omega,by omega,fun h=>?_,fun h=>?_,?_,fun h=>?_,fun h=>?_,fun h=>?_⟩
 . apply Classical.byContradiction;intro hn;exact h2 (.inl ⟨h,by omega⟩)
 . apply Classical.byContradiction;intro hn;exact h2 (.inr ⟨h,hn⟩)
 . cases ho:qj e with
   | true=>rfl
   | false=>exact absurd (.inr ho) h3
 . cases ho:ku e.name with
   | true=>rfl
   | false=>exact absurd (.inl ⟨h,ho⟩) h4
 . cases ho:zY e.name with
   | true=>rfl
   | false=>exact absurd (.inr ⟨h,ho⟩) h4
 . apply Classical.byContradiction;intro hn;exact h3 (.inl ⟨h,hn⟩)
theorem wK {e:Ex}(h:qj e=true)(h23:e.op≠23):(e.args.length:Int)=zx e.op:=by
 unfold qj at h;rw[if_neg h23]at h;simpa using h
theorem QL {e:Ex}(h:qj e=true)(h23:e.op=23):e.args.length % 2=1/\3<=e.args.length/\e.args.length<=33:=by
 unfold qj at h;rw[if_pos h23]at h;simpa using h
theorem Zf (a:Nat):∀ i,yk a i<=i
 | 0=>qqw _
 | i+1=>by
  have:=Zf a i;simp only[yk];split<;>omega
theorem Y7 {env:List Signal}{name:Str}{v:Int}(h:jn env name=some v):0<=v/\v<=65535:=by
 unfold jn at h;obtain⟨s,_,rfl⟩:=qqs.1 h;exact qs _
theorem ZU {o:Option Int}(h:∀ v,o=some v->0<=v/\v<=65535):0<=o.getD 0/\o.getD 0<=65535:=by
 cases o with
 | none=>simp
 | some v=>exact h v rfl
theorem qjx (env:List Signal)(a:Str)(i:Int):0<=atV env a i/\atV env a i<=65535:=by
 unfold atV;split
 . exact ZU fun v h=>Y7 h
 . omega
theorem qfv (env:List Signal)(a:Str):∀ i,0<=qjZ env a i/\qjZ env a i<=65535
 | 0=>by simp[qjZ]
 | i+1=>qs _
theorem qha (op a:Int):0<=unW op a/\unW op a<=65535:=by
 unfold unW;split
 . exact Ko _
 split
 . have:=qs a;omega
 split
 . exact qs _
 . have:=Zf (qt a).toNat 16;omega
theorem Yk {a:Int}(n:Nat)(h0:0<=a)(h1:a<=65535):0<=a / 2 ^ n/\a / 2 ^ n<=65535:=by
 have hp:(0:Int)<2 ^ n:=qtN (by omega);refine⟨Int.ediv_nonneg h0 (by omega),?_⟩;have:=Int.ediv_le_self (2 ^ n) h0;omega
def InW (n:Int):Prop:=0<=n/\n<=65535
theorem InW.ite {c:Prop}[Decidable c]{a b:Int}(ha:InW a)(hb:InW b):InW (if c then a else b):=by
 split
 . exact ha
 . exact hb
theorem qgq (op:Int){a b:Int}(ha0:0<=a)(ha1:a<=65535)(hb0:0<=b)(hb1:b<=65535):0<=jI op a b/\jI op a b<=65535:=by
 obtain⟨x,rfl⟩:=qqR ha0;obtain⟨y,rfl⟩:=qqR hb0;have hx:x<2 ^ 16:=by omega
 have hy:y<2 ^ 16:=by omega
 have o1:=qto (n:=16) x hy;have o2:=qtu (n:=16) hx hy;have o3:=qtp (n:=16) hx hy;show InW (jI op x y);unfold jI;simp only[qrg]
 repeat' apply InW.ite
 all_goals first | exact qs _ | exact Ko _ | exact Yk _ (qs _).1 (qs _).2 | (unfold InW;omega)
theorem KQ (env:List Signal):∀ e,yy e->0<=jX env e/\jX env e<=65535:=by
 refine Ex.ind fun e ih hn=>?_
 have hm:∀ x∈e.args.map (jX env),0<=x/\x<=65535:=by
  intro x hx;obtain⟨a,ha,rfl⟩:=qqS.1 hx;exact ih a ha (hn.arg ha)
 have hg:∀ i,0<=(e.args.map (jX env)).getD i 0/\(e.args.map (jX env)).getD i 0<=65535:=by
  intro i;rw[qqz];exact ZU fun v h=>hm v (qqm h)
 obtain⟨h1,h2,h3,_⟩:=z9 hn.self;rw[yp];unfold wM;split
 . rename_i h;exact h3 h
 split
 . exact ZU fun v h=>Y7 h
 split
 . exact qjx _ _ _
 split
 . exact qfv _ _ _
 unfold opW;split
 . split
   . exact hg 1
   . exact hg 2
 split
 . exact Ko _
 split
 . omega
 . exact qha _ _
 . rename_i a b r hl;rw[hl]at hm;exact qgq _ (hm a (by simp)).1 (hm a (by simp)).2 (hm b (by simp)).1 (hm b (by simp)).2
def kr (l:List Var)(a:List Int):List Signal:=if a.length=l.length then (l.zip a).map fun q=>⟨q.1.name,q.2⟩ else []
def je (q:Var×Int):Bool:=decide (0<=q.2)&&decide (q.2<2 ^ q.1.width.toNat)&&(!decide (q.1.mode=0)||decide (q.2=q.1.value))
def zb (l:List Var)(a:List Int):Bool:=decide (a.length=l.length)&&(l.zip a).all je
noncomputable def qbn (p:Problem)(a:List Int)(e:Ex):Bool :=
 decide (qk p=0)&&zb p.vars a&&decide (Zv (kr p.vars a) e=0)&&!decide (yh (kr p.vars a) e=0)
theorem qcd {p:Problem}(h:qk p=0):∀ v∈p.vars,jF v=0:=by
 unfold qk at h;split at h
 . rename_i hn;exact absurd h hn
 rename_i hv;have hv:zX p.vars=0:=qq8.1 hv;unfold zX at hv;split at hv
 . cases hv
 split at hv
 . rename_i hn;exact absurd hv hn
 rename_i hz;exact zl.1 (qq8.1 hz)
section
theorem qaZ (f:Nat->Bool):zn f 16<65536:=yX f 16
theorem Wl (f:Nat->Bool):∀ k,k<=16->yk (zn f 16) k=Vb f k
 | 0,_=>rfl
 | k+1,h=>by
  simp only[yk,Vb,Wl f k (by omega),qY,b2n];have:decide (k<16)=true:=by simp;omega
  rw[this,qrr];cases f k<;>rfl
theorem vF (f:Nat->Bool):ZE f 16 = !decide ((zn f 16:Int)=0):=by
 rw[ZD];simp
theorem qhX (t:Bool):(zn (fun k=>decide (k=0)&&t) 16:Int)=b2i t:=by
 rw[WS t 15];cases t<;>rfl
section
variable {x y z:Nat->Bool}
theorem w_add:(zn (fun k=>(x k ^^ y k) ^^ qaa x y false k) 16:Int)=qt (zn x 16+zn y 16):=by
 rw[kD];unfold qt b2n;simp
theorem w_sub:(zn (fun k=>(x k ^^ !y k) ^^ qaa x (fun k=>!y k) true k) 16:Int)=qt (zn x 16-zn y 16):=by
 rw[kD,WT];have:=qaZ x;have:=qaZ y;unfold qt b2n;simp;omega
theorem w_inv:(zn (fun k=>!x k) 16:Int)=65535-qt (zn x 16):=by
 rw[WT];have:=qaZ x;unfold qt;omega
theorem w_mul:((zn x 16*zn y 16 % 2 ^ 16:Nat):Int)=qt (zn x 16*zn y 16):=by unfold qt;simp
theorem w_shl (n:Nat):((zn x 16*2 ^ n % 2 ^ 16:Nat):Int)=qt (zn x 16*2 ^ n):=by unfold qt;simp
theorem w_shr (n:Nat):((zn x 16 / 2 ^ n:Nat):Int)=qt (zn x 16) / 2 ^ n:=by
 have:=qaZ x;have e:qt (zn x 16)=zn x 16:=Qb (by omega) (by omega);rw[e];simp
end
def qn (d:List Nd)(b:Nat->Bool)(w:List Nat)(k:Nat):Bool:=evD d b (w.getD k 0)
def zT (d:List Nd)(b:Nat->Bool)(w:List Nat):Int:=(zn (qn d b w) 16:Nat)
def zc (d:List Nd)(w:List Nat):Prop:=w.length=16/\∀ i∈w,i<d.length
theorem zc.at {d:List Nd}{w:List Nat}(h:zc d w){k:Nat}(hk:k<16):w.getD k 0<d.length:=by
 have hl:k<w.length:=by rw[h.1];exact hk
 rw[qqz,qqo hl];exact h.2 _ (qsy hl)
theorem zc.grown {d d':List Nd}{w:List Nat}(h:zc d w)(hg:zd d d'):zc d' w:=⟨h.1,fun i hi=>qqD (h.2 i hi) hg.len⟩
theorem zE {d d':List Nd}(hd:DagOk d)(hg:zd d d'){w:List Nat}(h:zc d w)(b:Nat->Bool){k:Nat}(hk:k<16):qn d' b w k=qn d b w k:=hg.ev hd b (h.at hk)
theorem qfK {d d':List Nd}(hd:DagOk d)(hg:zd d d'){w:List Nat}(h:zc d w)(b:Nat->Bool):zT d' b w=zT d b w:=by
 unfold zT;rw[zo fun k hk=>zE hd hg h b hk]
theorem qfJ (d:List Nd)(b:Nat->Bool)(w:List Nat):0<=zT d b w/\zT d b w<=65535:=by
 unfold zT;have:=qaZ (qn d b w);omega
end
def zZ (v:Var):Nat:=2 ^ v.width.toNat
def q9:List Var->List Int->List Int×Bool
 | v::vs,x::xs=>
  if (q9 vs xs).2=false then (x::(q9 vs xs).1,false)
  else if v.mode=0 then (x::(q9 vs xs).1,true)
  else if x+1<(zZ v:Nat) then ((x+1)::(q9 vs xs).1,false)
  else (0::(q9 vs xs).1,true)
 | _,_=>([],true)
def qW (vs:List Var):List Int:=vs.map fun v=>if v.mode=0 then v.value else 0
def QY:List Var->List (List Int)
 | []=>[[]]
 | v::vs=>if v.mode=0 then (QY vs).map (v.value::·) else (List.range (zZ v)).flatMap fun n:Nat=>(QY vs).map ((n:Int)::·)
def Zt:List Var->List Int->List (List Int)
 | v::vs,x::xs=>if v.mode=0 then (Zt vs xs).map (x::·) else (Zt vs xs).map (x::·)++(List.range' (x.toNat+1) (zZ v-1-x.toNat)).flatMap fun n:Nat=>(QY vs).map ((n:Int)::·)
 | _,_=>[[]]
theorem qdn {v:Var}{vs:List Var}(h:v.mode=0):QY (v::vs)=(QY vs).map (v.value::·):=by rw[QY,if_pos h]
theorem qdo {v:Var}{vs:List Var}(h:¬ v.mode=0):QY (v::vs)=(List.range (zZ v)).flatMap fun n:Nat=>(QY vs).map ((n:Int)::·):=by rw[QY,if_neg h]
theorem JU {v:Var}{vs:List Var}{x:Int}{xs:List Int}(h:v.mode=0):Zt (v::vs) (x::xs)=(Zt vs xs).map (x::·):=by rw[Zt,if_pos h]
theorem Ql {v:Var}{vs:List Var}{x:Int}{xs:List Int}(h:¬ v.mode=0):Zt (v::vs) (x::xs)=(Zt vs xs).map (x::·)++(List.range' (x.toNat+1) (zZ v-1-x.toNat)).flatMap fun n:Nat=>(QY vs).map ((n:Int)::·):=by rw[Zt,if_neg h]
def okA:List Var->List Int->Prop
 | [],[]=>True
 | v::vs,x::xs=>(if v.mode=0 then x=v.value else 0<=x/\x<(zZ v:Nat))/\okA vs xs
 | _,_=>False
theorem Yj (v:Var):0<zZ v:=qsh _
theorem okA.len:∀ {vs:List Var} {a:List Int},okA vs a->a.length=vs.length
 | [],[],_=>rfl
 | _::vs,_::xs,h=>by simp[okA.len h.2]
 | [],_::_,h=>h.elim
 | _::_,[],h=>h.elim
theorem YH:∀ (vs:List Var),okA vs (qW vs)
 | []=>trivial
 | v::vs=>by
  have:=Yj v;show okA (v::vs) ((if v.mode=0 then v.value else 0)::qW vs);refine⟨?_,YH vs⟩;by_cases h:v.mode=0
  . rw[if_pos h,if_pos h]
  . rw[if_neg h,if_neg h];omega
theorem Ve:∀ {vs:List Var} {a:List Int},okA vs a->okA vs (q9 vs a).1
 | [],[],_=>trivial
 | v::vs,x::xs,h=>by
  have h1:=Ve h.2;have h2:=h.1;have:=Yj v;unfold q9;split
  . exact⟨h2,h1⟩
  . split
    . exact⟨h2,h1⟩
    . rename_i hm;rw[if_neg hm]at h2;split
      . refine⟨?_,h1⟩;rw[if_neg hm];omega
      . refine⟨?_,h1⟩;rw[if_neg hm];omega
 | [],_::_,h=>h.elim
 | _::_,[],h=>h.elim
theorem qay:∀ {vs:List Var} {a:List Int},okA vs a->(q9 vs a).2=true->(q9 vs a).1=qW vs
 | [],[],_,_=>rfl
 | v::vs,x::xs,h,ho=>by
  have h2:=h.1;unfold q9 at ho ⊢;by_cases h1:(q9 vs xs).2=false
  . rw[if_pos h1]at ho;cases ho
  . have h1':(q9 vs xs).2=true:=(by simpa using h1);have ih:=qay h.2 h1';rw[if_neg h1]at ho ⊢;show _=(if v.mode=0 then v.value else 0)::qW vs;by_cases hm:v.mode=0
    . rw[if_pos hm]at h2 ⊢;rw[if_pos hm,ih,h2]
    . rw[if_neg hm]at ho ⊢;rw[if_neg hm];by_cases hx:x+1<(zZ v:Nat)
      . rw[if_pos hx]at ho;cases ho
      . rw[if_neg hx,ih]
 | [],_::_,h,_=>h.elim
 | _::_,[],h,_=>h.elim
theorem qfE {n:Nat}(h:0<n):List.range n=0::List.range' 1 (n-1):=by
 cases n with
 | zero=>omega
 | succ n=>rw[qrR,qrQ];simp
theorem wv:∀ (vs:List Var),Zt vs (qW vs)=QY vs
 | []=>rfl
 | v::vs=>by
  show Zt (v::vs) ((if v.mode=0 then v.value else 0)::qW vs)=_;by_cases h:v.mode=0
  . rw[if_pos h,JU h,qdn h,wv vs]
  . rw[if_neg h,Ql h,qdo h,wv vs,qfE (Yj v),qqG];rfl
theorem Y0:∀ {vs:List Var} {a:List Int},okA vs a->Zt vs a=a::if (q9 vs a).2=true then [] else Zt vs (q9 vs a).1
 | [],[],_=>rfl
 | v::vs,x::xs,h=>by
  have ih:=Y0 h.2;have h2:=h.1;by_cases h1:(q9 vs xs).2=false
  . have e:q9 (v::vs) (x::xs)=(x::(q9 vs xs).1,false):=(by rw[q9,if_pos h1]);rw[h1,if_neg (by simp)]at ih;rw[e,if_neg (by simp)];by_cases hm:v.mode=0
    . rw[JU hm,JU hm,ih];rfl
    . rw[Ql hm,Ql hm,ih];rfl
  . have h1':(q9 vs xs).2=true:=(by simpa using h1);rw[h1',if_pos rfl]at ih;by_cases hm:v.mode=0
    . have e:q9 (v::vs) (x::xs)=(x::(q9 vs xs).1,true):=(by rw[q9,if_neg h1,if_pos hm]);rw[e,if_pos rfl,JU hm,ih];rfl
    . rw[if_neg hm]at h2;by_cases hx:x+1<(zZ v:Nat)
      . have e:q9 (v::vs) (x::xs)=((x+1)::(q9 vs xs).1,false):=(by rw[q9,if_neg h1,if_neg hm,if_pos hx]);have e1:(x+1).toNat=x.toNat+1:=(by omega);have e2:zZ v-1-x.toNat=(zZ v-1-(x.toNat+1))+1:=(by omega);have e3:((x.toNat+1:Nat):Int)=x+1:=(by omega);rw[e,if_neg (by simp),Ql hm,ih,Ql hm,qay h.2 h1',wv,e1,e2,qrQ,qqG,e3];rfl
      . have e:q9 (v::vs) (x::xs)=(0::(q9 vs xs).1,true):=(by rw[q9,if_neg h1,if_neg hm,if_neg hx]);have e2:zZ v-1-x.toNat=0:=(by omega);rw[e,if_pos rfl,Ql hm,ih,e2];rfl
 | [],_::_,h=>h.elim
 | _::_,[],h=>h.elim
theorem qdk:∀ (vs:List Var),(QY vs).length=2 ^ ((vs.map fun v=>if v.mode=0 then 0 else v.width.toNat).sum)
 | []=>rfl
 | v::vs=>by
  by_cases h:v.mode=0
  . rw[qdn h,qqZ,qdk vs];simp[h]
  . rw[qdo h];have:∀ (l:List Nat),(l.flatMap fun n:Nat=>(QY vs).map ((n:Int)::·)).length=l.length*(QY vs).length:=by
     intro l
     induction l with
     | nil=>simp
     | cons a r ih=>rw[qqG,qqr,ih,qqZ,qqC,qsZ,qr4]
    rw[this,qsI,qdk vs];simp only[qqx,if_neg h,qsE,Nat.pow_add,zZ]
theorem vl:∀ {vs:List Var} {a:List Int},a∈QY vs↔okA vs a
 | [],a=>by
  cases a with
  | nil=>simp[QY,okA]
  | cons x xs=>simp[QY,okA]
 | v::vs,a=>by
  by_cases h:v.mode=0
  . rw[qdn h,qqS];constructor
    . rintro⟨b,hb,rfl⟩;exact⟨by rw[if_pos h],vl.1 hb⟩
    . intro hk
      cases a with
      | nil=>exact hk.elim
      | cons x xs=>
       have h1:=hk.1;rw[if_pos h]at h1;exact⟨xs,vl.2 hk.2,by rw[h1]⟩
  . rw[qdo h,List.mem_flatMap];constructor
    . rintro⟨n,hn,hb'⟩;obtain⟨b,hb,rfl⟩:=qqS.1 hb';have:=qra.1 hn;exact⟨by rw[if_neg h];omega,vl.1 hb⟩
    . intro hk
      cases a with
      | nil=>exact hk.elim
      | cons x xs=>
       have h1:=hk.1;rw[if_neg h]at h1;refine⟨x.toNat,qra.2 (by omega),qqS.2 ⟨xs,vl.2 hk.2,?_⟩⟩;rw[Int.toNat_of_nonneg h1.1]
noncomputable def QC (vs:List Var)(l:List Ex)(a:List Int):Bool:=l.all fun e=>decide (yh (kr vs a) e≠0)
noncomputable def qb1 (vs:List Var)(l:List Ex):Nat->List Int->Option (List Int)×Bool
 | 0,_=>(none,false)
 | k+1,a=>if QC vs l a then (some a,(q9 vs a).2) else if (q9 vs a).2 then (none,true) else qb1 vs l k (q9 vs a).1
theorem qeB {vs:List Var}{l:List Ex}:∀ (k:Nat) {a:List Int},okA vs a->(Zt vs a).length<=k->(qb1 vs l k a).1=(Zt vs a).find? (QC vs l)/\((qb1 vs l k a).1=none->(qb1 vs l k a).2=true)
 | 0,a,h,hk=>by rw[Y0 h]at hk;simp at hk
 | k+1,a,h,hk=>by
  rw[Y0 h]at hk ⊢;unfold qb1;rw[qsU];by_cases hs:QC vs l a=true
  . rw[if_pos hs,hs];exact⟨rfl,fun e=>by cases e⟩
  . rw[if_neg hs];have hs':QC vs l a=false:=(by simpa using hs);rw[hs'];by_cases ho:(q9 vs a).2=true
    . rw[if_pos ho,if_pos ho];exact⟨rfl,fun _=>rfl⟩
    . rw[if_neg ho,if_neg ho];rw[if_neg ho]at hk;exact qeB k (Ve h) (by simp at hk;omega)
noncomputable def jT (vs:List Var)(l:List Ex):Bool:=(QY vs).any (QC vs l)
theorem qlV {vs:List Var}{l:List Ex}{k:Nat}(hk:(QY vs).length<=k):((qb1 vs l k (qW vs)).1.isSome=jT vs l)/\((qb1 vs l k (qW vs)).1=none->(qb1 vs l k (qW vs)).2=true):=by
 have:=qeB (l:=l) k (YH vs) (by rw[wv];exact hk);rw[wv]at this;refine⟨?_,this.2⟩;rw[this.1,jT];generalize QY vs=L
 induction L with
 | nil=>rfl
 | cons a r ih=>rw[qsU,qsD];cases QC vs l a<;>simp[ih]
abbrev Rg:=Int×Int
@[simp]def yK (r:Rg):List AV:=[.int .i64 r.1,.int .i64 r.2]
def vA (out:List Rg)(n:Int):List Rg:=match out.getLast? with
 | some r=>if r.2=n-1 then out.dropLast++[(r.1,n)] else out++[(n,n)]
 | none=>out++[(n,n)]
def kv (l:List Int):List Rg:=l.foldl vA []
def jq (n:Int):Ex:=.mk 1 n [] []
def Qu (s:Str):Ex:=.mk 2 0 s []
def wE (s:Str)(l:List Rg):Ex:=.mk 23 0 [] (Qu s::l.flatMap fun r=>[jq r.1,jq r.2])
def orE (a b:Ex):Ex:=.mk 20 0 [] [a,b]
def z6 {α:Type}(n:Nat):Nat->List α->List (List α)
 | 0,_=>[]
 | k+1,l=>if l=[] then [] else l.take n::z6 n k (l.drop n)
def v8 (s:Str)(out:Ex)(l:List (List Rg)):Ex:=l.foldl (fun o c=>orE o (wE s c)) out
def ye (s:Str)(l:List Rg):Ex:=if l=[] then jq 0 else v8 s (wE s (l.take 16)) (z6 16 l.length (l.drop 16))
def inW (n:Int)(w:Weight):Bool:=decide (w.lo<=n)&&decide (n<=w.hi)
def qd2 (l:List Weight)(n:Int):Bool:=match l.find? (inW n) with
 | some w=>decide (0<w.weight)
 | none=>false
def qci (v:Var)(l:List Weight):List Int:=((List.range (zZ v)).map fun n:Nat=>(n:Int)).filter (qd2 l)
def KB (vs:List Var)(d:Dist):Ex:=match vs[d.var.toNat]? with
 | some v=>ye v.name (kv (qci v d.weights))
 | none=>jq 0
def vH (p:Problem):List Ex:=p.dists.map (KB p.vars)
def qcI (p:Problem):List Ex:=p.hard++vH p
noncomputable def kV (vs:List Var)(rules:List Ex):List (Int×Ex)->List (Int×Ex)
 | []=>[]
 | x::r=>if jT vs (rules++[x.2]) then x::kV vs (rules++[x.2]) r else kV vs rules r
def JF (l:List Ex):List (Int×Ex):=(l.zipIdx.map fun q=>((q.2:Int),q.1)).reverse
noncomputable def ZN (p:Problem):List (Int×Ex):=(kV p.vars (qcI p) (JF p.soft)).reverse
noncomputable def qhu (p:Problem):List Ex:=qcI p++(ZN p).map (·.2)
theorem Vh {n:Int}(h0:0<=n)(h1:n<=65535):qr (jq n)=0:=by
 simp[qr,jq,qj,zx,Ex.op,Ex.n,Ex.name,Ex.args];omega
theorem qgU {s:Str}(h:ku s=true):qr (Qu s)=0:=by
 simp[qr,Qu,qj,zx,Ex.op,Ex.n,Ex.name,Ex.args,h]
theorem Ze (n:Int):pre (jq n)=[jq n]:=by simp[jk,jq]
theorem qdZ (s:Str):pre (Qu s)=[Qu s]:=by simp[jk,Qu]
theorem qaP:∀ (l:List Rg),w9 (l.flatMap fun r=>[jq r.1,jq r.2])=l.flatMap fun r=>[jq r.1,jq r.2]
 | []=>rfl
 | r::l=>by rw[qqG,wH,qaP l];simp[Ze]
theorem qd0 (s:Str)(l:List Rg):pre (wE s l)=wE s l::Qu s::l.flatMap fun r=>[jq r.1,jq r.2]:=by
 rw[jk];show wE s l::w9 (Qu s::_)=_;rw[yG,qdZ,qaP];rfl
theorem Vg:∀ (l:List Rg),(l.flatMap fun r=>[jq r.1,jq r.2]).length=2*l.length
 | []=>rfl
 | r::l=>by rw[qqG,qqr,Vg l];simp;omega
def qjS (r:Rg):Prop:=(0<=r.1/\r.1<=65535)/\0<=r.2/\r.2<=65535
structure EOk (s:Str)(h m:Nat)(e:Ex):Prop where
 nodes:∀ x∈pre e,qr x=0/\x.op≠3/\x.op≠24/\(x.op=2->x.name=s)
 hgt:hgt e<=h
 size:(pre e).length<=m
theorem EOk.ins {s:Str}(hs:ku s=true){l:List Rg}(hl:l≠[])(hn:l.length<=16)(hr:∀ r∈l,qjS r):EOk s 2 34 (wE s l):=by
 have hlen:=Vg l;have hpos:0<l.length:=qqB.2 hl;refine⟨fun x hx=>?_,?_,?_⟩
 . rw[qd0]at hx;rcases qqM.1 hx with rfl|hx
   . refine⟨?_,by simp[wE,Ex.op],by simp[wE,Ex.op],by simp[wE,Ex.op]⟩;unfold qr qj;simp only[wE,Ex.op_mk,Ex.n_mk,Ex.name_mk,Ex.args_mk,qqC,hlen];have h1:(2*l.length+1) % 2=1:=(by omega);have h2:3<=2*l.length+1:=(by omega);have h3:2*l.length+1<=33:=(by omega);simp[h1,h2,h3]
   . rcases qqM.1 hx with rfl|hx
     . exact⟨qgU hs,by simp[Qu,Ex.op],by simp[Qu,Ex.op],fun _=>rfl⟩
     . obtain⟨r,hr1,hx⟩:=List.mem_flatMap.1 hx;have:=hr r hr1;simp only[qqM,qrI,or_false]at hx;rcases hx with rfl|rfl
       . exact⟨Vh this.1.1 this.1.2,by simp[jq,Ex.op],by simp[jq,Ex.op],by simp[jq,Ex.op]⟩
       . exact⟨Vh this.2.1 this.2.2,by simp[jq,Ex.op],by simp[jq,Ex.op],by simp[jq,Ex.op]⟩
 . rw[ve];have:Jo (wE s l).args<=1:=by
    show Jo (Qu s::_)<=1;rw[Zr];have h1:Go.Proofs.YtoibbcnfhhggnaaGreatDoor.hgt (Qu s)=1:=(by simp[ve,Qu]);have h2:Jo (l.flatMap fun r=>[jq r.1,jq r.2])<=1:=by
     clear hlen hpos hl hn hr h1
     induction l with
     | nil=>simp
     | cons r l ih=>
      rw[qqG];simp only[qqP,qqJ,Zr];have:∀ n,Go.Proofs.YtoibbcnfhhggnaaGreatDoor.hgt (jq n)=1:=fun n=>by simp[ve,jq]
      rw[this,this];omega
    omega
   omega
 . rw[qd0,qqC,qqC,hlen];omega
theorem EOk.or {s:Str}{h h' m m':Nat}{a b:Ex}(ha:EOk s h m a)(hb:EOk s h' m' b):EOk s (max h h'+1) (m+m'+1) (orE a b):=by
 have hp:pre (orE a b)=orE a b::(pre a++pre b):=by rw[jk];simp[orE]
 refine⟨fun x hx=>?_,?_,?_⟩
 . rw[hp]at hx;rcases qqM.1 hx with rfl|hx
   . refine⟨?_,by simp[orE,Ex.op],by simp[orE,Ex.op],by simp[orE,Ex.op]⟩;simp[qr,orE,qj,zx,Ex.op,Ex.n,Ex.name,Ex.args]
   . rcases qqE.1 hx with hx|hx
     . exact ha.nodes x hx
     . exact hb.nodes x hx
 . rw[ve];have:=ha.hgt;have:=hb.hgt;simp only[orE,Ex.args_mk,Zr,qlW];omega
 . rw[hp,qqC,qqr];have:=ha.size;have:=hb.size;omega
theorem EOk.chain {s:Str}(hs:ku s=true):∀ (l:List (List Rg)) {h m:Nat} {out:Ex},EOk s (h+2) m out->(∀ c∈l,c≠[]/\c.length<=16/\∀ r∈c,qjS r)->EOk s (h+2+l.length) (m+35*l.length) (v8 s out l)
 | [],h,m,out,ho,_=>ho
 | c::l,h,m,out,ho,hc=>by
  have h1:=hc c (by simp);have h2:=ho.or (EOk.ins hs h1.1 h1.2.1 h1.2.2);have h3:=EOk.chain hs l (h:=h+1) (m:=m+34+1) (out:=orE out (wE s c)) (by
   have e:max (h+2) 2+1=h+1+2:=(by omega);rw[e]at h2;exact h2) (fun c hm=>hc c (by simp[hm]))
  have e1:h+2+(c::l).length=h+1+2+l.length:=by simp;omega
  have e2:m+35*(c::l).length=m+34+1+35*l.length:=by simp;omega
  rw[e1,e2];exact h3
theorem YD {α:Type}{n:Nat}(hn:0<n):∀ (k:Nat) (l:List α),∀ c∈z6 n k l,c≠[]/\c.length<=n/\∀ x∈c,x∈l
 | 0,_,c,h=>by cases h
 | k+1,l,c,h=>by
  unfold z6 at h;split at h
  . cases h
  . rename_i hl;rcases qqM.1 h with rfl|h
    . have:=qqB.2 hl;refine⟨qqB.1 (by rw[qqY];omega),by rw[qqY];omega,fun x hx=>qrk hx⟩
    . obtain⟨h1,h2,h3⟩:=YD hn k _ c h;exact⟨h1,h2,fun x hx=>qrP (h3 x hx)⟩
theorem YE {α:Type}{n:Nat}(hn:0<n):∀ (k:Nat) (l:List α) (m:Nat),l.length<=m*n->(z6 n k l).length<=m
 | 0,_,m,_=>by simp[z6]
 | k+1,l,m,h=>by
  unfold z6;split
  . simp
  . rename_i hl;have:=qqB.2 hl
    cases m with
    | zero=>omega
    | succ m=>
     have:=YE hn k (l.drop n) m (by rw[qrE];rw[qsZ]at h;omega);simp;omega
theorem EOk.valid {s:Str}{e:Ex}{h m:Nat}(ho:EOk s h m e)(hh:h<=24)(hm:m<=400){vs:List Var}(hv:vz vs s=true):zm vs e=0:=by
 have h1:qU qr (pre e)=0:=zl.2 fun x hx=>(ho.nodes x hx).1
 have h2:zh e=0:=by
  unfold zh;have h3:=ho.hgt;have h4:=ho.size;have h5:vo e=(pre e).length:=by unfold vo;rw[wr (by omega) (by omega)]
  rw[if_neg,h1];rintro⟨_,h|h⟩
  . omega
  . rw[h5]at h;omega
 have h3:Jx e=false:=by
  unfold Jx;rw[qrz];intro x hx;have:=ho.nodes x hx;simp[this.2.1,this.2.2.1]
 have h4:QQ vs e=false:=by
  unfold QQ;rw[qrz];intro x hx;have:=(ho.nodes x hx).2.2.2;by_cases h:x.op=2
  . simp[h,this h,hv]
  . simp[h]
 unfold zm;simp[h2,h3,h4]
theorem Wm {n:Int}(h0:0<=n)(h1:n<=65535)(vs:List Var):zm vs (jq n)=0:=by
 have hp:=Ze n;have h2:zh (jq n)=0:=by
  unfold zh vo;rw[hp];have:hgt (jq n)=1:=by simp[ve,jq]
  rw[this];simp[qU,Vh h0 h1];decide
 have h3:Jx (jq n)=false:=by unfold Jx;rw[hp];simp[jq,Ex.op]
 have h4:QQ vs (jq n)=false:=by unfold QQ;rw[hp];simp[jq,Ex.op]
 unfold zm;simp[h2,h3,h4]
theorem Jh {s:Str}(hs:ku s=true){l:List Rg}(hl:l.length<=128)(hr:∀ r∈l,qjS r){vs:List Var}(hv:vz vs s=true):zm vs (ye s l)=0:=by
 unfold ye;split
 . exact Wm (by omega) (by omega) vs
 . rename_i h0;have hpos:=qqB.2 h0;have h1:=EOk.ins hs (l:=l.take 16) (qqB.1 (by rw[qqY];omega)) (by rw[qqY];omega) (fun r h=>hr r (qrk h));have h2:=EOk.chain hs (z6 16 l.length (l.drop 16)) (h:=0) h1 (fun c hc=>by
    obtain⟨a,b,c'⟩:=YD (by omega) _ _ c hc;exact⟨a,b,fun r h=>hr r (qrP (c' r h))⟩)
   have h3:=YE (n:=16) (by omega) l.length (l.drop 16) 7 (by rw[qrE];omega);exact h2.valid (by omega) (by omega) hv
theorem qmS {out:List Rg}{n:Int}(hn:0<=n/\n<=65535)(h1:∀ r∈out,qjS r)(h2:∀ r,out.getLast?=some r->r.2<n/\2*(out.length:Int)<=r.2+2) :
 (∀ r∈vA out n,qjS r)/\∃ r,(vA out n).getLast?=some r/\r.2=n/\2*((vA out n).length:Int)<=n+2:=by
 have new:(∀ r,out.getLast?=some r->¬ r.2=n-1)->(∀ r∈out++[(n,n)],qjS r)/\∃ r,(out++[(n,n)]).getLast?=some r/\r.2=n/\2*((out++[(n,n)]).length:Int)<=n+2:=by
  intro hne;refine⟨fun r hr=>?_,(n,n),by simp,rfl,?_⟩
  . rcases qqE.1 hr with hr|hr
    . exact h1 r hr
    . simp only[qqM,qrI,or_false]at hr;subst hr;exact⟨hn,hn⟩
  . rw[qqr]
    cases h:out.getLast? with
    | none=>
     rw[qsX]at h;subst h;simp;omega
    | some r=>
     have:=h2 r h;have:=hne r h;simp only[qqC,qq1];omega
 unfold vA
 cases h:out.getLast? with
 | none=>exact new fun r hr=>by rw[h]at hr;cases hr
 | some r=>
  simp only;have h3:=h2 r h;split
  . rename_i he;obtain⟨l,rfl⟩:=qsY.1 h;rw[qsi];refine⟨fun x hx=>?_,(r.1,n),by simp,rfl,?_⟩
    . rcases qqE.1 hx with hx|hx
      . exact h1 x (by simp[hx])
      . simp only[qqM,qrI,or_false]at hx;subst hx;exact⟨(h1 r (by simp)).1,hn⟩
    . simp only[qqr,qqC,qq1]at h3 ⊢;omega
  . rename_i he;exact new fun x hx=>by rw[h]at hx;cases hx;exact he
theorem qbw:∀ {l:List Int} {out:List Rg} {N:Int},l.Pairwise (· < ·)->(∀ x∈l,0<=x/\x<=65535/\x<N)->(∀ r∈out,qjS r)->(∀ r,out.getLast?=some r->r.2<N/\2*(out.length:Int)<=r.2+2/\∀ x∈l,r.2<x) ->
 (∀ r∈l.foldl vA out,qjS r)/\∀ r,(l.foldl vA out).getLast?=some r->r.2<N/\2*((l.foldl vA out).length:Int)<=r.2+2
 | [],out,N,_,_,h1,h2=>⟨h1,fun r hr=>⟨(h2 r hr).1,(h2 r hr).2.1⟩⟩
 | x::l,out,N,hp,hx,h1,h2=>by
  rw[qq7];obtain⟨hp1,hp2⟩:=List.pairwise_cons.1 hp;have hx0:=hx x (by simp);obtain⟨a1,r,a2,a3,a4⟩:=qmS (n:=x) ⟨hx0.1,hx0.2.1⟩ h1 (fun r hr=>⟨(h2 r hr).2.2 x (by simp),(h2 r hr).2.1⟩);refine qbw hp2 (fun y hy=>hx y (by simp[hy])) a1 fun r' hr'=>?_
  rw[a2]at hr';cases hr';exact⟨by omega,by omega,fun y hy=>by rw[a3];exact hp1 y hy⟩
theorem W4 {l:List Int}{N:Int}(hp:l.Pairwise (· < ·))(hx:∀ x∈l,0<=x/\x<=65535/\x<N)(hN:0<=N):(∀ r∈kv l,qjS r)/\2*((kv l).length:Int)<=N+1:=by
 have:=qbw (out:=[]) hp hx (fun r h=>by cases h) (fun r h=>by cases h);refine⟨this.1,?_⟩
 cases h:(kv l).getLast? with
 | none=>rw[qsX]at h;rw[h];simp;omega
 | some r=>have:=this.2 r h;show 2*((l.foldl vA []).length:Int)<=_;omega
theorem qch (v:Var)(l:List Weight):(qci v l).Pairwise (· < ·)/\∀ x∈qci v l,0<=x/\x<(zZ v:Nat):=by
 unfold qci;refine⟨List.Pairwise.filter _ ?_,fun x hx=>?_⟩
 . rw[qs8];exact qtQ.imp fun h=>by omega
 . obtain⟨hx,_⟩:=qsT.1 hx;obtain⟨n,hn,rfl⟩:=qqS.1 hx;have:=qra.1 hn;omega
theorem WY {v:Var}(h:v.width<=8):zZ v<=256:=by
 unfold zZ;have:v.width.toNat<=8:=by omega
 calc 2 ^ v.width.toNat<=2 ^ 8:=qqL (by omega) this
  _=256:=rfl
theorem qfu {vs:List Var}(hv:∀ v∈vs,jF v=0)(d:Dist):zm vs (KB vs d)=0:=by
 unfold KB;split
 . rename_i v h;have hm:=qqm h;have h1:=qR (hv v hm);have h2:=qch v d.weights;have h3:=WY h1.2.2;have h4:=W4 (N:=(zZ v:Nat)) h2.1 (fun x hx=>by have:=h2.2 x hx;omega) (by omega);exact Jh h1.1 (by omega) h4.1 (by unfold vz;rw[qqN];exact⟨v,hm,by simp⟩)
 . exact Wm (by omega) (by omega) vs
def zB (a:List Int):List AV:=a.map (AV.int .i64 ·)
@[simp]def KH (p:Problem)(l:List Ex)(va:AV)(over:Bool)(n:Nat):List AV:=[.sl 4 (p.vars.map qp) .none,.sl 4 (p.hard.map qu) .none,.sl 4 (p.soft.map qu) .none,.sl 2 (p.dists.map zH) .none,.sl 1 (p.groups.map qN) .none,.sl 4 (l.map qu) .none,va,.bool over,.int .i64 n]
def V8 (A t:Nat)(a:List Int):AV:=if a=[] then .sl 1 [] (.chain t 0) else .ms A 0 a.length 1
structure FndR (F A t:Nat)(p:Problem)(l:List Ex)(a:List Int)(over:Bool)(n:Nat)(H:List Blk):Prop where
 f:H[F]?=some (.cells (KH p l (V8 A t a) over n))
 r:a≠[]->H[A]?=some (.cells (zB a))
theorem FndR.ne {F A t:Nat}{p:Problem}{l:List Ex}{a:List Int}{over:Bool}{n:Nat}{H:List Blk}(h:FndR F A t p l a over n H)(ha:a≠[]):A≠F:=by
 rintro rfl;have h1:=h.f;rw[h.r ha]at h1;simp only[zB,KH,Option.some.injEq,Blk.cells.injEq]at h1
 cases a with
 | nil=>exact ha rfl
 | cons x xs=>simp at h1
theorem yC {a:List Int}{i:Nat}{x:Int}:(zB a).set i (AV.int .i64 x)=zB (a.set i x):=by simp[zB,List.map_set]
theorem Kg {a:List Int}{i:Nat}:(zB a)[i]?=(a[i]?).map (AV.int .i64 ·):=by simp[zB]
theorem za {a:List Int}:(zB a).length=a.length:=by simp[zB]
theorem qou {vs:List Var}{a:List Int}(hl:a.length=vs.length){m:Nat}{v:Var}{x:Int}(hv:vs[m]?=some v)(hx:a[m]?=some x)(ho:(q9 (vs.drop (m+1)) (a.drop (m+1))).2=true) :
 q9 (vs.drop m) (a.drop m)=if v.mode=0 then (x::(q9 (vs.drop (m+1)) (a.drop (m+1))).1,true) else if x+1<(zZ v:Nat) then ((x+1)::(q9 (vs.drop (m+1)) (a.drop (m+1))).1,false) else (0::(q9 (vs.drop (m+1)) (a.drop (m+1))).1,true):=by
 obtain⟨h1,rfl⟩:=qql.1 hv;obtain⟨h2,rfl⟩:=qql.1 hx;rw[qqK h1,qqK h2]
 conv=>lhs;unfold q9
 rw[ho,if_neg (by simp)]
theorem qdI:∀ {vs:List Var} {a:List Int} (hl:a.length=vs.length) (m:Nat),(q9 (vs.drop m) (a.drop m)).2=false->q9 vs a=(a.take m++(q9 (vs.drop m) (a.drop m)).1,false)
 | vs,a,_,0,h=>by
  simp only[qrL]at h ⊢;rw[List.take_zero,qqJ,<- h]
 | [],[],_,m+1,h=>by simp[q9]at h
 | v::vs,x::xs,hl,m+1,h=>by
  have ih:=qdI (vs:=vs) (a:=xs) (by simpa using hl) m (by simpa using h);simp only[qsQ]at h ⊢
  conv=>lhs;unfold q9
  rw[ih,if_pos rfl,qsA,qqP]
 | [],_::_,hl,_,_=>by simp at hl
 | _::_,[],hl,_,_=>by simp at hl
theorem qdJ:∀ {vs:List Var} {a:List Int},a.length=vs.length->(q9 vs a).1.length=a.length
 | [],[],_=>rfl
 | v::vs,x::xs,hl=>by
  have ih:=qdJ (vs:=vs) (a:=xs) (by simpa using hl);unfold q9;split
  . simp[ih]
  . split
    . simp[ih]
    . split<;>simp[ih]
 | [],_::_,hl=>by simp at hl
 | _::_,[],hl=>by simp at hl
theorem FndR.look {F A t:Nat}{p:Problem}{l:List Ex}{a:List Int}{over:Bool}{n:Nat}{H:List Blk}(h:FndR F A t p l a over n H)(u:List Blk):FndR F A t p l a over n (H++u):=⟨qb h.f u,fun ha=>qb (h.r ha) u⟩
theorem qnk:∀ {vs:List Var} {a:List Int} {m:Nat} {v:Var} {x:Int},okA vs a->vs[m]?=some v->a[m]?=some x->if v.mode=0 then x=v.value else 0<=x/\x<(zZ v:Nat)
 | v::vs,x::xs,0,w,y,h,hv,hx=>by
  simp at hv hx;subst hv hx;exact h.1
 | v::vs,x::xs,m+1,w,y,h,hv,hx=>qnk h.2 (by simpa using hv) (by simpa using hx)
 | [],[],_,_,_,_,hv,_=>by simp at hv
 | [],_::_,_,_,_,h,_,_=>h.elim
 | _::_,[],_,_,_,h,_,_=>h.elim
def AdvQ (F A t:Nat)(p:Problem)(l:List Ex)(a:List Int)(n:Nat)(H:List Blk)(T:List (Option Nat))(r:AV)(U':St):Prop :=
 r=.tup []/\U'.T=T/\FndR F A t p l (q9 p.vars a).1 (q9 p.vars a).2 n U'.H/\KpL [F,A] H U'.H
def AdvI (F A t:Nat)(p:Problem)(l:List Ex)(a:List Int)(n:Nat)(H:List Blk)(T:List (Option Nat))(m:Nat)(ev:Env)(U:St):Prop :=
 ev 0=.ptr F 0/\ev 2=.int .i64 ((m:Int)-1)/\m<=a.length/\(q9 (p.vars.drop m) (a.drop m)).2=true/\∃ H',U=⟨H',T⟩/\KpL [F,A] H H'/\FndR F A t p l (a.take m++(q9 (p.vars.drop m) (a.drop m)).1) false n H'
theorem qgv {F A t:Nat}{p:Problem}{l:List Ex}{a:List Int}{n:Nat}{H:List Blk}(T:List (Option Nat))(h:FndR F A t p l a false n H)(hl:a.length=p.vars.length)(hl2:a.length<=1000)(hok:okA p.vars a)(hw:∀ v∈p.vars,0<=v.width/\v.width<=28) :
 qg Tryz.prog GG 216 [.ptr F 0] ⟨H,T⟩ (AdvQ F A t p l a n H T):=by
 refine qg.k qe Tryz.func216 rfl (by kernel_rfl) ?_;have hF:=h.f;have hFl:=(qql.1 hF).1;by_cases ha:a=[]
 . subst ha;have hv:p.vars=[]:=qqA hl.symm;have hs:q9 p.vars []=([],true):=(by rw[hv];rfl);simp[-getElem?_pos,hF,V8];refine qM.gen (fun m ev U=>ev 0=.ptr F 0/\ev 2=.int .i64 (-1)/\U=⟨H,T⟩) 0 ⟨by simp,by simp;decide,rfl⟩ ?_;rintro m ev U R hR ⟨e0,e2,rfl⟩;simp[-getElem?_pos,e0,e2,hF];refine⟨rfl,rfl,⟨?_,fun h=>?_⟩,?_⟩
   . rw[hs];simp[hFl,V8]
   . rw[hs]at h;exact absurd rfl h
   . exact KpL.set (by simp)
 have hA:=h.r ha;have hne:=h.ne ha;have hAl:=(qql.1 hA).1;have hrow:∀ b:List Int,b.length=a.length->V8 A t b=.ms A 0 a.length 1:=fun b hb=>by
  unfold V8;rw[if_neg (by rintro rfl;exact ha (qqA hb.symm)),hb]
 rw[KH,hrow a rfl]at hF;simp[-getElem?_pos,hF];refine qM.gen (fun m ev U=>AdvI F A t p l a n H T m ev U) a.length ?_ ?_
 . refine⟨by simp,by simp;rw[wr (by omega) (by omega)],qqw _,?_,H,rfl,KpL.refl,?_⟩
   . rw[hl,qsz,<- hl,qsz];rfl
   . rw[qsz,hl,qsz,<- hl,qr0];show FndR F A t p l (a++[]) false n H;rw[qq5];exact h
 . rintro m ev U R hR ⟨e0,e2,hm,ho,H',rfl,hk,hfr⟩;have hF':=hfr.f;have hF'l:=(qql.1 hF').1;have hdl:(a.drop m).length=(p.vars.drop m).length:=(by simp[hl]);have hcl:(a.take m++(q9 (p.vars.drop m) (a.drop m)).1).length=a.length:=(by rw[qqr,qdJ hdl];simp;omega);rw[KH,hrow _ hcl]at hF';have hcn:a.take m++(q9 (p.vars.drop m) (a.drop m)).1≠[]:=fun e=>ha (qqA (by rw[<- hcl,e];rfl))
   have hA':=hfr.r hcn
   cases m with
   | zero=>
    have hneg:¬ (0:Int)<=((0:Nat):Int)-1:=(by omega);simp[-getElem?_pos,e0,e2,hF'];simp only[qrL,List.take_zero,qqJ]at ho hfr hcl hA';refine⟨rfl,rfl,⟨?_,fun _=>?_⟩,hk.trans (KpL.set (by simp))⟩
    . rw[qqp hF'l,KH,hrow _ hcl,ho]
    . rw[qqn (Ne.symm hne)];exact hA'
   | succ m=>
    have hma:m<a.length:=(by omega);obtain⟨x,hx⟩:∃ x,a[m]?=some x:=⟨_,qqo hma⟩;obtain⟨v,hv⟩:∃ v,p.vars[m]?=some v:=⟨_,qqo (by omega)⟩;have hst:=qou hl hv hx ho;have hpre:=qdI hl m;have hwv:=hw v (qqm hv);have hs1:=kQ hwv.1 hwv.2;have e2':ev 2=.int .i64 (m:Int):=(by rw[e2];congr 1;omega);have hw1:=wr (n:=(m:Int)-1) (by omega) (by omega);have hokx:v.mode≠0->0<=x/\x<(zZ v:Nat):=fun hm0=>by
     have:=qnk hok hv hx
     rwa[if_neg hm0]at this
    have hsz:zZ v<=2 ^ 28:=qqL (by omega) (by omega);have htk:a.take (m+1)=a.take m++[x]:=(by rw[qqT,hx];rfl);have hdm:(a.drop m).length=(p.vars.drop m).length:=(by simp[hl]);have hS:(a.take m).length+((q9 (p.vars.drop (m+1)) (a.drop (m+1))).1.length+1)=a.length:=by
     rw[htk]at hcl;simpa using hcl
    rw[htk]at hfr hcl hA';generalize (q9 (p.vars.drop (m+1)) (a.drop (m+1))).1=S at *;have hpl:(a.take m).length=m:=(by simp;omega);generalize hP:a.take m=P at *;simp only[qqV,qsq]at hfr hcl hA';have hen:∀ y,zB (P++y::S)=zB P++.int .i64 y::zB S:=fun y=>by simp[zB]
    have hepl:(zB P).length=m:=(by rw[za,hpl]);have hg:∀ y,(zB P++AV.int .i64 y::zB S)[m]?=some (.int .i64 y):=fun y=>by
     rw[qqt (by omega),hepl,qrB];rfl
    have hd:∀ y,(zB P++AV.int .i64 y::zB S).drop m=.int .i64 y::zB S:=fun y=>by
     rw[qsj (by omega),qq0 (by omega)];rfl
    have hst2:∀ y z,(zB P++AV.int .i64 y::zB S).set m (.int .i64 z)=zB P++.int .i64 z::zB S:=fun y z=>by
     rw[qrn _ _ (by omega),hepl,qrB];rfl
    have hlen2:∀ y,(zB P++AV.int .i64 y::zB S).length=a.length:=fun y=>by
     rw[qqr,qqC,za,za];exact hS
    rw[hen]at hA';have hAl':=(qql.1 hA').1;have hFset:∀ y,(H'.set A y)[F]?=some (.cells (KH p l (.ms A 0 a.length 1) false n)):=fun y=>by rw[qqn hne];exact hF'
    have hAset:∀ y,(H'.set A y)[A]?=some y:=fun y=>qqp hAl'
    have hml:m<p.vars.length:=(by omega);have hma1:m+1<=a.length:=hma;simp only[KH]at hF' hFset;by_cases hm0:v.mode=0
    . rw[if_pos hm0]at hst;simp[-getElem?_pos,e0,e2',hF',hv,hm0,hw1];refine hR m _ _ (by omega) ⟨by simp[e0],by simp,by omega,by rw[hst],H',rfl,hk,?_⟩;rw[hst,hP];exact hfr
    . have hx0:=hokx hm0;have hwx:=wr (n:=x+1) (by omega) (by omega);rw[if_neg hm0]at hst;have hwn:¬ v.width<0:=(by omega);have hszv:zZ v=2 ^ v.width.toNat:=rfl;rw[<- hszv]at hs1;by_cases hx1:x+1<(zZ v:Nat)
      . rw[if_pos hx1]at hst;have hpr:=hpre (by rw[hst]);rw[hst]at hpr;simp only at hpr;simp[-getElem?_pos,e0,e2',hF',hv,hm0,hw1,hA',hd,hst2,hlen2,hwx,hFset,hAset,hs1,hma,hma1,hwn,IntKind.bits,hx1];have hL:(P++(x+1)::S).length=a.length:=(by rw[<- za,hen];exact hlen2 _);refine⟨rfl,rfl,⟨?_,fun _=>?_⟩,hk.trans (KpL.set (by simp))⟩
        . rw[hpr,KH,hrow _ hL];exact hFset _
        . rw[hpr,hen];exact hAset _
      . rw[if_neg hx1]at hst;simp[-getElem?_pos,e0,e2',hF',hv,hm0,hw1,hA',hd,hst2,hlen2,hwx,hFset,hAset,hs1,hma,hma1,hwn,IntKind.bits,hx1];have hL:(P++0::S).length=a.length:=(by rw[<- za,hen];exact hlen2 _);refine hR m _ _ (by omega) ⟨by simp[e0],by simp,by omega,by rw[hst],_,rfl,hk.trans (KpL.set (by simp)),?_⟩;rw[hst,hP];refine⟨?_,fun _=>?_⟩
        . rw[KH,hrow _ hL,qqn hne];exact hF'
        . rw[hen];exact qqp hAl'
def vg (l:List Var)(a:List Int):List Signal:=(l.zip a).map fun q=>⟨q.1.name,q.2⟩
theorem ZY (l:List Var)(a:List Int):kr l a=if a.length=l.length then vg l a else []:=rfl
theorem Qq {l:List Var}{a:List Int}{i:Nat}{v:Var}{x:Int}(h:l[i]?=some v)(h':a[i]?=some x):(vg l a)[i]?=some ⟨v.name,x⟩:=by
 unfold vg;rw[qqI,(qrq (z:=(v,x))).2 ⟨h,h'⟩];rfl
theorem yB {l:List Var}{a:List Int}(h:a.length=l.length):(vg l a).length=l.length:=by simp[vg,h]
theorem qme {l:List Var}{a:List Int}:(kr l a).length<=l.length:=by
 rw[ZY];split
 . rename_i h;rw[yB h];exact qqw _
 . simp
def EnvQ (p:Problem)(a:List Int)(H:List Blk)(T:List (Option Nat))(r:AV)(U':St):Prop :=
 U'.T=T/\KpL [] H U'.H/\∃ b,jt b 2 qJ U'.H r (kr p.vars a)/\H.length<=b
theorem qiV {vs:List Var}{a:List Int}{i:Nat}{v:Var}{x:Int}(h:vs[i]?=some v)(h':a[i]?=some x):(vg vs a).take (i+1)=(vg vs a).take i++[⟨v.name,x⟩]:=by
 rw[qqT,Qq h h'];rfl
def qd7:List (Nat×Sch×List Nat):=[(7,.step 0 [10,9] (.step 1 [10,9,8,7,2] (.step 2 [10,9,8,7] (.step 3 [10,9,8,7,6,5] (.step 4 [10,9,8,7,6,5] (.step 5 [10,9,8,7,6] (.step 6 [10,9,8,7] (.step 7 [10,9,8] (.step 8 [10,9] (.step 9 [10] (.step 10 [] (.done))))))))))),[])]
theorem qpR {A t:Nat}(p:Problem)(a:List Int)(hlen:a.length=p.vars.length)(hl:p.vars.length<=1000){H:List Blk}(T:List (Option Nat))(hr:a≠[]->H[A]?=some (.cells (zB a))) :
 qg Tryz.prog GG 215 [.agg (qL p),V8 A t a] ⟨H,T⟩ (EnvQ p a H T):=by
 refine qg.kO ⟨true,qd7,[],[]⟩ qe Tryz.func215 rfl (by kernel_rfl) ?_;by_cases ha:a=[]
 . subst ha;have hv:p.vars=[]:=qqA hlen.symm;have hen:kr p.vars []=[]:=(by rw[hv];rfl);have hQ:∀ u,EnvQ p [] H T (.sl 0 [] .nil) ⟨H++u,T⟩:=fun u=>⟨rfl,KpL.app,H.length,.inl ⟨hen,rfl⟩,qqw _⟩
   simp[-getElem?_pos,V8,hv];refine qM.gen (fun n ev U=>ev 5=.sl 0 [] .nil/\ev 16=.int .i64 0/\ev 17=.int .i64 0/\∃ u,U=⟨H++u,T⟩) 0 ⟨by simp,by simp,by simp,_,rfl⟩ ?_;rintro n ev U R hR ⟨e5,e16,e17,u,rfl⟩;simp[-getElem?_pos,e5,e16,e17];exact hQ u
 . have hrow:V8 A t a=.ms A 0 a.length 1:=if_neg ha;have hA:=hr ha;have hE:=yB hlen;have hen:kr p.vars a=vg p.vars a:=(by rw[ZY,if_pos hlen]);rw[hrow];have hlen':(a.length:Int)=p.vars.length:=(by omega);simp[-getElem?_pos,hlen',hlen];refine qM.listR p.vars (fun d ev U=>ev 1=.ms A 0 p.vars.length 1/\ev 15=.sl 4 (p.vars.map qp) .none/\ev 16=.int .i64 p.vars.length/\ev 17=.int .i64 d.length /\
    ∃ H' b,U=⟨H',T⟩/\KpL [] H H'/\H.length<=b/\jt b 2 qJ H' (ev 5) ((vg p.vars a).take d.length)) ?_ ?_ ?_
   . exact⟨by simp[hlen],by simp,by simp,by simp,_,H.length,rfl,KpL.app,qqw _,.inl ⟨by simp,by simp⟩⟩
   . rintro d v rest ev U R hR hd hx hlt ⟨e1,e15,e16,e17,H',b,rfl,hk,hb,ho⟩;have hw:=wr (n:=(d.length:Int)+1) (by omega) (by omega);have hda:d.length<a.length:=(by omega);obtain⟨x,hxa⟩:∃ x,a[d.length]?=some x:=⟨_,qqo hda⟩;have hA':H'[A]?=some (.cells (zB a)):=hk.2 _ _ hA (by simp);have hto:(zB a)[d.length]?=some (.int .i64 x):=(by rw[Kg,hxa];rfl);have hdr:(zB a).drop d.length=.int .i64 x::(zB a).drop (d.length+1):=by
      obtain⟨h1,h2⟩:=qql.1 hto;rw[qqK h1,h2]
     have hl1:d.length+1<=(zB a).length:=(by rw[za];omega);have hl2':d.length+1<=p.vars.length:=(by omega);have ho':jt b 2 qJ (H'++[.cells (qp v)]) (ev 5) ((vg p.vars a).take d.length):=ho.keep fun y _ h=>qb h _
     obtain⟨v',b',H2,hY,ho2,hb2,hk2,hl2⟩:=ho'.appendK (P:=Tryz.prog) (G:=jj GG) (o:=⟨true,qd7,[],[]⟩) (T:=T) (m:=[⟨v.name,x⟩]) (tok:=.tight) D80 rfl D111 rfl (by omega) rfl (by decide) (fun x=>rfl) (by simp;omega);have hkH2:KpL [] H H2:=⟨by have:=hk.1;simp at hl2;omega,fun k y hk1 _=>hk2 _ _ (qb (hk.2 k y hk1 (by simp)) _) (by
      have:=(qql.1 hk1).1;right;omega)⟩
     simp only[qqx,qqQ,qJ,qp]at hY ho';generalize hv5:ev 5=v5 at *;simp[-getElem?_pos,e1,e15,e16,e17,hlt,hx,hlen];rw[qH rfl];simp[-getElem?_pos,qP,hv5,hY,e1,e15,e16,e17,hlt,hx,hda,qb hA',hto,hdr,hl1,hl2',qX,zu,qy,qh,qw,hw,hlen];refine hR _ _ ⟨by simp[e1],by simp[e15],by simp[e16],by simp,H2,b',rfl,hkH2,?_,?_⟩
     . rcases hb2 with rfl|rfl
       . exact hb
       . have:=hk.1;simp;omega
     . have:=qiV hx hxa;simp only[qqr,qqO];rw[this];simpa using ho2
   . rintro ev U ⟨e1,e15,e16,e17,H',b,rfl,hk,hb,ho⟩;simp[-getElem?_pos,e16,e17];rw[qqu (by rw[hE];exact qqw _)]at ho;exact⟨rfl,hk,b,by rw[hen];exact ho,hb⟩
def qj3 (b:Nat)(H:List Blk)(v:AV)(a:List Int):Prop:=(a=[]/\∃ sz tok,v=.sl sz [] tok)\/(a≠[]/\v=.ms b 0 a.length 1/\H[b]?=some (.cells (zB a)))
def ClnQ (a:List Int)(H:List Blk)(T:List (Option Nat))(r:AV)(U':St):Prop:=U'.T=T/\KpL [] H U'.H/\∃ b,qj3 b U'.H r a/\H.length<=b
theorem qmw {A t:Nat}(a:List Int)(hl:a.length<=1000){H:List Blk}(T:List (Option Nat))(hr:a≠[]->H[A]?=some (.cells (zB a))) :
 qg Tryz.prog GG 96 [V8 A t a] ⟨H,T⟩ (ClnQ a H T):=by
 refine qg.kO ⟨true,[],[],[]⟩ qe Tryz.func96 rfl (by kernel_rfl) ?_;by_cases ha:a=[]
 . subst ha;simp[-getElem?_pos,V8,zs,z4,qD,qS,Ku,zg];exact⟨⟨rfl,KpL.refl,H.length,.inl ⟨rfl,_,_,rfl⟩,qqw _⟩,⟨rfl,KpL.refl,H.length,.inl ⟨rfl,_,_,rfl⟩,qqw _⟩⟩
 . have hrow:V8 A t a=.ms A 0 a.length 1:=if_neg ha;have hA:=hr ha;have h1:(zB a).take a.length=zB a:=qqu (by rw[za];exact qqw _);have h2:a.length<=549755813888:=(by omega);rw[hrow];simp[-getElem?_pos,hA,zs,z4,qS,Ku,za,h1,h2,ha];exact⟨rfl,KpL.app,H.length,.inr ⟨ha,rfl,by simp⟩,qqw _⟩
theorem YJ (n:Int):Pure Tryz.prog GG 218 [.int .i64 n] (.agg (qu (jq n))):=by
 refine Pure.k qe Tryz.func218 rfl (by kernel_rfl) ?_;simp[-getElem?_pos,jq,qc,qX,zu,qy]
theorem rg_set {L:List Rg}{r:Rg}{n:Int}:((L++[r]).flatMap yK).set (L.length*2+1) (.int .i64 n)=(L++[(r.1,n)]).flatMap yK:=by
 rw[List.flatMap_append,List.flatMap_append,qrn _ _ (by rw[jg (sz:=2) (fun x=>by simp)];omega),jg (sz:=2) (fun x=>by simp)];have:L.length*2+1-L.length*2=1:=by omega
 rw[this];simp
theorem qmR (out:List Rg)(n:Int):(vA out n).length<=out.length+1:=by
 unfold vA
 cases h:out.getLast? with
 | none=>simp
 | some r=>
  simp only;split<;>simp
theorem qbv:∀ (l:List Int) (out:List Rg),(l.foldl vA out).length<=out.length+l.length
 | [],out=>by simp
 | n::l,out=>by
  rw[qq7];have:=qbv l (vA out n);have:=qmR out n;simp;omega
theorem qhA (l:List Int)(hl:l.length<=1000)(hn:∀ n∈l,0<=n/\n<=65535):Pure Tryz.prog GG 171 [.sl 1 (l.map qo) .none] (.sl 2 ((kv l).map yK) .none):=by
 refine Pure.kO ⟨true,[],[],[]⟩ true qe Tryz.func171 rfl (by kernel_rfl) ?_;have hr:kv l=l.foldl vA []:=rfl;generalize kv l=O at hr;simp[-getElem?_pos];refine qM.listR l (fun d ev U=>ev 7=.sl 1 (l.map qo) .none/\ev 8=.int .i64 l.length/\ev 9=.int .i64 d.length/\∃ H b,U=⟨H,[]⟩/\jt b 2 yK H (ev 3) (d.foldl vA [])) ?_ ?_ ?_
 . exact⟨by simp,by simp,by simp,[],0,by simp,.inl ⟨rfl,by simp⟩⟩
 . rintro d n rest ev U R hR hd hx hlt ⟨e7,e8,e9,H,b,rfl,ho⟩;have hw:=wr (n:=(d.length:Int)+1) (by omega) (by omega);have hlen:(d.foldl vA []).length<=d.length:=(by have:=qbv d [];simpa using this);have hnn:=hn n (qqm hx);have hwn:=wr (n:=n-1) (by omega) (by omega);have hnext:(d++[n]).foldl vA []=vA (d.foldl vA []) n:=(by simp);generalize d.foldl vA []=L at *;have hgo:∀ (ev':Env) H' b',ev' 7=.sl 1 (l.map qo) .none->ev' 8=.int .i64 l.length->ev' 9=.int .i64 (d.length+1:Nat)->jt b' 2 yK H' (ev' 3) (vA L n)->R ev' ⟨H',[]⟩:=fun ev' H' b' a1 a2 a3 a4=>
    hR _ _ ⟨a1,a2,by simpa using a3,H',b',rfl,by rw[hnext];exact a4⟩
   have hnew:∀ (ev':Env),ev' 3=ev 3->True:=fun _ _=>trivial
   generalize hv3:ev 3=v3 at *
   cases hg:L.getLast? with
   | none=>
    have hL:L=[]:=qsX.1 hg;have hadd:vA L n=[(n,n)]:=(by subst hL;rfl);obtain⟨v',b',H2,hY,ho2,_,_,_⟩:=ho.appendK (P:=Tryz.prog) (G:=jj GG) (o:=⟨true,[],[],[]⟩) (T:=[]) (m:=[(n,n)]) (tok:=.tight) D200 rfl D238 rfl (by omega) rfl (by decide) (fun x=>by simp) (by simp;omega);subst hL;rcases ho with ⟨_,rfl⟩|⟨h,_⟩
    case inr=>exact absurd rfl h
    have hm1:IntKind.i64.wrap (-1) = -1:=(by decide);simp only[qqx,qqQ,yK]at hY;simp[-getElem?_pos,hv3,hY,e7,e8,e9,hlt,hx,hw,hm1,qX,zu,qy,qh,qw];exact hgo _ _ _ (by simp[e7]) (by simp[e8]) (by simp) (by rw[hadd];simpa using ho2)
   | some r=>
    obtain⟨L',rfl⟩:=qsY.1 hg;have hLne:L'++[r]≠[]:=(by simp);obtain⟨hv,hb⟩:=ho.at hLne;have hll:(L'++[r]).length=L'.length+1:=(by simp);have hlw:=wr (n:=(L'.length:Int)) (by omega) (by omega);have hf0:(L'.flatMap yK).length=L'.length*2:=jg (sz:=2) (fun x=>by simp) L';have hfe:(L'++[r]).flatMap yK=L'.flatMap yK++[.int .i64 r.1,.int .i64 r.2]:=(by rw[List.flatMap_append];simp);have hfl:((L'++[r]).flatMap yK).drop (L'.length*2+1)=[.int .i64 r.2]:=by
     rw[hfe,qrZ,hf0,qq0 (by omega),show L'.length*2+1-L'.length*2=1 by omega];rfl
    have hln:((L'++[r]).flatMap yK).length=L'.length*2+2:=(by rw[hfe,qqr,hf0];rfl);have hsetl:=rg_set (L:=L') (r:=r) (n:=n);have hbl:=(qql.1 hb).1;rw[hll]at hv;subst hv;have hlt2:(L'.length:Int)<L'.length+1:=(by omega);have hle2:L'.length*2+1+1<=L'.length*2+2:=(by omega);by_cases hr2:r.2=n-1
    . have hadd:vA (L'++[r]) n=L'++[(r.1,n)]:=(by unfold vA;rw[hg];simp[hr2]);generalize (L'++[r]).flatMap yK=fl at *;simp[-getElem?_pos,hv3,hb,hlt2,hfl,hln,hsetl,hlw,hwn,hr2,hw,e7,e8,e9,hlt,hx];exact hgo _ _ b (by simp[e7]) (by simp[e8]) (by simp) (by
       rw[hadd];exact .inr ⟨by simp,by simp[hv3],by rw[qqp hbl];simp⟩)
    . have hadd:vA (L'++[r]) n=L'++[r]++[(n,n)]:=(by unfold vA;rw[hg];simp[hr2]);obtain⟨v',b',H2,hY,ho2,_,_,_⟩:=ho.appendK (P:=Tryz.prog) (G:=jj GG) (o:=⟨true,[],[],[]⟩) (T:=[]) (m:=[(n,n)]) (tok:=.tight) D200 rfl D238 rfl (by omega) rfl (by decide) (fun x=>by simp) (by simp at hlen ⊢;omega);simp only[qqx,qqQ,yK]at hY;generalize (L'++[r]).flatMap yK=fl at *;simp[-getElem?_pos,hv3,hb,hlt2,hfl,hln,hsetl,hlw,hwn,hr2,hw,e7,e8,e9,hlt,hx,hY,qX,zu,qy,qh,qw];exact hgo _ _ b' (by simp[e7]) (by simp[e8]) (by simp) (by rw[hadd];simpa using ho2)
 . rintro ev U ⟨e7,e8,e9,H,b,rfl,ho⟩;rw[<- hr]at ho;simp[-getElem?_pos,e8,e9];exact⟨ho.frzNo (fun x=>by simp) (fun x=>by simp) (fun x=>by simp) 7,ho.frz (fun x=>by simp) (fun x=>by simp) (fun x=>by simp) 7⟩
def qkT (s:Str):List AV:=[.int .i64 2,.int .i64 0,.str s,.sl 0 [] .nil]
def Qw (d:List Rg):List Ex:=d.flatMap fun r=>[jq r.1,jq r.2]
def qbQ (s:Str)(d:List Rg):AV:=match d with
 | []=>.sl 4 [qkT s] .tight
 | r::q=>.sl 4 (qkT s::(Qw (r::q)).map qu) (.chain 0 (2*(q.length+1)))
def qjI (d:List Rg):List (Option Nat):=match d with
 | []=>[]
 | _::q=>[some (2*(q.length+1))]
theorem qmM (s:Str)(d:List Rg)(r:Rg)(hl:d.length<=1000)(H:List Blk):qD (Dof Tryz.prog) ⟨H,qjI d⟩ 23 (qbQ s d) (.sl 4 [qu (jq r.1),qu (jq r.2)] .tight)=some (qbQ s (d++[r]),⟨H,qjI (d++[r])⟩):=by
 cases d with
 | nil=>simp[qD,qbQ,qjI,zg,Qw]
 | cons a q=>
  have h1:((Qw (a::q)).map qu).length=2*(q.length+1):=by rw[qqZ,Qw,Vg];simp
  have h2:((Qw (a::q)).map qu).length+1+2<=549755813888:=by rw[h1];simp at hl;omega
  have h3:Qw (a::q++[r])=Qw (a::q)++[jq r.1,jq r.2]:=by simp[Qw]
  have h4:2*(q.length+1)+2=2*((q++[r]).length+1):=by simp;omega
  show qD (Dof Tryz.prog) ⟨H,[some (2*(q.length+1))]⟩ 23 (.sl 4 (qkT s::(Qw (a::q)).map qu) (.chain 0 (2*(q.length+1)))) _=some (.sl 4 (qkT s::(Qw (a::q++[r])).map qu) (.chain 0 (2*((q++[r]).length+1))),⟨H,[some (2*((q++[r]).length+1))]⟩);rw[h3,<- h4];generalize (Qw (a::q))=N at h2 ⊢;simp only[qqZ]at h2;simp[qD,zg,h2]
theorem qjW:∀ L:List (List AV),jZ L L
 | []=>by simp
 | a::r=>by simp
theorem qbi (s:Str)(l:List Rg)(hl:l.length<=1000):Pure Tryz.prog GG 219 [.str s,.sl 2 (l.map yK) .none] (.agg (qu (wE s l))):=by
 refine Pure.k qe Tryz.func219 rfl (by kernel_rfl) ?_;simp[-getElem?_pos,qX,zu,qy,qh,qw];refine qM.list l (fun d ev U=>ev 4=.ptr 0 0/\ev 5=qbQ s d/\ev 11=.sl 2 (l.map yK) .none/\ev 12=.int .i64 l.length/\ev 13=.int .i64 d.length/\∃ t,U=⟨.cells [.int .i64 0,.int .i64 0,.str [],.sl 0 [] .nil]::t,qjI d⟩) ?_ ?_ ?_
 . exact⟨by simp,by simp[qbQ,qkT],by simp,by simp,by simp,[],by simp[qjI]⟩
 . rintro d r rest ev U hd hx hlt ⟨e4,e5,e11,e12,e13,t,rfl⟩;have hw:=wr (n:=(d.length:Int)+1) (by omega) (by omega);have happ:=fun H=>qmM s d r (by omega) H
   generalize qbQ s d=v5 at *;generalize qbQ s (d++[r])=v6 at *;have hn:∀ n,qu (jq n)=[.int .i64 1,.int .i64 n,.str [],.sl 4 [] .none]:=fun n=>by simp[qc,jq]
   simp only[hn]at happ;have h1:=YJ r.1;have h2:=YJ r.2;simp only[hn]at h1 h2;simp[-getElem?_pos,e5,e11,e12,e13,hlt,hx];refine qd.call h1 (by simp) ?_;simp[-getElem?_pos];refine qd.call h2 (by simp) ?_;simp[-getElem?_pos,qh,qw,happ,hw,e4,e11,e12,e13]
 . rintro ev U ⟨e4,e5,e11,e12,e13,t,rfl⟩;obtain⟨R,tok,hv,hR,hnr⟩:∃ R tok,qbQ s l=.sl 4 R tok/\jZ R ((Qu s::Qw l).map qu)/\qT R=true:=by
    have hx:zj (qkT s) (qu (Qu s)):=(by rw[qc];simp[qkT,Qu,zj,Leq]);have ha:(qu (Qu s)).all AV.atom=true:=(by rw[qc];simp[AV.atom])
    cases l with
    | nil=>exact⟨_,_,rfl,by simp only[Qw,jZ,qqx,qsK,qqQ];exact⟨.inr ⟨hx,ha⟩,trivial⟩,by simp[qkT]⟩
    | cons a q=>
     refine⟨_,_,rfl,by simp only[jZ,qqx];exact⟨.inr ⟨hx,ha⟩,qjW _⟩,?_⟩;have:=nrEs (Qw (a::q));simp only[qT,qqq];exact⟨by simp[qkT],this⟩
   rw[hv]at e5;have hE:qu (wE s l)=[.int .i64 23,.int .i64 0,.str [],.sl 4 ((Qu s::Qw l).map qu) .none]:=(by rw[qc];rfl);rw[hE];generalize (Qu s::Qw l).map qu=R' at hR;simp[-getElem?_pos,e4,e5,e12,e13,qX,zu,qy];cases tok<;>exact⟨by simpa using hnr,by simp[Leq,hR]⟩
theorem zi (e:Ex):(qu e).length=4:=by rw[qc];rfl
theorem js (e:Ex):(qu e).all AV.atom=true:=by
 rw[qc];simp
theorem yD (e:Ex):qO (.agg (qu e))=some (qu e):=by rw[qc];simp[qO,AV.atom]
theorem Kr (k:IntKind)(n:Int):qO (.int k n)=some [.int k n]:=rfl
theorem VZ (t:List UInt8):qO (.str t)=some [.str t]:=rfl
theorem Qa (sz:Nat)(rows:List (List AV))(tok:Tok):qO (.sl sz rows tok)=some [.sl sz rows tok]:=rfl
theorem qdp {cs:List AV}(h:cs.all AV.atom=true):qO (.agg cs)=some cs:=by simp only[qO,h,if_true]
theorem putAt_all:∀ (c new:List AV),c.length=new.length->zp c 0 new=new:=by
 have gen:∀ (new pre c:List AV),c.length=new.length->zp (pre++c) pre.length new=pre++new:=by
  intro new
  induction new with
  | nil=>intro pre c h;have:c=[]:=qsB.1 h;subst this;simp[zp]
  | cons v r ih=>
   intro pre c h
   cases c with
   | nil=>simp at h
   | cons x c=>
    have h':c.length=r.length:=(by simpa using h);have:=ih (pre++[v]) c h';simp only[qqV,qsq,qqr,qqO]at this;rw[zp];have e:(pre++x::c).set pre.length v=pre++v::c:=(by simp);rw[e];exact this
 intro c new h;simpa using gen new [] c h
structure Near (c:List AV)(Y:Ex):Prop where
 len:c.length=4
 atoms:c.all AV.atom=true
 leq:zj c (qu Y)
 nr:qq c=true
theorem wo {a b:List AV}{r s:List (List AV)}(h1:a=b\/(zj a b/\b.all AV.atom=true))(h2:jZ r s):jZ (a::r) (b::s):=by
 simp only[jZ];exact⟨h1,h2⟩
theorem Vr:jZ [] []:=by simp only[jZ]
theorem Near.row {c:List AV}{Y:Ex}(h:Near c Y):c=qu Y\/(zj c (qu Y)/\(qu Y).all AV.atom=true):=.inr ⟨h.leq,js Y⟩
theorem qlu (Y:Ex):Near (qu Y) Y:=⟨zi Y,js Y,zj.refl _,nrE' Y⟩
theorem qpj {o n:Int}{s:Str}{rows:List (List AV)}{args:List Ex}(h:jZ rows (args.map qu))(hn:qT rows=true):Near [.int .i64 o,.int .i64 n,.str s,.sl 4 rows .tight] (.mk o n s args):=by
 refine⟨rfl,rfl,?_,?_⟩
 . rw[qc];simp only[zj,Leq,and_true,true_and,Ex.op_mk,Ex.n_mk,Ex.name_mk,Ex.args_mk];exact .inr ⟨h,.inl trivial⟩
 . simp[hn]
theorem Near.four {c:List AV}{Y:Ex}(h:Near c Y):∃ c0 c1 c2 c3,c=[c0,c1,c2,c3]:=by
 have:=h.len
 match c,this with
 | [c0,c1,c2,c3],_=>exact⟨c0,c1,c2,c3,rfl⟩
theorem Near.fin {c0 c1 c2 c3:AV}{Y:Ex}(h:Near [c0,c1,c2,c3] Y)(H:List Blk):kg H c0=c0/\kg H c1=c1/\kg H c2=c2/\kg H c3=c3:=by
 have:=h.nr;simp only[qq,qqq,and_true]at this;exact⟨Qo this.1,Qo this.2.1,Qo this.2.2.1,Qo this.2.2.2⟩
def qk8:List (Nat×Sch×List Nat):=[(9,.step 0 [8,7,6] (.step 1 [8,7,6,5] (.step 2 [8,7,6,5,4] (.step 3 [8,7,6,5,4] (.step 4 [8,7,6,5] (.step 5 [8,7,6] (.step 6 [8,7] (.step 7 [8] (.step 8 [] (.done))))))))),[])]
theorem min16 (k:Nat):Qx (.int .i64 16) (.int .i64 (k:Int))=some (.int .i64 ((min 16 k:Nat):Int)):=by
 simp only[Qx];congr 2;split<;>omega
@[simp]theorem nrRg (l:List Rg):qT (l.map yK)=true:=zq (fun x=>by simp) l
theorem sl_lo {r:List Rg}{M:Nat}(h:M<=r.length):zt (.sl 2 (r.map yK) .none) none (some (.int .i64 M)) none=some (.sl 2 ((r.take M).map yK) .none):=by
 simp[zt,zS,yY,z5,h]
theorem sl_hi {r:List Rg}{M:Nat}(h:M<=r.length):zt (.sl 2 (r.map yK) .none) (some (.int .i64 M)) none none=some (.sl 2 ((r.drop M).map yK) .none):=by
 have h2:(r.map yK).take r.length=r.map yK:=qqu (by simp);simp[zt,zS,yY,z5,h,h2]
theorem qms {r:List Rg}:r.take (min 16 r.length)=r.take 16/\r.drop (min 16 r.length)=r.drop 16:=by
 by_cases h:16<=r.length
 . rw[qsr h];exact⟨rfl,rfl⟩
 . rw[Nat.min_eq_right (by omega),qqu (by omega),qqu (by omega),qq0 (by omega),qq0 (by omega)];exact⟨rfl,rfl⟩
theorem qkn (s:Str)(l:List Rg)(hl:l.length<=1000):Pure Tryz.prog GG 170 [.str s,.sl 2 (l.map yK) .none] (.agg (qu (ye s l))):=by
 refine Pure.kO ⟨false,qk8,[],[]⟩ false qe Tryz.func170 rfl (by kernel_rfl) ?_;by_cases h0:l=[]
 . subst h0;have hu:ye s []=jq 0:=rfl;have hn:=YJ 0;rw[hu];simp only[jq,qc,Ex.op_mk,Ex.n_mk,Ex.name_mk,Ex.args_mk,qqQ]at hn ⊢;simp[-getElem?_pos];refine qd.call hn (by simp) ?_;simp[-getElem?_pos]
 . have hpos:=qqB.2 h0;have hne:¬ (l.length:Int)=0:=(by omega);have hm16:=min16 l.length;have hml:min 16 l.length<=l.length:=qtH _ _;have hl1:=sl_lo (r:=l) hml;have hl2:=sl_hi (r:=l) hml;rw[qms.1]at hl1;rw[qms.2]at hl2;have hi:=qbi s (l.take 16) (by simp;omega);have hu:ye s l=v8 s (wE s (l.take 16)) (z6 16 l.length (l.drop 16)):=if_neg h0;rw[hu];generalize hM:min 16 l.length=M at *;have hQl:(l.drop 16).length<=l.length:=(by simp);have hQ16:(l.drop 16).length<=1000:=(by omega);have near0:=qlu (wE s (l.take 16));generalize wE s (l.take 16)=E0 at *;generalize l.take 16=P at *;generalize l.drop 16=Q0 at *;generalize hR:v8 s E0 (z6 16 l.length Q0)=R0 at *;have hE0:=qc E0;simp only[hE0]at hi near0;simp[-getElem?_pos,hne,h0,hm16,hl1,hl2];refine qd.call hi (by simp) ?_;simp[-getElem?_pos,hl1,hl2];refine qM.gen (fun n ev U=>∃ (Q:List Rg) (k:Nat) (c:List AV) (out:Ex) (t:List Blk),n=Q.length/\Q.length<=k/\Q.length<=1000/\ev 0=.str s/\ev 1=.sl 2 (Q.map yK) .none/\ev 4=.ptr 0 0/\ev 6=.ptr 1 0 /\
    U=⟨.cells [.int .i64 0,.int .i64 0,.str [],.sl 0 [] .nil]::.cells c::t,[]⟩/\Near c out/\R0=v8 s out (z6 16 k Q)) Q0.length ?_ ?_
   . exact⟨Q0,l.length,_,E0,[],rfl,hQl,hQ16,by simp,by simp,by simp,by simp,by simp,near0,hR.symm⟩
   . rintro n ev U R hRR ⟨Q,k,c,out,t,rfl,hk,hq,e0,e1,e4,e6,rfl,hnear,hres⟩;obtain⟨c0,c1,c2,c3,rfl⟩:=hnear.four;have hac:=qdp hnear.atoms;have f0:=fun H=>(hnear.fin H).1
     have f1:=fun H=>(hnear.fin H).2.1
     have f2:=fun H=>(hnear.fin H).2.2.1
     have f3:=fun H=>(hnear.fin H).2.2.2
     have hnr:=hnear.nr;have hleq:=hnear.leq;by_cases hQ:Q=[]
     . subst hQ;have hp:z6 16 k ([]:List Rg)=[]:=(by cases k<;>simp[z6]);rw[hp]at hres;have hres:R0=out:=hres;rw[hres];simp[-getElem?_pos,-qO,-fin,-kg,-QS,hac,f0,f1,f2,f3,e0,e1,e4,e6];simp only[qq,qqq,and_true]at hnr;exact⟨hnr,hleq⟩
     . have hQp:=qqB.2 hQ;have hQp':(0:Int)<Q.length:=(by omega);have hm16:=min16 Q.length;have hml:min 16 Q.length<=Q.length:=qtH _ _;have hl1:=sl_lo (r:=Q) hml;have hl2:=sl_hi (r:=Q) hml;rw[qms.1]at hl1;rw[qms.2]at hl2;have hi:=qbi s (Q.take 16) (by simp;omega);generalize min 16 Q.length=M at *;obtain⟨k,rfl⟩:∃ k',k=k'+1:=⟨k-1,by omega⟩;rw[z6,if_neg hQ]at hres;have hres:R0=v8 s (orE out (wE s (Q.take 16))) (z6 16 k (Q.drop 16)):=hres;have hdl:(Q.drop 16).length=Q.length-16:=(by simp);generalize Q.take 16=P at *;generalize Q.drop 16=Q' at *;simp[-getElem?_pos,e0,e1,e4,e6,hQ,hQp',hm16];rw[qH rfl];simp[-getElem?_pos,-qO,hac,qP,e0,e1,e4,e6,hl1,hl2];intro _;have ha2:=yD (wE s P);have hnr2:=nrE (wE s P);have hl4:=zi (wE s P);have nn:Near [.int .i64 20,.int .i64 0,.str [],.sl 4 [[c0,c1,c2,c3],qu (wE s P)] .tight] (orE out (wE s P)) :=
        qpj (wo hnear.row (wo (.inl rfl) Vr)) (by simp only[qT,qr1,qqq];exact⟨hnear.nr,hnr2⟩)
       generalize qu (wE s P)=W at *;generalize orE out (wE s P)=O2 at *;refine qd.call hi (by simp) ?_;simp[-getElem?_pos,-qO,hac,ha2,hl4,Kr,VZ,Qa,qP,e0,e1,e4,e6,hl1,hl2,qX,zu,qy,zp,qh,qw];exact hRR Q'.length _ _ (by omega) ⟨Q',k,_,O2,t,rfl,by omega,by omega,by simp[e0],by simp,by simp[e4],by simp[e6],rfl,nn,hres⟩
theorem qeJ:∀ (l:List Ex) (i:Nat) (a:Ex),l[i]?=some a->((l.flatMap qu).drop (i*4)).take 4=qu a/\i*4+4<=(l.flatMap qu).length
 | [],i,a,h=>by simp at h
 | x::r,0,a,h=>by
  simp at h;subst h;rw[qqG,qrT,qrL,qrf (by rw[zi];omega),qqu (by rw[zi];omega),qqr,zi];exact⟨rfl,by omega⟩
 | x::r,i+1,a,h=>by
  have ih:=qeJ r i a (by simpa using h);rw[qqG,qrZ,zi,qq0 (by rw[zi];omega),qqJ,show (i+1)*4-4=i*4 by omega,qqr,zi];exact⟨ih.1,by omega⟩
theorem qiK:∀ (l:List Ex) (i:Nat) (a:Ex),l[i]?=some a->zp (l.flatMap qu) (i*4) (qu a)=l.flatMap qu:=fun l i a h=>by
 have hi:=(qql.1 h).1;rw[Qg (sz:=4) zi l i a hi];have:l.set i a=l:=by
  obtain⟨_,rfl⟩:=qql.1 h;exact List.set_getElem_self hi
 rw[this]
theorem qd1 {e a:Ex}(h:a∈e.args):(pre a).length<=(pre e).length:=by
 rw[jk e,qqC];have:∀ l:List Ex,a∈l->(pre a).length<=(w9 l).length:=by
  intro l
  induction l with
  | nil=>intro h;cases h
  | cons x r ih=>
   intro h;rw[yG,qqr];rcases qqM.1 h with rfl|h
   . omega
   . have:=ih h;omega
 have:=this _ h;omega
theorem qe0 (e:Ex):e.args.length<=(pre e).length:=by
 rw[jk e,qqC];have:∀ l:List Ex,l.length<=(w9 l).length:=by
  intro l
  induction l with
  | nil=>simp
  | cons x r ih=>rw[yG,qqr,jk x];simp;omega
 have:=this e.args;omega
theorem qjb:∀ e,(pre e).length<=100000->Pure Tryz.prog GG 58 [.agg (qu e)] (.agg (qu e)):=by
 refine Ex.ind fun e ih hs=>?_
 have hal:=qe0 e;refine Pure.kO o0 true qe Tryz.func58 rfl (by kernel_rfl) ?_;have hE:=qc e;by_cases h0:e.args=[]
 . rw[h0]at hE;rw[hE];simp[-getElem?_pos,qA,yw,Wv];refine qM.gen (fun n ev U=>ev 1=.ptr 0 0/\ev 2=.ptr 1 0/\ev 3=.sl 4 [] (.chain 0 0)/\ev 14=.int .i64 0/\ev 15=.int .i64 0/\∃ T,U=⟨[.cells [.int .i64 e.op,.int .i64 e.n,.str e.name,.sl 4 [] .none],.cells [.int .i64 0,.int .i64 0,.str [],.sl 0 [] .nil]],T⟩) 0 ?_ ?_
   . exact⟨by simp,by simp,by simp,by simp,by simp,_,rfl⟩
   . rintro n ev U R hR ⟨e1,e2,e3,e14,e15,T,rfl⟩;simp[-getElem?_pos,e1,e2,e3,e14,e15];have hfc:∀ H,frz H 7 (.sl 4 [] (.chain 0 0))=.sl 4 [] .none:=fun H=>by rw[frz];simp[qF]
     rw[frz];simp[qF,qq,wQ,qcS,hfc,Leq,zj]
 . have hpos:=qqB.2 h0;have hne:¬ (e.args.length:Int)=0:=(by omega);have hb:e.args.length<=549755813888:=(by omega);have hbI:(e.args.length:Int)<=549755813888:=(by omega);have hfl:(e.args.map qu).flatten=e.args.flatMap qu:=(by rw[qr5]);have hlenf:(e.args.flatMap qu).length=e.args.length*4:=jg (sz:=4) zi e.args;have hz:((List.replicate e.args.length [AV.int .i64 0,.int .i64 0,.str [],.sl 0 [] .nil]).flatten).length=e.args.length*4:=(by simp);have hput:=putAt_all ((List.replicate e.args.length [AV.int .i64 0,.int .i64 0,.str [],.sl 0 [] .nil]).flatten) (e.args.flatMap qu) (by rw[hz,hlenf]);have htk:(e.args.map qu).take e.args.length=e.args.map qu:=qqu (by simp);have hcp:∀ B0 B1:Blk,yw (Dof Tryz.prog) ⟨[B0,B1,.cells (List.replicate e.args.length [AV.int .i64 0,.int .i64 0,.str [],.sl 0 [] .nil]).flatten],[]⟩ 23 (.ms 2 0 e.args.length 4) (.sl 4 (e.args.map qu) .none)=some (.int .i64 e.args.length,⟨[B0,B1,.cells (e.args.flatMap qu)],[]⟩):=fun B0 B1=>by
    have hz':=hz;generalize (List.replicate e.args.length [AV.int .i64 0,.int .i64 0,.str [],.sl 0 [] .nil]).flatten=Z at *;simp[yw,Wv,qkV,hfl,hput,hz',htk,h0]
   have hat:=qeJ e.args;have hpt:=qiK e.args;have hfr:kw 4 e.args.length (e.args.flatMap qu)=e.args.map qu:=(by have:=wA (sz:=4) zi e.args [];rwa[qq5]at this);rw[hE];generalize hZ:(List.replicate e.args.length [AV.int .i64 0,.int .i64 0,.str [],.sl 0 [] .nil]).flatten=Z at *;generalize hFE:e.args.flatMap qu=FE at *;simp[-getElem?_pos,qA,hne,h0,hbI,hZ,hcp];have hn0:e.args.length<=100000:=(by omega);have hatoms:∀ a:Ex,qO (.agg (qu a))=some (qu a):=yD;refine qM.listR e.args (fun d ev U=>ev 1=.ptr 0 0/\ev 2=.ptr 1 0/\ev 3=.ms 2 0 e.args.length 4/\ev 14=.int .i64 e.args.length/\ev 15=.int .i64 d.length/\U=⟨[.cells [.int .i64 e.op,.int .i64 e.n,.str e.name,.sl 4 (e.args.map qu) .none],.cells [.int .i64 0,.int .i64 0,.str [],.sl 0 [] .nil],.cells FE],[]⟩) ?_ ?_ ?_
   . exact⟨by simp,by simp,by simp,by simp,by simp,by simp⟩
   . rintro d a rest ev U R hR hd hx hlt ⟨e1,e2,e3,e14,e15,rfl⟩;have hm:=qqm hx;have hia:=ih a hm (by have:=qd1 hm;omega);have hw:=wr (n:=(d.length:Int)+1) (by omega) (by omega);obtain⟨ht,hle⟩:=hat d.length a hx;have hp:=hpt d.length a hx;have ha2:=hatoms a;have hl4:=zi a;have hnr:=nrE a;generalize qu a=W at *;simp[-getElem?_pos,-qO,e1,e2,e3,e14,e15,hlt,ht,hle];refine qd.call hia (by simp[qq,hnr]) ?_;simp[-getElem?_pos,-qO,ha2,hl4,hp,hle,e1,e2,e3,e14,e15,hlt,hw];exact hR _ _ ⟨by simp[e1],by simp[e2],by simp[e3],by simp[e14],by simp,rfl⟩
   . rintro ev U ⟨e1,e2,e3,e14,e15,rfl⟩;simp[-getElem?_pos,e1,e2,e3,e14,e15];have ho:jt 2 4 qu [Blk.cells [AV.int .i64 e.op,.int .i64 e.n,.str e.name,.ms 2 0 e.args.length 4],.cells [.int .i64 e.op,.int .i64 e.n,.str e.name,.ms 2 0 e.args.length 4],.cells FE] (.ms 2 0 e.args.length 4) e.args:=.inr ⟨h0,rfl,by rw[hFE];rfl⟩;have f1:=ho.frz zi (fun x=>nrE x) js 6;have f2:=ho.frzNo zi (fun x=>nrE x) js 6;rw[frz];rw[if_neg (by simp[qF,qq])];simp only[qqx,qqQ,wQ,qcS,qF,qq,Leq,zj,qr1,qrr,and_true,true_and];exact⟨f2,f1⟩
def inR (v:Int)(r:Rg):Bool:=decide (r.1<=v)&&decide (v<=r.2)
theorem qnO (b:Bool):(b2i b≠0)↔b=true:=by cases b<;>simp[b2i]
theorem qg1 (env:List Signal)(n:Int):jX env (jq n)=n:=by rw[yp];simp[jq,wM]
theorem qkj (env:List Signal)(s:Str):jX env (Qu s)=(jn env s).getD 0:=by rw[yp];simp[Qu,wM]
theorem val_or (env:List Signal)(a b:Ex):(jX env (orE a b)≠0)↔(jX env a≠0\/jX env b≠0):=by
 rw[yp];have:wM env (orE a b).op (orE a b).n (orE a b).name ((orE a b).args.map (jX env))=b2i (!decide (jX env a=0)||!decide (jX env b=0)):=by
  simp[orE,wM,opW,jI]
 rw[this,qnO];simp
theorem YX (v:Int):∀ (l:List Rg),z7 v (l.flatMap fun r=>[r.1,r.2])=l.any (inR v)
 | []=>rfl
 | r::l=>by rw[qqG];simp only[qqP,qqJ,z7,qsD,YX v l,inR]
theorem qdy (env:List Signal):∀ (l:List Rg),(l.flatMap fun r=>[jq r.1,jq r.2]).map (jX env)=l.flatMap fun r=>[r.1,r.2]
 | []=>rfl
 | r::l=>by rw[qqG,qrc,qdy env l,qqG];simp[qg1]
theorem qg2 (env:List Signal)(s:Str)(l:List Rg):(jX env (wE s l)≠0)↔∃ r∈l,inR ((jn env s).getD 0) r=true:=by
 rw[yp];have:wM env (wE s l).op (wE s l).n (wE s l).name ((wE s l).args.map (jX env))=b2i (l.any (inR ((jn env s).getD 0))):=by
  rw[<- YX,<- qdy env l];simp[wE,wM,opW,qkj]
 rw[this,qnO,qqN]
theorem qap (env:List Signal)(s:Str):∀ (l:List (List Rg)) (out:Ex),(jX env (v8 s out l)≠0)↔(jX env out≠0\/∃ c∈l,∃ r∈c,inR ((jn env s).getD 0) r=true)
 | [],out=>by simp[v8]
 | c::l,out=>by
  show (jX env (v8 s (orE out (wE s c)) l)≠0)↔_;rw[qap env s l,val_or,qg2];simp only[qqM,exists_eq_or_imp,or_assoc]
theorem Wi {α:Type}{n:Nat}(hn:0<n):∀ (k:Nat) (l:List α),l.length<=k->(z6 n k l).flatten=l
 | 0,l,h=>by
  have:l=[]:=qqA (by omega);subst this;rfl
 | k+1,l,h=>by
  unfold z6;split
  . rename_i h0;rw[h0];rfl
  . rename_i h0;have:=qqB.2 h0;rw[qq3,Wi hn k _ (by rw[qrE];omega),qre]
theorem qg0 (env:List Signal)(s:Str)(l:List Rg):(jX env (ye s l)≠0)↔∃ r∈l,inR ((jn env s).getD 0) r=true:=by
 unfold ye;split
 . rename_i h;subst h;simp[qg1]
 . rw[qap,qg2];have h1:=Wi (n:=16) (by omega) l.length (l.drop 16) (by rw[qrE];omega);constructor
   . rintro (⟨r,hr,h⟩|⟨c,hc,r,hr,h⟩)
     . exact⟨r,qrk hr,h⟩
     . refine⟨r,qrP (i:=16) ?_,h⟩;rw[<- h1];exact qrs.2 ⟨c,hc,hr⟩
   . rintro⟨r,hr,h⟩;rw[<- qre 16 l]at hr;rcases qqE.1 hr with hr|hr
     . exact .inl ⟨r,hr,h⟩
     . rw[<- h1]at hr;obtain⟨c,hc,hr⟩:=qrs.1 hr;exact .inr ⟨c,hc,r,hr,h⟩
theorem qdT (v:Int):∀ (l:List Int),(∃ r∈kv l,inR v r=true)↔v∈l:=by
 have key:∀ (l:List Int) (out:List Rg),(∀ r∈out,r.1<=r.2)->((∃ r∈l.foldl vA out,inR v r=true)↔((∃ r∈out,inR v r=true)\/v∈l)):=by
  intro l
  induction l with
  | nil=>intro out _;simp
  | cons n l ih=>
   intro out ho;rw[qq7];have hs:(∀ r∈vA out n,r.1<=r.2)/\((∃ r∈vA out n,inR v r=true)↔((∃ r∈out,inR v r=true)\/v=n)):=by
    unfold vA;split
    . rename_i r hr;obtain⟨pre,hp⟩:=qsY.1 hr;subst hp;have hr2:=ho r (by simp);split
      . rename_i hn;rw[qsi];refine⟨fun q hq=>?_,?_⟩
        . rcases qqE.1 hq with hq|hq
          . exact ho q (by simp[hq])
          . have:=qqU.1 hq;subst this;dsimp only;omega
        . simp only[qqE,qqU,inR,qqq,decide_eq_true_eq];constructor
          . rintro⟨q,hq|rfl,h⟩
            . exact .inl ⟨q,.inl hq,h⟩
            . dsimp only at h;by_cases hv:v=n
              . exact .inr hv
              . exact .inl ⟨r,.inr rfl,by omega⟩
          . rintro (⟨q,hq|rfl,h⟩|rfl)
            . exact⟨q,.inl hq,h⟩
            . exact⟨_,.inr rfl,by dsimp only;omega⟩
            . exact⟨_,.inr rfl,by dsimp only;omega⟩
      . refine⟨fun q hq=>?_,?_⟩
        . rcases qqE.1 hq with hq|hq
          . exact ho q hq
          . have:=qqU.1 hq;subst this;exact qtP _
        . simp only[qqE,qqU,inR,qqq,decide_eq_true_eq];constructor
          . rintro⟨q,hq|rfl,h⟩
            . exact .inl ⟨q,hq,h⟩
            . exact .inr (by dsimp only at h;omega)
          . rintro (⟨q,hq,h⟩|rfl)
            . exact⟨q,.inl hq,h⟩
            . exact⟨_,.inr rfl,by dsimp only;omega⟩
    . refine⟨fun q hq=>?_,?_⟩
      . rcases qqE.1 hq with hq|hq
        . exact ho q hq
        . have:=qqU.1 hq;subst this;exact qtP _
      . simp only[qqE,qqU,inR,qqq,decide_eq_true_eq];constructor
        . rintro⟨q,hq|rfl,h⟩
          . exact .inl ⟨q,hq,h⟩
          . exact .inr (by dsimp only at h;omega)
        . rintro (⟨q,hq,h⟩|rfl)
          . exact⟨q,.inl hq,h⟩
          . exact⟨_,.inr rfl,by dsimp only;omega⟩
   rw[ih _ hs.1,hs.2];simp only[qqM,or_assoc]
 intro l;have:=key l [] (by simp);simpa[kv] using this
theorem qfn (env:List Signal)(s:Str)(l:List Int):(jX env (ye s (kv l))≠0)↔(jn env s).getD 0∈l:=by
 rw[qg0,qdT]
def qgo (l:List Int)(i:Nat)(n:Int):List Int :=
 (if i=0\/l.getD (i-1) 0≠n-1 then [n] else [])++(if i+1=l.length\/l.getD (i+1) 0≠n+1 then [n] else [])
def bndS (l:List Int):List Int:=(l.zipIdx).flatMap fun q=>qgo l q.2 q.1
def zI (l:List Rg):List Int:=l.flatMap fun r=>[r.1,r.2]
def qpl (s:Str)(l:List Rg):Nat->Ex
 | 0=>jq 0
 | i+1=>if i=0 then wE s ((l.drop (16*i)).take 16) else orE (qpl s l i) (wE s ((l.drop (16*i)).take 16))
theorem YC {α:Type}{n:Nat}(hn:0<n):∀ (k:Nat) (l:List α),l.length<=k->z6 n k l=(List.range ((l.length+(n-1)) / n)).map fun i=>(l.drop (n*i)).take n
 | 0,l,h=>by
  have:l=[]:=qqA (by omega);subst this;have:(([]:List α).length+(n-1)) / n=0:=qtb (by simp;omega);rw[this];rfl
 | k+1,l,h=>by
  unfold z6;split
  . rename_i h0;subst h0;have:(([]:List α).length+(n-1)) / n=0:=qtb (by simp;omega);rw[this];rfl
  . rename_i h0;have hp:=qqB.2 h0;have ih:=YC hn k (l.drop n) (by rw[qrE];omega);have hc:(l.length+(n-1)) / n=((l.drop n).length+(n-1)) / n+1:=by
     rw[qrE];by_cases hle:n<=l.length
     . have:l.length+(n-1)=(l.length-n+(n-1))+n:=by omega
       rw[this,Nat.add_div_right _ hn]
     . have h1:l.length-n=0:=(by omega);rw[h1];have h2:(0+(n-1)) / n=0:=qtb (by omega);rw[h2];have h3:l.length+(n-1)=(l.length-1)+n:=(by omega);rw[h3,Nat.add_div_right _ hn,qtb (by omega)]
    rw[ih,hc,List.range_succ_eq_map,qqx,qrD];congr 1;apply qrw;intro i hi;simp only[Function.comp,qti];congr 2;rw[Nat.succ_eq_add_one,qtk];omega
theorem qhO (s:Str)(l:List Rg)(h0:l≠[]):qpl s l ((l.length+15) / 16)=ye s l:=by
 have hp:=qqB.2 h0;unfold ye;rw[if_neg h0,YC (by omega) _ _ (by rw[qrE];omega)];have hm:(l.length+15) / 16=((l.drop 16).length+(16-1)) / 16+1:=by rw[qrE];omega
 rw[hm];generalize ((l.drop 16).length+(16-1)) / 16=m
 induction m with
 | zero=>simp[qpl,v8]
 | succ m ih=>
  rw[qpl,if_neg (by omega),ih,qrN,qrc];unfold v8;rw[qrC,List.map_singleton,qq7,qtY];congr 2;rw[qti];have:16*(m+1)=16+16*m:=by omega
  rw[this]
theorem qmE (l:List Int):bndS l=zI (kv l):=by
 -- up to a number: the runs so far,but for the last one's end
 have key:∀ (d r:List Int) (hd:l=d++r),(d.zipIdx).flatMap (fun q=>qgo l q.2 q.1)=(if r=[]\/d=[]\/r.getD 0 0≠d.getLast?.getD 0+1 then zI (kv d) else (zI (kv d)).dropLast)/\(d≠[]->∃ pre lo,kv d=pre++[(lo,d.getLast?.getD 0)]):=by
  intro d
  induction hn:d.length generalizing d with
  | zero=>
   intro r hd;have:d=[]:=qqA hn;subst this;exact⟨by simp[kv,zI],fun h=>absurd rfl h⟩
  | succ k ih=>
   intro r hd;obtain⟨d',n,rfl⟩:∃ d' n,d=d'++[n]:=⟨d.dropLast,d.getLast (by rintro rfl;simp at hn),(qry _).symm⟩;have hk:d'.length=k:=(by simpa using hn);obtain⟨h1,h2⟩:=ih d' hk (n::r) (by rw[hd];simp);have hr:kv (d'++[n])=vA (kv d') n:=(by simp[kv,qrC]);have hl:(d'++[n]).getLast?.getD 0=n:=(by simp);have hget:l.getD (d'.length+1) 0=r.getD 0 0:=(by rw[hd];simp[qqz,qqt]);have hlast:(d'.length+1=l.length)↔r=[]:=by
    rw[hd];simp
   have hb:qgo l d'.length n=(if d'=[]\/n≠d'.getLast?.getD 0+1 then [n] else [])++(if r=[]\/r.getD 0 0≠n+1 then [n] else []):=by
    unfold qgo;rw[hget];congr 1
    . by_cases h0:d'=[]
      . subst h0;simp
      . have hp:=qqB.2 h0;have:l.getD (d'.length-1) 0=d'.getLast?.getD 0:=by
         rw[hd,List.getLast?_eq_getElem?,qqz,qqV,qqv (by omega)]
        rw[this];have h3:d'.length≠0:=(by omega);simp only[h0,h3,false_or];by_cases hc:n=d'.getLast?.getD 0+1
        . rw[if_neg (by omega),if_neg (by simp[hc])]
        . rw[if_pos (by omega),if_pos hc]
    . by_cases h0:r=[]
      . rw[if_pos (.inl (hlast.2 h0)),if_pos (.inl h0)]
      . have:¬ (d'.length+1=l.length):=fun e=>h0 (hlast.1 e)
        simp only[h0,this,false_or]
   rw[qso,List.flatMap_append,h1];have hz:([n].zipIdx (0+d'.length)).flatMap (fun q=>qgo l q.2 q.1)=qgo l d'.length n:=(by simp);rw[hz,hb,hr,hl];have hne:¬ (d'++[n]=[]):=(by simp);have hg0:(n::r).getD 0 0=n:=rfl;have hc0:¬ (n::r=[]):=(by simp);simp only[hc0,hg0,false_or,hne];by_cases h0:d'=[]
   . subst h0;simp only[kv,qtY,vA,List.getLast?_nil,qqJ,true_or,if_true,zI,qsK,qqG,qq5];refine⟨?_,fun _=>⟨[],n,rfl⟩⟩;by_cases h:r=[]\/r.getD 0 0≠n+1
     . rw[if_pos h,if_pos h];rfl
     . rw[if_neg h,if_neg h];rfl
   . obtain⟨pre,lo,hp⟩:=h2 h0;generalize d'.getLast?.getD 0=z at *;have hgl:(kv d').getLast?=some (lo,z):=(by rw[hp];simp);by_cases hc:n=z+1
     . have ha:vA (kv d') n=pre++[(lo,n)]:=by
        unfold vA;rw[hgl];dsimp only;rw[if_pos (by omega),hp,qsi]
       rw[ha,hp];refine⟨?_,fun _=>⟨pre,lo,rfl⟩⟩;have e1:¬ (d'=[]\/n≠z+1):=(by simp[h0,hc]);rw[if_neg e1,if_neg e1];have e2:zI (pre++[(lo,z)])=(zI pre++[lo])++[z]:=(by simp[zI]);have e3:zI (pre++[(lo,n)])=(zI pre++[lo])++[n]:=(by simp[zI]);rw[e2,e3,qsi];by_cases h:r=[]\/r.getD 0 0≠n+1
       . rw[if_pos h,if_pos h];simp
       . rw[if_neg h,if_neg h,qsi];simp
     . have ha:vA (kv d') n=kv d'++[(n,n)]:=by
        unfold vA;rw[hgl];dsimp only;rw[if_neg (by omega)]
       rw[ha];refine⟨?_,fun _=>⟨kv d',n,rfl⟩⟩;rw[if_pos (.inr hc),if_pos (.inr hc)];have e3:zI (kv d'++[(n,n)])=(zI (kv d')++[n])++[n]:=(by simp[zI]);rw[e3];by_cases h:r=[]\/r.getD 0 0≠n+1
       . rw[if_pos h,if_pos h];simp
       . rw[if_neg h,if_neg h,qsi];simp
 have:=(key l [] (by simp)).1;rw[if_pos (.inl rfl)]at this;exact this
theorem vT (l:List Rg):(zI l).length=2*l.length:=by
 unfold zI
 induction l with
 | nil=>rfl
 | cons r l ih=>rw[qqG,qqr,ih];simp;omega
theorem qf8 (l:List Rg)(i:Nat):((zI l).drop (32*i)).take 32=zI ((l.drop (16*i)).take 16):=by
 have hd:∀ (l:List Rg) (k:Nat),(zI l).drop (2*k)=zI (l.drop k):=by
  intro l k
  induction k generalizing l with
  | zero=>simp
  | succ k ih=>
   cases l with
   | nil=>simp[zI]
   | cons r l=>
    have:zI (r::l)=r.1::r.2::zI l:=by simp[zI]
    rw[this,qsQ,<- ih];show List.drop (2*k+1+1) _=_;rw[qsQ,qsQ]
 have ht:∀ (l:List Rg) (k:Nat),(zI l).take (2*k)=zI (l.take k):=by
  intro l k
  induction k generalizing l with
  | zero=>simp[zI]
  | succ k ih=>
   cases l with
   | nil=>simp[zI]
   | cons r l=>
    have:zI (r::l)=r.1::r.2::zI l:=by simp[zI]
    have h2:zI ((r::l).take (k+1))=r.1::r.2::zI (l.take k):=(by simp[zI]);rw[this,h2,<- ih];show List.take (2*k+1+1) _=_;rw[qsA,qsA]
 have e1:32*i=2*(16*i):=by omega
 rw[e1,hd];exact ht _ 16
end Go.Proofs.YtoibbcnfhhggnaaGreatDoor
end
