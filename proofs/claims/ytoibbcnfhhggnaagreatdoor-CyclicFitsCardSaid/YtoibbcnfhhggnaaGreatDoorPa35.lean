/- A part of the proof. -/
import Derived.Test.YtoibbcnfhhggnaaGreatDoorPa34
set_option maxHeartbeats 16000000
set_option linter.unusedVariables false
set_option linter.unusedSimpArgs false
set_option maxRecDepth 100000
set_option linter.defProp false
section
namespace Go.Proofs.YtoibbcnfhhggnaaGreatDoor
open Go Go.Abs
theorem qfC (op:Int)(x y:Nat)(hx:x<65536)(hy:y<65536):Pure Tryz.prog GG 146 [.int .i64 op,.int .i64 x,.int .i64 y] (.int .i64 (jI op x y)):=by
 refine Pure.vc qe Tryz.func146 rfl (by kernel_rfl) ?_;have n1:=qh6 hx hy;have n2:=qnm hx hy;have n3:=qh5 hx hy;by_cases h7:op=7
 . subst h7;simp;refine qa.call (qhD x y) rfl ?_;simp[jI]
 by_cases h8:op=8
 . subst h8;simp;refine qa.call (qoG x y) rfl ?_;simp[jI]
 by_cases h9:op=9
 . subst h9;simp;refine qa.call (qoK x y) rfl ?_;simp[jI]
 by_cases h10:op=10
 . subst h10;have hb:jI 10 x y=((x &&& y:Nat):Int):=(by simp[jI]);rw[hb];simp;refine qa.call (qoP x y hx hy) rfl ?_;simp
 by_cases h11:op=11
 . subst h11;have hb:jI 11 x y=((x ||| y:Nat):Int):=(by simp[jI]);rw[hb];simp;refine qa.call (ror342 x y hx hy) rfl ?_;simp
 by_cases h12:op=12
 . subst h12;have hb:jI 12 x y=((x ^^^ y:Nat):Int):=(by simp[jI]);rw[hb];simp;refine qa.call (qoF x y hx hy) rfl ?_;simp
 by_cases h13:op=13
 . subst h13;simp;refine qa.call (qoH x y) rfl ?_;simp[jI,shlW]
 by_cases h14:op=14
 . subst h14;simp;refine qa.call (qhv x y) rfl ?_;simp[jI,qm4]
 by_cases h15:op=15
 . subst h15;simp;refine qa.call (jL _) rfl ?_
   try simp only[km,kW]
   by_cases h:x=y<;>simp[jI,h]
 by_cases h16:op=16
 . subst h16;simp;refine qa.call (jL _) rfl ?_
   try simp only[km,kW]
   by_cases h:x=y<;>simp[jI,h]
 by_cases h17:op=17
 . subst h17;simp;refine qa.call (jL _) rfl ?_;by_cases h:x<y<;>simp[jI,h]
 by_cases h18:op=18
 . subst h18;simp;refine qa.call (jL _) rfl ?_;by_cases h:x<=y<;>simp[jI,h]
 by_cases h19:op=19
 . subst h19;by_cases h:x=0
   . simp[h];refine qa.call (jL _) rfl ?_;simp[jI,h]
   . simp[h];refine qa.call (jL _) rfl ?_
     (try simp only[km,kW]);by_cases h':y=0<;>simp[jI,h,h']
 by_cases h20:op=20
 . subst h20;by_cases h:x=0
   . simp[h];refine qa.call (jL _) rfl ?_
     (try simp only[km,kW]);by_cases h':y=0<;>simp[jI,h,h']
   . simp[h];refine qa.call (jL _) rfl ?_;simp[jI,h]
 have hb:jI op x y=b2i (decide ((x:Int)=0)||!decide ((y:Int)=0)):=by simp[jI,h7,h8,h9,h10,h11,h12,h13,h14,h15,h16,h17,h18,h19,h20]
 rw[hb];by_cases h:x=0
 . simp[h7,h8,h9,h10,h11,h12,h13,h14,h15,h16,h17,h18,h19,h20,h];refine qa.call (jL _) rfl ?_;simp
 . simp[h7,h8,h9,h10,h11,h12,h13,h14,h15,h16,h17,h18,h19,h20,h];refine qa.call (jL _) rfl ?_
   try simp only[km,kW]
   by_cases h':y=0<;>simp[h,h']
theorem qjO {α:Type}{p:α->Bool}{l:List α}{i:Nat}(hi:l.length<=i)(h:∀ a∈l.take i,p a=true):l.all p=true:=by
 rw[qqu hi]at h;exact qqy.2 h
def qdg (op:Int):Bool:=decide (op=1)||ja op
theorem qkU (op:Int):Pure Tryz.prog GG 99 [.int .i64 op] (.bool (qdg op)):=by
 refine Pure.vc qe Tryz.func99 rfl (by kernel_rfl) ?_;by_cases h:op=1
 . subst h;simp[qdg]
 . simp[h];refine qa.call (qen op) rfl ?_;simp[qdg,h]
theorem qjC {env:List Signal}{e:Ex}:qgD env e=if e.op=2 then (jn env e.name).isSome else if e.op=3\/e.op=24 then (jn env (zN e.name 0)).isSome else true:=rfl
theorem qkO (env:List Signal)(hl:Fits env)(e:Ex)(ops:List Int)(hs:e.op=3\/e.op=24->e.name.length<=1000)(ha:e.op=3->ops≠[])(hask:qdg e.op=true) :
 Pure Tryz.prog GG 100 [.agg (qu e),.sl 2 (env.map qJ) .none,.sl 1 (ops.map qo) .none] (.tup [.int .i64 (if qgD env e=true then wM env e.op e.n e.name ops else 0),.int .i64 (if qgD env e=true then 0 else 7)]):=by
 refine Pure.vc qe Tryz.func100 rfl (by kernel_rfl) ?_;rw[qjC];unfold wM;by_cases c1:e.op=1
 . simp only[qc e];simp[c1]
 by_cases c2:e.op=2
 . simp only[qc e];simp[c1,c2];refine qa.call (W7 env e.name hl) (by simp) ?_;cases hf:jn env e.name<;>simp[Qz,hf]
 have hor:e.op=3\/e.op=24:=by
  simp only[qdg,ja,qsc,decide_eq_true_eq]at hask;omega
 have hs:=hs hor;simp only[qc e];simp[c1,c2];refine qa.call (qdW e.name 0 (by omega) hs) rfl ?_
 try simp
 refine qa.call (W7 env (zN e.name 0) hl) (by simp) ?_;cases hf:(jn env (zN e.name 0)).isSome
 . simp[Qz,hf,hor];exact⟨fun h3 h24=>absurd hor (by omega),fun h3=>by omega⟩
 . by_cases c3:e.op=3
   . obtain⟨v,r,rfl⟩:∃ v r,ops=v::r:=by
      cases ops with
      | nil=>exact absurd rfl (ha c3)
      | cons v r=>exact⟨v,r,rfl⟩
     simp[Qz,hf,c3];refine qa.call (Yu env e.name v hl hs) (by simp) ?_;simp
   . have c24:e.op=24:=(by omega);simp[Qz,hf,c24];refine qE.intro (fun n ev U=>∃ i:Nat,i<=8/\n=8-i/\ev 1=.sl 2 (env.map qJ) .none/\ev 3=.ptr 0 0/\ev 12=.int .i64 (qjZ env e.name i)/\ev 13=.int .i64 i/\U=⟨[.cells (qu e)],[]⟩) 8 ⟨0,by simp[qjZ,qc e,c24]⟩ ?_;rintro n ev U ⟨i,hi,rfl,h1,h3,h12,h13,rfl⟩;by_cases hc:i<8
     . have hc':(i:Int)<8:=(by omega);simp[h1,h3,h12,h13,hc',qc e];refine qa.call (Yu env e.name i hl hs) (by simp) ?_
       try simp[h1,h3,h12,h13]
       refine qa.call (qhD _ _) rfl ?_;simp[h1,h3,h12,h13,qc e];exact⟨_,by omega,i+1,by omega,rfl,rfl,wr (by omega) (by omega)⟩
     . have hi':i=8:=(by omega);subst hi';simp[h1,h3,h12,h13];intro e0;rw[e0]at hf;cases hf
theorem qcu (op:Int)(l:List Int)(hr:∀ v∈l,0<=v/\v<=65535)(h22:op=22->l.length=3)(h23:op=23->3<=l.length/\l.length<=33)(ho:op≠22->op≠23->l.length=1\/l.length=2) :
 Pure Tryz.prog GG 101 [.int .i64 op,.sl 1 (l.map qo) .none] (.int .i64 (opW op l)):=by
 refine Pure.vc qe Tryz.func101 rfl (by kernel_rfl) ?_;by_cases c22:op=22
 . obtain⟨a,b,c,rfl⟩:=list3 (h22 c22);subst c22;by_cases ha:a=0
   . simp[ha,qee]
   . simp[ha,qee]
 by_cases c23:op=23
 . obtain⟨h3,h33⟩:=h23 c23;subst c23;obtain⟨a,ga⟩:∃ a,l[0]?=some a:=⟨_,qqo (by omega)⟩;obtain⟨g0,ga'⟩:=qql.1 ga;have hw:opW 23 l=b2i (z7 a (l.drop 1)):=by
    rw[qng,qqz,ga];simp
   rw[hw];generalize hT:z7 a (l.drop 1)=T;simp;refine qE.intro (fun n env U=>∃ i:Nat,1<=i/\i<=l.length+1/\n=l.length+1-i/\env 1=.sl 1 (l.map qo) .none/\env 5=.int .i64 i/\U=⟨[],[]⟩/\z7 a (l.drop i)=T) l.length ⟨1,by simp,by omega,by omega,by simp,by simp,rfl,hT⟩ ?_;rintro n env U ⟨i,hi1,hi2,rfl,h1,h5,rfl,hin⟩;have w1:IntKind.i64.wrap ((i:Int)+1)=(i:Int)+1:=wr (by omega) (by omega);have w2:IntKind.i64.wrap ((i:Int)+2)=((i+2:Nat):Int):=(by rw[wr (by omega) (by omega)];omega);have n1:((i:Int)+1).toNat=i+1:=(by omega);have p1:(0:Int)<=(i:Int)+1:=(by omega);by_cases hc:i+1<l.length
   . obtain⟨x,gx⟩:∃ x,l[i]?=some x:=⟨_,qqo (by omega)⟩;obtain⟨y,gy⟩:∃ y,l[i+1]?=some y:=⟨_,qqo (by omega)⟩;obtain⟨q1,gx'⟩:=qql.1 gx;obtain⟨q2,gy'⟩:=qql.1 gy;rw[zz gx,zz gy,Jm]at hin;have hc':(i:Int)+1<l.length:=(by omega);by_cases c1:x<=a
     . by_cases c2:a<=y
       . have hT1:T=true:=(by rw[<- hin];simp[c1,c2]);rw[hT1];simp[h1,h5,w1,n1,p1,hc',hc,q1,q2,g0,ga',gx',gy',c1,c2,b2i]
       . have hin:z7 a (l.drop (i+2))=T:=(by rw[<- hin];simp[c1,c2]);simp[h1,h5,w1,w2,n1,p1,hc',hc,q1,q2,g0,ga',gx',gy',c1,c2];exact⟨_,by omega,i+2,by omega,by omega,rfl,by omega,hin⟩
     . have hin:z7 a (l.drop (i+2))=T:=(by rw[<- hin];simp[c1]);simp[h1,h5,w1,w2,n1,p1,hc',hc,q1,q2,g0,ga',gx',gy',c1];exact⟨_,by omega,i+2,by omega,by omega,rfl,by omega,hin⟩
   . have hc':¬ (i:Int)+1<l.length:=(by omega);have hs:T=false:=(by rw[<- hin];exact Zp (by simp;omega));rw[hs];simp[h1,h5,w1,hc',b2i]
 . rcases ho c22 c23 with h|h
   . obtain⟨a,rfl⟩:=qpn h;rw[opW_1 c22 c23];simp[c22,c23];refine qa.call (qht op a) rfl ?_;simp
   . obtain⟨a,b,rfl⟩:=list2 h;obtain⟨a0,a1⟩:=hr a (by simp);obtain⟨b0,b1⟩:=hr b (by simp);obtain⟨x,rfl⟩:=qqR a0;obtain⟨y,rfl⟩:=qqR b0;rw[opW_2 c22 c23];simp[c22,c23];refine qa.call (qfC op x y (by omega) (by omega)) rfl ?_;simp
def qok (env:List Signal)(e:Ex):AV:=.tup [.int .i64 (if jp env e=true then jX env e else 0),.int .i64 (if jp env e=true then 0 else 7)]
theorem qhs (env:List Signal)(hl:Fits env):∀ e,Wen e->yy e->Pure Tryz.prog GG 65 [.agg (qu e),.sl 2 (env.map qJ) .none] (qok env e):=by
 refine Ex.ind fun e ih hwe hn=>?_
 refine Pure.vc qe Tryz.func65 rfl (by kernel_rfl) ?_;have hfa:=hwe.fits;have hrg:∀ v∈e.args.map (jX env),0<=v/\v<=65535:=by
  intro v hv;obtain⟨a,ha,rfl⟩:=qqS.1 hv;exact KQ env a (hn.arg ha)
 obtain⟨k1,k2,k3,k4,k5,k6,k7,k8⟩:=z9 hn.self;simp only[qc e];simp;refine qE.intro (fun n ev U=>∃ i,i<=e.args.length/\n=e.args.length-i/\ev 1=.sl 2 (env.map qJ) .none/\ev 2=.ptr 0 0/\ev 6=YF ((e.args.map (jX env)).take i)/\ev 7=.int .i64 i/\U=⟨[.cells (qu e)],JD ((e.args.map (jX env)).take i)⟩/\∀ a∈e.args.take i,jp env a=true) e.args.length ⟨0,by simp,by simp,by simp,by simp,by simp[YF],by simp,by simp[qc e,JD],by simp⟩ ?_;rintro n ev U ⟨i,hi,rfl,h1,h2,h6,h7,rfl,hz⟩
 cases hv:e.args[i]? with
 | some a=>
  obtain⟨hc,hv'⟩:=qql.1 hv;have hm:=qqm hv;have ht:(e.args.map (jX env)).take (i+1)=(e.args.map (jX env)).take i++[jX env a]:=by
   rw[qqT,qqI,hv];rfl
  have hlen:((e.args.map (jX env)).take i).length<=e.args.length:=by simp;omega
  generalize hR:(e.args.map (jX env)).take i=R at h6 ht hlen ⊢;have ih:=ih a hm (hwe.arg hm) (hn.arg hm);simp[h1,h2,h6,h7,hc,hv',qc e,qc a];rw[<- qc a];refine qa.call ih (by simp) ?_;cases hk:jp env a
  . have x:jp env e=false:=by
     rw[qbe,qdl hm hk,qsx]
    simp[qok,hk,x]
  . have hz':=qZ (p:=fun a=>jp env a=true) hv hz hk
    cases R with
    | nil=>
     simp only[YF]at h6;simp[qok,hk,YF,JD,qD,qh,qw,zg,h1,h2,h6,h7];exact⟨_,by omega,i+1,by omega,rfl,by rw[ht];simp[YF],wr (by omega) (by omega),by rw[ht];simp[JD],hz'⟩
    | cons b r=>
     have hb:r.length<=549755813886:=(by have:=qjH hn;simp at hlen;omega);simp only[YF]at h6;simp[qok,hk,YF,JD,qD,qh,qw,zg,hb,h1,h2,h6,h7];exact⟨_,by omega,i+1,by omega,rfl,by rw[ht];simp[YF],wr (by omega) (by omega),by rw[ht];simp[JD],hz'⟩
 | none=>
  have hle:e.args.length<=i:=by simpa using hv
  have hc:¬ i<e.args.length:=by omega
  rw[qqu (by simp;omega)]at h6 ⊢;have hall:e.args.all (jp env)=true:=qjO hle hz;have hkn:jp env e=qgD env e:=by rw[qbe,hall,qr1]
  unfold qok;rw[hkn,yp];have hleaf:=qkO env hl e (e.args.map (jX env));generalize hR:e.args.map (jX env)=R at h6 hrg hleaf ⊢;have hRl:R.length=e.args.length:=by rw[<- hR];simp
  simp[h1,h2,h6,h7,hc,qc e];refine qa.call (qkU e.op) (by simp) ?_;cases hask:qdg e.op
  . have hne:e.op≠1/\e.op≠2/\e.op≠3/\e.op≠24:=by
     simp only[qdg,ja,qte,decide_eq_false_iff_not]at hask;omega
    obtain⟨c1,c2,c3,c24⟩:=hne;have x1:qgD env e=true:=(by rw[qjC,if_neg c2,if_neg (by omega)]);have x2:wM env e.op e.n e.name R=opW e.op R:=(by unfold wM;rw[if_neg c1,if_neg c2,if_neg c3,if_neg c24]);rw[x1,x2];simp[h1,h2,h6,h7];refine qa.outN2 (by simp) (qcu e.op R hrg (fun c=>?_) (fun c=>?_) (fun c22 c23=>?_)) ?_
    . rw[hRl];exact VS hn (n:=3) (by omega) (by rw[c];decide)
    . rw[hRl];have:=QL k5 c;omega
    . rw[hRl];exact qhU hn c1 c2 c3 c24 c22 c23
    . simp
  . have hleaf:=hleaf (fun c=>by have:=kI (k7 c);omega) (fun c e0=>by
     have:=VS hn (n:=1) (by omega) (by rw[c];decide);rw[e0]at hRl;simp at hRl;omega) hask
    simp[h1,h2,h6,h7,qc e];rw[<- qc e];refine qa.outN3 (by simp) (by simp) hleaf ?_;simp
theorem qoM (env:List Signal)(hl:Fits env)(e:Ex)(hwe:Wen e)(hh:hgt e<=1000)(hsz:(pre e).length<=100000):Pure Tryz.prog GG 36 [.agg (qu e),.sl 2 (env.map qJ) .none] (.tup [.int .i64 (yh env e),.int .i64 (Zv env e)]):=by
 refine Pure.vc qe Tryz.func36 rfl (by kernel_rfl) ?_;have hva:=qgZ e hwe hh hsz;have hE:Zv env e=if zh e≠0 then 1 else if jp env e=true then 0 else 7:=rfl
 have hV:yh env e=if zh e=0/\jp env e=true then jX env e else 0:=rfl
 simp only[qc e];simp;rw[<- qc e];refine qa.call hva (by simp) ?_;by_cases h0:zh e=0
 . have hn:=vE h0;have hval:=qhs env hl e hwe hn;have e1:qok env e=.tup [.int .i64 (yh env e),.int .i64 (Zv env e)]:=by
    rw[hE,hV];unfold qok;simp[h0]
   rw[e1]at hval;simp[h0,qc e];rw[<- qc e];refine qa.call hval (by simp) ?_;simp
 . have e1:Zv env e=1:=(by rw[hE];simp[h0]);have e2:yh env e=0:=(by rw[hV];simp[h0]);rw[e1,e2];simp[h0]
def qj2 {α:Type}(sz:Nat)(en:α->List AV)(s:List α):AV:=match s with
 | []=>.sl 0 [] .nil
 | a::r=>.sl sz ((a::r).map en) (.chain 0 (r.length+1))
def qlk {α:Type}(s:List α):List (Option Nat):=match s with
 | []=>[]
 | _::r=>[some (r.length+1)]
theorem qll {α:Type}{sz:Nat}{en:α->List AV}(s:List α)(H:List Blk)(hn:∀ x,qq (en x)=true):qF (fin H (qj2 sz en s))=true/\Leq (fin H (qj2 sz en s)) (.sl sz (s.map en) .none):=by
 cases s with
 | nil=>simp[qj2,Leq]
 | cons a r=>
  have h:=zq hn (a::r);refine⟨?_,Leq.sl rfl⟩;simpa[qj2] using h
theorem renv31 (p:Problem)(a:List Int)(hl:p.vars.length<=1000)(ha:Fits a):Pure Tryz.prog GG 37 [.agg (qL p),.sl 1 (a.map qo) .none] (.sl 2 ((kr p.vars a).map qJ) .none):=by
 refine Pure.vc qe Tryz.func37 rfl (by kernel_rfl) ?_;by_cases hlen:a.length=p.vars.length
 . rw[ZY,if_pos hlen];have hE:=yB hlen;simp[hlen];refine qE.intro (fun n ev U=>∃ i,i<=p.vars.length/\n=p.vars.length-i/\ev 1=.sl 1 (a.map qo) .none/\ev 2=.ptr 0 0/\ev 5=qj2 2 qJ ((vg p.vars a).take i)/\ev 6=.int .i64 i/\U=⟨[.cells (qL p)],qlk ((vg p.vars a).take i)⟩) p.vars.length ⟨0,by simp,by simp,by simp,by simp,by simp[qj2],by simp,by simp[qlk]⟩ ?_;rintro n ev U ⟨i,hi,rfl,h1,h2,h5,h6,rfl⟩
   cases hv:p.vars[i]? with
   | some v=>
    obtain⟨hc,hv'⟩:=qql.1 hv;have hca:i<a.length:=(by omega);obtain⟨x,hx⟩:∃ x,a[i]?=some x:=⟨_,qqo hca⟩;have hx':=(qql.1 hx).2;have ht:(vg p.vars a).take (i+1)=(vg p.vars a).take i++[⟨v.name,x⟩]:=by
     rw[qqT,Qq hv hx];rfl
    have hRl:((vg p.vars a).take i).length<=1000:=(by simp;omega);generalize hR:(vg p.vars a).take i=R at h5 ht hRl ⊢
    cases R with
    | nil=>
     simp only[qj2]at h5;simp[h1,h5,h2,h6,hc,hca,hv',hx',qqH,qlk,qX,zu,qy,qD,qh,qw,zg,zp];exact⟨_,by omega,i+1,by omega,rfl,by rw[ht];simp[qj2],wr (by omega) (by omega),by rw[ht];simp⟩
    | cons b r=>
     have hb:r.length<=549755813886:=(by simp at hRl;omega);simp only[qj2]at h5;simp[h1,h5,h2,h6,hc,hca,hv',hx',qqH,qlk,qX,zu,qy,qD,qh,qw,zg,zp,hb];exact⟨_,by omega,i+1,by omega,rfl,by rw[ht];simp[qj2],wr (by omega) (by omega),by rw[ht];simp⟩
   | none=>
    have hc:¬ i<p.vars.length:=(by simp at hv;omega);have hca:¬ i<a.length:=(by omega);rw[qqu (by omega)]at h5 ⊢;have he:=qll (sz:=2) (en:=qJ) (vg p.vars a) [.cells (qL p)] (fun x=>by simp);simp[h1,h5,h2,h6,hc,hca];exact he
 . rw[ZY,if_neg hlen];have hlen':¬ (a.length:Int)=p.vars.length:=(by omega);simp[hlen,hlen',Leq]
theorem qgG {l:List Var}{a:List Int}{i:Nat}{v:Var}{x:Int}(h:l[i]?=some v)(h':a[i]?=some x):(l.zip a)[i]?=some (v,x):=(qrq (z:=(v,x))).2 ⟨h,h'⟩
theorem qdf {l:List Var}{a:List Int}(h:¬ a.length=l.length):zb l a=false:=by simp[zb,h]
theorem qbP {l:List Var}{a:List Int}{i:Nat}{v:Var}{x:Int}(h:l[i]?=some v)(h':a[i]?=some x)(hb:je (v,x)=false):zb l a=false:=by
 unfold zb;rw[qdl (qqm (qgG h h')) hb,qsx]
theorem VO {l:List Var}{a:List Int}{i:Nat}(hlen:a.length=l.length)(hi:l.length<=i)(hz:∀ q∈(l.zip a).take i,je q=true):zb l a=true:=by
 unfold zb;rw[decide_eq_true hlen,qrr];exact VX (by simp;omega) hz
theorem qfk {v:Var}(h:jF v=0):1<=v.width/\v.width<=8:=(qR h).2
theorem qfD (p:Problem)(a:List Int)(h:VP p)(ha:Fits a):Pure Tryz.prog GG 35 [.agg (qL p),.sl 1 (a.map qo) .none] (.bool (decide (qk p=0)&&zb p.vars a)):=by
 refine Pure.vc qe Tryz.func35 rfl (by kernel_rfl) ?_;have hva:=qoi p h;have hl:=h.vars20;simp only[qL]at hva;generalize hr:(decide (qk p=0)&&zb p.vars a)=r;simp;refine qa.call hva (by simp) ?_;by_cases h0:qk p=0
 . have hv:=qcd h0;rw[decide_eq_true h0,qrr]at hr;by_cases hlen:a.length=p.vars.length
   . simp[h0,hlen];refine qE.intro (fun n ev U=>∃ i tl,i<=p.vars.length/\n=p.vars.length-i/\ev 1=.sl 1 (a.map qo) .none/\ev 2=.ptr 0 0/\ev 5=.int .i64 i/\U=⟨.cells (qL p)::tl,[]⟩/\∀ q∈(p.vars.zip a).take i,je q=true) p.vars.length ⟨0,[],by simp,by simp,by simp,by simp,by simp,by simp,by simp⟩ ?_;rintro n ev U ⟨i,tl,hi,rfl,h1,h2,h5,rfl,hz⟩
     cases hvi:p.vars[i]? with
     | some v=>
      obtain⟨hc,hv'⟩:=qql.1 hvi;have hca:i<a.length:=(by omega);obtain⟨x,hx⟩:∃ x,a[i]?=some x:=⟨_,qqo hca⟩;have hx':=(qql.1 hx).2;obtain⟨w1,w8⟩:=qfk (hv v (qqm hvi));have hs:IntKind.i64.wrap (2 ^ min v.width.toNat IntKind.i64.bits)=2 ^ v.width.toNat:=shl1 w1 w8;have hw0:¬ v.width<0:=(by omega);have bad:je (v,x)=false->r=false:=fun hb=>by rw[<- hr];exact qbP hvi hx hb
      have good:je (v,x)=true->∀ q∈(p.vars.zip a).take (i+1),je q=true:=fun hg=>qZ (p:=fun q=>je q=true) (qgG hvi hx) hz hg
      by_cases c4:v.mode=0/\¬ x=v.value
      . rw[bad (by simp only[je];rw[decide_eq_true c4.1,decide_eq_false c4.2];simp)];simp[h1,h2,h5,hc,hca,hv',hx',qqH,c4.1,c4.2]
      by_cases c1:x<0
      . rw[bad (by simp only[je];rw[decide_eq_false (by omega:¬ 0<=x)];rfl)];by_cases c3:v.mode=0
        . have c5:x=v.value:=Classical.byContradiction fun hn=>c4 ⟨c3,hn⟩
          subst c5;simp[h1,h2,h5,hc,hca,hv',hx',qqH,c1,c3]
        . simp[h1,h2,h5,hc,hca,hv',hx',qqH,c1,c3]
      by_cases c2:(2:Int) ^ v.width.toNat<=x
      . rw[bad (by simp only[je];rw[decide_eq_false (by omega:¬ x<2 ^ v.width.toNat)];simp)];by_cases c3:v.mode=0
        . have c5:x=v.value:=Classical.byContradiction fun hn=>c4 ⟨c3,hn⟩
          subst c5;simp[h1,h2,h5,hc,hca,hv',hx',qqH,c1,c3,hs,hw0,c2]
        . simp[h1,h2,h5,hc,hca,hv',hx',qqH,c1,c3,hs,hw0,c2]
      by_cases c3:v.mode=0
      . have c5:x=v.value:=Classical.byContradiction fun hn=>c4 ⟨c3,hn⟩
        have g:=good (by simp only[je];rw[decide_eq_true (by omega:0<=x),decide_eq_true (by omega:x<2 ^ v.width.toNat),decide_eq_true c5];simp);subst c5;simp[h1,h2,h5,hc,hca,hv',hx',qqH,c1,hs,hw0,c2,c3];exact⟨_,by omega,i+1,by omega,rfl,wr (by omega) (by omega),by simpa using g⟩
      . have g:=good (by simp only[je];rw[decide_eq_true (by omega:0<=x),decide_eq_true (by omega:x<2 ^ v.width.toNat),decide_eq_false c3];simp);simp[h1,h2,h5,hc,hca,hv',hx',qqH,c1,hs,hw0,c2,c3];exact⟨_,by omega,i+1,by omega,rfl,wr (by omega) (by omega),by simpa using g⟩
     | none=>
      have hle:p.vars.length<=i:=(by simpa using hvi);have hc:¬ i<p.vars.length:=(by omega);have hca:¬ i<a.length:=(by omega);rw[VO hlen hle hz]at hr;subst hr;simp[h1,h2,h5,hc,hca]
   . rw[qdf hlen]at hr;subst hr;have hlen':¬ (a.length:Int)=p.vars.length:=(by omega);simp[h0,hlen,hlen']
 . rw[decide_eq_false h0,qsm]at hr;subst hr;simp[h0]
theorem qiv (p:Problem)(a:List Int)(e:Ex):qbn p a e=(decide (qk p=0)&&zb p.vars a&&decide (Zv (kr p.vars a) e=0)&&!decide (yh (kr p.vars a) e=0)):=rfl
theorem qkP (p:Problem)(a:List Int)(e:Ex)(h:VP p)(ha:Fits a)(hwe:Wen e)(hh:hgt e<=1000)(hsz:(pre e).length<=100000):Pure Tryz.prog GG 14 [.agg (qL p),.sl 1 (a.map qo) .none,.agg (qu e)] (.bool (qbn p a e)):=by
 refine Pure.vc qe Tryz.func14 rfl (by kernel_rfl) ?_;have has:=qfD p a h ha;have hen:=renv31 p a (qro h.vars20 (by omega)) ha;have hev:=qoM (kr p.vars a) (by have:=qme (l:=p.vars) (a:=a);have:=h.vars20;omega) e hwe (by omega) hsz;have hr:=qiv p a e;generalize qbn p a e=r at hr ⊢;simp only[qL]at has hen;generalize (decide (qk p=0)&&zb p.vars a)=c at has hr;simp only[qc e];simp;refine qa.call has (by simp) ?_;cases c
 . simp at hr;subst hr;simp
 . rw[qrr]at hr;simp;refine qa.call hen (by simp) ?_
   try simp[qc e]
   try rw[<- qc e]
   refine qa.call hev (by simp) ?_;by_cases h1:Zv (kr p.vars a) e=0
   . by_cases h2:yh (kr p.vars a) e=0
     . rw[decide_eq_true h1,decide_eq_true h2]at hr;subst hr;simp[h1,h2]
     . rw[decide_eq_true h1,decide_eq_false h2]at hr;subst hr;simp[h1,h2]
   . rw[decide_eq_false h1]at hr;simp at hr;subst hr;simp[h1]
theorem has32 (l:List Int)(n:Int)(hl:Fits l):Pure Tryz.prog GG 16 [.sl 1 (l.map qo) .none,.int .i64 n] (.bool (decide (n∈l))):=by
 refine Pure.k qe Tryz.func16 rfl (by kernel_rfl) ?_;obtain⟨r,hr⟩:∃ r,r=decide (n∈l):=⟨_,rfl⟩;rw[<- hr];simp[-getElem?_pos];refine qM.gen (fun m ev U=>∃ k,m=l.length-k/\k<=l.length/\ev 0=.sl 1 (l.map qo) .none/\ev 1=.int .i64 n/\ev 5=.int .i64 k/\U=⟨[],[]⟩/\n∉l.take k) l.length ?_ ?_
 . exact⟨0,rfl,by omega,by simp,by simp,by simp,rfl,by simp⟩
 . rintro m ev U R hR ⟨k,rfl,hk,e0,e1,e5,rfl,hnot⟩;have hl':=hl;unfold Fits at hl';by_cases hlt:k<l.length
   . have hw:=wr (n:=(k:Int)+1) (by omega) (by omega);have hlt':(k:Int)<l.length:=(by omega);obtain⟨x,hx⟩:∃ x,l[k]?=some x:=⟨_,qqo hlt⟩;by_cases hxn:x=n
     . have:r=true:=by rw[hr];exact decide_eq_true (hxn▸qqm hx)
       subst this;simp[-getElem?_pos,e0,e1,e5,hlt',hx,hxn]
     . simp[-getElem?_pos,e0,e1,e5,hlt',hx,hxn,hw];refine hR _ _ _ ?_ ⟨k+1,rfl,by omega,by simp[e0],by simp[e1],by simp,rfl,fun hm=>?_⟩
       . omega
       . rw[qqT,hx]at hm;rcases qqE.1 hm with hm|hm
         . exact hnot hm
         . simp at hm;exact hxn hm.symm
   . have hke:k=l.length:=(by omega);subst hke;rw[qr0]at hnot;have:r=false:=by rw[hr];exact decide_eq_false hnot
     subst this;simp[-getElem?_pos,e0,e1,e5]
theorem qp2 {p:Problem}{c:List (List Int)}(h:VM p)(hsm:kE p=true)(hc:c.length<=6)(hcl:∀ l∈c,l.length<=40):CycH p c:=by
 simp only[kE,qqq,decide_eq_true_eq,qqy]at hsm;obtain⟨⟨⟨⟨⟨⟨hvl,hdl⟩,hgl⟩,he1⟩,he2⟩,hwl⟩,hbl⟩:=hsm;have hb7:qk p=0->yJ p.vars (qC p)<=7:=fun hvp=>by simpa[hvp] using hbl
 have hb18:yJ p.vars (qC p)<=18:=by
  by_cases hvp:qk p=0
  . have:=hb7 hvp;omega
  . unfold qC;rw[if_pos hvp];simp[yJ]
 refine⟨h.q hvl he1 he2,by have:=(yt he1).1;omega,by omega,fun hvp=>qro (qe2 hvp) (by omega),hb18,by omega,by have:=(yt he2).1;omega,fun d hd=>by have:=hwl d hd;omega,by omega,fun l hl=>by have:=hcl l hl;omega,fun hvp v hv hm=>?_⟩;have h7:=hb7 hvp;rw[(VY hvp (by omega)).1]at h7;have hs:∀ (l:List Nat) (x:Nat),x∈l->x<=l.sum:=by
  intro l
  induction l with
  | nil=>intro x hx;cases hx
  | cons y l ih=>
   intro x hx;rw[qsE];rcases qqM.1 hx with rfl|hx
   . omega
   . have:=ih x hx;omega
 have:=hs _ _ (qqS.2 ⟨v,hv,rfl⟩:qgC v∈p.vars.map qgC);have hve:=qR (zJ hvp v hv);have hbw:qgC v=v.width.toNat:=by unfold qgC;rw[if_neg (by omega)]
 rw[hbw]at this;omega
theorem vp_of {p:Problem}(h:VM p)(hsm:kE p=true)(hvp:qk p=0):VP p:=by
 simp only[kE,qqq,decide_eq_true_eq,qqy]at hsm;obtain⟨⟨⟨⟨⟨⟨hvl,hdl⟩,hgl⟩,he1⟩,he2⟩,hwl⟩,hbl⟩:=hsm;have hq:=h.q hvl he1 he2;have h1:=(yt he1).1;have h2:=(yt he2).1;refine⟨by omega,hq.names,by omega,by omega,hq.exprs,hq.dists,hq.weights,hq.groups,hq.group,?_⟩;have:=ZT hvp;omega
theorem qma {p:Problem}(hvp:qk p=0){a:List Int}{e:Ex}(h:yh (kr p.vars a) e≠0)(ha:zb p.vars a=true):qbn p a e=true:=by
 obtain⟨h1,h2⟩:=qeP h;unfold qbn;simp[hvp,ha,h1,h]
theorem qdm {p:Problem}(hvp:qk p=0){a:List Int}(ha:a∈QY p.vars):zb p.vars a=true:=by
 have hok:=vl.1 ha;unfold zb;simp only[qqq,decide_eq_true_eq,qqy];refine⟨hok.len,?_⟩;rintro⟨v,x⟩ hx;obtain⟨i,hi⟩:=qq2 hx;obtain⟨h1,h2⟩:=qrq.1 hi;obtain⟨y,hy,hc⟩:=wL hok h1;rw[h2]at hy;cases hy;dsimp only at h1 h2 hc ⊢;have hve:=zJ hvp v (qqm h1);have h3:((2 ^ v.width.toNat:Nat):Int)=(2:Int) ^ v.width.toNat:=by simp
 unfold je;by_cases hm:v.mode=0
 . rw[if_pos hm]at hc;subst hc;have hvv:=qfj hve;simp[hm,hvv]
 . rw[if_neg hm]at hc;unfold zZ at hc;have:x<(2:Int) ^ v.width.toNat:=by omega
   simp[hm,hc.1,this]
theorem qkN:VE (Dof Tryz.prog) 30 [AV.int .u64 0,AV.int .u64 0] [AV.int .u64 0,AV.int .u64 0]=some true:=by
 simp[VE,Y6,yL,qS,zU,qrN,z8,y8]
theorem qkD {p:Problem}{c:List (List Int)}{r:Rng}(h:(vy p c r).2.2.2≠0):vy p c r=([],[],(0,0),(vy p c r).2.2.2):=by
 unfold vy at h⊢;split
 . rfl
 . split
   . rfl
   . split
     . rfl
     . split
       . rfl
       . rename_i a1 a2 a3 a4;rw[if_neg a1,if_neg a2,if_neg a3,if_neg a4]at h;exact absurd rfl h
theorem fits6 (p:Problem)(c:List (List Int))(r:Rng)(h:VM p)(hc:HC p c):Pure Tryz.prog GG 4 [.agg (qL p),.agg (zW c),.agg (yi r)] (.bool true):=by
 refine Pure.kO o0 true qe Tryz.func4 rfl (by kernel_rfl) ?_;have hs:=qow p h;have hf:=few16 c hc.fits hc.each;have ha:=awakeG;simp only[qL,qc4,qN]at hs hf;simp[-getElem?_pos,yi];refine qd.call (G:=jj GG) hs (by simp) ?_;cases hsm:kE p
 case false=>
  simp[-getElem?_pos,unA];refine qd.call (G:=jj GG) ha (by simp) ?_;simp[-getElem?_pos,Qk]
 simp[-getElem?_pos,unA];refine qd.call (G:=jj GG) hf (by simp) ?_;cases hfw:(decide (c.length<=6)&&(c.take 7).all fun l=>decide (l.length<=40))
 case false=>
  simp[-getElem?_pos,unA];refine qd.call (G:=jj GG) ha (by simp) ?_;simp[-getElem?_pos,Qk]
 simp only[qqq,decide_eq_true_eq,qqy]at hfw;have hcl:∀ l∈c,l.length<=40:=fun l hl=>hfw.2 l (by rw[qqu (by omega)];exact hl)
 have hcy:=qp2 h hsm hfw.1 hcl;have hso:=qc6 p c hcy r;have hfit:=qkC (p:=p) (c:=c) (r:=r) hcy;obtain⟨a,d,rr,e,hq⟩:∃ a d rr e,vy p c r=(a,d,rr,e):=⟨_,_,_,_,rfl⟩;have herr:e≠0->a=[]/\d=[]/\rr=(0,0):=fun he=>by
  have:=qkD (p:=p) (c:=c) (r:=r) (by rw[hq];exact he);rw[hq]at this;simpa using this
 rw[hq]at hso hfit;dsimp only at hfit;simp only[solV,qL,zW,yi]at hso;simp[-getElem?_pos,unA];refine qd.call (G:=jj GG) hso (by simp) ?_;by_cases he:e=0
 case neg=>
  obtain⟨rfl,rfl,rfl⟩:=herr he;simp[-getElem?_pos,he,qkN,qX,zu,qy];refine qd.call (G:=jj GG) ha (by simp) ?_;simp[-getElem?_pos,Qk]
 subst he;have hF:=hfit rfl;obtain⟨hal,hcl2⟩:=hF.len;have hvp:=hF.vp;have hvl:p.vars.length<=20:=hcy.vars;have hrow:∀ (i:Nat) (u:List Int),d[i]?=some u->u.length<=50:=fun i u hu=>by
  have hil:=(qql.1 hu).1;have hdl:=hF.dlen;obtain⟨v,hv⟩:∃ v,p.vars[i]?=some v:=⟨_,qqo (by omega)⟩;obtain⟨l,hl⟩:∃ l,c[i]?=some l:=⟨_,qqo (by omega)⟩;obtain⟨z,hz⟩:∃ z,a[i]?=some z:=⟨_,qqo (by omega)⟩;have:=hcl l (qqm hl);rcases hF.row i v l u z hv hl hz hu with ⟨_,rfl⟩|⟨_,rfl⟩|⟨_,_,rfl,_⟩<;>simp<;>omega
 have hcd:HC p d:=⟨by have:=hF.dlen;unfold Fits;omega,fun u hu=>by
  obtain⟨i,hi⟩:=qq2 hu;have:=hrow i u hi;unfold Fits;omega⟩
 have hva:=qcf p d hcy.vq hcd;have hvd:wa p d=true:=by unfold wa;simp[hvp,hF.fit]
 rw[hvd]at hva;simp only[qL,zW]at hva;have hal':(a.length:Int)=p.vars.length:=by omega
 have hcl':(c.length:Int)=p.vars.length:=by omega
 have hdl':(d.length:Int)=p.vars.length:=by have:=hF.dlen;omega
 simp[-getElem?_pos];refine qd.call (G:=jj GG) hva (by simp) ?_;simp[-getElem?_pos,hal',hcl',hdl'];have hhl:p.hard.length<=9000:=hcy.hard;have hVP:=vp_of h hsm hvp;have hass:=qdm hvp hF.all;have hfa:Fits a:=by unfold Fits;omega
 obtain⟨U0,hσ0⟩:∃ U0:St,U0=⟨[.cells (qL p),.cells (zW c),.cells (yi r),.cells (zW d),.cells (yi rr)],[]⟩:=⟨_,rfl⟩;simp only[qL,zW,yi]at hσ0;refine qM.gen (fun m ev U=>∃ k,m=p.hard.length-k/\k<=p.hard.length/\ev 3=.ptr 0 0/\ev 4=.ptr 1 0/\ev 7=.sl 1 (a.map qo) .none/\ev 8=.ptr 3 0/\ev 11=.int .i64 k/\U=U0) p.hard.length ?_ ?_
 . exact⟨0,rfl,by omega,by simp,by simp,by simp,by simp,by simp,by rw[hσ0]⟩
 rintro m ev U R hR ⟨k,rfl,hk,e3,e4,e7,e8,e11,rfl⟩;by_cases hlt:k<p.hard.length
 . have hlt':(k:Int)<p.hard.length:=(by omega);have hw:=wr (n:=(k:Int)+1) (by omega) (by omega);obtain⟨e,he⟩:∃ e,p.hard[k]?=some e:=⟨_,qqo hlt⟩;have hem:=qqm he;obtain⟨t1,t2,t3⟩:=hVP.exprs e (qqX _ hem);have hho:=qkP p a e hVP hfa t1 t2 t3;rw[qma hvp (hF.hard e hem) hass]at hho;simp only[qL,qc e]at hho;simp[-getElem?_pos,e3,e7,e11,hσ0,hlt',he,qc e];refine qd.call (G:=jj GG) hho (by simp) ?_;simp[-getElem?_pos,e11,hw];exact hR _ _ _ (by omega) ⟨k+1,rfl,by omega,by simp[e3],by simp[e4],by simp[e7],by simp[e8],by simp,hσ0.symm⟩
 have hke:k=p.hard.length:=by omega
 subst hke;simp[-getElem?_pos,e3,e11,hσ0];have hcv:wa p c=true:=by unfold wa;simp[hvp,hF.fits]
 obtain⟨H0,hH0⟩:∃ H0:List Blk,H0=[.cells (qL p),.cells (zW c),.cells (yi r),.cells (zW d),.cells (yi rr)]:=⟨_,rfl⟩;have g0:H0[0]?=some (.cells (qL p)):=by rw[hH0];rfl
 have g1:H0[1]?=some (.cells (zW c)):=by rw[hH0];rfl
 have g3:H0[3]?=some (.cells (zW d)):=by rw[hH0];rfl
 simp only[qL]at g0;simp only[zW]at g1 g3;have hleft:=fun k:Nat=>qno p c k hcy.vq hc
 refine qM.gen (fun m ev U=>∃ k,m=p.vars.length-k/\k<=p.vars.length/\ev 3=.ptr 0 0/\ev 4=.ptr 1 0/\ev 7=.sl 1 (a.map qo) .none/\ev 8=.ptr 3 0/\ev 12=.int .i64 k/\∃ T,U=⟨H0,T⟩) p.vars.length ?_ ?_
 . exact⟨0,rfl,by omega,by simp[e3],by simp[e4],by simp[e7],by simp[e8],by simp,[],by rw[hH0];simp[yi]⟩
 clear hR e3 e4 e7 e8 e11;rintro m ev U R hR ⟨k,rfl,hk,e3,e4,e7,e8,e12,T,rfl⟩;by_cases hlt:k<p.vars.length
 . have hlt':(k:Int)<p.vars.length:=(by omega);have hw:=wr (n:=(k:Int)+1) (by omega) (by omega);have hltc:k<c.length:=(by omega);have hltd:k<d.length:=(by have:=hF.dlen;omega);have hlta:k<a.length:=(by omega);obtain⟨v,hv⟩:∃ v,p.vars[k]?=some v:=⟨_,qqo hlt⟩;obtain⟨l,hl⟩:∃ l,c[k]?=some l:=⟨_,qqo hltc⟩;obtain⟨z,hz⟩:∃ z,a[k]?=some z:=⟨_,qqo hlta⟩;obtain⟨u,hu⟩:∃ u,d[k]?=some u:=⟨_,qqo hltd⟩;have hrw:=hF.row k v l u z hv hl hz hu;have fin:∀ ev' T',ev' 3=.ptr 0 0->ev' 4=.ptr 1 0->ev' 7=.sl 1 (a.map qo) .none->ev' 8=.ptr 3 0->ev' 12=.int .i64 ((k:Int)+1)->R ev' ⟨H0,T'⟩:=fun ev' T' a3 a4 a7 a8 a12=>
    hR (p.vars.length-(k+1)) _ _ (by omega) ⟨k+1,rfl,by omega,a3,a4,a7,a8,by rw[a12];simp,T',rfl⟩
   by_cases hm:v.mode=2
   case neg=>
    simp[-getElem?_pos,e3,e7,e12,hal',hlt',hv,qp,hm,hw,g0];exact fin _ _ (by simp[e3]) (by simp[e4]) (by simp[e7]) (by simp[e8]) (by simp)
   have hll:=hcl l (qqm hl);have hul:=hrow k u hu;have ap1:=yx (D:=Dof Tryz.prog) (H:=H0) (T:=T) (s:=([]:List Int)) (m:=l) (en:=qo) (sz:=1) (tok:=.none) (ty:=44) (e:=3) D44 rfl D3 rfl (by omega) rfl (by decide) (by simp;omega) 1 (.inl rfl);have ap2:=yx (D:=Dof Tryz.prog) (H:=H0) (T:=T) (s:=l) (m:=[z]) (en:=qo) (sz:=1) (tok:=.tight) (ty:=44) (e:=3) D44 rfl D3 rfl (by omega) rfl (by decide) (by simp;omega) 1 (.inl rfl);simp only[qqJ,qlm,qhP,qo,qqx,qqQ]at ap1 ap2;have hlz:l++[z]≠[]:=(by simp);rw[W9 hlz]at ap2;have n1:=qaY u (l++[z]) (by unfold Fits;omega) (by unfold Fits;simp;omega);have n2:=qaY u [z] (by unfold Fits;omega) (by simp[Fits]);have hlk:=hleft k;have hle:QN p c k=Vs v.width l:=by
    unfold QN;rw[if_pos ⟨hcv,by omega⟩];have:((k:Int)).toNat=k:=by omega
    rw[this,hv,hl];simp[hm]
   rw[hle]at hlk;have hh:=has32 (Vs v.width l) z (by
    have h1:=(JQ l (w:=v.width) (by have:=qR (zJ hvp v (qqm hv));omega) (by have:=qR (zJ hvp v (qqm hv));omega)).2.1;have h2:=(JQ [] (w:=v.width) (by have:=qR (zJ hvp v (qqm hv));omega) (by have:=qR (zJ hvp v (qqm hv));omega)).2.1;unfold Vs Fits;split<;>omega)
   have hbb:(decide (u=l++[z])=true/\decide (z∈Vs v.width l)=true)\/decide (u=[z])=true:=by
    rcases hrw with ⟨h,_⟩|⟨_,h⟩|⟨_,h0,h1,h2⟩
    . exact absurd hm h
    . exact .inr (decide_eq_true h)
    . left;refine⟨decide_eq_true h1,decide_eq_true ?_⟩;unfold Vs;rw[if_neg (fun e=>by rw[e]at h2;cases h2)];exact h2
   generalize Vs v.width l=L at *;simp only[qL,zW]at hlk;generalize l++[z]=lz at *;simp[-getElem?_pos,e3,e4,e7,e8,e12,hal',hlt',hltc,hltd,hlta,hcl',hdl',hv,hl,hz,hu,qp,qN,hm,g0,g1,g3,ap1,ap2,qh,qw];refine qd.pure (G:=jj GG) n1 (by simp) (by simp) ?_;generalize decide (u=lz)=b1 at *;generalize decide (z∈L)=b2 at *;generalize hb3:decide (u=[z])=b3 at *;simp only[qqx,qqQ,qo]at n2;cases b1
   case false=>
    have hb:b3=true:=(by simpa using hbb);subst hb;simp[-getElem?_pos,e3,e4,e7,e8,e12,hal',hlt',hltc,hltd,hlta,hcl',hdl',hv,hl,hz,hu,qp,qN,hm,g0,g1,g3,qh,qw,unA,hw];refine qd.pure (G:=jj GG) n2 (by simp) (by simp[Leq,zj]) ?_;simp[-getElem?_pos,e3,e4,e7,e8,e12,hal',hlt',hltc,hltd,hlta,hcl',hdl',hv,hl,hz,hu,qp,qN,hm,g0,g1,g3,qh,qw,unA,hw];exact fin _ _ (by simp[e3]) (by simp[e4]) (by simp[e7]) (by simp[e8]) (by simp)
   simp[-getElem?_pos,e3,e4,e7,e8,e12,hal',hlt',hltc,hltd,hlta,hcl',hdl',hv,hl,hz,hu,qp,qN,hm,g0,g1,g3,qh,qw,unA,hw];refine qd.call (G:=jj GG) hlk (by simp) ?_;simp[-getElem?_pos,e3,e4,e7,e8,e12,hal',hlt',hltc,hltd,hlta,hcl',hdl',hv,hl,hz,hu,qp,qN,hm,g0,g1,g3,qh,qw,unA,hw];refine qd.call (G:=jj GG) hh (by simp) ?_;cases b2
   case false=>
    have hb:b3=true:=(by simpa using hbb);subst hb;simp[-getElem?_pos,e3,e4,e7,e8,e12,hal',hlt',hltc,hltd,hlta,hcl',hdl',hv,hl,hz,hu,qp,qN,hm,g0,g1,g3,qh,qw,unA,hw];refine qd.pure (G:=jj GG) n2 (by simp) (by simp[Leq,zj]) ?_;simp[-getElem?_pos,e3,e4,e7,e8,e12,hal',hlt',hltc,hltd,hlta,hcl',hdl',hv,hl,hz,hu,qp,qN,hm,g0,g1,g3,qh,qw,unA,hw];exact fin _ _ (by simp[e3]) (by simp[e4]) (by simp[e7]) (by simp[e8]) (by simp)
   simp[-getElem?_pos,e3,e4,e7,e8,e12,hal',hlt',hltc,hltd,hlta,hcl',hdl',hv,hl,hz,hu,qp,qN,hm,g0,g1,g3,qh,qw,unA,hw];exact fin _ _ (by simp[e3]) (by simp[e4]) (by simp[e7]) (by simp[e8]) (by simp)
 have hke:k=p.vars.length:=by omega
 subst hke;simp[-getElem?_pos,e7,e12,hal'];refine qd.call (G:=jj GG) ha (by simp) ?_;simp[-getElem?_pos,Qk]
end Go.Proofs.YtoibbcnfhhggnaaGreatDoor
end
