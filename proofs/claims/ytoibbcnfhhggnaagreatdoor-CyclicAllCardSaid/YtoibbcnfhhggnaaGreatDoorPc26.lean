/- A part of the proof. -/
import Derived.Test.YtoibbcnfhhggnaaGreatDoorPc25
set_option linter.unusedVariables false
set_option linter.unusedSimpArgs false
set_option maxRecDepth 100000
set_option maxHeartbeats 16000000
set_option linter.defProp false
section
namespace Go.Proofs.YtoibbcnfhhggnaaGreatDoor
open Go Go.Abs
theorem wru {n:Int}(h0:0<=n)(h1:n<18446744073709551616):IntKind.u64.wrap n=n:=by
 simp[IntKind.wrap,IntKind.bits,IntKind.signed];omega
theorem Vd (n:Nat)(h:n<9223372036854775808):Pure Tryz.prog GG 275 [.int .i64 n] (.int .u64 n):=by
 refine Pure.k qe Tryz.func275 rfl (by kernel_rfl) ?_;have h1:=wru (n:=n) (by omega) (by omega);have h2:¬ (n:Int)<0:=by omega
 simp[h2,yU,h1]
theorem qaH (n:Nat)(h:n<18446744073709551616):Pure Tryz.prog GG 276 [.bool false,.int .u64 n] (if n<9223372036854775808 then .tup [.int .i64 n,.int .i64 0] else .tup [.int .i64 0,.int .i64 3]):=by
 refine Pure.k qe Tryz.func276 rfl (by kernel_rfl) ?_;by_cases hn:n<9223372036854775808
 . have h1:=wr (n:=n) (by omega) (by omega);have h2:(n:Int)<9223372036854775808:=(by omega);simp[hn,h2,yU,h1]
 . have h2:¬ (n:Int)<9223372036854775808:=(by omega);simp[hn,h2]
theorem qgf:∀ (b a:Nat),a<18446744073709551616->b<18446744073709551616->Pure Tryz.prog GG 311 [.int .u64 a,.int .u64 b] (.int .u64 (Nat.gcd a b:Nat)):=by
 intro b a ha hb;refine Pure.k qe Tryz.func311 rfl (by kernel_rfl) ?_;simp;refine qL.gen (fun n ev U=>∃ x y:Nat,n=y/\x<18446744073709551616/\y<18446744073709551616/\ev 0=.int .u64 x/\ev 1=.int .u64 y/\Nat.gcd x y=Nat.gcd a b) b ⟨a,b,rfl,ha,hb,by simp,by simp,rfl⟩ ?_;rintro y ev U R hR ⟨x,_,rfl,hx,hy,h0,h1,hg⟩;by_cases hz:y=0
 . subst hz;simp at hg;simp[h0,h1,hg]
 . simp[h0,h1,hz];refine hR (x % y) _ _ (qsZ _ (by omega)) ⟨y,x % y,rfl,hy,qr8 (Nat.mod_le _ _) hx,by simp,by simp[qsg],?_⟩;rw[Nat.gcd_comm y,<- Nat.gcd_rec,Nat.gcd_comm];exact hg
theorem qpT (n m:Nat)(h:n % 4294967296=m):zQ .and .u64 n 4294967295=some (.int .u64 m):=by
 have h1:((BitVec.ofInt 64 n &&& BitVec.ofInt 64 4294967295).toNat:Int)=m:=by
  rw[BitVec.toNat_and,BitVec.toNat_ofInt];have e:(BitVec.ofInt 64 4294967295).toNat=2 ^ 32-1:=by decide
  rw[e,qsx];omega
 show some (AV.int .u64 (IntKind.u64.wrap ((BitVec.ofInt 64 n &&& BitVec.ofInt 64 4294967295).toNat:Int)))=_;rw[h1,wru (by omega) (by omega)]
theorem qhr (n m:Nat)(h:n / 4294967296=m):(n:Int).fdiv 4294967296=m:=by
 rw[qsf _ (by omega)];omega
theorem umul (a b c:Nat)(h:a*b=c)(hc:c<18446744073709551616):zQ .mul .u64 a b=some (.int .u64 c):=by
 show some (AV.int .u64 (IntKind.u64.wrap ((a:Int)*b)))=_;rw[<- qsv,h,wru (by omega) (by omega)]
theorem uadd (a b c:Nat)(h:a+b=c)(hc:c<18446744073709551616):zQ .add .u64 a b=some (.int .u64 c):=by
 show some (AV.int .u64 (IntKind.u64.wrap ((a:Int)+b)))=_;rw[<- Int.natCast_add,h,wru (by omega) (by omega)]
theorem umulw (a b c d:Nat)(h:a*b=18446744073709551616*d+c)(hc:c<18446744073709551616):zQ .mul .u64 a b=some (.int .u64 c):=by
 show some (AV.int .u64 (IntKind.u64.wrap ((a:Int)*b)))=_;rw[<- qsv,h];simp only[IntKind.wrap,IntKind.bits,IntKind.signed];simp;omega
theorem qnm (x:Nat)(hx:x<18446744073709551616):∃ a b:Nat,x % 4294967296=a/\x / 4294967296=b/\x=4294967296*b+a/\a<=4294967295/\b<=4294967295:=⟨_,_,rfl,rfl,by omega,by omega,by omega⟩
theorem pow32:((2:Int) ^ min 32 IntKind.u64.bits)=4294967296:=by decide
theorem qh5 (x y hi lo:Nat)(hx:x<18446744073709551616)(hy:y<18446744073709551616)(hh:x*y=18446744073709551616*hi+lo)(hlo:lo<18446744073709551616) :
 Pure Tryz.prog GG 274 [.int .u64 x,.int .u64 y] (.tup [.int .u64 hi,.int .u64 lo]):=by
 have hlast:=umulw x y lo hi hh hlo;have key:∃ x0 x1 y0 y1 p00 p10 t t0 t1 q r p01 p11 u v w:Nat,zQ .and .u64 x 4294967295=some (.int .u64 x0)/\(x:Int).fdiv 4294967296=x1/\zQ .and .u64 y 4294967295=some (.int .u64 y0)/\(y:Int).fdiv 4294967296=y1 /\
  zQ .mul .u64 x0 y0=some (.int .u64 p00)/\zQ .mul .u64 x1 y0=some (.int .u64 p10)/\(p00:Int).fdiv 4294967296=q/\zQ .add .u64 p10 q=some (.int .u64 t)/\zQ .and .u64 t 4294967295=some (.int .u64 t0)/\(t:Int).fdiv 4294967296=t1 /\
  zQ .mul .u64 x0 y1=some (.int .u64 p01)/\zQ .add .u64 t0 p01=some (.int .u64 r)/\zQ .mul .u64 x1 y1=some (.int .u64 p11)/\zQ .add .u64 p11 t1=some (.int .u64 u)/\(r:Int).fdiv 4294967296=v/\zQ .add .u64 u v=some (.int .u64 hi):=by
  obtain⟨x0,x1,a1,a2,a3,a4,a5⟩:=qnm x hx;obtain⟨y0,y1,b1,b2,b3,b4,b5⟩:=qnm y hy;have m11:=qr4 a5 b5;have m10:=qr4 a5 b4;have m01:=qr4 a4 b5;have m00:=qr4 a4 b4;have hp:x*y=18446744073709551616*(x1*y1)+4294967296*(x1*y0)+4294967296*(x0*y1)+x0*y0:=by
   rw[a3,b3,qq5,qsW,qsW,Nat.mul_mul_mul_comm,qtJ 4294967296 x1 y0,Nat.mul_left_comm x0 4294967296 y1];omega
  rw[hh]at hp;obtain⟨p11,e11⟩:∃ p,x1*y1=p:=⟨_,rfl⟩;obtain⟨p10,e10⟩:∃ p,x1*y0=p:=⟨_,rfl⟩;obtain⟨p01,e01⟩:∃ p,x0*y1=p:=⟨_,rfl⟩;obtain⟨p00,e00⟩:∃ p,x0*y0=p:=⟨_,rfl⟩;rw[e11]at hp m11;rw[e10]at hp m10;rw[e01]at hp m01;rw[e00]at hp m00;obtain⟨q,eq⟩:∃ p,p00 / 4294967296=p:=⟨_,rfl⟩;obtain⟨t,et⟩:∃ p,p10+q=p:=⟨_,rfl⟩;obtain⟨t0,et0⟩:∃ p,t % 4294967296=p:=⟨_,rfl⟩;obtain⟨t1,et1⟩:∃ p,t / 4294967296=p:=⟨_,rfl⟩;obtain⟨r,er⟩:∃ p,t0+p01=p:=⟨_,rfl⟩;obtain⟨u,eu⟩:∃ p,p11+t1=p:=⟨_,rfl⟩;obtain⟨v,ev⟩:∃ p,r / 4294967296=p:=⟨_,rfl⟩;exact⟨x0,x1,y0,y1,p00,p10,t,t0,t1,q,r,p01,p11,u,v,0,qpT _ _ a1,qhr _ _ a2,qpT _ _ b1,qhr _ _ b2,umul _ _ _ e00 (by omega),umul _ _ _ e10 (by omega),qhr _ _ eq,uadd _ _ _ et (by omega),qpT _ _ et0,qhr _ _ et1,
   umul _ _ _ e01 (by omega),uadd _ _ _ er (by omega),umul _ _ _ e11 (by omega),uadd _ _ _ eu (by omega),qhr _ _ ev,uadd _ _ _ (by omega) (by omega)⟩
 clear hx hy hh hlo;obtain⟨x0,x1,y0,y1,p00,p10,t,t0,t1,q,r,p01,p11,u,v,_,k1,k2,k3,k4,k5,k6,k7,k8,k9,k10,k11,k12,k13,k14,k15,k16⟩:=key;refine Pure.k qe Tryz.func274 rfl (by kernel_rfl) ?_;simp[-zQ,pow32,k1,k2,k3,k4,k5,k6,k7,k8,k9,k10,k11,k12,k13,k14,k15,k16,hlast]
def qag (n:Nat):Int×Int:=if n<9223372036854775808 then (n,0) else (0,3)
theorem qhZ (a b:Nat)(ha:a<9223372036854775808)(hb:b<9223372036854775808):Pure Tryz.prog GG 224 [.int .i64 a,.int .i64 b] (.tup [.int .i64 (qag (a*b)).1,.int .i64 (qag (a*b)).2]):=by
 obtain⟨hi,lo,hh,hlo⟩:∃ hi lo,a*b=18446744073709551616*hi+lo/\lo<18446744073709551616:=⟨_,_,(qtt _ _).symm,qsZ _ (by omega)⟩;have hm:=qh5 a b hi lo (by omega) (by omega) hh hlo;have hs1:=Vd a ha;have hs2:=Vd b hb;have hsg:=qaH lo hlo;have h2:¬ (a:Int)<0:=by omega
 have h3:¬ (b:Int)<0:=by omega
 refine Pure.k qe Tryz.func224 rfl (by kernel_rfl) ?_;generalize hr:qag (a*b)=r;clear hm;have hm:=qh5 a b hi lo (by omega) (by omega) hh hlo;simp;refine qc.call hs1 (by simp) ?_;simp;refine qc.call hs2 (by simp) ?_;simp;refine qc.call hm (by simp) ?_;simp;refine⟨fun h0=>?_,fun h0=>?_⟩
 . have h0':¬ a*b<9223372036854775808:=(by omega);simp[qag,h0']at hr;subst hr;simp
 . have:a*b=lo:=by omega
   simp[h2,h3];refine qc.call hsg (by simp) ?_;rw[this]at hr;unfold qag at hr;split at hr<;>subst hr<;>rename_i h<;>simp[h]
theorem lcm249 (a b:Nat)(ha:0<a)(hb:0<b)(ha1:a<9223372036854775808)(hb1:b<9223372036854775808):Pure Tryz.prog GG 272 [.int .i64 a,.int .i64 b] (.tup [.int .i64 (qag (Nat.lcm a b)).1,.int .i64 (qag (Nat.lcm a b)).2]):=by
 have hg:=Nat.gcd_pos_of_pos_left b ha;have hgl:Nat.gcd a b<=a:=Nat.le_of_dvd ha (Nat.gcd_dvd_left a b);have hlcm:a / Nat.gcd a b*b=Nat.lcm a b:=by
  unfold Nat.lcm;exact Nat.div_mul_right_comm (Nat.gcd_dvd_left a b) b
 have hq:a / Nat.gcd a b<=a:=qs1 _ _;obtain⟨g,hge⟩:∃ g,Nat.gcd a b=g:=⟨_,rfl⟩;obtain⟨q,hqe⟩:∃ q,a / g=q:=⟨_,rfl⟩;obtain⟨l,hle⟩:∃ l,Nat.lcm a b=l:=⟨_,rfl⟩;have hd:=qgf b a (by omega) (by omega);rw[hge]at hg hgl hlcm hq hd;rw[hqe]at hlcm hq;rw[hle]at hlcm ⊢;obtain⟨hi,lo,hh,hlo⟩:∃ hi lo,l=18446744073709551616*hi+lo/\lo<18446744073709551616:=⟨_,_,(qtt _ _).symm,qsZ _ (by omega)⟩;have hm:=qh5 q b hi lo (by omega) (by omega) (by omega) hlo;have hs1:=Vd a ha1;have hs2:=Vd b hb1;have hsg:=qaH lo hlo;have ha0:¬ a=0:=by omega
 have hb0:¬ b=0:=by omega
 have hg0:¬ g=0:=by omega
 have hdiv:(a:Int).tdiv g=q:=by
  rw[qsD (by omega)];omega
 have hqu:=wru (n:=q) (by omega) (by omega);generalize hr:qag l=r;refine Pure.k qe Tryz.func272 rfl (by kernel_rfl) ?_;simp[ha0,hb0];refine qc.call hs1 (by simp) ?_;simp;refine qc.call hs1 (by simp) ?_;simp;refine qc.call hs2 (by simp) ?_;simp;refine qc.call hd (by simp) ?_;simp[hg0,hdiv,hqu];refine qc.call hs2 (by simp) ?_;simp;refine qc.call hm (by simp) ?_;simp;refine⟨fun h0=>?_,fun h0=>?_⟩
 . have h0':¬ l<9223372036854775808:=(by omega);simp[qag,h0']at hr;subst hr;simp
 . have:l=lo:=by omega
   refine qc.call hsg (by simp) ?_;rw[this]at hr;unfold qag at hr;split at hr<;>subst hr<;>rename_i h<;>simp[h]
theorem shl1d {w:Int}(h0:0<=w)(h1:w<=30):IntKind.i64.wrap ((2:Int) ^ min w.toNat IntKind.i64.bits)=((2 ^ w.toNat:Nat):Int):=by
 have e:min w.toNat IntKind.i64.bits=w.toNat:=qsc (by show w.toNat<=64;omega);rw[e];have:2 ^ w.toNat<=2 ^ 30:=qqu (by omega) (by omega);have e2:(2:Int) ^ w.toNat=((2 ^ w.toNat:Nat):Int):=by simp
 rw[e2];generalize 2 ^ w.toNat=N at *;exact wr (by omega) (by omega)
theorem qil (w:Weight):Pure Tryz.prog GG 273 [.agg (qE w)] (.int .i64 (if w.each=true then 1 else 0)):=by
 refine Pure.k qe Tryz.func273 rfl (by kernel_rfl) ?_;cases h:w.each<;>simp[h]
theorem isS169 (w:Weight):Pure Tryz.prog GG 223 [.agg (qE w),.int .u8 115] (.bool (!w.each)):=by
 obtain⟨lo,hi,wt,each⟩:=w;have hk:=qil ⟨lo,hi,wt,each⟩;refine Pure.k qe Tryz.func223 rfl (by kernel_rfl) ?_;cases each
 all_goals
  simp at hk;simp;refine qc.call hk (by simp) ?_;simp;refine qc.call hk (by simp) ?_;simp
theorem isE169 (w:Weight):Pure Tryz.prog GG 223 [.agg (qE w),.int .u8 101] (.bool w.each):=by
 obtain⟨lo,hi,wt,each⟩:=w;have hk:=qil ⟨lo,hi,wt,each⟩;refine Pure.k qe Tryz.func223 rfl (by kernel_rfl) ?_;cases each
 all_goals
  simp at hk;simp;refine qc.call hk (by simp) ?_;simp;refine qc.call hk (by simp) ?_;simp
theorem qdo (w:Weight)(h0:0<=w.lo)(h1:w.lo<=w.hi)(h2:w.hi<=65535):Pure Tryz.prog GG 225 [.agg (qE w)] (.int .i64 (w.hi-w.lo+1)):=by
 refine Pure.k qe Tryz.func225 rfl (by kernel_rfl) ?_;have e1:IntKind.i64.wrap (w.hi-w.lo)=w.hi-w.lo:=wr (by omega) (by omega);have e2:IntKind.i64.wrap (w.hi-w.lo+1)=w.hi-w.lo+1:=wr (by omega) (by omega);simp[e1,e2]
def qpO (N:Int)(w:Weight):Bool:=decide (w.lo<0)||decide (w.hi<w.lo)||decide (N-1<w.hi)||decide (w.weight<0)||decide (1000<w.weight)
def vk (l:List Weight)(width:Int):Int :=
 if width<1\/8<width then 1 else if 16<l.length then 2 else if l.length=0 then 1 else if l.any (qpO ((2 ^ width.toNat:Nat):Int))=true then 1 else 0
theorem qi0 (l:List Weight)(hl:Fits l)(width:Int):Pure Tryz.prog GG 220 [.sl 4 (l.map qE) .none,.int .i64 width] (.int .i64 (vk l width)):=by
 refine Pure.k qe Tryz.func220 rfl (by kernel_rfl) ?_;generalize hr:vk l width=r;unfold vk at hr;by_cases hw:width<1\/8<width
 . rw[if_pos hw]at hr;subst hr;rcases hw with h|h
   . simp[h]
   . have:¬ width<1:=by omega
     simp[h,this]
 . rw[if_neg hw]at hr;have h1:¬ width<1:=(by omega);have h2:¬ 8<width:=(by omega);have h3:¬ width<0:=(by omega);have hsh:=shl1d (w:=width) (by omega) (by omega);by_cases hb:16<l.length
   . rw[if_pos hb]at hr;subst hr;have hb':(16:Int)<l.length:=(by omega);simp[h1,h2,hb']
   . rw[if_neg hb]at hr;by_cases hz:l.length=0
     . rw[if_pos hz]at hr;subst hr;have hz':l=[]:=qqj hz;subst hz';simp[h1,h2]
     . rw[if_neg hz]at hr;have hNb:2 ^ width.toNat<=2 ^ 8:=qqu (by omega) (by omega);have hNp:0<2 ^ width.toNat:=Nat.pow_pos (by omega);generalize 2 ^ width.toNat=N at hr hsh hNb hNp;have hN1:IntKind.i64.wrap ((N:Int)-1)=N-1:=wr (by omega) (by omega);have hb':¬ (16:Int)<l.length:=(by omega);have hz':l≠[]:=fun e=>hz (by rw[e];rfl)
       simp[h1,h2,hb',hz'];refine qL.listR l (fun d ev U=>ev 0=.sl 4 (l.map qE) .none/\ev 1=.int .i64 width/\ev 22=.sl 4 (l.map qE) .none/\ev 23=.int .i64 l.length/\ev 24=.int .i64 d.length/\d.any (qpO N)=false) ?_ ?_ ?_
       . simp
       . rintro d w rest ev U R hR hd hx hlt ⟨e0,e1,e22,e23,e24,ha⟩;have hdw:IntKind.i64.wrap ((d.length:Int)+1)=(d.length+1:Nat):=(by rw[wr (by omega) (by omega)];omega);have hbad:qpO N w=true->r=1:=fun h=>by
          have:l.any (qpO N)=true:=by rw[hd];simp[h]
          rw[if_pos this]at hr;exact hr.symm
         simp[-getElem?_pos,e0,e1,e22,e23,e24,hlt,hx,h3,hsh,hN1,hdw]
         repeat' first | (with_reducible refine And.intro ?_ ?_) | (intro _)
         all_goals first
          | exact (hbad (by unfold qpO;simp;omega)).symm
          | exact hR _ _ ⟨by simp[e0],by simp[e1],by simp[e22],by simp[e23],by simp,by simp[qpO,ha];omega⟩
       . rintro ev U ⟨e0,e1,e22,e23,e24,ha⟩;rw[if_neg (by rw[ha];simp)]at hr;subst hr;simp[-getElem?_pos,e23,e24]
def YQ (l:List Weight)(v:Int):Option Weight:=l.find? fun w=>decide (w.lo<=v)&&decide (v<=w.hi)
theorem qk8 (l:List Weight)(hl:Fits l)(v:Int):Pure Tryz.prog GG 222 [.sl 4 (l.map qE) .none,.int .i64 v]
 (match YQ l v with | some w=>.tup [.agg (qE w),.bool true] | none=>.tup [.agg (qE ⟨0,0,0,false⟩),.bool false]):=by
 refine Pure.k qe Tryz.func222 rfl (by kernel_rfl) ?_;generalize hr:YQ l v=r;unfold YQ at hr;simp;refine qL.listR l (fun d ev U=>ev 0=.sl 4 (l.map qE) .none/\ev 1=.int .i64 v/\ev 4=.ptr 0 0/\ev 8=.sl 4 (l.map qE) .none/\ev 9=.int .i64 l.length/\ev 10=.int .i64 d.length/\(∃ t,U=⟨.cells (qE ⟨0,0,0,false⟩)::t,[]⟩)/\∀ w∈d,¬ (w.lo<=v/\v<=w.hi)) ?_ ?_ ?_
 . simp
 . rintro d w rest ev U R hR hd hx hlt ⟨e0,e1,e4,e8,e9,e10,⟨t,rfl⟩,ha⟩;have hdw:IntKind.i64.wrap ((d.length:Int)+1)=(d.length+1:Nat):=(by rw[wr (by omega) (by omega)];omega);by_cases hc:w.lo<=v/\v<=w.hi
   . have:r=some w:=by
      rw[<- hr,hd,List.find?_append,qsS.2 (fun x hx=>by have:=ha x hx;simp;omega)];simp[hc]
     subst this;simp[-getElem?_pos,e0,e1,e4,e8,e9,e10,hlt,hx,hc]
   . have hgo:=hR;simp[-getElem?_pos,e0,e1,e4,e8,e9,e10,hlt,hx,hdw]
     repeat' first | (with_reducible refine And.intro ?_ ?_) | (intro _)
     all_goals first
      | (exfalso;omega)
      | exact hR _ _ ⟨by simp[e0],by simp[e1],by simp[e4],by simp[e8],by simp[e9],by simp,⟨_,rfl⟩,fun x hx=>by
       rcases qqo.1 hx with h|h
       . exact ha x h
       . simp at h;subst h;exact hc⟩
 . rintro ev U ⟨e0,e1,e4,e8,e9,e10,⟨t,rfl⟩,ha⟩;have:r=none:=by
    rw[<- hr,qsS];intro x hx;have:=ha x hx;simp;omega
   subst this;simp[-getElem?_pos,e4,e9,e10]
def wsz (w:Weight):Nat:=(w.hi-w.lo+1).toNat
def WOk (l:List Weight):Prop:=∀ w∈l,0<=w.lo/\w.lo<=w.hi/\w.hi<=255/\0<=w.weight/\w.weight<=1000
theorem Yg {l:List Weight}{width:Int}(h:vk l width=0):WOk l/\l.length<=16/\l≠[]:=by
 unfold vk at h;split at h
 . cases h
 . rename_i hw;split at h
   . cases h
   . split at h
     . cases h
     . rename_i h1 h2;split at h
       . cases h
       . rename_i hb;refine⟨fun w hw=>?_,by omega,fun e=>h2 (by rw[e];rfl)⟩;have hNb:2 ^ width.toNat<=2 ^ 8:=qqu (by omega) (by omega);generalize 2 ^ width.toNat=N at *;simp only[qqr,not_exists,not_and,Bool.not_eq_true]at hb;have:=hb w hw;unfold qpO at this;simp at this;omega
def jf:List Weight->Nat->Int×Int
 | [],s=>(s,0)
 | w::r,s=>if w.each=true then jf r s else if Nat.lcm s (wsz w)<9223372036854775808 then jf r (Nat.lcm s (wsz w)) else (0,3)
theorem WX {w:Weight}(h:w.lo<=w.hi):0<wsz w:=by unfold wsz;omega
theorem qkD (l:List Weight)(hl:l.length<=1000)(hw:WOk l):Pure Tryz.prog GG 221 [.sl 4 (l.map qE) .none] (.tup [.int .i64 (jf l 1).1,.int .i64 (jf l 1).2]):=by
 refine Pure.k qe Tryz.func221 rfl (by kernel_rfl) ?_;generalize hr:jf l 1=r;simp;refine qL.listR l (fun d ev U=>ev 0=.sl 4 (l.map qE) .none/\ev 8=.sl 4 (l.map qE) .none/\ev 9=.int .i64 l.length/\ev 10=.int .i64 d.length/\∃ s:Nat,ev 4=.int .i64 s/\0<s/\s<9223372036854775808/\jf (l.drop d.length) s=r) ?_ ?_ ?_
 . exact⟨by simp,by simp,by simp,by simp,1,by simp,by omega,by omega,by simpa using hr⟩
 . rintro d w rest ev U R hR hd hx hlt ⟨e0,e8,e9,e10,s,e4,hs0,hs1,hsc⟩;have hdw:IntKind.i64.wrap ((d.length:Int)+1)=(d.length+1:Nat):=(by rw[wr (by omega) (by omega)];omega);obtain⟨w0,w1,w2,w3,w4⟩:=hw w (qp6 hx);have hdr:l.drop d.length=w::l.drop (d.length+1):=(by rw[hd];simp);rw[hdr]at hsc;have hwp:=WX w1;have hsz:(wsz w:Int)=w.hi-w.lo+1:=(by unfold wsz;omega);have h1:=isS169 w;have h2:=qdo w w0 w1 (by omega);have h3:=lcm249 s (wsz w) hs0 hwp hs1 (by omega);rw[hsz]at h3;have hlp:=Nat.lcm_pos hs0 hwp;have hgo:∀ (s':Nat) (ev':Env) (U':St),0<s'->s' < 9223372036854775808->jf (l.drop (d.length+1)) s'=r->ev' 0=.sl 4 (l.map qE) .none->ev' 8=.sl 4 (l.map qE) .none->ev' 9=.int .i64 l.length->ev' 10=.int .i64 (d.length+1:Nat)->ev' 4=.int .i64 s'->R ev' U':=fun s' ev' U' a1 a2 a3 a4 a5 a6 a7 a8=>
    hR _ _ ⟨a4,a5,a6,by simpa using a7,s',a8,a1,a2,by simpa using a3⟩
   obtain⟨lo,hi,wt,each⟩:=w;simp[-getElem?_pos,e0,e8,e9,e10,hlt,hx];refine qc.call h1 (by simp) ?_;cases each
   . simp only[jf,qqq,if_false]at hsc;simp[-getElem?_pos,e4];refine qc.call h2 (by simp) ?_;simp[-getElem?_pos,e4];refine qc.call h3 (by simp) ?_;generalize Nat.lcm s (wsz ⟨lo,hi,wt,false⟩)=L at hsc hlp ⊢;by_cases hL:L<9223372036854775808
     . rw[if_pos hL]at hsc;simp[-getElem?_pos,qag,hL,e10,hdw];exact hgo L _ _ hlp hL hsc (by simp[e0]) (by simp[e8]) (by simp[e9]) (by simp) (by simp)
     . rw[if_neg hL]at hsc;subst hsc;simp[-getElem?_pos,qag,hL]
   . simp only[jf,if_true]at hsc;simp[-getElem?_pos,e10,hdw];exact hgo s _ _ hs0 hs1 hsc (by simp[e0]) (by simp[e8]) (by simp[e9]) (by simp) (by simp[e4])
 . rintro ev U ⟨e0,e8,e9,e10,s,e4,hs0,hs1,hsc⟩;rw[qsn]at hsc;simp only[jf]at hsc;subst hsc;simp[-getElem?_pos,e9,e10,e4]
theorem kQ:∀ (l:List Weight) (s:Nat),WOk l->0<s->s<9223372036854775808->((jf l s).2=0/\0<(jf l s).1/\(jf l s).1<9223372036854775808)\/jf l s=(0,3)
 | [],s,_,h0,h1=>.inl ⟨rfl,by simp only[jf];omega,by simp only[jf];omega⟩
 | w::r,s,hw,h0,h1=>by
  have hr:WOk r:=fun x hx=>hw x (by simp[hx])
  have hwp:=WX (hw w (by simp)).2.1;simp only[jf];split
  . exact kQ r s hr h0 h1
  . split
    . rename_i h;exact kQ r _ hr (Nat.lcm_pos h0 hwp) h
    . exact .inr rfl
def QI (l:List Weight)(s:Nat)(v:Int):Int×Int:=match YQ l v with
 | none=>(0,0)
 | some w=>if w.each=true then qag (w.weight.toNat*s) else qag (w.weight.toNat*(s / wsz w))
theorem qgK (l:List Weight)(hl:l.length<=1000)(hw:WOk l)(s:Nat)(hs:s<9223372036854775808)(v:Int):Pure Tryz.prog GG 173 [.sl 4 (l.map qE) .none,.int .i64 s,.int .i64 v] (.tup [.int .i64 (QI l s v).1,.int .i64 (QI l s v).2]):=by
 have ho:=qk8 l (by unfold Fits;omega) v;refine Pure.k qe Tryz.func173 rfl (by kernel_rfl) ?_;generalize hr:QI l s v=r;unfold QI at hr;simp;refine qc.call ho (by simp) ?_
 cases hf:YQ l v with
 | none=>
  rw[hf]at hr;simp only at hr;subst hr;simp
 | some w=>
  rw[hf]at hr;simp only at hr;obtain⟨w0,w1,w2,w3,w4⟩:=hw w (qti hf);have h1:=isE169 w;have h2:=qdo w w0 w1 (by omega);have hwp:=WX w1;have hsz:(wsz w:Int)=w.hi-w.lo+1:=by unfold wsz;omega
  rw[<- hsz]at h2;obtain⟨k,hk⟩:∃ k:Nat,w.weight=k:=⟨w.weight.toNat,by omega⟩;have hm1:=qhZ k s (by omega) hs;have hq:s / wsz w<=s:=qs1 _ _;have hm2:=qhZ k (s / wsz w) (by omega) (by omega);have hkt:w.weight.toNat=k:=by omega
  rw[hkt]at hr;generalize hz:wsz w=z at *;have hz0:¬ z=0:=by omega
  obtain⟨q,hqe⟩:∃ q,s / z=q:=⟨_,rfl⟩;have hdiv:(s:Int).tdiv z=q:=by
   rw[qsD (by omega)];omega
  rw[hqe]at hm2 hr hq;have hqu:=wr (n:=q) (by omega) (by omega);clear hsz hwp w0 w1 w2 w3 w4 hkt hz;obtain⟨lo,hi,wt,each⟩:=w;simp only at hk;subst hk;cases each
  . simp only[qqq,if_false]at hr;subst hr;simp[-getElem?_pos];refine qc.call h1 (by simp) ?_;simp[-getElem?_pos];refine qc.call h2 (by simp) ?_;simp[-getElem?_pos,hz0,hdiv,hqu];refine qc.call hm2 (by simp) ?_;simp
  . simp only[if_true]at hr;subst hr;simp[-getElem?_pos];refine qc.call h1 (by simp) ?_;simp[-getElem?_pos];refine qc.call hm1 (by simp) ?_;simp
theorem qkE (l:List Weight)(hl:l.length<=1000):Pure Tryz.prog GG 172 [.sl 4 (l.map qE) .none]
 (.tup [.int .i64 (if vk l 8=0 then (jf l 1).1 else 0),.int .i64 (if vk l 8=0 then (jf l 1).2 else vk l 8)]):=by
 have hv:=qi0 l (by unfold Fits;omega) 8;refine Pure.k qe Tryz.func172 rfl (by kernel_rfl) ?_;simp;refine qc.call hv (by simp) ?_;by_cases h:vk l 8=0
 . simp[h];refine qc.call (qkD l hl (Yg h).1) (by simp) ?_;simp
 . simp[h]
def yi (l:List Weight)(v:Int):Int×Int :=
 if vk l 8≠0 then (0,vk l 8) else if (jf l 1).2≠0 then (0,(jf l 1).2) else QI l (jf l 1).1.toNat v
theorem qj5 (l:List Weight)(hl:l.length<=1000)(v:Int):Pure Tryz.prog GG 126 [.sl 4 (l.map qE) .none,.int .i64 v] (.tup [.int .i64 (yi l v).1,.int .i64 (yi l v).2]):=by
 have hs:=qkE l hl;refine Pure.k qe Tryz.func126 rfl (by kernel_rfl) ?_;generalize hr:yi l v=r;unfold yi at hr;simp;refine qc.call hs (by simp) ?_;by_cases h:vk l 8=0
 . have hw:=(Yg h).1;rw[if_neg (by simp[h])]at hr;rcases kQ l 1 hw (by omega) (by omega) with ⟨h1,h2,h3⟩|h1
   . rw[if_neg (by simp[h1])]at hr;have he:=qgK l hl hw (jf l 1).1.toNat (by omega) v;have e:(((jf l 1).1.toNat:Nat):Int)=(jf l 1).1:=(by omega);rw[e]at he;simp[h,h1];refine qc.call he (by simp) ?_;subst hr;simp
   . rw[h1]at hr;simp at hr;subst hr;simp[h,h1]
 . rw[if_pos h]at hr;subst hr;simp[h]
theorem Wk (n:Nat):sat n=min n 1099511627777:=rfl
theorem qhG (a b:Nat)(ha:a<=lim)(hb:b<=lim):Pure Tryz.prog GG 182 [.int .i64 a,.int .i64 b] (.int .i64 (sat (a+b):Nat)):=by
 refine Pure.k qe Tryz.func182 rfl (by kernel_rfl) ?_;unfold lim at ha hb;have hw:=wr (n:=(a:Int)+b) (by omega) (by omega);have hm:Qx (.int .i64 ((a:Int)+b)) (.int .i64 1099511627777)=some (.int .i64 (sat (a+b):Nat)):=by
  simp only[Qx,Wk];congr 2;split<;>omega
 simp[-getElem?_pos,hw,hm]
theorem qdA (a b:Nat)(ha:a<=lim)(hb:b<=lim):Pure Tryz.prog GG 183 [.int .i64 a,.int .i64 b] (.int .i64 (sat (a*b):Nat)):=by
 refine Pure.k qe Tryz.func183 rfl (by kernel_rfl) ?_;unfold lim at ha hb;by_cases h1:a=0
 . subst h1;simp[-getElem?_pos,Wk]
 by_cases h2:b=0
 . subst h2;simp[-getElem?_pos,h1,Wk]
 have hq:(1099511627777:Int).tdiv (b:Int)=((1099511627777 / b:Nat):Int):=by
  rw[qsD (by omega)];simp
 have hqle:1099511627777 / b<=1099511627777:=qs1 _ _;have hwq:IntKind.i64.wrap ((1099511627777 / b:Nat):Int)=((1099511627777 / b:Nat):Int):=by
  generalize 1099511627777 / b=q at *;exact wr (by omega) (by omega)
 have h2':¬ (b:Int)=0:=by omega
 have h1':¬ (a:Int)=0:=by omega
 by_cases hgt:1099511627777 / b<a
 . have hgt':((1099511627777 / b:Nat):Int)<(a:Int):=Int.ofNat_lt.2 hgt;have hs:sat (a*b)=1099511627777:=by
    have:1099511627777<a*b:=(Nat.div_lt_iff_lt_mul (by omega)).1 hgt;rw[Wk];omega
   generalize 1099511627777 / b=q at *;simp[-getElem?_pos,-zQ,qaY,qaZ,qm6,h1,h2,h1',h2',hs,show zQ .quo .i64 1099511627777 b=some (.int .i64 (q:Int)) by simp only[zQ];rw[if_neg h2',hq,hwq],hgt]
 . have hgt':¬ ((1099511627777 / b:Nat):Int)<(a:Int):=fun h=>hgt (Int.ofNat_lt.1 h)
   have hle:a*b<=1099511627777:=(Nat.le_div_iff_mul_le (by omega)).1 (by omega);have hww:=wr (n:=(a:Int)*b) (by
    have:(0:Int)<=(a:Int)*b:=by rw[<- qsv];omega
    omega) (by
    rw[<- qsv];omega)
   have hm:Qx (.int .i64 ((a:Int)*b)) (.int .i64 1099511627777)=some (.int .i64 (sat (a*b):Nat)):=by
    simp only[Qx,Wk];rw[<- qsv];congr 2;split<;>omega
   generalize hqq:1099511627777 / b=q at *;simp[-getElem?_pos,-zQ,qaY,op_mul,qm6,h1,h2,h1',h2',show zQ .quo .i64 1099511627777 b=some (.int .i64 (q:Int)) by simp only[zQ];rw[if_neg h2',hq,hwq],hgt,hww,hm]
def jg (n:Nat)(l:List Dist):List (Option (List Weight)):=l.foldl (fun o d=>o.set d.var.toNat (some d.weights)) (List.replicate n none)
def qiZ (o:Option (List Weight)):List AV:=match o with
 | none=>[.sl 0 [] .nil]
 | some w=>[.sl 4 (w.map qE) .none]
theorem y8 (n:Nat)(l:List Dist):(jg n l).length=n:=by
 have:∀ (l:List Dist) (o:List (Option (List Weight))),(l.foldl (fun o d=>o.set d.var.toNat (some d.weights)) o).length=o.length:=by
  intro l
  induction l with
  | nil=>intro o;rfl
  | cons a r ih=>intro o;rw[qqV,ih];simp
 unfold jg;rw[this];simp
theorem Y1 (n:Nat)(l:List Dist)(d:Dist):jg n (l++[d])=(jg n l).set d.var.toNat (some d.weights):=by simp[jg,qrj]
theorem qfW {n:Nat}:∀ {l:List Dist} {w:List Weight},some w∈jg n l->∃ d∈l,d.weights=w:=by
 have gen:∀ (l:List Dist) (o:List (Option (List Weight))) (w:List Weight),some w∈l.foldl (fun o d=>o.set d.var.toNat (some d.weights)) o->some w∈o\/∃ d∈l,d.weights=w:=by
  intro l
  induction l with
  | nil=>intro o w h;exact .inl h
  | cons a r ih=>
   intro o w h;rw[qqV]at h;rcases ih _ w h with h|⟨d,hd,he⟩
   . rcases qrU h with h|h
     . exact .inl h
     . cases h;exact .inr ⟨a,by simp,rfl⟩
   . exact .inr ⟨d,by simp[hd],he⟩
 intro l w h;rcases gen l _ w h with h|h
 . rw[qrF]at h;cases h.2
 . exact h
def WFn (p:Problem)(L LL:Nat)(H:List Blk):Prop:=∃ c,H[L]?=some (.cells [c])/\(p.vars≠[]->c=.ms LL 0 p.vars.length 1/\H[LL]?=some (.cells ((jg p.vars.length p.dists).flatMap qiZ)))
def WghQ (p:Problem)(H:List Blk)(r:AV)(U':St):Prop:=KpL [] H U'.H/\∃ L LL,r=.fn 125 [] [.ptr L 0]/\H.length<=L/\H.length<=LL/\WFn p L LL U'.H
theorem qiY (o:Option (List Weight)):(qiZ o).length=1:=by cases o<;>rfl
theorem qj6 (p:Problem)(h:VQ p)(hv:qi p=0)(H:List Blk)(T:List (Option Nat)):qg Tryz.prog GG 91 [.agg (qJ p)] ⟨H,T⟩ (WghQ p H):=by
 refine qg.k qe Tryz.func91 rfl (by kernel_rfl) ?_;have hvd:=qgY hv;have hvl:=h.vars;have hdf:=h.dists;by_cases hv0:p.vars=[]
 . have hd0:p.dists=[]:=by
    apply qs0.2;intro d hd;obtain⟨i,v,_,hi⟩:=hvd d hd;rw[hv0]at hi;simp at hi
   have fin:∀ (u:List Blk) (T':List (Option Nat)) (B0:Blk) (c:AV),WghQ p H (.fn 125 [] [.ptr (H.length+1) 0]) ⟨H++B0::.cells [c]::u,T'⟩:=fun u T' B0 c=>⟨KpL.app,H.length+1,H.length+1,rfl,by omega,by omega,c,lk1,fun hn=>absurd hv0 hn⟩
   simp[-getElem?_pos,hv0,hd0,qw];refine qL.gen (fun m ev U=>ev 3=.ptr (H.length+1) 0/\ev 12=.int .i64 0/\ev 13=.int .i64 0/\∃ B0 c u T',U=⟨H++B0::.cells [c]::u,T'⟩) 0 ⟨by simp,by simp,by simp,_,_,_,_,rfl⟩ ?_;rintro m ev U R hR ⟨e3,e12,e13,B0,c,u,T',rfl⟩;simp[-getElem?_pos,e3,e12,e13];exact fin _ _ _ _
 . have hpos:=qql.2 hv0;have hne:¬ (p.vars.length:Int)=0:=(by omega);have hle:(p.vars.length:Int)<=549755813888:=(by omega);simp[-getElem?_pos,hv0,hne,hle,qw];refine qL.listR p.dists (fun d ev U=>ev 3=.ptr (H.length+2) 0/\ev 11=.sl 2 (p.dists.map zM) .none/\ev 12=.int .i64 p.dists.length/\ev 13=.int .i64 d.length/\KpL [] H U.H/\U.H[H.length+2]?=some (.cells [.ms (H.length+1) 0 p.vars.length 1])/\U.H[H.length+1]?=some (.cells ((jg p.vars.length d).flatMap qiZ))) ?_ ?_ ?_
   . refine⟨by simp,by simp,by simp,by simp,KpL.app,lk2,?_⟩;have:(jg p.vars.length []).flatMap qiZ=List.replicate p.vars.length (.sl 0 [] .nil):=by
      show (List.replicate p.vars.length none).flatMap qiZ=_;rw[qrQ,qsQ];show (List.replicate p.vars.length [AV.sl 0 [] .nil]).flatten=_;simp
     rw[this];exact lk1
   . rintro d x rest ev ⟨H1,T1⟩ R hR hd hx hlt ⟨e3,e11,e12,e13,hkp,b2,b1⟩;dsimp only at hkp b2 b1;have hdw:=wr (n:=(d.length:Int)+1) (by unfold Fits at hdf;omega) (by unfold Fits at hdf;omega);have hlt':(d.length:Int)<p.dists.length:=(by omega);obtain⟨i,v,hi,hvi⟩:=hvd x (qp6 hx);have hil:=(qp5.1 hvi).1;have hil':(i:Int)<p.vars.length:=(by omega);have hi1:i+1<=p.vars.length:=hil;have hll:=y8 p.vars.length d;have hfl:=Go.Abs.jj (sz:=1) qiY (jg p.vars.length d);rw[hll,Nat.mul_one]at hfl;have hset:((jg p.vars.length d).flatMap qiZ).set i (.sl 4 (x.weights.map qE) .none)=(jg p.vars.length (d++[x])).flatMap qiZ:=by
      have:=Qi qiY (jg p.vars.length d) i (some x.weights) (by omega);rw[Y1,hi,qq7,<- this];simp[qiZ,zt]
     have hl1:=(qp5.1 b1).1;generalize (jg p.vars.length d).flatMap qiZ=F at *;simp[-getElem?_pos,e3,e11,e12,e13,hlt,hlt',hx,qa b2,qa b1,yO b1,hi,hil',hfl,hi1,hset,hdw];refine hR _ _ ⟨by simp[e3],by simp[e11],by simp[e12],by simp,(hkp.setF (by omega)).trans KpL.app,qa (by rw[qp7 (by omega)];exact b2) _,qa (qqa hl1) _⟩
   . rintro ev ⟨H1,T1⟩ ⟨e3,e11,e12,e13,hkp,b2,b1⟩;dsimp only at hkp b2 b1;simp[-getElem?_pos,e3,e12,e13];exact⟨hkp,H.length+2,H.length+1,rfl,by omega,by omega,_,b2,fun _=>⟨rfl,b1⟩⟩
def wtO (o:Option (List Weight))(v:Int):Nat:=match o with
 | none=>1
 | some w=>if (yi w v).2≠0 then lim else sat (yi w v).1.toNat
theorem wtO_le (o:Option (List Weight))(v:Int):wtO o v<=lim:=by
 unfold wtO;split
 . unfold lim;omega
 . split
   . exact qqf _
   . exact qaN _
theorem qpp (n:Nat):0<=(qag n).1:=by
 unfold qag;split<;>simp
theorem qe8 (l:List Weight)(v:Int):0<=(yi l v).1:=by
 unfold yi;split
 . simp
 . split
   . simp
   . unfold QI;split
     . simp
     . split<;>exact qpp _
def qdb (o:Option (List Weight)):AV:=match o with
 | none=>.sl 0 [] .nil
 | some w=>.sl 4 (w.map qE) .none
theorem qpA (o:Option (List Weight)):qiZ o=[qdb o]:=by cases o<;>rfl
theorem flatL (l:List (Option (List Weight))):l.flatMap qiZ=l.map qdb:=by
 induction l with
 | nil=>rfl
 | cons a r ih=>rw[qqs,ih,qpA];rfl
theorem map_drop {α:Type}(f:α->AV){l:List α}{i:Nat}{x:α}(h:l[i]?=some x):(l.map f).drop i=f x::(l.map f).drop (i+1):=by
 obtain⟨h1,h2⟩:=qp5.1 h;rw[qqt (by simpa using h1),qrA,h2]
theorem qdr (p:Problem){L LL:Nat}{H:List Blk}(hw:WFn p L LL H){i:Nat}{o:Option (List Weight)}(hi:(jg p.vars.length p.dists)[i]?=some o)(ho:∀ w,o=some w->w≠[]/\w.length<=1000)(v:Int)(T:List (Option Nat)) :
 qg Tryz.prog GG 125 [.int .i64 (i:Int),.int .i64 v,.ptr L 0] ⟨H,T⟩ (fun r U'=>r=.int .i64 (wtO o v:Nat)/\U'=⟨H,T⟩):=by
 refine qg.k qe Tryz.func125 rfl (by kernel_rfl) ?_;have hil:=(qp5.1 hi).1;rw[y8]at hil;have hne:p.vars≠[]:=fun e=>by rw[e]at hil;simp at hil
 obtain⟨c,hL,hc⟩:=hw;obtain⟨rfl,hLL⟩:=hc hne;rw[flatL]at hLL;have hdr:=map_drop qdb hi;have hlen:((jg p.vars.length p.dists).map qdb).length=p.vars.length:=by rw[qqI,y8]
 have hil':(i:Int)<p.vars.length:=by omega
 have hi1:i+1<=p.vars.length:=hil;generalize (jg p.vars.length p.dists).map qdb=F at *
 cases o with
 | none=>
  simp[-getElem?_pos,hL,hLL,hil',hi1,hlen,hdr,qdb,qS,ZP,TD.isSl,wtO]
 | some w=>
  obtain⟨hwn,hwl⟩:=ho w rfl;obtain⟨a,r,rfl⟩:=qsh hwn;have h51:=qj5 (a::r) hwl v;have hnn:=qe8 (a::r) v;have hwt:wtO (some (a::r)) v=if (yi (a::r) v).2≠0 then lim else sat (yi (a::r) v).1.toNat:=rfl
  rw[hwt];generalize yi (a::r) v=wd at *;obtain⟨x,e⟩:=wd;simp only at hnn h51 ⊢;have hm:Qx (.int .i64 x) (.int .i64 1099511627777)=some (.int .i64 (sat x.toNat:Nat)):=by
   simp only[Qx,Wk];congr 2;split<;>omega
  simp[-getElem?_pos,hL,hLL,hil',hi1,hlen,hdr,qdb,qS,ZP,TD.isSl];refine qc.call (by simpa using h51) (by simp) ?_;by_cases he:e=0
  . simp[-getElem?_pos,he,hm]
  . simp[-getElem?_pos,he,lim]
structure Spc where
 S:Nat
 L:Nat
 LL:Nat
 p:Problem
 R:List Ex
 rtok:Tok
 lv:List Int
 dv:AV
 root:Nat
 small:Bool
def spE (s:Spc):List AV:=qJ s.p++[.sl 4 (s.R.map qs) s.rtok,.sl 1 (s.lv.map qy) .none,s.dv,.int .i64 s.root,.bool s.small,.fn 125 [] [.ptr s.L 0]]
structure SpOk (s:Spc)(H:List Blk):Prop where
 c:H[s.S]?=some (.cells (spE s))
 w:WFn s.p s.L s.LL H
 b:s.LL<H.length
theorem SpOk.keep {s:Spc}{H H':List Blk}{bs:List Nat}(h:SpOk s H)(hk:KpL bs H H')(h1:s.S∉bs)(h2:s.L∉bs)(h3:s.LL∉bs):SpOk s H':=by
 refine⟨hk.2 _ _ h.c h1,?_,qqn h.b hk.1⟩;obtain⟨c,hL,hc⟩:=h.w;exact⟨c,hk.2 _ _ hL h2,fun hn=>⟨(hc hn).1,hk.2 _ _ (hc hn).2 h3⟩⟩
theorem qlN {d:List Nd}(h:DagOk d){f:Nat}(hf:f<d.length)(L:Nat)(o:Bool):vA d f L o<d.length:=by
 have hn:=qp8 hf;unfold vA;rw[hn];simp only;split
 . by_cases h2:2<=f
   . obtain⟨g1,g2,g3,g4,g5,g6⟩:=h.node f _ h2 hn;split<;>omega
   . have ht:=h.two;have:f=0\/f=1:=by omega
     rcases this with rfl|rfl
     . have e:=h.n0;rw[hn]at e;rw[Option.some.inj e];split<;>simp<;>omega
     . have e:=h.n1;rw[hn]at e;rw[Option.some.inj e];split<;>simp<;>omega
 . exact hf
def w6 (d:List Nd)(l w:Nat)(v:Nat)(node:Nat)(k:Nat):Nat:=(List.range k).foldl (fun node k=>vA d node (l+k) (v.testBit (w-1-k))) node
theorem Z8 (d:List Nd)(l w v node k:Nat):w6 d l w v node (k+1)=vA d (w6 d l w v node k) (l+k) (v.testBit (w-1-k)):=by simp[w6,qrE,qrj]
theorem J6 {d:List Nd}(h:DagOk d){node:Nat}(hn:node<d.length)(l w v:Nat):∀ k,w6 d l w v node k<d.length
 | 0=>hn
 | k+1=>by rw[Z8];exact qlN h (J6 h hn l w v k) _ _
theorem qmG (n i:Nat)(hn:n<2 ^ 63):zQ .and .i64 ((n:Int).fdiv (2 ^ i)) 1=some (.int .i64 (if n.testBit i=true then 1 else 0)):=by
 rw[qjM n i hn];cases n.testBit i<;>rfl
theorem WP {s:Spc}{H:List Blk}(h:SpOk s H){d:List Nd}{tok:Tok}(hd:DagOk d)(hdv:s.dv=.sl 3 (d.map qH) tok){i l node val:Nat}{v:Var}(hv:s.p.vars[i]?=some v)(hl:s.lv[i]?=some (l:Int))(hw:0<=v.width/\v.width<=8)(hlw:l<=20)(hn:node<d.length)(hval:val<2 ^ 16)(T:List (Option Nat)) :
 qg Tryz.prog GG 130 [.ptr s.S 0,.int .i64 node,.int .i64 i,.int .i64 val] ⟨H,T⟩ (fun r U'=>r=.int .i64 (w6 d l v.width.toNat val node v.width.toNat:Nat)/\KpL [] H U'.H):=by
 refine qg.k qe Tryz.func130 rfl (by kernel_rfl) ?_;have hS:=h.c;have hil:=(qp5.1 hv).1;have hill:=(qp5.1 hl).1;have hdm:=hd.most;simp only[spE,qJ,qqB,qqw,hdv]at hS;have hwn:v.width=(v.width.toNat:Int):=by omega
 generalize hwN:v.width.toNat=w at *;simp[-getElem?_pos,hS,hv,hil,hwn];refine kx w (fun k ev U=>ev 0=.ptr s.S 0/\ev 1=.int .i64 (w6 d l w val node k:Nat)/\ev 2=.int .i64 (i:Int)/\ev 3=.int .i64 (val:Int)/\ev 9=.int .i64 (w:Int)/\ev 21=.int .i64 (w:Int)/\ev 22=.int .i64 (k:Int)/\KpL [] H U.H) ?_ ?_ ?_
 . exact⟨by simp,by simp[w6],by simp,by simp,by simp,by simp,by simp,KpL.refl⟩
 . rintro k ev ⟨H1,T1⟩ R hR hkw ⟨e0,e1,e2,e3,e9,e21,e22,hkp⟩;dsimp only at hkp;have hS1:=hkp.2 _ _ hS (by simp);have hnl:=J6 hd hn l w val k;have hsucc:=Z8 d l w val node k;generalize w6 d l w val node k=nd at *;obtain⟨n,hnn⟩:∃ n,d[nd]?=some n:=⟨_,qp8 hnl⟩;have hk':(k:Int)<w:=(by omega);have hwk:=wr (n:=(k:Int)+1) (by omega) (by omega);have hlk:=wr (n:=(l:Int)+k) (by omega) (by omega);have hw1:=wr (n:=(w:Int)-1) (by omega) (by omega);have hw2:=wr (n:=(w:Int)-1-k) (by omega) (by omega);have hsub:(w:Int)-1-k=((w-1-k:Nat):Int):=(by omega);rw[hsub]at hw2;have hmin:min (w-1-k) 64=w-1-k:=(by omega);have hand:=qmG val (w-1-k) (by omega);have hneg:¬ ((w-1-k:Nat):Int)<0:=(by omega);unfold vA at hsucc;rw[hnn]at hsucc;simp only at hsucc;generalize hm:w-1-k=m at *;by_cases hlv:n.1=l+k
   . have hlv':(n.1:Int)=(l:Int)+k:=(by omega);rw[if_pos hlv]at hsucc
     cases hbit:val.testBit m with
     | true=>
      rw[hbit,if_pos rfl]at hsucc;rw[hbit]at hand;simp[-getElem?_pos,-zQ,qd8,qaZ,qhQ,qhR,qaY,e0,e1,e2,e3,e9,e21,e22,hk',qa hS1,hS1,hnn,hnl,hl,hill,hlk,hlv',hw1,hsub,hw2,hmin,IntKind.bits,hand,hneg,hwk];exact hR _ _ ⟨by simp[e0],by simp[hsucc],by simp[e2],by simp[e3],by simp[e9],by simp[e21],by simp,hkp.trans KpL.app⟩
     | false=>
      rw[hbit,if_neg (by simp)]at hsucc;rw[hbit]at hand;simp[-getElem?_pos,-zQ,qd8,qaZ,qhQ,qhR,qaY,e0,e1,e2,e3,e9,e21,e22,hk',qa hS1,hS1,hnn,hnl,hl,hill,hlk,hlv',hw1,hsub,hw2,hmin,IntKind.bits,hand,hneg,hwk];exact hR _ _ ⟨by simp[e0],by simp[hsucc],by simp[e2],by simp[e3],by simp[e9],by simp[e21],by simp,hkp.trans KpL.app⟩
   . have hlv':¬ (n.1:Int)=(l:Int)+k:=(by omega);rw[if_neg hlv]at hsucc;simp[-getElem?_pos,-zQ,qd8,qaZ,qhQ,qhR,qaY,e0,e1,e2,e3,e9,e21,e22,hk',qa hS1,hS1,hnn,hnl,hl,hill,hlk,hlv',hwk];exact hR _ _ ⟨by simp[e0],by simp[e1,hsucc],by simp[e2],by simp[e3],by simp[e9],by simp[e21],by simp,hkp.trans KpL.app⟩
 . rintro ev ⟨H1,T1⟩ ⟨e0,e1,e2,e3,e9,e21,e22,hkp⟩;simp[-getElem?_pos,e0,e1,e2,e3,e9,e21,e22];exact hkp
def qgE (m:AV)(fx:Nat->Option Nat)(H:List Blk):Prop :=
 (m=.nilm/\∀ i,fx i=none)\/∃ F es n,m=.map F/\H[F]?=some (.map es n)/\∀ i:Nat,match fx i with
   | none=>jD (.int .i64 (i:Int)) es 0=some none
   | some x=>∃ j,jD (.int .i64 (i:Int)) es 0=some (some (j,.int .i64 (x:Int)))
theorem qgE.keep {m:AV}{fx:Nat->Option Nat}{H H':List Blk}{bs:List Nat}(h:qgE m fx H)(hk:KpL bs H H')(hb:∀ F,m=.map F->F∉bs):qgE m fx H':=by
 rcases h with h|⟨F,es,n,rfl,hF,h⟩
 . exact .inl h
 . exact .inr ⟨F,es,n,rfl,hk.2 _ _ hF (hb F rfl),h⟩
theorem qgE.look {m:AV}{fx:Nat->Option Nat}{H:List Blk}(h:qgE m fx H)(i:Nat)(T:List (Option Nat)):zx (Dof Tryz.prog) ⟨H,T⟩ 146 m (.int .i64 (i:Int)) true=some (match fx i with | none=>.tup [.int .i64 0,.bool false] | some x=>.tup [.int .i64 (x:Int),.bool true]):=by
 rcases h with ⟨rfl,h⟩|⟨F,es,n,rfl,hF,h⟩
 . rw[h i];simp[zx,zC,jD,WW]
 . have:=h i
   cases hx:fx i with
   | none=>rw[hx]at this;simp[zx,zC,hF,this,WW]
   | some x=>
    rw[hx]at this;obtain⟨j,hj⟩:=this;simp[zx,zC,hF,hj,WW]
def zP (n:Nat):List AV:=[.int .i64 (n:Int)]
def qjP (r:AV)(vals:List Nat)(H:List Blk)(n:Nat):Prop:=r=.sl 1 (vals.map zP) .tight\/∃ N,r=.ms N 0 vals.length 1/\n<=N/\H[N]?=some (.cells (qu vals))
def wj (w:Nat)(o:Option Nat):List Nat:=match o with
 | none=>List.range (2 ^ w)
 | some x=>[x]
def ValQ (vals:List Nat)(H:List Blk)(r:AV)(U':St):Prop:=KpL [] H U'.H/\qjP r vals U'.H H.length
theorem qas {s:Spc}{H:List Blk}(h:SpOk s H){m:AV}{fx:Nat->Option Nat}(hf:qgE m fx H){i:Nat}{v:Var}(hv:s.p.vars[i]?=some v)(hw:0<=v.width/\v.width<=8)(T:List (Option Nat)) :
 qg Tryz.prog GG 181 [.ptr s.S 0,.int .i64 i,m] ⟨H,T⟩ (ValQ (wj v.width.toNat (fx i)) H):=by
 refine qg.k qe Tryz.func181 rfl (by kernel_rfl) ?_;have hS:=h.c;have hil:=(qp5.1 hv).1;have hlk:=hf.look i T;simp only[spE,qJ,qqB,qqw]at hS
 cases hfx:fx i with
 | some x=>
  rw[hfx]at hlk;have hq:ValQ (wj v.width.toNat (some x)) H (.sl 1 [[.int .i64 (x:Int)]] .tight) ⟨H,T⟩:=⟨KpL.refl,.inl rfl⟩;simp[-getElem?_pos,hlk,qk,qA];exact hq
 | none=>
  rw[hfx]at hlk;have hs1:=kg hw.1 (by omega);have hwn:¬ v.width<0:=by omega
  have hp8:2 ^ v.width.toNat<=2 ^ 8:=qqu (by omega) (by omega);have hp0:0<2 ^ v.width.toNat:=qrw _;have hvs:wj v.width.toNat none=List.range (2 ^ v.width.toNat):=rfl;rw[hvs];obtain⟨N,hN⟩:∃ N,N=2 ^ v.width.toNat:=⟨_,rfl⟩;rw[<- hN]at hs1 hp8 hp0 ⊢;have hN0:¬ (N:Int)=0:=by omega
  have hN0':N≠0:=by omega
  have hN1:(N:Int)<=549755813888:=by omega
  simp[-getElem?_pos,hlk,hS,hv,hil,hwn,IntKind.bits,hs1,qw,hN0,hN0',hN1];have hz:List.replicate N (AV.int .i64 0)=qu (List.replicate N 0):=by simp[qu]
  rw[hz];refine kx N (fun k ev U=>ev 9=.ms H.length 0 N 1/\ev 32=.int .i64 (N:Int)/\ev 33=.int .i64 (k:Int)/\KpL [] H U.H/\∃ W,W.length=N/\U.H[H.length]?=some (.cells (qu W))/\∀ j,j<k->W[j]?=some j) ?_ ?_ ?_
  . exact⟨by simp,by simp,by simp,KpL.app,List.replicate N 0,by simp,lk0,fun j hj=>absurd hj (by omega)⟩
  . rintro k ev ⟨H1,T1⟩ R hR hk ⟨e9,e32,e33,hkp,W,hWl,bW,hWj⟩;dsimp only at hkp bW;have hk':(k:Int)<N:=(by omega);have hk1:k+1<=N:=hk;have hwk:=wr (n:=(k:Int)+1) (by omega) (by omega);have hl1:=(qp5.1 bW).1;simp[-getElem?_pos,e9,e32,e33,hk',hk1,bW,hWl,yR,hwk];refine hR _ _ ⟨by simp[e9],by simp[e32],by simp,hkp.setF (qqf _),W.set k k,by simp[hWl],qqa hl1,fun j hj=>?_⟩;by_cases hjk:j=k
    . subst hjk;rw[qqa (by omega)]
    . rw[qp7 (Ne.symm hjk)];exact hWj j (by omega)
  . rintro ev ⟨H1,T1⟩ ⟨e9,e32,e33,hkp,W,hWl,bW,hWj⟩;dsimp only at hkp bW;have hWr:W=List.range N:=by
     apply qqW;intro j;by_cases hj:j<N
     . rw[hWj j hj,qso hj]
     . rw[qqG (by omega),qqG (by simp;omega)]
    rw[hWr]at bW;simp[-getElem?_pos,e9,e32,e33];exact⟨hkp,.inr ⟨H.length,by simp,qqf _,bW⟩⟩
def jx (p:Problem)(i:Nat):Nat:=(zK p.vars i).toNat
def Y0 (lv:List Int)(i:Nat):Nat:=(lv.getD i 0).toNat
def wtP (p:Problem)(i v:Nat):Nat:=wtO ((jg p.vars.length p.dists).getD i none) (v:Int)
theorem qgG (p:Problem)(i v:Nat):wtP p i v<=lim:=wtO_le _ _
def qac (p:Problem)(lv:List Int)(d:List Nd)(fx:Nat->Option Nat):List Nat->Nat->Nat
 | [],node=>if node=0 then 0 else 1
 | i::r,node=>if node=0 then 0 else (wj (jx p i) (fx i)).foldl (fun s v=>sat (s+sat (wtP p i v*qac p lv d fx r (w6 d (Y0 lv i) (jx p i) v node (jx p i))))) 0
theorem kr {α:Type}(f:α->Nat):∀ (l:List α) (s:Nat),s<=lim->l.foldl (fun s v=>sat (s+f v)) s<=lim
 | [],s,h=>h
 | a::r,s,h=>kr f r _ (qaN _)
theorem qhj (p:Problem)(lv:List Int)(d:List Nd)(fx:Nat->Option Nat)(g:List Nat)(node:Nat):qac p lv d fx g node<=lim:=by
 cases g with
 | nil=>unfold qac lim;split<;>omega
 | cons i r=>
  unfold qac;split
  . exact qr6 _
  . exact kr _ _ _ (qr6 _)
abbrev Pt:=(Nat×Nat)×Nat×Nat
def ptE (q:Pt):AV×AV×Nat:=(.agg [.int .i64 (q.1.1:Int),.int .i64 (q.1.2:Int)],.int .i64 (q.2.1:Int),q.2.2)
theorem qcv {x:Nat×Nat}:∀ (E:List Pt) (k:Nat),(jD (.agg [.int .i64 (x.1:Int),.int .i64 (x.2:Int)]) (E.map ptE) k=some none/\∀ q∈E,q.1≠x)\/∃ j q,E[j]?=some q/\q.1=x/\jD (.agg [.int .i64 (x.1:Int),.int .i64 (x.2:Int)]) (E.map ptE) k=some (some (k+j,.int .i64 (q.2.1:Int)))
 | [],k=>.inl ⟨rfl,by simp⟩
 | e::E,k=>by
  have hk:Qz (.agg [.int .i64 (x.1:Int),.int .i64 (x.2:Int)]) (.agg [.int .i64 (e.1.1:Int),.int .i64 (e.1.2:Int)])=some (decide (x=e.1)):=by
   obtain⟨a,b⟩:=x;obtain⟨⟨c,d⟩,r⟩:=e;simp only[Qz,je,wc,if_true];congr 1;rw[qq1];simp;omega
  by_cases h:x=e.1
  . right;have hd:decide (x=e.1)=true:=(by simpa using h);rw[hd]at hk;exact⟨0,e,rfl,h.symm,by simp[jD,ptE,hk]⟩
  . have hd:decide (x=e.1)=false:=(by simpa using h);rw[hd]at hk;rcases qcv (x:=x) E (k+1) with ⟨h1,h2⟩|⟨j,q,h1,h2,h3⟩
    . left;refine⟨by simp only[qqk,ptE,jD,hk];exact h1,fun q hq=>?_⟩;rcases qqv.1 hq with rfl|hq
      . exact fun e=>h e.symm
      . exact h2 q hq
    . right;refine⟨j+1,q,by simpa using h1,h2,?_⟩;simp only[qqk,ptE,jD,hk];have:k+(j+1)=k+1+j:=by omega
      rw[this];exact h3
theorem fit_pt (a b:Int):zC (Dof Tryz.prog) 178 (.agg [.int .i64 a,.int .i64 b])=true:=by
 simp[zC,KV,kj,qS,z4,qrE]
def qjS (p:Problem)(lv:List Int)(d:List Nd)(fx:Nat->Option Nat)(g:List Nat)(K:Nat)(H:List Blk):Prop:=∃ (E:List Pt) (n:Nat),H[K]?=some (.map (E.map ptE) n)/\∀ q∈E,q.2.1=qac p lv d fx (g.drop q.1.1) q.1.2
theorem qjP.len {r:AV}{vals:List Nat}{H:List Blk}{n:Nat}(h:qjP r vals H n)(U:St):KL (Dof Tryz.prog) U 44 r=some (.int .i64 (vals.length:Nat)):=by
 rcases h with rfl|⟨N,rfl,_⟩<;>simp
theorem qjP.at {r:AV}{vals:List Nat}{H:List Blk}{n:Nat}(h:qjP r vals H n){j x:Nat}(hj:vals[j]?=some x):∃ a,zR (Dof Tryz.prog) 44 r (.int .i64 (j:Int))=some a/\∀ T,ww (Dof Tryz.prog) ⟨H,T⟩ 3 a=some (.int .i64 (x:Int)):=by
 have hl:=(qp5.1 hj).1;rcases h with rfl|⟨N,rfl,_,hN⟩
 . exact⟨.rptr [.int .i64 (x:Int)],by simp[-getElem?_pos,hj,zP],fun T=>by simp⟩
 . have hl':(j:Int)<vals.length:=(by omega);have hl1:j+1<=vals.length:=hl;exact⟨.ptr N j,by simp[hl'],fun T=>by simp[-getElem?_pos,hN,hl1,zS hj]⟩
theorem qjP.keep {r:AV}{vals:List Nat}{H H':List Blk}{n K:Nat}(h:qjP r vals H n)(hk:KpL [K] H H')(hK:K<n):qjP r vals H' n:=by
 rcases h with h|⟨N,h1,h2,h3⟩
 . exact .inl h
 . exact .inr ⟨N,h1,h2,hk.2 _ _ h3 (by simp;omega)⟩
def qnN (s:Spc)(g:List Nat):Prop:=∀ i∈g,∃ (v:Var) (l:Nat),s.p.vars[i]?=some v/\0<=v.width/\v.width<=8/\s.lv[i]?=some (l:Int)/\l<=20/\∀ w,(jg s.p.vars.length s.p.dists)[i]?=some (some w)->w≠[]/\w.length<=1000
def SumQ (s:Spc)(d:List Nd)(fx:Nat->Option Nat)(g:List Nat)(K at_ node:Nat)(H:List Blk)(r:AV)(U':St):Prop :=
 r=.int .i64 (qac s.p s.lv d fx (g.drop at_) node:Nat)/\KpL [K] H U'.H/\qjS s.p s.lv d fx g K U'.H
def qd2:List (Nat×Sch×List Nat):=[(13,.step 0 [15,14] (.step 1 [15,14] (.step 2 [15,14] (.step 3 [15,14] (.step 4 [15,14,13,6,5] (.step 7 [15,14,13,12] (.step 8 [15,14,13,12,9] (.step 9 [15,14,13,12] (.step 10 [15,14,13,12] (.step 11 [15,14,13,12] (.fork (.cons 5 (.step 6 [15,14,13] (.step 12 [15,14,13] (.step 13 [15,14] (.step 14 [15] (.step 15 [] (.done)))))) (.cons 12 (.step 5 [15,14,13,6] (.step 6 [15,14,13] (.step 13 [15,14] (.step 14 [15] (.step 15 [] (.done)))))) (.nil))))))))))))),[12,14])]
theorem qhe {s:Spc}{d:List Nd}{tok:Tok}(hd:DagOk d)(hdv:s.dv=.sl 3 (d.map qH) tok){fx:Nat->Option Nat}(hfx:∀ i x,fx i=some x->x<65536){m:AV}{g:List Nat}(hg:qnN s g)(hgl:g.length<=1000){K:Nat}(hSK:s.S≠K)(hLK:s.L≠K)(hLLK:s.LL≠K)(hmK:∀ F,m=.map F->F≠K) :
 ∀ (k at_:Nat),at_+k=g.length->∀ (node:Nat) (H:List Blk) (T:List (Option Nat)),node<d.length->SpOk s H->qgE m fx H->qjS s.p s.lv d fx g K H ->
  qg Tryz.prog GG 131 [.ptr s.S 0,.sl 1 (g.map zP) .none,m,.map K,.agg [.int .i64 at_,.int .i64 node]] ⟨H,T⟩ (SumQ s d fx g K at_ node H):=by
 intro k
 induction k with
 | zero=>
  intro at_ hat node H T hn hs hf hmem;refine qg.kO ⟨false,qd2,[],[]⟩ qe Tryz.func131 rfl (by kernel_rfl) ?_;have hd0:g.drop at_=[]:=qqL (by omega);have hat':(at_:Int)=g.length:=by omega
  obtain⟨E,n,hE,hEv⟩:=hmem;have fin:∀ u,SumQ s d fx g K at_ node H (.int .i64 (if node=0 then 0 else 1:Nat)) ⟨H++u,T⟩:=fun u=>⟨by rw[hd0];rfl,KpL.app,E,n,qa hE _,hEv⟩
  by_cases hn0:node=0
  . subst hn0;simp[-getElem?_pos];exact fin _
  . have hn0':¬ (node:Int)=0:=(by omega);rw[if_neg hn0]at fin;simp[-getElem?_pos,hn0,hat'];exact fin _
 | succ k ih=>
  intro at_ hat node H T hn hs hf hmem;refine qg.kO ⟨false,qd2,[],[]⟩ qe Tryz.func131 rfl (by kernel_rfl) ?_;have hal:at_<g.length:=by omega
  obtain⟨i,hi⟩:∃ i,g[at_]?=some i:=⟨_,qp8 hal⟩;obtain⟨v,l,hv,hw0,hw8,hl,hl20,hwn⟩:=hg i (qp6 hi);have hdr:g.drop at_=i::g.drop (at_+1):=by
   obtain⟨h1,h2⟩:=qp5.1 hi;rw[qqt h1,h2]
  have hat':¬ (at_:Int)=g.length:=by omega
  have hat2:(at_:Int)<g.length:=by omega
  obtain⟨E,n,hE,hEv⟩:=hmem;have hKl:=(qp5.1 hE).1;by_cases hn0:node=0
  . subst hn0;have fin:∀ u,SumQ s d fx g K at_ 0 H (.int .i64 0) ⟨H++u,T⟩:=fun u=>⟨by rw[hdr];rfl,KpL.app,E,n,qa hE _,hEv⟩
    simp[-getElem?_pos];exact fin _
  have hn0':¬ (node:Int)=0:=by omega
  have hfit:=fit_pt at_ node;rcases qcv (x:=(at_,node)) E 0 with ⟨hfind,hno⟩|⟨j,q,hj1,hj2,hfind⟩
  case inr=>
   have hqv:=hEv q (qp6 hj1);rw[hj2]at hqv;have fin:∀ u,SumQ s d fx g K at_ node H (.int .i64 (q.2.1:Nat)) ⟨H++u,T⟩:=fun u=>⟨by rw[hqv],KpL.app,E,n,qa hE _,hEv⟩
   have hlk:∀ (u:List Blk) (T:List (Option Nat)),zx (Dof Tryz.prog) ⟨H++u,T⟩ 176 (.map K) (.agg [.int .i64 at_,.int .i64 node]) true=some (.tup [.int .i64 (q.2.1:Int),.bool true]):=fun u T=>by
    simp only[zx,D176,hfit,if_true];simp[qa hE,hfind]
   simp[-getElem?_pos,hn0,hat',hlk];exact fin _
  have hlk:∀ (u:List Blk) (T:List (Option Nat)),zx (Dof Tryz.prog) ⟨H++u,T⟩ 176 (.map K) (.agg [.int .i64 at_,.int .i64 node]) true=some (.tup [.int .i64 0,.bool false]):=fun u T=>by
   simp only[zx,D176,hfit,if_true];simp[qa hE,hfind,WW]
  clear hfind hno;have hs0:=hs.keep (H':=H++[.cells [.int .i64 at_,.int .i64 node]]) (bs:=[]) KpL.app (by simp) (by simp) (by simp);have hf0:=hf.keep (H':=H++[.cells [.int .i64 at_,.int .i64 node]]) (bs:=[]) KpL.app (by simp);have hval:=qas hs0 hf0 hv ⟨hw0,hw8⟩ T;obtain⟨vals,hvals⟩:∃ vals,vals=wj v.width.toNat (fx i):=⟨_,rfl⟩;rw[<- hvals]at hval;have hwid:jx s.p i=v.width.toNat:=by simp[jx,zK,hv]
  have hlvl:Y0 s.lv i=l:=by simp[Y0,qqh,hl]
  have hvb:∀ x∈vals,x<65536:=fun x hx=>by
   rw[hvals]at hx
   cases hfi:fx i with
   | none=>
    rw[hfi]at hx;have:=qqT.1 hx;have:2 ^ v.width.toNat<=2 ^ 8:=qqu (by omega) (by omega);omega
   | some y=>
    rw[hfi]at hx;have:x=y:=by simpa[wj] using hx
    rw[this];exact hfx i y hfi
  have hvl:vals.length<=256:=by
   rw[hvals]
   cases hfi:fx i with
   | none=>simp only[wj,qsA];exact qq9 (qqu (by omega) (show v.width.toNat<=8 by omega)) (by decide)
   | some y=>simp[wj]
  have hsum:qac s.p s.lv d fx (g.drop at_) node=vals.foldl (fun a x=>sat (a+sat (wtP s.p i x*qac s.p s.lv d fx (g.drop (at_+1)) (w6 d l v.width.toNat x node v.width.toNat)))) 0:=by
   rw[hdr,hvals];simp only[qac,if_neg hn0,hwid,hlvl]
  obtain⟨f,hff⟩:∃ f:Nat->Nat,∀ x,f x=sat (wtP s.p i x*qac s.p s.lv d fx (g.drop (at_+1)) (w6 d l v.width.toNat x node v.width.toNat)):=⟨_,fun _=>rfl⟩;have hfle:∀ x,f x<=lim:=fun x=>by rw[hff];exact qaN _
  simp only[<- hff]at hsum;simp[-getElem?_pos,hn0,hat',hlk,hi,zP];refine qc.acall hval ?_;rintro r ⟨H1,T1⟩ ⟨hk1,hrow⟩;dsimp only at hk1 hrow;have bX:H1[H.length]?=some (.cells [.int .i64 at_,.int .i64 node]):=hk1.2 _ _ lk0 (by simp);have hlen:=hrow.len;have hrow:qjP r vals H1 H.length:=hrow.imp id fun ⟨N,h1,h2,h3⟩=>⟨N,h1,by simp at h2;omega,h3⟩
  have hkH1:KpL [K] H H1:=(KpL.app.trans hk1).sub (by simp);have hmem1:qjS s.p s.lv d fx g K H1:=⟨E,n,hk1.2 _ _ (qa hE _) (by simp),hEv⟩;simp[-getElem?_pos,-KL,hlen];refine qL.listR vals (fun dn ev U=>ev 0=.ptr s.S 0/\ev 1=.sl 1 (g.map zP) .none/\ev 2=m/\ev 3=.map K/\ev 9=.ptr H.length 0/\ev 13=.int .i64 (dn.foldl (fun a x=>sat (a+f x)) 0:Nat)/\ev 14=.int .i64 (i:Int)/\ev 44=r/\ev 45=.int .i64 vals.length/\ev 46=.int .i64 dn.length/\KpL [K] H U.H/\qjS s.p s.lv d fx g K U.H/\qjP r vals U.H H.length/\U.H[H.length]?=some (.cells [.int .i64 at_,.int .i64 node])) ?_ ?_ ?_
  . exact⟨by simp,by simp,by simp,by simp,by simp,by simp,by simp,by simp,by simp,by simp,hkH1,hmem1,hrow,bX⟩
  . rintro dn x rest ev ⟨H2,T2⟩ R hR hdl hx hlt ⟨e0,e1,e2,e3,e9,e13,e14,e44,e45,e46,hkp,hme,hro,bX2⟩;dsimp only at hkp hme hro bX2;obtain⟨a,ha1,ha2⟩:=hro.at hx;have hdw:=wr (n:=(dn.length:Int)+1) (by omega) (by omega);have hlt':(dn.length:Int)<vals.length:=(by omega);have hxb:=hvb x (qp6 hx);have hs2:=hs.keep hkp (by simpa using hSK) (by simpa using hLK) (by simpa using hLLK);have hf2:=hf.keep hkp (fun F hF=>by simpa using hmK F hF);have hatw:=wr (n:=(at_:Int)+1) (by omega) (by omega);have hdes:=WP hs2 hd hdv hv hl ⟨hw0,hw8⟩ hl20 hn (val:=x) (by omega) T2;have hnl:=J6 hd hn l v.width.toNat x v.width.toNat;have hffx:=hff x;have hfx1:=hfle x;generalize hnd:w6 d l v.width.toNat x node v.width.toNat=nd at *;simp[-getElem?_pos,-zR,-ww,e44,e45,e46,hlt',ha1,ha2];rw[qG rfl];simp[-getElem?_pos,qM,e0,e1,e2,e3,e9,e14,bX2,hatw];refine⟨qc.acall hdes ?_,qc.acall hdes ?_⟩
    all_goals
     rintro w ⟨H3,T3⟩ ⟨rfl,hk3⟩;dsimp only at hk3;have hk3':KpL [K] H2 H3:=hk3.sub (by simp);have bX3:=hk3.2 _ _ bX2 (by simp);have hs3:=hs2.keep hk3' (by simpa using hSK) (by simpa using hLK) (by simpa using hLLK);have hf3:=hf2.keep hk3' (fun F hF=>by simpa using hmK F hF);have hme3:qjS s.p s.lv d fx g K H3:=by
      obtain⟨E3,n3,h1,h2⟩:=hme;exact⟨E3,n3,hk3.2 _ _ h1 (by simp),h2⟩
     have hih:=ih (at_+1) (by omega) nd H3 T3 hnl hs3 hf3 hme3;simp only[Int.natCast_add,qtu]at hih;simp[-getElem?_pos,qM,bX3,hatw,qV,zu,qv];refine qc.acall hih ?_;rintro w ⟨H4,T4⟩ ⟨rfl,hk4,hme4⟩;dsimp only at hk4 hme4;have hs4:=hs3.keep hk4 (by simpa using hSK) (by simpa using hLK) (by simpa using hLLK);have bX4:=hk4.2 _ _ bX3 (by simp;omega);have hS4:=hs4.c;simp only[spE,qJ,qqB,qqw]at hS4;obtain⟨o,ho⟩:∃ o,(jg s.p.vars.length s.p.dists)[i]?=some o:=⟨_,qp8 (by rw[y8];exact (qp5.1 hv).1)⟩;have hwt:wtP s.p i x=wtO o (x:Int):=(by simp[wtP,qqh,ho]);have hweigh:=qdr s.p hs4.w ho (fun w hw=>hwn w (by rw[ho,hw])) (x:Int) T4;rw[<- hwt]at hweigh;have hwle:=qgG s.p i x;have hsle:=qhj s.p s.lv d fx (g.drop (at_+1)) nd;generalize qac s.p s.lv d fx (g.drop (at_+1)) nd=sd at *;generalize wtP s.p i x=wx at *;have hacc:dn.foldl (fun a x=>sat (a+f x)) 0<=lim:=kr f dn 0 (qr6 _);have hsnoc:(dn++[x]).foldl (fun a x=>sat (a+f x)) 0=sat (dn.foldl (fun a x=>sat (a+f x)) 0+f x):=(by rw[qrj];rfl);generalize dn.foldl (fun a x=>sat (a+f x)) 0=acc at *;have ht:=qdA wx sd hwle hsle;rw[<- hffx]at ht;have hp:=qhG acc (f x) hacc hfx1;simp[-getElem?_pos,qM,e0,e13,e14,hS4];refine qc.acall hweigh ?_;rintro w U ⟨rfl,rfl⟩;simp[-getElem?_pos];refine qc.call ht (by simp) ?_;simp[-getElem?_pos];refine qc.call hp (by simp) ?_;simp[-getElem?_pos,e46,hdw];exact hR _ _ ⟨by simp[e0],by simp[e1],by simp[e2],by simp[e3],by simp[e9],by simp[hsnoc],by simp[e14],by simp[e44],by simp[e45],by simp,(hkp.trans hk3').trans hk4,hme4,(hro.keep hk3' hKl).keep hk4 hKl,bX4⟩
  . rintro ev ⟨H2,T2⟩ ⟨e0,e1,e2,e3,e9,e13,e14,e44,e45,e46,hkp,hme,hro,bX2⟩;dsimp only at hkp hme hro bX2;rw[<- hsum]at e13;obtain⟨E2,n2,hE2,hEv2⟩:=hme;have hK2:=(qp5.1 hE2).1;generalize hsd:qac s.p s.lv d fx (g.drop at_) node=sd at *;obtain⟨E3,n3,hup,hEv3⟩:∃ (E3:List Pt) (n3:Nat),za (Dof Tryz.prog) ⟨H2,T2⟩ 176 (.map K) (.agg [.int .i64 at_,.int .i64 node]) (.int .i64 (sd:Nat))=some ⟨H2.set K (.map (E3.map ptE) n3),T2⟩/\∀ q∈E3,q.2.1=qac s.p s.lv d fx (g.drop q.1.1) q.1.2:=by
     rcases qcv (x:=(at_,node)) E2 0 with ⟨hfind,_⟩|⟨j,q,hj1,hj2,hfind⟩
     . refine⟨E2++[((at_,node),sd,n2)],n2+1,?_,fun q hq=>?_⟩
       . simp only[za,D176,hfit,if_true];simp[hE2,hfind,ptE]
       . rcases qqo.1 hq with hq|hq
         . exact hEv2 q hq
         . rw[qqy]at hq;rw[hq];exact hsd.symm
     . refine⟨E2.modify j fun q=>((at_,node),sd,q.2.2),n2,?_,fun q hq=>?_⟩
       . simp only[za,D176,hfit,if_true];simp[hE2,hfind];congr 2;apply qqW;intro k;simp only[qrM,qqp];by_cases hkj:j=k
         . subst hkj;cases E2[j]?<;>simp[ptE]
         . cases E2[k]?<;>simp[hkj]
       . obtain⟨k,hk⟩:=qqJ hq;rw[qrM]at hk;by_cases hkj:j=k
         . subst hkj;rw[hj1]at hk;simp at hk;rw[<- hk];exact hsd.symm
         . cases he:E2[k]? with
           | none=>rw[he]at hk;simp at hk
           | some y=>
            rw[he]at hk;simp[hkj]at hk;rw[<- hk];exact hEv2 y (qp6 he)
    simp[-getElem?_pos,e3,e9,e13,e45,e46,bX2,hup];exact⟨by rw[hsd],hkp.trans (KpL.set (by simp)),E3,n3,qqa hK2,hEv3⟩
def eqE (s:Str)(n:Int):Ex:=.mk 15 0 [] [Qt s,jr n]
theorem qcw (s:Str)(n:Int):pre (eqE s n)=[eqE s n,Qt s,jr n]:=by
 rw[jc];show eqE s n::wM [Qt s,jr n]=_;rw[yI,qdX,yI,Qj];rfl
theorem qnw {s:Str}(hs:yW s=true){n:Int}(h0:0<=n)(h1:n<=65535):EOk s 2 3 (eqE s n):=by
 refine⟨fun x hx=>?_,?_,by rw[qcw];simp⟩
 . rw[qcw]at hx;simp only[qqv,qry,or_false]at hx;rcases hx with rfl|rfl|rfl
   . exact⟨by simp[qr,eqE,qj,zy,Ex.op,Ex.n,Ex.name,Ex.args],by simp[eqE,Ex.op],by simp[eqE,Ex.op],by simp[eqE,Ex.op]⟩
   . exact⟨qgU hs,by simp[Qt,Ex.op],by simp[Qt,Ex.op],fun _=>rfl⟩
   . exact⟨Vt h0 h1,by simp[jr,Ex.op],by simp[jr,Ex.op],by simp[jr,Ex.op]⟩
 . rw[vo];simp[eqE,Qt,jr,vo]
theorem qeM {p:Problem}(h:VQ p)(hv:qi p=0){i:Nat}{v:Var}(hi:p.vars[i]?=some v){n:Int}(h0:0<=n)(h1:n<=65535):zg p.vars (eqE v.name n)=0/\Jg (eqE v.name n):=by
 have hm:=qp6 hi;have hve:=qU (zE hv v hm);have ho:=qnw hve.1 h0 h1;exact⟨ho.valid (by omega) (by omega) (by unfold vC;rw[qqr];exact⟨v,hm,by simp⟩),ho.tame (h.names v hm) (by omega) (by omega)⟩
theorem qbL {s:Spc}{H:List Blk}(h:SpOk s H){i:Nat}{v:Var}(hv:s.p.vars[i]?=some v)(n:Int)(T:List (Option Nat)) :
 qg Tryz.prog GG 133 [.ptr s.S 0,.int .i64 i,.int .i64 n] ⟨H,T⟩ (fun r U'=>r=.agg (qs (eqE v.name n))/\KpL [] H U'.H):=by
 refine qg.up (qg.k qe Tryz.func133 rfl (by kernel_rfl) ?_);have hS:=h.c;have hil:=(qp5.1 hv).1;simp only[spE,qJ,qqB,qqw]at hS;simp[-getElem?_pos,qa hS,hS,hv,hil,qV,zu,qv,qk,qA];refine⟨_,?_,rfl,KpL.app⟩;simp[eqE,qd,Qt,jr,Leq,zm,j6]
theorem qjh (R:List Ex)(tok:Tok)(h:R≠[]\/tok.known=true):Pure Tryz.prog GG 132 [.sl 4 (R.map qs) tok] (.sl 4 (R.map qs) .tight):=by
 refine Pure.kO o0 true qe Tryz.func132 rfl (by kernel_rfl) ?_;have hs:=qio (en:=qs) (sz:=4) (R:=R) (tok:=tok) (n:=(R.length:Int)) rfl h;simp[-getElem?_pos,hs];rw[qt (by simp)];exact⟨by simp,Leq.refl _⟩
def qaf (vs:List Var):List (Str×AV×Nat):=vs.zipIdx.map fun q=>(q.1.name,.bool true,q.2)
theorem qh0 {vs:List Var}{i:Nat}{v:Var}(hv:vs[i]?=some v):qaf (vs.take (i+1))=qaf (vs.take i)++[(v.name,.bool true,i)]:=by
 have hl:=(qp5.1 hv).1;unfold qaf;rw[qqE,hv];simp[qr7,qsc (qtK hl)]
theorem qh1 {vs:List Var}{j:Nat}{q:Str×AV×Nat}(h:(qaf vs)[j]?=some q):∃ v,vs[j]?=some v/\q=(v.name,.bool true,j):=by
 unfold qaf at h;rw[qqp,qsj]at h
 cases hv:vs[j]? with
 | none=>rw[hv]at h;simp at h
 | some v=>rw[hv]at h;simp at h;exact⟨v,rfl,h.symm⟩
theorem qoT {vs:List Var}(hn:(vs.map (·.name)).Nodup){i:Nat}{v:Var}(hv:vs[i]?=some v)(k:Nat):jD (.str v.name) ((qaf (vs.take i)).map Jq) k=some none:=by
 have hl:=(qp5.1 hv).1;rcases Q6 (s:=v.name) (qaf (vs.take i)) k with ⟨h1,_⟩|⟨j,q,h1,h2,_⟩
 . exact h1
 . exfalso;obtain⟨w,hw,rfl⟩:=qh1 h1;rw[qqR]at hw;split at hw
   . rename_i hj;obtain⟨hj1,hj2⟩:=qp5.1 hw;obtain⟨_,hi2⟩:=qp5.1 hv;have hp:=qrV.1 hn;have h2:w.name=v.name:=h2;exact hp j i (by simpa using hj1) (by simpa using hl) hj (by rw[qrA,qrA,hj2,hi2,h2])
   . cases hw
theorem qoS {vs:List Var}{v:Var}(hv:v∈vs)(k:Nat):∃ j,jD (.str v.name) ((qaf vs).map Jq) k=some (some (j,.bool true)):=by
 rcases Q6 (s:=v.name) (qaf vs) k with ⟨_,h2⟩|⟨j,q,h1,h2,h3⟩
 . exfalso;obtain⟨i,hi⟩:=qqJ hv;have hm:(v.name,AV.bool true,i)∈qaf vs:=qqx.2 ⟨(v,i),qp6 (i:=i) (by rw[qsj,hi];simp),rfl⟩;exact h2 _ hm rfl
 . obtain⟨w,_,rfl⟩:=qh1 h1;exact⟨k+j,h3⟩
theorem Y5 {vs:List Var}{e:Ex}(hk:zg vs e=0)(ht:Jg e):zk e=0/\zJ [3,24] e=[]/\(∀ s∈zJ [2] e,∃ v∈vs,v.name=s)/\(zJ [2] e).length<=100000:=by
 have he:zk e=0/\ZE e=false/\QQ vs e=false:=by
  unfold zg at hk;split at hk
  . rename_i h;exact absurd hk h
  . rename_i h;split at hk
    . cases hk
    . split at hk
      . cases hk
      . rename_i h2 h3;exact⟨qqN.1 h,by simpa using h2,by simpa using h3⟩
 refine⟨he.1,?_,fun s hs=>?_,YY ht.2.2⟩
 . have:=Qq (e:=e);rw[he.2.1]at this
   cases hl:zJ [3,24] e with
   | nil=>rfl
   | cons a r=>rw[hl]at this;simp at this
 . have:=Qn (l:=vs) (e:=e);rw[he.2.2,qrf]at this;have h1:=this s hs;simp only[qrH,Bool.not_eq_false,vC,qqr]at h1;obtain⟨v,hv,hvn⟩:=h1;exact⟨v,hv,by simpa using hvn⟩
theorem qmr (p:Problem)(h:VQ p)(hv:qi p=0)(l:List Ex)(hf:l.length<=1000000)(hx:∀ e∈l,zg p.vars e=0/\Jg e):Pure Tryz.prog GG 246 [.agg (qJ p),.sl 4 (l.map qs) .none] (.int .i64 0):=by
 refine Pure.k qe Tryz.func246 rfl (by kernel_rfl) ?_;have hval:=j4 p h;rw[hv]at hval;have hnd:=j7 hv;have hvl:=h.vars;simp only[qJ]at hval;simp[-getElem?_pos];refine qc.call hval (by simp) ?_;simp[-getElem?_pos];refine qL.listR l (fun d ev U=>ev 1=.sl 4 (l.map qs) .none/\ev 2=.ptr 0 0/\ev 17=.sl 4 (l.map qs) .none/\ev 18=.int .i64 l.length/\ev 19=.int .i64 d.length/\∃ u T,U=⟨.cells (qJ p)::u,T⟩) ?_ ?_ ?_
 . exact⟨by simp,by simp,by simp,by simp,by simp,_,_,rfl⟩
 . rintro d e rest ev U R hR hd hxe hlt ⟨e1,e2,e17,e18,e19,u,T,rfl⟩;have hdw:=wr (n:=(d.length:Int)+1) (by omega) (by omega);have hlt':(d.length:Int)<l.length:=(by omega);obtain⟨hk,ht⟩:=hx e (qp6 hxe);have hev:=Yh e ht.1 (by have:=ht.2.1;omega);rw[(Y5 hk ht).1]at hev;have henc:=qd e;rw[henc]at hev;simp[-getElem?_pos,e17,e18,e19,hlt',hxe,henc];refine qc.call hev (by simp) ?_;simp[-getElem?_pos,e19,hdw];exact hR _ _ ⟨by simp[e1],by simp[e2],by simp[e17],by simp[e18],by simp,_,_,rfl⟩
 . rintro ev U ⟨e1,e2,e17,e18,e19,u,T,rfl⟩;simp[-getElem?_pos,e2,e18,e19];refine qL.listR p.vars (fun d ev U=>ev 1=.sl 4 (l.map qs) .none/\ev 7=.map (u.length+1)/\ev 29=.sl 4 (p.vars.map qo) .none/\ev 30=.int .i64 p.vars.length/\ev 31=.int .i64 d.length/\U.H[u.length+1]?=some (.map ((qaf (p.vars.take d.length)).map Jq) d.length)) ?_ ?_ ?_
   . exact⟨by simp[e1],by simp,by simp,by simp,by simp,by simp[qaf]⟩
   . rintro d v rest ev ⟨H1,T1⟩ R hR hd hxv hlt ⟨e1,e7,e29,e30,e31,bM⟩;dsimp only at bM;have hdw:=wr (n:=(d.length:Int)+1) (by omega) (by omega);have hlt':(d.length:Int)<p.vars.length:=(by omega);have hfn:=qoT hnd hxv 0;have ht1:=qh0 hxv;have hMl:=(qp5.1 bM).1;have hup:∀ (w:List Blk) (T:List (Option Nat)),za (Dof Tryz.prog) ⟨H1++w,T⟩ 302 (.map (u.length+1)) (.str v.name) (.bool true)=some ⟨H1.set (u.length+1) (.map ((qaf (p.vars.take (d.length+1))).map Jq) (d.length+1))++w,T⟩:=fun w T=>by
      rw[ht1,qqY];generalize (qaf (p.vars.take d.length)).map Jq=E at *;simp[za,qa bM,zC,hfn,yO bM,Jq]
     generalize hE2:(qaf (p.vars.take (d.length+1))).map Jq=E2 at *;simp[-getElem?_pos,e7,e29,e30,e31,hlt',hxv,hup,hdw];refine hR _ _ ⟨by simp[e1],by simp[e7],by simp[e29],by simp[e30],by simp,?_⟩;rw[qqb,qqA,hE2];exact qa (qqa hMl) _
   . rintro ev ⟨H1,T1⟩ ⟨e1,e7,e29,e30,e31,bM⟩;dsimp only at bM;rw[qr5]at bM;simp[-getElem?_pos,e1,e30,e31];refine qL.listR l (fun d ev U=>ev 7=.map (u.length+1)/\ev 39=.sl 4 (l.map qs) .none/\ev 40=.int .i64 l.length/\ev 41=.int .i64 d.length/\U.H[u.length+1]?=some (.map ((qaf p.vars).map Jq) p.vars.length)) ?_ ?_ ?_
     . exact⟨by simp[e7],by simp,by simp,by simp,bM⟩
     . rintro d e rest ev ⟨H2,T2⟩ R hR hd hxe hlt ⟨e7,e39,e40,e41,bM⟩;dsimp only at bM;have hdw:=wr (n:=(d.length:Int)+1) (by omega) (by omega);have hlt':(d.length:Int)<l.length:=(by omega);obtain⟨hk,ht⟩:=hx e (qp6 hxe);obtain⟨_,h0,hall,hfit⟩:=Y5 hk ht;have ha:=Qa e ht.1 ht.2.2;have hna:=Zn e ht.1 ht.2.2;have henc:=qd e;rw[h0]at ha;rw[henc]at ha hna;generalize zJ [2] e=N at *;simp[-getElem?_pos,e39,e40,e41,hlt',hxe,henc];refine qc.call ha (by simp) ?_;simp[-getElem?_pos];refine qc.call hna (by simp) ?_;simp[-getElem?_pos];refine qL.listR N (fun dn ev U=>ev 7=.map (u.length+1)/\ev 39=.sl 4 (l.map qs) .none/\ev 40=.int .i64 l.length/\ev 41=.int .i64 d.length/\ev 50=.sl 1 (N.map ja) .none/\ev 51=.int .i64 N.length/\ev 52=.int .i64 dn.length/\U.H[u.length+1]?=some (.map ((qaf p.vars).map Jq) p.vars.length)) ?_ ?_ ?_
       . exact⟨by simp[e7],by simp[e39],by simp[e40],by simp[e41],by simp,by simp,by simp,qa bM _⟩
       . rintro dn s rest2 ev ⟨H3,T3⟩ R2 hR2 hd2 hxs hlt2 ⟨e7,e39,e40,e41,e50,e51,e52,bM⟩;dsimp only at bM;have hdw2:=wr (n:=(dn.length:Int)+1) (by omega) (by omega);have hlt2':(dn.length:Int)<N.length:=(by omega);obtain⟨v,hvm,hvn⟩:=hall s (qp6 hxs);obtain⟨j,hj⟩:=qoS hvm 0;rw[hvn]at hj;have hlk:zx (Dof Tryz.prog) ⟨H3,T3⟩ 302 (.map (u.length+1)) (.str s) false=some (.bool true):=by
          generalize (qaf p.vars).map Jq=E at *;simp[zx,bM,zC,hj]
         simp[-getElem?_pos,e7,e50,e51,e52,hlt2',hxs,hlk,hdw2];exact hR2 _ _ ⟨by simp[e7],by simp[e39],by simp[e40],by simp[e41],by simp[e50],by simp[e51],by simp,bM⟩
       . rintro ev ⟨H3,T3⟩ ⟨e7,e39,e40,e41,e50,e51,e52,bM⟩;simp[-getElem?_pos,e41,e51,e52,hdw];exact hR _ _ ⟨by simp[e7],by simp[e39],by simp[e40],by simp,bM⟩
     . rintro ev ⟨H2,T2⟩ ⟨e7,e39,e40,e41,bM⟩;simp[-getElem?_pos,e40,e41]
theorem KH (p:Problem)(h:VQ p)(hv:qi p=0)(hv20:p.vars.length<=20)(hb:yB p.vars (qz p)<=18)(l:List Ex)(hf:l.length<=1000000)(hx:∀ e∈l,zg p.vars e=0/\Jg e) :
 Pure Tryz.prog GG 184 [.agg (qJ p),.sl 4 (l.map qs) .none] (.tup [.bool (jJ p.vars l),.int .i64 0]):=by
 refine Pure.k qe Tryz.func184 rfl (by kernel_rfl) ?_;have hc:=qmr p h hv l hf hx;have hs:=QK p l h hv20 hb (by show l.length<_;omega) (fun e he=>(hx e he).2);have hsb:JD p l=jJ p.vars l:=by
  have:l.all (wS p.vars)=true:=qqi.2 fun e he=>decide_eq_true (hx e he).1
  unfold JD;rw[this];simp[hv]
 rw[hsb]at hs;simp only[qJ]at hc hs;simp[-getElem?_pos];refine qc.call hc (by simp) ?_;simp[-getElem?_pos];refine qc.call hs (by simp) ?_;simp[-getElem?_pos]
def JL (p:Problem)(i:Nat):Str:=match p.vars[i]? with
 | some v=>v.name
 | none=>[]
noncomputable def qck (p:Problem)(fx:Nat->Option Nat):List Nat->List Ex->Nat
 | [],R=>if jJ p.vars R=true then 1 else 0
 | i::r,R=>if jJ p.vars R=true then (wj (jx p i) (fx i)).foldl (fun s v=>sat (s+sat (wtP p i v*qck p fx r (R++[eqE (JL p i) (v:Int)])))) 0 else 0
theorem qhg (p:Problem)(fx:Nat->Option Nat)(g:List Nat)(R:List Ex):qck p fx g R<=lim:=by
 cases g with
 | nil=>unfold qck lim;split<;>omega
 | cons i r=>
  unfold qck;split
  . exact kr _ _ _ (qr6 _)
  . exact qr6 _
def ptok:Tok->Tok
 | .chain .. =>.none
 | t=>t
def qp1 (R:List Ex)(tok:Tok):Prop:=R≠[]\/tok=.tight
theorem qp1.p {R:List Ex}{tok:Tok}(h:qp1 R tok):R≠[]\/(ptok tok).known=true:=h.imp id fun e=>by rw[e];rfl
def qd1:List (Nat×Sch×List Nat):=[(10,.step 0 [10,9,8,7,1] (.step 1 [10,9,8,7] (.step 2 [10,9,8,7] (.step 3 [10,9,8,7,5,4] (.step 4 [10,9,8,7,5] (.step 5 [10,9,8,7] (.step 6 [10,9,8,7] (.step 7 [10,9,8] (.step 8 [10,9] (.step 9 [10] (.step 10 [] (.done))))))))))),[7]),(11,.step 0 [18,17] (.step 1 [18,17,16,15,9,4,3,2] (.step 2 [18,17,16,15,9,4,3] (.step 3 [18,17,16,15,9,4] (.step 4 [18,17,16,15,9] (.step 5 [18,17,16,15,9,7,6] (.step 6 [18,17,16,15,9,7] (.step 7 [18,17,16,15,9] (.step 8 [18,17,16,15,9] (.step 10 [18,17,16,15] (.step 11 [18,17,16,15,12] (.step 12 [18,17,16,15] (.step 13 [18,17,16,15] (.step 14 [18,17,16,15] (.step 9 [18,17,16,15] (.step 15 [18,17,16] (.step 16 [18,17] (.step 17 [18] (.step 18 [] (.done))))))))))))))))))),[9,15])]
theorem qkm {s:Spc}(hvq:VQ s.p)(hvp:qi s.p=0)(hv20:s.p.vars.length<=20)(hb:yB s.p.vars (qz s.p)<=18){fx:Nat->Option Nat}(hfx:∀ i x,fx i=some x->x<65536){m:AV} :
 ∀ (g:List Nat) (R:List Ex) (tok:Tok) (H:List Blk) (T:List (Option Nat)),qnN s g->(∀ e∈R,zg s.p.vars e=0/\Jg e)->R.length+g.length<=100000->qp1 R tok->SpOk s H->qgE m fx H ->
  qg Tryz.prog GG 134 [.ptr s.S 0,.sl 1 (g.map zP) .none,m,.sl 4 (R.map qs) tok] ⟨H,T⟩ (fun r U'=>r=.int .i64 (qck s.p fx g R:Nat)/\KpL [] H U'.H):=by
 intro g
 induction g with
 | nil=>
  intro R tok H T hg hR hlen htok hs hf;refine qg.kO ⟨false,qd1,[],[]⟩ qe Tryz.func134 rfl (by kernel_rfl) ?_;have hsv:=KH s.p hvq hvp hv20 hb R (by omega) hR;have hS:=hs.c;simp only[spE,qJ,qqB,qqw]at hS;simp only[qJ]at hsv;have hst:qck s.p fx [] R=if jJ s.p.vars R=true then 1 else 0:=rfl
  rw[hst];simp[-getElem?_pos,hS];refine qc.pure hsv (by cases tok<;>simp) (by cases tok<;>simp[zm,Leq,j6.refl]) ?_
  cases hsol:jJ s.p.vars R with
  | false=>
   simp[-getElem?_pos,unA];exact KpL.refl
  | true=>
   simp[-getElem?_pos,unA];exact KpL.refl
 | cons i r ih=>
  intro R tok H T hg hR hlen htok hs hf;refine qg.kO ⟨false,qd1,[],[]⟩ qe Tryz.func134 rfl (by kernel_rfl) ?_;have hsv:=KH s.p hvq hvp hv20 hb R (by omega) hR;have hS:=hs.c;simp only[spE,qJ,qqB,qqw]at hS;simp only[qJ]at hsv;obtain⟨v,l,hv,hw0,hw8,hl,hl20,hwn⟩:=hg i (by simp);have hgr:qnN s r:=fun j hj=>hg j (by simp[hj])
  have hwid:jx s.p i=v.width.toNat:=by simp[jx,zK,hv]
  have hnm:JL s.p i=v.name:=by simp[JL,hv]
  have hval:=qas hs hf hv ⟨hw0,hw8⟩ T;obtain⟨vals,hvals⟩:∃ vals,vals=wj v.width.toNat (fx i):=⟨_,rfl⟩;rw[<- hvals]at hval;have hvb:∀ x∈vals,x<65536:=fun x hx=>by
   rw[hvals]at hx
   cases hfi:fx i with
   | none=>
    rw[hfi]at hx;have:=qqT.1 hx;have:2 ^ v.width.toNat<=2 ^ 8:=qqu (by omega) (by omega);omega
   | some y=>
    rw[hfi]at hx;have:x=y:=by simpa[wj] using hx
    rw[this];exact hfx i y hfi
  have hvl:vals.length<=256:=by
   rw[hvals]
   cases hfi:fx i with
   | none=>simp only[wj,qsA];exact qq9 (qqu (by omega) (show v.width.toNat<=8 by omega)) (by decide)
   | some y=>simp[wj]
  have hsum:qck s.p fx (i::r) R=if jJ s.p.vars R=true then vals.foldl (fun a x=>sat (a+sat (wtP s.p i x*qck s.p fx r (R++[eqE v.name (x:Int)])))) 0 else 0:=by
   rw[hvals,<- hwid,<- hnm];rfl
  obtain⟨f,hff⟩:∃ f:Nat->Nat,∀ x,f x=sat (wtP s.p i x*qck s.p fx r (R++[eqE v.name (x:Int)])):=⟨_,fun _=>rfl⟩;have hfle:∀ x,f x<=lim:=fun x=>by rw[hff];exact qaN _
  simp only[<- hff]at hsum;rw[hsum];simp[-getElem?_pos,hS];refine qc.pure hsv (by cases tok<;>simp) (by cases tok<;>simp[zm,Leq,j6.refl]) ?_
  cases hsol:jJ s.p.vars R with
  | false=>
   simp[-getElem?_pos,unA];exact KpL.refl
  | true=>
   have hrn:¬ (r.length:Int)+1=0:=(by omega);simp[-getElem?_pos,unA,zP,hrn];refine qc.acall hval ?_;rintro w ⟨H1,T1⟩ ⟨hk1,hrow⟩;dsimp only at hk1 hrow;have hlenr:=hrow.len;simp[-getElem?_pos,-KL,hlenr];refine qL.listR vals (fun dn ev U=>ev 0=.ptr s.S 0/\ev 1=.sl 1 ((i::r).map zP) .none/\ev 2=m/\ev 3=.sl 4 (R.map qs) tok/\ev 11=.int .i64 (dn.foldl (fun a x=>sat (a+f x)) 0:Nat)/\ev 38=w/\ev 39=.int .i64 vals.length/\ev 40=.int .i64 dn.length/\KpL [] H U.H/\qjP w vals U.H H.length) ?_ ?_ ?_
   . exact⟨by simp,by simp[zP],by simp,by simp,by simp,by simp,by simp,by simp,hk1,hrow⟩
   . rintro dn x rest ev ⟨H2,T2⟩ R2 hR2 hdl hx hlt ⟨e0,e1,e2,e3,e11,e38,e39,e40,hkp,hro⟩;dsimp only at hkp hro;obtain⟨a,ha1,ha2⟩:=hro.at hx;have hdw:=wr (n:=(dn.length:Int)+1) (by omega) (by omega);have hlt':(dn.length:Int)<vals.length:=(by omega);have hxb:=hvb x (qp6 hx);have hs2:=hs.keep hkp (by simp) (by simp) (by simp);have hf2:=hf.keep hkp (by simp);have hcl:=qjh R (ptok tok) htok.p;have heq:=qbL hs2 hv (x:Int) T2;have hek:=qeM hvq hvp hv (n:=(x:Int)) (by omega) (by omega);have hae:=yE (eqE v.name (x:Int));have hl4:=zj (eqE v.name (x:Int));have hap:=fun H T=>VE (R:=R) (X:=eqE v.name (x:Int)) (H:=H) (T:=T) (by omega)
     have htk:(qs (eqE v.name (x:Int))).take 4=qs (eqE v.name (x:Int)):=qqg (by rw[hl4];exact qqf _);have hih:=fun n H T=>ih (R++[eqE v.name (x:Int)]) (.chain n 1) H T hgr (fun e he=>by
      rcases qqo.1 he with he|he
      . exact hR e he
      . rw[qqy]at he;rw[he];exact hek) (by rw[qqb];simp at hlen ⊢;omega) (.inl (by simp))
     have hffx:=hff x;have hfx1:=hfle x;have hsl1:(((i::r).map zP).take (r.length+1)).drop 1=r.map zP:=by
      rw[qqg (by simp)];rfl
     generalize eqE v.name (x:Int)=X at *;simp[-getElem?_pos,-zR,-ww,e38,e39,e40,hlt',ha1,ha2];rw[qG rfl];simp[-getElem?_pos,-qK,qM,e3];refine qc.pure hcl (by cases tok<;>simp) (by cases tok<;>simp[ptok]) ?_;simp[-getElem?_pos,-qK,qM,e0,e1,zP];refine qc.acall heq ?_;rintro w3 ⟨H3,T3⟩ ⟨rfl,hk3⟩;dsimp only at hk3;have hs3:=hs2.keep hk3 (by simp) (by simp) (by simp);have hf3:=hf2.keep hk3 (by simp);have hS3:=hs3.c;simp only[spE,qJ,qqB,qqw]at hS3;simp[-getElem?_pos,-qK,qM,hae,hl4,qk,qA,hap];rw[qG rfl];obtain⟨o,ho⟩:∃ o,(jg s.p.vars.length s.p.dists)[i]?=some o:=⟨_,qp8 (by rw[y8];exact (qp5.1 hv).1)⟩;have hwt:wtP s.p i x=wtO o (x:Int):=(by simp[wtP,qqh,ho]);have hweigh:=qdr s.p hs3.w ho (fun w hw=>hwn w (by rw[ho,hw])) (x:Int) (T3++[some 1]);rw[<- hwt]at hweigh;have hwle:=qgG s.p i x;have hsle:=qhg s.p fx r (R++[X]);have hih1:=hih T3.length H3 (T3++[some 1]) hs3 hf3;generalize qck s.p fx r (R++[X])=sd at *;generalize wtP s.p i x=wx at *;have hacc:dn.foldl (fun a x=>sat (a+f x)) 0<=lim:=kr f dn 0 (qr6 _);have hsnoc:(dn++[x]).foldl (fun a x=>sat (a+f x)) 0=sat (dn.foldl (fun a x=>sat (a+f x)) 0+f x):=(by rw[qrj];rfl);generalize dn.foldl (fun a x=>sat (a+f x)) 0=acc at *;have ht:=qdA wx sd hwle hsle;rw[<- hffx]at ht;have hp:=qhG acc (f x) hacc hfx1;have hpos:(0:Int)<(r.length:Int)+1:=(by omega);simp only[qqY,qqk,qqF]at hih1;have hsl2:zw (.sl 1 ([AV.int .i64 (i:Int)]::r.map zP) .none) (some (.int .i64 1)) none none=some (.sl 1 (r.map zP) .none):=by
      have h2:(1:Int)<=(r.length:Int)+1:=(by omega);simp[zw,zX,kf,z7,h2,qqg]
     simp[-getElem?_pos,qM,e0,e1,e2,e11,hS3,zP,hsl2];refine qc.acall hweigh ?_;rintro w4 U ⟨rfl,rfl⟩;simp[-getElem?_pos,qM];refine qc.acall hih1 ?_;rintro w5 ⟨H5,T5⟩ ⟨rfl,hk5⟩;dsimp only at hk5;simp[-getElem?_pos,qM];refine qc.call ht (by simp) ?_;simp[-getElem?_pos,qM];refine qc.call hp (by simp) ?_;simp[-getElem?_pos,qM,e40,hdw];exact hR2 _ _ ⟨by simp[e0],by simp[e1,zP],by simp[e2],by simp[e3],by simp[hsnoc],by simp[e38],by simp[e39],by simp,(hkp.trans hk3).trans hk5,((hro.imp id fun ⟨N,h1,h2,h3⟩=>⟨N,h1,h2,hk5.2 _ _ (hk3.2 _ _ h3 (by simp)) (by simp)⟩))⟩
   . rintro ev ⟨H2,T2⟩ ⟨e0,e1,e2,e3,e11,e38,e39,e40,hkp,hro⟩;simp[-getElem?_pos,e11,e39,e40];exact hkp
def NG (p:Problem):List (List Nat):=p.groups.map fun g=>g.map Int.toNat
def yx (g:List Nat):List AV:=[.sl 1 (g.map zP) .none]
theorem qe1 {p:Problem}(h:qi p=0):p.groups.map zc=(NG p).map yx:=by
 unfold NG;rw[qrp];refine qrd fun g hg=>?_
 simp only[zc,yx,Function.comp,qrp];congr 2;refine qrd fun i hi=>?_
 obtain⟨n,rfl,_⟩:=J1 h i (qre.2 ⟨g,hg,hi⟩);simp[zP]
theorem QZ {p:Problem}(h:qi p=0):p.groups.flatten=(NG p).flatten.map fun n:Nat=>(n:Int):=by
 unfold NG;have:∀ (G:List (List Int)),(∀ i∈G.flatten,∃ n:Nat,i=n)->G.flatten=(G.map fun g=>g.map Int.toNat).flatten.map fun n:Nat=>(n:Int):=by
  intro G hG
  induction G with
  | nil=>rfl
  | cons g r ih=>
   rw[qqO,qqk,qqO,qqY,<- ih fun i hi=>hG i (by simp at hi ⊢;exact .inr hi),qrp];congr 1;have:g=g.map id:=by simp
   rw[this,qrp];refine qrd fun i hi=>?_
   obtain⟨n,rfl⟩:=hG i (by simp[hi]);simp
 exact this _ fun i hi=>by obtain⟨n,h1,_⟩:=J1 h i hi;exact⟨n,h1⟩
def AsR (r:AV)(a:List Int)(H:List Blk):Prop:=(∃ tok,r=.sl 1 (a.map qy) tok)\/∃ N,r=.ms N 0 a.length 1/\H[N]?=some (.cells (zF a))
theorem AsR.at {r:AV}{a:List Int}{H:List Blk}(h:AsR r a H){j:Nat}{x:Int}(hj:a[j]?=some x):∃ u,zR (Dof Tryz.prog) 44 r (.int .i64 (j:Int))=some u/\∀ w T,ww (Dof Tryz.prog) ⟨H++w,T⟩ 3 u=some (.int .i64 x):=by
 have hl:=(qp5.1 hj).1;rcases h with ⟨tok,rfl⟩|⟨N,rfl,hN⟩
 . exact⟨.rptr [.int .i64 x],by simp[-getElem?_pos,hj],fun w T=>by simp⟩
 . have hl':(j:Int)<a.length:=(by omega);have hl1:j+1<=a.length:=hl;have hto:(zF a)[j]?=some (.int .i64 x):=(by rw[Kv,hj];rfl);have hdr:(zF a).drop j=.int .i64 x::(zF a).drop (j+1):=by
    obtain⟨h1,h2⟩:=qp5.1 hto;rw[qqt h1,h2]
   exact⟨.ptr N j,by simp[hl'],fun w T=>by simp[-getElem?_pos,qa hN,hdr,qY,hl1]⟩
theorem AsR.at0 {r:AV}{a:List Int}{H:List Blk}(h:AsR r a H){j:Nat}{x:Int}(hj:a[j]?=some x):∃ u,zR (Dof Tryz.prog) 44 r (.int .i64 (j:Int))=some u/\∀ T,ww (Dof Tryz.prog) ⟨H,T⟩ 3 u=some (.int .i64 x):=by
 obtain⟨u,h1,h2⟩:=h.at hj;exact⟨u,h1,fun T=>by have:=h2 [] T;rwa[qqP]at this⟩
theorem AsR.len {r:AV}{a:List Int}{H:List Blk}(h:AsR r a H)(U:St):KL (Dof Tryz.prog) U 44 r=some (.int .i64 (a.length:Nat)):=by
 rcases h with ⟨tok,rfl⟩|⟨N,rfl,_⟩<;>simp
theorem AsR.keep {r:AV}{a:List Int}{H H':List Blk}{bs:List Nat}(h:AsR r a H)(hk:KpL bs H H')(hb:∀ N o n z,r=.ms N o n z->N∉bs):AsR r a H':=by
 rcases h with h|⟨N,rfl,hN⟩
 . exact .inl h
 . exact .inr ⟨N,rfl,hk.2 _ _ hN (hb _ _ _ _ rfl)⟩
def aN (a:List Int)(i:Nat):Nat:=(a.getD i 0).toNat
def Zl (s:Spc)(d:List Nd)(a:List Int)(l:List Nat):Nat:=l.foldl (fun node i=>w6 d (Y0 s.lv i) (jx s.p i) (aN a i) node (jx s.p i)) s.root
def Wn (s:Spc)(a:List Int)(l:List Nat):List Ex:=s.R++l.map fun i=>eqE (JL s.p i) (aN a i:Int)
structure SpG (s:Spc)(a:List Int)(l:List Nat):Prop where
 gr:qnN s l
 val:∀ i∈l,∃ n:Nat,a[i]?=some (n:Int)/\n<65536
theorem qiu {g:List Nat}{tok:Tok}{k i:Nat}(h:g[k]?=some i):zR (Dof Tryz.prog) 44 (.sl 1 (g.map zP) tok) (.int .i64 (k:Int))=some (.rptr [.int .i64 (i:Int)]):=by simp[-getElem?_pos,h,zP]
theorem qnd {U:St}{i:Nat}:ww (Dof Tryz.prog) U 3 (.rptr [.int .i64 (i:Int)])=some (.int .i64 (i:Int)):=by simp
def qd3:List (Nat×Sch×List Nat):=[(21,.step 0 [11,10,9,8,1] (.step 1 [11,10,9,8] (.step 2 [11,10,9,8] (.step 3 [11,10,9,8] (.step 4 [11,10,9,8,7,6] (.step 5 [11,10,9,8,7,6] (.step 6 [11,10,9,8,7] (.step 7 [11,10,9,8] (.step 8 [11,10,9] (.step 9 [11,10] (.step 10 [11] (.step 11 [] (.done)))))))))))),[8])]
theorem qmV {G:List (List Nat)}{gi:Nat}(h:gi<=G.length):zw (.sl 1 (G.map yx) .none) none (some (.int .i64 (gi:Int))) none=some (.sl 1 ((G.take gi).map yx) .none):=by
 simp[zw,zX,kf,z7,h]
theorem qoe {s:Spc}(hvp:qi s.p=0)(hsm:s.small=true){d:List Nd}{tok:Tok}(hd:DagOk d)(hdv:s.dv=.sl 3 (d.map qH) tok)(hroot:s.root<d.length){fx:Nat->Option Nat}(hfx:∀ i x,fx i=some x->x<65536){m:AV}{gi:Nat}{g:List Nat}(hgi:(NG s.p)[gi]?=some g)(hgl:∀ g∈NG s.p,g.length<=1000)(hGl:(NG s.p).length<=1000)
 {r:AV} {a:List Int} {H:List Blk} (hg:qnN s g) (hpre:SpG s a ((NG s.p).take gi).flatten) (hs:SpOk s H) (hf:qgE m fx H) (ha:AsR r a H) (T:List (Option Nat)) :
 qg Tryz.prog GG 94 [.ptr s.S 0,.int .i64 gi,r,m] ⟨H,T⟩ (fun v U'=>v=.int .i64 (qac s.p s.lv d fx g (Zl s d a ((NG s.p).take gi).flatten):Nat)/\KpL [] H U'.H):=by
 refine qg.kO ⟨false,qd3,[],[]⟩ qe Tryz.func94 rfl (by kernel_rfl) ?_;have hS:=hs.c;have hgil:=(qp5.1 hgi).1;have hgil':(gi:Int)<(NG s.p).length:=by omega
 have hG:=qe1 hvp;simp only[spE,qJ,qqB,qqw,hsm,hdv,hG]at hS;have hsl:=qmV (G:=NG s.p) (gi:=gi) (by omega);have htl:((NG s.p).take gi).length<=1000:=by rw[qqD];omega
 have htm:∀ g∈(NG s.p).take gi,g.length<=1000:=fun g hg=>hgl g (qq0 hg)
 obtain⟨PG,hPG⟩:∃ PG,PG=(NG s.p).take gi:=⟨_,rfl⟩;rw[<- hPG]at hsl htl htm hpre ⊢;simp[-getElem?_pos,hS,hgi,yx,hsl];have hgg:=hgl g (qp6 hgi);refine qL.listR PG (fun dn ev U=>ev 0=.ptr s.S 0/\ev 2=r/\ev 3=m/\ev 9=.sl 1 (g.map zP) .none/\ev 10=.int .i64 (Zl s d a dn.flatten:Nat)/\ev 42=.sl 1 (PG.map yx) .none/\ev 43=.int .i64 PG.length/\ev 44=.int .i64 dn.length/\Zl s d a dn.flatten<d.length/\KpL [] H U.H) ?_ ?_ ?_
 . exact⟨by simp,by simp,by simp,by simp,by simp[Zl],by simp,by simp,by simp,hroot,KpL.refl⟩
 . rintro dn g1 rest ev ⟨H1,T1⟩ R hR hdl hx hlt ⟨e0,e2,e3,e9,e10,e42,e43,e44,hnl,hkp⟩;dsimp only at hkp;have hdw:=wr (n:=(dn.length:Int)+1) (by omega) (by omega);have hlt':(dn.length:Int)<PG.length:=(by omega);have hg1m:=qp6 hx;have hg1l:=htm g1 hg1m;simp[-getElem?_pos,e42,e43,e44,hlt',hx,yx];refine qL.listR g1 (fun dg ev U=>ev 0=.ptr s.S 0/\ev 2=r/\ev 3=m/\ev 9=.sl 1 (g.map zP) .none/\ev 10=.int .i64 (Zl s d a (dn.flatten++dg):Nat)/\ev 42=.sl 1 (PG.map yx) .none/\ev 43=.int .i64 PG.length/\ev 44=.int .i64 dn.length/\ev 48=.sl 1 (g1.map zP) .none/\ev 49=.int .i64 g1.length/\ev 50=.int .i64 dg.length/\Zl s d a (dn.flatten++dg)<d.length/\KpL [] H U.H) ?_ ?_ ?_
   . exact⟨by simp[e0],by simp[e2],by simp[e3],by simp[e9],by simp[e10],by simp[e42],by simp[e43],by simp[e44],by simp,by simp,by simp,by simpa using hnl,hkp⟩
   . rintro dg i rest2 ev ⟨H2,T2⟩ R2 hR2 hdl2 hx2 hlt2 ⟨e0,e2,e3,e9,e10,e42,e43,e44,e48,e49,e50,hnl2,hkp2⟩;dsimp only at hkp2;have hdw2:=wr (n:=(dg.length:Int)+1) (by omega) (by omega);have hlt2':(dg.length:Int)<g1.length:=(by omega);have him:i∈PG.flatten:=qre.2 ⟨g1,hg1m,qp6 hx2⟩;obtain⟨v,l,hv,hw0,hw8,hl,hl20,_⟩:=hpre.gr i him;obtain⟨n,hna,hn16⟩:=hpre.val i him;have hs2:=hs.keep hkp2 (by simp) (by simp) (by simp);have ha2:=ha.keep hkp2 (by simp);obtain⟨u,hu1,hu2⟩:=ha2.at0 hna;have hdes:=WP hs2 hd hdv hv hl ⟨hw0,hw8⟩ hl20 hnl2 (val:=n) (by omega) T2;have hsn:Zl s d a (dn.flatten++(dg++[i]))=w6 d l v.width.toNat n (Zl s d a (dn.flatten++dg)) v.width.toNat:=by
      rw[<- qqC];unfold Zl;rw[qrj];have h1:Y0 s.lv i=l:=(by simp[Y0,qqh,hl]);have h2:jx s.p i=v.width.toNat:=(by simp[jx,zK,hv]);have h3:aN a i=n:=(by simp[aN,qqh,hna]);simp only[qqV,qtI,h1,h2,h3]
     have hnl3:=J6 hd hnl2 l v.width.toNat n v.width.toNat;rw[<- hsn]at hdes hnl3;have hix:=qiu (tok:=.none) hx2;generalize Zl s d a (dn.flatten++dg)=nd at *;generalize hn2:Zl s d a (dn.flatten++(dg++[i]))=nd2 at *;simp[-getElem?_pos,-zR,-ww,e0,e2,e10,e48,e49,e50,hlt2',hix,qnd,hu1,hu2];refine qc.acall hdes ?_;rintro w ⟨H3,T3⟩ ⟨rfl,hk3⟩;dsimp only at hk3;simp[-getElem?_pos,e50,hdw2];exact hR2 _ _ ⟨by simp[e0],by simp[e2],by simp[e3],by simp[e9],by simp,by simp[e42],by simp[e43],by simp[e44],by simp[e48],by simp[e49],by simp,by first | exact hnl3 | (rw[hn2];exact hnl3),hkp2.trans hk3⟩
   . rintro ev ⟨H2,T2⟩ ⟨e0,e2,e3,e9,e10,e42,e43,e44,e48,e49,e50,hnl2,hkp2⟩;simp[-getElem?_pos,e44,e49,e50,hdw];exact hR _ _ ⟨by simp[e0],by simp[e2],by simp[e3],by simp[e9],by simp[e10],by simp[e42],by simp[e43],by simp,by simpa using hnl2,hkp2⟩
 . rintro ev ⟨H1,T1⟩ ⟨e0,e2,e3,e9,e10,e42,e43,e44,hnl,hkp⟩;dsimp only at hkp;have hH1l:=hkp.1;have hs1:=hs.keep hkp (by simp) (by simp) (by simp);have hf1:=hf.keep hkp (by simp);have hSl:=(qp5.1 hs.c).1;obtain⟨cw,hL,hcw⟩:=hs.w;have hLl:=(qp5.1 hL).1;have hLLl:=hs.b;have hs2:=hs1.keep (H':=H1++[.map [] 0]) (bs:=[]) KpL.app (by simp) (by simp) (by simp);have hf2:=hf1.keep (H':=H1++[.map [] 0]) (bs:=[]) KpL.app (by simp);have hmF:∀ F,m=.map F->F≠H1.length:=fun F hF=>by
    rcases hf1 with ⟨rfl,_⟩|⟨F',es,n,rfl,hF',_⟩
    . cases hF
    . cases hF;have:=(qp5.1 hF').1;omega
   have hsu:=qhe hd hdv hfx hg hgg (K:=H1.length) (by omega) (by omega) (by omega) hmF g.length 0 (by omega) (Zl s d a PG.flatten) (H1++[.map [] 0]) T1 hnl hs2 hf2 ⟨[],0,lk0,by simp⟩;simp only[qrz]at hsu;simp[-getElem?_pos,e0,e3,e9,e10,e43,e44,qV,zu,qv];refine qc.acall hsu ?_;rintro w ⟨H3,T3⟩ ⟨rfl,hk3,_⟩;dsimp only at hk3;simp[-getElem?_pos];refine hkp.trans ⟨by have:=hk3.1;simp at this;omega,fun k x hk _=>hk3.2 _ _ (qa hk _) (by have:=(qp5.1 hk).1;simp;omega)⟩
theorem qod {s:Spc}(hvq:VQ s.p)(hvp:qi s.p=0)(hv20:s.p.vars.length<=20)(hb:yB s.p.vars (qz s.p)<=18)(hsm:s.small=false)(hRk:∀ e∈s.R,zg s.p.vars e=0/\Jg e)(hRl:s.R.length<=50000)(hrt:qp1 s.R s.rtok){fx:Nat->Option Nat}(hfx:∀ i x,fx i=some x->x<65536){m:AV}{gi:Nat}{g:List Nat}(hgi:(NG s.p)[gi]?=some g)(hgl:∀ g∈NG s.p,g.length<=1000)(hGl:(NG s.p).length<=1000)(hfl:(NG s.p).flatten.length<=1000)
 {r:AV} {a:List Int} {H:List Blk} (hg:qnN s g) (hpre:SpG s a ((NG s.p).take gi).flatten) (hs:SpOk s H) (hf:qgE m fx H) (ha:AsR r a H) (T:List (Option Nat)) :
 qg Tryz.prog GG 94 [.ptr s.S 0,.int .i64 gi,r,m] ⟨H,T⟩ (fun v U'=>v=.int .i64 (qck s.p fx g (Wn s a ((NG s.p).take gi).flatten):Nat)/\KpL [] H U'.H):=by
 refine qg.kO ⟨false,qd3,[],[]⟩ qe Tryz.func94 rfl (by kernel_rfl) ?_;have hS:=hs.c;have hgil:=(qp5.1 hgi).1;have hgil':(gi:Int)<(NG s.p).length:=by omega
 have hG:=qe1 hvp;simp only[spE,qJ,qqB,qqw,hsm,hG]at hS;have hsl:=qmV (G:=NG s.p) (gi:=gi) (by omega);have htl:((NG s.p).take gi).length<=1000:=by rw[qqD];omega
 have htm:∀ g∈(NG s.p).take gi,g.length<=1000:=fun g hg=>hgl g (qq0 hg)
 have hfl2:((NG s.p).take gi).flatten.length<=1000:=by
  have:(NG s.p).flatten=((NG s.p).take gi).flatten++((NG s.p).drop gi).flatten:=by rw[<- qrs,qqQ]
  rw[this,qqb]at hfl;omega
 obtain⟨PG,hPG⟩:∃ PG,PG=(NG s.p).take gi:=⟨_,rfl⟩;rw[<- hPG]at hsl htl htm hpre hfl2 ⊢;simp[-getElem?_pos,hS,hgil,hgil',hgi,yx,hsl];have hgg:=hgl g (qp6 hgi);have hrl:∀ l,(Wn s a l).length=s.R.length+l.length:=fun l=>by simp[Wn]
 refine qL.listR PG (fun dn ev U=>ev 0=.ptr s.S 0/\ev 2=r/\ev 3=m/\ev 9=.sl 1 (g.map zP) .none/\(∃ tok,ev 15=.sl 4 ((Wn s a dn.flatten).map qs) tok/\qp1 (Wn s a dn.flatten) tok)/\ev 81=.sl 1 (PG.map yx) .none/\ev 82=.int .i64 PG.length/\ev 83=.int .i64 dn.length/\KpL [] H U.H) ?_ ?_ ?_
 . exact⟨by simp,by simp,by simp,by simp,⟨s.rtok,by simp[Wn],by simpa[Wn] using hrt⟩,by simp,by simp,by simp,KpL.refl⟩
 . rintro dn g1 rest ev ⟨H1,T1⟩ R hR hdl hx hlt ⟨e0,e2,e3,e9,⟨tok,e15,htok⟩,e81,e82,e83,hkp⟩;dsimp only at hkp;have hdw:=wr (n:=(dn.length:Int)+1) (by omega) (by omega);have hlt':(dn.length:Int)<PG.length:=(by omega);have hg1m:=qp6 hx;have hg1l:=htm g1 hg1m;simp[-getElem?_pos,e0,e2,e3,e9,e15,e81,e82,e83,hlt,hlt',hx,yx];refine qL.listR g1 (fun dg ev U=>ev 0=.ptr s.S 0/\ev 2=r/\ev 3=m/\ev 9=.sl 1 (g.map zP) .none/\(∃ tok,ev 15=.sl 4 ((Wn s a (dn.flatten++dg)).map qs) tok/\qp1 (Wn s a (dn.flatten++dg)) tok)/\ev 81=.sl 1 (PG.map yx) .none/\ev 82=.int .i64 PG.length/\ev 83=.int .i64 dn.length/\ev 87=.sl 1 (g1.map zP) .none/\ev 88=.int .i64 g1.length/\ev 89=.int .i64 dg.length/\KpL [] H U.H) ?_ ?_ ?_
   . exact⟨by simp[e0],by simp[e2],by simp[e3],by simp[e9],⟨tok,by simp[e15],by simpa using htok⟩,by simp[e81],by simp[e82],by simp[e83],by simp,by simp,by simp,hkp⟩
   . rintro dg i rest2 ev ⟨H2,T2⟩ R2 hR2 hdl2 hx2 hlt2 ⟨e0,e2,e3,e9,⟨tok,e15,htok⟩,e81,e82,e83,e87,e88,e89,hkp2⟩;dsimp only at hkp2;have hdw2:=wr (n:=(dg.length:Int)+1) (by omega) (by omega);have hlt2':(dg.length:Int)<g1.length:=(by omega);have him:i∈PG.flatten:=qre.2 ⟨g1,hg1m,qp6 hx2⟩;obtain⟨v,l,hv,hw0,hw8,hl,hl20,_⟩:=hpre.gr i him;obtain⟨n,hna,hn16⟩:=hpre.val i him;have hs2:=hs.keep hkp2 (by simp) (by simp) (by simp);have ha2:=ha.keep hkp2 (by simp);obtain⟨u,hu1,hu2⟩:=ha2.at0 hna;have heq:=qbL hs2 hv (n:Int) T2;have hsn:Wn s a (dn.flatten++(dg++[i]))=Wn s a (dn.flatten++dg)++[eqE v.name (n:Int)]:=by
      have h2:JL s.p i=v.name:=(by simp[JL,hv]);have h3:aN a i=n:=(by simp[aN,qqh,hna]);simp[Wn,h2,h3]
     have hlen2:(Wn s a (dn.flatten++dg)).length<=60000:=by
      rw[hrl];have:(dn.flatten++dg).length<=PG.flatten.length:=by rw[hdl,hdl2];simp
      omega
     have hcl:=qjh (Wn s a (dn.flatten++dg)) (ptok tok) htok.p;have hae:=yE (eqE v.name (n:Int));have hl4:=zj (eqE v.name (n:Int));have htk:(qs (eqE v.name (n:Int))).take 4=qs (eqE v.name (n:Int)):=qqg (by rw[hl4];exact qqf _);have hap:=fun H T=>VE (R:=Wn s a (dn.flatten++dg)) (X:=eqE v.name (n:Int)) (H:=H) (T:=T) (by omega)
     have hix:=qiu (tok:=.none) hx2;generalize Wn s a (dn.flatten++dg)=R0 at *;generalize eqE v.name (n:Int)=X at *;simp[-getElem?_pos,-zR,-ww,e0,e2,e3,e9,e15,e81,e82,e83,e87,e88,e89,hlt2',hix,qnd];rw[qG rfl];simp[-getElem?_pos,-qK,-zR,-ww,qM,e0,e2,e3,e9,e15];refine qc.pure hcl (by cases tok<;>simp) (by cases tok<;>simp[zm,Leq,j6.refl,ptok]) ?_;simp[-getElem?_pos,-qK,-zR,-ww,qM,e0,e2,e3,e9,e15,hu1,hu2];refine qc.acall heq ?_;rintro w ⟨H3,T3⟩ ⟨rfl,hk3⟩;dsimp only at hk3;simp[-getElem?_pos,-qK,qM,e0,e2,e3,e9,e15,htk,hae,hl4,qk,qA,hap,e81,e82,e83,e87,e88,e89,hdw2];refine hR2 _ _ ⟨by simp[e0],by simp[e2],by simp[e3],by simp[e9],⟨.chain T3.length 1,by simp[hsn],by rw[hsn];exact .inl (by simp)⟩,by simp[e81],by simp[e82],by simp[e83],by simp[e87],by simp[e88],by simp,hkp2.trans hk3⟩
   . rintro ev ⟨H2,T2⟩ ⟨e0,e2,e3,e9,⟨tok,e15,htok⟩,e81,e82,e83,e87,e88,e89,hkp2⟩;simp[-getElem?_pos,e0,e2,e3,e9,e15,e81,e82,e83,e87,e88,e89,hdw];exact hR _ _ ⟨by simp[e0],by simp[e2],by simp[e3],by simp[e9],⟨tok,by simp[e15],by simpa using htok⟩,by simp[e81],by simp[e82],by simp,hkp2⟩
 . rintro ev ⟨H1,T1⟩ ⟨e0,e2,e3,e9,⟨tok,e15,htok⟩,e81,e82,e83,hkp⟩;dsimp only at hkp;have hs1:=hs.keep hkp (by simp) (by simp) (by simp);have hf1:=hf.keep hkp (by simp);have hkn:∀ e∈Wn s a PG.flatten,zg s.p.vars e=0/\Jg e:=fun e he=>by
    rcases qqo.1 he with he|he
    . exact hRk e he
    . obtain⟨i,hi,rfl⟩:=qqx.1 he;obtain⟨v,l,hv,_⟩:=hpre.gr i hi;obtain⟨n,hna,hn16⟩:=hpre.val i hi;have h2:JL s.p i=v.name:=(by simp[JL,hv]);have h3:aN a i=n:=(by simp[aN,qqh,hna]);rw[h2,h3];exact qeM hvq hvp hv (by omega) (by omega)
   have htr:=qkm hvq hvp hv20 hb hfx (m:=m) g (Wn s a PG.flatten) tok H1 T1 hg hkn (by rw[hrl];omega) htok hs1 hf1;simp[-getElem?_pos,e0,e2,e3,e9,e15,e81,e82,e83];refine qc.acall htr ?_;rintro w ⟨H3,T3⟩ ⟨rfl,hk3⟩;dsimp only at hk3;simp[-getElem?_pos];exact hkp.trans hk3
end Go.Proofs.YtoibbcnfhhggnaaGreatDoor
end
