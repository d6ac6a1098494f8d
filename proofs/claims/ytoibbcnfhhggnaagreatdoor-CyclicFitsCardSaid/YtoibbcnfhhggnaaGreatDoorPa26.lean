/- A part of the proof. -/
import Derived.Test.YtoibbcnfhhggnaaGreatDoorPa25
set_option linter.unusedVariables false
set_option linter.unusedSimpArgs false
set_option maxRecDepth 100000
set_option maxHeartbeats 16000000
set_option linter.defProp false
section
namespace Go.Proofs.YtoibbcnfhhggnaaGreatDoor
open Go Go.Abs
theorem wru {n:Int}(h0:0<=n)(h1:n<18446744073709551616):IntKind.u64.wrap n=n:=by
 simp[IntKind.wrap,IntKind.bits,IntKind.signed];omega
theorem WZ (n:Nat)(h:n<9223372036854775808):Pure Tryz.prog GG 275 [.int .i64 n] (.int .u64 n):=by
 refine Pure.k qe Tryz.func275 rfl (by kernel_rfl) ?_;have h1:=wru (n:=n) (by omega) (by omega);have h2:¬ (n:Int)<0:=by omega
 simp[h2,kj,h1]
theorem qaB (n:Nat)(h:n<18446744073709551616):Pure Tryz.prog GG 276 [.bool false,.int .u64 n] (if n<9223372036854775808 then .tup [.int .i64 n,.int .i64 0] else .tup [.int .i64 0,.int .i64 3]):=by
 refine Pure.k qe Tryz.func276 rfl (by kernel_rfl) ?_;by_cases hn:n<9223372036854775808
 . have h1:=wr (n:=n) (by omega) (by omega);have h2:(n:Int)<9223372036854775808:=(by omega);simp[hn,h2,kj,h1]
 . have h2:¬ (n:Int)<9223372036854775808:=(by omega);simp[hn,h2]
theorem qgd:∀ (b a:Nat),a<18446744073709551616->b<18446744073709551616->Pure Tryz.prog GG 311 [.int .u64 a,.int .u64 b] (.int .u64 (Nat.gcd a b:Nat)):=by
 intro b a ha hb;refine Pure.k qe Tryz.func311 rfl (by kernel_rfl) ?_;simp;refine qM.gen (fun n ev U=>∃ x y:Nat,n=y/\x<18446744073709551616/\y<18446744073709551616/\ev 0=.int .u64 x/\ev 1=.int .u64 y/\Nat.gcd x y=Nat.gcd a b) b ⟨a,b,rfl,ha,hb,by simp,by simp,rfl⟩ ?_;rintro y ev U R hR ⟨x,_,rfl,hx,hy,h0,h1,hg⟩;by_cases hz:y=0
 . subst hz;simp at hg;simp[h0,h1,hg]
 . simp[h0,h1,hz];refine hR (x % y) _ _ (qtx _ (by omega)) ⟨y,x % y,rfl,hy,qsp (Nat.mod_le _ _) hx,by simp,by simp[qrU],?_⟩;rw[Nat.gcd_comm y,<- Nat.gcd_rec,Nat.gcd_comm];exact hg
theorem qqa (n m:Nat)(h:n % 4294967296=m):zL .and .u64 n 4294967295=some (.int .u64 m):=by
 have h1:((BitVec.ofInt 64 n &&& BitVec.ofInt 64 4294967295).toNat:Int)=m:=by
  rw[BitVec.toNat_and,BitVec.toNat_ofInt];have e:(BitVec.ofInt 64 4294967295).toNat=2 ^ 32-1:=by decide
  rw[e,qsG];omega
 show some (AV.int .u64 (IntKind.u64.wrap ((BitVec.ofInt 64 n &&& BitVec.ofInt 64 4294967295).toNat:Int)))=_;rw[h1,wru (by omega) (by omega)]
theorem qhn (n m:Nat)(h:n / 4294967296=m):(n:Int).fdiv 4294967296=m:=by
 rw[qst _ (by omega)];omega
theorem umul (a b c:Nat)(h:a*b=c)(hc:c<18446744073709551616):zL .mul .u64 a b=some (.int .u64 c):=by
 show some (AV.int .u64 (IntKind.u64.wrap ((a:Int)*b)))=_;rw[<- qsF,h,wru (by omega) (by omega)]
theorem uadd (a b c:Nat)(h:a+b=c)(hc:c<18446744073709551616):zL .add .u64 a b=some (.int .u64 c):=by
 show some (AV.int .u64 (IntKind.u64.wrap ((a:Int)+b)))=_;rw[<- Int.natCast_add,h,wru (by omega) (by omega)]
theorem umulw (a b c d:Nat)(h:a*b=18446744073709551616*d+c)(hc:c<18446744073709551616):zL .mul .u64 a b=some (.int .u64 c):=by
 show some (AV.int .u64 (IntKind.u64.wrap ((a:Int)*b)))=_;rw[<- qsF,h];simp only[IntKind.wrap,IntKind.bits,IntKind.signed];simp;omega
theorem qny (x:Nat)(hx:x<18446744073709551616):∃ a b:Nat,x % 4294967296=a/\x / 4294967296=b/\x=4294967296*b+a/\a<=4294967295/\b<=4294967295:=⟨_,_,rfl,rfl,by omega,by omega,by omega⟩
theorem pow32:((2:Int) ^ min 32 IntKind.u64.bits)=4294967296:=by decide
theorem qh7 (x y hi lo:Nat)(hx:x<18446744073709551616)(hy:y<18446744073709551616)(hh:x*y=18446744073709551616*hi+lo)(hlo:lo<18446744073709551616) :
 Pure Tryz.prog GG 274 [.int .u64 x,.int .u64 y] (.tup [.int .u64 hi,.int .u64 lo]):=by
 have hlast:=umulw x y lo hi hh hlo;have key:∃ x0 x1 y0 y1 p00 p10 t t0 t1 q r p01 p11 u v w:Nat,zL .and .u64 x 4294967295=some (.int .u64 x0)/\(x:Int).fdiv 4294967296=x1/\zL .and .u64 y 4294967295=some (.int .u64 y0)/\(y:Int).fdiv 4294967296=y1 /\
  zL .mul .u64 x0 y0=some (.int .u64 p00)/\zL .mul .u64 x1 y0=some (.int .u64 p10)/\(p00:Int).fdiv 4294967296=q/\zL .add .u64 p10 q=some (.int .u64 t)/\zL .and .u64 t 4294967295=some (.int .u64 t0)/\(t:Int).fdiv 4294967296=t1 /\
  zL .mul .u64 x0 y1=some (.int .u64 p01)/\zL .add .u64 t0 p01=some (.int .u64 r)/\zL .mul .u64 x1 y1=some (.int .u64 p11)/\zL .add .u64 p11 t1=some (.int .u64 u)/\(r:Int).fdiv 4294967296=v/\zL .add .u64 u v=some (.int .u64 hi):=by
  obtain⟨x0,x1,a1,a2,a3,a4,a5⟩:=qny x hx;obtain⟨y0,y1,b1,b2,b3,b4,b5⟩:=qny y hy;have m11:=qsl a5 b5;have m10:=qsl a5 b4;have m01:=qsl a4 b5;have m00:=qsl a4 b4;have hp:x*y=18446744073709551616*(x1*y1)+4294967296*(x1*y0)+4294967296*(x0*y1)+x0*y0:=by
   rw[a3,b3,qri,qtk,qtk,Nat.mul_mul_mul_comm,Nat.mul_assoc 4294967296 x1 y0,Nat.mul_left_comm x0 4294967296 y1];omega
  rw[hh]at hp;obtain⟨p11,e11⟩:∃ p,x1*y1=p:=⟨_,rfl⟩;obtain⟨p10,e10⟩:∃ p,x1*y0=p:=⟨_,rfl⟩;obtain⟨p01,e01⟩:∃ p,x0*y1=p:=⟨_,rfl⟩;obtain⟨p00,e00⟩:∃ p,x0*y0=p:=⟨_,rfl⟩;rw[e11]at hp m11;rw[e10]at hp m10;rw[e01]at hp m01;rw[e00]at hp m00;obtain⟨q,eq⟩:∃ p,p00 / 4294967296=p:=⟨_,rfl⟩;obtain⟨t,et⟩:∃ p,p10+q=p:=⟨_,rfl⟩;obtain⟨t0,et0⟩:∃ p,t % 4294967296=p:=⟨_,rfl⟩;obtain⟨t1,et1⟩:∃ p,t / 4294967296=p:=⟨_,rfl⟩;obtain⟨r,er⟩:∃ p,t0+p01=p:=⟨_,rfl⟩;obtain⟨u,eu⟩:∃ p,p11+t1=p:=⟨_,rfl⟩;obtain⟨v,ev⟩:∃ p,r / 4294967296=p:=⟨_,rfl⟩;exact⟨x0,x1,y0,y1,p00,p10,t,t0,t1,q,r,p01,p11,u,v,0,qqa _ _ a1,qhn _ _ a2,qqa _ _ b1,qhn _ _ b2,umul _ _ _ e00 (by omega),umul _ _ _ e10 (by omega),qhn _ _ eq,uadd _ _ _ et (by omega),qqa _ _ et0,qhn _ _ et1,
   umul _ _ _ e01 (by omega),uadd _ _ _ er (by omega),umul _ _ _ e11 (by omega),uadd _ _ _ eu (by omega),qhn _ _ ev,uadd _ _ _ (by omega) (by omega)⟩
 clear hx hy hh hlo;obtain⟨x0,x1,y0,y1,p00,p10,t,t0,t1,q,r,p01,p11,u,v,_,k1,k2,k3,k4,k5,k6,k7,k8,k9,k10,k11,k12,k13,k14,k15,k16⟩:=key;refine Pure.k qe Tryz.func274 rfl (by kernel_rfl) ?_;simp[-zL,pow32,k1,k2,k3,k4,k5,k6,k7,k8,k9,k10,k11,k12,k13,k14,k15,k16,hlast]
def qb2 (n:Nat):Int×Int:=if n<9223372036854775808 then (n,0) else (0,3)
theorem qh0 (a b:Nat)(ha:a<9223372036854775808)(hb:b<9223372036854775808):Pure Tryz.prog GG 224 [.int .i64 a,.int .i64 b] (.tup [.int .i64 (qb2 (a*b)).1,.int .i64 (qb2 (a*b)).2]):=by
 obtain⟨hi,lo,hh,hlo⟩:∃ hi lo,a*b=18446744073709551616*hi+lo/\lo<18446744073709551616:=⟨_,_,(Nat.div_add_mod _ _).symm,qtx _ (by omega)⟩;have hm:=qh7 a b hi lo (by omega) (by omega) hh hlo;have hs1:=WZ a ha;have hs2:=WZ b hb;have hsg:=qaB lo hlo;have h2:¬ (a:Int)<0:=by omega
 have h3:¬ (b:Int)<0:=by omega
 refine Pure.k qe Tryz.func224 rfl (by kernel_rfl) ?_;generalize hr:qb2 (a*b)=r;clear hm;have hm:=qh7 a b hi lo (by omega) (by omega) hh hlo;simp;refine qd.call hs1 (by simp) ?_;simp;refine qd.call hs2 (by simp) ?_;simp;refine qd.call hm (by simp) ?_;simp;refine⟨fun h0=>?_,fun h0=>?_⟩
 . have h0':¬ a*b<9223372036854775808:=(by omega);simp[qb2,h0']at hr;subst hr;simp
 . have:a*b=lo:=by omega
   simp[h2,h3];refine qd.call hsg (by simp) ?_;rw[this]at hr;unfold qb2 at hr;split at hr<;>subst hr<;>rename_i h<;>simp[h]
theorem lcm249 (a b:Nat)(ha:0<a)(hb:0<b)(ha1:a<9223372036854775808)(hb1:b<9223372036854775808):Pure Tryz.prog GG 272 [.int .i64 a,.int .i64 b] (.tup [.int .i64 (qb2 (Nat.lcm a b)).1,.int .i64 (qb2 (Nat.lcm a b)).2]):=by
 have hg:=Nat.gcd_pos_of_pos_left b ha;have hgl:Nat.gcd a b<=a:=Nat.le_of_dvd ha (Nat.gcd_dvd_left a b);have hlcm:a / Nat.gcd a b*b=Nat.lcm a b:=by
  unfold Nat.lcm;exact Nat.div_mul_right_comm (Nat.gcd_dvd_left a b) b
 have hq:a / Nat.gcd a b<=a:=qsV _ _;obtain⟨g,hge⟩:∃ g,Nat.gcd a b=g:=⟨_,rfl⟩;obtain⟨q,hqe⟩:∃ q,a / g=q:=⟨_,rfl⟩;obtain⟨l,hle⟩:∃ l,Nat.lcm a b=l:=⟨_,rfl⟩;have hd:=qgd b a (by omega) (by omega);rw[hge]at hg hgl hlcm hq hd;rw[hqe]at hlcm hq;rw[hle]at hlcm ⊢;obtain⟨hi,lo,hh,hlo⟩:∃ hi lo,l=18446744073709551616*hi+lo/\lo<18446744073709551616:=⟨_,_,(Nat.div_add_mod _ _).symm,qtx _ (by omega)⟩;have hm:=qh7 q b hi lo (by omega) (by omega) (by omega) hlo;have hs1:=WZ a ha1;have hs2:=WZ b hb1;have hsg:=qaB lo hlo;have ha0:¬ a=0:=by omega
 have hb0:¬ b=0:=by omega
 have hg0:¬ g=0:=by omega
 have hdiv:(a:Int).tdiv g=q:=by
  rw[qsv (by omega)];omega
 have hqu:=wru (n:=q) (by omega) (by omega);generalize hr:qb2 l=r;refine Pure.k qe Tryz.func272 rfl (by kernel_rfl) ?_;simp[ha0,hb0];refine qd.call hs1 (by simp) ?_;simp;refine qd.call hs1 (by simp) ?_;simp;refine qd.call hs2 (by simp) ?_;simp;refine qd.call hd (by simp) ?_;simp[hg0,hdiv,hqu];refine qd.call hs2 (by simp) ?_;simp;refine qd.call hm (by simp) ?_;simp;refine⟨fun h0=>?_,fun h0=>?_⟩
 . have h0':¬ l<9223372036854775808:=(by omega);simp[qb2,h0']at hr;subst hr;simp
 . have:l=lo:=by omega
   refine qd.call hsg (by simp) ?_;rw[this]at hr;unfold qb2 at hr;split at hr<;>subst hr<;>rename_i h<;>simp[h]
theorem shl1d {w:Int}(h0:0<=w)(h1:w<=30):IntKind.i64.wrap ((2:Int) ^ min w.toNat IntKind.i64.bits)=((2 ^ w.toNat:Nat):Int):=by
 have e:min w.toNat IntKind.i64.bits=w.toNat:=qsr (by show w.toNat<=64;omega);rw[e];have:2 ^ w.toNat<=2 ^ 30:=qqL (by omega) (by omega);have e2:(2:Int) ^ w.toNat=((2 ^ w.toNat:Nat):Int):=by simp
 rw[e2];generalize 2 ^ w.toNat=N at *;exact wr (by omega) (by omega)
theorem qil (w:Weight):Pure Tryz.prog GG 273 [.agg (qG w)] (.int .i64 (if w.each=true then 1 else 0)):=by
 refine Pure.k qe Tryz.func273 rfl (by kernel_rfl) ?_;cases h:w.each<;>simp[h]
theorem isS169 (w:Weight):Pure Tryz.prog GG 223 [.agg (qG w),.int .u8 115] (.bool (!w.each)):=by
 obtain⟨lo,hi,wt,each⟩:=w;have hk:=qil ⟨lo,hi,wt,each⟩;refine Pure.k qe Tryz.func223 rfl (by kernel_rfl) ?_;cases each
 all_goals
  simp at hk;simp;refine qd.call hk (by simp) ?_;simp;refine qd.call hk (by simp) ?_;simp
theorem isE169 (w:Weight):Pure Tryz.prog GG 223 [.agg (qG w),.int .u8 101] (.bool w.each):=by
 obtain⟨lo,hi,wt,each⟩:=w;have hk:=qil ⟨lo,hi,wt,each⟩;refine Pure.k qe Tryz.func223 rfl (by kernel_rfl) ?_;cases each
 all_goals
  simp at hk;simp;refine qd.call hk (by simp) ?_;simp;refine qd.call hk (by simp) ?_;simp
theorem qds (w:Weight)(h0:0<=w.lo)(h1:w.lo<=w.hi)(h2:w.hi<=65535):Pure Tryz.prog GG 225 [.agg (qG w)] (.int .i64 (w.hi-w.lo+1)):=by
 refine Pure.k qe Tryz.func225 rfl (by kernel_rfl) ?_;have e1:IntKind.i64.wrap (w.hi-w.lo)=w.hi-w.lo:=wr (by omega) (by omega);have e2:IntKind.i64.wrap (w.hi-w.lo+1)=w.hi-w.lo+1:=wr (by omega) (by omega);simp[e1,e2]
def qp7 (N:Int)(w:Weight):Bool:=decide (w.lo<0)||decide (w.hi<w.lo)||decide (N-1<w.hi)||decide (w.weight<0)||decide (1000<w.weight)
def wZ (l:List Weight)(width:Int):Int :=
 if width<1\/8<width then 1 else if 16<l.length then 2 else if l.length=0 then 1 else if l.any (qp7 ((2 ^ width.toNat:Nat):Int))=true then 1 else 0
theorem qi0 (l:List Weight)(hl:Fits l)(width:Int):Pure Tryz.prog GG 220 [.sl 4 (l.map qG) .none,.int .i64 width] (.int .i64 (wZ l width)):=by
 refine Pure.k qe Tryz.func220 rfl (by kernel_rfl) ?_;generalize hr:wZ l width=r;unfold wZ at hr;by_cases hw:width<1\/8<width
 . rw[if_pos hw]at hr;subst hr;rcases hw with h|h
   . simp[h]
   . have:¬ width<1:=by omega
     simp[h,this]
 . rw[if_neg hw]at hr;have h1:¬ width<1:=(by omega);have h2:¬ 8<width:=(by omega);have h3:¬ width<0:=(by omega);have hsh:=shl1d (w:=width) (by omega) (by omega);by_cases hb:16<l.length
   . rw[if_pos hb]at hr;subst hr;have hb':(16:Int)<l.length:=(by omega);simp[h1,h2,hb']
   . rw[if_neg hb]at hr;by_cases hz:l.length=0
     . rw[if_pos hz]at hr;subst hr;have hz':l=[]:=qqA hz;subst hz';simp[h1,h2]
     . rw[if_neg hz]at hr;have hNb:2 ^ width.toNat<=2 ^ 8:=qqL (by omega) (by omega);have hNp:0<2 ^ width.toNat:=Nat.pow_pos (by omega);generalize 2 ^ width.toNat=N at hr hsh hNb hNp;have hN1:IntKind.i64.wrap ((N:Int)-1)=N-1:=wr (by omega) (by omega);have hb':¬ (16:Int)<l.length:=(by omega);have hz':l≠[]:=fun e=>hz (by rw[e];rfl)
       simp[h1,h2,hb',hz'];refine qM.listR l (fun d ev U=>ev 0=.sl 4 (l.map qG) .none/\ev 1=.int .i64 width/\ev 22=.sl 4 (l.map qG) .none/\ev 23=.int .i64 l.length/\ev 24=.int .i64 d.length/\d.any (qp7 N)=false) ?_ ?_ ?_
       . simp
       . rintro d w rest ev U R hR hd hx hlt ⟨e0,e1,e22,e23,e24,ha⟩;have hdw:IntKind.i64.wrap ((d.length:Int)+1)=(d.length+1:Nat):=(by rw[wr (by omega) (by omega)];omega);have hbad:qp7 N w=true->r=1:=fun h=>by
          have:l.any (qp7 N)=true:=by rw[hd];simp[h]
          rw[if_pos this]at hr;exact hr.symm
         simp[-getElem?_pos,e0,e1,e22,e23,e24,hlt,hx,h3,hsh,hN1,hdw]
         repeat' first | (with_reducible refine And.intro ?_ ?_) | (intro _)
         all_goals first
          | exact (hbad (by unfold qp7;simp;omega)).symm
          | exact hR _ _ ⟨by simp[e0],by simp[e1],by simp[e22],by simp[e23],by simp,by simp[qp7,ha];omega⟩
       . rintro ev U ⟨e0,e1,e22,e23,e24,ha⟩;rw[if_neg (by rw[ha];simp)]at hr;subst hr;simp[-getElem?_pos,e23,e24]
def qaT (l:List Weight)(v:Int):Option Weight:=l.find? fun w=>decide (w.lo<=v)&&decide (v<=w.hi)
theorem qlj (l:List Weight)(hl:Fits l)(v:Int):Pure Tryz.prog GG 222 [.sl 4 (l.map qG) .none,.int .i64 v]
 (match qaT l v with | some w=>.tup [.agg (qG w),.bool true] | none=>.tup [.agg (qG ⟨0,0,0,false⟩),.bool false]):=by
 refine Pure.k qe Tryz.func222 rfl (by kernel_rfl) ?_;generalize hr:qaT l v=r;unfold qaT at hr;simp;refine qM.listR l (fun d ev U=>ev 0=.sl 4 (l.map qG) .none/\ev 1=.int .i64 v/\ev 4=.ptr 0 0/\ev 8=.sl 4 (l.map qG) .none/\ev 9=.int .i64 l.length/\ev 10=.int .i64 d.length/\(∃ t,U=⟨.cells (qG ⟨0,0,0,false⟩)::t,[]⟩)/\∀ w∈d,¬ (w.lo<=v/\v<=w.hi)) ?_ ?_ ?_
 . simp
 . rintro d w rest ev U R hR hd hx hlt ⟨e0,e1,e4,e8,e9,e10,⟨t,rfl⟩,ha⟩;have hdw:IntKind.i64.wrap ((d.length:Int)+1)=(d.length+1:Nat):=(by rw[wr (by omega) (by omega)];omega);by_cases hc:w.lo<=v/\v<=w.hi
   . have:r=some w:=by
      rw[<- hr,hd,List.find?_append,qs5.2 (fun x hx=>by have:=ha x hx;simp;omega)];simp[hc]
     subst this;simp[-getElem?_pos,e0,e1,e4,e8,e9,e10,hlt,hx,hc]
   . have hgo:=hR;simp[-getElem?_pos,e0,e1,e4,e8,e9,e10,hlt,hx,hdw]
     repeat' first | (with_reducible refine And.intro ?_ ?_) | (intro _)
     all_goals first
      | (exfalso;omega)
      | exact hR _ _ ⟨by simp[e0],by simp[e1],by simp[e4],by simp[e8],by simp[e9],by simp,⟨_,rfl⟩,fun x hx=>by
       rcases qqE.1 hx with h|h
       . exact ha x h
       . simp at h;subst h;exact hc⟩
 . rintro ev U ⟨e0,e1,e4,e8,e9,e10,⟨t,rfl⟩,ha⟩;have:r=none:=by
    rw[<- hr,qs5];intro x hx;have:=ha x hx;simp;omega
   subst this;simp[-getElem?_pos,e4,e9,e10]
def wsz (w:Weight):Nat:=(w.hi-w.lo+1).toNat
def WOk (l:List Weight):Prop:=∀ w∈l,0<=w.lo/\w.lo<=w.hi/\w.hi<=255/\0<=w.weight/\w.weight<=1000
theorem qao {l:List Weight}{width:Int}(h:wZ l width=0):WOk l/\l.length<=16/\l≠[]:=by
 unfold wZ at h;split at h
 . cases h
 . rename_i hw;split at h
   . cases h
   . split at h
     . cases h
     . rename_i h1 h2;split at h
       . cases h
       . rename_i hb;refine⟨fun w hw=>?_,by omega,fun e=>h2 (by rw[e];rfl)⟩;have hNb:2 ^ width.toNat<=2 ^ 8:=qqL (by omega) (by omega);generalize 2 ^ width.toNat=N at *;simp only[qqN,not_exists,not_and,Bool.not_eq_true]at hb;have:=hb w hw;unfold qp7 at this;simp at this;omega
def jx:List Weight->Nat->Int×Int
 | [],s=>(s,0)
 | w::r,s=>if w.each=true then jx r s else if Nat.lcm s (wsz w)<9223372036854775808 then jx r (Nat.lcm s (wsz w)) else (0,3)
theorem qb3 {w:Weight}(h:w.lo<=w.hi):0<wsz w:=by unfold wsz;omega
theorem qkJ (l:List Weight)(hl:l.length<=1000)(hw:WOk l):Pure Tryz.prog GG 221 [.sl 4 (l.map qG) .none] (.tup [.int .i64 (jx l 1).1,.int .i64 (jx l 1).2]):=by
 refine Pure.k qe Tryz.func221 rfl (by kernel_rfl) ?_;generalize hr:jx l 1=r;simp;refine qM.listR l (fun d ev U=>ev 0=.sl 4 (l.map qG) .none/\ev 8=.sl 4 (l.map qG) .none/\ev 9=.int .i64 l.length/\ev 10=.int .i64 d.length/\∃ s:Nat,ev 4=.int .i64 s/\0<s/\s<9223372036854775808/\jx (l.drop d.length) s=r) ?_ ?_ ?_
 . exact⟨by simp,by simp,by simp,by simp,1,by simp,by omega,by omega,by simpa using hr⟩
 . rintro d w rest ev U R hR hd hx hlt ⟨e0,e8,e9,e10,s,e4,hs0,hs1,hsc⟩;have hdw:IntKind.i64.wrap ((d.length:Int)+1)=(d.length+1:Nat):=(by rw[wr (by omega) (by omega)];omega);obtain⟨w0,w1,w2,w3,w4⟩:=hw w (qqm hx);have hdr:l.drop d.length=w::l.drop (d.length+1):=(by rw[hd];simp);rw[hdr]at hsc;have hwp:=qb3 w1;have hsz:(wsz w:Int)=w.hi-w.lo+1:=(by unfold wsz;omega);have h1:=isS169 w;have h2:=qds w w0 w1 (by omega);have h3:=lcm249 s (wsz w) hs0 hwp hs1 (by omega);rw[hsz]at h3;have hlp:=Nat.lcm_pos hs0 hwp;have hgo:∀ (s':Nat) (ev':Env) (U':St),0<s'->s' < 9223372036854775808->jx (l.drop (d.length+1)) s'=r->ev' 0=.sl 4 (l.map qG) .none->ev' 8=.sl 4 (l.map qG) .none->ev' 9=.int .i64 l.length->ev' 10=.int .i64 (d.length+1:Nat)->ev' 4=.int .i64 s'->R ev' U':=fun s' ev' U' a1 a2 a3 a4 a5 a6 a7 a8=>
    hR _ _ ⟨a4,a5,a6,by simpa using a7,s',a8,a1,a2,by simpa using a3⟩
   obtain⟨lo,hi,wt,each⟩:=w;simp[-getElem?_pos,e0,e8,e9,e10,hlt,hx];refine qd.call h1 (by simp) ?_;cases each
   . simp only[jx,qqF,if_false]at hsc;simp[-getElem?_pos,e4];refine qd.call h2 (by simp) ?_;simp[-getElem?_pos,e4];refine qd.call h3 (by simp) ?_;generalize Nat.lcm s (wsz ⟨lo,hi,wt,false⟩)=L at hsc hlp ⊢;by_cases hL:L<9223372036854775808
     . rw[if_pos hL]at hsc;simp[-getElem?_pos,qb2,hL,e10,hdw];exact hgo L _ _ hlp hL hsc (by simp[e0]) (by simp[e8]) (by simp[e9]) (by simp) (by simp)
     . rw[if_neg hL]at hsc;subst hsc;simp[-getElem?_pos,qb2,hL]
   . simp only[jx,if_true]at hsc;simp[-getElem?_pos,e10,hdw];exact hgo s _ _ hs0 hs1 hsc (by simp[e0]) (by simp[e8]) (by simp[e9]) (by simp) (by simp[e4])
 . rintro ev U ⟨e0,e8,e9,e10,s,e4,hs0,hs1,hsc⟩;rw[qsz]at hsc;simp only[jx]at hsc;subst hsc;simp[-getElem?_pos,e9,e10,e4]
theorem vJ:∀ (l:List Weight) (s:Nat),WOk l->0<s->s<9223372036854775808->((jx l s).2=0/\0<(jx l s).1/\(jx l s).1<9223372036854775808)\/jx l s=(0,3)
 | [],s,_,h0,h1=>.inl ⟨rfl,by simp only[jx];omega,by simp only[jx];omega⟩
 | w::r,s,hw,h0,h1=>by
  have hr:WOk r:=fun x hx=>hw x (by simp[hx])
  have hwp:=qb3 (hw w (by simp)).2.1;simp only[jx];split
  . exact vJ r s hr h0 h1
  . split
    . rename_i h;exact vJ r _ hr (Nat.lcm_pos h0 hwp) h
    . exact .inr rfl
def ZH (l:List Weight)(s:Nat)(v:Int):Int×Int:=match qaT l v with
 | none=>(0,0)
 | some w=>if w.each=true then qb2 (w.weight.toNat*s) else qb2 (w.weight.toNat*(s / wsz w))
theorem qgK (l:List Weight)(hl:l.length<=1000)(hw:WOk l)(s:Nat)(hs:s<9223372036854775808)(v:Int):Pure Tryz.prog GG 173 [.sl 4 (l.map qG) .none,.int .i64 s,.int .i64 v] (.tup [.int .i64 (ZH l s v).1,.int .i64 (ZH l s v).2]):=by
 have ho:=qlj l (by unfold Fits;omega) v;refine Pure.k qe Tryz.func173 rfl (by kernel_rfl) ?_;generalize hr:ZH l s v=r;unfold ZH at hr;simp;refine qd.call ho (by simp) ?_
 cases hf:qaT l v with
 | none=>
  rw[hf]at hr;simp only at hr;subst hr;simp
 | some w=>
  rw[hf]at hr;simp only at hr;obtain⟨w0,w1,w2,w3,w4⟩:=hw w (List.mem_of_find?_eq_some hf);have h1:=isE169 w;have h2:=qds w w0 w1 (by omega);have hwp:=qb3 w1;have hsz:(wsz w:Int)=w.hi-w.lo+1:=by unfold wsz;omega
  rw[<- hsz]at h2;obtain⟨k,hk⟩:∃ k:Nat,w.weight=k:=⟨w.weight.toNat,by omega⟩;have hm1:=qh0 k s (by omega) hs;have hq:s / wsz w<=s:=qsV _ _;have hm2:=qh0 k (s / wsz w) (by omega) (by omega);have hkt:w.weight.toNat=k:=by omega
  rw[hkt]at hr;generalize hz:wsz w=z at *;have hz0:¬ z=0:=by omega
  obtain⟨q,hqe⟩:∃ q,s / z=q:=⟨_,rfl⟩;have hdiv:(s:Int).tdiv z=q:=by
   rw[qsv (by omega)];omega
  rw[hqe]at hm2 hr hq;have hqu:=wr (n:=q) (by omega) (by omega);clear hsz hwp w0 w1 w2 w3 w4 hkt hz;obtain⟨lo,hi,wt,each⟩:=w;simp only at hk;subst hk;cases each
  . simp only[qqF,if_false]at hr;subst hr;simp[-getElem?_pos];refine qd.call h1 (by simp) ?_;simp[-getElem?_pos];refine qd.call h2 (by simp) ?_;simp[-getElem?_pos,hz0,hdiv,hqu];refine qd.call hm2 (by simp) ?_;simp
  . simp only[if_true]at hr;subst hr;simp[-getElem?_pos];refine qd.call h1 (by simp) ?_;simp[-getElem?_pos];refine qd.call hm1 (by simp) ?_;simp
theorem qkK (l:List Weight)(hl:l.length<=1000):Pure Tryz.prog GG 172 [.sl 4 (l.map qG) .none]
 (.tup [.int .i64 (if wZ l 8=0 then (jx l 1).1 else 0),.int .i64 (if wZ l 8=0 then (jx l 1).2 else wZ l 8)]):=by
 have hv:=qi0 l (by unfold Fits;omega) 8;refine Pure.k qe Tryz.func172 rfl (by kernel_rfl) ?_;simp;refine qd.call hv (by simp) ?_;by_cases h:wZ l 8=0
 . simp[h];refine qd.call (qkJ l hl (qao h).1) (by simp) ?_;simp
 . simp[h]
def yV (l:List Weight)(v:Int):Int×Int :=
 if wZ l 8≠0 then (0,wZ l 8) else if (jx l 1).2≠0 then (0,(jx l 1).2) else ZH l (jx l 1).1.toNat v
theorem qj8 (l:List Weight)(hl:l.length<=1000)(v:Int):Pure Tryz.prog GG 126 [.sl 4 (l.map qG) .none,.int .i64 v] (.tup [.int .i64 (yV l v).1,.int .i64 (yV l v).2]):=by
 have hs:=qkK l hl;refine Pure.k qe Tryz.func126 rfl (by kernel_rfl) ?_;generalize hr:yV l v=r;unfold yV at hr;simp;refine qd.call hs (by simp) ?_;by_cases h:wZ l 8=0
 . have hw:=(qao h).1;rw[if_neg (by simp[h])]at hr;rcases vJ l 1 hw (by omega) (by omega) with ⟨h1,h2,h3⟩|h1
   . rw[if_neg (by simp[h1])]at hr;have he:=qgK l hl hw (jx l 1).1.toNat (by omega) v;have e:(((jx l 1).1.toNat:Nat):Int)=(jx l 1).1:=(by omega);rw[e]at he;simp[h,h1];refine qd.call he (by simp) ?_;subst hr;simp
   . rw[h1]at hr;simp at hr;subst hr;simp[h,h1]
 . rw[if_pos h]at hr;subst hr;simp[h]
theorem K8 (n:Nat):sat n=min n 1099511627777:=rfl
theorem qhG (a b:Nat)(ha:a<=lim)(hb:b<=lim):Pure Tryz.prog GG 182 [.int .i64 a,.int .i64 b] (.int .i64 (sat (a+b):Nat)):=by
 refine Pure.k qe Tryz.func182 rfl (by kernel_rfl) ?_;unfold lim at ha hb;have hw:=wr (n:=(a:Int)+b) (by omega) (by omega);have hm:Qx (.int .i64 ((a:Int)+b)) (.int .i64 1099511627777)=some (.int .i64 (sat (a+b):Nat)):=by
  simp only[Qx,K8];congr 2;split<;>omega
 simp[-getElem?_pos,hw,hm]
theorem qdC (a b:Nat)(ha:a<=lim)(hb:b<=lim):Pure Tryz.prog GG 183 [.int .i64 a,.int .i64 b] (.int .i64 (sat (a*b):Nat)):=by
 refine Pure.k qe Tryz.func183 rfl (by kernel_rfl) ?_;unfold lim at ha hb;by_cases h1:a=0
 . subst h1;simp[-getElem?_pos,K8]
 by_cases h2:b=0
 . subst h2;simp[-getElem?_pos,h1,K8]
 have hq:(1099511627777:Int).tdiv (b:Int)=((1099511627777 / b:Nat):Int):=by
  rw[qsv (by omega)];simp
 have hqle:1099511627777 / b<=1099511627777:=qsV _ _;have hwq:IntKind.i64.wrap ((1099511627777 / b:Nat):Int)=((1099511627777 / b:Nat):Int):=by
  generalize 1099511627777 / b=q at *;exact wr (by omega) (by omega)
 have h2':¬ (b:Int)=0:=by omega
 have h1':¬ (a:Int)=0:=by omega
 by_cases hgt:1099511627777 / b<a
 . have hgt':((1099511627777 / b:Nat):Int)<(a:Int):=Int.ofNat_lt.2 hgt;have hs:sat (a*b)=1099511627777:=by
    have:1099511627777<a*b:=(Nat.div_lt_iff_lt_mul (by omega)).1 hgt;rw[K8];omega
   generalize 1099511627777 / b=q at *;simp[-getElem?_pos,-zL,qaV,qaW,qnf,h1,h2,h1',h2',hs,show zL .quo .i64 1099511627777 b=some (.int .i64 (q:Int)) by simp only[zL];rw[if_neg h2',hq,hwq],hgt]
 . have hgt':¬ ((1099511627777 / b:Nat):Int)<(a:Int):=fun h=>hgt (Int.ofNat_lt.1 h)
   have hle:a*b<=1099511627777:=(Nat.le_div_iff_mul_le (by omega)).1 (by omega);have hww:=wr (n:=(a:Int)*b) (by
    have:(0:Int)<=(a:Int)*b:=by rw[<- qsF];omega
    omega) (by
    rw[<- qsF];omega)
   have hm:Qx (.int .i64 ((a:Int)*b)) (.int .i64 1099511627777)=some (.int .i64 (sat (a*b):Nat)):=by
    simp only[Qx,K8];rw[<- qsF];congr 2;split<;>omega
   generalize hqq:1099511627777 / b=q at *;simp[-getElem?_pos,-zL,qaV,op_mul,qnf,h1,h2,h1',h2',show zL .quo .i64 1099511627777 b=some (.int .i64 (q:Int)) by simp only[zL];rw[if_neg h2',hq,hwq],hgt,hww,hm]
def jN (n:Nat)(l:List Dist):List (Option (List Weight)):=l.foldl (fun o d=>o.set d.var.toNat (some d.weights)) (List.replicate n none)
def qiZ (o:Option (List Weight)):List AV:=match o with
 | none=>[.sl 0 [] .nil]
 | some w=>[.sl 4 (w.map qG) .none]
theorem wn (n:Nat)(l:List Dist):(jN n l).length=n:=by
 have:∀ (l:List Dist) (o:List (Option (List Weight))),(l.foldl (fun o d=>o.set d.var.toNat (some d.weights)) o).length=o.length:=by
  intro l
  induction l with
  | nil=>intro o;rfl
  | cons a r ih=>intro o;rw[qq7,ih];simp
 unfold jN;rw[this];simp
theorem qcK (n:Nat)(l:List Dist)(d:Dist):jN n (l++[d])=(jN n l).set d.var.toNat (some d.weights):=by simp[jN,qrC]
theorem qfW {n:Nat}:∀ {l:List Dist} {w:List Weight},some w∈jN n l->∃ d∈l,d.weights=w:=by
 have gen:∀ (l:List Dist) (o:List (Option (List Weight))) (w:List Weight),some w∈l.foldl (fun o d=>o.set d.var.toNat (some d.weights)) o->some w∈o\/∃ d∈l,d.weights=w:=by
  intro l
  induction l with
  | nil=>intro o w h;exact .inl h
  | cons a r ih=>
   intro o w h;rw[qq7]at h;rcases ih _ w h with h|⟨d,hd,he⟩
   . rcases qr9 h with h|h
     . exact .inl h
     . cases h;exact .inr ⟨a,by simp,rfl⟩
   . exact .inr ⟨d,by simp[hd],he⟩
 intro l w h;rcases gen l _ w h with h|h
 . rw[qrO]at h;cases h.2
 . exact h
def WFn (p:Problem)(L LL:Nat)(H:List Blk):Prop:=∃ c,H[L]?=some (.cells [c])/\(p.vars≠[]->c=.ms LL 0 p.vars.length 1/\H[LL]?=some (.cells ((jN p.vars.length p.dists).flatMap qiZ)))
def WghQ (p:Problem)(H:List Blk)(r:AV)(U':St):Prop:=KpL [] H U'.H/\∃ L LL,r=.fn 125 [] [.ptr L 0]/\H.length<=L/\H.length<=LL/\WFn p L LL U'.H
theorem qiY (o:Option (List Weight)):(qiZ o).length=1:=by cases o<;>rfl
theorem qj9 (p:Problem)(h:VQ p)(hv:qk p=0)(H:List Blk)(T:List (Option Nat)):qg Tryz.prog GG 91 [.agg (qL p)] ⟨H,T⟩ (WghQ p H):=by
 refine qg.k qe Tryz.func91 rfl (by kernel_rfl) ?_;have hvd:=qgY hv;have hvl:=h.vars;have hdf:=h.dists;by_cases hv0:p.vars=[]
 . have hd0:p.dists=[]:=by
    apply qtd.2;intro d hd;obtain⟨i,v,_,hi⟩:=hvd d hd;rw[hv0]at hi;simp at hi
   have fin:∀ (u:List Blk) (T':List (Option Nat)) (B0:Blk) (c:AV),WghQ p H (.fn 125 [] [.ptr (H.length+1) 0]) ⟨H++B0::.cells [c]::u,T'⟩:=fun u T' B0 c=>⟨KpL.app,H.length+1,H.length+1,rfl,by omega,by omega,c,lk1,fun hn=>absurd hv0 hn⟩
   simp[-getElem?_pos,hv0,hd0,qA];refine qM.gen (fun m ev U=>ev 3=.ptr (H.length+1) 0/\ev 12=.int .i64 0/\ev 13=.int .i64 0/\∃ B0 c u T',U=⟨H++B0::.cells [c]::u,T'⟩) 0 ⟨by simp,by simp,by simp,_,_,_,_,rfl⟩ ?_;rintro m ev U R hR ⟨e3,e12,e13,B0,c,u,T',rfl⟩;simp[-getElem?_pos,e3,e12,e13];exact fin _ _ _ _
 . have hpos:=qqB.2 hv0;have hne:¬ (p.vars.length:Int)=0:=(by omega);have hle:(p.vars.length:Int)<=549755813888:=(by omega);simp[-getElem?_pos,hv0,hne,hle,qA];refine qM.listR p.dists (fun d ev U=>ev 3=.ptr (H.length+2) 0/\ev 11=.sl 2 (p.dists.map zH) .none/\ev 12=.int .i64 p.dists.length/\ev 13=.int .i64 d.length/\KpL [] H U.H/\U.H[H.length+2]?=some (.cells [.ms (H.length+1) 0 p.vars.length 1])/\U.H[H.length+1]?=some (.cells ((jN p.vars.length d).flatMap qiZ))) ?_ ?_ ?_
   . refine⟨by simp,by simp,by simp,by simp,KpL.app,lk2,?_⟩;have:(jN p.vars.length []).flatMap qiZ=List.replicate p.vars.length (.sl 0 [] .nil):=by
      show (List.replicate p.vars.length none).flatMap qiZ=_;rw[qr5,qs3];show (List.replicate p.vars.length [AV.sl 0 [] .nil]).flatten=_;simp
     rw[this];exact lk1
   . rintro d x rest ev ⟨H1,T1⟩ R hR hd hx hlt ⟨e3,e11,e12,e13,hkp,b2,b1⟩;dsimp only at hkp b2 b1;have hdw:=wr (n:=(d.length:Int)+1) (by unfold Fits at hdf;omega) (by unfold Fits at hdf;omega);have hlt':(d.length:Int)<p.dists.length:=(by omega);obtain⟨i,v,hi,hvi⟩:=hvd x (qqm hx);have hil:=(qql.1 hvi).1;have hil':(i:Int)<p.vars.length:=(by omega);have hi1:i+1<=p.vars.length:=hil;have hll:=wn p.vars.length d;have hfl:=Go.Abs.jg (sz:=1) qiY (jN p.vars.length d);rw[hll,Nat.mul_one]at hfl;have hset:((jN p.vars.length d).flatMap qiZ).set i (.sl 4 (x.weights.map qG) .none)=(jN p.vars.length (d++[x])).flatMap qiZ:=by
      have:=Qg qiY (jN p.vars.length d) i (some x.weights) (by omega);rw[qcK,hi,qrg,<- this];simp[qiZ,zp]
     have hl1:=(qql.1 b1).1;generalize (jN p.vars.length d).flatMap qiZ=F at *;simp[-getElem?_pos,e3,e11,e12,e13,hlt,hlt',hx,qb b2,qb b1,yN b1,hi,hil',hfl,hi1,hset,hdw];refine hR _ _ ⟨by simp[e3],by simp[e11],by simp[e12],by simp,(hkp.setF (by omega)).trans KpL.app,qb (by rw[qqn (by omega)];exact b2) _,qb (qqp hl1) _⟩
   . rintro ev ⟨H1,T1⟩ ⟨e3,e11,e12,e13,hkp,b2,b1⟩;dsimp only at hkp b2 b1;simp[-getElem?_pos,e3,e12,e13];exact⟨hkp,H.length+2,H.length+1,rfl,by omega,by omega,_,b2,fun _=>⟨rfl,b1⟩⟩
def wtO (o:Option (List Weight))(v:Int):Nat:=match o with
 | none=>1
 | some w=>if (yV w v).2≠0 then lim else sat (yV w v).1.toNat
theorem wtO_le (o:Option (List Weight))(v:Int):wtO o v<=lim:=by
 unfold wtO;split
 . unfold lim;omega
 . split
   . exact qqw _
   . exact qaF _
theorem qpK (n:Nat):0<=(qb2 n).1:=by
 unfold qb2;split<;>simp
theorem qe9 (l:List Weight)(v:Int):0<=(yV l v).1:=by
 unfold yV;split
 . simp
 . split
   . simp
   . unfold ZH;split
     . simp
     . split<;>exact qpK _
def qdb (o:Option (List Weight)):AV:=match o with
 | none=>.sl 0 [] .nil
 | some w=>.sl 4 (w.map qG) .none
theorem qpV (o:Option (List Weight)):qiZ o=[qdb o]:=by cases o<;>rfl
theorem flatL (l:List (Option (List Weight))):l.flatMap qiZ=l.map qdb:=by
 induction l with
 | nil=>rfl
 | cons a r ih=>rw[qqG,ih,qpV];rfl
theorem map_drop {α:Type}(f:α->AV){l:List α}{i:Nat}{x:α}(h:l[i]?=some x):(l.map f).drop i=f x::(l.map f).drop (i+1):=by
 obtain⟨h1,h2⟩:=qql.1 h;rw[qqK (by simpa using h1),qrK,h2]
theorem qdu (p:Problem){L LL:Nat}{H:List Blk}(hw:WFn p L LL H){i:Nat}{o:Option (List Weight)}(hi:(jN p.vars.length p.dists)[i]?=some o)(ho:∀ w,o=some w->w≠[]/\w.length<=1000)(v:Int)(T:List (Option Nat)) :
 qg Tryz.prog GG 125 [.int .i64 (i:Int),.int .i64 v,.ptr L 0] ⟨H,T⟩ (fun r U'=>r=.int .i64 (wtO o v:Nat)/\U'=⟨H,T⟩):=by
 refine qg.k qe Tryz.func125 rfl (by kernel_rfl) ?_;have hil:=(qql.1 hi).1;rw[wn]at hil;have hne:p.vars≠[]:=fun e=>by rw[e]at hil;simp at hil
 obtain⟨c,hL,hc⟩:=hw;obtain⟨rfl,hLL⟩:=hc hne;rw[flatL]at hLL;have hdr:=map_drop qdb hi;have hlen:((jN p.vars.length p.dists).map qdb).length=p.vars.length:=by rw[qqZ,wn]
 have hil':(i:Int)<p.vars.length:=by omega
 have hi1:i+1<=p.vars.length:=hil;generalize (jN p.vars.length p.dists).map qdb=F at *
 cases o with
 | none=>
  simp[-getElem?_pos,hL,hLL,hil',hi1,hlen,hdr,qdb,qS,ZK,TD.isSl,wtO]
 | some w=>
  obtain⟨hwn,hwl⟩:=ho w rfl;obtain⟨a,r,rfl⟩:=qsu hwn;have h51:=qj8 (a::r) hwl v;have hnn:=qe9 (a::r) v;have hwt:wtO (some (a::r)) v=if (yV (a::r) v).2≠0 then lim else sat (yV (a::r) v).1.toNat:=rfl
  rw[hwt];generalize yV (a::r) v=wd at *;obtain⟨x,e⟩:=wd;simp only at hnn h51 ⊢;have hm:Qx (.int .i64 x) (.int .i64 1099511627777)=some (.int .i64 (sat x.toNat:Nat)):=by
   simp only[Qx,K8];congr 2;split<;>omega
  simp[-getElem?_pos,hL,hLL,hil',hi1,hlen,hdr,qdb,qS,ZK,TD.isSl];refine qd.call (by simpa using h51) (by simp) ?_;by_cases he:e=0
  . simp[-getElem?_pos,he,hm]
  . simp[-getElem?_pos,he,lim]
structure Spc where
 S:Nat
 L:Nat
 LL:Nat
 p:Problem
 R:List Ex
 rtok:Tok
 lv:List Int
 dv:AV
 root:Nat
 small:Bool
def spE (s:Spc):List AV:=qL s.p++[.sl 4 (s.R.map qu) s.rtok,.sl 1 (s.lv.map qo) .none,s.dv,.int .i64 s.root,.bool s.small,.fn 125 [] [.ptr s.L 0]]
structure SpOk (s:Spc)(H:List Blk):Prop where
 c:H[s.S]?=some (.cells (spE s))
 w:WFn s.p s.L s.LL H
 b:s.LL<H.length
theorem SpOk.keep {s:Spc}{H H':List Blk}{bs:List Nat}(h:SpOk s H)(hk:KpL bs H H')(h1:s.S∉bs)(h2:s.L∉bs)(h3:s.LL∉bs):SpOk s H':=by
 refine⟨hk.2 _ _ h.c h1,?_,qqD h.b hk.1⟩;obtain⟨c,hL,hc⟩:=h.w;exact⟨c,hk.2 _ _ hL h2,fun hn=>⟨(hc hn).1,hk.2 _ _ (hc hn).2 h3⟩⟩
theorem qlY {d:List Nd}(h:DagOk d){f:Nat}(hf:f<d.length)(L:Nat)(o:Bool):vu d f L o<d.length:=by
 have hn:=qqo hf;unfold vu;rw[hn];simp only;split
 . by_cases h2:2<=f
   . obtain⟨g1,g2,g3,g4,g5,g6⟩:=h.node f _ h2 hn;split<;>omega
   . have ht:=h.two;have:f=0\/f=1:=by omega
     rcases this with rfl|rfl
     . have e:=h.n0;rw[hn]at e;rw[Option.some.inj e];split<;>simp<;>omega
     . have e:=h.n1;rw[hn]at e;rw[Option.some.inj e];split<;>simp<;>omega
 . exact hf
def wV (d:List Nd)(l w:Nat)(v:Nat)(node:Nat)(k:Nat):Nat:=(List.range k).foldl (fun node k=>vu d node (l+k) (v.testBit (w-1-k))) node
theorem Z5 (d:List Nd)(l w v node k:Nat):wV d l w v node (k+1)=vu d (wV d l w v node k) (l+k) (v.testBit (w-1-k)):=by simp[wV,qrN,qrC]
theorem J0 {d:List Nd}(h:DagOk d){node:Nat}(hn:node<d.length)(l w v:Nat):∀ k,wV d l w v node k<d.length
 | 0=>hn
 | k+1=>by rw[Z5];exact qlY h (J0 h hn l w v k) _ _
theorem qmQ (n i:Nat)(hn:n<2 ^ 63):zL .and .i64 ((n:Int).fdiv (2 ^ i)) 1=some (.int .i64 (if n.testBit i=true then 1 else 0)):=by
 rw[qjN n i hn];cases n.testBit i<;>rfl
theorem WD {s:Spc}{H:List Blk}(h:SpOk s H){d:List Nd}{tok:Tok}(hd:DagOk d)(hdv:s.dv=.sl 3 (d.map qI) tok){i l node val:Nat}{v:Var}(hv:s.p.vars[i]?=some v)(hl:s.lv[i]?=some (l:Int))(hw:0<=v.width/\v.width<=8)(hlw:l<=20)(hn:node<d.length)(hval:val<2 ^ 16)(T:List (Option Nat)) :
 qg Tryz.prog GG 130 [.ptr s.S 0,.int .i64 node,.int .i64 i,.int .i64 val] ⟨H,T⟩ (fun r U'=>r=.int .i64 (wV d l v.width.toNat val node v.width.toNat:Nat)/\KpL [] H U'.H):=by
 refine qg.k qe Tryz.func130 rfl (by kernel_rfl) ?_;have hS:=h.c;have hil:=(qql.1 hv).1;have hill:=(qql.1 hl).1;have hdm:=hd.most;simp only[spE,qL,qqP,qqJ,hdv]at hS;have hwn:v.width=(v.width.toNat:Int):=by omega
 generalize hwN:v.width.toNat=w at *;simp[-getElem?_pos,hS,hv,hil,hwn];refine ki w (fun k ev U=>ev 0=.ptr s.S 0/\ev 1=.int .i64 (wV d l w val node k:Nat)/\ev 2=.int .i64 (i:Int)/\ev 3=.int .i64 (val:Int)/\ev 9=.int .i64 (w:Int)/\ev 21=.int .i64 (w:Int)/\ev 22=.int .i64 (k:Int)/\KpL [] H U.H) ?_ ?_ ?_
 . exact⟨by simp,by simp[wV],by simp,by simp,by simp,by simp,by simp,KpL.refl⟩
 . rintro k ev ⟨H1,T1⟩ R hR hkw ⟨e0,e1,e2,e3,e9,e21,e22,hkp⟩;dsimp only at hkp;have hS1:=hkp.2 _ _ hS (by simp);have hnl:=J0 hd hn l w val k;have hsucc:=Z5 d l w val node k;generalize wV d l w val node k=nd at *;obtain⟨n,hnn⟩:∃ n,d[nd]?=some n:=⟨_,qqo hnl⟩;have hk':(k:Int)<w:=(by omega);have hwk:=wr (n:=(k:Int)+1) (by omega) (by omega);have hlk:=wr (n:=(l:Int)+k) (by omega) (by omega);have hw1:=wr (n:=(w:Int)-1) (by omega) (by omega);have hw2:=wr (n:=(w:Int)-1-k) (by omega) (by omega);have hsub:(w:Int)-1-k=((w-1-k:Nat):Int):=(by omega);rw[hsub]at hw2;have hmin:min (w-1-k) 64=w-1-k:=(by omega);have hand:=qmQ val (w-1-k) (by omega);have hneg:¬ ((w-1-k:Nat):Int)<0:=(by omega);unfold vu at hsucc;rw[hnn]at hsucc;simp only at hsucc;generalize hm:w-1-k=m at *;by_cases hlv:n.1=l+k
   . have hlv':(n.1:Int)=(l:Int)+k:=(by omega);rw[if_pos hlv]at hsucc
     cases hbit:val.testBit m with
     | true=>
      rw[hbit,if_pos rfl]at hsucc;rw[hbit]at hand;simp[-getElem?_pos,-zL,qed,qaW,qhS,qhT,qaV,e0,e1,e2,e3,e9,e21,e22,hk',qb hS1,hS1,hnn,hnl,hl,hill,hlk,hlv',hw1,hsub,hw2,hmin,IntKind.bits,hand,hneg,hwk];exact hR _ _ ⟨by simp[e0],by simp[hsucc],by simp[e2],by simp[e3],by simp[e9],by simp[e21],by simp,hkp.trans KpL.app⟩
     | false=>
      rw[hbit,if_neg (by simp)]at hsucc;rw[hbit]at hand;simp[-getElem?_pos,-zL,qed,qaW,qhS,qhT,qaV,e0,e1,e2,e3,e9,e21,e22,hk',qb hS1,hS1,hnn,hnl,hl,hill,hlk,hlv',hw1,hsub,hw2,hmin,IntKind.bits,hand,hneg,hwk];exact hR _ _ ⟨by simp[e0],by simp[hsucc],by simp[e2],by simp[e3],by simp[e9],by simp[e21],by simp,hkp.trans KpL.app⟩
   . have hlv':¬ (n.1:Int)=(l:Int)+k:=(by omega);rw[if_neg hlv]at hsucc;simp[-getElem?_pos,-zL,qed,qaW,qhS,qhT,qaV,e0,e1,e2,e3,e9,e21,e22,hk',qb hS1,hS1,hnn,hnl,hl,hill,hlk,hlv',hwk];exact hR _ _ ⟨by simp[e0],by simp[e1,hsucc],by simp[e2],by simp[e3],by simp[e9],by simp[e21],by simp,hkp.trans KpL.app⟩
 . rintro ev ⟨H1,T1⟩ ⟨e0,e1,e2,e3,e9,e21,e22,hkp⟩;simp[-getElem?_pos,e0,e1,e2,e3,e9,e21,e22];exact hkp
def qgE (m:AV)(fx:Nat->Option Nat)(H:List Blk):Prop :=
 (m=.nilm/\∀ i,fx i=none)\/∃ F es n,m=.map F/\H[F]?=some (.map es n)/\∀ i:Nat,match fx i with
   | none=>jA (.int .i64 (i:Int)) es 0=some none
   | some x=>∃ j,jA (.int .i64 (i:Int)) es 0=some (some (j,.int .i64 (x:Int)))
theorem qgE.keep {m:AV}{fx:Nat->Option Nat}{H H':List Blk}{bs:List Nat}(h:qgE m fx H)(hk:KpL bs H H')(hb:∀ F,m=.map F->F∉bs):qgE m fx H':=by
 rcases h with h|⟨F,es,n,rfl,hF,h⟩
 . exact .inl h
 . exact .inr ⟨F,es,n,rfl,hk.2 _ _ hF (hb F rfl),h⟩
theorem qgE.look {m:AV}{fx:Nat->Option Nat}{H:List Blk}(h:qgE m fx H)(i:Nat)(T:List (Option Nat)):zw (Dof Tryz.prog) ⟨H,T⟩ 146 m (.int .i64 (i:Int)) true=some (match fx i with | none=>.tup [.int .i64 0,.bool false] | some x=>.tup [.int .i64 (x:Int),.bool true]):=by
 rcases h with ⟨rfl,h⟩|⟨F,es,n,rfl,hF,h⟩
 . rw[h i];simp[zw,zA,jA,WJ]
 . have:=h i
   cases hx:fx i with
   | none=>rw[hx]at this;simp[zw,zA,hF,this,WJ]
   | some x=>
    rw[hx]at this;obtain⟨j,hj⟩:=this;simp[zw,zA,hF,hj,WJ]
def zM (n:Nat):List AV:=[.int .i64 (n:Int)]
def qjR (r:AV)(vals:List Nat)(H:List Blk)(n:Nat):Prop:=r=.sl 1 (vals.map zM) .tight\/∃ N,r=.ms N 0 vals.length 1/\n<=N/\H[N]?=some (.cells (qx vals))
def kZ (w:Nat)(o:Option Nat):List Nat:=match o with
 | none=>List.range (2 ^ w)
 | some x=>[x]
def ValQ (vals:List Nat)(H:List Blk)(r:AV)(U':St):Prop:=KpL [] H U'.H/\qjR r vals U'.H H.length
theorem qam {s:Spc}{H:List Blk}(h:SpOk s H){m:AV}{fx:Nat->Option Nat}(hf:qgE m fx H){i:Nat}{v:Var}(hv:s.p.vars[i]?=some v)(hw:0<=v.width/\v.width<=8)(T:List (Option Nat)) :
 qg Tryz.prog GG 181 [.ptr s.S 0,.int .i64 i,m] ⟨H,T⟩ (ValQ (kZ v.width.toNat (fx i)) H):=by
 refine qg.k qe Tryz.func181 rfl (by kernel_rfl) ?_;have hS:=h.c;have hil:=(qql.1 hv).1;have hlk:=hf.look i T;simp only[spE,qL,qqP,qqJ]at hS
 cases hfx:fx i with
 | some x=>
  rw[hfx]at hlk;have hq:ValQ (kZ v.width.toNat (some x)) H (.sl 1 [[.int .i64 (x:Int)]] .tight) ⟨H,T⟩:=⟨KpL.refl,.inl rfl⟩;simp[-getElem?_pos,hlk,qh,qw];exact hq
 | none=>
  rw[hfx]at hlk;have hs1:=kQ hw.1 (by omega);have hwn:¬ v.width<0:=by omega
  have hp8:2 ^ v.width.toNat<=2 ^ 8:=qqL (by omega) (by omega);have hp0:0<2 ^ v.width.toNat:=qsh _;have hvs:kZ v.width.toNat none=List.range (2 ^ v.width.toNat):=rfl;rw[hvs];obtain⟨N,hN⟩:∃ N,N=2 ^ v.width.toNat:=⟨_,rfl⟩;rw[<- hN]at hs1 hp8 hp0 ⊢;have hN0:¬ (N:Int)=0:=by omega
  have hN0':N≠0:=by omega
  have hN1:(N:Int)<=549755813888:=by omega
  simp[-getElem?_pos,hlk,hS,hv,hil,hwn,IntKind.bits,hs1,qA,hN0,hN0',hN1];have hz:List.replicate N (AV.int .i64 0)=qx (List.replicate N 0):=by simp[qx]
  rw[hz];refine ki N (fun k ev U=>ev 9=.ms H.length 0 N 1/\ev 32=.int .i64 (N:Int)/\ev 33=.int .i64 (k:Int)/\KpL [] H U.H/\∃ W,W.length=N/\U.H[H.length]?=some (.cells (qx W))/\∀ j,j<k->W[j]?=some j) ?_ ?_ ?_
  . exact⟨by simp,by simp,by simp,KpL.app,List.replicate N 0,by simp,lk0,fun j hj=>absurd hj (by omega)⟩
  . rintro k ev ⟨H1,T1⟩ R hR hk ⟨e9,e32,e33,hkp,W,hWl,bW,hWj⟩;dsimp only at hkp bW;have hk':(k:Int)<N:=(by omega);have hk1:k+1<=N:=hk;have hwk:=wr (n:=(k:Int)+1) (by omega) (by omega);have hl1:=(qql.1 bW).1;simp[-getElem?_pos,e9,e32,e33,hk',hk1,bW,hWl,yO,hwk];refine hR _ _ ⟨by simp[e9],by simp[e32],by simp,hkp.setF (qqw _),W.set k k,by simp[hWl],qqp hl1,fun j hj=>?_⟩;by_cases hjk:j=k
    . subst hjk;rw[qqp (by omega)]
    . rw[qqn (Ne.symm hjk)];exact hWj j (by omega)
  . rintro ev ⟨H1,T1⟩ ⟨e9,e32,e33,hkp,W,hWl,bW,hWj⟩;dsimp only at hkp bW;have hWr:W=List.range N:=by
     apply qrb;intro j;by_cases hj:j<N
     . rw[hWj j hj,qsO hj]
     . rw[qqW (by omega),qqW (by simp;omega)]
    rw[hWr]at bW;simp[-getElem?_pos,e9,e32,e33];exact⟨hkp,.inr ⟨H.length,by simp,qqw _,bW⟩⟩
def jB (p:Problem)(i:Nat):Nat:=(zG p.vars i).toNat
def YO (lv:List Int)(i:Nat):Nat:=(lv.getD i 0).toNat
def wtP (p:Problem)(i v:Nat):Nat:=wtO ((jN p.vars.length p.dists).getD i none) (v:Int)
theorem qgH (p:Problem)(i v:Nat):wtP p i v<=lim:=wtO_le _ _
def V7 (p:Problem)(lv:List Int)(d:List Nd)(fx:Nat->Option Nat):List Nat->Nat->Nat
 | [],node=>if node=0 then 0 else 1
 | i::r,node=>if node=0 then 0 else (kZ (jB p i) (fx i)).foldl (fun s v=>sat (s+sat (wtP p i v*V7 p lv d fx r (wV d (YO lv i) (jB p i) v node (jB p i))))) 0
theorem ke {α:Type}(f:α->Nat):∀ (l:List α) (s:Nat),s<=lim->l.foldl (fun s v=>sat (s+f v)) s<=lim
 | [],s,h=>h
 | a::r,s,h=>ke f r _ (qaF _)
theorem qhh (p:Problem)(lv:List Int)(d:List Nd)(fx:Nat->Option Nat)(g:List Nat)(node:Nat):V7 p lv d fx g node<=lim:=by
 cases g with
 | nil=>unfold V7 lim;split<;>omega
 | cons i r=>
  unfold V7;split
  . exact qsn _
  . exact ke _ _ _ (qsn _)
abbrev Pt:=(Nat×Nat)×Nat×Nat
def ptE (q:Pt):AV×AV×Nat:=(.agg [.int .i64 (q.1.1:Int),.int .i64 (q.1.2:Int)],.int .i64 (q.2.1:Int),q.2.2)
theorem qcx {x:Nat×Nat}:∀ (E:List Pt) (k:Nat),(jA (.agg [.int .i64 (x.1:Int),.int .i64 (x.2:Int)]) (E.map ptE) k=some none/\∀ q∈E,q.1≠x)\/∃ j q,E[j]?=some q/\q.1=x/\jA (.agg [.int .i64 (x.1:Int),.int .i64 (x.2:Int)]) (E.map ptE) k=some (some (k+j,.int .i64 (q.2.1:Int)))
 | [],k=>.inl ⟨rfl,by simp⟩
 | e::E,k=>by
  have hk:Qy (.agg [.int .i64 (x.1:Int),.int .i64 (x.2:Int)]) (.agg [.int .i64 (e.1.1:Int),.int .i64 (e.1.2:Int)])=some (decide (x=e.1)):=by
   obtain⟨a,b⟩:=x;obtain⟨⟨c,d⟩,r⟩:=e;simp only[Qy,z8,y8,if_true];congr 1;rw[qrj];simp;omega
  by_cases h:x=e.1
  . right;have hd:decide (x=e.1)=true:=(by simpa using h);rw[hd]at hk;exact⟨0,e,rfl,h.symm,by simp[jA,ptE,hk]⟩
  . have hd:decide (x=e.1)=false:=(by simpa using h);rw[hd]at hk;rcases qcx (x:=x) E (k+1) with ⟨h1,h2⟩|⟨j,q,h1,h2,h3⟩
    . left;refine⟨by simp only[qqx,ptE,jA,hk];exact h1,fun q hq=>?_⟩;rcases qqM.1 hq with rfl|hq
      . exact fun e=>h e.symm
      . exact h2 q hq
    . right;refine⟨j+1,q,by simpa using h1,h2,?_⟩;simp only[qqx,ptE,jA,hk];have:k+(j+1)=k+1+j:=by omega
      rw[this];exact h3
theorem fit_pt (a b:Int):zA (Dof Tryz.prog) 178 (.agg [.int .i64 a,.int .i64 b])=true:=by
 simp[zA,Y6,yL,qS,zU,qrN]
def qjV (p:Problem)(lv:List Int)(d:List Nd)(fx:Nat->Option Nat)(g:List Nat)(K:Nat)(H:List Blk):Prop:=∃ (E:List Pt) (n:Nat),H[K]?=some (.map (E.map ptE) n)/\∀ q∈E,q.2.1=V7 p lv d fx (g.drop q.1.1) q.1.2
theorem qjR.len {r:AV}{vals:List Nat}{H:List Blk}{n:Nat}(h:qjR r vals H n)(U:St):Kv (Dof Tryz.prog) U 44 r=some (.int .i64 (vals.length:Nat)):=by
 rcases h with rfl|⟨N,rfl,_⟩<;>simp
theorem qjR.at {r:AV}{vals:List Nat}{H:List Blk}{n:Nat}(h:qjR r vals H n){j x:Nat}(hj:vals[j]?=some x):∃ a,zO (Dof Tryz.prog) 44 r (.int .i64 (j:Int))=some a/\∀ T,wm (Dof Tryz.prog) ⟨H,T⟩ 3 a=some (.int .i64 (x:Int)):=by
 have hl:=(qql.1 hj).1;rcases h with rfl|⟨N,rfl,_,hN⟩
 . exact⟨.rptr [.int .i64 (x:Int)],by simp[-getElem?_pos,hj,zM],fun T=>by simp⟩
 . have hl':(j:Int)<vals.length:=(by omega);have hl1:j+1<=vals.length:=hl;exact⟨.ptr N j,by simp[hl'],fun T=>by simp[-getElem?_pos,hN,hl1,zQ hj]⟩
theorem qjR.keep {r:AV}{vals:List Nat}{H H':List Blk}{n K:Nat}(h:qjR r vals H n)(hk:KpL [K] H H')(hK:K<n):qjR r vals H' n:=by
 rcases h with h|⟨N,h1,h2,h3⟩
 . exact .inl h
 . exact .inr ⟨N,h1,h2,hk.2 _ _ h3 (by simp;omega)⟩
def qn0 (s:Spc)(g:List Nat):Prop:=∀ i∈g,∃ (v:Var) (l:Nat),s.p.vars[i]?=some v/\0<=v.width/\v.width<=8/\s.lv[i]?=some (l:Int)/\l<=20/\∀ w,(jN s.p.vars.length s.p.dists)[i]?=some (some w)->w≠[]/\w.length<=1000
def SumQ (s:Spc)(d:List Nd)(fx:Nat->Option Nat)(g:List Nat)(K at_ node:Nat)(H:List Blk)(r:AV)(U':St):Prop :=
 r=.int .i64 (V7 s.p s.lv d fx (g.drop at_) node:Nat)/\KpL [K] H U'.H/\qjV s.p s.lv d fx g K U'.H
def qd5:List (Nat×Sch×List Nat):=[(13,.step 0 [15,14] (.step 1 [15,14] (.step 2 [15,14] (.step 3 [15,14] (.step 4 [15,14,13,6,5] (.step 7 [15,14,13,12] (.step 8 [15,14,13,12,9] (.step 9 [15,14,13,12] (.step 10 [15,14,13,12] (.step 11 [15,14,13,12] (.fork (.cons 5 (.step 6 [15,14,13] (.step 12 [15,14,13] (.step 13 [15,14] (.step 14 [15] (.step 15 [] (.done)))))) (.cons 12 (.step 5 [15,14,13,6] (.step 6 [15,14,13] (.step 13 [15,14] (.step 14 [15] (.step 15 [] (.done)))))) (.nil))))))))))))),[12,14])]
theorem qhd {s:Spc}{d:List Nd}{tok:Tok}(hd:DagOk d)(hdv:s.dv=.sl 3 (d.map qI) tok){fx:Nat->Option Nat}(hfx:∀ i x,fx i=some x->x<65536){m:AV}{g:List Nat}(hg:qn0 s g)(hgl:g.length<=1000){K:Nat}(hSK:s.S≠K)(hLK:s.L≠K)(hLLK:s.LL≠K)(hmK:∀ F,m=.map F->F≠K) :
 ∀ (k at_:Nat),at_+k=g.length->∀ (node:Nat) (H:List Blk) (T:List (Option Nat)),node<d.length->SpOk s H->qgE m fx H->qjV s.p s.lv d fx g K H ->
  qg Tryz.prog GG 131 [.ptr s.S 0,.sl 1 (g.map zM) .none,m,.map K,.agg [.int .i64 at_,.int .i64 node]] ⟨H,T⟩ (SumQ s d fx g K at_ node H):=by
 intro k
 induction k with
 | zero=>
  intro at_ hat node H T hn hs hf hmem;refine qg.kO ⟨false,qd5,[],[]⟩ qe Tryz.func131 rfl (by kernel_rfl) ?_;have hd0:g.drop at_=[]:=qq0 (by omega);have hat':(at_:Int)=g.length:=by omega
  obtain⟨E,n,hE,hEv⟩:=hmem;have fin:∀ u,SumQ s d fx g K at_ node H (.int .i64 (if node=0 then 0 else 1:Nat)) ⟨H++u,T⟩:=fun u=>⟨by rw[hd0];rfl,KpL.app,E,n,qb hE _,hEv⟩
  by_cases hn0:node=0
  . subst hn0;simp[-getElem?_pos];exact fin _
  . have hn0':¬ (node:Int)=0:=(by omega);rw[if_neg hn0]at fin;simp[-getElem?_pos,hn0,hat'];exact fin _
 | succ k ih=>
  intro at_ hat node H T hn hs hf hmem;refine qg.kO ⟨false,qd5,[],[]⟩ qe Tryz.func131 rfl (by kernel_rfl) ?_;have hal:at_<g.length:=by omega
  obtain⟨i,hi⟩:∃ i,g[at_]?=some i:=⟨_,qqo hal⟩;obtain⟨v,l,hv,hw0,hw8,hl,hl20,hwn⟩:=hg i (qqm hi);have hdr:g.drop at_=i::g.drop (at_+1):=by
   obtain⟨h1,h2⟩:=qql.1 hi;rw[qqK h1,h2]
  have hat':¬ (at_:Int)=g.length:=by omega
  have hat2:(at_:Int)<g.length:=by omega
  obtain⟨E,n,hE,hEv⟩:=hmem;have hKl:=(qql.1 hE).1;by_cases hn0:node=0
  . subst hn0;have fin:∀ u,SumQ s d fx g K at_ 0 H (.int .i64 0) ⟨H++u,T⟩:=fun u=>⟨by rw[hdr];rfl,KpL.app,E,n,qb hE _,hEv⟩
    simp[-getElem?_pos];exact fin _
  have hn0':¬ (node:Int)=0:=by omega
  have hfit:=fit_pt at_ node;rcases qcx (x:=(at_,node)) E 0 with ⟨hfind,hno⟩|⟨j,q,hj1,hj2,hfind⟩
  case inr=>
   have hqv:=hEv q (qqm hj1);rw[hj2]at hqv;have fin:∀ u,SumQ s d fx g K at_ node H (.int .i64 (q.2.1:Nat)) ⟨H++u,T⟩:=fun u=>⟨by rw[hqv],KpL.app,E,n,qb hE _,hEv⟩
   have hlk:∀ (u:List Blk) (T:List (Option Nat)),zw (Dof Tryz.prog) ⟨H++u,T⟩ 176 (.map K) (.agg [.int .i64 at_,.int .i64 node]) true=some (.tup [.int .i64 (q.2.1:Int),.bool true]):=fun u T=>by
    simp only[zw,D176,hfit,if_true];simp[qb hE,hfind]
   simp[-getElem?_pos,hn0,hat',hlk];exact fin _
  have hlk:∀ (u:List Blk) (T:List (Option Nat)),zw (Dof Tryz.prog) ⟨H++u,T⟩ 176 (.map K) (.agg [.int .i64 at_,.int .i64 node]) true=some (.tup [.int .i64 0,.bool false]):=fun u T=>by
   simp only[zw,D176,hfit,if_true];simp[qb hE,hfind,WJ]
  clear hfind hno;have hs0:=hs.keep (H':=H++[.cells [.int .i64 at_,.int .i64 node]]) (bs:=[]) KpL.app (by simp) (by simp) (by simp);have hf0:=hf.keep (H':=H++[.cells [.int .i64 at_,.int .i64 node]]) (bs:=[]) KpL.app (by simp);have hval:=qam hs0 hf0 hv ⟨hw0,hw8⟩ T;obtain⟨vals,hvals⟩:∃ vals,vals=kZ v.width.toNat (fx i):=⟨_,rfl⟩;rw[<- hvals]at hval;have hwid:jB s.p i=v.width.toNat:=by simp[jB,zG,hv]
  have hlvl:YO s.lv i=l:=by simp[YO,qqz,hl]
  have hvb:∀ x∈vals,x<65536:=fun x hx=>by
   rw[hvals]at hx
   cases hfi:fx i with
   | none=>
    rw[hfi]at hx;have:=qra.1 hx;have:2 ^ v.width.toNat<=2 ^ 8:=qqL (by omega) (by omega);omega
   | some y=>
    rw[hfi]at hx;have:x=y:=by simpa[kZ] using hx
    rw[this];exact hfx i y hfi
  have hvl:vals.length<=256:=by
   rw[hvals]
   cases hfi:fx i with
   | none=>simp only[kZ,qsI];exact qro (qqL (by omega) (show v.width.toNat<=8 by omega)) (by decide)
   | some y=>simp[kZ]
  have hsum:V7 s.p s.lv d fx (g.drop at_) node=vals.foldl (fun a x=>sat (a+sat (wtP s.p i x*V7 s.p s.lv d fx (g.drop (at_+1)) (wV d l v.width.toNat x node v.width.toNat)))) 0:=by
   rw[hdr,hvals];simp only[V7,if_neg hn0,hwid,hlvl]
  obtain⟨f,hff⟩:∃ f:Nat->Nat,∀ x,f x=sat (wtP s.p i x*V7 s.p s.lv d fx (g.drop (at_+1)) (wV d l v.width.toNat x node v.width.toNat)):=⟨_,fun _=>rfl⟩;have hfle:∀ x,f x<=lim:=fun x=>by rw[hff];exact qaF _
  simp only[<- hff]at hsum;simp[-getElem?_pos,hn0,hat',hlk,hi,zM];refine qd.acall hval ?_;rintro r ⟨H1,T1⟩ ⟨hk1,hrow⟩;dsimp only at hk1 hrow;have bX:H1[H.length]?=some (.cells [.int .i64 at_,.int .i64 node]):=hk1.2 _ _ lk0 (by simp);have hlen:=hrow.len;have hrow:qjR r vals H1 H.length:=hrow.imp id fun ⟨N,h1,h2,h3⟩=>⟨N,h1,by simp at h2;omega,h3⟩
  have hkH1:KpL [K] H H1:=(KpL.app.trans hk1).sub (by simp);have hmem1:qjV s.p s.lv d fx g K H1:=⟨E,n,hk1.2 _ _ (qb hE _) (by simp),hEv⟩;simp[-getElem?_pos,-Kv,hlen];refine qM.listR vals (fun dn ev U=>ev 0=.ptr s.S 0/\ev 1=.sl 1 (g.map zM) .none/\ev 2=m/\ev 3=.map K/\ev 9=.ptr H.length 0/\ev 13=.int .i64 (dn.foldl (fun a x=>sat (a+f x)) 0:Nat)/\ev 14=.int .i64 (i:Int)/\ev 44=r/\ev 45=.int .i64 vals.length/\ev 46=.int .i64 dn.length/\KpL [K] H U.H/\qjV s.p s.lv d fx g K U.H/\qjR r vals U.H H.length/\U.H[H.length]?=some (.cells [.int .i64 at_,.int .i64 node])) ?_ ?_ ?_
  . exact⟨by simp,by simp,by simp,by simp,by simp,by simp,by simp,by simp,by simp,by simp,hkH1,hmem1,hrow,bX⟩
  . rintro dn x rest ev ⟨H2,T2⟩ R hR hdl hx hlt ⟨e0,e1,e2,e3,e9,e13,e14,e44,e45,e46,hkp,hme,hro,bX2⟩;dsimp only at hkp hme hro bX2;obtain⟨a,ha1,ha2⟩:=hro.at hx;have hdw:=wr (n:=(dn.length:Int)+1) (by omega) (by omega);have hlt':(dn.length:Int)<vals.length:=(by omega);have hxb:=hvb x (qqm hx);have hs2:=hs.keep hkp (by simpa using hSK) (by simpa using hLK) (by simpa using hLLK);have hf2:=hf.keep hkp (fun F hF=>by simpa using hmK F hF);have hatw:=wr (n:=(at_:Int)+1) (by omega) (by omega);have hdes:=WD hs2 hd hdv hv hl ⟨hw0,hw8⟩ hl20 hn (val:=x) (by omega) T2;have hnl:=J0 hd hn l v.width.toNat x v.width.toNat;have hffx:=hff x;have hfx1:=hfle x;generalize hnd:wV d l v.width.toNat x node v.width.toNat=nd at *;simp[-getElem?_pos,-zO,-wm,e44,e45,e46,hlt',ha1,ha2];rw[qH rfl];simp[-getElem?_pos,qP,e0,e1,e2,e3,e9,e14,bX2,hatw];refine⟨qd.acall hdes ?_,qd.acall hdes ?_⟩
    all_goals
     rintro w ⟨H3,T3⟩ ⟨rfl,hk3⟩;dsimp only at hk3;have hk3':KpL [K] H2 H3:=hk3.sub (by simp);have bX3:=hk3.2 _ _ bX2 (by simp);have hs3:=hs2.keep hk3' (by simpa using hSK) (by simpa using hLK) (by simpa using hLLK);have hf3:=hf2.keep hk3' (fun F hF=>by simpa using hmK F hF);have hme3:qjV s.p s.lv d fx g K H3:=by
      obtain⟨E3,n3,h1,h2⟩:=hme;exact⟨E3,n3,hk3.2 _ _ h1 (by simp),h2⟩
     have hih:=ih (at_+1) (by omega) nd H3 T3 hnl hs3 hf3 hme3;simp only[Int.natCast_add,qtL]at hih;simp[-getElem?_pos,qP,bX3,hatw,qX,zu,qy];refine qd.acall hih ?_;rintro w ⟨H4,T4⟩ ⟨rfl,hk4,hme4⟩;dsimp only at hk4 hme4;have hs4:=hs3.keep hk4 (by simpa using hSK) (by simpa using hLK) (by simpa using hLLK);have bX4:=hk4.2 _ _ bX3 (by simp;omega);have hS4:=hs4.c;simp only[spE,qL,qqP,qqJ]at hS4;obtain⟨o,ho⟩:∃ o,(jN s.p.vars.length s.p.dists)[i]?=some o:=⟨_,qqo (by rw[wn];exact (qql.1 hv).1)⟩;have hwt:wtP s.p i x=wtO o (x:Int):=(by simp[wtP,qqz,ho]);have hweigh:=qdu s.p hs4.w ho (fun w hw=>hwn w (by rw[ho,hw])) (x:Int) T4;rw[<- hwt]at hweigh;have hwle:=qgH s.p i x;have hsle:=qhh s.p s.lv d fx (g.drop (at_+1)) nd;generalize V7 s.p s.lv d fx (g.drop (at_+1)) nd=sd at *;generalize wtP s.p i x=wx at *;have hacc:dn.foldl (fun a x=>sat (a+f x)) 0<=lim:=ke f dn 0 (qsn _);have hsnoc:(dn++[x]).foldl (fun a x=>sat (a+f x)) 0=sat (dn.foldl (fun a x=>sat (a+f x)) 0+f x):=(by rw[qrC];rfl);generalize dn.foldl (fun a x=>sat (a+f x)) 0=acc at *;have ht:=qdC wx sd hwle hsle;rw[<- hffx]at ht;have hp:=qhG acc (f x) hacc hfx1;simp[-getElem?_pos,qP,e0,e13,e14,hS4];refine qd.acall hweigh ?_;rintro w U ⟨rfl,rfl⟩;simp[-getElem?_pos];refine qd.call ht (by simp) ?_;simp[-getElem?_pos];refine qd.call hp (by simp) ?_;simp[-getElem?_pos,e46,hdw];exact hR _ _ ⟨by simp[e0],by simp[e1],by simp[e2],by simp[e3],by simp[e9],by simp[hsnoc],by simp[e14],by simp[e44],by simp[e45],by simp,(hkp.trans hk3').trans hk4,hme4,(hro.keep hk3' hKl).keep hk4 hKl,bX4⟩
  . rintro ev ⟨H2,T2⟩ ⟨e0,e1,e2,e3,e9,e13,e14,e44,e45,e46,hkp,hme,hro,bX2⟩;dsimp only at hkp hme hro bX2;rw[<- hsum]at e13;obtain⟨E2,n2,hE2,hEv2⟩:=hme;have hK2:=(qql.1 hE2).1;generalize hsd:V7 s.p s.lv d fx (g.drop at_) node=sd at *;obtain⟨E3,n3,hup,hEv3⟩:∃ (E3:List Pt) (n3:Nat),ze (Dof Tryz.prog) ⟨H2,T2⟩ 176 (.map K) (.agg [.int .i64 at_,.int .i64 node]) (.int .i64 (sd:Nat))=some ⟨H2.set K (.map (E3.map ptE) n3),T2⟩/\∀ q∈E3,q.2.1=V7 s.p s.lv d fx (g.drop q.1.1) q.1.2:=by
     rcases qcx (x:=(at_,node)) E2 0 with ⟨hfind,_⟩|⟨j,q,hj1,hj2,hfind⟩
     . refine⟨E2++[((at_,node),sd,n2)],n2+1,?_,fun q hq=>?_⟩
       . simp only[ze,D176,hfit,if_true];simp[hE2,hfind,ptE]
       . rcases qqE.1 hq with hq|hq
         . exact hEv2 q hq
         . rw[qqU]at hq;rw[hq];exact hsd.symm
     . refine⟨E2.modify j fun q=>((at_,node),sd,q.2.2),n2,?_,fun q hq=>?_⟩
       . simp only[ze,D176,hfit,if_true];simp[hE2,hfind];congr 2;apply qrb;intro k;simp only[qr2,qqI];by_cases hkj:j=k
         . subst hkj;cases E2[j]?<;>simp[ptE]
         . cases E2[k]?<;>simp[hkj]
       . obtain⟨k,hk⟩:=qq2 hq;rw[qr2]at hk;by_cases hkj:j=k
         . subst hkj;rw[hj1]at hk;simp at hk;rw[<- hk];exact hsd.symm
         . cases he:E2[k]? with
           | none=>rw[he]at hk;simp at hk
           | some y=>
            rw[he]at hk;simp[hkj]at hk;rw[<- hk];exact hEv2 y (qqm he)
    simp[-getElem?_pos,e3,e9,e13,e45,e46,bX2,hup];exact⟨by rw[hsd],hkp.trans (KpL.set (by simp)),E3,n3,qqp hK2,hEv3⟩
def eqE (s:Str)(n:Int):Ex:=.mk 15 0 [] [Qu s,jq n]
theorem qcy (s:Str)(n:Int):pre (eqE s n)=[eqE s n,Qu s,jq n]:=by
 rw[jk];show eqE s n::w9 [Qu s,jq n]=_;rw[yG,qdZ,yG,Ze];rfl
theorem qnI {s:Str}(hs:ku s=true){n:Int}(h0:0<=n)(h1:n<=65535):EOk s 2 3 (eqE s n):=by
 refine⟨fun x hx=>?_,?_,by rw[qcy];simp⟩
 . rw[qcy]at hx;simp only[qqM,qrI,or_false]at hx;rcases hx with rfl|rfl|rfl
   . exact⟨by simp[qr,eqE,qj,zx,Ex.op,Ex.n,Ex.name,Ex.args],by simp[eqE,Ex.op],by simp[eqE,Ex.op],by simp[eqE,Ex.op]⟩
   . exact⟨qgU hs,by simp[Qu,Ex.op],by simp[Qu,Ex.op],fun _=>rfl⟩
   . exact⟨Vh h0 h1,by simp[jq,Ex.op],by simp[jq,Ex.op],by simp[jq,Ex.op]⟩
 . rw[ve];simp[eqE,Qu,jq,ve]
theorem qeQ {p:Problem}(h:VQ p)(hv:qk p=0){i:Nat}{v:Var}(hi:p.vars[i]?=some v){n:Int}(h0:0<=n)(h1:n<=65535):zm p.vars (eqE v.name n)=0/\Jb (eqE v.name n):=by
 have hm:=qqm hi;have hve:=qR (zJ hv v hm);have ho:=qnI hve.1 h0 h1;exact⟨ho.valid (by omega) (by omega) (by unfold vz;rw[qqN];exact⟨v,hm,by simp⟩),ho.tame (h.names v hm) (by omega) (by omega)⟩
theorem qbG {s:Spc}{H:List Blk}(h:SpOk s H){i:Nat}{v:Var}(hv:s.p.vars[i]?=some v)(n:Int)(T:List (Option Nat)) :
 qg Tryz.prog GG 133 [.ptr s.S 0,.int .i64 i,.int .i64 n] ⟨H,T⟩ (fun r U'=>r=.agg (qu (eqE v.name n))/\KpL [] H U'.H):=by
 refine qg.up (qg.k qe Tryz.func133 rfl (by kernel_rfl) ?_);have hS:=h.c;have hil:=(qql.1 hv).1;simp only[spE,qL,qqP,qqJ]at hS;simp[-getElem?_pos,qb hS,hS,hv,hil,qX,zu,qy,qh,qw];refine⟨_,?_,rfl,KpL.app⟩;simp[eqE,qc,Qu,jq,Leq,zj,jZ]
theorem qjg (R:List Ex)(tok:Tok)(h:R≠[]\/tok.known=true):Pure Tryz.prog GG 132 [.sl 4 (R.map qu) tok] (.sl 4 (R.map qu) .tight):=by
 refine Pure.kO o0 true qe Tryz.func132 rfl (by kernel_rfl) ?_;have hs:=qio (en:=qu) (sz:=4) (R:=R) (tok:=tok) (n:=(R.length:Int)) rfl h;simp[-getElem?_pos,hs];rw[qv (by simp)];exact⟨by simp,Leq.refl _⟩
def V9 (vs:List Var):List (Str×AV×Nat):=vs.zipIdx.map fun q=>(q.1.name,.bool true,q.2)
theorem qh1 {vs:List Var}{i:Nat}{v:Var}(hv:vs[i]?=some v):V9 (vs.take (i+1))=V9 (vs.take i)++[(v.name,.bool true,i)]:=by
 have hl:=(qql.1 hv).1;unfold V9;rw[qqT,hv];simp[qso,qsr (qt1 hl)]
theorem qh2 {vs:List Var}{j:Nat}{q:Str×AV×Nat}(h:(V9 vs)[j]?=some q):∃ v,vs[j]?=some v/\q=(v.name,.bool true,j):=by
 unfold V9 at h;rw[qqI,qsw]at h
 cases hv:vs[j]? with
 | none=>rw[hv]at h;simp at h
 | some v=>rw[hv]at h;simp at h;exact⟨v,rfl,h.symm⟩
theorem qpg {vs:List Var}(hn:(vs.map (·.name)).Nodup){i:Nat}{v:Var}(hv:vs[i]?=some v)(k:Nat):jA (.str v.name) ((V9 (vs.take i)).map Jj) k=some none:=by
 have hl:=(qql.1 hv).1;rcases Q4 (s:=v.name) (V9 (vs.take i)) k with ⟨h1,_⟩|⟨j,q,h1,h2,_⟩
 . exact h1
 . exfalso;obtain⟨w,hw,rfl⟩:=qh2 h1;rw[qq4]at hw;split at hw
   . rename_i hj;obtain⟨hj1,hj2⟩:=qql.1 hw;obtain⟨_,hi2⟩:=qql.1 hv;have hp:=qsa.1 hn;have h2:w.name=v.name:=h2;exact hp j i (by simpa using hj1) (by simpa using hl) hj (by rw[qrK,qrK,hj2,hi2,h2])
   . cases hw
theorem qpf {vs:List Var}{v:Var}(hv:v∈vs)(k:Nat):∃ j,jA (.str v.name) ((V9 vs).map Jj) k=some (some (j,.bool true)):=by
 rcases Q4 (s:=v.name) (V9 vs) k with ⟨_,h2⟩|⟨j,q,h1,h2,h3⟩
 . exfalso;obtain⟨i,hi⟩:=qq2 hv;have hm:(v.name,AV.bool true,i)∈V9 vs:=qqS.2 ⟨(v,i),qqm (i:=i) (by rw[qsw,hi];simp),rfl⟩;exact h2 _ hm rfl
 . obtain⟨w,_,rfl⟩:=qh2 h1;exact⟨k+j,h3⟩
theorem YR {vs:List Var}{e:Ex}(hk:zm vs e=0)(ht:Jb e):zh e=0/\zF [3,24] e=[]/\(∀ s∈zF [2] e,∃ v∈vs,v.name=s)/\(zF [2] e).length<=100000:=by
 have he:zh e=0/\Jx e=false/\QQ vs e=false:=by
  unfold zm at hk;split at hk
  . rename_i h;exact absurd hk h
  . rename_i h;split at hk
    . cases hk
    . split at hk
      . cases hk
      . rename_i h2 h3;exact⟨qq8.1 h,by simpa using h2,by simpa using h3⟩
 refine⟨he.1,?_,fun s hs=>?_,YM ht.2.2⟩
 . have:=Qr (e:=e);rw[he.2.1]at this
   cases hl:zF [3,24] e with
   | nil=>rfl
   | cons a r=>rw[hl]at this;simp at this
 . have:=Qm (l:=vs) (e:=e);rw[he.2.2,qrz]at this;have h1:=this s hs;simp only[qrV,Bool.not_eq_false,vz,qqN]at h1;obtain⟨v,hv,hvn⟩:=h1;exact⟨v,hv,by simpa using hvn⟩
theorem qmB (p:Problem)(h:VQ p)(hv:qk p=0)(l:List Ex)(hf:l.length<=1000000)(hx:∀ e∈l,zm p.vars e=0/\Jb e):Pure Tryz.prog GG 246 [.agg (qL p),.sl 4 (l.map qu) .none] (.int .i64 0):=by
 refine Pure.k qe Tryz.func246 rfl (by kernel_rfl) ?_;have hval:=jW p h;rw[hv]at hval;have hnd:=yo hv;have hvl:=h.vars;simp only[qL]at hval;simp[-getElem?_pos];refine qd.call hval (by simp) ?_;simp[-getElem?_pos];refine qM.listR l (fun d ev U=>ev 1=.sl 4 (l.map qu) .none/\ev 2=.ptr 0 0/\ev 17=.sl 4 (l.map qu) .none/\ev 18=.int .i64 l.length/\ev 19=.int .i64 d.length/\∃ u T,U=⟨.cells (qL p)::u,T⟩) ?_ ?_ ?_
 . exact⟨by simp,by simp,by simp,by simp,by simp,_,_,rfl⟩
 . rintro d e rest ev U R hR hd hxe hlt ⟨e1,e2,e17,e18,e19,u,T,rfl⟩;have hdw:=wr (n:=(d.length:Int)+1) (by omega) (by omega);have hlt':(d.length:Int)<l.length:=(by omega);obtain⟨hk,ht⟩:=hx e (qqm hxe);have hev:=J9 e ht.1 (by have:=ht.2.1;omega);rw[(YR hk ht).1]at hev;have henc:=qc e;rw[henc]at hev;simp[-getElem?_pos,e17,e18,e19,hlt',hxe,henc];refine qd.call hev (by simp) ?_;simp[-getElem?_pos,e19,hdw];exact hR _ _ ⟨by simp[e1],by simp[e2],by simp[e17],by simp[e18],by simp,_,_,rfl⟩
 . rintro ev U ⟨e1,e2,e17,e18,e19,u,T,rfl⟩;simp[-getElem?_pos,e2,e18,e19];refine qM.listR p.vars (fun d ev U=>ev 1=.sl 4 (l.map qu) .none/\ev 7=.map (u.length+1)/\ev 29=.sl 4 (p.vars.map qp) .none/\ev 30=.int .i64 p.vars.length/\ev 31=.int .i64 d.length/\U.H[u.length+1]?=some (.map ((V9 (p.vars.take d.length)).map Jj) d.length)) ?_ ?_ ?_
   . exact⟨by simp[e1],by simp,by simp,by simp,by simp,by simp[V9]⟩
   . rintro d v rest ev ⟨H1,T1⟩ R hR hd hxv hlt ⟨e1,e7,e29,e30,e31,bM⟩;dsimp only at bM;have hdw:=wr (n:=(d.length:Int)+1) (by omega) (by omega);have hlt':(d.length:Int)<p.vars.length:=(by omega);have hfn:=qpg hnd hxv 0;have ht1:=qh1 hxv;have hMl:=(qql.1 bM).1;have hup:∀ (w:List Blk) (T:List (Option Nat)),ze (Dof Tryz.prog) ⟨H1++w,T⟩ 302 (.map (u.length+1)) (.str v.name) (.bool true)=some ⟨H1.set (u.length+1) (.map ((V9 (p.vars.take (d.length+1))).map Jj) (d.length+1))++w,T⟩:=fun w T=>by
      rw[ht1,qrc];generalize (V9 (p.vars.take d.length)).map Jj=E at *;simp[ze,qb bM,zA,hfn,yN bM,Jj]
     generalize hE2:(V9 (p.vars.take (d.length+1))).map Jj=E2 at *;simp[-getElem?_pos,e7,e29,e30,e31,hlt',hxv,hup,hdw];refine hR _ _ ⟨by simp[e1],by simp[e7],by simp[e29],by simp[e30],by simp,?_⟩;rw[qqr,qqO,hE2];exact qb (qqp hMl) _
   . rintro ev ⟨H1,T1⟩ ⟨e1,e7,e29,e30,e31,bM⟩;dsimp only at bM;rw[qr0]at bM;simp[-getElem?_pos,e1,e30,e31];refine qM.listR l (fun d ev U=>ev 7=.map (u.length+1)/\ev 39=.sl 4 (l.map qu) .none/\ev 40=.int .i64 l.length/\ev 41=.int .i64 d.length/\U.H[u.length+1]?=some (.map ((V9 p.vars).map Jj) p.vars.length)) ?_ ?_ ?_
     . exact⟨by simp[e7],by simp,by simp,by simp,bM⟩
     . rintro d e rest ev ⟨H2,T2⟩ R hR hd hxe hlt ⟨e7,e39,e40,e41,bM⟩;dsimp only at bM;have hdw:=wr (n:=(d.length:Int)+1) (by omega) (by omega);have hlt':(d.length:Int)<l.length:=(by omega);obtain⟨hk,ht⟩:=hx e (qqm hxe);obtain⟨_,h0,hall,hfit⟩:=YR hk ht;have ha:=v9 e ht.1 ht.2.2;have hna:=Zk e ht.1 ht.2.2;have henc:=qc e;rw[h0]at ha;rw[henc]at ha hna;generalize zF [2] e=N at *;simp[-getElem?_pos,e39,e40,e41,hlt',hxe,henc];refine qd.call ha (by simp) ?_;simp[-getElem?_pos];refine qd.call hna (by simp) ?_;simp[-getElem?_pos];refine qM.listR N (fun dn ev U=>ev 7=.map (u.length+1)/\ev 39=.sl 4 (l.map qu) .none/\ev 40=.int .i64 l.length/\ev 41=.int .i64 d.length/\ev 50=.sl 1 (N.map jc) .none/\ev 51=.int .i64 N.length/\ev 52=.int .i64 dn.length/\U.H[u.length+1]?=some (.map ((V9 p.vars).map Jj) p.vars.length)) ?_ ?_ ?_
       . exact⟨by simp[e7],by simp[e39],by simp[e40],by simp[e41],by simp,by simp,by simp,qb bM _⟩
       . rintro dn s rest2 ev ⟨H3,T3⟩ R2 hR2 hd2 hxs hlt2 ⟨e7,e39,e40,e41,e50,e51,e52,bM⟩;dsimp only at bM;have hdw2:=wr (n:=(dn.length:Int)+1) (by omega) (by omega);have hlt2':(dn.length:Int)<N.length:=(by omega);obtain⟨v,hvm,hvn⟩:=hall s (qqm hxs);obtain⟨j,hj⟩:=qpf hvm 0;rw[hvn]at hj;have hlk:zw (Dof Tryz.prog) ⟨H3,T3⟩ 302 (.map (u.length+1)) (.str s) false=some (.bool true):=by
          generalize (V9 p.vars).map Jj=E at *;simp[zw,bM,zA,hj]
         simp[-getElem?_pos,e7,e50,e51,e52,hlt2',hxs,hlk,hdw2];exact hR2 _ _ ⟨by simp[e7],by simp[e39],by simp[e40],by simp[e41],by simp[e50],by simp[e51],by simp,bM⟩
       . rintro ev ⟨H3,T3⟩ ⟨e7,e39,e40,e41,e50,e51,e52,bM⟩;simp[-getElem?_pos,e41,e51,e52,hdw];exact hR _ _ ⟨by simp[e7],by simp[e39],by simp[e40],by simp,bM⟩
     . rintro ev ⟨H2,T2⟩ ⟨e7,e39,e40,e41,bM⟩;simp[-getElem?_pos,e40,e41]
theorem Ks (p:Problem)(h:VQ p)(hv:qk p=0)(hv20:p.vars.length<=20)(hb:yJ p.vars (qC p)<=18)(l:List Ex)(hf:l.length<=1000000)(hx:∀ e∈l,zm p.vars e=0/\Jb e) :
 Pure Tryz.prog GG 184 [.agg (qL p),.sl 4 (l.map qu) .none] (.tup [.bool (jT p.vars l),.int .i64 0]):=by
 refine Pure.k qe Tryz.func184 rfl (by kernel_rfl) ?_;have hc:=qmB p h hv l hf hx;have hs:=QI p l h hv20 hb (by show l.length<_;omega) (fun e he=>(hx e he).2);have hsb:Jy p l=jT p.vars l:=by
  have:l.all (wO p.vars)=true:=qqy.2 fun e he=>decide_eq_true (hx e he).1
  unfold Jy;rw[this];simp[hv]
 rw[hsb]at hs;simp only[qL]at hc hs;simp[-getElem?_pos];refine qd.call hc (by simp) ?_;simp[-getElem?_pos];refine qd.call hs (by simp) ?_;simp[-getElem?_pos]
def JG (p:Problem)(i:Nat):Str:=match p.vars[i]? with
 | some v=>v.name
 | none=>[]
noncomputable def qck (p:Problem)(fx:Nat->Option Nat):List Nat->List Ex->Nat
 | [],R=>if jT p.vars R=true then 1 else 0
 | i::r,R=>if jT p.vars R=true then (kZ (jB p i) (fx i)).foldl (fun s v=>sat (s+sat (wtP p i v*qck p fx r (R++[eqE (JG p i) (v:Int)])))) 0 else 0
theorem qhf (p:Problem)(fx:Nat->Option Nat)(g:List Nat)(R:List Ex):qck p fx g R<=lim:=by
 cases g with
 | nil=>unfold qck lim;split<;>omega
 | cons i r=>
  unfold qck;split
  . exact ke _ _ _ (qsn _)
  . exact qsn _
def ptok:Tok->Tok
 | .chain .. =>.none
 | t=>t
def qqh (R:List Ex)(tok:Tok):Prop:=R≠[]\/tok=.tight
theorem qqh.p {R:List Ex}{tok:Tok}(h:qqh R tok):R≠[]\/(ptok tok).known=true:=h.imp id fun e=>by rw[e];rfl
def qd4:List (Nat×Sch×List Nat):=[(10,.step 0 [10,9,8,7,1] (.step 1 [10,9,8,7] (.step 2 [10,9,8,7] (.step 3 [10,9,8,7,5,4] (.step 4 [10,9,8,7,5] (.step 5 [10,9,8,7] (.step 6 [10,9,8,7] (.step 7 [10,9,8] (.step 8 [10,9] (.step 9 [10] (.step 10 [] (.done))))))))))),[7]),(11,.step 0 [18,17] (.step 1 [18,17,16,15,9,4,3,2] (.step 2 [18,17,16,15,9,4,3] (.step 3 [18,17,16,15,9,4] (.step 4 [18,17,16,15,9] (.step 5 [18,17,16,15,9,7,6] (.step 6 [18,17,16,15,9,7] (.step 7 [18,17,16,15,9] (.step 8 [18,17,16,15,9] (.step 10 [18,17,16,15] (.step 11 [18,17,16,15,12] (.step 12 [18,17,16,15] (.step 13 [18,17,16,15] (.step 14 [18,17,16,15] (.step 9 [18,17,16,15] (.step 15 [18,17,16] (.step 16 [18,17] (.step 17 [18] (.step 18 [] (.done))))))))))))))))))),[9,15])]
theorem qkp {s:Spc}(hvq:VQ s.p)(hvp:qk s.p=0)(hv20:s.p.vars.length<=20)(hb:yJ s.p.vars (qC s.p)<=18){fx:Nat->Option Nat}(hfx:∀ i x,fx i=some x->x<65536){m:AV} :
 ∀ (g:List Nat) (R:List Ex) (tok:Tok) (H:List Blk) (T:List (Option Nat)),qn0 s g->(∀ e∈R,zm s.p.vars e=0/\Jb e)->R.length+g.length<=100000->qqh R tok->SpOk s H->qgE m fx H ->
  qg Tryz.prog GG 134 [.ptr s.S 0,.sl 1 (g.map zM) .none,m,.sl 4 (R.map qu) tok] ⟨H,T⟩ (fun r U'=>r=.int .i64 (qck s.p fx g R:Nat)/\KpL [] H U'.H):=by
 intro g
 induction g with
 | nil=>
  intro R tok H T hg hR hlen htok hs hf;refine qg.kO ⟨false,qd4,[],[]⟩ qe Tryz.func134 rfl (by kernel_rfl) ?_;have hsv:=Ks s.p hvq hvp hv20 hb R (by omega) hR;have hS:=hs.c;simp only[spE,qL,qqP,qqJ]at hS;simp only[qL]at hsv;have hst:qck s.p fx [] R=if jT s.p.vars R=true then 1 else 0:=rfl
  rw[hst];simp[-getElem?_pos,hS];refine qd.pure hsv (by cases tok<;>simp) (by cases tok<;>simp[zj,Leq,jZ.refl]) ?_
  cases hsol:jT s.p.vars R with
  | false=>
   simp[-getElem?_pos,unA];exact KpL.refl
  | true=>
   simp[-getElem?_pos,unA];exact KpL.refl
 | cons i r ih=>
  intro R tok H T hg hR hlen htok hs hf;refine qg.kO ⟨false,qd4,[],[]⟩ qe Tryz.func134 rfl (by kernel_rfl) ?_;have hsv:=Ks s.p hvq hvp hv20 hb R (by omega) hR;have hS:=hs.c;simp only[spE,qL,qqP,qqJ]at hS;simp only[qL]at hsv;obtain⟨v,l,hv,hw0,hw8,hl,hl20,hwn⟩:=hg i (by simp);have hgr:qn0 s r:=fun j hj=>hg j (by simp[hj])
  have hwid:jB s.p i=v.width.toNat:=by simp[jB,zG,hv]
  have hnm:JG s.p i=v.name:=by simp[JG,hv]
  have hval:=qam hs hf hv ⟨hw0,hw8⟩ T;obtain⟨vals,hvals⟩:∃ vals,vals=kZ v.width.toNat (fx i):=⟨_,rfl⟩;rw[<- hvals]at hval;have hvb:∀ x∈vals,x<65536:=fun x hx=>by
   rw[hvals]at hx
   cases hfi:fx i with
   | none=>
    rw[hfi]at hx;have:=qra.1 hx;have:2 ^ v.width.toNat<=2 ^ 8:=qqL (by omega) (by omega);omega
   | some y=>
    rw[hfi]at hx;have:x=y:=by simpa[kZ] using hx
    rw[this];exact hfx i y hfi
  have hvl:vals.length<=256:=by
   rw[hvals]
   cases hfi:fx i with
   | none=>simp only[kZ,qsI];exact qro (qqL (by omega) (show v.width.toNat<=8 by omega)) (by decide)
   | some y=>simp[kZ]
  have hsum:qck s.p fx (i::r) R=if jT s.p.vars R=true then vals.foldl (fun a x=>sat (a+sat (wtP s.p i x*qck s.p fx r (R++[eqE v.name (x:Int)])))) 0 else 0:=by
   rw[hvals,<- hwid,<- hnm];rfl
  obtain⟨f,hff⟩:∃ f:Nat->Nat,∀ x,f x=sat (wtP s.p i x*qck s.p fx r (R++[eqE v.name (x:Int)])):=⟨_,fun _=>rfl⟩;have hfle:∀ x,f x<=lim:=fun x=>by rw[hff];exact qaF _
  simp only[<- hff]at hsum;rw[hsum];simp[-getElem?_pos,hS];refine qd.pure hsv (by cases tok<;>simp) (by cases tok<;>simp[zj,Leq,jZ.refl]) ?_
  cases hsol:jT s.p.vars R with
  | false=>
   simp[-getElem?_pos,unA];exact KpL.refl
  | true=>
   have hrn:¬ (r.length:Int)+1=0:=(by omega);simp[-getElem?_pos,unA,zM,hrn];refine qd.acall hval ?_;rintro w ⟨H1,T1⟩ ⟨hk1,hrow⟩;dsimp only at hk1 hrow;have hlenr:=hrow.len;simp[-getElem?_pos,-Kv,hlenr];refine qM.listR vals (fun dn ev U=>ev 0=.ptr s.S 0/\ev 1=.sl 1 ((i::r).map zM) .none/\ev 2=m/\ev 3=.sl 4 (R.map qu) tok/\ev 11=.int .i64 (dn.foldl (fun a x=>sat (a+f x)) 0:Nat)/\ev 38=w/\ev 39=.int .i64 vals.length/\ev 40=.int .i64 dn.length/\KpL [] H U.H/\qjR w vals U.H H.length) ?_ ?_ ?_
   . exact⟨by simp,by simp[zM],by simp,by simp,by simp,by simp,by simp,by simp,hk1,hrow⟩
   . rintro dn x rest ev ⟨H2,T2⟩ R2 hR2 hdl hx hlt ⟨e0,e1,e2,e3,e11,e38,e39,e40,hkp,hro⟩;dsimp only at hkp hro;obtain⟨a,ha1,ha2⟩:=hro.at hx;have hdw:=wr (n:=(dn.length:Int)+1) (by omega) (by omega);have hlt':(dn.length:Int)<vals.length:=(by omega);have hxb:=hvb x (qqm hx);have hs2:=hs.keep hkp (by simp) (by simp) (by simp);have hf2:=hf.keep hkp (by simp);have hcl:=qjg R (ptok tok) htok.p;have heq:=qbG hs2 hv (x:Int) T2;have hek:=qeQ hvq hvp hv (n:=(x:Int)) (by omega) (by omega);have hae:=yD (eqE v.name (x:Int));have hl4:=zi (eqE v.name (x:Int));have hap:=fun H T=>Vu (R:=R) (X:=eqE v.name (x:Int)) (H:=H) (T:=T) (by omega)
     have htk:(qu (eqE v.name (x:Int))).take 4=qu (eqE v.name (x:Int)):=qqu (by rw[hl4];exact qqw _);have hih:=fun n H T=>ih (R++[eqE v.name (x:Int)]) (.chain n 1) H T hgr (fun e he=>by
      rcases qqE.1 he with he|he
      . exact hR e he
      . rw[qqU]at he;rw[he];exact hek) (by rw[qqr];simp at hlen ⊢;omega) (.inl (by simp))
     have hffx:=hff x;have hfx1:=hfle x;have hsl1:(((i::r).map zM).take (r.length+1)).drop 1=r.map zM:=by
      rw[qqu (by simp)];rfl
     generalize eqE v.name (x:Int)=X at *;simp[-getElem?_pos,-zO,-wm,e38,e39,e40,hlt',ha1,ha2];rw[qH rfl];simp[-getElem?_pos,-qO,qP,e3];refine qd.pure hcl (by cases tok<;>simp) (by cases tok<;>simp[ptok]) ?_;simp[-getElem?_pos,-qO,qP,e0,e1,zM];refine qd.acall heq ?_;rintro w3 ⟨H3,T3⟩ ⟨rfl,hk3⟩;dsimp only at hk3;have hs3:=hs2.keep hk3 (by simp) (by simp) (by simp);have hf3:=hf2.keep hk3 (by simp);have hS3:=hs3.c;simp only[spE,qL,qqP,qqJ]at hS3;simp[-getElem?_pos,-qO,qP,hae,hl4,qh,qw,hap];rw[qH rfl];obtain⟨o,ho⟩:∃ o,(jN s.p.vars.length s.p.dists)[i]?=some o:=⟨_,qqo (by rw[wn];exact (qql.1 hv).1)⟩;have hwt:wtP s.p i x=wtO o (x:Int):=(by simp[wtP,qqz,ho]);have hweigh:=qdu s.p hs3.w ho (fun w hw=>hwn w (by rw[ho,hw])) (x:Int) (T3++[some 1]);rw[<- hwt]at hweigh;have hwle:=qgH s.p i x;have hsle:=qhf s.p fx r (R++[X]);have hih1:=hih T3.length H3 (T3++[some 1]) hs3 hf3;generalize qck s.p fx r (R++[X])=sd at *;generalize wtP s.p i x=wx at *;have hacc:dn.foldl (fun a x=>sat (a+f x)) 0<=lim:=ke f dn 0 (qsn _);have hsnoc:(dn++[x]).foldl (fun a x=>sat (a+f x)) 0=sat (dn.foldl (fun a x=>sat (a+f x)) 0+f x):=(by rw[qrC];rfl);generalize dn.foldl (fun a x=>sat (a+f x)) 0=acc at *;have ht:=qdC wx sd hwle hsle;rw[<- hffx]at ht;have hp:=qhG acc (f x) hacc hfx1;have hpos:(0:Int)<(r.length:Int)+1:=(by omega);simp only[qrc,qqx,qqQ]at hih1;have hsl2:zt (.sl 1 ([AV.int .i64 (i:Int)]::r.map zM) .none) (some (.int .i64 1)) none none=some (.sl 1 (r.map zM) .none):=by
      have h2:(1:Int)<=(r.length:Int)+1:=(by omega);simp[zt,zS,yY,z5,h2,qqu]
     simp[-getElem?_pos,qP,e0,e1,e2,e11,hS3,zM,hsl2];refine qd.acall hweigh ?_;rintro w4 U ⟨rfl,rfl⟩;simp[-getElem?_pos,qP];refine qd.acall hih1 ?_;rintro w5 ⟨H5,T5⟩ ⟨rfl,hk5⟩;dsimp only at hk5;simp[-getElem?_pos,qP];refine qd.call ht (by simp) ?_;simp[-getElem?_pos,qP];refine qd.call hp (by simp) ?_;simp[-getElem?_pos,qP,e40,hdw];exact hR2 _ _ ⟨by simp[e0],by simp[e1,zM],by simp[e2],by simp[e3],by simp[hsnoc],by simp[e38],by simp[e39],by simp,(hkp.trans hk3).trans hk5,((hro.imp id fun ⟨N,h1,h2,h3⟩=>⟨N,h1,h2,hk5.2 _ _ (hk3.2 _ _ h3 (by simp)) (by simp)⟩))⟩
   . rintro ev ⟨H2,T2⟩ ⟨e0,e1,e2,e3,e11,e38,e39,e40,hkp,hro⟩;simp[-getElem?_pos,e11,e39,e40];exact hkp
def NG (p:Problem):List (List Nat):=p.groups.map fun g=>g.map Int.toNat
def yu (g:List Nat):List AV:=[.sl 1 (g.map zM) .none]
theorem qe3 {p:Problem}(h:qk p=0):p.groups.map qN=(NG p).map yu:=by
 unfold NG;rw[qrD];refine qrw fun g hg=>?_
 simp only[qN,yu,Function.comp,qrD];congr 2;refine qrw fun i hi=>?_
 obtain⟨n,rfl,_⟩:=JV h i (qrs.2 ⟨g,hg,hi⟩);simp[zM]
theorem QZ {p:Problem}(h:qk p=0):p.groups.flatten=(NG p).flatten.map fun n:Nat=>(n:Int):=by
 unfold NG;have:∀ (G:List (List Int)),(∀ i∈G.flatten,∃ n:Nat,i=n)->G.flatten=(G.map fun g=>g.map Int.toNat).flatten.map fun n:Nat=>(n:Int):=by
  intro G hG
  induction G with
  | nil=>rfl
  | cons g r ih=>
   rw[qq3,qqx,qq3,qrc,<- ih fun i hi=>hG i (by simp at hi ⊢;exact .inr hi),qrD];congr 1;have:g=g.map id:=by simp
   rw[this,qrD];refine qrw fun i hi=>?_
   obtain⟨n,rfl⟩:=hG i (by simp[hi]);simp
 exact this _ fun i hi=>by obtain⟨n,h1,_⟩:=JV h i hi;exact⟨n,h1⟩
def AsR (r:AV)(a:List Int)(H:List Blk):Prop:=(∃ tok,r=.sl 1 (a.map qo) tok)\/∃ N,r=.ms N 0 a.length 1/\H[N]?=some (.cells (zB a))
theorem AsR.at {r:AV}{a:List Int}{H:List Blk}(h:AsR r a H){j:Nat}{x:Int}(hj:a[j]?=some x):∃ u,zO (Dof Tryz.prog) 44 r (.int .i64 (j:Int))=some u/\∀ w T,wm (Dof Tryz.prog) ⟨H++w,T⟩ 3 u=some (.int .i64 x):=by
 have hl:=(qql.1 hj).1;rcases h with ⟨tok,rfl⟩|⟨N,rfl,hN⟩
 . exact⟨.rptr [.int .i64 x],by simp[-getElem?_pos,hj],fun w T=>by simp⟩
 . have hl':(j:Int)<a.length:=(by omega);have hl1:j+1<=a.length:=hl;have hto:(zB a)[j]?=some (.int .i64 x):=(by rw[Kg,hj];rfl);have hdr:(zB a).drop j=.int .i64 x::(zB a).drop (j+1):=by
    obtain⟨h1,h2⟩:=qql.1 hto;rw[qqK h1,h2]
   exact⟨.ptr N j,by simp[hl'],fun w T=>by simp[-getElem?_pos,qb hN,hdr,za,hl1]⟩
theorem AsR.at0 {r:AV}{a:List Int}{H:List Blk}(h:AsR r a H){j:Nat}{x:Int}(hj:a[j]?=some x):∃ u,zO (Dof Tryz.prog) 44 r (.int .i64 (j:Int))=some u/\∀ T,wm (Dof Tryz.prog) ⟨H,T⟩ 3 u=some (.int .i64 x):=by
 obtain⟨u,h1,h2⟩:=h.at hj;exact⟨u,h1,fun T=>by have:=h2 [] T;rwa[qq5]at this⟩
theorem AsR.len {r:AV}{a:List Int}{H:List Blk}(h:AsR r a H)(U:St):Kv (Dof Tryz.prog) U 44 r=some (.int .i64 (a.length:Nat)):=by
 rcases h with ⟨tok,rfl⟩|⟨N,rfl,_⟩<;>simp
theorem AsR.keep {r:AV}{a:List Int}{H H':List Blk}{bs:List Nat}(h:AsR r a H)(hk:KpL bs H H')(hb:∀ N o n z,r=.ms N o n z->N∉bs):AsR r a H':=by
 rcases h with h|⟨N,rfl,hN⟩
 . exact .inl h
 . exact .inr ⟨N,rfl,hk.2 _ _ hN (hb _ _ _ _ rfl)⟩
def aN (a:List Int)(i:Nat):Nat:=(a.getD i 0).toNat
def Zi (s:Spc)(d:List Nd)(a:List Int)(l:List Nat):Nat:=l.foldl (fun node i=>wV d (YO s.lv i) (jB s.p i) (aN a i) node (jB s.p i)) s.root
def Wc (s:Spc)(a:List Int)(l:List Nat):List Ex:=s.R++l.map fun i=>eqE (JG s.p i) (aN a i:Int)
structure SpG (s:Spc)(a:List Int)(l:List Nat):Prop where
 gr:qn0 s l
 val:∀ i∈l,∃ n:Nat,a[i]?=some (n:Int)/\n<65536
theorem qiu {g:List Nat}{tok:Tok}{k i:Nat}(h:g[k]?=some i):zO (Dof Tryz.prog) 44 (.sl 1 (g.map zM) tok) (.int .i64 (k:Int))=some (.rptr [.int .i64 (i:Int)]):=by simp[-getElem?_pos,h,zM]
theorem qnp {U:St}{i:Nat}:wm (Dof Tryz.prog) U 3 (.rptr [.int .i64 (i:Int)])=some (.int .i64 (i:Int)):=by simp
def qd6:List (Nat×Sch×List Nat):=[(21,.step 0 [11,10,9,8,1] (.step 1 [11,10,9,8] (.step 2 [11,10,9,8] (.step 3 [11,10,9,8] (.step 4 [11,10,9,8,7,6] (.step 5 [11,10,9,8,7,6] (.step 6 [11,10,9,8,7] (.step 7 [11,10,9,8] (.step 8 [11,10,9] (.step 9 [11,10] (.step 10 [11] (.step 11 [] (.done)))))))))))),[8])]
theorem qm3 {G:List (List Nat)}{gi:Nat}(h:gi<=G.length):zt (.sl 1 (G.map yu) .none) none (some (.int .i64 (gi:Int))) none=some (.sl 1 ((G.take gi).map yu) .none):=by
 simp[zt,zS,yY,z5,h]
theorem qos {s:Spc}(hvp:qk s.p=0)(hsm:s.small=true){d:List Nd}{tok:Tok}(hd:DagOk d)(hdv:s.dv=.sl 3 (d.map qI) tok)(hroot:s.root<d.length){fx:Nat->Option Nat}(hfx:∀ i x,fx i=some x->x<65536){m:AV}{gi:Nat}{g:List Nat}(hgi:(NG s.p)[gi]?=some g)(hgl:∀ g∈NG s.p,g.length<=1000)(hGl:(NG s.p).length<=1000)
 {r:AV} {a:List Int} {H:List Blk} (hg:qn0 s g) (hpre:SpG s a ((NG s.p).take gi).flatten) (hs:SpOk s H) (hf:qgE m fx H) (ha:AsR r a H) (T:List (Option Nat)) :
 qg Tryz.prog GG 94 [.ptr s.S 0,.int .i64 gi,r,m] ⟨H,T⟩ (fun v U'=>v=.int .i64 (V7 s.p s.lv d fx g (Zi s d a ((NG s.p).take gi).flatten):Nat)/\KpL [] H U'.H):=by
 refine qg.kO ⟨false,qd6,[],[]⟩ qe Tryz.func94 rfl (by kernel_rfl) ?_;have hS:=hs.c;have hgil:=(qql.1 hgi).1;have hgil':(gi:Int)<(NG s.p).length:=by omega
 have hG:=qe3 hvp;simp only[spE,qL,qqP,qqJ,hsm,hdv,hG]at hS;have hsl:=qm3 (G:=NG s.p) (gi:=gi) (by omega);have htl:((NG s.p).take gi).length<=1000:=by rw[qqY];omega
 have htm:∀ g∈(NG s.p).take gi,g.length<=1000:=fun g hg=>hgl g (qrk hg)
 obtain⟨PG,hPG⟩:∃ PG,PG=(NG s.p).take gi:=⟨_,rfl⟩;rw[<- hPG]at hsl htl htm hpre ⊢;simp[-getElem?_pos,hS,hgi,yu,hsl];have hgg:=hgl g (qqm hgi);refine qM.listR PG (fun dn ev U=>ev 0=.ptr s.S 0/\ev 2=r/\ev 3=m/\ev 9=.sl 1 (g.map zM) .none/\ev 10=.int .i64 (Zi s d a dn.flatten:Nat)/\ev 42=.sl 1 (PG.map yu) .none/\ev 43=.int .i64 PG.length/\ev 44=.int .i64 dn.length/\Zi s d a dn.flatten<d.length/\KpL [] H U.H) ?_ ?_ ?_
 . exact⟨by simp,by simp,by simp,by simp,by simp[Zi],by simp,by simp,by simp,hroot,KpL.refl⟩
 . rintro dn g1 rest ev ⟨H1,T1⟩ R hR hdl hx hlt ⟨e0,e2,e3,e9,e10,e42,e43,e44,hnl,hkp⟩;dsimp only at hkp;have hdw:=wr (n:=(dn.length:Int)+1) (by omega) (by omega);have hlt':(dn.length:Int)<PG.length:=(by omega);have hg1m:=qqm hx;have hg1l:=htm g1 hg1m;simp[-getElem?_pos,e42,e43,e44,hlt',hx,yu];refine qM.listR g1 (fun dg ev U=>ev 0=.ptr s.S 0/\ev 2=r/\ev 3=m/\ev 9=.sl 1 (g.map zM) .none/\ev 10=.int .i64 (Zi s d a (dn.flatten++dg):Nat)/\ev 42=.sl 1 (PG.map yu) .none/\ev 43=.int .i64 PG.length/\ev 44=.int .i64 dn.length/\ev 48=.sl 1 (g1.map zM) .none/\ev 49=.int .i64 g1.length/\ev 50=.int .i64 dg.length/\Zi s d a (dn.flatten++dg)<d.length/\KpL [] H U.H) ?_ ?_ ?_
   . exact⟨by simp[e0],by simp[e2],by simp[e3],by simp[e9],by simp[e10],by simp[e42],by simp[e43],by simp[e44],by simp,by simp,by simp,by simpa using hnl,hkp⟩
   . rintro dg i rest2 ev ⟨H2,T2⟩ R2 hR2 hdl2 hx2 hlt2 ⟨e0,e2,e3,e9,e10,e42,e43,e44,e48,e49,e50,hnl2,hkp2⟩;dsimp only at hkp2;have hdw2:=wr (n:=(dg.length:Int)+1) (by omega) (by omega);have hlt2':(dg.length:Int)<g1.length:=(by omega);have him:i∈PG.flatten:=qrs.2 ⟨g1,hg1m,qqm hx2⟩;obtain⟨v,l,hv,hw0,hw8,hl,hl20,_⟩:=hpre.gr i him;obtain⟨n,hna,hn16⟩:=hpre.val i him;have hs2:=hs.keep hkp2 (by simp) (by simp) (by simp);have ha2:=ha.keep hkp2 (by simp);obtain⟨u,hu1,hu2⟩:=ha2.at0 hna;have hdes:=WD hs2 hd hdv hv hl ⟨hw0,hw8⟩ hl20 hnl2 (val:=n) (by omega) T2;have hsn:Zi s d a (dn.flatten++(dg++[i]))=wV d l v.width.toNat n (Zi s d a (dn.flatten++dg)) v.width.toNat:=by
      rw[<- qqV];unfold Zi;rw[qrC];have h1:YO s.lv i=l:=(by simp[YO,qqz,hl]);have h2:jB s.p i=v.width.toNat:=(by simp[jB,zG,hv]);have h3:aN a i=n:=(by simp[aN,qqz,hna]);simp only[qq7,qtY,h1,h2,h3]
     have hnl3:=J0 hd hnl2 l v.width.toNat n v.width.toNat;rw[<- hsn]at hdes hnl3;have hix:=qiu (tok:=.none) hx2;generalize Zi s d a (dn.flatten++dg)=nd at *;generalize hn2:Zi s d a (dn.flatten++(dg++[i]))=nd2 at *;simp[-getElem?_pos,-zO,-wm,e0,e2,e10,e48,e49,e50,hlt2',hix,qnp,hu1,hu2];refine qd.acall hdes ?_;rintro w ⟨H3,T3⟩ ⟨rfl,hk3⟩;dsimp only at hk3;simp[-getElem?_pos,e50,hdw2];exact hR2 _ _ ⟨by simp[e0],by simp[e2],by simp[e3],by simp[e9],by simp,by simp[e42],by simp[e43],by simp[e44],by simp[e48],by simp[e49],by simp,by first | exact hnl3 | (rw[hn2];exact hnl3),hkp2.trans hk3⟩
   . rintro ev ⟨H2,T2⟩ ⟨e0,e2,e3,e9,e10,e42,e43,e44,e48,e49,e50,hnl2,hkp2⟩;simp[-getElem?_pos,e44,e49,e50,hdw];exact hR _ _ ⟨by simp[e0],by simp[e2],by simp[e3],by simp[e9],by simp[e10],by simp[e42],by simp[e43],by simp,by simpa using hnl2,hkp2⟩
 . rintro ev ⟨H1,T1⟩ ⟨e0,e2,e3,e9,e10,e42,e43,e44,hnl,hkp⟩;dsimp only at hkp;have hH1l:=hkp.1;have hs1:=hs.keep hkp (by simp) (by simp) (by simp);have hf1:=hf.keep hkp (by simp);have hSl:=(qql.1 hs.c).1;obtain⟨cw,hL,hcw⟩:=hs.w;have hLl:=(qql.1 hL).1;have hLLl:=hs.b;have hs2:=hs1.keep (H':=H1++[.map [] 0]) (bs:=[]) KpL.app (by simp) (by simp) (by simp);have hf2:=hf1.keep (H':=H1++[.map [] 0]) (bs:=[]) KpL.app (by simp);have hmF:∀ F,m=.map F->F≠H1.length:=fun F hF=>by
    rcases hf1 with ⟨rfl,_⟩|⟨F',es,n,rfl,hF',_⟩
    . cases hF
    . cases hF;have:=(qql.1 hF').1;omega
   have hsu:=qhd hd hdv hfx hg hgg (K:=H1.length) (by omega) (by omega) (by omega) hmF g.length 0 (by omega) (Zi s d a PG.flatten) (H1++[.map [] 0]) T1 hnl hs2 hf2 ⟨[],0,lk0,by simp⟩;simp only[qrJ]at hsu;simp[-getElem?_pos,e0,e3,e9,e10,e43,e44,qX,zu,qy];refine qd.acall hsu ?_;rintro w ⟨H3,T3⟩ ⟨rfl,hk3,_⟩;dsimp only at hk3;simp[-getElem?_pos];refine hkp.trans ⟨by have:=hk3.1;simp at this;omega,fun k x hk _=>hk3.2 _ _ (qb hk _) (by have:=(qql.1 hk).1;simp;omega)⟩
theorem qor {s:Spc}(hvq:VQ s.p)(hvp:qk s.p=0)(hv20:s.p.vars.length<=20)(hb:yJ s.p.vars (qC s.p)<=18)(hsm:s.small=false)(hRk:∀ e∈s.R,zm s.p.vars e=0/\Jb e)(hRl:s.R.length<=50000)(hrt:qqh s.R s.rtok){fx:Nat->Option Nat}(hfx:∀ i x,fx i=some x->x<65536){m:AV}{gi:Nat}{g:List Nat}(hgi:(NG s.p)[gi]?=some g)(hgl:∀ g∈NG s.p,g.length<=1000)(hGl:(NG s.p).length<=1000)(hfl:(NG s.p).flatten.length<=1000)
 {r:AV} {a:List Int} {H:List Blk} (hg:qn0 s g) (hpre:SpG s a ((NG s.p).take gi).flatten) (hs:SpOk s H) (hf:qgE m fx H) (ha:AsR r a H) (T:List (Option Nat)) :
 qg Tryz.prog GG 94 [.ptr s.S 0,.int .i64 gi,r,m] ⟨H,T⟩ (fun v U'=>v=.int .i64 (qck s.p fx g (Wc s a ((NG s.p).take gi).flatten):Nat)/\KpL [] H U'.H):=by
 refine qg.kO ⟨false,qd6,[],[]⟩ qe Tryz.func94 rfl (by kernel_rfl) ?_;have hS:=hs.c;have hgil:=(qql.1 hgi).1;have hgil':(gi:Int)<(NG s.p).length:=by omega
 have hG:=qe3 hvp;simp only[spE,qL,qqP,qqJ,hsm,hG]at hS;have hsl:=qm3 (G:=NG s.p) (gi:=gi) (by omega);have htl:((NG s.p).take gi).length<=1000:=by rw[qqY];omega
 have htm:∀ g∈(NG s.p).take gi,g.length<=1000:=fun g hg=>hgl g (qrk hg)
 have hfl2:((NG s.p).take gi).flatten.length<=1000:=by
  have:(NG s.p).flatten=((NG s.p).take gi).flatten++((NG s.p).drop gi).flatten:=by rw[<- qrW,qre]
  rw[this,qqr]at hfl;omega
 obtain⟨PG,hPG⟩:∃ PG,PG=(NG s.p).take gi:=⟨_,rfl⟩;rw[<- hPG]at hsl htl htm hpre hfl2 ⊢;simp[-getElem?_pos,hS,hgil,hgil',hgi,yu,hsl];have hgg:=hgl g (qqm hgi);have hrl:∀ l,(Wc s a l).length=s.R.length+l.length:=fun l=>by simp[Wc]
 refine qM.listR PG (fun dn ev U=>ev 0=.ptr s.S 0/\ev 2=r/\ev 3=m/\ev 9=.sl 1 (g.map zM) .none/\(∃ tok,ev 15=.sl 4 ((Wc s a dn.flatten).map qu) tok/\qqh (Wc s a dn.flatten) tok)/\ev 81=.sl 1 (PG.map yu) .none/\ev 82=.int .i64 PG.length/\ev 83=.int .i64 dn.length/\KpL [] H U.H) ?_ ?_ ?_
 . exact⟨by simp,by simp,by simp,by simp,⟨s.rtok,by simp[Wc],by simpa[Wc] using hrt⟩,by simp,by simp,by simp,KpL.refl⟩
 . rintro dn g1 rest ev ⟨H1,T1⟩ R hR hdl hx hlt ⟨e0,e2,e3,e9,⟨tok,e15,htok⟩,e81,e82,e83,hkp⟩;dsimp only at hkp;have hdw:=wr (n:=(dn.length:Int)+1) (by omega) (by omega);have hlt':(dn.length:Int)<PG.length:=(by omega);have hg1m:=qqm hx;have hg1l:=htm g1 hg1m;simp[-getElem?_pos,e0,e2,e3,e9,e15,e81,e82,e83,hlt,hlt',hx,yu];refine qM.listR g1 (fun dg ev U=>ev 0=.ptr s.S 0/\ev 2=r/\ev 3=m/\ev 9=.sl 1 (g.map zM) .none/\(∃ tok,ev 15=.sl 4 ((Wc s a (dn.flatten++dg)).map qu) tok/\qqh (Wc s a (dn.flatten++dg)) tok)/\ev 81=.sl 1 (PG.map yu) .none/\ev 82=.int .i64 PG.length/\ev 83=.int .i64 dn.length/\ev 87=.sl 1 (g1.map zM) .none/\ev 88=.int .i64 g1.length/\ev 89=.int .i64 dg.length/\KpL [] H U.H) ?_ ?_ ?_
   . exact⟨by simp[e0],by simp[e2],by simp[e3],by simp[e9],⟨tok,by simp[e15],by simpa using htok⟩,by simp[e81],by simp[e82],by simp[e83],by simp,by simp,by simp,hkp⟩
   . rintro dg i rest2 ev ⟨H2,T2⟩ R2 hR2 hdl2 hx2 hlt2 ⟨e0,e2,e3,e9,⟨tok,e15,htok⟩,e81,e82,e83,e87,e88,e89,hkp2⟩;dsimp only at hkp2;have hdw2:=wr (n:=(dg.length:Int)+1) (by omega) (by omega);have hlt2':(dg.length:Int)<g1.length:=(by omega);have him:i∈PG.flatten:=qrs.2 ⟨g1,hg1m,qqm hx2⟩;obtain⟨v,l,hv,hw0,hw8,hl,hl20,_⟩:=hpre.gr i him;obtain⟨n,hna,hn16⟩:=hpre.val i him;have hs2:=hs.keep hkp2 (by simp) (by simp) (by simp);have ha2:=ha.keep hkp2 (by simp);obtain⟨u,hu1,hu2⟩:=ha2.at0 hna;have heq:=qbG hs2 hv (n:Int) T2;have hsn:Wc s a (dn.flatten++(dg++[i]))=Wc s a (dn.flatten++dg)++[eqE v.name (n:Int)]:=by
      have h2:JG s.p i=v.name:=(by simp[JG,hv]);have h3:aN a i=n:=(by simp[aN,qqz,hna]);simp[Wc,h2,h3]
     have hlen2:(Wc s a (dn.flatten++dg)).length<=60000:=by
      rw[hrl];have:(dn.flatten++dg).length<=PG.flatten.length:=by rw[hdl,hdl2];simp
      omega
     have hcl:=qjg (Wc s a (dn.flatten++dg)) (ptok tok) htok.p;have hae:=yD (eqE v.name (n:Int));have hl4:=zi (eqE v.name (n:Int));have htk:(qu (eqE v.name (n:Int))).take 4=qu (eqE v.name (n:Int)):=qqu (by rw[hl4];exact qqw _);have hap:=fun H T=>Vu (R:=Wc s a (dn.flatten++dg)) (X:=eqE v.name (n:Int)) (H:=H) (T:=T) (by omega)
     have hix:=qiu (tok:=.none) hx2;generalize Wc s a (dn.flatten++dg)=R0 at *;generalize eqE v.name (n:Int)=X at *;simp[-getElem?_pos,-zO,-wm,e0,e2,e3,e9,e15,e81,e82,e83,e87,e88,e89,hlt2',hix,qnp];rw[qH rfl];simp[-getElem?_pos,-qO,-zO,-wm,qP,e0,e2,e3,e9,e15];refine qd.pure hcl (by cases tok<;>simp) (by cases tok<;>simp[zj,Leq,jZ.refl,ptok]) ?_;simp[-getElem?_pos,-qO,-zO,-wm,qP,e0,e2,e3,e9,e15,hu1,hu2];refine qd.acall heq ?_;rintro w ⟨H3,T3⟩ ⟨rfl,hk3⟩;dsimp only at hk3;simp[-getElem?_pos,-qO,qP,e0,e2,e3,e9,e15,htk,hae,hl4,qh,qw,hap,e81,e82,e83,e87,e88,e89,hdw2];refine hR2 _ _ ⟨by simp[e0],by simp[e2],by simp[e3],by simp[e9],⟨.chain T3.length 1,by simp[hsn],by rw[hsn];exact .inl (by simp)⟩,by simp[e81],by simp[e82],by simp[e83],by simp[e87],by simp[e88],by simp,hkp2.trans hk3⟩
   . rintro ev ⟨H2,T2⟩ ⟨e0,e2,e3,e9,⟨tok,e15,htok⟩,e81,e82,e83,e87,e88,e89,hkp2⟩;simp[-getElem?_pos,e0,e2,e3,e9,e15,e81,e82,e83,e87,e88,e89,hdw];exact hR _ _ ⟨by simp[e0],by simp[e2],by simp[e3],by simp[e9],⟨tok,by simp[e15],by simpa using htok⟩,by simp[e81],by simp[e82],by simp,hkp2⟩
 . rintro ev ⟨H1,T1⟩ ⟨e0,e2,e3,e9,⟨tok,e15,htok⟩,e81,e82,e83,hkp⟩;dsimp only at hkp;have hs1:=hs.keep hkp (by simp) (by simp) (by simp);have hf1:=hf.keep hkp (by simp);have hkn:∀ e∈Wc s a PG.flatten,zm s.p.vars e=0/\Jb e:=fun e he=>by
    rcases qqE.1 he with he|he
    . exact hRk e he
    . obtain⟨i,hi,rfl⟩:=qqS.1 he;obtain⟨v,l,hv,_⟩:=hpre.gr i hi;obtain⟨n,hna,hn16⟩:=hpre.val i hi;have h2:JG s.p i=v.name:=(by simp[JG,hv]);have h3:aN a i=n:=(by simp[aN,qqz,hna]);rw[h2,h3];exact qeQ hvq hvp hv (by omega) (by omega)
   have htr:=qkp hvq hvp hv20 hb hfx (m:=m) g (Wc s a PG.flatten) tok H1 T1 hg hkn (by rw[hrl];omega) htok hs1 hf1;simp[-getElem?_pos,e0,e2,e3,e9,e15,e81,e82,e83];refine qd.acall htr ?_;rintro w ⟨H3,T3⟩ ⟨rfl,hk3⟩;dsimp only at hk3;simp[-getElem?_pos];exact hkp.trans hk3
end Go.Proofs.YtoibbcnfhhggnaaGreatDoor
end
