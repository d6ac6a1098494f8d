import Derived.Test.YtfmdnopgncbmoaaGreatDoorPs33
import Derived.RangeFuncBox
import Derived.RangeFuncLeaves
import Derived.Shelf.Abstract
import Derived.WalkKit
import Derived.OwnWalkIn
import Derived.TacticsInMore
import Derived.LoopNIn
import Derived.LoopIn
import Derived.RegionIn
import Derived.OrdersIn
set_option maxRecDepth 100000
set_option maxHeartbeats 16000000
set_option linter.all false
set_option linter.defProp false
namespace Go.Proofs.YtfmdnopgncbmoaaGreatDoor
open Go Go.Abs Tryz Go.RowKit Go.Shelf
def wsz(w:Weight):Nat:=(w.hi-w.lo+1).toNat
def WOk(l:List Weight):Prop:=∀w∈l,0<=w.lo/\w.lo<=w.hi/\w.hi<=255/\0<=w.weight/\w.weight<=1000
def J9{l width}(h:wZ l width=0):WOk l/\l.length<=16/\l≠[]:=by
 unfold wZ at h;split at h
 . cases h
 rename_i hw;split at h
 . cases h
 split at h
 . cases h
 rename_i h1 h2;split at h
 . cases h
 rename_i hb;refine⟨fun w hw=>?_,by omega,fun e=>h2 (by rw[e];rfl)⟩;have hNb:2^width.toNat<=2^8:=qzc (by omega) (by omega);generalize 2^width.toNat=N at *;simp only[qy8,not_exists,not_and,Bool.not_eq_true]at hb;have:=hb w hw;unfold qqI at this;simp at this;omega
def ja:List Weight->Nat->Int×Int
 |[],s=>(s,0)
 |w::r,s=>if w.each=true then ja r s else if Nat.lcm s (wsz w)<9223372036854775808 then ja r (Nat.lcm s (wsz w)) else(0,3)
def WK{w}(h:w.lo<=w.hi):0<wsz w:=by unfold wsz;omega
def qkS(l)(hl:l.length<=1000)(hw:WOk l):Pure prog GG 171 [.sl 4 (l.map qC) .none] (.tup [.int .i64 (ja l 1).1,.int .i64 (ja l 1).2]):=by
 refine qCL qe func171 rfl (by kernel_rfl) ?_;generalize hr:ja l 1=r;simp;refine qC2 l (fun d ev U=>ev 0=.sl 4 (l.map qC) .none/\ev 8=.sl 4 (l.map qC) .none/\ev 9=.int .i64 l.length/\ev 10=.int .i64 d.length/\∃s:Nat,ev 4=.int .i64 s/\0<s/\s<9223372036854775808/\ja (l.drop d.length) s=r) ?_ ?_ ?_
 . exact⟨by simp,by simp,by simp,by simp,1,by simp,by omega,by omega,by simpa using hr⟩
 . rintro d w rest ev U R hR hd hx hlt ⟨e0,e8,e9,e10,s,e4,hs0,hs1,hsc⟩;have hdw:IntKind.i64.wrap ((d.length:Int)+1)=(d.length+1:Nat):=(by rw[wr (by omega) (by omega)];omega);obtain⟨w0,w1,w2,w3,w4⟩:=hw w (qyG hx);rw[show l.drop d.length=w::l.drop (d.length+1) by rw[hd];simp]at hsc;have hwp:=WK w1;have hsz:(wsz w:Int)=w.hi-w.lo+1:=(by unfold wsz;omega);have h1:=qsN w;have h2:=qdu w w0 w1 (by omega);have h3:=qsG s (wsz w) hs0 hwp hs1 (by omega);rw[hsz]at h3;have hlp:=Nat.lcm_pos hs0 hwp;have hgo:∀(s':Nat) (ev':Env) (U':St),0<s'->s'<9223372036854775808->ja (l.drop (d.length+1)) s'=r->ev' 0=.sl 4 (l.map qC) .none->ev' 8=.sl 4 (l.map qC) .none->ev' 9=.int .i64 l.length->ev' 10=.int .i64 (d.length+1:Nat)->ev' 4=.int .i64 s'->R ev' U':=fun s' ev' U' a1 a2 a3 a4 a5 a6 a7 a8=>
    hR _ _ ⟨a4,a5,a6,by simpa using a7,s',a8,a1,a2,by simpa using a3⟩
   obtain⟨lo,hi,wt,each⟩:=w;simp[-getElem?_pos,e8,e9,e10,hlt,hx];refine qCO h1 rfl ?_;cases each
   . simp only[ja,qy4,if_false]at hsc;simp[e4];refine qCO h2 rfl ?_;simp;refine qCO h3 rfl ?_;generalize Nat.lcm s (wsz ⟨lo,hi,wt,false⟩)=L at hsc hlp⊢;by_cases hL:L<9223372036854775808
     . rw[if_pos hL]at hsc;simp[qab,hL,e10,hdw];exact hgo L _ _ hlp hL hsc (by simp[e0]) (by simp[e8]) (by simp[e9]) (by simp) (by simp)
     rw[if_neg hL]at hsc;subst hsc;simp[qab,hL]
   simp only[ja,if_true]at hsc;simp[e10,hdw];exact hgo s _ _ hs0 hs1 hsc (by simp[e0]) (by simp[e8]) (by simp[e9]) (by simp) (by simp[e4])
 rintro ev U ⟨e0,e8,e9,e10,s,e4,hs0,hs1,hsc⟩;rw[qz2]at hsc;simp only[ja]at hsc;subst hsc;simp[e9,e10,e4]
def kJ:∀(l) (s),WOk l->0<s->s<9223372036854775808->((ja l s).2=0/\0<(ja l s).1/\(ja l s).1<9223372036854775808)\/ja l s=(0,3)
 |[],s,_,h0,h1=>.inl ⟨rfl,by simp only[ja];omega,by simp only[ja];omega⟩
 | w::r,s,hw,h0,h1=>by
  have hr:WOk r:=fun x hx=>hw x (by simp[hx])
  have hwp:=WK (hw w (by simp)).2.1;simp only[ja];split
  . exact kJ r s hr h0 h1
  split
  . rename_i h;exact kJ r _ hr (Nat.lcm_pos h0 hwp) h
  exact .inr rfl
def Qt(l:List Weight)(s:Nat)(v:Int):Int×Int:=match Yy l v with
 |none=>(0,0)
 |some w=>if w.each=true then qab (w.weight.toNat*s) else qab (w.weight.toNat*(s/wsz w))
def qgL(l:List Weight)(hl:l.length<=1000)(hw:WOk l)(s:Nat)(hs:s<9223372036854775808)(v:Int):Pure prog GG 122 [.sl 4 (l.map qC) .none,.int .i64 s,.int .i64 v] (.tup [.int .i64 (Qt l s v).1,.int .i64 (Qt l s v).2]):=by
 have ho:=qlr l (by unfold Fits;omega) v;refine qCL qe func122 rfl (by kernel_rfl) ?_;generalize hr:Qt l s v=r;unfold Qt at hr;simp;refine qCO ho (by simp) ?_
 cases hf:Yy l v with
 | none=>
  rw[hf]at hr;simp only at hr;subst hr;simp
 | some w=>
  rw[hf]at hr;simp only at hr;obtain⟨w0,w1,w2,w3,w4⟩:=hw w (qB9 hf);have h1:=qsO w;have h2:=qdu w w0 w1 (by omega);have hwp:=WK w1;rw[<- show(wsz w:Int)=w.hi-w.lo+1 by unfold wsz;omega]at h2;obtain⟨k,hk⟩:∃k:Nat,w.weight=k:=⟨w.weight.toNat,by omega⟩;have hm1:=qh2 k s (by omega) hs;have hq:s/wsz w<=s:=qzI _ _;have hm2:=qh2 k (s/wsz w) (by omega) (by omega);rw[show w.weight.toNat=k by omega]at hr;generalize hz:wsz w=z at *;obtain⟨q,hqe⟩:∃q,s/z=q:=⟨_,rfl⟩;have hdiv:(s:Int).tdiv z=q:=by
   rw[qA5 (by omega)];omega
  rw[hqe]at hm2 hr hq;have hqu:=wr (n:=q) (by omega) (by omega);obtain⟨lo,hi,wt,each⟩:=w;simp only at hk;subst hk;cases each
  . simp only[qy4,if_false]at hr;subst hr;simp;refine qCO h1 rfl ?_;simp;refine qCO h2 rfl ?_;simp[show ¬z=0 by omega,hdiv,hqu];refine qCO hm2 rfl ?_;simp
  simp only[if_true]at hr;subst hr;simp;refine qCO h1 rfl ?_;simp;refine qCO hm1 rfl ?_;simp
def qkT(l)(hl:l.length<=1000):Pure prog GG 121 [.sl 4 (l.map qC) .none]
 (.tup [.int .i64 (if wZ l 8=0 then(ja l 1).1 else 0),.int .i64 (if wZ l 8=0 then(ja l 1).2 else wZ l 8)]):=by
 have hv:=qi7 l (by unfold Fits;omega) 8;refine qCL qe func121 rfl (by kernel_rfl) ?_;simp;refine qCO hv (by simp) ?_;by_cases h:wZ l 8=0
 . simp[h];refine qCO (qkS l hl (J9 h).1) (by simp) ?_;simp
 simp[h]
def j6(l:List Weight)(v:Int):Int×Int :=
 if wZ l 8≠0 then(0,wZ l 8) else if(ja l 1).2≠0 then(0,(ja l 1).2) else Qt l (ja l 1).1.toNat v
def qkp(l)(hl:l.length<=1000)(v):Pure prog GG 77 [.sl 4 (l.map qC) .none,.int .i64 v] (.tup [.int .i64 (j6 l v).1,.int .i64 (j6 l v).2]):=by
 have hs:=qkT l hl;refine qCL qe func77 rfl (by kernel_rfl) ?_;generalize hr:j6 l v=r;unfold j6 at hr;simp;refine qCO hs (by simp) ?_;by_cases h:wZ l 8=0
 . have hw:=(J9 h).1;rw[if_neg (by simp[h])]at hr;rcases kJ l 1 hw (by omega) (by omega) with⟨h1,h2,h3⟩|h1
   . rw[if_neg (by simp[h1])]at hr;have he:=qgL l hl hw (ja l 1).1.toNat (by omega) v;rw[show(((ja l 1).1.toNat:Nat):Int)=(ja l 1).1 by omega]at he;simp[h,h1];refine qCO he (by simp) ?_;subst hr;simp
   rw[h1]at hr;simp at hr;subst hr;simp[h,h1]
 rw[if_pos h]at hr;subst hr;simp[h]
def K8(n):sat n=min n 1099511627777:=rfl
def qhL(a b)(ha:a<=lim)(hb:b<=lim):Pure prog GG 135 [.int .i64 a,.int .i64 b] (.int .i64 (sat (a+b):Nat)):=by
 refine qCL qe func135 rfl (by kernel_rfl) ?_;unfold lim at ha hb;have hw:=wr (n:=(a:Int)+b) (by omega) (by omega);have hm:vd (.int .i64 ((a:Int)+b)) (.int .i64 1099511627777)=some (.int .i64 (sat (a+b):Nat)):=by
  simp only[vd,K8];congr 2;split<;>omega
 simp[hw,hm]
def WU(a b)(ha:a<=lim)(hb:b<=lim):Pure prog GG 51 [.int .i64 a,.int .i64 b] (.int .i64 (sat (a*b):Nat)):=by
 refine qCL qe func51 rfl (by kernel_rfl) ?_;unfold lim at ha hb;by_cases h1:a=0
 . subst h1;simp[K8]
 by_cases h2:b=0
 . subst h2;simp[h1,K8]
 have hq:(1099511627777:Int).tdiv (b:Int)=((1099511627777/b:Nat):Int):=by
  rw[qA5 (by omega)];simp
 have hqle:1099511627777/b<=1099511627777:=qzI _ _;have hwq:IntKind.i64.wrap ((1099511627777/b:Nat):Int)=((1099511627777/b:Nat):Int):=by
  generalize 1099511627777/b=q at *;exact wr (by omega) (by omega)
 have h2':¬(b:Int)=0:=by omega
 by_cases hgt:1099511627777/b<a
 . have hgt':=Int.ofNat_lt.2 hgt;have hs:sat (a*b)=1099511627777:=by
    have:=(qAr (by omega)).1 hgt;rw[K8];omega
   generalize 1099511627777/b=q at *;simp[-qu,Wj,qnE,h1,h2,hs,show qu .quo .i64 1099511627777 b=some (.int .i64 (q:Int)) by simp only[qu];rw[if_neg h2',hq,hwq],hgt]
 have hgt':¬((1099511627777/b:Nat):Int)<(a:Int):=fun h=>hgt (Int.ofNat_lt.1 h)
 have hle:a*b<=1099511627777:=(qCv (by omega)).1 (by omega);have hww:=wr (n:=(a:Int)*b) (by
  have:(0:Int)<=(a:Int)*b:=by rw[<- qAN];omega
  omega) (by
  rw[<- qAN];omega)
 have hm:vd (.int .i64 ((a:Int)*b)) (.int .i64 1099511627777)=some (.int .i64 (sat (a*b):Nat)):=by
  simp only[vd,K8];rw[<- qAN];congr 2;split<;>omega
 generalize hqq:1099511627777/b=q at *;simp[-qu,Wj,qsr,qnE,h1,h2,show qu .quo .i64 1099511627777 b=some (.int .i64 (q:Int)) by simp only[qu];rw[if_neg h2',hq,hwq],hgt,hww,hm]
def jd(n:Nat)(l:List Dist):List (Option (List Weight)):=l.foldl (fun o d=>o.set d.var.toNat (some d.weights)) (List.replicate n none)
def qi6(o:Option (List Weight)):List AV:=match o with
 |none=>[.sl 0 [] .nil]
 |some w=>[.sl 4 (w.map qC) .none]
def yq(n l):(jd n l).length=n:=by
 have:∀(l:List Dist) (o:List (Option (List Weight))),(l.foldl (fun o d=>o.set d.var.toNat (some d.weights)) o).length=o.length:=by
  intro l
  induction l with
  |nil=>intro o;rfl
  |cons a r ih=>intro o;rw[qzm,ih];simp
 unfold jd;rw[this];simp
def YJ(n l d):jd n (l++[d])=(jd n l).set d.var.toNat (some d.weights):=by simp[jd,qz5]
def qf3{n}:∀{l:List Dist}{w:List Weight},some w∈jd n l->∃d∈l,d.weights=w:=by
 have gen:∀(l:List Dist) (o:List (Option (List Weight))) (w:List Weight),some w∈l.foldl (fun o d=>o.set d.var.toNat (some d.weights)) o->some w∈o\/∃d∈l,d.weights=w:=by
  intro l
  induction l with
  |nil=>intro o w h;exact .inl h
  | cons a r ih=>
   intro o w h;rw[qzm]at h;rcases ih _ w h with h|⟨d,hd,he⟩
   . rcases qAL h with h|h
     . exact .inl h
     . cases h;exact .inr ⟨a,by simp⟩
   exact .inr ⟨d,by simp[hd],he⟩
 intro l w h;rcases gen l _ w h with h|h
 . rw[qAx]at h;cases h.2
 exact h
def WFn(p:Problem)(L LL:Nat)(H:List Blk):Prop:=∃c,H[L]?=some (.cells [c])/\(p.vars≠[]->c=.ms LL 0 p.vars.length 1/\H[LL]?=some (.cells ((jd p.vars.length p.dists).flatMap qi6)))
def qxt(p:Problem)(H:List Blk)(r:AV)(U':St):Prop:=KpL [] H U'.H/\∃L LL,r=.fn 76 [] [.ptr L 0]/\H.length<=L/\H.length<=LL/\WFn p L LL U'.H
def qi5(o):(qi6 o).length=1:=by cases o<;>rfl
def qkq(p)(h:VQ p)(hv:qk p=0)(H T):qf prog GG 39 [.agg (qA p)] ⟨H,T⟩ (qxt p H):=by
 refine qCN qe func39 rfl (by kernel_rfl) ?_;have hvd:=qg0 hv;have hvl:=h.vars;have hdf:=h.dists;by_cases hv0:p.vars=[]
 . have hd0:p.dists=[]:=by
    apply qBP.2;intro d hd;obtain⟨i,v,_,hi⟩:=hvd d hd;rw[hv0]at hi;simp at hi
   have fin:∀(u:List Blk) (T':List (Option Nat)) (B0:Blk) (c:AV),qxt p H (.fn 76 [] [.ptr (H.length+1) 0]) ⟨H++B0::.cells [c]::u,T'⟩:=fun u T' B0 c=>⟨qDj,H.length+1,H.length+1,rfl,by omega,by omega,c,lk1,fun hn=>absurd hv0 hn⟩
   simp[hv0,hd0,qz];refine qCR (fun m ev U=>ev 3=.ptr (H.length+1) 0/\ev 12=.int .i64 0/\ev 13=.int .i64 0/\∃B0 c u T',U=⟨H++B0::.cells [c]::u,T'⟩) 0 ⟨by simp,by simp,by simp,_,_,_,_,rfl⟩ ?_;rintro m ev U R hR ⟨e3,e12,e13,B0,c,u,T',rfl⟩;simp[e3,e12,e13];exact fin _ _ _ _
 have hpos:=qyZ.2 hv0;have hne:¬(p.vars.length:Int)=0:=by omega
 simp[hv0,show(p.vars.length:Int)<=549755813888 by omega,qz];refine qC2 p.dists (fun d ev U=>ev 3=.ptr (H.length+2) 0/\ev 11=.sl 2 (p.dists.map zF) .none/\ev 12=.int .i64 p.dists.length/\ev 13=.int .i64 d.length/\KpL [] H U.H/\U.H[H.length+2]?=some (.cells [.ms (H.length+1) 0 p.vars.length 1])/\U.H[H.length+1]?=some (.cells ((jd p.vars.length d).flatMap qi6))) ?_ ?_ ?_
 . refine⟨by simp,by simp,by simp,by simp,qDj,lk2,?_⟩;have:(jd p.vars.length []).flatMap qi6=List.replicate p.vars.length (.sl 0 [] .nil):=by
    show(List.replicate p.vars.length none).flatMap qi6=_;rw[qAv,qBA];show(List.replicate p.vars.length [AV.sl 0 [] .nil]).flatten=_;simp
   rw[this];exact lk1
 . rintro d x rest ev ⟨H1,T1⟩ R hR hd hx hlt ⟨e3,e11,e12,e13,hkp,b2,b1⟩;have hdw:=wr (n:=(d.length:Int)+1) (by unfold Fits at hdf;omega) (by unfold Fits at hdf;omega);obtain⟨i,v,hi,hvi⟩:=hvd x (qyG hx);have hil:=(qyF.1 hvi).1;have hi1:i+1<=p.vars.length:=hil;have hll:=yq p.vars.length d;have hfl:=Go.Abs.jf (sz:=1) qi5 (jd p.vars.length d);rw[hll,Nat.mul_one]at hfl;have hset:((jd p.vars.length d).flatMap qi6).set i (.sl 4 (x.weights.map qC) .none)=(jd p.vars.length (d++[x])).flatMap qi6:=by
    have:=vX qi5 (jd p.vars.length d) i (some x.weights) (by omega);rw[YJ,hi,qzt,<- this];simp[qi6,zj]
   have hl1:=(qyF.1 b1).1;generalize (jd p.vars.length d).flatMap qi6=F at *;simp[e3,e11,e12,e13,show(d.length:Int)<p.dists.length by omega,hx,qa b2,qa b1,yO b1,hi,show(i:Int)<p.vars.length by omega,hfl,hi1,hset,hdw];refine hR _ _ ⟨by simp[e3],by simp[e11],by simp[e12],by simp,(hkp.setF (by omega)).trans qDj,qa (by rw[qyI (by omega)];exact b2) _,qa (qyL hl1) _⟩
 rintro ev ⟨H1,T1⟩ ⟨e3,e11,e12,e13,hkp,b2,b1⟩;simp[e3,e12,e13];exact⟨hkp,H.length+2,H.length+1,rfl,by omega,by omega,_,b2,fun _=>⟨rfl,b1⟩⟩
def wtO(o:Option (List Weight))(v:Int):Nat:=match o with
 |none=>1
 |some w=>if(j6 w v).2≠0 then lim else sat (j6 w v).1.toNat
def qrF(o v):wtO o v<=lim:=by
 unfold wtO;split
 . unfold lim;omega
 split
 . exact qyQ _
 exact Yg _
def qqe(n):0<=(qab n).1:=by
 unfold qab;split<;>simp
def qe8(l v):0<=(j6 l v).1:=by
 unfold j6;split
 . simp
 split
 . simp
 unfold Qt;split
 . simp
 split<;>exact qqe _
def qdg(o:Option (List Weight)):AV:=match o with
 |none=>.sl 0 [] .nil
 |some w=>.sl 4 (w.map qC) .none
def qqp(o):qi6 o=[qdg o]:=by cases o<;>rfl
def qwv(l:List (Option (List Weight))):l.flatMap qi6=l.map qdg:=by
 induction l with
 |nil=>rfl
 |cons a r ih=>rw[qy5,ih,qqp];rfl
def qlI{α:Type}(f:α->AV){l:List α}{i:Nat}{x:α}(h:l[i]?=some x):(l.map f).drop i=f x::(l.map f).drop (i+1):=by
 obtain⟨h1,h2⟩:=qyF.1 h;rw[qy1 (by simpa using h1),qAe,h2]
def WL(p){L LL H}(hw:WFn p L LL H){i:Nat}{o:Option (List Weight)}(hi:(jd p.vars.length p.dists)[i]?=some o)(ho:∀w,o=some w->w≠[]/\w.length<=1000)(v T):
 qf prog GG 76 [.int .i64 (i:Int),.int .i64 v,.ptr L 0] ⟨H,T⟩ (fun r U'=>r=.int .i64 (wtO o v:Nat)/\U'=⟨H,T⟩):=by
 refine qCN qe func76 rfl (by kernel_rfl) ?_;have hil:=(qyF.1 hi).1;rw[yq]at hil;have hne:p.vars≠[]:=fun e=>by rw[e]at hil;simp at hil
 obtain⟨c,hL,hc⟩:=hw;obtain⟨rfl,hLL⟩:=hc hne;rw[qwv]at hLL;have hdr:=qlI qdg hi;have hlen:((jd p.vars.length p.dists).map qdg).length=p.vars.length:=by rw[qzk,yq]
 have hil':(i:Int)<p.vars.length:=by omega
 have hi1:i+1<=p.vars.length:=hil;generalize (jd p.vars.length p.dists).map qdg=F at *
 cases o with
 | none=>
  simp[hL,hLL,hil',hi1,hlen,hdr,qdg,qP,ZB,TD.isSl,wtO]
 | some w=>
  obtain⟨hwn,hwl⟩:=ho w rfl;obtain⟨a,r,rfl⟩:=qBn hwn;have h51:=qkp (a::r) hwl v;have hnn:=qe8 (a::r) v;have hwt:wtO (some (a::r)) v=if(j6 (a::r) v).2≠0 then lim else sat (j6 (a::r) v).1.toNat:=rfl
  rw[hwt];generalize j6 (a::r) v=wd at *;obtain⟨x,e⟩:=wd;simp only at hnn h51⊢;have hm:vd (.int .i64 x) (.int .i64 1099511627777)=some (.int .i64 (sat x.toNat:Nat)):=by
   simp only[vd,K8];congr 2;split<;>omega
  simp[hL,hLL,hil',hi1,hlen,hdr,qdg,qP,ZB,TD.isSl];refine qCO (by simpa using h51) (by simp) ?_;by_cases he:e=0
  . simp[he,hm]
  simp[he,lim]
structure Spc where
 S:Nat
 L:Nat
 LL:Nat
 p:Problem
 R:List Ex
 rtok:Tok
 lv:List Int
 dv:AV
 root:Nat
 small:Bool
def spE(s:Spc):List AV:=qA s.p++[.sl 4 (s.R.map qt) s.rtok,.sl 1 (s.lv.map qq) .none,s.dv,.int .i64 s.root,.bool s.small,.fn 76 [] [.ptr s.L 0]]
structure SpOk(s:Spc)(H:List Blk):Prop where
 c:H[s.S]?=some (.cells (spE s))
 w:WFn s.p s.L s.LL H
 b:s.LL<H.length
def SpOk.keep{s H H' bs}(h:SpOk s H)(hk:KpL bs H H')(h1:s.S∉bs)(h2:s.L∉bs)(h3:s.LL∉bs):SpOk s H':=by
 refine⟨hk.2 _ _ h.c h1,?_,qyV h.b hk.1⟩;obtain⟨c,hL,hc⟩:=h.w;exact⟨c,hk.2 _ _ hL h2,fun hn=>⟨(hc hn).1,hk.2 _ _ (hc hn).2 h3⟩⟩
def qma{d}(h:DagOk d){f}(hf:f<d.length)(L o):jU d f L o<d.length:=by
 have hn:=qyH hf;unfold jU;rw[hn];simp only;split
 . by_cases h2:2<=f
   . obtain⟨g1,g2,g3,g4,g5,g6⟩:=h.node f _ h2 hn;split<;>omega
   . have ht:=h.two;have:f=0\/f=1:=by omega
     rcases this with rfl|rfl
     . have e:=h.n0;rw[hn]at e;rw[Option.some.inj e];split<;>simp<;>omega
     have e:=h.n1;rw[hn]at e;rw[Option.some.inj e];split<;>simp<;>omega
 exact hf
def wV(d:List Nd)(l w:Nat)(v:Nat)(node:Nat)(k:Nat):Nat:=(List.range k).foldl (fun node k=>jU d node (l+k) (v.testBit (w-1-k))) node
def ZT(d l w v node k):wV d l w v node (k+1)=jU d (wV d l w v node k) (l+k) (v.testBit (w-1-k)):=by simp[wV,qAc,qz5]
def JW{d}(h:DagOk d){node}(hn:node<d.length)(l w v):∀k,wV d l w v node k<d.length
 |0=>hn
 |k+1=>by rw[ZT];exact qma h (JW h hn l w v k) _ _
def qm4(n i:Nat)(hn:n<2^63):qu .and .i64 ((n:Int).fdiv (2^i)) 1=some (.int .i64 (if n.testBit i=true then 1 else 0)):=by
 rw[qjX n i hn];cases n.testBit i<;>rfl
def WD{s:Spc}{H}(h:SpOk s H){d tok}(hd:DagOk d)(hdv:s.dv=.sl 3 (d.map qw) tok){i l node val:Nat}{v:Var}(hv:s.p.vars[i]?=some v)(hl:s.lv[i]?=some (l:Int))(hw:0<=v.width/\v.width<=8)(hlw:l<=20)(hn:node<d.length)(hval:val<2^16)(T):
 qf prog GG 88 [.ptr s.S 0,.int .i64 node,.int .i64 i,.int .i64 val] ⟨H,T⟩ (fun r U'=>r=.int .i64 (wV d l v.width.toNat val node v.width.toNat:Nat)/\KpL [] H U'.H):=by
 refine qCN qe func88 rfl (by kernel_rfl) ?_;have hS:=h.c;simp only[spE,qA,qy3,qy2,hdv]at hS;have hwn:v.width=(v.width.toNat:Int):=by omega
 generalize hwN:v.width.toNat=w at *;simp[hS,hv,hwn];refine yF w (fun k ev U=>ev 0=.ptr s.S 0/\ev 1=.int .i64 (wV d l w val node k:Nat)/\ev 2=.int .i64 (i:Int)/\ev 3=.int .i64 (val:Int)/\ev 9=.int .i64 (w:Int)/\ev 21=.int .i64 (w:Int)/\ev 22=.int .i64 (k:Int)/\KpL [] H U.H) ?_ ?_ ?_
 . exact⟨by simp,by simp[wV],by simp,by simp,by simp,by simp,by simp,qDh⟩
 . rintro k ev ⟨H1,T1⟩ R hR hkw ⟨e0,e1,e2,e3,e9,e21,e22,hkp⟩;have hS1:=hkp.2 _ _ hS (by simp);have hnl:=JW hd hn l w val k;have hsucc:=ZT d l w val node k;generalize wV d l w val node k=nd at *;obtain⟨n,hnn⟩:∃n,d[nd]?=some n:=⟨_,qyH hnl⟩;have hk':(k:Int)<w:=(by omega);have hwk:=wr (n:=(k:Int)+1) (by omega) (by omega);have hlk:=wr (n:=(l:Int)+k) (by omega) (by omega);have hw1:=wr (n:=(w:Int)-1) (by omega) (by omega);have hw2:=wr (n:=(w:Int)-1-k) (by omega) (by omega);have hsub:(w:Int)-1-k=((w-1-k:Nat):Int):=(by omega);rw[hsub]at hw2;have hmin:min (w-1-k) 64=w-1-k:=(by omega);have hand:=qm4 val (w-1-k) (by omega);have hneg:¬((w-1-k:Nat):Int)<0:=(by omega);unfold jU at hsucc;rw[hnn]at hsucc;simp only at hsucc;generalize hm:w-1-k=m at *;by_cases hlv:n.1=l+k
   . have hlv':(n.1:Int)=(l:Int)+k:=(by omega);rw[if_pos hlv]at hsucc
     cases hbit:val.testBit m with
     | true=>
      rw[hbit,if_pos rfl]at hsucc;rw[hbit]at hand;simp[-qu,Wi,YA,Jh,qhU,Wj,e0,e1,e2,e3,e9,e21,e22,hk',qa hS1,hS1,hnn,hl,hlk,hlv',hw1,hsub,hw2,hmin,IntKind.bits,hand,hneg,hwk];exact hR _ _ ⟨by simp[e0],by simp[hsucc],by simp[e2],by simp[e3],by simp[e9],by simp[e21],by simp,hkp.trans qDj⟩
     | false=>
      rw[hbit,if_neg (by simp)]at hsucc;rw[hbit]at hand;simp[-qu,Wi,YA,Jh,qhU,Wj,e0,e1,e2,e3,e9,e21,e22,hk',qa hS1,hS1,hnn,hl,hlk,hlv',hw1,hsub,hw2,hmin,IntKind.bits,hand,hneg,hwk];exact hR _ _ ⟨by simp[e0],by simp[hsucc],by simp[e2],by simp[e3],by simp[e9],by simp[e21],by simp,hkp.trans qDj⟩
   have hlv':¬(n.1:Int)=(l:Int)+k:=(by omega);rw[if_neg hlv]at hsucc;simp[-qu,Wi,YA,Jh,qhU,e0,e1,e2,e3,e9,e21,e22,hk',qa hS1,hS1,hnn,hl,hlk,hlv',hwk];exact hR _ _ ⟨by simp[e0],by simp[e1,hsucc],by simp[e2],by simp[e3],by simp[e9],by simp[e21],by simp,hkp.trans qDj⟩
 rintro ev ⟨H1,T1⟩ ⟨e0,e1,e2,e3,e9,e21,e22,hkp⟩;simp[e1,e21,e22];exact hkp
def qgE(m:AV)(fx:Nat->Option Nat)(H:List Blk):Prop :=
 (m=.nilm/\∀i,fx i=none)\/∃F es n,m=.map F/\H[F]?=some (.map es n)/\∀i:Nat,match fx i with
   |none=>jz (.int .i64 (i:Int)) es 0=some none
   |some x=>∃j,jz (.int .i64 (i:Int)) es 0=some (some (j,.int .i64 (x:Int)))
def qgE.keep{m fx H H' bs}(h:qgE m fx H)(hk:KpL bs H H')(hb:∀F,m=.map F->F∉bs):qgE m fx H':=by
 rcases h with h|⟨F,es,n,rfl,hF,h⟩
 . exact .inl h
 exact .inr ⟨F,es,n,rfl,hk.2 _ _ hF (hb F rfl),h⟩
def qgE.look{m fx H}(h:qgE m fx H)(i:Nat)(T):zl (Dof prog) ⟨H,T⟩ 125 m (.int .i64 (i:Int)) true=some (match fx i with|none=>.tup [.int .i64 0,.bool false]|some x=>.tup [.int .i64 (x:Int),.bool true]):=by
 rcases h with⟨rfl,h⟩|⟨F,es,n,rfl,hF,h⟩
 . rw[h i];simp[zl,zt,jz,qad]
 have:=h i
 cases hx:fx i with
 |none=>rw[hx]at this;simp[zl,zt,hF,this,qad]
 | some x=>
  rw[hx]at this;obtain⟨j,hj⟩:=this;simp[zl,zt,hF,hj]
def zD(n:Nat):List AV:=[.int .i64 (n:Int)]
def qj3(r:AV)(vals:List Nat)(H:List Blk)(n:Nat):Prop:=r=.sl 1 (vals.map zD) .tight\/∃N,r=.ms N 0 vals.length 1/\n<=N/\H[N]?=some (.cells (qr vals))
def vo(w:Nat)(o:Option Nat):List Nat:=match o with
 |none=>List.range (2^w)
 |some x=>[x]
def qxP(vals:List Nat)(H:List Blk)(r:AV)(U':St):Prop:=KpL [] H U'.H/\qj3 r vals U'.H H.length
def qao{s:Spc}{H}(h:SpOk s H){m fx}(hf:qgE m fx H){i:Nat}{v:Var}(hv:s.p.vars[i]?=some v)(hw:0<=v.width/\v.width<=8)(T):
 qf prog GG 134 [.ptr s.S 0,.int .i64 i,m] ⟨H,T⟩ (qxP (vo v.width.toNat (fx i)) H):=by
 refine qCN qe func134 rfl (by kernel_rfl) ?_;have hS:=h.c;have hlk:=hf.look i T;simp only[spE,qA,qy3,qy2]at hS
 cases hfx:fx i with
 | some x=>
  rw[hfx]at hlk;simp[hlk,qj,qs];exact⟨qDh,.inl rfl⟩
 | none=>
  rw[hfx]at hlk;have hs1:=vy hw.1 (by omega);have hp8:2^v.width.toNat<=2^8:=qzc (by omega) (by omega);have hp0:0<2^v.width.toNat:=qAi _;have hvs:vo v.width.toNat none=List.range (2^v.width.toNat):=rfl;rw[hvs];obtain⟨N,hN⟩:∃N,N=2^v.width.toNat:=⟨_,rfl⟩;rw[<- hN]at hs1 hp8 hp0⊢;simp[hlk,hS,hv,show ¬v.width<0 by omega,IntKind.bits,hs1,qz,show N≠0 by omega,show(N:Int)<=549755813888 by omega];rw[show List.replicate N (AV.int .i64 0)=qr (List.replicate N 0) by simp[qr]];refine yF N (fun k ev U=>ev 9=.ms H.length 0 N 1/\ev 32=.int .i64 (N:Int)/\ev 33=.int .i64 (k:Int)/\KpL [] H U.H/\∃W,W.length=N/\U.H[H.length]?=some (.cells (qr W))/\∀j,j<k->W[j]?=some j) ?_ ?_ ?_
  . exact⟨by simp,by simp,by simp,qDj,List.replicate N 0,by simp,lk0,fun j hj=>absurd hj (by omega)⟩
  . rintro k ev ⟨H1,T1⟩ R hR hk ⟨e9,e32,e33,hkp,W,hWl,bW,hWj⟩;have hk1:k+1<=N:=hk;have hwk:=wr (n:=(k:Int)+1) (by omega) (by omega);have hl1:=(qyF.1 bW).1;simp[e9,e32,e33,show(k:Int)<N by omega,hk1,bW,hWl,yR,hwk];refine hR _ _ ⟨by simp[e9],by simp[e32],by simp,hkp.setF (qyQ _),W.set k k,by simp[hWl],qyL hl1,fun j hj=>?_⟩;by_cases hjk:j=k
    . subst hjk;rw[qyL (by omega)]
    rw[qyI (Ne.symm hjk)];exact hWj j (by omega)
  rintro ev ⟨H1,T1⟩ ⟨e9,e32,e33,hkp,W,hWl,bW,hWj⟩;have hWr:W=List.range N:=by
   apply qzC;intro j;by_cases hj:j<N
   . rw[hWj j hj,qBr hj]
   rw[qy6 (by omega),qy6 (by simp;omega)]
  rw[hWr]at bW;simp[e9,e32,e33];exact⟨hkp,.inr ⟨H.length,by simp,qyQ _,bW⟩⟩
def jp(p:Problem)(i:Nat):Nat:=(zE p.vars i).toNat
def ZD(lv:List Int)(i:Nat):Nat:=(lv.getD i 0).toNat
def wtP(p:Problem)(i v:Nat):Nat:=wtO ((jd p.vars.length p.dists).getD i none) (v:Int)
def qdt(p i v):wtP p i v<=lim:=qrF _ _
def V5(p:Problem)(lv:List Int)(d:List Nd)(fx:Nat->Option Nat):List Nat->Nat->Nat
 |[],node=>if node=0 then 0 else 1
 |i::r,node=>if node=0 then 0 else(vo (jp p i) (fx i)).foldl (fun s v=>sat (s+sat (wtP p i v*V5 p lv d fx r (wV d (ZD lv i) (jp p i) v node (jp p i))))) 0
def yt{α:Type}(f:α->Nat):∀(l:List α) (s:Nat),s<=lim->l.foldl (fun s v=>sat (s+f v)) s<=lim
 |[],s,h=>h
 |a::r,s,h=>yt f r _ (Yg _)
def qoW(p lv d fx g node):V5 p lv d fx g node<=lim:=by
 cases g with
 |nil=>unfold V5 lim;split<;>omega
 | cons i r=>
  unfold V5;split
  . exact qAA _
  exact yt _ _ _ (qAA _)
abbrev Pt:=(Nat×Nat)×Nat×Nat
def ptE(q:Pt):AV×AV×Nat:=(.agg [.int .i64 (q.1.1:Int),.int .i64 (q.1.2:Int)],.int .i64 (q.2.1:Int),q.2.2)
def qcF{x}:∀(E:List Pt) (k),(jz (.agg [.int .i64 (x.1:Int),.int .i64 (x.2:Int)]) (E.map ptE) k=some none/\∀q∈E,q.1≠x)\/∃j q,E[j]?=some q/\q.1=x/\jz (.agg [.int .i64 (x.1:Int),.int .i64 (x.2:Int)]) (E.map ptE) k=some (some (k+j,.int .i64 (q.2.1:Int)))
 |[],k=>.inl ⟨rfl,by simp⟩
 | e::E,k=>by
  have hk:Qj (.agg [.int .i64 (x.1:Int),.int .i64 (x.2:Int)]) (.agg [.int .i64 (e.1.1:Int),.int .i64 (e.1.2:Int)])=some (decide (x=e.1)):=by
   obtain⟨a,b⟩:=x;obtain⟨⟨c,d⟩,r⟩:=e;simp only[Qj,zY,kc,if_true];congr 1;rw[qzz];simp;omega
  by_cases h:x=e.1
  . right;have hd:decide (x=e.1)=true:=(by simpa using h);rw[hd]at hk;exact⟨0,e,rfl,h.symm,by simp[jz,ptE,hk]⟩
  have hd:decide (x=e.1)=false:=by simpa using h
  rw[hd]at hk;rcases qcF (x:=x) E (k+1) with⟨h1,h2⟩|⟨j,q,h1,h2,h3⟩
  . left;refine⟨by simp only[qyR,ptE,jz,hk];exact h1,fun q hq=>?_⟩;rcases qy9.1 hq with rfl|hq
    . exact fun e=>h e.symm
    exact h2 q hq
  right;refine⟨j+1,q,by simpa using h1,h2,?_⟩;simp only[qyR,ptE,jz,hk];have:k+(j+1)=k+1+j:=by omega
  rw[this];exact h3
def qsX(a b):zt (Dof prog) 147 (.agg [.int .i64 a,.int .i64 b])=true:=by
 simp[zt,Y1,yM,qP,zR,qAc]
def qne(p:Problem)(lv:List Int)(d:List Nd)(fx:Nat->Option Nat)(g:List Nat)(K:Nat)(H:List Blk):Prop:=∃(E:List Pt) (n:Nat),H[K]?=some (.map (E.map ptE) n)/\∀q∈E,q.2.1=V5 p lv d fx (g.drop q.1.1) q.1.2
def qj3.len{r vals H n}(h:qj3 r vals H n)(U):JO (Dof prog) U 35 r=some (.int .i64 (vals.length:Nat)):=by
 rcases h with rfl|⟨N,rfl,_⟩<;>simp
def qj3.at{r}{vals:List Nat}{H}{n:Nat}(h:qj3 r vals H n){j x:Nat}(hj:vals[j]?=some x):∃a,zr (Dof prog) 35 r (.int .i64 (j:Int))=some a/\∀T,yQ (Dof prog) ⟨H,T⟩ 3 a=some (.int .i64 (x:Int)):=by
 have hl:=(qyF.1 hj).1;rcases h with rfl|⟨N,rfl,_,hN⟩
 . exact⟨.rptr [.int .i64 (x:Int)],by simp[hj,zD],fun T=>by simp⟩
 have hl':(j:Int)<vals.length:=by omega
 have hl1:j+1<=vals.length:=hl;exact⟨.ptr N j,by simp[hl'],fun T=>by simp[hN,hl1,zO hj]⟩
def qj3.keep{r vals H H' n K}(h:qj3 r vals H n)(hk:KpL [K] H H')(hK:K<n):qj3 r vals H' n:=by
 rcases h with h|⟨N,h1,h2,h3⟩
 . exact .inl h
 exact .inr ⟨N,h1,h2,hk.2 _ _ h3 (by simp;omega)⟩
def qrB(s:Spc)(g:List Nat):Prop:=∀i∈g,∃(v:Var) (l:Nat),s.p.vars[i]?=some v/\0<=v.width/\v.width<=8/\s.lv[i]?=some (l:Int)/\l<=20/\∀w,(jd s.p.vars.length s.p.dists)[i]?=some (some w)->w≠[]/\w.length<=1000
def qu0(s:Spc)(d:List Nd)(fx:Nat->Option Nat)(g:List Nat)(K at_ node:Nat)(H:List Blk)(r:AV)(U':St):Prop :=
 r=.int .i64 (V5 s.p s.lv d fx (g.drop at_) node:Nat)/\KpL [K] H U'.H/\qne s.p s.lv d fx g K U'.H
def qd5:List (Nat×Sch×List Nat):=[(13,.step 0 [15,14] (.step 1 [15,14] (.step 2 [15,14] (.step 3 [15,14] (.step 4 [15,14,13,6,5] (.step 7 [15,14,13,12] (.step 8 [15,14,13,12,9] (.step 9 [15,14,13,12] (.step 10 [15,14,13,12] (.step 11 [15,14,13,12] (.fork (.cons 5 (.step 6 [15,14,13] (.step 12 [15,14,13] (.step 13 [15,14] (.step 14 [15] (.step 15 [] (.done)))))) (.cons 12 (.step 5 [15,14,13,6] (.step 6 [15,14,13] (.step 13 [15,14] (.step 14 [15] (.step 15 [] (.done)))))) (.nil))))))))))))),[12,14])]
def qhh{s d tok}(hd:DagOk d)(hdv:s.dv=.sl 3 (d.map qw) tok){fx}(hfx:∀i x,fx i=some x->x<65536){m g}(hg:qrB s g)(hgl:g.length<=1000){K}(hSK:s.S≠K)(hLK:s.L≠K)(hLLK:s.LL≠K)(hmK:∀F,m=.map F->F≠K):
 ∀ (k at_),at_+k=g.length->∀(node) (H) (T),node<d.length->SpOk s H->qgE m fx H->qne s.p s.lv d fx g K H ->
  qf prog GG 89 [.ptr s.S 0,.sl 1 (g.map zD) .none,m,.map K,.agg [.int .i64 at_,.int .i64 node]] ⟨H,T⟩ (qu0 s d fx g K at_ node H):=by
 intro k
 induction k with
 | zero=>
  intro at_ hat node H T hn hs hf hmem;refine qCM ⟨false,qd5,[],[]⟩ qe func89 rfl (by kernel_rfl) ?_;have hat':(at_:Int)=g.length:=by omega
  obtain⟨E,n,hE,hEv⟩:=hmem;have fin:∀u,qu0 s d fx g K at_ node H (.int .i64 (if node=0 then 0 else 1:Nat)) ⟨H++u,T⟩:=fun u=>⟨by rw[show g.drop at_=[] from qzf (by omega)];rfl,qDj,E,n,qa hE _,hEv⟩
  by_cases hn0:node=0
  . subst hn0;simp;exact fin _
  have hn0':¬(node:Int)=0:=by omega
  rw[if_neg hn0]at fin;simp[hn0,hat'];exact fin _
 | succ k ih=>
  intro at_ hat node H T hn hs hf hmem;refine qCM ⟨false,qd5,[],[]⟩ qe func89 rfl (by kernel_rfl) ?_;obtain⟨i,hi⟩:∃i,g[at_]?=some i:=⟨_,qyH (by omega)⟩;obtain⟨v,l,hv,hw0,hw8,hl,hl20,hwn⟩:=hg i (qyG hi);have hdr:g.drop at_=i::g.drop (at_+1):=by
   obtain⟨h1,h2⟩:=qyF.1 hi;rw[qy1 h1,h2]
  have hat':¬(at_:Int)=g.length:=by omega
  obtain⟨E,n,hE,hEv⟩:=hmem;have hKl:=(qyF.1 hE).1;by_cases hn0:node=0
  . subst hn0;have fin:∀u,qu0 s d fx g K at_ 0 H (.int .i64 0) ⟨H++u,T⟩:=fun u=>⟨by rw[hdr];rfl,qDj,E,n,qa hE _,hEv⟩
    simp;exact fin _
  have hfit:=qsX at_ node;rcases qcF (x:=(at_,node)) E 0 with⟨hfind,hno⟩|⟨j,q,hj1,hj2,hfind⟩
  case inr=>
   have hqv:=hEv q (qyG hj1);rw[hj2]at hqv;have fin:∀u,qu0 s d fx g K at_ node H (.int .i64 (q.2.1:Nat)) ⟨H++u,T⟩:=fun u=>⟨by rw[hqv],qDj,E,n,qa hE _,hEv⟩
   have hlk:∀(u:List Blk) (T:List (Option Nat)),zl (Dof prog) ⟨H++u,T⟩ 145 (.map K) (.agg [.int .i64 at_,.int .i64 node]) true=some (.tup [.int .i64 (q.2.1:Int),.bool true]):=fun u T=>by
    simp only[zl,qu5,hfit,if_true];simp[qa hE,hfind]
   simp[hn0,hat',hlk];exact fin _
  have hlk:∀(u:List Blk) (T:List (Option Nat)),zl (Dof prog) ⟨H++u,T⟩ 145 (.map K) (.agg [.int .i64 at_,.int .i64 node]) true=some (.tup [.int .i64 0,.bool false]):=fun u T=>by
   simp only[zl,qu5,hfit,if_true];simp[qa hE,hfind,qad]
  have hs0:=hs.keep (H':=H++[.cells [.int .i64 at_,.int .i64 node]]) (bs:=[]) qDj (by simp) (by simp) (by simp);have hf0:=hf.keep (H':=H++[.cells [.int .i64 at_,.int .i64 node]]) (bs:=[]) qDj (by simp);have hval:=qao hs0 hf0 hv ⟨hw0,hw8⟩ T;obtain⟨vals,hvals⟩:∃vals,vals=vo v.width.toNat (fx i):=⟨_,rfl⟩;rw[<- hvals]at hval;have hvb:∀x∈vals,x<65536:=fun x hx=>by
   rw[hvals]at hx
   cases hfi:fx i with
   | none=>
    rw[hfi]at hx;have:=qzP.1 hx;have:2^v.width.toNat<=2^8:=qzc (by omega) (by omega);omega
   | some y=>
    rw[hfi]at hx;have:x=y:=by simpa[vo] using hx
    rw[this];exact hfx i y hfi
  have hvl:vals.length<=256:=by
   rw[hvals]
   cases hfi:fx i with
   |none=>simp only[vo,qB5];exact qzs (qzc (by omega) (show v.width.toNat<=8 by omega)) (by decide)
   |some y=>simp[vo]
  have hsum:V5 s.p s.lv d fx (g.drop at_) node=vals.foldl (fun a x=>sat (a+sat (wtP s.p i x*V5 s.p s.lv d fx (g.drop (at_+1)) (wV d l v.width.toNat x node v.width.toNat)))) 0:=by
   rw[hdr,hvals];simp only[V5,if_neg hn0,show jp s.p i=v.width.toNat by simp[jp,zE,hv],show ZD s.lv i=l by simp[ZD,qyS,hl]]
  obtain⟨f,hff⟩:∃f:Nat->Nat,∀x,f x=sat (wtP s.p i x*V5 s.p s.lv d fx (g.drop (at_+1)) (wV d l v.width.toNat x node v.width.toNat)):=⟨_,fun _=>rfl⟩;have hfle:∀x,f x<=lim:=fun x=>by rw[hff];exact Yg _
  simp only[<- hff]at hsum;simp[hn0,hat',hlk,hi,zD];refine qCQ hval ?_;rintro r ⟨H1,T1⟩ ⟨hk1,hrow⟩;have hlen:=hrow.len;have hrow:qj3 r vals H1 H.length:=hrow.imp id fun⟨N,h1,h2,h3⟩=>⟨N,h1,by simp at h2;omega,h3⟩
  simp[-JO,hlen];refine qC2 vals (fun dn ev U=>ev 0=.ptr s.S 0/\ev 1=.sl 1 (g.map zD) .none/\ev 2=m/\ev 3=.map K/\ev 9=.ptr H.length 0/\ev 13=.int .i64 (dn.foldl (fun a x=>sat (a+f x)) 0:Nat)/\ev 14=.int .i64 (i:Int)/\ev 44=r/\ev 45=.int .i64 vals.length/\ev 46=.int .i64 dn.length/\KpL [K] H U.H/\qne s.p s.lv d fx g K U.H/\qj3 r vals U.H H.length/\U.H[H.length]?=some (.cells [.int .i64 at_,.int .i64 node])) ?_ ?_ ?_
  . exact⟨by simp,by simp,by simp,by simp,by simp,by simp,by simp,by simp,by simp,by simp,((qDj.trans hk1).sub (by simp)),(⟨E,n,hk1.2 _ _ (qa hE _) (by simp),hEv⟩),hrow,(hk1.2 _ _ lk0 (by simp))⟩
  . rintro dn x rest ev ⟨H2,T2⟩ R hR hdl hx hlt ⟨e0,e1,e2,e3,e9,e13,e14,e44,e45,e46,hkp,hme,hro,bX2⟩;obtain⟨a,ha1,ha2⟩:=hro.at hx;have hdw:=wr (n:=(dn.length:Int)+1) (by omega) (by omega);have hxb:=hvb x (qyG hx);have hs2:=hs.keep hkp (by simpa using hSK) (by simpa using hLK) (by simpa using hLLK);have hf2:=hf.keep hkp (fun F hF=>by simpa using hmK F hF);have hatw:=wr (n:=(at_:Int)+1) (by omega) (by omega);have hdes:=WD hs2 hd hdv hv hl ⟨hw0,hw8⟩ hl20 hn (val:=x) (by omega) T2;have hnl:=JW hd hn l v.width.toNat x v.width.toNat;have hffx:=hff x;have hfx1:=hfle x;generalize hnd:wV d l v.width.toNat x node v.width.toNat=nd at *;simp[-zr,-yQ,e44,e45,e46,show(dn.length:Int)<vals.length by omega,ha1,ha2];rw[qJ rfl];simp[qX,e0,e1,e2,e3,e9,e14,bX2,hatw];refine⟨qCQ hdes ?_,qCQ hdes ?_⟩
    all_goals
     rintro w ⟨H3,T3⟩ ⟨rfl,hk3⟩;have hk3':KpL [K] H2 H3:=hk3.sub (by simp);have bX3:=hk3.2 _ _ bX2 (by simp);have hs3:=hs2.keep hk3' (by simpa using hSK) (by simpa using hLK) (by simpa using hLLK);have hf3:=hf2.keep hk3' (fun F hF=>by simpa using hmK F hF);have hme3:qne s.p s.lv d fx g K H3:=by
      obtain⟨E3,n3,h1,h2⟩:=hme;exact⟨E3,n3,hk3.2 _ _ h1 (by simp),h2⟩
     have hih:=ih (at_+1) (by omega) nd H3 T3 hnl hs3 hf3 hme3;simp only[qCk,qCl]at hih;simp[qX,bX3,hatw,zp,zS,qG];refine qCQ hih ?_;rintro w ⟨H4,T4⟩ ⟨rfl,hk4,hme4⟩;have hs4:=hs3.keep hk4 (by simpa using hSK) (by simpa using hLK) (by simpa using hLLK);have bX4:=hk4.2 _ _ bX3 (by simp;omega);have hS4:=hs4.c;simp only[spE,qA,qy3,qy2]at hS4;obtain⟨o,ho⟩:∃o,(jd s.p.vars.length s.p.dists)[i]?=some o:=⟨_,qyH (by rw[yq];exact(qyF.1 hv).1)⟩;have hweigh:=WL s.p hs4.w ho (fun w hw=>hwn w (by rw[ho,hw])) (x:Int) T4;rw[<- show wtP s.p i x=wtO o (x:Int) by simp[wtP,qyS,ho]]at hweigh;have hwle:=qdt s.p i x;have hsle:=qoW s.p s.lv d fx (g.drop (at_+1)) nd;generalize V5 s.p s.lv d fx (g.drop (at_+1)) nd=sd at *;generalize wtP s.p i x=wx at *;have hacc:dn.foldl (fun a x=>sat (a+f x)) 0<=lim:=yt f dn 0 (qAA _);have hsnoc:(dn++[x]).foldl (fun a x=>sat (a+f x)) 0=sat (dn.foldl (fun a x=>sat (a+f x)) 0+f x):=(by rw[qz5];rfl);generalize dn.foldl (fun a x=>sat (a+f x)) 0=acc at *;have ht:=WU wx sd hwle hsle;rw[<- hffx]at ht;have hp:=qhL acc (f x) hacc hfx1;simp[qX,e0,e13,e14,hS4];refine qCQ hweigh ?_;rintro w U ⟨rfl,rfl⟩;simp;refine qCO ht rfl ?_;simp;refine qCO hp rfl ?_;simp[e46,hdw];exact hR _ _ ⟨by simp[e0],by simp[e1],by simp[e2],by simp[e3],by simp[e9],by simp[hsnoc],by simp[e14],by simp[e44],by simp[e45],by simp,(hkp.trans hk3').trans hk4,hme4,(hro.keep hk3' hKl).keep hk4 hKl,bX4⟩
  rintro ev ⟨H2,T2⟩ ⟨e0,e1,e2,e3,e9,e13,e14,e44,e45,e46,hkp,hme,hro,bX2⟩;rw[<- hsum]at e13;obtain⟨E2,n2,hE2,hEv2⟩:=hme;have hK2:=(qyF.1 hE2).1;generalize hsd:V5 s.p s.lv d fx (g.drop at_) node=sd at *;obtain⟨E3,n3,hup,hEv3⟩:∃(E3:List Pt) (n3:Nat),q9 (Dof prog) ⟨H2,T2⟩ 145 (.map K) (.agg [.int .i64 at_,.int .i64 node]) (.int .i64 (sd:Nat))=some ⟨H2.set K (.map (E3.map ptE) n3),T2⟩/\∀q∈E3,q.2.1=V5 s.p s.lv d fx (g.drop q.1.1) q.1.2:=by
   rcases qcF (x:=(at_,node)) E2 0 with⟨hfind,_⟩|⟨j,q,hj1,hj2,hfind⟩
   . refine⟨E2++[((at_,node),sd,n2)],n2+1,?_,fun q hq=>?_⟩
     . simp only[q9,qu5,hfit,if_true];simp[hE2,hfind,ptE]
     . rcases qy0.1 hq with hq|hq
       . exact hEv2 q hq
       . rw[qzh]at hq;rw[hq];exact hsd.symm
   refine⟨E2.modify j fun q=>((at_,node),sd,q.2.2),n2,?_,fun q hq=>?_⟩
   . simp only[q9,qu5,hfit,if_true];simp[hE2,hfind];congr 2;apply qzC;intro k;simp only[qAC,qy7];by_cases hkj:j=k
     . subst hkj;cases E2[j]?<;>simp[ptE]
     cases E2[k]?<;>simp[hkj]
   obtain⟨k,hk⟩:=qzq hq;rw[qAC]at hk;by_cases hkj:j=k
   . subst hkj;rw[hj1]at hk;simp at hk;rw[<- hk];exact hsd.symm
   cases he:E2[k]? with
   |none=>rw[he]at hk;simp at hk
   | some y=>
    rw[he]at hk;simp[hkj]at hk;rw[<- hk];exact hEv2 y (qyG he)
  simp[e3,e9,e13,e45,e46,bX2,hup];exact⟨by rw[hsd],hkp.trans (qDk (by simp)),E3,n3,qyL hK2,hEv3⟩
def eqE(s:Str)(n:Int):Ex:=.mk 15 0 [] [wY s,jL n]
def qcH(s n):pre (eqE s n)=[eqE s n,wY s,jL n]:=by
 rw[ju];show eqE s n::kK [wY s,jL n]=_;rw[ya,qd0,ya,QZ];rfl
def qn5{s}(hs:kq s=true){n}(h0:0<=n)(h1:n<=65535):EOk s 2 3 (eqE s n):=by
 refine⟨fun x hx=>?_,?_,by rw[qcH];simp⟩
 . rw[qcH]at hx;simp only[qy9,qAd,or_false]at hx;rcases hx with rfl|rfl|rfl
   . exact⟨by simp[qp,eqE,qi,zm,Ex.op,Ex.n,Ex.name,Ex.args],by simp[eqE,Ex.op],by simp[eqE,Ex.op],by simp[eqE,Ex.op]⟩
   . exact⟨qgW hs,by simp[wY,Ex.op],by simp[wY,Ex.op],fun _=>rfl⟩
   exact⟨Vf h0 h1,by simp[jL,Ex.op],by simp[jL,Ex.op],by simp[jL,Ex.op]⟩
 rw[kR];simp[eqE,wY,jL,kR]
def qeN{p:Problem}(h:VQ p)(hv:qk p=0){i:Nat}{v:Var}(hi:p.vars[i]?=some v){n:Int}(h0:0<=n)(h1:n<=65535):zi p.vars (eqE v.name n)=0/\J1 (eqE v.name n):=by
 have hm:=qyG hi;have hve:=zc (ji hv v hm);have ho:=qn5 hve.1 h0 h1;exact⟨ho.valid (by omega) (by omega) (by unfold vK;rw[qy8];exact⟨v,hm,by simp⟩),ho.tame (h.names v hm) (by omega) (by omega)⟩
def qbL{s:Spc}{H}(h:SpOk s H){i:Nat}{v:Var}(hv:s.p.vars[i]?=some v)(n:Int)(T:List (Option Nat)):
 qf prog GG 91 [.ptr s.S 0,.int .i64 i,.int .i64 n] ⟨H,T⟩ (fun r U'=>r=.agg (qt (eqE v.name n))/\KpL [] H U'.H):=by
 refine qf.up (qCN qe func91 rfl (by kernel_rfl) ?_);have hS:=h.c;simp only[spE,qA,qy3,qy2]at hS;simp[qa hS,hv,zp,zS,qG,qj,qs];refine⟨_,?_,rfl,qDj⟩;simp[eqE,qd,wY,jL,Leq,zq,yj]
def qjs(R tok)(h:R≠[]\/tok.known=true):Pure prog GG 90 [.sl 4 (R.map qt) tok] (.sl 4 (R.map qt) .tight):=by
 refine qCK o0 true qe func90 rfl (by kernel_rfl) ?_;have hs:=qio (en:=qt) (sz:=4) (R:=R) (tok:=tok) (n:=(R.length:Int)) rfl h;simp[hs];rw[qS (by simp)];exact⟨by simp,qCT _⟩
def V9(vs:List Var):List (Str×AV×Nat):=vs.zipIdx.map fun q=>(q.1.name,.bool true,q.2)
def qh3{vs:List Var}{i}{v:Var}(hv:vs[i]?=some v):V9 (vs.take (i+1))=V9 (vs.take i)++[(v.name,.bool true,i)]:=by
 have hl:=(qyF.1 hv).1;unfold V9;rw[qzb,hv];simp[qBB,qAb (qCe hl)]
def qh4{vs:List Var}{j:Nat}{q:Str×AV×Nat}(h:(V9 vs)[j]?=some q):∃v,vs[j]?=some v/\q=(v.name,.bool true,j):=by
 unfold V9 at h;rw[qy7,qA7]at h
 cases hv:vs[j]? with
 |none=>rw[hv]at h;simp at h
 |some v=>rw[hv]at h;simp at h;exact⟨v,rfl,h.symm⟩
def qpH{vs:List Var}(hn:(vs.map (·.name)).Nodup){i}{v:Var}(hv:vs[i]?=some v)(k):jz (.str v.name) ((V9 (vs.take i)).map Jd) k=some none:=by
 have hl:=(qyF.1 hv).1;rcases QQ (s:=v.name) (V9 (vs.take i)) k with⟨h1,_⟩|⟨j,q,h1,h2,_⟩
 . exact h1
 exfalso;obtain⟨w,hw,rfl⟩:=qh4 h1;rw[qzD]at hw;split at hw
 . rename_i hj;obtain⟨hj1,hj2⟩:=qyF.1 hw;obtain⟨_,hi2⟩:=qyF.1 hv;have hp:=qAM.1 hn;have h2:w.name=v.name:=h2;exact hp j i (by simpa using hj1) (by simpa using hl) hj (by rw[qAe,qAe,hj2,hi2,h2])
 cases hw
def qpG{vs v}(hv:v∈vs)(k):∃j,jz (.str v.name) ((V9 vs).map Jd) k=some (some (j,.bool true)):=by
 rcases QQ (s:=v.name) (V9 vs) k with⟨_,h2⟩|⟨j,q,h1,h2,h3⟩
 . exfalso;obtain⟨i,hi⟩:=qzq hv;have hm:(v.name,AV.bool true,i)∈V9 vs:=qza.2 ⟨(v,i),qyG (i:=i) (by rw[qA7,hi];simp),rfl⟩;exact h2 _ hm rfl
 obtain⟨w,_,rfl⟩:=qh4 h1;exact⟨k+j,h3⟩
def YM{vs e}(hk:zi vs e=0)(ht:J1 e):ze e=0/\zH [3,24] e=[]/\(∀s∈zH [2] e,∃v∈vs,v.name=s)/\(zH [2] e).length<=100000:=by
 have he:ze e=0/\Jq e=false/\QD vs e=false:=by
  unfold zi at hk;split at hk
  . rename_i h;exact absurd hk h
  rename_i h;split at hk
  . cases hk
  split at hk
  . cases hk
  rename_i h2 h3;exact⟨qzB.1 h,by simpa using h2,by simpa using h3⟩
 refine⟨he.1,?_,fun s hs=>?_,YG ht.2.2⟩
 . have:=Qe (e:=e);rw[he.2.1]at this
   cases hl:zH [3,24] e with
   |nil=>rfl
   |cons a r=>rw[hl]at this;simp at this
 have:=v8 (l:=vs) (e:=e);rw[he.2.2,qAg]at this;have h1:=this s hs;simp only[qz4,Bool.not_eq_false,vK,qy8]at h1;obtain⟨v,hv,hvn⟩:=h1;exact⟨v,hv,by simpa using hvn⟩
def qmP(p)(h:VQ p)(hv:qk p=0)(l:List Ex)(hf:l.length<=1000000)(hx:∀e∈l,zi p.vars e=0/\J1 e):Pure prog GG 196 [.agg (qA p),.sl 4 (l.map qt) .none] (.int .i64 0):=by
 refine qCL qe func196 rfl (by kernel_rfl) ?_;have hval:=yw p h;rw[hv]at hval;have hnd:=ym hv;have hvl:=h.vars;simp only[qA]at hval;simp;refine qCO hval (by simp) ?_;simp;refine qC2 l (fun d ev U=>ev 1=.sl 4 (l.map qt) .none/\ev 2=.ptr 0 0/\ev 17=.sl 4 (l.map qt) .none/\ev 18=.int .i64 l.length/\ev 19=.int .i64 d.length/\∃u T,U=⟨.cells (qA p)::u,T⟩) ?_ ?_ ?_
 . exact⟨by simp,by simp,by simp,by simp,by simp,_,_,rfl⟩
 . rintro d e rest ev U R hR hd hxe hlt ⟨e1,e2,e17,e18,e19,u,T,rfl⟩;have hdw:=wr (n:=(d.length:Int)+1) (by omega) (by omega);have hlt':(d.length:Int)<l.length:=(by omega);obtain⟨hk,ht⟩:=hx e (qyG hxe);have hev:=Ya e ht.1 (by have:=ht.2.1;omega);rw[(YM hk ht).1]at hev;have henc:=qd e;rw[henc]at hev;simp[e17,e18,e19,hlt',hxe,henc];refine qCO hev (by simp) ?_;simp[e19,hdw];exact hR _ _ ⟨by simp[e1],by simp[e2],by simp[e17],by simp[e18],by simp,_,_,rfl⟩
 rintro ev U ⟨e1,e2,e17,e18,e19,u,T,rfl⟩;simp[e2,e18,e19];refine qC2 p.vars (fun d ev U=>ev 1=.sl 4 (l.map qt) .none/\ev 7=.map (u.length+1)/\ev 29=.sl 4 (p.vars.map qD) .none/\ev 30=.int .i64 p.vars.length/\ev 31=.int .i64 d.length/\U.H[u.length+1]?=some (.map ((V9 (p.vars.take d.length)).map Jd) d.length)) ?_ ?_ ?_
 . exact⟨by simp[e1],by simp,by simp,by simp,by simp,by simp[V9]⟩
 . rintro d v rest ev ⟨H1,T1⟩ R hR hd hxv hlt ⟨e1,e7,e29,e30,e31,bM⟩;have hdw:=wr (n:=(d.length:Int)+1) (by omega) (by omega);have hlt':(d.length:Int)<p.vars.length:=(by omega);have hfn:=qpH hnd hxv 0;have ht1:=qh3 hxv;have hMl:=(qyF.1 bM).1;have hup:∀(w:List Blk) (T:List (Option Nat)),q9 (Dof prog) ⟨H1++w,T⟩ 297 (.map (u.length+1)) (.str v.name) (.bool true)=some ⟨H1.set (u.length+1) (.map ((V9 (p.vars.take (d.length+1))).map Jd) (d.length+1))++w,T⟩:=fun w T=>by
    rw[ht1,qzE];generalize (V9 (p.vars.take d.length)).map Jd=E at *;simp[q9,qa bM,zt,hfn,yO bM,Jd]
   generalize hE2:(V9 (p.vars.take (d.length+1))).map Jd=E2 at *;simp[e7,e29,e30,e31,hlt',hxv,hup,hdw];refine hR _ _ ⟨by simp[e1],by simp[e7],by simp[e29],by simp[e30],by simp,?_⟩;rw[qyK,qzd,hE2];exact qa (qyL hMl) _
 rintro ev ⟨H1,T1⟩ ⟨e1,e7,e29,e30,e31,bM⟩;rw[qAJ]at bM;simp[e1,e30,e31];refine qC2 l (fun d ev U=>ev 7=.map (u.length+1)/\ev 39=.sl 4 (l.map qt) .none/\ev 40=.int .i64 l.length/\ev 41=.int .i64 d.length/\U.H[u.length+1]?=some (.map ((V9 p.vars).map Jd) p.vars.length)) ?_ ?_ ?_
 . exact⟨by simp[e7],by simp,by simp,by simp,bM⟩
 . rintro d e rest ev ⟨H2,T2⟩ R hR hd hxe hlt ⟨e7,e39,e40,e41,bM⟩;have hdw:=wr (n:=(d.length:Int)+1) (by omega) (by omega);obtain⟨hk,ht⟩:=hx e (qyG hxe);obtain⟨_,h0,hall,hfit⟩:=YM hk ht;have ha:=vR e ht.1 ht.2.2;have hna:=Q5 e ht.1 ht.2.2;have henc:=qd e;rw[h0]at ha;rw[henc]at ha hna;generalize zH [2] e=N at *;simp[e39,e40,e41,show(d.length:Int)<l.length by omega,hxe,henc];refine qCO ha (by simp) ?_;simp;refine qCO hna (by simp) ?_;simp;refine qC2 N (fun dn ev U=>ev 7=.map (u.length+1)/\ev 39=.sl 4 (l.map qt) .none/\ev 40=.int .i64 l.length/\ev 41=.int .i64 d.length/\ev 50=.sl 1 (N.map z8) .none/\ev 51=.int .i64 N.length/\ev 52=.int .i64 dn.length/\U.H[u.length+1]?=some (.map ((V9 p.vars).map Jd) p.vars.length)) ?_ ?_ ?_
   . exact⟨by simp[e7],by simp[e39],by simp[e40],by simp[e41],by simp,by simp,by simp,qa bM _⟩
   . rintro dn s rest2 ev ⟨H3,T3⟩ R2 hR2 hd2 hxs hlt2 ⟨e7,e39,e40,e41,e50,e51,e52,bM⟩;have hdw2:=wr (n:=(dn.length:Int)+1) (by omega) (by omega);obtain⟨v,hvm,hvn⟩:=hall s (qyG hxs);obtain⟨j,hj⟩:=qpG hvm 0;rw[hvn]at hj;have hlk:zl (Dof prog) ⟨H3,T3⟩ 297 (.map (u.length+1)) (.str s) false=some (.bool true):=by
      generalize (V9 p.vars).map Jd=E at *;simp[zl,bM,zt,hj]
     simp[e7,e50,e51,e52,show(dn.length:Int)<N.length by omega,hxs,hlk,hdw2];exact hR2 _ _ ⟨by simp[e7],by simp[e39],by simp[e40],by simp[e41],by simp[e50],by simp[e51],by simp,bM⟩
   rintro ev ⟨H3,T3⟩ ⟨e7,e39,e40,e41,e50,e51,e52,bM⟩;simp[e41,e51,e52,hdw];exact hR _ _ ⟨by simp[e7],by simp[e39],by simp[e40],by simp,bM⟩
 rintro ev ⟨H2,T2⟩ ⟨e7,e39,e40,e41,bM⟩;simp[e40,e41]
def Kt(p)(h:VQ p)(hv:qk p=0)(hv20:p.vars.length<=20)(hb:ku p.vars (qB p)<=18)(l)(hf:l.length<=1000000)(hx:∀e∈l,zi p.vars e=0/\J1 e):
 Pure prog GG 136 [.agg (qA p),.sl 4 (l.map qt) .none] (.tup [.bool (jT p.vars l),.int .i64 0]):=by
 refine qCL qe func136 rfl (by kernel_rfl) ?_;have hc:=qmP p h hv l hf hx;have hs:=Qv p l h hv20 hb (by show l.length<_;omega) (fun e he=>(hx e he).2);have hsb:Js p l=jT p.vars l:=by
  have:l.all (vG p.vars)=true:=qyP.2 fun e he=>decide_eq_true (hx e he).1
  unfold Js;rw[this];simp[hv]
 rw[hsb]at hs;simp only[qA]at hc hs;simp;refine qCO hc (by simp) ?_;simp;refine qCO hs (by simp) ?_;simp
def Jz(p:Problem)(i:Nat):Str:=match p.vars[i]? with
 |some v=>v.name
 |none=>[]
noncomputable def qcw(p:Problem)(fx:Nat->Option Nat):List Nat->List Ex->Nat
 |[],R=>if jT p.vars R=true then 1 else 0
 |i::r,R=>if jT p.vars R=true then(vo (jp p i) (fx i)).foldl (fun s v=>sat (s+sat (wtP p i v*qcw p fx r (R++[eqE (Jz p i) (v:Int)])))) 0 else 0
def qoS(p fx g R):qcw p fx g R<=lim:=by
 cases g with
 |nil=>unfold qcw lim;split<;>omega
 | cons i r=>
  unfold qcw;split
  . exact yt _ _ _ (qAA _)
  exact qAA _
def qsf:Tok->Tok
 |.chain .. =>.none
 |t=>t
def qqY(R:List Ex)(tok:Tok):Prop:=R≠[]\/tok=.tight
def qqY.p{R tok}(h:qqY R tok):R≠[]\/(qsf tok).known=true:=h.imp id fun e=>by rw[e];rfl
def qd4:List (Nat×Sch×List Nat):=[(10,.step 0 [10,9,8,7,1] (.step 1 [10,9,8,7] (.step 2 [10,9,8,7] (.step 3 [10,9,8,7,5,4] (.step 4 [10,9,8,7,5] (.step 5 [10,9,8,7] (.step 6 [10,9,8,7] (.step 7 [10,9,8] (.step 8 [10,9] (.step 9 [10] (.step 10 [] (.done))))))))))),[7]),(11,.step 0 [18,17] (.step 1 [18,17,16,15,9,4,3,2] (.step 2 [18,17,16,15,9,4,3] (.step 3 [18,17,16,15,9,4] (.step 4 [18,17,16,15,9] (.step 5 [18,17,16,15,9,7,6] (.step 6 [18,17,16,15,9,7] (.step 7 [18,17,16,15,9] (.step 8 [18,17,16,15,9] (.step 10 [18,17,16,15] (.step 11 [18,17,16,15,12] (.step 12 [18,17,16,15] (.step 13 [18,17,16,15] (.step 14 [18,17,16,15] (.step 9 [18,17,16,15] (.step 15 [18,17,16] (.step 16 [18,17] (.step 17 [18] (.step 18 [] (.done))))))))))))))))))),[9,15])]
def qkH{s}(hvq:VQ s.p)(hvp:qk s.p=0)(hv20:s.p.vars.length<=20)(hb:ku s.p.vars (qB s.p)<=18){fx}(hfx:∀i x,fx i=some x->x<65536){m}:
 ∀ (g) (R) (tok) (H) (T),qrB s g->(∀e∈R,zi s.p.vars e=0/\J1 e)->R.length+g.length<=100000->qqY R tok->SpOk s H->qgE m fx H ->
  qf prog GG 92 [.ptr s.S 0,.sl 1 (g.map zD) .none,m,.sl 4 (R.map qt) tok] ⟨H,T⟩ (fun r U'=>r=.int .i64 (qcw s.p fx g R:Nat)/\KpL [] H U'.H):=by
 intro g
 induction g with
 | nil=>
  intro R tok H T hg hR hlen htok hs hf;refine qCM ⟨false,qd4,[],[]⟩ qe func92 rfl (by kernel_rfl) ?_;have hsv:=Kt s.p hvq hvp hv20 hb R (by omega) hR;have hS:=hs.c;simp only[spE,qA,qy3,qy2]at hS;simp only[qA]at hsv;have hst:qcw s.p fx [] R=if jT s.p.vars R=true then 1 else 0:=rfl
  rw[hst];simp[hS];refine qc.pure hsv (by cases tok<;>simp) (by cases tok<;>simp[zq,Leq,qCV]) ?_
  cases hsol:jT s.p.vars R with
  | false=>
   simp[unA];exact qDh
  | true=>
   simp[unA];exact qDh
 | cons i r ih=>
  intro R tok H T hg hR hlen htok hs hf;refine qCM ⟨false,qd4,[],[]⟩ qe func92 rfl (by kernel_rfl) ?_;have hsv:=Kt s.p hvq hvp hv20 hb R (by omega) hR;have hS:=hs.c;simp only[spE,qA,qy3,qy2]at hS;simp only[qA]at hsv;obtain⟨v,l,hv,hw0,hw8,hl,hl20,hwn⟩:=hg i (by simp);have hval:=qao hs hf hv ⟨hw0,hw8⟩ T;obtain⟨vals,hvals⟩:∃vals,vals=vo v.width.toNat (fx i):=⟨_,rfl⟩;rw[<- hvals]at hval;have hvb:∀x∈vals,x<65536:=fun x hx=>by
   rw[hvals]at hx
   cases hfi:fx i with
   | none=>
    rw[hfi]at hx;have:=qzP.1 hx;have:2^v.width.toNat<=2^8:=qzc (by omega) (by omega);omega
   | some y=>
    rw[hfi]at hx;have:x=y:=by simpa[vo] using hx
    rw[this];exact hfx i y hfi
  have hvl:vals.length<=256:=by
   rw[hvals]
   cases hfi:fx i with
   |none=>simp only[vo,qB5];exact qzs (qzc (by omega) (show v.width.toNat<=8 by omega)) (by decide)
   |some y=>simp[vo]
  have hsum:qcw s.p fx (i::r) R=if jT s.p.vars R=true then vals.foldl (fun a x=>sat (a+sat (wtP s.p i x*qcw s.p fx r (R++[eqE v.name (x:Int)])))) 0 else 0:=by
   rw[hvals,<- show jp s.p i=v.width.toNat by simp[jp,zE,hv],<- show Jz s.p i=v.name by simp[Jz,hv]];rfl
  obtain⟨f,hff⟩:∃f:Nat->Nat,∀x,f x=sat (wtP s.p i x*qcw s.p fx r (R++[eqE v.name (x:Int)])):=⟨_,fun _=>rfl⟩;have hfle:∀x,f x<=lim:=fun x=>by rw[hff];exact Yg _
  simp only[<- hff]at hsum;rw[hsum];simp[hS];refine qc.pure hsv (by cases tok<;>simp) (by cases tok<;>simp[zq,Leq,qCV]) ?_
  cases hsol:jT s.p.vars R with
  | false=>
   simp[unA];exact qDh
  | true=>
   simp[unA,zD,show ¬(r.length:Int)+1=0 by omega];refine qCQ hval ?_;rintro w ⟨H1,T1⟩ ⟨hk1,hrow⟩;have hlenr:=hrow.len;simp[-JO,hlenr];refine qC2 vals (fun dn ev U=>ev 0=.ptr s.S 0/\ev 1=.sl 1 ((i::r).map zD) .none/\ev 2=m/\ev 3=.sl 4 (R.map qt) tok/\ev 11=.int .i64 (dn.foldl (fun a x=>sat (a+f x)) 0:Nat)/\ev 38=w/\ev 39=.int .i64 vals.length/\ev 40=.int .i64 dn.length/\KpL [] H U.H/\qj3 w vals U.H H.length) ?_ ?_ ?_
   . exact⟨by simp,by simp[zD],by simp,by simp,by simp,by simp,by simp,by simp,hk1,hrow⟩
   . rintro dn x rest ev ⟨H2,T2⟩ R2 hR2 hdl hx hlt ⟨e0,e1,e2,e3,e11,e38,e39,e40,hkp,hro⟩;obtain⟨a,ha1,ha2⟩:=hro.at hx;have hdw:=wr (n:=(dn.length:Int)+1) (by omega) (by omega);have hxb:=hvb x (qyG hx);have hs2:=hs.keep hkp (by simp) (by simp) (by simp);have hf2:=hf.keep hkp (by simp);have hcl:=qjs R (qsf tok) htok.p;have heq:=qbL hs2 hv (x:Int) T2;have hek:=qeN hvq hvp hv (n:=(x:Int)) (by omega) (by omega);have hae:=wb (eqE v.name (x:Int));have hl4:=zh (eqE v.name (x:Int));have hap:=fun H T=>Vp (R:=R) (X:=eqE v.name (x:Int)) (H:=H) (T:=T) (by omega)
     have hih:=fun n H T=>ih (R++[eqE v.name (x:Int)]) (.chain n 1) H T (fun j hj=>hg j (by simp[hj])) (fun e he=>by
      rcases qy0.1 he with he|he
      . exact hR e he
      rw[qzh]at he;rwa[he]) (by rw[qyK];simp at hlen⊢;omega) (.inl (by simp))
     have hffx:=hff x;have hfx1:=hfle x;have hsl1:(((i::r).map zD).take (r.length+1)).drop 1=r.map zD:=by
      rw[qyN (by simp)];rfl
     generalize eqE v.name (x:Int)=X at *;simp[-zr,-yQ,e38,e39,e40,show(dn.length:Int)<vals.length by omega,ha1,ha2];rw[qJ rfl];simp[-qW,qX,e3];refine qc.pure hcl (by cases tok<;>simp) (by cases tok<;>simp[qsf]) ?_;simp[-qW,qX,e0,e1,zD];refine qCQ heq ?_;rintro w3 ⟨H3,T3⟩ ⟨rfl,hk3⟩;have hs3:=hs2.keep hk3 (by simp) (by simp) (by simp);have hf3:=hf2.keep hk3 (by simp);have hS3:=hs3.c;simp only[spE,qA,qy3,qy2]at hS3;simp[-qW,qX,hae,hl4,qj,qs,hap];rw[qJ rfl];obtain⟨o,ho⟩:∃o,(jd s.p.vars.length s.p.dists)[i]?=some o:=⟨_,qyH (by rw[yq];exact(qyF.1 hv).1)⟩;have hweigh:=WL s.p hs3.w ho (fun w hw=>hwn w (by rw[ho,hw])) (x:Int) (T3++[some 1]);rw[<- show wtP s.p i x=wtO o (x:Int) by simp[wtP,qyS,ho]]at hweigh;have hwle:=qdt s.p i x;have hsle:=qoS s.p fx r (R++[X]);have hih1:=hih T3.length H3 (T3++[some 1]) hs3 hf3;generalize qcw s.p fx r (R++[X])=sd at *;generalize wtP s.p i x=wx at *;have hacc:dn.foldl (fun a x=>sat (a+f x)) 0<=lim:=yt f dn 0 (qAA _);have hsnoc:(dn++[x]).foldl (fun a x=>sat (a+f x)) 0=sat (dn.foldl (fun a x=>sat (a+f x)) 0+f x):=(by rw[qz5];rfl);generalize dn.foldl (fun a x=>sat (a+f x)) 0=acc at *;have ht:=WU wx sd hwle hsle;rw[<- hffx]at ht;have hp:=qhL acc (f x) hacc hfx1;simp only[qzE,qyR,qzj]at hih1;have hsl2:zo (.sl 1 ([AV.int .i64 (i:Int)]::r.map zD) .none) (some (.int .i64 1)) none none=some (.sl 1 (r.map zD) .none):=by
      have h2:(1:Int)<=(r.length:Int)+1:=(by omega);simp[zo,zU,kI,z0,h2,qyN]
     simp[qX,e0,e1,e2,e11,hS3,zD,hsl2];refine qCQ hweigh ?_;rintro w4 U ⟨rfl,rfl⟩;simp[qX];refine qCQ hih1 ?_;rintro w5 ⟨H5,T5⟩ ⟨rfl,hk5⟩;simp[qX];refine qCO ht rfl ?_;simp[qX];refine qCO hp rfl ?_;simp[qX,e40,hdw];exact hR2 _ _ ⟨by simp[e0],by simp[e1,zD],by simp[e2],by simp[e3],by simp[hsnoc],by simp[e38],by simp[e39],by simp,(hkp.trans hk3).trans hk5,((hro.imp id fun⟨N,h1,h2,h3⟩=>⟨N,h1,h2,hk5.2 _ _ (hk3.2 _ _ h3 (by simp)) (by simp)⟩))⟩
   rintro ev ⟨H2,T2⟩ ⟨e0,e1,e2,e3,e11,e38,e39,e40,hkp,hro⟩;simp[e11,e39,e40];exact hkp
def NG(p:Problem):List (List Nat):=p.groups.map fun g=>g.map Int.toNat
def yd(g:List Nat):List AV:=[.sl 1 (g.map zD) .none]
def WJ{p}(h:qk p=0):p.groups.map zJ=(NG p).map yd:=by
 unfold NG;rw[qz0];refine qzW fun g hg=>?_
 simp only[zJ,yd,Function.comp,qz0];congr 2;refine qzW fun i hi=>?_
 obtain⟨n,rfl,_⟩:=JR h i (qzl.2 ⟨g,hg,hi⟩);simp[zD]
def QL{p}(h:qk p=0):p.groups.flatten=(NG p).flatten.map fun n:Nat=>(n:Int):=by
 unfold NG;have:∀(G:List (List Int)),(∀i∈G.flatten,∃n:Nat,i=n)->G.flatten=(G.map fun g=>g.map Int.toNat).flatten.map fun n:Nat=>(n:Int):=by
  intro G hG
  induction G with
  |nil=>rfl
  | cons g r ih=>
   rw[qzn,qyR,qzn,qzE,<- ih fun i hi=>hG i (by simp at hi⊢;exact .inr hi),qz0];congr 1;have:g=g.map id:=by simp
   rw[this,qz0];refine qzW fun i hi=>?_
   obtain⟨n,rfl⟩:=hG i (by simp[hi]);simp
 exact this _ fun i hi=>by obtain⟨n,h1,_⟩:=JR h i hi;exact⟨n,h1⟩
def AsR(r:AV)(a:List Int)(H:List Blk):Prop:=(∃tok,r=.sl 1 (a.map qq) tok)\/∃N,r=.ms N 0 a.length 1/\H[N]?=some (.cells (zw a))
def AsR.at{r}{a:List Int}{H}(h:AsR r a H){j:Nat}{x:Int}(hj:a[j]?=some x):∃u,zr (Dof prog) 35 r (.int .i64 (j:Int))=some u/\∀w T,yQ (Dof prog) ⟨H++w,T⟩ 3 u=some (.int .i64 x):=by
 have hl:=(qyF.1 hj).1;rcases h with⟨tok,rfl⟩|⟨N,rfl,hN⟩
 . exact⟨.rptr [.int .i64 x],by simp[hj],fun w T=>by simp⟩
 have hl':(j:Int)<a.length:=by omega
 have hl1:j+1<=a.length:=hl;have hdr:(zw a).drop j=.int .i64 x::(zw a).drop (j+1):=by
  obtain⟨h1,h2⟩:=qyF.1 (by rw[VD,hj];rfl);rw[qy1 h1,h2]
 exact⟨.ptr N j,by simp[hl'],fun w T=>by simp[qa hN,hdr,qY,hl1]⟩
def AsR.at0{r}{a:List Int}{H}(h:AsR r a H){j:Nat}{x:Int}(hj:a[j]?=some x):∃u,zr (Dof prog) 35 r (.int .i64 (j:Int))=some u/\∀T,yQ (Dof prog) ⟨H,T⟩ 3 u=some (.int .i64 x):=by
 obtain⟨u,h1,h2⟩:=h.at hj;exact⟨u,h1,fun T=>by have:=h2 [] T;rwa[qzp]at this⟩
def AsR.len{r a H}(h:AsR r a H)(U):JO (Dof prog) U 35 r=some (.int .i64 (a.length:Nat)):=by
 rcases h with⟨tok,rfl⟩|⟨N,rfl,_⟩<;>simp
def AsR.keep{r a H H' bs}(h:AsR r a H)(hk:KpL bs H H')(hb:∀N o n z,r=.ms N o n z->N∉bs):AsR r a H':=by
 rcases h with h|⟨N,rfl,hN⟩
 . exact .inl h
 exact .inr ⟨N,rfl,hk.2 _ _ hN (hb _ _ _ _ rfl)⟩
def aN(a:List Int)(i:Nat):Nat:=(a.getD i 0).toNat
def Q3(s:Spc)(d:List Nd)(a:List Int)(l:List Nat):Nat:=l.foldl (fun node i=>wV d (ZD s.lv i) (jp s.p i) (aN a i) node (jp s.p i)) s.root
def Wa(s:Spc)(a:List Int)(l:List Nat):List Ex:=s.R++l.map fun i=>eqE (Jz s.p i) (aN a i:Int)
structure SpG(s)(a:List Int)(l):Prop where
 gr:qrB s l
 val:∀i∈l,∃n:Nat,a[i]?=some (n:Int)/\n<65536
def qix{g:List Nat}{tok:Tok}{k i:Nat}(h:g[k]?=some i):zr (Dof prog) 35 (.sl 1 (g.map zD) tok) (.int .i64 (k:Int))=some (.rptr [.int .i64 (i:Int)]):=by simp[h,zD]
def qnM{U:St}{i:Nat}:yQ (Dof prog) U 3 (.rptr [.int .i64 (i:Int)])=some (.int .i64 (i:Int)):=by simp
def qd6:List (Nat×Sch×List Nat):=[(21,.step 0 [11,10,9,8,1] (.step 1 [11,10,9,8] (.step 2 [11,10,9,8] (.step 3 [11,10,9,8] (.step 4 [11,10,9,8,7,6] (.step 5 [11,10,9,8,7,6] (.step 6 [11,10,9,8,7] (.step 7 [11,10,9,8] (.step 8 [11,10,9] (.step 9 [11,10] (.step 10 [11] (.step 11 [] (.done)))))))))))),[8])]
def qns{G:List (List Nat)}{gi}(h:gi<=G.length):zo (.sl 1 (G.map yd) .none) none (some (.int .i64 (gi:Int))) none=some (.sl 1 ((G.take gi).map yd) .none):=by
 simp[zo,zU,kI,z0,h]
def qoY{s}(hvp:qk s.p=0)(hsm:s.small=true){d tok}(hd:DagOk d)(hdv:s.dv=.sl 3 (d.map qw) tok)(hroot:s.root<d.length){fx}(hfx:∀i x,fx i=some x->x<65536){m gi g}(hgi:(NG s.p)[gi]?=some g)(hgl:∀g∈NG s.p,g.length<=1000)(hGl:(NG s.p).length<=1000)
 {r a H} (hg:qrB s g) (hpre:SpG s a ((NG s.p).take gi).flatten) (hs:SpOk s H) (hf:qgE m fx H) (ha:AsR r a H) (T):
 qf prog GG 47 [.ptr s.S 0,.int .i64 gi,r,m] ⟨H,T⟩ (fun v U'=>v=.int .i64 (V5 s.p s.lv d fx g (Q3 s d a ((NG s.p).take gi).flatten):Nat)/\KpL [] H U'.H):=by
 refine qCM ⟨false,qd6,[],[]⟩ qe func47 rfl (by kernel_rfl) ?_;have hS:=hs.c;have hgil:=(qyF.1 hgi).1;have hgil':(gi:Int)<(NG s.p).length:=by omega
 have hG:=WJ hvp;simp only[spE,qA,qy3,qy2,hsm,hdv,hG]at hS;have hsl:=qns (G:=NG s.p) (gi:=gi) (by omega);have htl:((NG s.p).take gi).length<=1000:=by rw[qzo];omega
 have htm:∀g∈(NG s.p).take gi,g.length<=1000:=fun g hg=>hgl g (qzy hg)
 obtain⟨PG,hPG⟩:∃PG,PG=(NG s.p).take gi:=⟨_,rfl⟩;rw[<- hPG]at hsl htl htm hpre⊢;simp[hS,hgi,yd,hsl];have hgg:=hgl g (qyG hgi);refine qC2 PG (fun dn ev U=>ev 0=.ptr s.S 0/\ev 2=r/\ev 3=m/\ev 9=.sl 1 (g.map zD) .none/\ev 10=.int .i64 (Q3 s d a dn.flatten:Nat)/\ev 42=.sl 1 (PG.map yd) .none/\ev 43=.int .i64 PG.length/\ev 44=.int .i64 dn.length/\Q3 s d a dn.flatten<d.length/\KpL [] H U.H) ?_ ?_ ?_
 . exact⟨by simp,by simp,by simp,by simp,by simp[Q3],by simp,by simp,by simp,hroot,qDh⟩
 . rintro dn g1 rest ev ⟨H1,T1⟩ R hR hdl hx hlt ⟨e0,e2,e3,e9,e10,e42,e43,e44,hnl,hkp⟩;have hdw:=wr (n:=(dn.length:Int)+1) (by omega) (by omega);have hg1m:=qyG hx;have hg1l:=htm g1 hg1m;simp[e42,e43,e44,show(dn.length:Int)<PG.length by omega,hx,yd];refine qC2 g1 (fun dg ev U=>ev 0=.ptr s.S 0/\ev 2=r/\ev 3=m/\ev 9=.sl 1 (g.map zD) .none/\ev 10=.int .i64 (Q3 s d a (dn.flatten++dg):Nat)/\ev 42=.sl 1 (PG.map yd) .none/\ev 43=.int .i64 PG.length/\ev 44=.int .i64 dn.length/\ev 48=.sl 1 (g1.map zD) .none/\ev 49=.int .i64 g1.length/\ev 50=.int .i64 dg.length/\Q3 s d a (dn.flatten++dg)<d.length/\KpL [] H U.H) ?_ ?_ ?_
   . exact⟨by simp[e0],by simp[e2],by simp[e3],by simp[e9],by simp[e10],by simp[e42],by simp[e43],by simp[e44],by simp,by simp,by simp,by simpa using hnl,hkp⟩
   . rintro dg i rest2 ev ⟨H2,T2⟩ R2 hR2 hdl2 hx2 hlt2 ⟨e0,e2,e3,e9,e10,e42,e43,e44,e48,e49,e50,hnl2,hkp2⟩;have hdw2:=wr (n:=(dg.length:Int)+1) (by omega) (by omega);have him:=qzl.2 ⟨g1,hg1m,qyG hx2⟩;obtain⟨v,l,hv,hw0,hw8,hl,hl20,_⟩:=hpre.gr i him;obtain⟨n,hna,hn16⟩:=hpre.val i him;have hs2:=hs.keep hkp2 (by simp) (by simp) (by simp);have ha2:=ha.keep hkp2 (by simp);obtain⟨u,hu1,hu2⟩:=ha2.at0 hna;have hdes:=WD hs2 hd hdv hv hl ⟨hw0,hw8⟩ hl20 hnl2 (val:=n) (by omega) T2;have hsn:Q3 s d a (dn.flatten++(dg++[i]))=wV d l v.width.toNat n (Q3 s d a (dn.flatten++dg)) v.width.toNat:=by
      rw[<- qze];unfold Q3;rw[qz5];simp only[qzm,List.foldl_nil,show ZD s.lv i=l by simp[ZD,qyS,hl],show jp s.p i=v.width.toNat by simp[jp,zE,hv],show aN a i=n by simp[aN,qyS,hna]]
     have hnl3:=JW hd hnl2 l v.width.toNat n v.width.toNat;rw[<- hsn]at hdes hnl3;have hix:=qix (tok:=.none) hx2;generalize Q3 s d a (dn.flatten++dg)=nd at *;generalize hn2:Q3 s d a (dn.flatten++(dg++[i]))=nd2 at *;simp[-zr,-yQ,e0,e2,e10,e48,e49,e50,show(dg.length:Int)<g1.length by omega,hix,qnM,hu1,hu2];refine qCQ hdes ?_;rintro w ⟨H3,T3⟩ ⟨rfl,hk3⟩;simp[e50,hdw2];exact hR2 _ _ ⟨by simp[e0],by simp[e2],by simp[e3],by simp[e9],by simp,by simp[e42],by simp[e43],by simp[e44],by simp[e48],by simp[e49],by simp,by first|exact hnl3|(rwa[hn2]),hkp2.trans hk3⟩
   rintro ev ⟨H2,T2⟩ ⟨e0,e2,e3,e9,e10,e42,e43,e44,e48,e49,e50,hnl2,hkp2⟩;simp[e44,e49,e50,hdw];exact hR _ _ ⟨by simp[e0],by simp[e2],by simp[e3],by simp[e9],by simp[e10],by simp[e42],by simp[e43],by simp,by simpa using hnl2,hkp2⟩
 rintro ev ⟨H1,T1⟩ ⟨e0,e2,e3,e9,e10,e42,e43,e44,hnl,hkp⟩;dsimp only at hkp;have hH1l:=hkp.1;have hs1:=hs.keep hkp (by simp) (by simp) (by simp);have hf1:=hf.keep hkp (by simp);have hSl:=(qyF.1 hs.c).1;obtain⟨cw,hL,hcw⟩:=hs.w;have hLl:=(qyF.1 hL).1;have hLLl:=hs.b;have hs2:=hs1.keep (H':=H1++[.map [] 0]) (bs:=[]) qDj (by simp) (by simp) (by simp);have hf2:=hf1.keep (H':=H1++[.map [] 0]) (bs:=[]) qDj (by simp);have hmF:∀F,m=.map F->F≠H1.length:=fun F hF=>by
  rcases hf1 with⟨rfl,_⟩|⟨F',es,n,rfl,hF',_⟩
  . cases hF
  cases hF;have:=(qyF.1 hF').1;omega
 have hsu:=qhh hd hdv hfx hg hgg (K:=H1.length) (by omega) (by omega) (by omega) hmF g.length 0 (by omega) (Q3 s d a PG.flatten) (H1++[.map [] 0]) T1 hnl hs2 hf2 ⟨[],0,lk0,by simp⟩;simp only[qz1]at hsu;simp[e0,e3,e9,e10,e43,e44,zp,zS,qG];refine qCQ hsu ?_;rintro w ⟨H3,T3⟩ ⟨rfl,hk3,_⟩;simp;refine hkp.trans ⟨by have:=hk3.1;simp at this;omega,fun k x hk _=>hk3.2 _ _ (qa hk _) (by have:=(qyF.1 hk).1;simp;omega)⟩
def qoX{s}(hvq:VQ s.p)(hvp:qk s.p=0)(hv20:s.p.vars.length<=20)(hb:ku s.p.vars (qB s.p)<=18)(hsm:s.small=false)(hRk:∀e∈s.R,zi s.p.vars e=0/\J1 e)(hRl:s.R.length<=50000)(hrt:qqY s.R s.rtok){fx}(hfx:∀i x,fx i=some x->x<65536){m gi g}(hgi:(NG s.p)[gi]?=some g)(hgl:∀g∈NG s.p,g.length<=1000)(hGl:(NG s.p).length<=1000)(hfl:(NG s.p).flatten.length<=1000)
 {r a H} (hg:qrB s g) (hpre:SpG s a ((NG s.p).take gi).flatten) (hs:SpOk s H) (hf:qgE m fx H) (ha:AsR r a H) (T):
 qf prog GG 47 [.ptr s.S 0,.int .i64 gi,r,m] ⟨H,T⟩ (fun v U'=>v=.int .i64 (qcw s.p fx g (Wa s a ((NG s.p).take gi).flatten):Nat)/\KpL [] H U'.H):=by
 refine qCM ⟨false,qd6,[],[]⟩ qe func47 rfl (by kernel_rfl) ?_;have hS:=hs.c;have hgil:=(qyF.1 hgi).1;have hgil':(gi:Int)<(NG s.p).length:=by omega
 have hG:=WJ hvp;simp only[spE,qA,qy3,qy2,hsm,hG]at hS;have hsl:=qns (G:=NG s.p) (gi:=gi) (by omega);have htl:((NG s.p).take gi).length<=1000:=by rw[qzo];omega
 have htm:∀g∈(NG s.p).take gi,g.length<=1000:=fun g hg=>hgl g (qzy hg)
 have hfl2:((NG s.p).take gi).flatten.length<=1000:=by
  have:(NG s.p).flatten=((NG s.p).take gi).flatten++((NG s.p).drop gi).flatten:=by rw[<- qAF,qzA]
  rw[this,qyK]at hfl;omega
 obtain⟨PG,hPG⟩:∃PG,PG=(NG s.p).take gi:=⟨_,rfl⟩;rw[<- hPG]at hsl htl htm hpre hfl2⊢;simp[hS,hgi,yd,hsl];have hgg:=hgl g (qyG hgi);have hrl:∀l,(Wa s a l).length=s.R.length+l.length:=fun l=>by simp[Wa]
 refine qC2 PG (fun dn ev U=>ev 0=.ptr s.S 0/\ev 2=r/\ev 3=m/\ev 9=.sl 1 (g.map zD) .none/\(∃tok,ev 15=.sl 4 ((Wa s a dn.flatten).map qt) tok/\qqY (Wa s a dn.flatten) tok)/\ev 81=.sl 1 (PG.map yd) .none/\ev 82=.int .i64 PG.length/\ev 83=.int .i64 dn.length/\KpL [] H U.H) ?_ ?_ ?_
 . exact⟨by simp,by simp,by simp,by simp,⟨s.rtok,by simp[Wa],by simpa[Wa] using hrt⟩,by simp,by simp,by simp,qDh⟩
 . rintro dn g1 rest ev ⟨H1,T1⟩ R hR hdl hx hlt ⟨e0,e2,e3,e9,⟨tok,e15,htok⟩,e81,e82,e83,hkp⟩;have hdw:=wr (n:=(dn.length:Int)+1) (by omega) (by omega);have hg1m:=qyG hx;have hg1l:=htm g1 hg1m;simp[e81,e82,e83,show(dn.length:Int)<PG.length by omega,hx,yd];refine qC2 g1 (fun dg ev U=>ev 0=.ptr s.S 0/\ev 2=r/\ev 3=m/\ev 9=.sl 1 (g.map zD) .none/\(∃tok,ev 15=.sl 4 ((Wa s a (dn.flatten++dg)).map qt) tok/\qqY (Wa s a (dn.flatten++dg)) tok)/\ev 81=.sl 1 (PG.map yd) .none/\ev 82=.int .i64 PG.length/\ev 83=.int .i64 dn.length/\ev 87=.sl 1 (g1.map zD) .none/\ev 88=.int .i64 g1.length/\ev 89=.int .i64 dg.length/\KpL [] H U.H) ?_ ?_ ?_
   . exact⟨by simp[e0],by simp[e2],by simp[e3],by simp[e9],⟨tok,by simp[e15],by simpa using htok⟩,by simp[e81],by simp[e82],by simp[e83],by simp,by simp,by simp,hkp⟩
   . rintro dg i rest2 ev ⟨H2,T2⟩ R2 hR2 hdl2 hx2 hlt2 ⟨e0,e2,e3,e9,⟨tok,e15,htok⟩,e81,e82,e83,e87,e88,e89,hkp2⟩;have hdw2:=wr (n:=(dg.length:Int)+1) (by omega) (by omega);have him:=qzl.2 ⟨g1,hg1m,qyG hx2⟩;obtain⟨v,l,hv,hw0,hw8,hl,hl20,_⟩:=hpre.gr i him;obtain⟨n,hna,hn16⟩:=hpre.val i him;have hs2:=hs.keep hkp2 (by simp) (by simp) (by simp);have ha2:=ha.keep hkp2 (by simp);obtain⟨u,hu1,hu2⟩:=ha2.at0 hna;have heq:=qbL hs2 hv (n:Int) T2;have hsn:Wa s a (dn.flatten++(dg++[i]))=Wa s a (dn.flatten++dg)++[eqE v.name (n:Int)]:=by
      have h2:Jz s.p i=v.name:=(by simp[Jz,hv]);have h3:aN a i=n:=(by simp[aN,qyS,hna]);simp[Wa,h2,h3]
     have hlen2:(Wa s a (dn.flatten++dg)).length<=60000:=by
      rw[hrl];have:(dn.flatten++dg).length<=PG.flatten.length:=by rw[hdl,hdl2];simp
      omega
     have hcl:=qjs (Wa s a (dn.flatten++dg)) (qsf tok) htok.p;have hae:=wb (eqE v.name (n:Int));have hl4:=zh (eqE v.name (n:Int));have hap:=fun H T=>Vp (R:=Wa s a (dn.flatten++dg)) (X:=eqE v.name (n:Int)) (H:=H) (T:=T) (by omega)
     have hix:=qix (tok:=.none) hx2;generalize Wa s a (dn.flatten++dg)=R0 at *;generalize eqE v.name (n:Int)=X at *;simp[-zr,-yQ,e87,e88,e89,show(dg.length:Int)<g1.length by omega,hix,qnM];rw[qJ rfl];simp[-qW,-zr,-yQ,qX,e15];refine qc.pure hcl (by cases tok<;>simp) (by cases tok<;>simp[qsf]) ?_;simp[-qW,-zr,-yQ,qX,e0,e2,hu1,hu2];refine qCQ heq ?_;rintro w ⟨H3,T3⟩ ⟨rfl,hk3⟩;simp[-qW,qX,hae,hl4,qj,qs,hap,e89,hdw2];refine hR2 _ _ ⟨by simp[e0],by simp[e2],by simp[e3],by simp[e9],⟨.chain T3.length 1,by simp[hsn],by rw[hsn];exact .inl (by simp)⟩,by simp[e81],by simp[e82],by simp[e83],by simp[e87],by simp[e88],by simp,hkp2.trans hk3⟩
   rintro ev ⟨H2,T2⟩ ⟨e0,e2,e3,e9,⟨tok,e15,htok⟩,e81,e82,e83,e87,e88,e89,hkp2⟩;simp[e83,e88,e89,hdw];exact hR _ _ ⟨by simp[e0],by simp[e2],by simp[e3],by simp[e9],⟨tok,by simp[e15],by simpa using htok⟩,by simp[e81],by simp[e82],by simp,hkp2⟩
 rintro ev ⟨H1,T1⟩ ⟨e0,e2,e3,e9,⟨tok,e15,htok⟩,e81,e82,e83,hkp⟩;have hs1:=hs.keep hkp (by simp) (by simp) (by simp);have hf1:=hf.keep hkp (by simp);have hkn:∀e∈Wa s a PG.flatten,zi s.p.vars e=0/\J1 e:=fun e he=>by
  rcases qy0.1 he with he|he
  . exact hRk e he
  obtain⟨i,hi,rfl⟩:=qza.1 he;obtain⟨v,l,hv,_⟩:=hpre.gr i hi;obtain⟨n,hna,hn16⟩:=hpre.val i hi;rw[show Jz s.p i=v.name by simp[Jz,hv],show aN a i=n by simp[aN,qyS,hna]];exact qeN hvq hvp hv (by omega) (by omega)
 have htr:=qkH hvq hvp hv20 hb hfx (m:=m) g (Wa s a PG.flatten) tok H1 T1 hg hkn (by rw[hrl];omega) htok hs1 hf1;simp[e0,e3,e9,e15,e82,e83];refine qCQ htr ?_;rintro w ⟨H3,T3⟩ ⟨rfl,hk3⟩;simp;exact hkp.trans hk3
def qbY{s H}(hs:SpOk s H)(hw:∀v∈s.p.vars,0<=v.width/\v.width<=8)(hvl:s.p.vars.length<=1000){r a}(ha:AsR r a H)(T):
 qf prog GG 21 [.ptr s.S 0,r] ⟨H,T⟩ (fun v U'=>v=.bool (qK s.p.vars a)/\KpL [] H U'.H):=by
 refine qCN qe func21 rfl (by kernel_rfl) ?_;have hS:=hs.c;have hlen:=ha.len;simp only[spE,qA,qy3,qy2]at hS;obtain⟨res,hres⟩:∃res,res=qK s.p.vars a:=⟨_,rfl⟩;rw[<- hres];unfold qK at hres;by_cases hl:a.length=s.p.vars.length
 case neg=>
  have hl':¬(a.length:Int)=s.p.vars.length:=by omega
  have:res=false:=by rw[hres];simp[hl]
  subst this;simp[-JO,hlen,hS,show JO (Dof prog) ⟨H,T⟩ 22 (.sl 4 (s.p.vars.map qD) .none)=some (.int .i64 (s.p.vars.length:Nat)) by simp,hl'];exact qDh
 simp[-JO,hlen,hS,show ∀U,JO (Dof prog) U 22 (.sl 4 (s.p.vars.map qD) .none)=some (.int .i64 (s.p.vars.length:Nat)) from fun U=>by simp,show(a.length:Int)=s.p.vars.length by omega];refine qC2 s.p.vars (fun d ev U=>ev 1=r/\ev 20=.sl 4 (s.p.vars.map qD) .none/\ev 21=.int .i64 s.p.vars.length/\ev 22=.int .i64 d.length/\KpL [] H U.H/\res=((s.p.vars.drop d.length).zip (a.drop d.length)).all jl) ?_ ?_ ?_
 . exact⟨by simp,by simp,by simp,by simp,qDh,by simpa using(by rw[hres];simp[hl])⟩
 . rintro d v rest ev ⟨H1,T1⟩ R hR hd hx hlt ⟨e1,e20,e21,e22,hkp,hr⟩;have hdw:=wr (n:=(d.length:Int)+1) (by omega) (by omega);have hlt':(d.length:Int)<s.p.vars.length:=(by omega);have hda:d.length<a.length:=(by omega);obtain⟨x,hax⟩:∃x,a[d.length]?=some x:=⟨_,qyH hda⟩;have hvd:s.p.vars.drop d.length=v::s.p.vars.drop (d.length+1):=by
    obtain⟨h1,h2⟩:=qyF.1 hx;rw[qy1 h1,h2]
   have had:a.drop d.length=x::a.drop (d.length+1):=by
    obtain⟨h1,h2⟩:=qyF.1 hax;rw[qy1 h1,h2]
   rw[hvd,had,qB3,qAh]at hr;have hwv:=hw v (qyG hx);have hs1:=vy hwv.1 (by omega);have hwn:¬v.width<0:=(by omega);have ha1:=ha.keep hkp (by simp);have hgo:∀ev' U',ev' 1=r->ev' 20=.sl 4 (s.p.vars.map qD) .none->ev' 21=.int .i64 s.p.vars.length->ev' 22=.int .i64 (d.length+1:Nat)->KpL [] H U'.H->jl (v,x)=true->R ev' U':=fun ev' U' b1 b2 b3 b4 b5 b6=>hR _ _ ⟨b1,b2,b3,by rw[b4,qyK,qzd],b5,by rw[hr,b6,qzN,qyK,qzd]⟩
   have hbad:jl (v,x)=false->res=false:=fun h=>by rw[hr,h];rfl
   unfold jl at hgo hbad;simp only at hgo hbad;rw[<- show((2^v.width.toNat:Nat):Int)=(2:Int)^v.width.toNat by simp]at hgo hbad;generalize 2^v.width.toNat=N at *;have hnext:∀u,KpL [] H (H1++u):=fun u=>hkp.trans qDj
   rcases ha1 with⟨tok,rfl⟩|⟨A,rfl,hA⟩
   case' inr=>
    have hdr:(zw a).drop d.length=.int .i64 x::(zw a).drop (d.length+1):=by
     obtain⟨h1,h2⟩:=qyF.1 (by rw[VD,hax];rfl);rw[qy1 h1,h2]
    have hla:d.length+1<=a.length:=hda;have hdi:(d.length:Int)<a.length:=by omega
   all_goals
    by_cases hm:v.mode=0
    . by_cases hxv:x=v.value
      . subst hxv;by_cases hx0:v.value<0
        . have hb:=hbad (by simp;omega);subst hb
          first|simp[e1,e20,e21,e22,hlt',hx,qa hA,hdr,qY,hla,hdi,hm,hx0]|simp[e1,e20,e21,e22,hlt',hx,hax,hm,hx0]
          exact hnext _
        by_cases hxN:(N:Int)<=v.value
        . have hb:=hbad (by simp;omega);subst hb
          first|simp[e1,e20,e21,e22,hlt',hx,hwn,IntKind.bits,hs1,qa hA,hdr,qY,hla,hdi,hm,hx0,hxN]|simp[e1,e20,e21,e22,hlt',hx,hax,hwn,IntKind.bits,hs1,hm,hx0,hxN]
          exact hnext _
        have hg:=hgo
        first|simp[e1,e20,e21,e22,hlt',hx,hwn,IntKind.bits,hs1,hdw,qa hA,hdr,qY,hla,hdi,hm,hx0,hxN]|simp[e1,e20,e21,e22,hlt',hx,hax,hwn,IntKind.bits,hs1,hdw,hm,hx0,hxN]
        exact hgo _ _ (by simp[e1]) (by simp[e20]) (by simp[e21]) (by simp) (hnext _) (by simp[hm,hxN];omega)
      . have hb:=hbad (by simp[hm,hxv]);subst hb
        first|simp[e1,e20,e21,e22,hlt',hx,hwn,IntKind.bits,hs1,hdw,qa hA,hdr,qY,hla,hdi,hm,hxv]|simp[e1,e20,e21,e22,hlt',hx,hax,hwn,IntKind.bits,hs1,hdw,hm,hxv]
        exact hnext _
    by_cases hx0:x<0
    . have hb:=hbad (by simp;omega);subst hb
      first|simp[e1,e20,e21,e22,hlt',hx,qa hA,hdr,qY,hla,hdi,hm,hx0]|simp[e1,e20,e21,e22,hlt',hx,hax,hm,hx0]
      exact hnext _
    by_cases hxN:(N:Int)<=x
    . have hb:=hbad (by simp;omega);subst hb
      first|simp[e1,e20,e21,e22,hlt',hx,hwn,IntKind.bits,hs1,qa hA,hdr,qY,hla,hdi,hm,hx0,hxN]|simp[e1,e20,e21,e22,hlt',hx,hax,hwn,IntKind.bits,hs1,hm,hx0,hxN]
      exact hnext _
    have hg:=hgo
    first|simp[e1,e20,e21,e22,hlt',hx,hwn,IntKind.bits,hs1,hdw,qa hA,hdr,qY,hla,hdi,hm,hx0,hxN]|simp[e1,e20,e21,e22,hlt',hx,hax,hwn,IntKind.bits,hs1,hdw,hm,hx0,hxN]
    exact hgo _ _ (by simp[e1]) (by simp[e20]) (by simp[e21]) (by simp) (hnext _) (by simp[hm,hxN];omega)
 rintro ev ⟨H1,T1⟩ ⟨e1,e20,e21,e22,hkp,hr⟩;have:res=true:=by rw[hr,qz2];rfl
 subst this;simp[e21,e22];exact hkp
structure SpV(s:Spc)(d):Prop where
 vq:VQ s.p
 vp:qk s.p=0
 v20:s.p.vars.length<=20
 bits:ku s.p.vars (qB s.p)<=18
 rk:∀e∈s.R,zi s.p.vars e=0/\J1 e
 rl:s.R.length<=50000
 rt:qqY s.R s.rtok
 lv:s.lv=qE s.p
 dag:s.small=true->DagOk d/\(∃tok,s.dv=.sl 3 (d.map qw) tok)/\s.root<d.length
 ws:∀(i:Nat) (w:List Weight),(jd s.p.vars.length s.p.dists)[i]?=some (some w)->w≠[]/\w.length<=1000
noncomputable def qaD(s:Spc)(d:List Nd)(fx:Nat->Option Nat)(a:List Int)(gi:Nat):Nat :=
 if s.small=true then V5 s.p s.lv d fx ((NG s.p).getD gi []) (Q3 s d a ((NG s.p).take gi).flatten) else qcw s.p fx ((NG s.p).getD gi []) (Wa s a ((NG s.p).take gi).flatten)
def qj5{p:Problem}(h:qk p=0){i:Nat}(hi:i∈(NG p).flatten):∃(k:Nat),p.groups.flatten[k]?=some (i:Int):=by
 have:(i:Int)∈p.groups.flatten:=by rw[QL h];exact qza.2 ⟨i,hi,rfl⟩
 exact qzq this
def SpV.gr{s d}(h:SpV s d){l}(hl:∀i∈l,i∈(NG s.p).flatten):qrB s l:=fun i hi=>by
 obtain⟨k,hk⟩:=qj5 h.vp (hl i hi);obtain⟨n,v,hn,hv,hm⟩:=Ym ((jW h.vp).2.1 _ (qyG hk));have hn:n=i:=by omega
 subst hn;have hw:=zc (ji h.vp v (qyG hv));have hl:=YL h.vp hk;have h1:=JI (vT h.vp) (s.p.groups.flatten.take k);have h2:=KW (vT h.vp) s.p.groups.flatten k;have h3:=YZ h.vp;refine⟨v,(yN s.p.vars (s.p.groups.flatten.take k)).toNat,hv,by omega,by omega,?_,by omega,h.ws n⟩;rw[h.lv,hl];congr 1;omega
def qj6{p}(h:qk p=0):(NG p).flatten.length<=p.vars.length:=by
 have:=Wv h
 rwa[QL h,qzk]at this
def qds{p}(h:qk p=0)(hv:p.vars.length<=1000):(∀g∈NG p,g.length<=1000)/\(NG p).length<=1000:=by
 have h1:=qj6 h;have h2:∀g∈NG p,g≠[]:=fun g hg=>by
  obtain⟨g',hg',rfl⟩:=qza.1 hg;have:=(jW h).1 g' hg';simpa using this
 have key:∀G:List (List Nat),(∀g∈G,g≠[])->(∀g∈G,g.length<=G.flatten.length)/\G.length<=G.flatten.length:=by
  intro G
  induction G with
  |nil=>intro _;simp
  | cons a r ih=>
   intro hG;obtain⟨i1,i2⟩:=ih fun g hg=>hG g (by simp[hg])
   have ha:=qyZ.2 (hG a (by simp));refine⟨fun g hg=>?_,by rw[qzn,qyK,qyY];omega⟩;rcases qy9.1 hg with rfl|hg
   . simp
   have:=i1 g hg;rw[qzn,qyK];omega
 obtain⟨k1,k2⟩:=key (NG p) h2;exact⟨fun g hg=>by have:=k1 g hg;omega,by omega⟩
def AOk(p:Problem)(a:List Int):Prop:=∀i∈(NG p).flatten,∃n:Nat,a[i]?=some (n:Int)/\n<65536
def QI{p}(h:qk p=0){a}(ha:qK p.vars a=true):AOk p a:=fun i hi=>by
 obtain⟨k,hk⟩:=qj5 h hi;obtain⟨n,v,hn,hv,hm⟩:=Ym ((jW h).2.1 _ (qyG hk));have hn:n=i:=by omega
 subst hn;unfold qK at ha;simp only[qyJ,decide_eq_true_eq]at ha;have hil:=(qyF.1 hv).1;obtain⟨x,hx⟩:∃x,a[n]?=some x:=⟨_,qyH (by omega)⟩;have hz:(v,x)∈p.vars.zip a:=qyG (i:=n) (qAo.2 ⟨hv,hx⟩);have h1:=qyP.1 ha.2 _ hz;unfold jl at h1;simp only[qyJ,decide_eq_true_eq]at h1;have hw:=zc (ji h v (qyG hv));have h2:(2:Nat)^v.width.toNat<=2^8:=qzc (by omega) (by omega);have h3:((2^v.width.toNat:Nat):Int)=(2:Int)^v.width.toNat:=by simp
 exact⟨x.toNat,by rw[hx];congr 1;omega,by omega⟩
def qnm{s d}(h:SpV s d){fx}(hfx:∀i x,fx i=some x->x<65536){m gi}(hgi:gi<(NG s.p).length){r a H}(hao:AOk s.p a)(hs:SpOk s H)(hf:qgE m fx H)(ha:AsR r a H)(T):
 qf prog GG 47 [.ptr s.S 0,.int .i64 gi,r,m] ⟨H,T⟩ (fun v U'=>v=.int .i64 (qaD s d fx a gi:Nat)/\KpL [] H U'.H):=by
 obtain⟨g,hg⟩:∃g,(NG s.p)[gi]?=some g:=⟨_,qyH hgi⟩;have hl:=qds h.vp h.vq.vars;have hgr:=h.gr fun i hi=>qzl.2 ⟨g,qyG hg,hi⟩
 have hsub:∀i∈((NG s.p).take gi).flatten,i∈(NG s.p).flatten:=fun i hi=>by
  obtain⟨g',hg',hi'⟩:=qzl.1 hi;exact qzl.2 ⟨g',qzy hg',hi'⟩
 have hpre:SpG s a ((NG s.p).take gi).flatten:=⟨h.gr hsub,fun i hi=>hao i (hsub i hi)⟩;unfold qaD;rw[show(NG s.p).getD gi []=g by simp[qyS,hg]];by_cases hsm:s.small=true
 . obtain⟨hd,⟨tok,hdv⟩,hr⟩:=h.dag hsm;rw[if_pos hsm];exact qoY h.vp hsm hd hdv hr hfx hg hl.1 hl.2 hgr hpre hs hf ha T
 rw[if_neg hsm];exact qoX h.vq h.vp h.v20 h.bits (by simpa using hsm) h.rk h.rl h.rt hfx hg hl.1 hl.2 (qzs (qj6 h.vp) h.vq.vars) hgr hpre hs hf ha T
noncomputable def KU(s:Spc)(d:List Nd)(gi:Int)(a:List Int):Int×Int :=
 if gi<0\/((NG s.p).length:Int)<=gi\/qK s.p.vars a=false then(0,1)
 else if qaD s d (fun _=>none) a gi.toNat=0 then(0,11) else if qaD s d (fun _=>none) a gi.toNat=lim then(0,3) else(qaD s d (fun _=>none) a gi.toNat,0)
def qct{s d}(h:SpV s d)(gi){r a H}(hs:SpOk s H)(ha:AsR r a H)(T):
 qf prog GG 23 [.ptr s.S 0,.int .i64 gi,r] ⟨H,T⟩ (fun v U'=>v=.tup [.int .i64 (KU s d gi a).1,.int .i64 (KU s d gi a).2]/\KpL [] H U'.H):=by
 refine qCN qe func23 rfl (by kernel_rfl) ?_;have hS:=hs.c;have hG:=WJ h.vp;have hw:∀v∈s.p.vars,0<=v.width/\v.width<=8:=fun v hv=>by have:=zc (ji h.vp v hv);omega
 have has:=qbY hs hw h.vq.vars ha T;simp only[spE,qA,qy3,qy2,hG]at hS;obtain⟨res,hres⟩:∃res,res=KU s d gi a:=⟨_,rfl⟩;rw[<- hres];unfold KU at hres;by_cases h0:gi<0
 . rw[if_pos (.inl h0)]at hres;subst hres;simp[h0,unA];exact qDh
 by_cases h1:((NG s.p).length:Int)<=gi
 . rw[if_pos (.inr (.inl h1))]at hres;subst hres;simp[h0,h1,hS];exact qDh
 simp[h0,h1,hS];refine qCQ has ?_;rintro v ⟨H1,T1⟩ ⟨rfl,hk1⟩
 cases hA:qK s.p.vars a with
 | false=>
  rw[if_pos (.inr (.inr hA))]at hres;subst hres;simp[unA];exact hk1
 | true=>
  rw[if_neg (by simp[h0,hA];omega)]at hres;obtain⟨g,rfl⟩:=qzg (by omega:0<=gi);have hsu:=qnm h (fx:=fun _=>none) (by simp) (m:=.nilm) (gi:=g) (by omega) (QI h.vp hA) (hs.keep hk1 (by simp) (by simp) (by simp)) (.inl ⟨rfl,fun _=>rfl⟩) (ha.keep hk1 (by simp)) T1;rw[qzt]at hres;generalize qaD s d (fun _=>none) a g=n at *;simp[unA];refine qCQ hsu ?_;rintro v ⟨H2,T2⟩ ⟨rfl,hk2⟩;have hkk:=hk1.trans hk2;by_cases hn0:n=0
  . rw[if_pos hn0]at hres;subst hres;simp[hn0];exact hkk
  rw[if_neg hn0]at hres;by_cases hnl:n=lim
  . rw[if_pos hnl]at hres;subst hres;have hnl':(n:Int)=1099511627777:=(by rw[hnl];rfl);simp[hnl'];exact hkk
  rw[if_neg hnl]at hres;subst hres;simp[hn0,show ¬(n:Int)=1099511627777 by unfold lim at hnl;omega];exact hkk
section
attribute [local go_sem] Oper.semAt_some
def qo3{K}{l:List Int}{tok v}(h:qg K (.sl 1 (l.map fun n=>[.int .i64 n]) tok) v):
 ∃a cap,v=.slice a l.length cap/\∀j n,l[j]?=some n->∃B off,a=some ⟨B,off,none⟩/\K.ro B (off+j)=some (.int .i64 n):=by
 simp only[qg]at h;rcases h with⟨⟨a,rfl,_⟩,h0,_⟩|⟨B,off,cap,rfl,hcap,hrows,_⟩
 . have:l=[]:=by simpa using h0
   subst this;exact⟨a,0,rfl,fun j n e=>by simp at e⟩
 refine⟨some ⟨B,off,none⟩,cap,by simp,fun j n e=>⟨B,off,rfl,?_⟩⟩;obtain⟨_,_,h3⟩:=qI.get B 1 _ off hrows j [.int .i64 n] (by simp[e]);simp only[qm,qg]at h3;obtain⟨⟨v,hv,rfl⟩,_⟩:=h3;simpa using hv
def qwu(G)(l:List Int)(tok)(hlen:l.length<2^62):qu2 prog G 120 [.rptr [.sl 1 (l.map fun n=>[.int .i64 n]) tok]] (fun _=>True) (l.map fun n=>.int .i64 n):=by
 refine⟨by kernel_rfl,?_⟩;intro w0 ro0 L K U w vcap S hw hcap _ hS hround;simp only[qh]at hcap;obtain⟨v0,vr,e0,hp,rfl⟩:=hcap;have evs:vcap = #[v0]:=by apply Array.ext';simpa using e0
 subst evs;simp only[qg,qm]at hp;obtain⟨Bs,os,rfl,⟨v,hro,hv⟩,_⟩:=hp;obtain⟨a0,cap,rfl,hcell⟩:=qo3 hv;have hBs:=(fun K' U' w' h1 h2=>h2.ro _ _ _ (h1.ro _ _ _ hro)) K U w (qC3 K) hw;refine callsIn_of_wp func120 rfl trivial ?_ rfl;simp only[Tryz.ntmps120,qBJ,qyY,qzH,Nat.reduceAdd,Nat.reduceSub,Array.replicate_succ,Array.replicate_zero,List.push_toArray,List.append_toArray,qy2,qy3]
 gi_wp2
 gi_loopw [7] (fun i wr=>∃k:Nat,k<=l.length/\i=.int .i64 k/\∃K' U',K.le K'/\WRel G w0 ro0 K' U' wr/\S k U')
  (fun i _=>l.length-(intOf i).toNat)
 case atStart=>exact⟨0,qAA _,rfl,K,U,qC3 K,hw,hS⟩
 case round=>
  obtain⟨k,hk,rfl,K1,U1,hle1,hw1,hS1⟩:=hrel;by_cases hlt:k<l.length
  . obtain⟨B,off,rfl,hro1⟩:=hcell k l[k] (by simp[hlt]);have hcx:wr.cell? ⟨B,off+k,none⟩=some (.int .i64 l[k]):=hw1.ro _ _ _ (hle1.ro _ _ _ hro1);obtain⟨fn,tmps,assign,body,hy,hR⟩:=hround k (.int .i64 l[k]) U1 K1 wr (by simp[hlt]) hS1 hle1 hw1 _ rfl
    gi_wp2
    refine⟨rfl,hR.mono ?_⟩;rintro e W3 ⟨rfl,K2,U2,hle2,hw2,hS2⟩
    gi_wp2
    go_roundw
    case rel=>exact⟨k+1,by omega,by simp,K2,U2,qC4 hle1 hle2,hw2,hS2⟩
    case measure=>simp[intOf];omega
  obtain rfl:k=l.length:=by omega
  gi_wp2
  refine bodyPost_end (results_none rfl _ _ _) rfl ?_;exact⟨⟨_,rfl⟩,K1,U1,hle1,hw1,by simpa using hS1⟩
end
section
attribute [local go_sem] Oper.semAt_some
end
abbrev Jv(l:List Int):List (List AV):=l.map fun n=>[.int .i64 n]
def qxT(v:AV)(U:St)(l:List Int):Prop:=(l=[]/\v=.sl 0 [] .nil)\/∃b,v=.ms b 0 l.length 1/\l≠[]/\U.H[b]?=some (.cells (l.map fun n=>.int .i64 n))
def qxR(U:St)(n0:Nat)(l:List Int)(i:Nat)(τ:St):Prop :=
 τ.T=U.T/\(∀k<n0,τ.H[k]?=U.H[k]?)/\∃v,τ.H[n0]?=some (.cells [v])/\((i=0/\v=.sl 0 [] .nil)\/∃b,v=.ms b 0 i 1/\0<i/\n0<b/\τ.H[b]?=some (.cells ((l.take i).map fun n=>.int .i64 n)))
def qxu(U:St)(l:List Int)(v:AV)(τ:St):Prop:=τ.T=U.T/\(∀k<U.H.length,τ.H[k]?=U.H[k]?)/\qxT v τ l
def qjU(H T n):zn (Dof prog) ⟨H,T⟩ 35 35 (.sl 0 [] .nil) (.sl 1 [[.int .i64 n]] .tight)=some (.ms H.length 0 1 1,⟨H++[.cells [.int .i64 n]],T⟩):=by
 simp[zn,zZ,KA,qP,St.push]
def qm2(H T n b i c)(hb:H[b]?=some (.cells c))(hc:c.length=i)(hi:i<2^28):zn (Dof prog) ⟨H,T⟩ 35 35 (.ms b 0 i 1) (.sl 1 [[.int .i64 n]] .tight)=some (.ms H.length 0 (i+1) 1,⟨H.set b .dead++[.cells (c++[.int .i64 n])],T⟩):=by
 simp[zn,zZ,KA,qP,hb,show i+1<=549755813888 by omega,hc,show c.take i=c from qyN (by omega)]
def qb2(U l tok)(hlen:l.length<2^28):
 qf prog GG 167 [.sl 0 [] .nil,.fn 120 [] [.rptr [.sl 1 (Jv l) tok]]] U (qxu U l):=by
 refine qCM ⟨true,[],[],[]⟩ qe func167 rfl (by kernel_rfl) ?_;simp;refine qir (qaU _) (fun _=>True) (l.map fun n=>.int .i64 n) (qxR U U.H.length l) (by simp[ev]) (qwu GG l tok (by omega)) (fun _ _ _=>trivial) ?_ ?_ ?_
 . refine⟨rfl,fun k hk=>?_,.sl 0 [] .nil,?_,.inl ⟨rfl,rfl⟩⟩
   . simp[qyT hk]
   . simp
 . rintro i v τ hi ⟨h1,h2,w,h3,h4⟩;obtain⟨n,hn,rfl⟩:∃n,l[i]?=some n/\v=.int .i64 n:=by
    simp only[qy7,qyM]at hi;obtain⟨n,a,b⟩:=hi;exact⟨n,a,b.symm⟩
   have hil:i<l.length:=(qyF.1 hn).1;obtain⟨H,T⟩:=τ;simp only at h1 h2 h3 h4;simp[h3];have hnl:=(qyF.1 h3).1;have htk:(l.take (i+1)).map (fun n=>AV.int .i64 n)=(l.take i).map (fun n=>AV.int .i64 n)++[.int .i64 n]:=by
    rw[qzb,hn];simp
   rcases h4 with⟨rfl,rfl⟩|⟨b,rfl,hi0,hb,hcb⟩
   . rw[qjU];simp[qyT hnl,h3];refine⟨h1,fun k hk=>?_,.ms H.length 0 1 1,?_,.inr ⟨H.length,rfl,by omega,hnl,?_⟩⟩
     . simp only;rw[qyI (by omega),qyT (by omega)];exact h2 k hk
     . simp only;rw[qyL (by simp;omega)]
     simp only;rw[qyI (by omega),qyO (qyQ _),htk];simp
   have hcl:((l.take i).map fun n=>AV.int .i64 n).length=i:=(by simp;omega);rw[qm2 H T n b i _ hcb hcl (by omega)];have hbl:b<H.length:=(qyF.1 hcb).1;have h3':(H.set b .dead++[.cells ((l.take i).map (fun n=>AV.int .i64 n)++[.int .i64 n])])[U.H.length]?=some (.cells [.ms b 0 i 1]):=by
    rw[qyT (by simpa using hnl),qyI (by omega),h3]
   generalize hH':H.set b .dead++[.cells ((l.take i).map (fun n=>AV.int .i64 n)++[.int .i64 n])]=H' at h3';simp[h3'];have hl':H'.length=H.length+1:=(by rw[<- hH'];simp);refine⟨h1,fun k hk=>?_,.ms H.length 0 (i+1) 1,?_,.inr ⟨H.length,rfl,by omega,hnl,?_⟩⟩
   . simp only;rw[qyI (by omega),<- hH',qyT (by simp;omega),qyI (by omega)];exact h2 k hk
   . simp only;rw[qyL (by omega)]
   simp only;rw[qyI (by omega),htk,<- hH',qyO (by simp)];simp
 rintro τ ⟨h1,h2,w,h3,h4⟩;simp[h3];refine⟨h1,h2,?_⟩;simp only[qzk,qAJ]at h4;rcases h4 with⟨h0,rfl⟩|⟨b,rfl,h0,hb,hc⟩
 . exact .inl ⟨qyX h0,rfl⟩
 exact .inr ⟨b,rfl,fun e=>by rw[e]at h0;simp at h0,hc⟩
def qgm(U l tok)(hlen:l.length<2^28):
 qf prog GG 118 [.fn 120 [] [.rptr [.sl 1 (Jv l) tok]]] U (qxu U l):=by
 refine qCN qe func118 rfl (by kernel_rfl) ?_;simp;refine qCQ (qb2 U l tok hlen) ?_;rintro v τ h;simp;exact h
def qwU:IntKind.i64.wrap 1=1:=wr (by omega) (by omega)
def qgC:List Int->Int->List Int
 |[],x=>[x]
 |y::r,x=>if x<y then y::qgC r x else x::y::r
def qes(s:List Int)(x:Int):List Int:=(qgC s.reverse x).reverse
def wA(l:List Int):List Int:=l.foldl qes []
def qer:∀(s) (x),(qgC s x).length=s.length+1
 |[],x=>rfl
 |y::r,x=>by unfold qgC;split<;>simp[qer r x]
def ql3(s x):(qes s x).length=s.length+1:=by simp[qes,qer]
def ZG(l x):wA (l++[x])=qes (wA l) x:=by simp[wA,qz5]
def YQ:∀(n) (l),l.length=n->(wA l).length=n:=by
 intro n
 induction n with
 |zero=>intro l h;rw[qyX h];rfl
 | succ n ih=>
  intro l h;have hne:l≠[]:=fun e=>by rw[e]at h;simp at h
  rw[<- qAX hne,ZG,ql3,ih _ (by simp[h])]
def qbp{A B x}(h:∀y∈B,x<y):qes (A++B) x=qes A x++B:=by
 unfold qes;rw[qBs];have:∀(C D:List Int),(∀y∈C,x<y)->qgC (C++D) x=C++qgC D x:=by
  intro C D hC
  induction C with
  |nil=>rfl
  | cons c C ih=>
   have:=hC c (by simp);rw[qy3,qgC,if_pos this,ih fun y hy=>hC y (by simp[hy])];rfl
 rw[this _ _ fun y hy=>h y (by simpa using hy),qBs,List.reverse_reverse]
def ql1(x):qes [] x=[x]:=rfl
def qiw{A y x}(h:¬x<y):qes (A++[y]) x=A++[y,x]:=by
 unfold qes;rw[qBs];show(qgC (y::A.reverse) x).reverse=_;rw[qgC,if_neg h];simp
def qpP(a b):Pure prog GG 236 [.int .i64 a,.int .i64 b] (.bool (decide (a<b))):=by
 have hn:∀z:Int,Pure prog GG 296 [.int .i64 z] (.bool false):=fun z=>by
  refine qCL qe func296 rfl (by kernel_rfl) ?_;simp
 refine qCL qe func236 rfl (by kernel_rfl) ?_;simp;refine qCO (hn a) rfl ?_;simp
def qk8:List (Nat×Sch×List Nat):=[(6,.step 0 [17,16,15,14] (.step 1 [17,16,15,14] (.step 2 [17,16] (.step 3 [17,16,4] (.step 4 [17,16] (.step 5 [17,16,15,14,9,8] (.step 6 [17,16,15,14,9,8,7] (.step 7 [17,16,15,14,9,8] (.step 8 [17,16,15,14,9] (.step 9 [17,16,15,14] (.step 10 [17,16,15,14,13,12] (.step 11 [17,16,15,14,13,12] (.step 12 [17,16,15,14,13] (.step 13 [17,16,15,14] (.step 14 [17,16,15] (.step 15 [17,16] (.step 16 [17] (.step 17 [] (.done)))))))))))))))))),[])]
def qu1(b:Nat)(l:List Int)(H:List Blk)(T:List (Option Nat))(r:AV)(τ:St):Prop:=τ=⟨H.set b (.cells (zw (wA l))),T⟩
def qib{A B x j}(h:A.length=j):(zw (A++x::B)).drop j=.int .i64 x::zw B:=by
 subst h;unfold zw;rw[qzE,qAT (by simp),qzf (by simp)];simp
def qp2{b l}(hl:l.length<=1000){H T}(hb:H[b]?=some (.cells (zw l))):
 qf prog GG 230 [.ms b 0 l.length 1,.int .i64 0,.int .i64 l.length] ⟨H,T⟩ (qu1 b l H T):=by
 refine qCM ⟨false,qk8,[],[]⟩ qe func230 rfl (by kernel_rfl) ?_;have hbl:=(qyF.1 hb).1;simp;refine qCR (fun n ev U=>ev 0=.ms b 0 l.length 1/\ev 1=.int .i64 0/\ev 2=.int .i64 l.length/\∃i,n=l.length+1-i/\1<=i/\(i<=l.length\/i=1)/\ev 6=.int .i64 (i:Int)/\U=⟨H.set b (.cells (zw (wA (l.take i)++l.drop i))),T⟩) l.length ?_ ?_
 . refine⟨by simp,by simp,by simp,1,by omega,by omega,.inr rfl,by simp[qwU],?_⟩;have:wA (l.take 1)++l.drop 1=l:=by
    cases l with
    |nil=>rfl
    |cons a r=>rfl
   rw[this];have:H.set b (.cells (zw l))=H:=by
    apply qzC;intro j;by_cases hj:b=j
    . subst hj;rw[qyL hbl,hb]
    rw[qyI hj]
   rw[this]
 rintro n ev U R hR ⟨e0,e1,e2,i,rfl,hi1,hi2,e6,rfl⟩;by_cases hil:i<l.length
 . have hil':(i:Int)<l.length:=(by omega);have hw1:=wr (n:=(i:Int)+1) (by omega) (by omega);obtain⟨x,hx⟩:∃x,l[i]?=some x:=⟨_,qyH hil⟩;have hdr:l.drop i=x::l.drop (i+1):=by
    obtain⟨h1,h2⟩:=qyF.1 hx;rw[qy1 h1,h2]
   have htk:wA (l.take (i+1))=qes (wA (l.take i)) x:=(by rw[qzb,hx];exact ZG _ _);have hSl:(wA (l.take i)).length=i:=YQ _ _ (by simp;omega);rw[hdr];generalize wA (l.take i)=S at *;generalize hDD:l.drop (i+1)=D at *;have hDl:D.length=l.length-(i+1):=(by rw[<- hDD];simp);simp[e2,e6,hil'];refine qCR (fun n ev U=>ev 0=.ms b 0 l.length 1/\ev 1=.int .i64 0/\ev 2=.int .i64 l.length/\ev 6=.int .i64 (i:Int)/\∃j A B,n=j/\j<=i/\ev 7=.int .i64 (j:Int)/\A.length=j/\S=A++B/\(∀y∈B,x<y)/\U=⟨H.set b (.cells (zw (A++x::(B++D)))),T⟩) i ?_ ?_
   . exact⟨by simp[e0],by simp[e1],by simp[e2],by simp[e6],i,S,[],rfl,qyQ _,by simp,hSl,by simp⟩
   rintro n ev U R2 hR2 ⟨e0,e1,e2,e6,j,A,B,rfl,hji,e7,hAl,hSAB,hBx,rfl⟩;have hBl:B.length=i-n:=(by have:=hSl;rw[hSAB,qyK]at this;omega);have fin:∀ev',ev' 0=.ms b 0 l.length 1->ev' 1=.int .i64 0->ev' 2=.int .i64 l.length->ev' 6=.int .i64 ((i+1:Nat):Int)->qes S x=A++x::B->R ev' ⟨H.set b (.cells (zw (A++x::(B++D)))),T⟩:=fun ev' a0 a1 a2 a6 hins=>by
    refine hR (l.length+1-(i+1)) _ _ (by omega) ⟨a0,a1,a2,i+1,rfl,by omega,.inl (by omega),a6,?_⟩;rw[htk,hins];simp[hDD]
   cases n with
   | zero=>
    have hA0:=qyX hAl;subst hA0;simp;rw[QC (by rfl)];simp[e1,e6,e7,hw1];refine fin _ (by simp[e0]) (by simp[e1]) (by simp[e2]) (by simp) ?_;rw[hSAB];have:=qbp (A:=[]) hBx;simpa[ql1] using this
   | succ j=>
    obtain⟨A',y,rfl⟩:∃A' y,A=A'++[y]:=by
     have hne:A≠[]:=fun e=>by rw[e]at hAl;simp at hAl
     exact⟨A.dropLast,A.getLast hne,(qAX hne).symm⟩
    have hA'l:A'.length=j:=(by simpa using hAl);have hj1:=wr (n:=((j:Int)+1)-1) (by omega) (by omega);have hjj:((j:Int)+1)-1=j:=(by omega);rw[hjj]at hj1;have hrow:(A'++[y])++x::(B++D)=A'++y::x::(B++D):=(by simp);have hd1:(zw (A'++y::x::(B++D))).drop (j+1)=.int .i64 x::zw (B++D):=by
     have:=qib (A:=A'++[y]) (x:=x) (B:=B++D) (j:=j+1) (by simpa using hA'l)
     rwa[hrow]at this
    have hd0:(zw (A'++y::x::(B++D))).drop j=.int .i64 y::zw (x::(B++D)):=qib hA'l;have hlen:(zw (A'++y::x::(B++D))).length=l.length:=(by rw[qY];simp;omega);have hget:∀z:Blk,(H.set b z)[b]?=some z:=fun z=>qyL hbl
    have hjl:(j:Int)+1<l.length:=(by omega);have hjl0:(j:Int)<l.length:=(by omega);have hjn:(0:Int)<=(j:Int)+1:=(by omega);have hjt:((j:Int)+1).toNat=j+1:=(by omega);have hjl1:j+1+1<=l.length:=(by omega);have hjl2:j+1<=l.length:=(by omega);simp only[qCk,qCl]at e7;rw[hrow]at fin⊢;have hlt:=qpP x y;simp;rw[QC (by rfl)];simp[e0,e1,e7,show(0:Int)<(j:Int)+1 by omega,hjl,hjl0,hjn,hjt,hget,hlen,hjl1,hjl2,hd1,hd0,hjj,hj1];refine qCO hlt rfl ?_;by_cases hxy:x<y
    . have hs1:(zw (A'++y::x::(B++D))).set (j+1) (.int .i64 y)=zw (A'++y::y::(B++D)):=by
       rw[wa,qzO _ _ (by omega),hA'l,qzF];rfl
      have hs2:(zw (A'++y::y::(B++D))).set j (.int .i64 x)=zw (A'++x::y::(B++D)):=by
       rw[wa,qzO _ _ (by omega),hA'l,qzU];rfl
      simp[hxy];rw[qJ rfl];simp[qX,e0,e7,hjl,hjl0,hjn,hjt,hget,hlen,show(zw (A'++y::y::(B++D))).length=l.length by rw[qY];simp;omega,hjl1,hjl2,hd1,hd0,hjj,hj1,hs1,hs2];exact hR2 j _ _ (by omega) ⟨by simp[e0],by simp[e1],by simp[e2],by simp[e6],j,A',y::B,rfl,by omega,by simp,hA'l,by rw[hSAB];simp,fun z hz=>by
       rcases qy9.1 hz with rfl|hz
       . exact hxy
       exact hBx z hz,by simp⟩
    simp[hxy,e6,hw1];refine fin _ (by simp[e0]) (by simp[e1]) (by simp[e2]) (by simp) ?_;rw[hSAB,qbp hBx,qiw hxy];simp
 have hil':¬(i:Int)<l.length:=by omega
 have hq:qu1 b l H T (.tup []) ⟨H.set b (.cells (zw (wA (l.take i)++l.drop i))),T⟩:=by
  rw[show l.take i=l from qyN (by omega),show l.drop i=[] from qzf (by omega),qzp];rfl
 simp[e2,e6,hil'];exact hq
def qsF(n:Nat)(h:n<=12):Pure prog GG 223 [.int .u64 n] (.int .i64 ((if n=0 then 0 else if n=1 then 1 else if n<4 then 2 else if n<8 then 3 else 4:Nat):Int)):=by
 refine qCL qe func223 rfl (by kernel_rfl) ?_;have h4:IntKind.u8.wrap (n:Int)=n:=by
  have:n=0\/n=1\/n=2\/n=3\/n=4\/n=5\/n=6\/n=7\/n=8\/n=9\/n=10\/n=11\/n=12:=by omega
  rcases this with rfl|rfl|rfl|rfl|rfl|rfl|rfl|rfl|rfl|rfl|rfl|rfl|rfl<;>decide
 simp[show ¬(4294967296:Int)<=n by omega,show ¬(65536:Int)<=n by omega,show ¬(256:Int)<=n by omega,yS,h4];have:n=0\/n=1\/n=2\/n=3\/n=4\/n=5\/n=6\/n=7\/n=8\/n=9\/n=10\/n=11\/n=12:=by omega
 rcases this with rfl|rfl|rfl|rfl|rfl|rfl|rfl|rfl|rfl|rfl|rfl|rfl|rfl<;>simp[yS,show IntKind.i64.wrap 0=0 by decide,show IntKind.i64.wrap 1=1 by decide,show IntKind.i64.wrap 2=2 by decide,show IntKind.i64.wrap 3=3 by decide,show IntKind.i64.wrap 4=4 by decide]
def qpQ(n:Nat)(h:n<=12):Pure prog GG 169 [.int .u64 n] (.int .i64 ((if n=0 then 0 else if n=1 then 1 else if n<4 then 2 else if n<8 then 3 else 4:Nat):Int)):=by
 refine qCL qe func169 rfl (by kernel_rfl) ?_;have h1:=qsF n h;generalize ((if n=0 then 0 else if n=1 then 1 else if n<4 then 2 else if n<8 then 3 else 4:Nat):Int)=m at *;simp;refine qCO h1 rfl ?_;simp
def qpo{b l}(hl:l.length<=12)(m){H T}(hb:H[b]?=some (.cells (zw l))):
 qf prog GG 168 [.ms b 0 l.length 1,.int .i64 0,.int .i64 l.length,m] ⟨H,T⟩ (qu1 b l H T):=by
 refine qCN qe func168 rfl (by kernel_rfl) ?_;have hw:=wr (n:=(l.length:Int)) (by omega) (by omega);simp;refine qCR (fun n ev U=>ev 0=.ms b 0 l.length 1/\ev 1=.int .i64 0/\ev 2=.int .i64 l.length/\U=⟨H,T⟩) 0 ⟨by simp,by simp⟩ ?_;rintro n ev U R hR ⟨h0,h1,h2,rfl⟩;simp[h0,h1,h2,hw,show(l.length:Int)<=12 by omega];refine qCQ (qp2 (by omega) hb) ?_;rintro v τ h;simp;exact h
def qik:∀n:Nat,n<=12->∃m,Pure prog GG 169 [.int .u64 n] (.int .i64 m):=fun n h=>⟨_,qpQ n h⟩
def qkO{b l}(hl:l.length<=12){H T}(hb:H[b]?=some (.cells (zw l))):
 qf prog GG 119 [.ms b 0 l.length 1] ⟨H,T⟩ (qu1 b l H T):=by
 refine qCN qe func119 rfl (by kernel_rfl) ?_;have ec:IntKind.u64.wrap (l.length:Int)=l.length:=by
  have:l.length=0\/l.length=1\/l.length=2\/l.length=3\/l.length=4\/l.length=5\/l.length=6\/l.length=7\/l.length=8\/l.length=9\/l.length=10\/l.length=11\/l.length=12:=by omega
  rcases this with e|e|e|e|e|e|e|e|e|e|e|e|e<;>rw[e]<;>decide
 obtain⟨m,hm⟩:=qik l.length hl;simp[yS,ec];refine qCO (G:=Jx GG) hm (by simp[qx,zb]) ?_;simp;refine qCQ (qpo hl _ hb) ?_;rintro v τ h;simp;exact h
def qvx(sz tok U):qf prog GG 119 [.sl sz [] tok] U (fun _ τ=>τ=U):=by
 obtain⟨m,hm⟩:=qik 0 (by omega);refine qCN qe func119 rfl (by kernel_rfl) ?_;simp[yS,show IntKind.u64.wrap 0=0 by decide];refine qCO (G:=Jx GG) hm (by simp[qx,zb]) ?_;simp;have h371:∀τ:St,qf prog GG 230 [.sl sz [] tok,.int .i64 0,.int .i64 0] τ (fun _ τ'=>τ'=τ):=fun τ=>by
  refine qCN qe func230 rfl (by kernel_rfl) ?_;simp;refine qCR (fun _ ev (τ':St)=>ev 6=.int .i64 1/\ev 2=.int .i64 0/\τ'=τ) 0 ⟨by simp[qwU],by simp⟩ ?_;rintro n ev τ' R hR ⟨h6,h2,rfl⟩;simp[h6,h2]
 have h295:qf prog GG 168 [.sl sz [] tok,.int .i64 0,.int .i64 0,.int .i64 m] U (fun _ τ'=>τ'=U):=by
  refine qCN qe func168 rfl (by kernel_rfl) ?_;simp;refine qCR (fun _ ev (τ:St)=>ev 0=.sl sz [] tok/\ev 1=.int .i64 0/\ev 2=.int .i64 0/\τ=U) 0 ⟨by simp,by simp⟩ ?_;rintro n ev τ R hR ⟨h0,h1,h2,rfl⟩;simp[h0,h1,h2,show IntKind.i64.wrap 0=0 by decide];refine qCQ (h371 τ) ?_;rintro v τ' rfl;simp
 refine qCQ h295 ?_;rintro v τ rfl;simp
def qfy(l)(hl:l.length<=12)(tok):Pure prog GG 74 [.fn 120 [] [.rptr [.sl 1 (Jv l) tok]]] (.sl 1 ((wA l).map qq) .none):=by
 refine qCK o0 true qe func74 rfl (by kernel_rfl) ?_;simp;refine qCQ (qgm _ l tok (by omega)) ?_;rintro v ⟨H,T⟩ ⟨h1,h2,h3⟩;have hlen:(wA l).length=l.length:=YQ _ _ rfl;have key:∃Q:AV->St->Prop,qf prog GG 119 [v] ⟨H,T⟩ Q/\∀r τ,Q r τ->∃b,jr b 1 qq τ.H v (wA l):=by
  rcases h3 with⟨rfl,rfl⟩|⟨b,rfl,h0,hb⟩
  . exact⟨_,qvx _ _ _,fun r τ e=>⟨0,.inl ⟨rfl,rfl⟩⟩⟩
  refine⟨_,qkO hl hb,fun r τ e=>⟨b,.inr ⟨fun e=>h0 (qyX (by rw[<- hlen,e];rfl)),by rw[hlen],?_⟩⟩⟩;rw[e,<- yE];exact qyL (qyF.1 hb).1
 obtain⟨Q,hQ,hi⟩:=key;simp;refine qCQ hQ ?_;rintro r τ hr;obtain⟨b,ho⟩:=hi r τ hr;simp;exact⟨ho.frzNo (fun _=>rfl) (fun _=>rfl) (fun _=>rfl) 7,ho.frz (fun _=>rfl) (fun _=>rfl) (fun _=>rfl) 7⟩
def wI:∀l:List Int,zk (Jv l)=true
 |[]=>rfl
 | a::r=>by
  have:=wI r;simpa[Jv,zk,qx] using this
def qgX(l tok)(ht:∀t k,tok≠.chain t k):Pure prog GG 75 [.sl 1 (Jv l) tok] (.fn 120 [] [.rptr [.sl 1 (Jv l) tok]]):=by
 refine qCK o0 true qe func75 rfl (by kernel_rfl) ?_;simp;have hn:zb (.sl 1 (Jv l) tok)=true:=by
  have:=wI l;cases tok<;>simp_all[zb]
 have e:frz [Blk.cells [.sl 1 (Jv l) tok]] 8 (.fn 120 [] [.ptr 0 0])=.fn 120 [] [.rptr [.sl 1 (Jv l) tok]]:=by
  rw[frz];simp only[zb];simp[qiG,qS hn,qx]
 rw[e];have:=wI l;exact⟨by cases tok<;>simp_all[zb,qx],qCT _⟩
