import Derived.Test.YtimecmegnocamaaGreatDoorPq40
import Derived.Test.YtimecmegnocamaaGreatDoorPq41
set_option maxRecDepth 100000
set_option maxHeartbeats 16000000
set_option linter.all false
set_option linter.defProp false
namespace Go.Proofs.YtimecmegnocamaaGreatDoor
open Go Go.Abs Tryz
def quv{w:Int}(h0:0<=w)(h1:w<=30):IntKind.i64.wrap ((2:Int)^min w.toNat IntKind.i64.bits)=((2^w.toNat:Nat):Int):=by
 have e:min w.toNat IntKind.i64.bits=w.toNat:=qCq (by show w.toNat<=64;omega);rw[e];have:2^w.toNat<=2^30:=qBn (by omega) (by omega);rw[show(2:Int)^w.toNat=((2^w.toNat:Nat):Int) by simp];generalize 2^w.toNat=N at *;exact wr (by omega) (by omega)
def qkx(w):Pure prog GG 263 [.agg (qz w)] (.int .i64 (if w.each=true then 1 else 0)):=by
 refine qFm qg func263 rfl (by kernel_rfl) ?_;cases h:w.each<;>simp[h]
def qve(w):Pure prog GG 186 [.agg (qz w),.int .u8 115] (.bool (!w.each)):=by
 obtain⟨lo,hi,wt,each⟩:=w;have hk:=qkx ⟨lo,hi,wt,each⟩;refine qFm qg func186 rfl (by kernel_rfl) ?_;cases each
 all_goals
  simp at hk;simp;refine qFp hk rfl ?_;simp;refine qFp hk rfl ?_;simp
def qvf(w):Pure prog GG 186 [.agg (qz w),.int .u8 101] (.bool w.each):=by
 obtain⟨lo,hi,wt,each⟩:=w;have hk:=qkx ⟨lo,hi,wt,each⟩;refine qFm qg func186 rfl (by kernel_rfl) ?_;cases each
 all_goals
  simp at hk;simp;refine qFp hk rfl ?_;simp;refine qFp hk rfl ?_;simp
def qfc(w)(h0:0<=w.lo)(h1:w.lo<=w.hi)(h2:w.hi<=65535):Pure prog GG 188 [.agg (qz w)] (.int .i64 (w.hi-w.lo+1)):=by
 refine qFm qg func188 rfl (by kernel_rfl) ?_;simp[show IntKind.i64.wrap (w.hi-w.lo)=w.hi-w.lo from wr (by omega) (by omega),show IntKind.i64.wrap (w.hi-w.lo+1)=w.hi-w.lo+1 from wr (by omega) (by omega)]
def qix(N:Int)(w:Weight):Bool:=decide (w.lo<0)||decide (w.hi<w.lo)||decide (N-1<w.hi)||decide (w.weight<0)||decide (1000<w.weight)
def yx(l:List Weight)(width:Int):Int :=
 if width<1\/8<width then 1 else if 16<l.length then 2 else if l.length=0 then 1 else if l.any (qix ((2^width.toNat:Nat):Int))=true then 1 else 0
def qlf(l)(hl:Fits l)(width):Pure prog GG 183 [.sl 4 (l.map qz) .none,.int .i64 width] (.int .i64 (yx l width)):=by
 refine qFm qg func183 rfl (by kernel_rfl) ?_;generalize hr:yx l width=r;unfold yx at hr;by_cases hw:width<1\/8<width
 . rw[if_pos hw]at hr;subst hr;rcases hw with h|h
   . simp[h]
   have:¬width<1:=by omega
   simp[h,this]
 rw[if_neg hw]at hr;have h1:¬width<1:=by omega
 have h2:¬8<width:=by omega
 have hsh:=quv (w:=width) (by omega) (by omega);by_cases hb:16<l.length
 . rw[if_pos hb]at hr;subst hr;have hb':(16:Int)<l.length:=(by omega);simp[h1,h2,hb']
 rw[if_neg hb]at hr;by_cases hz:l.length=0
 . rw[if_pos hz]at hr;subst hr;have hz':=qA6 hz;subst hz';simp[h1,h2]
 rw[if_neg hz]at hr;have hNb:2^width.toNat<=2^8:=qBn (by omega) (by omega);have hNp:0<2^width.toNat:=qEV (by omega);generalize 2^width.toNat=N at hr hsh hNb hNp;have hz':l≠[]:=fun e=>hz (by rw[e];rfl)
 simp[h1,h2,show ¬(16:Int)<l.length by omega,hz'];refine qFF l (fun d ev U=>ev 0=.sl 4 (l.map qz) .none/\ev 1=.int .i64 width/\ev 22=.sl 4 (l.map qz) .none/\ev 23=.int .i64 l.length/\ev 24=.int .i64 d.length/\d.any (qix N)=false) ?_ ?_ ?_
 . simp
 . rintro d w rest ev U R hR hd hx hlt ⟨e0,e1,e22,e23,e24,ha⟩;have hbad:qix N w=true->r=1:=fun h=>by
    have:l.any (qix N)=true:=by rw[hd];simp[h]
    rw[if_pos this]at hr;exact hr.symm
   simp[-getElem?_pos,e1,e22,e23,e24,hlt,hx,show ¬width<0 by omega,hsh,show IntKind.i64.wrap ((N:Int)-1)=N-1 from wr (by omega) (by omega),show IntKind.i64.wrap ((d.length:Int)+1)=(d.length+1:Nat) by rw[wr (by omega) (by omega)];omega]
   repeat' first|(with_reducible refine And.intro ?_ ?_)|(intro _)
   all_goals first
    |exact(hbad (by unfold qix;simp;omega)).symm
    |exact hR _ _ ⟨by simp[e0],by simp[e1],by simp[e22],by simp[e23],by simp,by simp[qix,ha];omega⟩
 rintro ev U ⟨e0,e1,e22,e23,e24,ha⟩;rw[if_neg (by rw[ha];simp)]at hr;subst hr;simp[e23,e24]
def J1(l:List Weight)(v:Int):Option Weight:=l.find? fun w=>decide (w.lo<=v)&&decide (v<=w.hi)
def qnG(l)(hl:Fits l)(v):Pure prog GG 185 [.sl 4 (l.map qz) .none,.int .i64 v]
 (match J1 l v with|some w=>.tup [.agg (qz w),.bool true]|none=>.tup [.agg (qz ⟨0,0,0,false⟩),.bool false]):=by
 refine qFm qg func185 rfl (by kernel_rfl) ?_;generalize hr:J1 l v=r;unfold J1 at hr;simp;refine qFF l (fun d ev U=>ev 0=.sl 4 (l.map qz) .none/\ev 1=.int .i64 v/\ev 4=.ptr 0 0/\ev 8=.sl 4 (l.map qz) .none/\ev 9=.int .i64 l.length/\ev 10=.int .i64 d.length/\(∃t,U=⟨.cells (qz ⟨0,0,0,false⟩)::t,[]⟩)/\∀w∈d,¬(w.lo<=v/\v<=w.hi)) ?_ ?_ ?_
 . simp
 . rintro d w rest ev U R hR hd hx hlt ⟨e0,e1,e4,e8,e9,e10,⟨t,rfl⟩,ha⟩;by_cases hc:w.lo<=v/\v<=w.hi
   . have:r=some w:=by
      rw[<- hr,hd,qEC,qDD.2 (fun x hx=>by have:=ha x hx;simp;omega)];simp[hc]
     subst this;simp[-getElem?_pos,e1,e4,e8,e9,e10,hlt,hx,hc]
   have hgo:=hR;simp[-getElem?_pos,e1,e4,e8,e9,e10,hlt,hx,show IntKind.i64.wrap ((d.length:Int)+1)=(d.length+1:Nat) by rw[wr (by omega) (by omega)];omega]
   repeat' first|(with_reducible refine And.intro ?_ ?_)|(intro _)
   all_goals first
    |(exfalso;omega)
    | exact hR _ _ ⟨by simp[e0],by simp[e1],by simp[e4],by simp[e8],by simp[e9],by simp,⟨_,rfl⟩,fun x hx=>by
     rcases qBb.1 hx with h|h
     . exact ha x h
     simp at h;subst h;exact hc⟩
 rintro ev U ⟨e0,e1,e4,e8,e9,e10,⟨t,rfl⟩,ha⟩;have:r=none:=by
  rw[<- hr,qDD];intro x hx;have:=ha x hx;simp;omega
 subst this;simp[-getElem?_pos,e4,e9,e10]
def wsz(w:Weight):Nat:=(w.hi-w.lo+1).toNat
def WOk(l:List Weight):Prop:=∀w∈l,0<=w.lo/\w.lo<=w.hi/\w.hi<=255/\0<=w.weight/\w.weight<=1000
def vV{l width}(h:yx l width=0):WOk l/\l.length<=16/\l≠[]:=by
 unfold yx at h;split at h
 . cases h
 rename_i hw;split at h
 . cases h
 split at h
 . cases h
 rename_i h1 h2;split at h
 . cases h
 rename_i hb;refine⟨fun w hw=>?_,by omega,fun e=>h2 (by rw[e];rfl)⟩;have hNb:2^width.toNat<=2^8:=qBn (by omega) (by omega);generalize 2^width.toNat=N at *;simp at hb;have:=hb w hw;unfold qix at this;simp at this;omega
def zN:List Weight->Nat->Int×Int
 |[],s=>(s,0)
 |w::r,s=>if w.each=true then zN r s else if Nat.lcm s (wsz w)<9223372036854775808 then zN r (Nat.lcm s (wsz w)) else(0,3)
def YT{w}(h:w.lo<=w.hi):0<wsz w:=by unfold wsz;omega
def qmZ(l)(hl:l.length<=1000)(hw:WOk l):Pure prog GG 184 [.sl 4 (l.map qz) .none] (.tup [.int .i64 (zN l 1).1,.int .i64 (zN l 1).2]):=by
 refine qFm qg func184 rfl (by kernel_rfl) ?_;generalize hr:zN l 1=r;simp;refine qFF l (fun d ev U=>ev 0=.sl 4 (l.map qz) .none/\ev 8=.sl 4 (l.map qz) .none/\ev 9=.int .i64 l.length/\ev 10=.int .i64 d.length/\∃s:Nat,ev 4=.int .i64 s/\0<s/\s<9223372036854775808/\zN (l.drop d.length) s=r) ?_ ?_ ?_
 . exact⟨by simp,by simp,by simp,by simp,1,by simp,by omega,by omega,by simpa using hr⟩
 . rintro d w rest ev U R hR hd hx hlt ⟨e0,e8,e9,e10,s,e4,hs0,hs1,hsc⟩;have hdw:IntKind.i64.wrap ((d.length:Int)+1)=(d.length+1:Nat):=(by rw[wr (by omega) (by omega)];omega);obtain⟨w0,w1,w2,w3,w4⟩:=hw w (qAV hx);rw[show l.drop d.length=w::l.drop (d.length+1) by rw[hd];simp]at hsc;have hwp:=YT w1;have hsz:(wsz w:Int)=w.hi-w.lo+1:=(by unfold wsz;omega);have h1:=qve w;have h2:=qfc w w0 w1 (by omega);have h3:=qu8 s (wsz w) hs0 hwp hs1 (by omega);rw[hsz]at h3;have hlp:=Nat.lcm_pos hs0 hwp;have hgo:∀(s':Nat) (ev':Env) (U':St),0<s'->s'<9223372036854775808->zN (l.drop (d.length+1)) s'=r->ev' 0=.sl 4 (l.map qz) .none->ev' 8=.sl 4 (l.map qz) .none->ev' 9=.int .i64 l.length->ev' 10=.int .i64 (d.length+1:Nat)->ev' 4=.int .i64 s'->R ev' U':=fun s' ev' U' a1 a2 a3 a4 a5 a6 a7 a8=>
    hR _ _ ⟨a4,a5,a6,by simpa using a7,s',a8,a1,a2,by simpa using a3⟩
   obtain⟨lo,hi,wt,each⟩:=w;simp[-getElem?_pos,e8,e9,e10,hlt,hx];refine qFp h1 rfl ?_;cases each
   . simp only[zN,qBz,if_false]at hsc;simp[e4];refine qFp h2 rfl ?_;simp;refine qFp h3 rfl ?_;generalize Nat.lcm s (wsz ⟨lo,hi,wt,false⟩)=L at hsc hlp⊢;by_cases hL:L<9223372036854775808
     . rw[if_pos hL]at hsc;simp[*,J6];exact hgo L _ _ hlp hL hsc (by simp[e0]) (by simp[e8]) (by simp[e9]) (by simp) (by simp)
     rw[if_neg hL]at hsc;subst hsc;simp[J6,hL]
   simp only[zN,if_true]at hsc;simp[*];exact hgo s _ _ hs0 hs1 hsc (by simp[e0]) (by simp[e8]) (by simp[e9]) (by simp) (by simp[e4])
 rintro ev U ⟨e0,e8,e9,e10,s,e4,hs0,hs1,hsc⟩;rw[qBL]at hsc;simp only[zN]at hsc;subst hsc;simp[*]
def kg:∀(l) (s),WOk l->0<s->s<9223372036854775808->((zN l s).2=0/\0<(zN l s).1/\(zN l s).1<9223372036854775808)\/zN l s=(0,3)
 |[],s,_,h0,h1=>.inl ⟨rfl,by simp only[zN];omega,by simp only[zN];omega⟩
 | w::r,s,hw,h0,h1=>by
  have hr:WOk r:=fun x hx=>hw x (by simp[hx])
  have hwp:=YT (hw w (by simp)).2.1;simp only[zN];split
  . exact kg r s hr h0 h1
  split
  . rename_i h;exact kg r _ hr (Nat.lcm_pos h0 hwp) h
  exact .inr rfl
def vP(l:List Weight)(s:Nat)(v:Int):Int×Int:=match J1 l v with
 |none=>(0,0)
 |some w=>if w.each=true then J6 (w.weight.toNat*s) else J6 (w.weight.toNat*(s/wsz w))
def qiR(l:List Weight)(hl:l.length<=1000)(hw:WOk l)(s:Nat)(hs:s<9223372036854775808)(v:Int):Pure prog GG 128 [.sl 4 (l.map qz) .none,.int .i64 s,.int .i64 v] (.tup [.int .i64 (vP l s v).1,.int .i64 (vP l s v).2]):=by
 have ho:=qnG l (by unfold Fits;omega) v;refine qFm qg func128 rfl (by kernel_rfl) ?_;generalize hr:vP l s v=r;unfold vP at hr;simp;refine qFp ho (by simp) ?_
 cases hf:J1 l v with
 | none=>
  rw[hf]at hr;simp only at hr;subst hr;simp
 | some w=>
  rw[hf]at hr;simp only at hr;obtain⟨w0,w1,w2,w3,w4⟩:=hw w (qEH hf);have h1:=qvf w;have h2:=qfc w w0 w1 (by omega);have hwp:=YT w1;rw[<- show(wsz w:Int)=w.hi-w.lo+1 by unfold wsz;omega]at h2;obtain⟨k,hk⟩:∃k:Nat,w.weight=k:=⟨w.weight.toNat,by omega⟩;have hm1:=qkd k s (by omega) hs;have hq:s/wsz w<=s:=qBQ _ _;have hm2:=qkd k (s/wsz w) (by omega) (by omega);rw[show w.weight.toNat=k by omega]at hr;generalize hz:wsz w=z at *;obtain⟨q,hqe⟩:∃q,s/z=q:=⟨_,rfl⟩;have hdiv:(s:Int).tdiv z=q:=by
   rw[qBT (by omega)];omega
  rw[hqe]at hm2 hr hq;have hqu:=wr (n:=q) (by omega) (by omega);obtain⟨lo,hi,wt,each⟩:=w;simp only at hk;subst hk;cases each
  . simp at hr;subst hr;simp;refine qFp h1 rfl ?_;simp;refine qFp h2 rfl ?_;simp[*,show ¬z=0 by omega];refine qFp hm2 rfl ?_;simp
  simp at hr;subst hr;simp;refine qFp h1 rfl ?_;simp;refine qFp hm1 rfl ?_;simp
def qm0(l)(hl:l.length<=1000):Pure prog GG 127 [.sl 4 (l.map qz) .none]
 (.tup [.int .i64 (if yx l 8=0 then(zN l 1).1 else 0),.int .i64 (if yx l 8=0 then(zN l 1).2 else yx l 8)]):=by
 have hv:=qlf l (by unfold Fits;omega) 8;refine qFm qg func127 rfl (by kernel_rfl) ?_;simp;refine qFp hv (by simp) ?_;by_cases h:yx l 8=0
 . simp[h];refine qFp (qmZ l hl (vV h).1) (by simp) ?_;simp
 simp[h]
def zW(l:List Weight)(v:Int):Int×Int :=
 if yx l 8≠0 then(0,yx l 8) else if(zN l 1).2≠0 then(0,(zN l 1).2) else vP l (zN l 1).1.toNat v
def qmu(l)(hl:l.length<=1000)(v):Pure prog GG 71 [.sl 4 (l.map qz) .none,.int .i64 v] (.tup [.int .i64 (zW l v).1,.int .i64 (zW l v).2]):=by
 have hs:=qm0 l hl;refine qFm qg func71 rfl (by kernel_rfl) ?_;generalize hr:zW l v=r;unfold zW at hr;simp;refine qFp hs (by simp) ?_;by_cases h:yx l 8=0
 . have hw:=(vV h).1;rw[if_neg (by simp[h])]at hr;rcases kg l 1 hw (by omega) (by omega) with⟨h1,h2,h3⟩|h1
   . rw[if_neg (by simp[h1])]at hr;have he:=qiR l hl hw (zN l 1).1.toNat (by omega) v;rw[show(((zN l 1).1.toNat:Nat):Int)=(zN l 1).1 by omega]at he;simp[*];refine qFp he (by simp) ?_;subst hr;simp
   rw[h1]at hr;simp at hr;subst hr;simp[*]
 rw[if_pos h]at hr;subst hr;simp[h]
def Vn(n):sat n=min n 1099511627777:=rfl
def qjV(a b)(ha:a<=lim)(hb:b<=lim):Pure prog GG 140 [.int .i64 a,.int .i64 b] (.int .i64 (sat (a+b):Nat)):=by
 refine qFm qg func140 rfl (by kernel_rfl) ?_;unfold lim at ha hb;have hw:=wr (n:=(a:Int)+b) (by omega) (by omega);have hm:wV (.int .i64 ((a:Int)+b)) (.int .i64 1099511627777)=some (.int .i64 (sat (a+b):Nat)):=by
  simp only[wV,Vn];congr 2;split<;>omega
 simp[hw,hm]
def qak(a b)(ha:a<=lim)(hb:b<=lim):Pure prog GG 46 [.int .i64 a,.int .i64 b] (.int .i64 (sat (a*b):Nat)):=by
 refine qFm qg func46 rfl (by kernel_rfl) ?_;unfold lim at ha hb;by_cases h1:a=0
 . subst h1;simp[Vn]
 by_cases h2:b=0
 . subst h2;simp[h1,Vn]
 have hq:(1099511627777:Int).tdiv (b:Int)=((1099511627777/b:Nat):Int):=by
  rw[qBT (by omega)];simp
 have hqle:1099511627777/b<=1099511627777:=qBQ _ _;have hwq:IntKind.i64.wrap ((1099511627777/b:Nat):Int)=((1099511627777/b:Nat):Int):=by
  generalize 1099511627777/b=q at *;exact wr (by omega) (by omega)
 have h2':¬(b:Int)=0:=by omega
 by_cases hgt:1099511627777/b<a
 . have hgt':=Int.ofNat_lt.2 hgt;have hs:sat (a*b)=1099511627777:=by
    have:=(qEc (by omega)).1 hgt;rw[Vn];omega
   generalize 1099511627777/b=q at *;simp[-zz,VC,qpL,h1,h2,hs,show zz .quo .i64 1099511627777 b=some (.int .i64 (q:Int)) by simp only[zz];rw[if_neg h2',hq,hwq],hgt]
 have hgt':¬((1099511627777/b:Nat):Int)<(a:Int):=fun h=>hgt (Int.ofNat_lt.1 h)
 have hle:a*b<=1099511627777:=(qFa (by omega)).1 (by omega);have hww:=wr (n:=(a:Int)*b) (by
  have:(0:Int)<=(a:Int)*b:=by rw[<- Int.natCast_mul];omega
  omega) (by
  rw[<- Int.natCast_mul];omega)
 have hm:wV (.int .i64 ((a:Int)*b)) (.int .i64 1099511627777)=some (.int .i64 (sat (a*b):Nat)):=by
  simp only[wV,Vn];rw[<- Int.natCast_mul];congr 2;split<;>omega
 generalize hqq:1099511627777/b=q at *;simp[-zz,VC,quQ,qpL,h1,h2,show zz .quo .i64 1099511627777 b=some (.int .i64 (q:Int)) by simp only[zz];rw[if_neg h2',hq,hwq],hgt,hww,hm]
def jc(n:Nat)(l:List Dist):List (Option (List Weight)):=l.foldl (fun o d=>o.set d.var.toNat (some d.weights)) (List.replicate n none)
def qle(o:Option (List Weight)):List AV:=match o with
 |none=>[.sl 0 [] .nil]
 |some w=>[.sl 4 (w.map qz) .none]
def ye(n l):(jc n l).length=n:=by
 have:∀(l:List Dist) (o:List (Option (List Weight))),(l.foldl (fun o d=>o.set d.var.toNat (some d.weights)) o).length=o.length:=by
  intro l
  induction l with
  |nil=>intro o;rfl
  |cons a r ih=>intro o;rw[qBw,ih];simp
 unfold jc;rw[this];simp
def KP(n l d):jc n (l++[d])=(jc n l).set d.var.toNat (some d.weights):=by simp[jc,qBX]
def qh3{n}:∀{l:List Dist}{w:List Weight},some w∈jc n l->∃d∈l,d.weights=w:=by
 have gen:∀(l:List Dist) (o:List (Option (List Weight))) (w:List Weight),some w∈l.foldl (fun o d=>o.set d.var.toNat (some d.weights)) o->some w∈o\/∃d∈l,d.weights=w:=by
  intro l
  induction l with
  |nil=>intro o w h;exact .inl h
  | cons a r ih=>
   intro o w h;rw[qBw]at h;rcases ih _ w h with h|⟨d,hd,he⟩
   . rcases qCF h with h|h
     . exact .inl h
     . cases h;exact .inr ⟨a,by simp⟩
   exact .inr ⟨d,by simp[hd],he⟩
 intro l w h;rcases gen l _ w h with h|h
 . rw[qCL]at h;cases h.2
 exact h
def WFn(p:Problem)(L LL:Nat)(H:List Blk):Prop:=∃c,H[L]?=some (.cells [c])/\(p.vars≠[]->c=.ms LL 0 p.vars.length 1/\H[LL]?=some (.cells ((jc p.vars.length p.dists).flatMap qle)))
def qzK(p:Problem)(H:List Blk)(r:AV)(U':St):Prop:=KpL [] H U'.H/\∃L LL,r=.fn 70 [] [.ptr L 0]/\H.length<=L/\H.length<=LL/\WFn p L LL U'.H
def qld(o):(qle o).length=1:=by cases o<;>rfl
def qmv(p)(h:VQ p)(hv:qo p=0)(H T):qj prog GG 37 [.agg (qA p)] ⟨H,T⟩ (qzK p H):=by
 refine qFo qg func37 rfl (by kernel_rfl) ?_;have hvd:=qdY hv;have hvl:=h.vars;have hdf:=h.dists;by_cases hv0:p.vars=[]
 . have hd0:p.dists=[]:=by
    apply qCI.2;intro d hd;obtain⟨i,v,_,hi⟩:=hvd d hd;rw[hv0]at hi;simp at hi
   have fin:∀(u:List Blk) (T':List (Option Nat)) (B0:Blk) (c:AV),qzK p H (.fn 70 [] [.ptr (H.length+1) 0]) ⟨H++B0::.cells [c]::u,T'⟩:=fun u T' B0 c=>⟨qFX,H.length+1,H.length+1,rfl,by omega,by omega,c,lk1,fun hn=>absurd hv0 hn⟩
   simp[hv0,hd0,qG];refine qFu (fun m ev U=>ev 3=.ptr (H.length+1) 0/\ev 12=.int .i64 0/\ev 13=.int .i64 0/\∃B0 c u T',U=⟨H++B0::.cells [c]::u,T'⟩) 0 ⟨by simp,by simp,by simp,_,_,_,_,rfl⟩ ?_;rintro m ev U R hR ⟨e3,e12,e13,B0,c,u,T',rfl⟩;simp[e3,e12,e13];exact fin _ _ _ _
 have hpos:=qBf.2 hv0;have hne:¬(p.vars.length:Int)=0:=by omega
 simp[hv0,show(p.vars.length:Int)<=549755813888 by omega,qG];refine qFF p.dists (fun d ev U=>ev 3=.ptr (H.length+2) 0/\ev 11=.sl 2 (p.dists.map zs) .none/\ev 12=.int .i64 p.dists.length/\ev 13=.int .i64 d.length/\KpL [] H U.H/\U.H[H.length+2]?=some (.cells [.ms (H.length+1) 0 p.vars.length 1])/\U.H[H.length+1]?=some (.cells ((jc p.vars.length d).flatMap qle))) ?_ ?_ ?_
 . refine⟨by simp,by simp,by simp,by simp,qFX,lk2,?_⟩;have:(jc p.vars.length []).flatMap qle=List.replicate p.vars.length (.sl 0 [] .nil):=by
    show(List.replicate p.vars.length none).flatMap qle=_;rw[qCD,qDW];show(List.replicate p.vars.length [AV.sl 0 [] .nil]).flatten=_;simp
   rw[this];exact lk1
 . rintro d x rest ev ⟨H1,T1⟩ R hR hd hx hlt ⟨e3,e11,e12,e13,hkp,b2,b1⟩;have hdw:=wr (n:=(d.length:Int)+1) (by unfold Fits at hdf;omega) (by unfold Fits at hdf;omega);obtain⟨i,v,hi,hvi⟩:=hvd x (qAV hx);have hil:=(qAU.1 hvi).1;have hi1:i+1<=p.vars.length:=hil;have hll:=ye p.vars.length d;have hfl:=Go.Abs.ju (sz:=1) qld (jc p.vars.length d);rw[hll,qEZ]at hfl;have hset:((jc p.vars.length d).flatMap qle).set i (.sl 4 (x.weights.map qz) .none)=(jc p.vars.length (d++[x])).flatMap qle:=by
    have:=QI qld (jc p.vars.length d) i (some x.weights) (by omega);rw[KP,hi,qBu,<- this];simp[qle,zA]
   have hl1:=(qAU.1 b1).1;generalize (jc p.vars.length d).flatMap qle=F at *;simp[e3,e11,e12,e13,show(d.length:Int)<p.dists.length by omega,hx,qf b2,qf b1,ky b1,hi,show(i:Int)<p.vars.length by omega,hfl,hi1,hset,hdw];refine hR _ _ ⟨by simp[e3],by simp[e11],by simp[e12],by simp,(hkp.setF (by omega)).trans qFX,qf (by rw[qAX (by omega)];exact b2) _,qf (qA0 hl1) _⟩
 rintro ev ⟨H1,T1⟩ ⟨e3,e11,e12,e13,hkp,b2,b1⟩;simp[e3,e12,e13];exact⟨hkp,H.length+2,H.length+1,rfl,by omega,by omega,_,b2,fun _=>⟨rfl,b1⟩⟩
def wtO(o:Option (List Weight))(v:Int):Nat:=match o with
 |none=>1
 |some w=>if(zW w v).2≠0 then lim else sat (zW w v).1.toNat
def qt3(o v):wtO o v<=lim:=by
 unfold wtO;split
 . unfold lim;omega
 split
 . exact qA5 _
 exact Kh _
def qsC(n):0<=(J6 n).1:=by
 unfold J6;split<;>simp
def QC(l v):0<=(zW l v).1:=by
 unfold zW;split
 . simp
 split
 . simp
 unfold vP;split
 . simp
 split<;>exact qsC _
def qeV(o:Option (List Weight)):AV:=match o with
 |none=>.sl 0 [] .nil
 |some w=>.sl 4 (w.map qz) .none
def qsO(o):qle o=[qeV o]:=by cases o<;>rfl
def qyQ(l:List (Option (List Weight))):l.flatMap qle=l.map qeV:=by
 induction l with
 |nil=>rfl
 |cons a r ih=>rw[qBm,ih,qsO];rfl
def map_drop{α:Type}(f:α->AV){l:List α}{i:Nat}{x:α}(h:l[i]?=some x):(l.map f).drop i=f x::(l.map f).drop (i+1):=by
 obtain⟨h1,h2⟩:=qAU.1 h;rw[qA9 (by simpa using h1),qCz,h2]
def qaa(p){L LL H}(hw:WFn p L LL H){i:Nat}{o:Option (List Weight)}(hi:(jc p.vars.length p.dists)[i]?=some o)(ho:∀w,o=some w->w≠[]/\w.length<=1000)(v T):
 qj prog GG 70 [.int .i64 (i:Int),.int .i64 v,.ptr L 0] ⟨H,T⟩ (fun r U'=>r=.int .i64 (wtO o v:Nat)/\U'=⟨H,T⟩):=by
 refine qFo qg func70 rfl (by kernel_rfl) ?_;have hil:=(qAU.1 hi).1;rw[ye]at hil;have hne:p.vars≠[]:=fun e=>by rw[e]at hil;simp at hil
 obtain⟨c,hL,hc⟩:=hw;obtain⟨rfl,hLL⟩:=hc hne;rw[qyQ]at hLL;have hdr:=map_drop qeV hi;have hlen:((jc p.vars.length p.dists).map qeV).length=p.vars.length:=by rw[qBA,ye]
 have hil':(i:Int)<p.vars.length:=by omega
 have hi1:i+1<=p.vars.length:=hil;generalize (jc p.vars.length p.dists).map qeV=F at *
 cases o with
 | none=>
  simp[hL,hLL,hil',hi1,hlen,hdr,qeV,qV,Jq,TD.isSl,wtO]
 | some w=>
  obtain⟨hwn,hwl⟩:=ho w rfl;obtain⟨a,r,rfl⟩:=qDN hwn;have h51:=qmu (a::r) hwl v;have hnn:=QC (a::r) v;have hwt:wtO (some (a::r)) v=if(zW (a::r) v).2≠0 then lim else sat (zW (a::r) v).1.toNat:=rfl
  rw[hwt];generalize zW (a::r) v=wd at *;obtain⟨x,e⟩:=wd;simp only at hnn h51⊢;have hm:wV (.int .i64 x) (.int .i64 1099511627777)=some (.int .i64 (sat x.toNat:Nat)):=by
   simp only[wV,Vn];congr 2;split<;>omega
  simp[hL,hLL,hil',hi1,hlen,hdr,qeV,qV,Jq,TD.isSl];refine qFp (by simpa using h51) (by simp) ?_;by_cases he:e=0
  . simp[he,hm]
  simp[he,lim]
structure Spc where
 S:Nat
 L:Nat
 LL:Nat
 p:Problem
 R:List Ex
 rtok:Tok
 lv:List Int
 dv:AV
 root:Nat
 small:Bool
def spE(s:Spc):List AV:=qA s.p++[.sl 4 (s.R.map qt) s.rtok,.sl 1 (s.lv.map qh) .none,s.dv,.int .i64 s.root,.bool s.small,.fn 70 [] [.ptr s.L 0]]
structure SpOk(s:Spc)(H:List Blk):Prop where
 c:H[s.S]?=some (.cells (spE s))
 w:WFn s.p s.L s.LL H
 b:s.LL<H.length
def SpOk.keep{s H H' bs}(h:SpOk s H)(hk:KpL bs H H')(h1:s.S∉bs)(h2:s.L∉bs)(h3:s.LL∉bs):SpOk s H':=by
 refine⟨hk.2 _ _ h.c h1,?_,qBd h.b hk.1⟩;obtain⟨c,hL,hc⟩:=h.w;exact⟨c,hk.2 _ _ hL h2,fun hn=>⟨(hc hn).1,hk.2 _ _ (hc hn).2 h3⟩⟩
def qoi{d}(h:DagOk d){f}(hf:f<d.length)(L o):yl d f L o<d.length:=by
 have hn:=qAW hf;unfold yl;rw[hn];simp only;split
 . by_cases h2:2<=f
   . obtain⟨g1,g2,g3,g4,g5,g6⟩:=h.node f _ h2 hn;split<;>omega
   . have ht:=h.two;have:f=0\/f=1:=by omega
     rcases this with rfl|rfl
     . have e:=h.n0;rw[hn]at e;rw[Option.some.inj e];split<;>simp<;>omega
     have e:=h.n1;rw[hn]at e;rw[Option.some.inj e];split<;>simp<;>omega
 exact hf
def vG(d:List Nd)(l w:Nat)(v:Nat)(node:Nat)(k:Nat):Nat:=(List.range k).foldl (fun node k=>yl d node (l+k) (v.testBit (w-1-k))) node
def JH(d l w v node k):vG d l w v node (k+1)=yl d (vG d l w v node k) (l+k) (v.testBit (w-1-k)):=by simp[vG,qCk,qBX]
def YM{d}(h:DagOk d){node}(hn:node<d.length)(l w v):∀k,vG d l w v node k<d.length
 |0=>hn
 |k+1=>by rw[JH];exact qoi h (YM h hn l w v k) _ _
def qpc(n i:Nat)(hn:n<2^63):zz .and .i64 ((n:Int).fdiv (2^i)) 1=some (.int .i64 (if n.testBit i=true then 1 else 0)):=by
 rw[ql6 n i hn];cases n.testBit i<;>rfl
def VZ{s:Spc}{H}(h:SpOk s H){d tok}(hd:DagOk d)(hdv:s.dv=.sl 3 (d.map qN) tok){i l node val:Nat}{v:Var}(hv:s.p.vars[i]?=some v)(hl:s.lv[i]?=some (l:Int))(hw:0<=v.width/\v.width<=8)(hlw:l<=20)(hn:node<d.length)(hval:val<2^16)(T):
 qj prog GG 79 [.ptr s.S 0,.int .i64 node,.int .i64 i,.int .i64 val] ⟨H,T⟩ (fun r U'=>r=.int .i64 (vG d l v.width.toNat val node v.width.toNat:Nat)/\KpL [] H U'.H):=by
 refine qFo qg func79 rfl (by kernel_rfl) ?_;have hS:=h.c;simp only[spE,qA,qBl,qBk,hdv]at hS;have hwn:v.width=(v.width.toNat:Int):=by omega
 generalize hwN:v.width.toNat=w at *;simp[hS,hv,hwn];refine kl w (fun k ev U=>ev 0=.ptr s.S 0/\ev 1=.int .i64 (vG d l w val node k:Nat)/\ev 2=.int .i64 (i:Int)/\ev 3=.int .i64 (val:Int)/\ev 9=.int .i64 (w:Int)/\ev 21=.int .i64 (w:Int)/\ev 22=.int .i64 (k:Int)/\KpL [] H U.H) ?_ ?_ ?_
 . exact⟨by simp,by simp[vG],by simp,by simp,by simp,by simp,by simp,qFV⟩
 . rintro k ev ⟨H1,T1⟩ R hR hkw ⟨e0,e1,e2,e3,e9,e21,e22,hkp⟩;have hS1:=hkp.2 _ _ hS (by simp);have hnl:=YM hd hn l w val k;have hsucc:=JH d l w val node k;generalize vG d l w val node k=nd at *;obtain⟨n,hnn⟩:∃n,d[nd]?=some n:=⟨_,qAW hnl⟩;have hk':(k:Int)<w:=(by omega);have hwk:=wr (n:=(k:Int)+1) (by omega) (by omega);have hlk:=wr (n:=(l:Int)+k) (by omega) (by omega);have hw1:=wr (n:=(w:Int)-1) (by omega) (by omega);have hw2:=wr (n:=(w:Int)-1-k) (by omega) (by omega);have hsub:(w:Int)-1-k=((w-1-k:Nat):Int):=(by omega);rw[hsub]at hw2;have hmin:min (w-1-k) 64=w-1-k:=(by omega);have hand:=qpc val (w-1-k) (by omega);have hneg:¬((w-1-k:Nat):Int)<0:=(by omega);unfold yl at hsucc;rw[hnn]at hsucc;simp only at hsucc;generalize hm:w-1-k=m at *;by_cases hlv:n.1=l+k
   . have hlv':(n.1:Int)=(l:Int)+k:=(by omega);rw[if_pos hlv]at hsucc
     cases hbit:val.testBit m with
     | true=>
      rw[hbit,if_pos rfl]at hsucc;rw[hbit]at hand;simp[-zz,VB,KE,J2,qj4,VC,e0,e1,e2,e3,e9,e21,e22,hk',qf hS1,hS1,hnn,hl,hlk,hlv',hw1,hsub,hw2,hmin,IntKind.bits,hand,hneg,hwk];exact hR _ _ ⟨by simp[e0],by simp[hsucc],by simp[e2],by simp[e3],by simp[e9],by simp[e21],by simp,hkp.trans qFX⟩
     | false=>
      rw[hbit,if_neg (by simp)]at hsucc;rw[hbit]at hand;simp[-zz,VB,KE,J2,qj4,VC,e0,e1,e2,e3,e9,e21,e22,hk',qf hS1,hS1,hnn,hl,hlk,hlv',hw1,hsub,hw2,hmin,IntKind.bits,hand,hneg,hwk];exact hR _ _ ⟨by simp[e0],by simp[hsucc],by simp[e2],by simp[e3],by simp[e9],by simp[e21],by simp,hkp.trans qFX⟩
   have hlv':¬(n.1:Int)=(l:Int)+k:=(by omega);rw[if_neg hlv]at hsucc;simp[-zz,VB,KE,J2,qj4,e0,e1,e2,e3,e9,e21,e22,hk',qf hS1,hS1,hnn,hl,hlk,hlv',hwk];exact hR _ _ ⟨by simp[e0],by simp[e1,hsucc],by simp[e2],by simp[e3],by simp[e9],by simp[e21],by simp,hkp.trans qFX⟩
 rintro ev ⟨H1,T1⟩ ⟨e0,e1,e2,e3,e9,e21,e22,hkp⟩;simp[e1,e21,e22];exact hkp
def qiL(m:AV)(fx:Nat->Option Nat)(H:List Blk):Prop :=
 (m=.nilm/\∀i,fx i=none)\/∃F es n,m=.map F/\H[F]?=some (.map es n)/\∀i:Nat,match fx i with
   |none=>jS (.int .i64 (i:Int)) es 0=some none
   |some x=>∃j,jS (.int .i64 (i:Int)) es 0=some (some (j,.int .i64 (x:Int)))
def qiL.keep{m fx H H' bs}(h:qiL m fx H)(hk:KpL bs H H')(hb:∀F,m=.map F->F∉bs):qiL m fx H':=by
 rcases h with h|⟨F,es,n,rfl,hF,h⟩
 . exact .inl h
 exact .inr ⟨F,es,n,rfl,hk.2 _ _ hF (hb F rfl),h⟩
def qiL.look{m fx H}(h:qiL m fx H)(i:Nat)(T):zD (Dof prog) ⟨H,T⟩ 109 m (.int .i64 (i:Int)) true=some (match fx i with|none=>.tup [.int .i64 0,.bool false]|some x=>.tup [.int .i64 (x:Int),.bool true]):=by
 rcases h with⟨rfl,h⟩|⟨F,es,n,rfl,hF,h⟩
 . rw[h i];simp[zD,zI,jS,qbx]
 have:=h i
 cases hx:fx i with
 |none=>rw[hx]at this;simp[zD,zI,hF,this,qbx]
 | some x=>
  rw[hx]at this;obtain⟨j,hj⟩:=this;simp[zD,zI,hF,hj]
def zJ(n:Nat):List AV:=[.int .i64 (n:Int)]
def qmd(r:AV)(vals:List Nat)(H:List Blk)(n:Nat):Prop:=r=.sl 1 (vals.map zJ) .tight\/∃N,r=.ms N 0 vals.length 1/\n<=N/\H[N]?=some (.cells (qB vals))
def vL(w:Nat)(o:Option Nat):List Nat:=match o with
 |none=>List.range (2^w)
 |some x=>[x]
def qz3(vals:List Nat)(H:List Blk)(r:AV)(U':St):Prop:=KpL [] H U'.H/\qmd r vals U'.H H.length
def qbJ{s:Spc}{H}(h:SpOk s H){m fx}(hf:qiL m fx H){i:Nat}{v:Var}(hv:s.p.vars[i]?=some v)(hw:0<=v.width/\v.width<=8)(T):
 qj prog GG 139 [.ptr s.S 0,.int .i64 i,m] ⟨H,T⟩ (qz3 (vL v.width.toNat (fx i)) H):=by
 refine qFo qg func139 rfl (by kernel_rfl) ?_;have hS:=h.c;have hlk:=hf.look i T;simp only[spE,qA,qBl,qBk]at hS
 cases hfx:fx i with
 | some x=>
  rw[hfx]at hlk;simp[hlk,qi,qp];exact⟨qFV,.inl rfl⟩
 | none=>
  rw[hfx]at hlk;have hs1:=wG hw.1 (by omega);have hp8:2^v.width.toNat<=2^8:=qBn (by omega) (by omega);have hp0:0<2^v.width.toNat:=qDS _;have hvs:vL v.width.toNat none=List.range (2^v.width.toNat):=rfl;rw[hvs];obtain⟨N,hN⟩:∃N,N=2^v.width.toNat:=⟨_,rfl⟩;rw[<- hN]at hs1 hp8 hp0⊢;simp[hlk,hS,hv,show ¬v.width<0 by omega,IntKind.bits,hs1,qG,show N≠0 by omega,show(N:Int)<=549755813888 by omega];rw[show List.replicate N (AV.int .i64 0)=qB (List.replicate N 0) by simp[qB]];refine kl N (fun k ev U=>ev 9=.ms H.length 0 N 1/\ev 32=.int .i64 (N:Int)/\ev 33=.int .i64 (k:Int)/\KpL [] H U.H/\∃W,W.length=N/\U.H[H.length]?=some (.cells (qB W))/\∀j,j<k->W[j]?=some j) ?_ ?_ ?_
  . exact⟨by simp,by simp,by simp,qFX,List.replicate N 0,by simp,lk0,fun j hj=>absurd hj (by omega)⟩
  . rintro k ev ⟨H1,T1⟩ R hR hk ⟨e9,e32,e33,hkp,W,hWl,bW,hWj⟩;have hk1:k+1<=N:=hk;have hwk:=wr (n:=(k:Int)+1) (by omega) (by omega);have hl1:=(qAU.1 bW).1;simp[e9,e32,e33,show(k:Int)<N by omega,hk1,bW,hWl,kF,hwk];refine hR _ _ ⟨by simp[e9],by simp[e32],by simp,hkp.setF (qA5 _),W.set k k,by simp[hWl],qA0 hl1,fun j hj=>?_⟩;by_cases hjk:j=k
    . subst hjk;rw[qA0 (by omega)]
    rw[qAX (Ne.symm hjk)];exact hWj j (by omega)
  rintro ev ⟨H1,T1⟩ ⟨e9,e32,e33,hkp,W,hWl,bW,hWj⟩;have hWr:W=List.range N:=by
   apply qB2;intro j;by_cases hj:j<N
   . rw[hWj j hj,qEl hj]
   rw[qBs (by omega),qBs (by simp;omega)]
  rw[hWr]at bW;simp[e9,e32,e33];exact⟨hkp,.inr ⟨H.length,by simp,qA5 _,bW⟩⟩
def jO(p:Problem)(i:Nat):Nat:=(zP p.vars i).toNat
def Js(lv:List Int)(i:Nat):Nat:=(lv.getD i 0).toNat
def wtP(p:Problem)(i v:Nat):Nat:=wtO ((jc p.vars.length p.dists).getD i none) (v:Int)
def qfb(p i v):wtP p i v<=lim:=qt3 _ _
def qbq(p:Problem)(lv:List Int)(d:List Nd)(fx:Nat->Option Nat):List Nat->Nat->Nat
 |[],node=>if node=0 then 0 else 1
 |i::r,node=>if node=0 then 0 else(vL (jO p i) (fx i)).foldl (fun s v=>sat (s+sat (wtP p i v*qbq p lv d fx r (vG d (Js lv i) (jO p i) v node (jO p i))))) 0
def yZ{α:Type}(f:α->Nat):∀(l:List α) (s:Nat),s<=lim->l.foldl (fun s v=>sat (s+f v)) s<=lim
 |[],s,h=>h
 |a::r,s,h=>yZ f r _ (Kh _)
def qq4(p lv d fx g node):qbq p lv d fx g node<=lim:=by
 cases g with
 |nil=>unfold qbq lim;split<;>omega
 | cons i r=>
  unfold qbq;split
  . exact qCO _
  exact yZ _ _ _ (qCO _)
abbrev Pt:=(Nat×Nat)×Nat×Nat
def ptE(q:Pt):AV×AV×Nat:=(.agg [.int .i64 (q.1.1:Int),.int .i64 (q.1.2:Int)],.int .i64 (q.2.1:Int),q.2.2)
def qeg{x}:∀(E:List Pt) (k),(jS (.agg [.int .i64 (x.1:Int),.int .i64 (x.2:Int)]) (E.map ptE) k=some none/\∀q∈E,q.1≠x)\/∃j q,E[j]?=some q/\q.1=x/\jS (.agg [.int .i64 (x.1:Int),.int .i64 (x.2:Int)]) (E.map ptE) k=some (some (k+j,.int .i64 (q.2.1:Int)))
 |[],k=>.inl ⟨rfl,by simp⟩
 | e::E,k=>by
  have hk:Q4 (.agg [.int .i64 (x.1:Int),.int .i64 (x.2:Int)]) (.agg [.int .i64 (e.1.1:Int),.int .i64 (e.1.2:Int)])=some (decide (x=e.1)):=by
   obtain⟨a,b⟩:=x;obtain⟨⟨c,d⟩,r⟩:=e;simp only[Q4,jj,kV,if_true];congr 1;rw[qBP];simp;omega
  by_cases h:x=e.1
  . right;have hd:decide (x=e.1)=true:=(by simpa using h);rw[hd]at hk;exact⟨0,e,rfl,h.symm,by simp[jS,ptE,hk]⟩
  have hd:decide (x=e.1)=false:=by simpa using h
  rw[hd]at hk;rcases qeg (x:=x) E (k+1) with⟨h1,h2⟩|⟨j,q,h1,h2,h3⟩
  . left;refine⟨by simp only[qA7,ptE,jS,hk];exact h1,fun q hq=>?_⟩;rcases qBt.1 hq with rfl|hq
    . exact fun e=>h e.symm
    exact h2 q hq
  right;refine⟨j+1,q,by simpa using h1,h2,?_⟩;simp only[qA7,ptE,jS,hk];have:k+(j+1)=k+1+j:=by omega
  rw[this];exact h3
def qvr(a b):zI (Dof prog) 129 (.agg [.int .i64 a,.int .i64 b])=true:=by
 simp[zI,Wg,kv,qV,z9,qCk]
def qpk(p:Problem)(lv:List Int)(d:List Nd)(fx:Nat->Option Nat)(g:List Nat)(K:Nat)(H:List Blk):Prop:=∃(E:List Pt) (n:Nat),H[K]?=some (.map (E.map ptE) n)/\∀q∈E,q.2.1=qbq p lv d fx (g.drop q.1.1) q.1.2
def qmd.len{r vals H n}(h:qmd r vals H n)(U):YD (Dof prog) U 28 r=some (.int .i64 (vals.length:Nat)):=by
 rcases h with rfl|⟨N,rfl,_⟩<;>simp
def qmd.at{r}{vals:List Nat}{H}{n:Nat}(h:qmd r vals H n){j x:Nat}(hj:vals[j]?=some x):∃a,zH (Dof prog) 28 r (.int .i64 (j:Int))=some a/\∀T,kD (Dof prog) ⟨H,T⟩ 3 a=some (.int .i64 (x:Int)):=by
 have hl:=(qAU.1 hj).1;rcases h with rfl|⟨N,rfl,_,hN⟩
 . exact⟨.rptr [.int .i64 (x:Int)],by simp[hj,zJ],fun T=>by simp⟩
 have hl':(j:Int)<vals.length:=by omega
 have hl1:j+1<=vals.length:=hl;exact⟨.ptr N j,by simp[hl'],fun T=>by simp[*,z5 hj]⟩
def qmd.keep{r vals H H' n K}(h:qmd r vals H n)(hk:KpL [K] H H')(hK:K<n):qmd r vals H' n:=by
 rcases h with h|⟨N,h1,h2,h3⟩
 . exact .inl h
 exact .inr ⟨N,h1,h2,hk.2 _ _ h3 (by simp;omega)⟩
def qtZ(s:Spc)(g:List Nat):Prop:=∀i∈g,∃(v:Var) (l:Nat),s.p.vars[i]?=some v/\0<=v.width/\v.width<=8/\s.lv[i]?=some (l:Int)/\l<=20/\∀w,(jc s.p.vars.length s.p.dists)[i]?=some (some w)->w≠[]/\w.length<=1000
def qxB(s:Spc)(d:List Nd)(fx:Nat->Option Nat)(g:List Nat)(K at_ node:Nat)(H:List Blk)(r:AV)(U':St):Prop :=
 r=.int .i64 (qbq s.p s.lv d fx (g.drop at_) node:Nat)/\KpL [K] H U'.H/\qpk s.p s.lv d fx g K U'.H
def qfO:List (Nat×Sch×List Nat):=[(13,.step 0 [15,14] (.step 1 [15,14] (.step 2 [15,14] (.step 3 [15,14] (.step 4 [15,14,13,6,5] (.step 7 [15,14,13,12] (.step 8 [15,14,13,12,9] (.step 9 [15,14,13,12] (.step 10 [15,14,13,12] (.step 11 [15,14,13,12] (.fork (.cons 5 (.step 6 [15,14,13] (.step 12 [15,14,13] (.step 13 [15,14] (.step 14 [15] (.step 15 [] (.done)))))) (.cons 12 (.step 5 [15,14,13,6] (.step 6 [15,14,13] (.step 13 [15,14] (.step 14 [15] (.step 15 [] (.done)))))) (.nil))))))))))))),[12,14])]
def qjh{s d tok}(hd:DagOk d)(hdv:s.dv=.sl 3 (d.map qN) tok){fx}(hfx:∀i x,fx i=some x->x<65536){m g}(hg:qtZ s g)(hgl:g.length<=1000){K}(hSK:s.S≠K)(hLK:s.L≠K)(hLLK:s.LL≠K)(hmK:∀F,m=.map F->F≠K):
 ∀ (k at_),at_+k=g.length->∀(node) (H) (T),node<d.length->SpOk s H->qiL m fx H->qpk s.p s.lv d fx g K H ->
  qj prog GG 80 [.ptr s.S 0,.sl 1 (g.map zJ) .none,m,.map K,.agg [.int .i64 at_,.int .i64 node]] ⟨H,T⟩ (qxB s d fx g K at_ node H):=by
 intro k
 induction k with
 | zero=>
  intro at_ hat node H T hn hs hf hmem;refine qFn ⟨false,qfO,[],[]⟩ qg func80 rfl (by kernel_rfl) ?_;have hat':(at_:Int)=g.length:=by omega
  obtain⟨E,n,hE,hEv⟩:=hmem;have fin:∀u,qxB s d fx g K at_ node H (.int .i64 (if node=0 then 0 else 1:Nat)) ⟨H++u,T⟩:=fun u=>⟨by rw[show g.drop at_=[] from qBq (by omega)];rfl,qFX,E,n,qf hE _,hEv⟩
  by_cases hn0:node=0
  . subst hn0;simp;exact fin _
  have hn0':¬(node:Int)=0:=by omega
  rw[if_neg hn0]at fin;simp[*];exact fin _
 | succ k ih=>
  intro at_ hat node H T hn hs hf hmem;refine qFn ⟨false,qfO,[],[]⟩ qg func80 rfl (by kernel_rfl) ?_;obtain⟨i,hi⟩:∃i,g[at_]?=some i:=⟨_,qAW (by omega)⟩;obtain⟨v,l,hv,hw0,hw8,hl,hl20,hwn⟩:=hg i (qAV hi);have hdr:g.drop at_=i::g.drop (at_+1):=by
   obtain⟨h1,h2⟩:=qAU.1 hi;rw[qA9 h1,h2]
  have hat':¬(at_:Int)=g.length:=by omega
  obtain⟨E,n,hE,hEv⟩:=hmem;have hKl:=(qAU.1 hE).1;by_cases hn0:node=0
  . subst hn0;have fin:∀u,qxB s d fx g K at_ 0 H (.int .i64 0) ⟨H++u,T⟩:=fun u=>⟨by rw[hdr];rfl,qFX,E,n,qf hE _,hEv⟩
    simp;exact fin _
  have hfit:=qvr at_ node;rcases qeg (x:=(at_,node)) E 0 with⟨hfind,hno⟩|⟨j,q,hj1,hj2,hfind⟩
  case inr=>
   have hqv:=hEv q (qAV hj1);rw[hj2]at hqv;have fin:∀u,qxB s d fx g K at_ node H (.int .i64 (q.2.1:Nat)) ⟨H++u,T⟩:=fun u=>⟨by rw[hqv],qFX,E,n,qf hE _,hEv⟩
   have hlk:∀(u:List Blk) (T:List (Option Nat)),zD (Dof prog) ⟨H++u,T⟩ 127 (.map K) (.agg [.int .i64 at_,.int .i64 node]) true=some (.tup [.int .i64 (q.2.1:Int),.bool true]):=fun u T=>by
    simp only[zD,qxG,hfit,if_true];simp[qf hE,hfind]
   simp[hn0,hat',hlk];exact fin _
  have hlk:∀(u:List Blk) (T:List (Option Nat)),zD (Dof prog) ⟨H++u,T⟩ 127 (.map K) (.agg [.int .i64 at_,.int .i64 node]) true=some (.tup [.int .i64 0,.bool false]):=fun u T=>by
   simp only[zD,qxG,hfit,if_true];simp[qf hE,hfind,qbx]
  have hs0:=hs.keep (H':=H++[.cells [.int .i64 at_,.int .i64 node]]) (bs:=[]) qFX (by simp) (by simp) (by simp);have hf0:=hf.keep (H':=H++[.cells [.int .i64 at_,.int .i64 node]]) (bs:=[]) qFX (by simp);have hval:=qbJ hs0 hf0 hv ⟨hw0,hw8⟩ T;obtain⟨vals,hvals⟩:∃vals,vals=vL v.width.toNat (fx i):=⟨_,rfl⟩;rw[<- hvals]at hval;have hvb:∀x∈vals,x<65536:=fun x hx=>by
   rw[hvals]at hx
   cases hfi:fx i with
   | none=>
    rw[hfi]at hx;have:=qCd.1 hx;have:2^v.width.toNat<=2^8:=qBn (by omega) (by omega);omega
   | some y=>
    rw[hfi]at hx;have:x=y:=by simpa[vL] using hx
    rw[this];exact hfx i y hfi
  have hvl:vals.length<=256:=by
   rw[hvals]
   cases hfi:fx i with
   |none=>simp only[vL,qED];exact qBN (qBn (by omega) (show v.width.toNat<=8 by omega)) (by decide)
   |some y=>simp[vL]
  have hsum:qbq s.p s.lv d fx (g.drop at_) node=vals.foldl (fun a x=>sat (a+sat (wtP s.p i x*qbq s.p s.lv d fx (g.drop (at_+1)) (vG d l v.width.toNat x node v.width.toNat)))) 0:=by
   rw[hdr,hvals];simp only[qbq,if_neg hn0,show jO s.p i=v.width.toNat by simp[jO,zP,hv],show Js s.lv i=l by simp[Js,qA8,hl]]
  obtain⟨f,hff⟩:∃f:Nat->Nat,∀x,f x=sat (wtP s.p i x*qbq s.p s.lv d fx (g.drop (at_+1)) (vG d l v.width.toNat x node v.width.toNat)):=⟨_,fun _=>rfl⟩;have hfle:∀x,f x<=lim:=fun x=>by rw[hff];exact Kh _
  simp only[<- hff]at hsum;simp[hn0,hat',hlk,hi,zJ];refine qFs hval ?_;rintro r ⟨H1,T1⟩ ⟨hk1,hrow⟩;have hlen:=hrow.len;have hrow:qmd r vals H1 H.length:=hrow.imp id fun⟨N,h1,h2,h3⟩=>⟨N,h1,by simp at h2;omega,h3⟩
  simp[-YD,hlen];refine qFF vals (fun dn ev U=>ev 0=.ptr s.S 0/\ev 1=.sl 1 (g.map zJ) .none/\ev 2=m/\ev 3=.map K/\ev 9=.ptr H.length 0/\ev 13=.int .i64 (dn.foldl (fun a x=>sat (a+f x)) 0:Nat)/\ev 14=.int .i64 (i:Int)/\ev 44=r/\ev 45=.int .i64 vals.length/\ev 46=.int .i64 dn.length/\KpL [K] H U.H/\qpk s.p s.lv d fx g K U.H/\qmd r vals U.H H.length/\U.H[H.length]?=some (.cells [.int .i64 at_,.int .i64 node])) ?_ ?_ ?_
  . exact⟨by simp,by simp,by simp,by simp,by simp,by simp,by simp,by simp,by simp,by simp,((qFX.trans hk1).sub (by simp)),(⟨E,n,hk1.2 _ _ (qf hE _) (by simp),hEv⟩),hrow,(hk1.2 _ _ lk0 (by simp))⟩
  . rintro dn x rest ev ⟨H2,T2⟩ R hR hdl hx hlt ⟨e0,e1,e2,e3,e9,e13,e14,e44,e45,e46,hkp,hme,hro,bX2⟩;obtain⟨a,ha1,ha2⟩:=hro.at hx;have hdw:=wr (n:=(dn.length:Int)+1) (by omega) (by omega);have hxb:=hvb x (qAV hx);have hs2:=hs.keep hkp (by simpa using hSK) (by simpa using hLK) (by simpa using hLLK);have hf2:=hf.keep hkp (fun F hF=>by simpa using hmK F hF);have hatw:=wr (n:=(at_:Int)+1) (by omega) (by omega);have hdes:=VZ hs2 hd hdv hv hl ⟨hw0,hw8⟩ hl20 hn (val:=x) (by omega) T2;have hnl:=YM hd hn l v.width.toNat x v.width.toNat;have hffx:=hff x;have hfx1:=hfle x;generalize hnd:vG d l v.width.toNat x node v.width.toNat=nd at *;simp[-zH,-kD,e44,e45,e46,show(dn.length:Int)<vals.length by omega,ha1,ha2];rw[qU rfl];simp[zg,e0,e1,e2,e3,e9,e14,bX2,hatw];refine⟨qFs hdes ?_,qFs hdes ?_⟩
    all_goals
     rintro w ⟨H3,T3⟩ ⟨rfl,hk3⟩;have hk3':KpL [K] H2 H3:=hk3.sub (by simp);have bX3:=hk3.2 _ _ bX2 (by simp);have hs3:=hs2.keep hk3' (by simpa using hSK) (by simpa using hLK) (by simpa using hLLK);have hf3:=hf2.keep hk3' (fun F hF=>by simpa using hmK F hF);have hme3:qpk s.p s.lv d fx g K H3:=by
      obtain⟨E3,n3,h1,h2⟩:=hme;exact⟨E3,n3,hk3.2 _ _ h1 (by simp),h2⟩
     have hih:=ih (at_+1) (by omega) nd H3 T3 hnl hs3 hf3 hme3;simp only[qES,Int.natCast_one]at hih;simp[zg,bX3,hatw,zu,zZ,qP];refine qFs hih ?_;rintro w ⟨H4,T4⟩ ⟨rfl,hk4,hme4⟩;have hs4:=hs3.keep hk4 (by simpa using hSK) (by simpa using hLK) (by simpa using hLLK);have bX4:=hk4.2 _ _ bX3 (by simp;omega);have hS4:=hs4.c;simp only[spE,qA,qBl,qBk]at hS4;obtain⟨o,ho⟩:∃o,(jc s.p.vars.length s.p.dists)[i]?=some o:=⟨_,qAW (by rw[ye];exact(qAU.1 hv).1)⟩;have hweigh:=qaa s.p hs4.w ho (fun w hw=>hwn w (by rw[ho,hw])) (x:Int) T4;rw[<- show wtP s.p i x=wtO o (x:Int) by simp[wtP,qA8,ho]]at hweigh;have hwle:=qfb s.p i x;have hsle:=qq4 s.p s.lv d fx (g.drop (at_+1)) nd;generalize qbq s.p s.lv d fx (g.drop (at_+1)) nd=sd at *;generalize wtP s.p i x=wx at *;have hacc:dn.foldl (fun a x=>sat (a+f x)) 0<=lim:=yZ f dn 0 (qCO _);have hsnoc:(dn++[x]).foldl (fun a x=>sat (a+f x)) 0=sat (dn.foldl (fun a x=>sat (a+f x)) 0+f x):=(by rw[qBX];rfl);generalize dn.foldl (fun a x=>sat (a+f x)) 0=acc at *;have ht:=qak wx sd hwle hsle;rw[<- hffx]at ht;have hp:=qjV acc (f x) hacc hfx1;simp[zg,e0,e13,e14,hS4];refine qFs hweigh ?_;rintro w U ⟨rfl,rfl⟩;simp;refine qFp ht rfl ?_;simp;refine qFp hp rfl ?_;simp[e46,hdw];exact hR _ _ ⟨by simp[e0],by simp[e1],by simp[e2],by simp[e3],by simp[e9],by simp[hsnoc],by simp[e14],by simp[e44],by simp[e45],by simp,(hkp.trans hk3').trans hk4,hme4,(hro.keep hk3' hKl).keep hk4 hKl,bX4⟩
  rintro ev ⟨H2,T2⟩ ⟨e0,e1,e2,e3,e9,e13,e14,e44,e45,e46,hkp,hme,hro,bX2⟩;rw[<- hsum]at e13;obtain⟨E2,n2,hE2,hEv2⟩:=hme;have hK2:=(qAU.1 hE2).1;generalize hsd:qbq s.p s.lv d fx (g.drop at_) node=sd at *;obtain⟨E3,n3,hup,hEv3⟩:∃(E3:List Pt) (n3:Nat),zj (Dof prog) ⟨H2,T2⟩ 127 (.map K) (.agg [.int .i64 at_,.int .i64 node]) (.int .i64 (sd:Nat))=some ⟨H2.set K (.map (E3.map ptE) n3),T2⟩/\∀q∈E3,q.2.1=qbq s.p s.lv d fx (g.drop q.1.1) q.1.2:=by
   rcases qeg (x:=(at_,node)) E2 0 with⟨hfind,_⟩|⟨j,q,hj1,hj2,hfind⟩
   . refine⟨E2++[((at_,node),sd,n2)],n2+1,?_,fun q hq=>?_⟩
     . simp only[zj,qxG,hfit,if_true];simp[hE2,hfind,ptE]
     . rcases qBb.1 hq with hq|hq
       . exact hEv2 q hq
       . rw[qBD]at hq;rw[hq];exact hsd.symm
   refine⟨E2.modify j fun q=>((at_,node),sd,q.2.2),n2,?_,fun q hq=>?_⟩
   . simp only[zj,qxG,hfit,if_true];simp[hE2,hfind];congr 2;apply qB2;intro k;simp only[qCR,qBp];by_cases hkj:j=k
     . subst hkj;cases E2[j]?<;>simp[ptE]
     cases E2[k]?<;>simp[hkj]
   obtain⟨k,hk⟩:=qBB hq;rw[qCR]at hk;by_cases hkj:j=k
   . subst hkj;rw[hj1]at hk;simp at hk;rw[<- hk];exact hsd.symm
   cases he:E2[k]? with
   |none=>rw[he]at hk;simp at hk
   | some y=>
    rw[he]at hk;simp[hkj]at hk;rw[<- hk];exact hEv2 y (qAV he)
  simp[e3,e9,e13,e45,e46,bX2,hup];exact⟨by rw[hsd],hkp.trans (qFY (by simp)),E3,n3,qA0 hK2,hEv3⟩
def eqE(s:Str)(n:Int):Ex:=.mk 15 0 [] [wN s,jE n]
def qei(s n):pre (eqE s n)=[eqE s n,wN s,jE n]:=by
 rw[jC];show eqE s n::wv [wN s,jE n]=_;rw[kh,qfJ,kh,ZP];rfl
def qqe{s}(hs:wg s=true){n}(h0:0<=n)(h1:n<=65535):EOk s 2 3 (eqE s n):=by
 refine⟨fun x hx=>?_,?_,by rw[qei];simp⟩
 . rw[qei]at hx;simp only[qBt,qDg,or_false]at hx;rcases hx with rfl|rfl|rfl
   . exact⟨by simp[qv,eqE,qm,zE,Ex.op,Ex.n,Ex.name,Ex.args],by simp[eqE,Ex.op],by simp[eqE,Ex.op],by simp[eqE,Ex.op]⟩
   . exact⟨qi2 hs,by simp[wN,Ex.op],by simp[wN,Ex.op],fun _=>rfl⟩
   exact⟨qaD h0 h1,by simp[jE,Ex.op],by simp[jE,Ex.op],by simp[jE,Ex.op]⟩
 rw[wC];simp[eqE,wN,jE,wC]
def qgD{p:Problem}(h:VQ p)(hv:qo p=0){i:Nat}{v:Var}(hi:p.vars[i]?=some v){n:Int}(h0:0<=n)(h1:n<=65535):zB p.vars (eqE v.name n)=0/\Ji (eqE v.name n):=by
 have hm:=qAV hi;have hve:=zi (jd hv v hm);have ho:=qqe hve.1 h0 h1;exact⟨ho.valid (by omega) (by omega) (by unfold Qn;rw[qBr];exact⟨v,hm,by simp⟩),ho.tame (h.names v hm) (by omega) (by omega)⟩
def qdb{s:Spc}{H}(h:SpOk s H){i:Nat}{v:Var}(hv:s.p.vars[i]?=some v)(n:Int)(T:List (Option Nat)):
 qj prog GG 82 [.ptr s.S 0,.int .i64 i,.int .i64 n] ⟨H,T⟩ (fun r U'=>r=.agg (qt (eqE v.name n))/\KpL [] H U'.H):=by
 refine qj.up (qFo qg func82 rfl (by kernel_rfl) ?_);have hS:=h.c;simp only[spE,qA,qBl,qBk]at hS;simp[qf hS,hv,zu,zZ,qP,qi,qp];refine⟨_,?_,rfl,qFX⟩;simp[eqE,qc,wN,jE,Leq,zm,yp]
def qlz(R tok)(h:R≠[]\/tok.known=true):Pure prog GG 81 [.sl 4 (R.map qt) tok] (.sl 4 (R.map qt) .tight):=by
 refine qFl o0 true qg func81 rfl (by kernel_rfl) ?_;have hs:=qkA (en:=qt) (sz:=4) (R:=R) (tok:=tok) (n:=(R.length:Int)) rfl h;simp[hs];rw[qF (by simp)];exact⟨by simp,qFw _⟩
def qbt(vs:List Var):List (Str×AV×Nat):=vs.zipIdx.map fun q=>(q.1.name,.bool true,q.2)
def qke{vs:List Var}{i}{v:Var}(hv:vs[i]?=some v):qbt (vs.take (i+1))=qbt (vs.take i)++[(v.name,.bool true,i)]:=by
 have hl:=(qAU.1 hv).1;unfold qbt;rw[qBi,hv];simp[qDX,qCq (qEe hl)]
def qkf{vs:List Var}{j:Nat}{q:Str×AV×Nat}(h:(qbt vs)[j]?=some q):∃v,vs[j]?=some v/\q=(v.name,.bool true,j):=by
 unfold qbt at h;rw[qBp,qDJ]at h
 cases hv:vs[j]? with
 |none=>rw[hv]at h;simp at h
 |some v=>rw[hv]at h;simp at h;exact⟨v,rfl,h.symm⟩
def qrX{vs:List Var}(hn:(vs.map (·.name)).Nodup){i}{v:Var}(hv:vs[i]?=some v)(k):jS (.str v.name) ((qbt (vs.take i)).map JY) k=some none:=by
 have hl:=(qAU.1 hv).1;rcases ZC (s:=v.name) (qbt (vs.take i)) k with⟨h1,_⟩|⟨j,q,h1,h2,_⟩
 . exact h1
 exfalso;obtain⟨w,hw,rfl⟩:=qkf h1;rw[qBY]at hw;split at hw
 . rename_i hj;obtain⟨hj1,hj2⟩:=qAU.1 hw;obtain⟨_,hi2⟩:=qAU.1 hv;have hp:=qCH.1 hn;have h2:w.name=v.name:=h2;exact hp j i (by simpa using hj1) (by simpa using hl) hj (by rw[qCz,qCz,hj2,hi2,h2])
 cases hw
def qrW{vs v}(hv:v∈vs)(k):∃j,jS (.str v.name) ((qbt vs).map JY) k=some (some (j,.bool true)):=by
 rcases ZC (s:=v.name) (qbt vs) k with⟨_,h2⟩|⟨j,q,h1,h2,h3⟩
 . exfalso;obtain⟨i,hi⟩:=qBB hv;have hm:(v.name,AV.bool true,i)∈qbt vs:=qBj.2 ⟨(v,i),qAV (i:=i) (by rw[qDJ,hi];simp),rfl⟩;exact h2 _ hm rfl
 obtain⟨w,_,rfl⟩:=qkf h1;exact⟨k+j,h3⟩
def KV{vs e}(hk:zB vs e=0)(ht:Ji e):zp e=0/\zQ [3,24] e=[]/\(∀s∈zQ [2] e,∃v∈vs,v.name=s)/\(zQ [2] e).length<=100000:=by
 have he:zp e=0/\Ye e=false/\Zm vs e=false:=by
  unfold zB at hk;split at hk
  . rename_i h;exact absurd hk h
  rename_i h;split at hk
  . cases hk
  split at hk
  . cases hk
  rename_i h2 h3;exact⟨qB1.1 h,by simpa using h2,by simpa using h3⟩
 refine⟨he.1,?_,fun s hs=>?_,KM ht.2.2⟩
 . have:=QW (e:=e);rw[he.2.1]at this
   cases hl:zQ [3,24] e with
   |nil=>rfl
   |cons a r=>rw[hl]at this;simp at this
 have:=QN (l:=vs) (e:=e);rw[he.2.2,qCv]at this;have h1:=this s hs;simp only[qCn,Bool.not_eq_false,Qn,qBr]at h1;obtain⟨v,hv,hvn⟩:=h1;exact⟨v,hv,by simpa using hvn⟩
def qoV(p)(h:VQ p)(hv:qo p=0)(l:List Ex)(hf:l.length<=1000000)(hx:∀e∈l,zB p.vars e=0/\Ji e):Pure prog GG 217 [.agg (qA p),.sl 4 (l.map qt) .none] (.int .i64 0):=by
 refine qFm qg func217 rfl (by kernel_rfl) ?_;have hval:=ka p h;rw[hv]at hval;have hnd:=yW hv;have hvl:=h.vars;simp only[qA]at hval;simp;refine qFp hval (by simp) ?_;simp;refine qFF l (fun d ev U=>ev 1=.sl 4 (l.map qt) .none/\ev 2=.ptr 0 0/\ev 17=.sl 4 (l.map qt) .none/\ev 18=.int .i64 l.length/\ev 19=.int .i64 d.length/\∃u T,U=⟨.cells (qA p)::u,T⟩) ?_ ?_ ?_
 . exact⟨by simp,by simp,by simp,by simp,by simp,_,_,rfl⟩
 . rintro d e rest ev U R hR hd hxe hlt ⟨e1,e2,e17,e18,e19,u,T,rfl⟩;have hdw:=wr (n:=(d.length:Int)+1) (by omega) (by omega);have hlt':(d.length:Int)<l.length:=(by omega);obtain⟨hk,ht⟩:=hx e (qAV hxe);have hev:=Y4 e ht.1 (by have:=ht.2.1;omega);rw[(KV hk ht).1]at hev;have henc:=qc e;rw[henc]at hev;simp[e17,e18,e19,hlt',hxe,henc];refine qFp hev (by simp) ?_;simp[e19,hdw];exact hR _ _ ⟨by simp[e1],by simp[e2],by simp[e17],by simp[e18],by simp,_,_,rfl⟩
 rintro ev U ⟨e1,e2,e17,e18,e19,u,T,rfl⟩;simp[*];refine qFF p.vars (fun d ev U=>ev 1=.sl 4 (l.map qt) .none/\ev 7=.map (u.length+1)/\ev 29=.sl 4 (p.vars.map qM) .none/\ev 30=.int .i64 p.vars.length/\ev 31=.int .i64 d.length/\U.H[u.length+1]?=some (.map ((qbt (p.vars.take d.length)).map JY) d.length)) ?_ ?_ ?_
 . exact⟨by simp[e1],by simp,by simp,by simp,by simp,by simp[qbt]⟩
 . rintro d v rest ev ⟨H1,T1⟩ R hR hd hxv hlt ⟨e1,e7,e29,e30,e31,bM⟩;have hdw:=wr (n:=(d.length:Int)+1) (by omega) (by omega);have hlt':(d.length:Int)<p.vars.length:=(by omega);have hfn:=qrX hnd hxv 0;have ht1:=qke hxv;have hMl:=(qAU.1 bM).1;have hup:∀(w:List Blk) (T:List (Option Nat)),zj (Dof prog) ⟨H1++w,T⟩ 308 (.map (u.length+1)) (.str v.name) (.bool true)=some ⟨H1.set (u.length+1) (.map ((qbt (p.vars.take (d.length+1))).map JY) (d.length+1))++w,T⟩:=fun w T=>by
    rw[ht1,qBV];generalize (qbt (p.vars.take d.length)).map JY=E at *;simp[zj,qf bM,zI,hfn,ky bM,JY]
   generalize hE2:(qbt (p.vars.take (d.length+1))).map JY=E2 at *;simp[e7,e29,e30,e31,hlt',hxv,hup,hdw];refine hR _ _ ⟨by simp[e1],by simp[e7],by simp[e29],by simp[e30],by simp,?_⟩;rw[qAY,qBo,hE2];exact qf (qA0 hMl) _
 rintro ev ⟨H1,T1⟩ ⟨e1,e7,e29,e30,e31,bM⟩;rw[qCr]at bM;simp[*];refine qFF l (fun d ev U=>ev 7=.map (u.length+1)/\ev 39=.sl 4 (l.map qt) .none/\ev 40=.int .i64 l.length/\ev 41=.int .i64 d.length/\U.H[u.length+1]?=some (.map ((qbt p.vars).map JY) p.vars.length)) ?_ ?_ ?_
 . exact⟨by simp[e7],by simp,by simp,by simp,bM⟩
 . rintro d e rest ev ⟨H2,T2⟩ R hR hd hxe hlt ⟨e7,e39,e40,e41,bM⟩;have hdw:=wr (n:=(d.length:Int)+1) (by omega) (by omega);obtain⟨hk,ht⟩:=hx e (qAV hxe);obtain⟨_,h0,hall,hfit⟩:=KV hk ht;have ha:=QA e ht.1 ht.2.2;have hna:=ZT e ht.1 ht.2.2;have henc:=qc e;rw[h0]at ha;rw[henc]at ha hna;generalize zQ [2] e=N at *;simp[e39,e40,e41,show(d.length:Int)<l.length by omega,hxe,henc];refine qFp ha (by simp) ?_;simp;refine qFp hna (by simp) ?_;simp;refine qFF N (fun dn ev U=>ev 7=.map (u.length+1)/\ev 39=.sl 4 (l.map qt) .none/\ev 40=.int .i64 l.length/\ev 41=.int .i64 d.length/\ev 50=.sl 1 (N.map jm) .none/\ev 51=.int .i64 N.length/\ev 52=.int .i64 dn.length/\U.H[u.length+1]?=some (.map ((qbt p.vars).map JY) p.vars.length)) ?_ ?_ ?_
   . exact⟨by simp[e7],by simp[e39],by simp[e40],by simp[e41],by simp,by simp,by simp,qf bM _⟩
   . rintro dn s rest2 ev ⟨H3,T3⟩ R2 hR2 hd2 hxs hlt2 ⟨e7,e39,e40,e41,e50,e51,e52,bM⟩;have hdw2:=wr (n:=(dn.length:Int)+1) (by omega) (by omega);obtain⟨v,hvm,hvn⟩:=hall s (qAV hxs);obtain⟨j,hj⟩:=qrW hvm 0;rw[hvn]at hj;have hlk:zD (Dof prog) ⟨H3,T3⟩ 308 (.map (u.length+1)) (.str s) false=some (.bool true):=by
      generalize (qbt p.vars).map JY=E at *;simp[*,zD,zI]
     simp[e7,e50,e51,e52,show(dn.length:Int)<N.length by omega,hxs,hlk,hdw2];exact hR2 _ _ ⟨by simp[e7],by simp[e39],by simp[e40],by simp[e41],by simp[e50],by simp[e51],by simp,bM⟩
   rintro ev ⟨H3,T3⟩ ⟨e7,e39,e40,e41,e50,e51,e52,bM⟩;simp[e41,e51,e52,hdw];exact hR _ _ ⟨by simp[e7],by simp[e39],by simp[e40],by simp,bM⟩
 rintro ev ⟨H2,T2⟩ ⟨e7,e39,e40,e41,bM⟩;simp[e40,e41]
def WK(p)(h:VQ p)(hv:qo p=0)(hv20:p.vars.length<=20)(hb:wh p.vars (qQ p)<=18)(l)(hf:l.length<=1000000)(hx:∀e∈l,zB p.vars e=0/\Ji e):
 Pure prog GG 141 [.agg (qA p),.sl 4 (l.map qt) .none] (.tup [.bool (jQ p.vars l),.int .i64 0]):=by
 refine qFm qg func141 rfl (by kernel_rfl) ?_;have hc:=qoV p h hv l hf hx;have hs:=Zd p l h hv20 hb (by show l.length<_;omega) (fun e he=>(hx e he).2);have hsb:Yg p l=jQ p.vars l:=by
  have:l.all (wJ p.vars)=true:=qA3.2 fun e he=>decide_eq_true (hx e he).1
  unfold Yg;rw[this];simp[hv]
 rw[hsb]at hs;simp at hc hs;simp;refine qFp hc (by simp) ?_;simp;refine qFp hs (by simp) ?_;simp
def Ym(p:Problem)(i:Nat):Str:=match p.vars[i]? with
 |some v=>v.name
 |none=>[]
noncomputable def qd3(p:Problem)(fx:Nat->Option Nat):List Nat->List Ex->Nat
 |[],R=>if jQ p.vars R=true then 1 else 0
 |i::r,R=>if jQ p.vars R=true then(vL (jO p i) (fx i)).foldl (fun s v=>sat (s+sat (wtP p i v*qd3 p fx r (R++[eqE (Ym p i) (v:Int)])))) 0 else 0
def qq2(p fx g R):qd3 p fx g R<=lim:=by
 cases g with
 |nil=>unfold qd3 lim;split<;>omega
 | cons i r=>
  unfold qd3;split
  . exact yZ _ _ _ (qCO _)
  exact qCO _
def quF:Tok->Tok
 |.chain .. =>.none
 |t=>t
def qtl(R:List Ex)(tok:Tok):Prop:=R≠[]\/tok=.tight
def qtl.p{R tok}(h:qtl R tok):R≠[]\/(quF tok).known=true:=h.imp id fun e=>by rw[e];rfl
def qfN:List (Nat×Sch×List Nat):=[(10,.step 0 [10,9,8,7,1] (.step 1 [10,9,8,7] (.step 2 [10,9,8,7] (.step 3 [10,9,8,7,5,4] (.step 4 [10,9,8,7,5] (.step 5 [10,9,8,7] (.step 6 [10,9,8,7] (.step 7 [10,9,8] (.step 8 [10,9] (.step 9 [10] (.step 10 [] (.done))))))))))),[7]),(11,.step 0 [18,17] (.step 1 [18,17,16,15,9,4,3,2] (.step 2 [18,17,16,15,9,4,3] (.step 3 [18,17,16,15,9,4] (.step 4 [18,17,16,15,9] (.step 5 [18,17,16,15,9,7,6] (.step 6 [18,17,16,15,9,7] (.step 7 [18,17,16,15,9] (.step 8 [18,17,16,15,9] (.step 10 [18,17,16,15] (.step 11 [18,17,16,15,12] (.step 12 [18,17,16,15] (.step 13 [18,17,16,15] (.step 14 [18,17,16,15] (.step 9 [18,17,16,15] (.step 15 [18,17,16] (.step 16 [18,17] (.step 17 [18] (.step 18 [] (.done))))))))))))))))))),[9,15])]
def qmM{s}(hvq:VQ s.p)(hvp:qo s.p=0)(hv20:s.p.vars.length<=20)(hb:wh s.p.vars (qQ s.p)<=18){fx}(hfx:∀i x,fx i=some x->x<65536){m}:
 ∀ (g) (R) (tok) (H) (T),qtZ s g->(∀e∈R,zB s.p.vars e=0/\Ji e)->R.length+g.length<=100000->qtl R tok->SpOk s H->qiL m fx H ->
  qj prog GG 83 [.ptr s.S 0,.sl 1 (g.map zJ) .none,m,.sl 4 (R.map qt) tok] ⟨H,T⟩ (fun r U'=>r=.int .i64 (qd3 s.p fx g R:Nat)/\KpL [] H U'.H):=by
 intro g
 induction g with
 | nil=>
  intro R tok H T hg hR hlen htok hs hf;refine qFn ⟨false,qfN,[],[]⟩ qg func83 rfl (by kernel_rfl) ?_;have hsv:=WK s.p hvq hvp hv20 hb R (by omega) hR;have hS:=hs.c;simp only[spE,qA,qBl,qBk]at hS;simp only[qA]at hsv;have hst:qd3 s.p fx [] R=if jQ s.p.vars R=true then 1 else 0:=rfl
  rw[hst];simp[hS];refine qFq hsv (by cases tok<;>simp) (by cases tok<;>simp[zm,Leq,qFy]) ?_
  cases hsol:jQ s.p.vars R with
  | false=>
   simp[unA];exact qFV
  | true=>
   simp[unA];exact qFV
 | cons i r ih=>
  intro R tok H T hg hR hlen htok hs hf;refine qFn ⟨false,qfN,[],[]⟩ qg func83 rfl (by kernel_rfl) ?_;have hsv:=WK s.p hvq hvp hv20 hb R (by omega) hR;have hS:=hs.c;simp only[spE,qA,qBl,qBk]at hS;simp only[qA]at hsv;obtain⟨v,l,hv,hw0,hw8,hl,hl20,hwn⟩:=hg i (by simp);have hval:=qbJ hs hf hv ⟨hw0,hw8⟩ T;obtain⟨vals,hvals⟩:∃vals,vals=vL v.width.toNat (fx i):=⟨_,rfl⟩;rw[<- hvals]at hval;have hvb:∀x∈vals,x<65536:=fun x hx=>by
   rw[hvals]at hx
   cases hfi:fx i with
   | none=>
    rw[hfi]at hx;have:=qCd.1 hx;have:2^v.width.toNat<=2^8:=qBn (by omega) (by omega);omega
   | some y=>
    rw[hfi]at hx;have:x=y:=by simpa[vL] using hx
    rw[this];exact hfx i y hfi
  have hvl:vals.length<=256:=by
   rw[hvals]
   cases hfi:fx i with
   |none=>simp only[vL,qED];exact qBN (qBn (by omega) (show v.width.toNat<=8 by omega)) (by decide)
   |some y=>simp[vL]
  have hsum:qd3 s.p fx (i::r) R=if jQ s.p.vars R=true then vals.foldl (fun a x=>sat (a+sat (wtP s.p i x*qd3 s.p fx r (R++[eqE v.name (x:Int)])))) 0 else 0:=by
   rw[hvals,<- show jO s.p i=v.width.toNat by simp[jO,zP,hv],<- show Ym s.p i=v.name by simp[Ym,hv]];rfl
  obtain⟨f,hff⟩:∃f:Nat->Nat,∀x,f x=sat (wtP s.p i x*qd3 s.p fx r (R++[eqE v.name (x:Int)])):=⟨_,fun _=>rfl⟩;have hfle:∀x,f x<=lim:=fun x=>by rw[hff];exact Kh _
  simp only[<- hff]at hsum;rw[hsum];simp[hS];refine qFq hsv (by cases tok<;>simp) (by cases tok<;>simp[zm,Leq,qFy]) ?_
  cases hsol:jQ s.p.vars R with
  | false=>
   simp[unA];exact qFV
  | true=>
   simp[unA,zJ,show ¬(r.length:Int)+1=0 by omega];refine qFs hval ?_;rintro w ⟨H1,T1⟩ ⟨hk1,hrow⟩;have hlenr:=hrow.len;simp[-YD,hlenr];refine qFF vals (fun dn ev U=>ev 0=.ptr s.S 0/\ev 1=.sl 1 ((i::r).map zJ) .none/\ev 2=m/\ev 3=.sl 4 (R.map qt) tok/\ev 11=.int .i64 (dn.foldl (fun a x=>sat (a+f x)) 0:Nat)/\ev 38=w/\ev 39=.int .i64 vals.length/\ev 40=.int .i64 dn.length/\KpL [] H U.H/\qmd w vals U.H H.length) ?_ ?_ ?_
   . exact⟨by simp,by simp[zJ],by simp,by simp,by simp,by simp,by simp,by simp,hk1,hrow⟩
   . rintro dn x rest ev ⟨H2,T2⟩ R2 hR2 hdl hx hlt ⟨e0,e1,e2,e3,e11,e38,e39,e40,hkp,hro⟩;obtain⟨a,ha1,ha2⟩:=hro.at hx;have hdw:=wr (n:=(dn.length:Int)+1) (by omega) (by omega);have hxb:=hvb x (qAV hx);have hs2:=hs.keep hkp (by simp) (by simp) (by simp);have hf2:=hf.keep hkp (by simp);have hcl:=qlz R (quF tok) htok.p;have heq:=qdb hs2 hv (x:Int) T2;have hek:=qgD hvq hvp hv (n:=(x:Int)) (by omega) (by omega);have hae:=yN (eqE v.name (x:Int));have hl4:=zo (eqE v.name (x:Int));have hap:=fun H T=>qaO (R:=R) (X:=eqE v.name (x:Int)) (H:=H) (T:=T) (by omega)
     have hih:=fun n H T=>ih (R++[eqE v.name (x:Int)]) (.chain n 1) H T (fun j hj=>hg j (by simp[hj])) (fun e he=>by
      rcases qBb.1 he with he|he
      . exact hR e he
      rw[qBD]at he;rwa[he]) (by rw[qAY];simp at hlen⊢;omega) (.inl (by simp))
     have hffx:=hff x;have hfx1:=hfle x;have hsl1:(((i::r).map zJ).take (r.length+1)).drop 1=r.map zJ:=by
      rw[qAZ (by simp)];rfl
     generalize eqE v.name (x:Int)=X at *;simp[-zH,-kD,e38,e39,e40,show(dn.length:Int)<vals.length by omega,ha1,ha2];rw[qU rfl];simp[-qZ,zg,e3];refine qFq hcl (by cases tok<;>simp) (by cases tok<;>simp[quF]) ?_;simp[*,-qZ,zg,zJ];refine qFs heq ?_;rintro w3 ⟨H3,T3⟩ ⟨rfl,hk3⟩;have hs3:=hs2.keep hk3 (by simp) (by simp) (by simp);have hf3:=hf2.keep hk3 (by simp);have hS3:=hs3.c;simp only[spE,qA,qBl,qBk]at hS3;simp[*,-qZ,zg,qi,qp];rw[qU rfl];obtain⟨o,ho⟩:∃o,(jc s.p.vars.length s.p.dists)[i]?=some o:=⟨_,qAW (by rw[ye];exact(qAU.1 hv).1)⟩;have hweigh:=qaa s.p hs3.w ho (fun w hw=>hwn w (by rw[ho,hw])) (x:Int) (T3++[some 1]);rw[<- show wtP s.p i x=wtO o (x:Int) by simp[wtP,qA8,ho]]at hweigh;have hwle:=qfb s.p i x;have hsle:=qq2 s.p fx r (R++[X]);have hih1:=hih T3.length H3 (T3++[some 1]) hs3 hf3;generalize qd3 s.p fx r (R++[X])=sd at *;generalize wtP s.p i x=wx at *;have hacc:dn.foldl (fun a x=>sat (a+f x)) 0<=lim:=yZ f dn 0 (qCO _);have hsnoc:(dn++[x]).foldl (fun a x=>sat (a+f x)) 0=sat (dn.foldl (fun a x=>sat (a+f x)) 0+f x):=(by rw[qBX];rfl);generalize dn.foldl (fun a x=>sat (a+f x)) 0=acc at *;have ht:=qak wx sd hwle hsle;rw[<- hffx]at ht;have hp:=qjV acc (f x) hacc hfx1;simp only[qBV,qA7,qBy]at hih1;have hsl2:zk (.sl 1 ([AV.int .i64 (i:Int)]::r.map zJ) .none) (some (.int .i64 1)) none none=some (.sl 1 (r.map zJ) .none):=by
      have h2:(1:Int)<=(r.length:Int)+1:=(by omega);simp[zk,zR,yT,zT,h2,qAZ]
     simp[*,zg,zJ];refine qFs hweigh ?_;rintro w4 U ⟨rfl,rfl⟩;simp[zg];refine qFs hih1 ?_;rintro w5 ⟨H5,T5⟩ ⟨rfl,hk5⟩;simp[zg];refine qFp ht rfl ?_;simp[zg];refine qFp hp rfl ?_;simp[zg,e40,hdw];exact hR2 _ _ ⟨by simp[e0],by simp[e1,zJ],by simp[e2],by simp[e3],by simp[hsnoc],by simp[e38],by simp[e39],by simp,(hkp.trans hk3).trans hk5,((hro.imp id fun⟨N,h1,h2,h3⟩=>⟨N,h1,h2,hk5.2 _ _ (hk3.2 _ _ h3 (by simp)) (by simp)⟩))⟩
   rintro ev ⟨H2,T2⟩ ⟨e0,e1,e2,e3,e11,e38,e39,e40,hkp,hro⟩;simp[e11,e39,e40];exact hkp
