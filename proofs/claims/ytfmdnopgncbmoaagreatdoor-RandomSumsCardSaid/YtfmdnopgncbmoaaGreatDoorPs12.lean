import Derived.Test.YtfmdnopgncbmoaaGreatDoorPs08
set_option maxHeartbeats 16000000
set_option maxRecDepth 100000
set_option linter.all false
set_option linter.defProp false
namespace Go.Proofs.YtfmdnopgncbmoaaGreatDoor
open Go Go.Abs Tryz
def qmZ(op):Pure prog GG 271 [.int .i64 op] (.int .i64 (zm op)):=by
 refine qDb qe func271 rfl (by kernel_rfl) ?_;by_cases o1:op=1
 . subst o1;simp[zm]
 by_cases o2:op=2
 . subst o2;simp[zm]
 by_cases o24:op=24
 . subst o24;simp[zm]
 by_cases o3:op=3
 . subst o3;simp[zm]
 by_cases o4:op=4
 . subst o4;simp[zm]
 by_cases o5:op=5
 . subst o5;simp[zm]
 by_cases o6:op=6
 . subst o6;simp[zm]
 by_cases o25:op=25
 . subst o25;simp[zm]
 by_cases o22:op=22
 . subst o22;simp[zm]
 by_cases o23:op=23
 . subst o23;simp[zm]
 by_cases c1:op<1
 . have e:zm op = -1:=(by simp[zm,o1,o2,o24,o3,o4,o5,o6,o25,o22,o23,c1]);rw[e];simp[o1,o2,o24,o3,o4,o5,o6,o25,o22,o23,c1]
 by_cases c2:25<op
 . have e:zm op = -1:=(by simp[zm,o1,o2,o24,o3,o4,o5,o6,o25,o22,o23,c2]);rw[e];simp[o1,o2,o24,o3,o4,o5,o6,o25,o22,o23,c1,c2]
 rw[show zm op=2 by simp[zm,o1,o2,o24,o3,o4,o5,o6,o25,o22,o23,c1,c2]];simp[o1,o2,o24,o3,o4,o5,o6,o25,o22,o23,c1,c2]
def qcM(e):Pure prog GG 216 [.agg (qt e)] (.bool (qi e)):=by
 refine qDb qe func216 rfl (by kernel_rfl) ?_;have ht:(e.args.length:Int).tmod 2=((e.args.length%2:Nat):Int):=rfl;by_cases o23:e.op=23
 . by_cases c1:e.args.length%2=1
   . have c1':((e.args.length%2:Nat):Int)=1:=(by omega);by_cases c2:3<=e.args.length
     . have c2':(3:Int)<=e.args.length:=(by omega);by_cases c3:e.args.length<=33
       . have c3':(e.args.length:Int)<=33:=(by omega);have x:qi e=true:=(by simp[qi,o23,c1,c2,c3]);rw[x];simp only[qd,o23];simp[ht,c1',c2',c3']
       have c3':¬(e.args.length:Int)<=33:=(by omega);have x:qi e=false:=(by simp[qi,o23,c3]);rw[x];simp only[qd,o23];simp[ht,c1',c2',c3']
     have c2':¬(3:Int)<=e.args.length:=(by omega);have x:qi e=false:=(by simp[qi,o23,c2]);rw[x];simp only[qd,o23];simp[ht,c1',c2']
   . have c1':¬((e.args.length%2:Nat):Int)=1:=(by omega);have x:qi e=false:=(by simp[qi,o23,c1]);rw[x];simp only[qd,o23];simp[ht,show ¬(e.args.length:Int)%2=1 by omega]
 have x:qi e=decide ((e.args.length:Int)=zm e.op):=by simp[qi,o23]
 rw[x];simp only[qd];simp[o23];refine qCW (qmZ e.op) rfl ?_;simp
 try(rw[qzz];simp)
def qpF(e)(hs:Fits e.name):Pure prog GG 156 [.agg (qt e)] (.int .i64 (qp e)):=by
 refine qDb qe func156 rfl (by kernel_rfl) ?_;have hop:=qcM e;have hvar:=qlZ e.name hs;have hnam:=vI e.name;rw[qd]at hop⊢;obtain⟨op,n,s,a⟩:=e;simp only[qCH,Ex.n_mk,qCI,qCJ]at hop hvar hnam hs⊢;by_cases c1:op<1
 . have x:qp (.mk op n s a)=1:=(by simp[qp,c1]);have o2:¬op=2:=(by omega);have o3:¬op=3:=(by omega);have o24:¬op=24:=(by omega);rw[x];simp[c1,o2,o3]
 by_cases c2:25<op
 . have x:qp (.mk op n s a)=1:=(by simp[qp,c2]);have o2:¬op=2:=(by omega);have o3:¬op=3:=(by omega);have o24:¬op=24:=(by omega);rw[x];simp[c1,c2,o2,o3]
 by_cases o1:op=1
 . subst o1;by_cases n1:n<0
   . have x:qp (.mk 1 n s a)=1:=(by simp[qp,n1]);rw[x];simp[n1]
   by_cases n2:65535<n
   . have x:qp (.mk 1 n s a)=1:=(by simp[qp,n2]);rw[x];simp[n1,n2]
   by_cases hnm:s=[]
   . subst hnm;simp[n1,n2];refine qCW hop (by simp) ?_;cases ho:qi (.mk 1 n [] a)
     . have x:qp (.mk 1 n [] a)=1:=(by simp[qp,ho]);rw[x];simp
     have x:qp (.mk 1 n [] a)=0:=(by simp[qp,ho];omega);rw[x];simp
   have x:qp (.mk 1 n s a)=1:=(by simp[qp,hnm]);have hie:s.isEmpty=false:=(by simpa using hnm);rw[x];simp[n1,n2,show(s == [])=false by simpa using hnm]
 by_cases n0:n=0
 . subst n0;by_cases o2:op=2
   . subst o2;simp;refine qCW hop (by simp) ?_;cases ho:qi (.mk 2 0 s a)
     . have x:qp (.mk 2 0 s a)=1:=(by simp[qp,ho]);rw[x];simp
     simp;refine qCW hvar rfl ?_;cases hv:kq s
     . have x:qp (.mk 2 0 s a)=7:=(by simp[qp,ho,hv]);rw[x];simp
     have x:qp (.mk 2 0 s a)=0:=(by simp[qp,ho,hv]);rw[x];simp
   by_cases o3:op=3
   . subst o3;simp;refine qCW hop (by simp) ?_;cases ho:qi (.mk 3 0 s a)
     . have x:qp (.mk 3 0 s a)=1:=(by simp[qp,ho]);rw[x];simp
     simp;refine qCW hnam rfl ?_;cases hv:zQ s
     . have x:qp (.mk 3 0 s a)=7:=(by simp[qp,ho,hv]);rw[x];simp
     have x:qp (.mk 3 0 s a)=0:=(by simp[qp,ho,hv]);rw[x];simp
   by_cases o24:op=24
   . subst o24;simp;refine qCW hop (by simp) ?_;cases ho:qi (.mk 24 0 s a)
     . have x:qp (.mk 24 0 s a)=1:=(by simp[qp,ho]);rw[x];simp
     simp;refine qCW hnam rfl ?_;cases hv:zQ s
     . have x:qp (.mk 24 0 s a)=7:=(by simp[qp,ho,hv]);rw[x];simp
     have x:qp (.mk 24 0 s a)=0:=(by simp[qp,ho,hv]);rw[x];simp
   have b1:(op==1)=false:=(by simpa using o1);have b1':(op != 1)=true:=(by simpa using o1);have b2:(op==2)=false:=(by simpa using o2);have b3:(op==3)=false:=(by simpa using o3);have b24:(op==24)=false:=(by simpa using o24);by_cases hnm:s=[]
   . subst hnm;simp[c1,c2,b1,b1',b2,b3,b24];refine qCW hop (by simp) ?_;cases ho:qi (.mk op 0 [] a)
     . have x:qp (.mk op 0 [] a)=1:=(by simp[qp,ho]);rw[x];simp
     have x:qp (.mk op 0 [] a)=0:=(by simp[qp,ho,c1,c2,o1,o2,o3,o24]);rw[x];simp[b2,b3,b24]
   have hie:s.isEmpty=false:=(by simpa using hnm);have x:qp (.mk op 0 s a)=1:=(by simp[qp,c1,c2,o1,o2,o3,o24,hnm]);rw[x];simp[c1,c2,b1,b1',b2,b3,b24,hie]
 have x:qp (.mk op n s a)=1:=by simp[qp,o1,n0]
 rw[x];by_cases o2:op=2
 . subst o2;simp[n0]
 by_cases o3:op=3
 . subst o3;simp[n0]
 by_cases o24:op=24
 . subst o24;simp[n0]
 simp[c1,c2,show(op==1)=false by simpa using o1,show(op != 1)=true by simpa using o1,show(op==2)=false by simpa using o2,show(op==3)=false by simpa using o3,show(op==24)=false by simpa using o24,show(n != 0)=true by simpa using n0]
def YV{l m}:Zr (l++m)=max (Zr l) (Zr m):=by
 induction l with
 |nil=>simp
 |cons a r ih=>simp only[qy3,Zb,ih];omega
def qmB:∀(e),Wen e->hgt e<1000000->Pure prog GG 157 [.agg (qt e)] (.int .i64 (hgt e)):=by
 refine qDa fun e ih hwe hh=>?_
 refine qDb qe func157 rfl (by kernel_rfl) ?_;have hl:=hwe.fits;simp only[qd e];simp;refine qC9 (fun n env U=>∃i tl,i<=e.args.length/\n=e.args.length-i/\env 3=.int .i64 (Zr (e.args.take i))/\env 7=.sl 4 (e.args.map qt) .none/\env 8=.int .i64 e.args.length/\env 9=.int .i64 i/\U=⟨tl,[]⟩) e.args.length ⟨0,_,by simp,by simp,by simp,by simp,by simp,by simp,rfl⟩ ?_;rintro n env U ⟨i,tl,hi,rfl,h3,h7,h8,h9,rfl⟩
 cases hv:e.args[i]? with
 | some a=>
  obtain⟨hc,hv'⟩:=qyF.1 hv;have hm:=qyG hv;have hlt:=qiz hm;have e1:Zr (e.args.take (i+1))=max (Zr (e.args.take i)) (hgt a):=by
   rw[qzb,hv,YV];simp
  simp[h3,h7,h8,h9,hc,hv',qd a,qzi];rw[<- qd a];refine qCW (ih a hm (hwe.arg hm) (by omega)) (by simp) ?_;simp[qlH,h9];refine⟨_,by omega,i+1,by omega,rfl,?_,wr (by omega) (by omega)⟩;rw[e1];split<;>omega
 | none=>
  have hc:¬i<e.args.length:=by simp at hv;omega
  have ht:e.args.take i=e.args:=qyN (by omega);rw[ht]at h3;have hw:IntKind.i64.wrap ((Zr e.args:Int)+1)=hgt e:=by rw[kR e]at hh⊢;rw[wr (by omega) (by omega)];omega
  simp[h3,h7,h8,h9,hc,hw]
noncomputable def stV(_:Int)(e:Ex):Int×Bool:=(qp e,qp e==0)
def stN(n:Int)(_:Ex):Int×Bool:=(IntKind.i64.wrap (n+1),true)
def qgP(c m):qb7 stV (fun s=>[.cells c,.cells [.int .i64 s]]) (fun _=>[]) 155 [.ptr 1 0] m:=by
 intro s tail e hwe _;refine qf.vc qe func155 rfl (by kernel_rfl) ?_;simp only[qd e];simp;rw[<- qd e];refine qCW (qpF e hwe.nm) (by simp) ?_;simp[stV]
def qgO(c m):qb7 stN (fun s=>[.cells c,.cells [.int .i64 s]]) (fun _=>[]) 218 [.ptr 1 0] m:=by
 intro s tail e hwe _;refine qf.vc qe func218 rfl (by kernel_rfl) ?_;simp only[qd e];simp[stN]
def qo5(e)(hwe:Wen e):Pure prog GG 158 [.agg (qt e)] (.int .i64 (KB e)):=by
 refine qDb qe func158 rfl (by kernel_rfl) ?_;have hx:(QU stN 0 (pre e)).1=KB e:=by
  rw[Yj (fun s e=>rfl)];have:=Wx (n:=0) (pre e);simp only[qCD]at this;rw[KB,<- this];simp[stN,IntKind.wrap,IntKind.bits,IntKind.signed]
 simp only[qd e];simp;rw[<- qd e];refine qC0 (qcg (c:=2) (hd:=fun s=>[.cells (qt e),.cells [.int .i64 s]]) (T:=fun _=>[]) (m:=fun _=>(pre e).length) (fun _=>rfl) (fun _ _=>by omega) (qgO _ _) e hwe 0 (qyQ _) []) ?_;rintro r U' ⟨t,rfl⟩;rw[hx];simp
def qiW(e):(QU stV 0 (pre e)).1=qO qp (pre e):=by
 have:=K9 (f:=qp) 0 (pre e)
 rwa[if_neg (by rw[ju];simp)]at this
def Ya(e)(hwe:Wen e)(hh:hgt e<1000000):Pure prog GG 105 [.agg (qt e)] (.int .i64 (ze e)):=by
 refine qDb qe func105 rfl (by kernel_rfl) ?_;simp only[qd e];simp;rw[<- qd e];refine qC0 (qcg (c:=2) (hd:=fun s=>[.cells (qt e),.cells [.int .i64 s]]) (T:=fun _=>[]) (m:=fun _=>(pre e).length) (fun _=>rfl) (fun _ _=>by omega) (qgP _ _) e hwe 0 (qyQ _) []) ?_;rintro r U' ⟨t,rfl⟩;rw[qiW];by_cases h0:qO qp (pre e)=0
 . rw[h0];simp[qd e];rw[<- qd e];refine qCW (qmB e hwe hh) (by simp) ?_;by_cases h24:24<hgt e
   . have h24':(24:Int)<hgt e:=(by omega);have x:ze e=2:=(by unfold ze;rw[if_pos ⟨h0,.inl h24⟩]);rw[x];simp[h24']
   have h24':¬(24:Int)<hgt e:=(by omega);simp[h24',qd e];rw[<- qd e];refine qCW (qo5 e hwe) (by simp) ?_;by_cases h4:400<KB e
   . have x:ze e=2:=(by unfold ze;rw[if_pos ⟨h0,.inr h4⟩]);rw[x];simp[h4]
   have x:ze e=0:=(by unfold ze;rw[if_neg (fun h=>by rcases h.2 with h|h;exact h24 h;exact h4 h),h0]);rw[x];simp[h4]
 have x:ze e=qO qp (pre e):=by unfold ze;rw[if_neg (fun h=>h0 h.1)]
 rw[x];simp[show(qO qp (pre e)==0)=false by simpa using h0]
def stM(ops:List Int)(s:List Str)(e:Ex):List Str×Bool:=(Kr ops s e,true)
def qrg(s:List Str):AV:=match s with
 |[]=>.sl 0 [] .nil
 |a::r=>.sl 1 ((a::r).map z8) (.chain 0 (r.length+1))
def qsp(s:List Str):List (Option Nat):=match s with
 |[]=>[]
 |_::r=>[some (r.length+1)]
def any_beq'{α:Type}[BEq α](l:List α)(a:α):(l.any fun v=>a==v)=l.contains a:=by rw[List.any_beq]
def qgN(c ops)(ho:Fits ops):qb7 (stM ops) (fun s=>[.cells c,.cells [.sl 1 (ops.map qq) .none],.cells [qrg s]]) qsp 268 [.ptr 1 0,.ptr 2 0] (fun s=>1000000-s.length):=by
 intro s tail e hwe hm;refine qf.vc qe func268 rfl (by kernel_rfl) ?_;simp only[qd e];simp;refine qCW (qdc GG ops e.op ho) (by simp) ?_;rw[any_beq'];cases hc:ops.contains e.op
 . have x:Kr ops s e=s:=(by simp only[Kr,hc,qAD];rfl);simp[stM,x]
 cases s with
 | nil=>
  simp[qrg];refine qCX (QG GG [] e.name (by simp)) (by simp) (by simp[Leq]) ?_;have x:Kr ops [] e=[e.name]:=by simp only[Kr,hc];rfl
  simp[stM,x,qsp,qL,qj,qs,zK]
 | cons a r=>
  simp[qrg];refine qb.pure (QG GG (a::r) e.name (by simp at hm⊢;omega)) (by simp) (by simp) ?_;rw[any_beq'];cases hn:(a::r).contains e.name
  . have x:Kr ops (a::r) e=a::(r++[e.name]):=(by simp only[Kr,hc,hn];rfl);simp[stM,x,qsp,qL,qj,qs,zK,show r.length<=549755813886 by simp at hm;omega]
  have x:Kr ops (a::r) e=a::r:=by simp only[Kr,hc,hn];rfl
  simp[stM,x,qsp]
def qeD{ops}:∀(l:List Ex) (s),l.foldl (fun s e=>(stM ops s e).1) s=l.foldl (Kr ops) s
 |[],s=>rfl
 |e::r,s=>by rw[qzm,qzm];exact qeD r _
def wX{ops s e}:(Kr ops s e).length<=s.length+1:=by
 unfold Kr;split<;>simp
def qeh(e)(hwe:Wen e)(ops)(ho:Fits ops)(hsz:(pre e).length<=100000):Pure prog GG 210 [.agg (qt e),.sl 1 (ops.map qq) .none] (.sl 1 ((zH ops e).map z8) .none):=by
 refine qDb qe func210 rfl (by kernel_rfl) ?_;simp only[qd e];simp;rw[<- qd e];refine qC0 (qcg (c:=3) (hd:=fun s=>[.cells (qt e),.cells [.sl 1 (ops.map qq) .none],.cells [qrg s]]) (T:=qsp) (m:=fun s=>1000000-s.length) (fun _=>rfl) (fun s x=>by have:=wX (ops:=ops) (s:=s) (e:=x);simp only[stM];omega) (qgN _ ops ho) e hwe [] (by simp;omega) []) ?_;rintro r U' ⟨t,rfl⟩;rw[Yj (fun s e=>rfl),qeD];have hn:(pre e).foldl (Kr ops) []=zH ops e:=rfl;rw[hn]
 cases hs:zH ops e with
 |nil=>simp[qrg,Leq]
 |cons a r=>simp[qrg,hs]
def vR(e)(hwe:Wen e)(hsz:(pre e).length<=100000):Pure prog GG 147 [.agg (qt e)] (.sl 1 ((zH [3,24] e).map z8) .none):=by
 refine qDb qe func147 rfl (by kernel_rfl) ?_;simp only[qd e];simp[qj,qs];rw[<- qd e];refine qCX (qeh e hwe [3,24] (by decide) hsz) (by simp) (by simp[Leq]) ?_;simp[]
def Q5(e)(hwe:Wen e)(hsz:(pre e).length<=100000):Pure prog GG 149 [.agg (qt e)] (.sl 1 ((zH [2] e).map z8) .none):=by
 refine qDb qe func149 rfl (by kernel_rfl) ?_;simp only[qd e];simp[qj,qs];rw[<- qd e];refine qCX (qeh e hwe [2] (by decide) hsz) (by simp) (by simp[Leq]) ?_;simp[]
