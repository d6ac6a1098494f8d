import Derived.Test.YtimecmegnocamaaGreatDoorPq10
set_option maxHeartbeats 16000000
set_option maxRecDepth 100000
set_option linter.all false
set_option linter.defProp false
namespace Go.Proofs.YtimecmegnocamaaGreatDoor
open Go Go.Abs Tryz
def qo7(op):Pure prog GG 321 [.int .i64 op] (.int .i64 (zE op)):=by
 refine qFP qg func321 rfl (by kernel_rfl) ?_;by_cases o1:op=1
 . subst o1;simp[zE]
 by_cases o2:op=2
 . subst o2;simp[zE]
 by_cases o24:op=24
 . subst o24;simp[zE]
 by_cases o3:op=3
 . subst o3;simp[zE]
 by_cases o4:op=4
 . subst o4;simp[zE]
 by_cases o5:op=5
 . subst o5;simp[zE]
 by_cases o6:op=6
 . subst o6;simp[zE]
 by_cases o25:op=25
 . subst o25;simp[zE]
 by_cases o22:op=22
 . subst o22;simp[zE]
 by_cases o23:op=23
 . subst o23;simp[zE]
 by_cases c1:op<1
 . have e:zE op = -1:=(by simp[zE,o1,o2,o24,o3,o4,o5,o6,o25,o22,o23,c1]);rw[e];simp[o1,o2,o24,o3,o4,o5,o6,o25,o22,o23,c1]
 by_cases c2:25<op
 . have e:zE op = -1:=(by simp[zE,o1,o2,o24,o3,o4,o5,o6,o25,o22,o23,c2]);rw[e];simp[o1,o2,o24,o3,o4,o5,o6,o25,o22,o23,c1,c2]
 rw[show zE op=2 by simp[zE,o1,o2,o24,o3,o4,o5,o6,o25,o22,o23,c1,c2]];simp[o1,o2,o24,o3,o4,o5,o6,o25,o22,o23,c1,c2]
def qeo(e):Pure prog GG 283 [.agg (qt e)] (.bool (qm e)):=by
 refine qFP qg func283 rfl (by kernel_rfl) ?_;have ht:(e.args.length:Int).tmod 2=((e.args.length%2:Nat):Int):=rfl;by_cases o23:e.op=23
 . by_cases c1:e.args.length%2=1
   . have c1':((e.args.length%2:Nat):Int)=1:=(by omega);by_cases c2:3<=e.args.length
     . have c2':(3:Int)<=e.args.length:=(by omega);by_cases c3:e.args.length<=33
       . have c3':(e.args.length:Int)<=33:=(by omega);have x:qm e=true:=(by simp[qm,o23,c1,c2,c3]);rw[x];simp only[qc,o23];simp[ht,c1',c2',c3']
       have c3':¬(e.args.length:Int)<=33:=(by omega);have x:qm e=false:=(by simp[qm,o23,c3]);rw[x];simp only[qc,o23];simp[ht,c1',c2',c3']
     have c2':¬(3:Int)<=e.args.length:=(by omega);have x:qm e=false:=(by simp[qm,o23,c2]);rw[x];simp only[qc,o23];simp[ht,c1',c2']
   . have c1':¬((e.args.length%2:Nat):Int)=1:=(by omega);have x:qm e=false:=(by simp[qm,o23,c1]);rw[x];simp only[qc,o23];simp[ht,show ¬(e.args.length:Int)%2=1 by omega]
 have x:qm e=decide ((e.args.length:Int)=zE e.op):=by simp[qm,o23]
 rw[x];simp only[qc];simp[o23];refine qFz (qo7 e.op) rfl ?_;simp
 try(rw[qBP];simp)
def qrV(e)(hs:Fits e.name):Pure prog GG 210 [.agg (qt e)] (.int .i64 (qv e)):=by
 refine qFP qg func210 rfl (by kernel_rfl) ?_;have hop:=qeo e;have hvar:=qn6 e.name hs;have hnam:=Qk e.name;rw[qc]at hop⊢;obtain⟨op,n,s,a⟩:=e;simp only[qFi,Ex.n_mk,qFj,qFk]at hop hvar hnam hs⊢;by_cases c1:op<1
 . have x:qv (.mk op n s a)=1:=(by simp[qv,c1]);have o2:¬op=2:=(by omega);have o3:¬op=3:=(by omega);have o24:¬op=24:=(by omega);rw[x];simp[c1,o2,o3]
 by_cases c2:25<op
 . have x:qv (.mk op n s a)=1:=(by simp[qv,c2]);have o2:¬op=2:=(by omega);have o3:¬op=3:=(by omega);have o24:¬op=24:=(by omega);rw[x];simp[c1,c2,o2,o3]
 by_cases o1:op=1
 . subst o1;by_cases n1:n<0
   . have x:qv (.mk 1 n s a)=1:=(by simp[qv,n1]);rw[x];simp[n1]
   by_cases n2:65535<n
   . have x:qv (.mk 1 n s a)=1:=(by simp[qv,n2]);rw[x];simp[n1,n2]
   by_cases hnm:s=[]
   . subst hnm;simp[n1,n2];refine qFz hop (by simp) ?_;cases ho:qm (.mk 1 n [] a)
     . have x:qv (.mk 1 n [] a)=1:=(by simp[qv,ho]);rw[x];simp
     have x:qv (.mk 1 n [] a)=0:=(by simp[qv,ho];omega);rw[x];simp
   have x:qv (.mk 1 n s a)=1:=(by simp[qv,hnm]);have hie:s.isEmpty=false:=(by simpa using hnm);rw[x];simp[n1,n2,show(s == [])=false by simpa using hnm]
 by_cases n0:n=0
 . subst n0;by_cases o2:op=2
   . subst o2;simp;refine qFz hop (by simp) ?_;cases ho:qm (.mk 2 0 s a)
     . have x:qv (.mk 2 0 s a)=1:=(by simp[qv,ho]);rw[x];simp
     simp;refine qFz hvar rfl ?_;cases hv:wg s
     . have x:qv (.mk 2 0 s a)=7:=(by simp[qv,ho,hv]);rw[x];simp
     have x:qv (.mk 2 0 s a)=0:=(by simp[qv,ho,hv]);rw[x];simp
   by_cases o3:op=3
   . subst o3;simp;refine qFz hop (by simp) ?_;cases ho:qm (.mk 3 0 s a)
     . have x:qv (.mk 3 0 s a)=1:=(by simp[qv,ho]);rw[x];simp
     simp;refine qFz hnam rfl ?_;cases hv:z8 s
     . have x:qv (.mk 3 0 s a)=7:=(by simp[qv,ho,hv]);rw[x];simp
     have x:qv (.mk 3 0 s a)=0:=(by simp[qv,ho,hv]);rw[x];simp
   by_cases o24:op=24
   . subst o24;simp;refine qFz hop (by simp) ?_;cases ho:qm (.mk 24 0 s a)
     . have x:qv (.mk 24 0 s a)=1:=(by simp[qv,ho]);rw[x];simp
     simp;refine qFz hnam rfl ?_;cases hv:z8 s
     . have x:qv (.mk 24 0 s a)=7:=(by simp[qv,ho,hv]);rw[x];simp
     have x:qv (.mk 24 0 s a)=0:=(by simp[qv,ho,hv]);rw[x];simp
   have b1:(op==1)=false:=(by simpa using o1);have b1':(op != 1)=true:=(by simpa using o1);have b2:(op==2)=false:=(by simpa using o2);have b3:(op==3)=false:=(by simpa using o3);have b24:(op==24)=false:=(by simpa using o24);by_cases hnm:s=[]
   . subst hnm;simp[c1,c2,b1,b1',b2,b3,b24];refine qFz hop (by simp) ?_;cases ho:qm (.mk op 0 [] a)
     . have x:qv (.mk op 0 [] a)=1:=(by simp[qv,ho]);rw[x];simp
     have x:qv (.mk op 0 [] a)=0:=(by simp[qv,ho,c1,c2,o1,o2,o3,o24]);rw[x];simp[b2,b3,b24]
   have hie:s.isEmpty=false:=(by simpa using hnm);have x:qv (.mk op 0 s a)=1:=(by simp[qv,c1,c2,o1,o2,o3,o24,hnm]);rw[x];simp[c1,c2,b1,b1',b2,b3,b24,hie]
 have x:qv (.mk op n s a)=1:=by simp[qv,o1,n0]
 rw[x];by_cases o2:op=2
 . subst o2;simp[n0]
 by_cases o3:op=3
 . subst o3;simp[n0]
 by_cases o24:op=24
 . subst o24;simp[n0]
 simp[c1,c2,show(op==1)=false by simpa using o1,show(op != 1)=true by simpa using o1,show(op==2)=false by simpa using o2,show(op==3)=false by simpa using o3,show(op==24)=false by simpa using o24,show(n != 0)=true by simpa using n0]
def K9{l m}:Jh (l++m)=max (Jh l) (Jh m):=by
 induction l with
 |nil=>simp
 |cons a r ih=>simp only[qBl,K8,ih];omega
def qoH:∀(e),Wen e->hgt e<1000000->Pure prog GG 211 [.agg (qt e)] (.int .i64 (hgt e)):=by
 refine qFN fun e ih hwe hh=>?_
 refine qFP qg func211 rfl (by kernel_rfl) ?_;have hl:=hwe.fits;simp only[qc e];simp;refine qFM (fun n env U=>∃i tl,i<=e.args.length/\n=e.args.length-i/\env 3=.int .i64 (Jh (e.args.take i))/\env 7=.sl 4 (e.args.map qt) .none/\env 8=.int .i64 e.args.length/\env 9=.int .i64 i/\U=⟨tl,[]⟩) e.args.length ⟨0,_,by simp,by simp,by simp,by simp,by simp,by simp,rfl⟩ ?_;rintro n env U ⟨i,tl,hi,rfl,h3,h7,h8,h9,rfl⟩
 cases hv:e.args[i]? with
 | some a=>
  obtain⟨hc,hv'⟩:=qAU.1 hv;have hm:=qAV hv;have hlt:=qkK hm;have e1:Jh (e.args.take (i+1))=max (Jh (e.args.take i)) (hgt a):=by
   rw[qBi,hv,K9];simp
  simp[h3,h7,h8,h9,hc,hv',qc a,qBx];rw[<- qc a];refine qFz (ih a hm (hwe.arg hm) (by omega)) (by simp) ?_;simp[qnS,h9];refine⟨_,by omega,i+1,by omega,rfl,?_,wr (by omega) (by omega)⟩;rw[e1];split<;>omega
 | none=>
  have hc:¬i<e.args.length:=by simp at hv;omega
  have ht:e.args.take i=e.args:=qAZ (by omega);rw[ht]at h3;have hw:IntKind.i64.wrap ((Jh e.args:Int)+1)=hgt e:=by rw[wC e]at hh⊢;rw[wr (by omega) (by omega)];omega
  simp[h3,h7,h8,h9,hc,hw]
noncomputable def stV(_:Int)(e:Ex):Int×Bool:=(qv e,qv e==0)
def stN(n:Int)(_:Ex):Int×Bool:=(IntKind.i64.wrap (n+1),true)
def qiV(c m):qdD stV (fun s=>[.cells c,.cells [.int .i64 s]]) (fun _=>[]) 209 [.ptr 1 0] m:=by
 intro s tail e hwe _;refine qj.vc qg func209 rfl (by kernel_rfl) ?_;simp only[qc e];simp;rw[<- qc e];refine qFz (qrV e hwe.nm) (by simp) ?_;simp[stV]
def qiU(c m):qdD stN (fun s=>[.cells c,.cells [.int .i64 s]]) (fun _=>[]) 285 [.ptr 1 0] m:=by
 intro s tail e hwe _;refine qj.vc qg func285 rfl (by kernel_rfl) ?_;simp only[qc e];simp[stN]
def qrb(e)(hwe:Wen e):Pure prog GG 212 [.agg (qt e)] (.int .i64 (WU e)):=by
 refine qFP qg func212 rfl (by kernel_rfl) ?_;have hx:(ZI stN 0 (pre e)).1=WU e:=by
  rw[Kk (fun s e=>rfl)];have:=VS (n:=0) (pre e);simp only[qFe]at this;rw[WU,<- this];simp[stN,IntKind.wrap,IntKind.bits,IntKind.signed]
 simp only[qc e];simp;rw[<- qc e];refine qFD (qdN (c:=2) (hd:=fun s=>[.cells (qt e),.cells [.int .i64 s]]) (T:=fun _=>[]) (m:=fun _=>(pre e).length) (fun _=>rfl) (fun _ _=>by omega) (qiU _ _) e hwe 0 (qA5 _) []) ?_;rintro r U' ⟨t,rfl⟩;rw[hx];simp
def qk3(e):(ZI stV 0 (pre e)).1=qY qv (pre e):=by
 have:=Vq (f:=qv) 0 (pre e)
 rwa[if_neg (by rw[jC];simp)]at this
def Y4(e)(hwe:Wen e)(hh:hgt e<1000000):Pure prog GG 136 [.agg (qt e)] (.int .i64 (zp e)):=by
 refine qFP qg func136 rfl (by kernel_rfl) ?_;simp only[qc e];simp;rw[<- qc e];refine qFD (qdN (c:=2) (hd:=fun s=>[.cells (qt e),.cells [.int .i64 s]]) (T:=fun _=>[]) (m:=fun _=>(pre e).length) (fun _=>rfl) (fun _ _=>by omega) (qiV _ _) e hwe 0 (qA5 _) []) ?_;rintro r U' ⟨t,rfl⟩;rw[qk3];by_cases h0:qY qv (pre e)=0
 . rw[h0];simp[qc e];rw[<- qc e];refine qFz (qoH e hwe hh) (by simp) ?_;by_cases h24:24<hgt e
   . have h24':(24:Int)<hgt e:=(by omega);have x:zp e=2:=(by unfold zp;rw[if_pos ⟨h0,.inl h24⟩]);rw[x];simp[h24']
   have h24':¬(24:Int)<hgt e:=(by omega);simp[h24',qc e];rw[<- qc e];refine qFz (qrb e hwe) (by simp) ?_;by_cases h4:400<WU e
   . have x:zp e=2:=(by unfold zp;rw[if_pos ⟨h0,.inr h4⟩]);rw[x];simp[h4]
   have x:zp e=0:=(by unfold zp;rw[if_neg (fun h=>by rcases h.2 with h|h;exact h24 h;exact h4 h),h0]);rw[x];simp[h4]
 have x:zp e=qY qv (pre e):=by unfold zp;rw[if_neg (fun h=>h0 h.1)]
 rw[x];simp[show(qY qv (pre e)==0)=false by simpa using h0]
def stM(ops:List Int)(s:List Str)(e:Ex):List Str×Bool:=(WJ ops s e,true)
def qtF(s:List Str):AV:=match s with
 |[]=>.sl 0 [] .nil
 |a::r=>.sl 1 ((a::r).map jm) (.chain 0 (r.length+1))
def quO(s:List Str):List (Option Nat):=match s with
 |[]=>[]
 |_::r=>[some (r.length+1)]
def any_beq'{α:Type}[BEq α](l:List α)(a:α):(l.any fun v=>a==v)=l.contains a:=by rw[List.any_beq]
def qiT(c ops)(ho:Fits ops):qdD (stM ops) (fun s=>[.cells c,.cells [.sl 1 (ops.map qh) .none],.cells [qtF s]]) quO 311 [.ptr 1 0,.ptr 2 0] (fun s=>1000000-s.length):=by
 intro s tail e hwe hm;refine qj.vc qg func311 rfl (by kernel_rfl) ?_;simp only[qc e];simp;refine qFz (qeP GG ops e.op ho) (by simp) ?_;rw[any_beq'];cases hc:ops.contains e.op
 . have x:WJ ops s e=s:=(by simp only[WJ,hc,qDf];rfl);simp[stM,x]
 cases s with
 | nil=>
  simp[qtF];refine qFA (Zq GG [] e.name (by simp)) (by simp) (by simp[Leq]) ?_;have x:WJ ops [] e=[e.name]:=by simp only[WJ,hc];rfl
  simp[stM,x,quO,qq,qi,qp,za]
 | cons a r=>
  simp[qtF];refine qFO (Zq GG (a::r) e.name (by simp at hm⊢;omega)) (by simp) (by simp) ?_;rw[any_beq'];cases hn:(a::r).contains e.name
  . have x:WJ ops (a::r) e=a::(r++[e.name]):=(by simp only[WJ,hc,hn];rfl);simp[stM,x,quO,qq,qi,qp,za,show r.length<=549755813886 by simp at hm;omega]
  have x:WJ ops (a::r) e=a::r:=by simp only[WJ,hc,hn];rfl
  simp[stM,x,quO]
def qgt{ops}:∀(l:List Ex) (s),l.foldl (fun s e=>(stM ops s e).1) s=l.foldl (WJ ops) s
 |[],s=>rfl
 |e::r,s=>by rw[qBw,qBw];exact qgt r _
def vJ{ops s e}:(WJ ops s e).length<=s.length+1:=by
 unfold WJ;split<;>simp
def qf5(e)(hwe:Wen e)(ops)(ho:Fits ops)(hsz:(pre e).length<=100000):Pure prog GG 257 [.agg (qt e),.sl 1 (ops.map qh) .none] (.sl 1 ((zQ ops e).map jm) .none):=by
 refine qFP qg func257 rfl (by kernel_rfl) ?_;simp only[qc e];simp;rw[<- qc e];refine qFD (qdN (c:=3) (hd:=fun s=>[.cells (qt e),.cells [.sl 1 (ops.map qh) .none],.cells [qtF s]]) (T:=quO) (m:=fun s=>1000000-s.length) (fun _=>rfl) (fun s x=>by have:=vJ (ops:=ops) (s:=s) (e:=x);simp only[stM];omega) (qiT _ ops ho) e hwe [] (by simp;omega) []) ?_;rintro r U' ⟨t,rfl⟩;rw[Kk (fun s e=>rfl),qgt];have hn:(pre e).foldl (WJ ops) []=zQ ops e:=rfl;rw[hn]
 cases hs:zQ ops e with
 |nil=>simp[qtF,Leq]
 |cons a r=>simp[qtF,hs]
def QA(e)(hwe:Wen e)(hsz:(pre e).length<=100000):Pure prog GG 176 [.agg (qt e)] (.sl 1 ((zQ [3,24] e).map jm) .none):=by
 refine qFP qg func176 rfl (by kernel_rfl) ?_;simp only[qc e];simp[qi,qp];rw[<- qc e];refine qFA (qf5 e hwe [3,24] (by decide) hsz) (by simp) (by simp[Leq]) ?_;simp[]
def ZT(e)(hwe:Wen e)(hsz:(pre e).length<=100000):Pure prog GG 178 [.agg (qt e)] (.sl 1 ((zQ [2] e).map jm) .none):=by
 refine qFP qg func178 rfl (by kernel_rfl) ?_;simp only[qc e];simp[qi,qp];rw[<- qc e];refine qFA (qf5 e hwe [2] (by decide) hsz) (by simp) (by simp[Leq]) ?_;simp[]
