import Derived.Test.YtafbccendejkeaaGreatDoorPv05
set_option maxHeartbeats 16000000
set_option maxRecDepth 100000
set_option linter.all false
namespace Go.Proofs.YtafbccendejkeaaGreatDoor
open Go Go.Abs Tryz
def qpf(op):Pure prog GG 334 [.int .i64 op] (.int .i64 (zB op)):=by
 refine okzQ func334 rfl rfl ?_;by_cases o1:op=1
 . subst o1;simp[zB]
 by_cases o2:op=2
 . subst o2;simp[zB]
 by_cases o24:op=24
 . subst o24;simp[zB]
 by_cases o3:op=3
 . subst o3;simp[zB]
 by_cases o4:op=4
 . subst o4;simp[zB]
 by_cases o5:op=5
 . subst o5;simp[zB]
 by_cases o6:op=6
 . subst o6;simp[zB]
 by_cases o25:op=25
 . subst o25;simp[zB]
 by_cases o22:op=22
 . subst o22;simp[zB]
 by_cases o23:op=23
 . subst o23;simp[zB]
 by_cases c1:op<1
 . have e:zB op = -1:=(by simp[zB,o1,o2,o24,o3,o4,o5,o6,o25,o22,o23,c1]);rw[e];simp[o1,o2,o24,o3,o4,o5,o6,o25,o22,o23,c1]
 by_cases c2:25<op
 . have e:zB op = -1:=(by simp[zB,o1,o2,o24,o3,o4,o5,o6,o25,o22,o23,c2]);rw[e];simp[o1,o2,o24,o3,o4,o5,o6,o25,o22,o23,c1,c2]
 rw[show zB op=2 by simp[zB,o1,o2,o24,o3,o4,o5,o6,o25,o22,o23,c1,c2]];simp[o1,o2,o24,o3,o4,o5,o6,o25,o22,o23,c1,c2]
def qez(e):Pure prog GG 294 [.agg (qp e)] (.bool (qk e)):=by
 refine okzQ func294 rfl rfl ?_;have ht:(e.args.length:Int).tmod 2=((e.args.length%2:Nat):Int):=rfl;by_cases o23:e.op=23
 . by_cases c1:e.args.length%2=1
   . have c1':((e.args.length%2:Nat):Int)=1:=(by omega);by_cases c2:3<=e.args.length
     . have c2':(3:Int)<=e.args.length:=(by omega);by_cases c3:e.args.length<=33
       . have c3':(e.args.length:Int)<=33:=(by omega);have x:qk e=true:=(by simp[qk,o23,c1,c2,c3]);rw[x];simp only[qc,o23];simp[ht,c1',c2',c3']
       have c3':¬(e.args.length:Int)<=33:=(by omega);have x:qk e=false:=(by simp[qk,o23,c3]);rw[x];simp only[qc,o23];simp[ht,c1',c2',c3']
     have c2':¬(3:Int)<=e.args.length:=(by omega);have x:qk e=false:=(by simp[qk,o23,c2]);rw[x];simp only[qc,o23];simp[ht,c1',c2']
   . have c1':¬((e.args.length%2:Nat):Int)=1:=(by omega);have x:qk e=false:=(by simp[qk,o23,c1]);rw[x];simp only[qc,o23];simp[ht,show ¬(e.args.length:Int)%2=1 by omega]
 have x:qk e=decide ((e.args.length:Int)=zB e.op):=by simp[qk,o23]
 rw[x];simp only[qc];simp[o23];refine qFJ (qpf e.op) rfl ?_;simp
 try(rw[qB7];simp)
def qr9(e)(hs:Fits e.name):Pure prog GG 234 [.agg (qp e)] (.int .i64 (qt e)):=by
 refine okzQ func234 rfl rfl ?_;have hop:=qez e;have hvar:=qob e.name hs;have hnam:=Qo e.name;rw[qc]at hop⊢;obtain⟨op,n,s,a⟩:=e;simp only[qFu,Ex.n_mk,qFv,qFw]at hop hvar hnam hs⊢;by_cases c1:op<1
 . have x:qt (.mk op n s a)=1:=(by simp[qt,c1]);have o2:¬op=2:=(by omega);have o3:¬op=3:=(by omega);have o24:¬op=24:=(by omega);rw[x];simp[c1,o2,o3]
 by_cases c2:25<op
 . have x:qt (.mk op n s a)=1:=(by simp[qt,c2]);have o2:¬op=2:=(by omega);have o3:¬op=3:=(by omega);have o24:¬op=24:=(by omega);rw[x];simp[c1,c2,o2,o3]
 by_cases o1:op=1
 . subst o1;by_cases n1:n<0
   . have x:qt (.mk 1 n s a)=1:=(by simp[qt,n1]);rw[x];simp[n1]
   by_cases n2:65535<n
   . have x:qt (.mk 1 n s a)=1:=(by simp[qt,n2]);rw[x];simp[n1,n2]
   by_cases hnm:s=[]
   . subst hnm;simp[n1,n2];refine qFJ hop (by simp) ?_;cases ho:qk (.mk 1 n [] a)
     . have x:qt (.mk 1 n [] a)=1:=(by simp[qt,ho]);rw[x];simp
     have x:qt (.mk 1 n [] a)=0:=(by simp[qt,ho];omega);rw[x];simp
   have x:qt (.mk 1 n s a)=1:=(by simp[qt,hnm]);have hie:s.isEmpty=false:=(by simpa using hnm);rw[x];simp[n1,n2,show(s == [])=false by simpa using hnm]
 by_cases n0:n=0
 . subst n0;by_cases o2:op=2
   . subst o2;simp;refine qFJ hop (by simp) ?_;cases ho:qk (.mk 2 0 s a)
     . have x:qt (.mk 2 0 s a)=1:=(by simp[qt,ho]);rw[x];simp
     simp;refine qFJ hvar rfl ?_;cases hv:wq s
     . have x:qt (.mk 2 0 s a)=7:=(by simp[qt,ho,hv]);rw[x];simp
     have x:qt (.mk 2 0 s a)=0:=(by simp[qt,ho,hv]);rw[x];simp
   by_cases o3:op=3
   . subst o3;simp;refine qFJ hop (by simp) ?_;cases ho:qk (.mk 3 0 s a)
     . have x:qt (.mk 3 0 s a)=1:=(by simp[qt,ho]);rw[x];simp
     simp;refine qFJ hnam rfl ?_;cases hv:z8 s
     . have x:qt (.mk 3 0 s a)=7:=(by simp[qt,ho,hv]);rw[x];simp
     have x:qt (.mk 3 0 s a)=0:=(by simp[qt,ho,hv]);rw[x];simp
   by_cases o24:op=24
   . subst o24;simp;refine qFJ hop (by simp) ?_;cases ho:qk (.mk 24 0 s a)
     . have x:qt (.mk 24 0 s a)=1:=(by simp[qt,ho]);rw[x];simp
     simp;refine qFJ hnam rfl ?_;cases hv:z8 s
     . have x:qt (.mk 24 0 s a)=7:=(by simp[qt,ho,hv]);rw[x];simp
     have x:qt (.mk 24 0 s a)=0:=(by simp[qt,ho,hv]);rw[x];simp
   have b1:(op==1)=false:=(by simpa using o1);have b1':(op != 1)=true:=(by simpa using o1);have b2:(op==2)=false:=(by simpa using o2);have b3:(op==3)=false:=(by simpa using o3);have b24:(op==24)=false:=(by simpa using o24);by_cases hnm:s=[]
   . subst hnm;simp[c1,c2,b1,b1',b2,b3,b24];refine qFJ hop (by simp) ?_;cases ho:qk (.mk op 0 [] a)
     . have x:qt (.mk op 0 [] a)=1:=(by simp[qt,ho]);rw[x];simp
     have x:qt (.mk op 0 [] a)=0:=(by simp[qt,ho,c1,c2,o1,o2,o3,o24]);rw[x];simp[b2,b3,b24]
   have hie:s.isEmpty=false:=(by simpa using hnm);have x:qt (.mk op 0 s a)=1:=(by simp[qt,c1,c2,o1,o2,o3,o24,hnm]);rw[x];simp[c1,c2,b1,b1',b2,b3,b24,hie]
 have x:qt (.mk op n s a)=1:=by simp[qt,o1,n0]
 rw[x];by_cases o2:op=2
 . subst o2;simp[n0]
 by_cases o3:op=3
 . subst o3;simp[n0]
 by_cases o24:op=24
 . subst o24;simp[n0]
 simp[c1,c2,show(op==1)=false by simpa using o1,show(op != 1)=true by simpa using o1,show(op==2)=false by simpa using o2,show(op==3)=false by simpa using o3,show(op==24)=false by simpa using o24,show(n != 0)=true by simpa using n0]
def Wl{l m}:Jv (l++m)=max (Jv l) (Jv m):=by
 induction l with
 |nil=>simp
 |cons a r ih=>simp only[qBB,Jc,ih];omega
def qoN:∀(e),Wen e->hgt e<1000000->Pure prog GG 235 [.agg (qp e)] (.int .i64 (hgt e)):=by
 refine qFX fun e ih hwe hh=>?_
 refine okzQ func235 rfl rfl ?_;have hl:=hwe.fits;simp only[qc e];simp;refine qFW (fun n env U=>∃i tl,i<=e.args.length/\n=e.args.length-i/\env 3=.int .i64 (Jv (e.args.take i))/\env 7=.sl 4 (e.args.map qp) .none/\env 8=.int .i64 e.args.length/\env 9=.int .i64 i/\U=⟨tl,[]⟩) e.args.length ⟨0,_,by simp,by simp,by simp,by simp,by simp,by simp,rfl⟩ ?_;rintro n env U ⟨i,tl,hi,rfl,h3,h7,h8,h9,rfl⟩
 cases hv:e.args[i]? with
 | some a=>
  obtain⟨hc,hv'⟩:=qBa.1 hv;have hm:=qBb hv;have hlt:=qkO hm;have e1:Jv (e.args.take (i+1))=max (Jv (e.args.take i)) (hgt a):=by
   rw[qBG,hv,Wl];simp
  simp[h3,h7,h8,h9,hc,hv',qc a,qBO];rw[<- qc a];refine qFJ (ih a hm (hwe.arg hm) (by omega)) (by simp) ?_;simp[qnX,h9];refine⟨_,by omega,i+1,by omega,rfl,?_,wr (by omega) (by omega)⟩;rw[e1];split<;>omega
 | none=>
  have hc:¬i<e.args.length:=by simp at hv;omega
  have ht:e.args.take i=e.args:=qBh (by omega);rw[ht]at h3;have hw:IntKind.i64.wrap ((Jv e.args:Int)+1)=hgt e:=by rw[wH e]at hh⊢;rw[wr (by omega) (by omega)];omega
  simp[h3,h7,h8,h9,hc,hw]
noncomputable def stV(_:Int)(e:Ex):Int×Bool:=(qt e,qt e==0)
def stN(n:Int)(_:Ex):Int×Bool:=(IntKind.i64.wrap (n+1),true)
def qiZ(c m):qdK stV (fun s=>[.cells c,.cells [.int .i64 s]]) (fun _=>[]) 233 [.ptr 1 0] m:=by
 intro s tail e hwe _;refine qj.vc qX func233 rfl (by kernel_rfl) ?_;simp only[qc e];simp;rw[<- qc e];refine qFJ (qr9 e hwe.nm) (by simp) ?_;simp[stV]
def qiY(c m):qdK stN (fun s=>[.cells c,.cells [.int .i64 s]]) (fun _=>[]) 296 [.ptr 1 0] m:=by
 intro s tail e hwe _;refine qj.vc qX func296 rfl (by kernel_rfl) ?_;simp only[qc e];simp[stN]
def qrk(e)(hwe:Wen e):Pure prog GG 236 [.agg (qp e)] (.int .i64 (W4 e)):=by
 refine okzQ func236 rfl rfl ?_;have hx:(ZT stN 0 (pre e)).1=W4 e:=by
  rw[KB (fun s e=>rfl)];have:=V4 (n:=0) (pre e);simp only[qFq]at this;rw[W4,<- this];simp[stN,IntKind.wrap,IntKind.bits,IntKind.signed]
 simp only[qc e];simp;rw[<- qc e];refine qFN (qdW (c:=2) (hd:=fun s=>[.cells (qp e),.cells [.int .i64 s]]) (T:=fun _=>[]) (m:=fun _=>(pre e).length) (fun _=>rfl) (fun _ _=>by omega) (qiY _ _) e hwe 0 (qBl _) []) ?_;rintro r U' ⟨t,rfl⟩;rw[hx];simp
def qk6(e):(ZT stV 0 (pre e)).1=qU qt (pre e):=by
 have:=Vz (f:=qt) 0 (pre e)
 rwa[if_neg (by rw[jF];simp)]at this
def Ki(e)(hwe:Wen e)(hh:hgt e<1000000):Pure prog GG 163 [.agg (qp e)] (.int .i64 (zk e)):=by
 refine okzQ func163 rfl rfl ?_;simp only[qc e];simp;rw[<- qc e];refine qFN (qdW (c:=2) (hd:=fun s=>[.cells (qp e),.cells [.int .i64 s]]) (T:=fun _=>[]) (m:=fun _=>(pre e).length) (fun _=>rfl) (fun _ _=>by omega) (qiZ _ _) e hwe 0 (qBl _) []) ?_;rintro r U' ⟨t,rfl⟩;rw[qk6];by_cases h0:qU qt (pre e)=0
 . rw[h0];simp[qc e];rw[<- qc e];refine qFJ (qoN e hwe hh) (by simp) ?_;by_cases h24:24<hgt e
   . have h24':(24:Int)<hgt e:=(by omega);have x:zk e=2:=(by unfold zk;rw[if_pos ⟨h0,.inl h24⟩]);rw[x];simp[h24']
   have h24':¬(24:Int)<hgt e:=(by omega);simp[h24',qc e];rw[<- qc e];refine qFJ (qrk e hwe) (by simp) ?_;by_cases h4:400<W4 e
   . have x:zk e=2:=(by unfold zk;rw[if_pos ⟨h0,.inr h4⟩]);rw[x];simp[h4]
   have x:zk e=0:=(by unfold zk;rw[if_neg (fun h=>by rcases h.2 with h|h;exact h24 h;exact h4 h),h0]);rw[x];simp[h4]
 have x:zk e=qU qt (pre e):=by unfold zk;rw[if_neg (fun h=>h0 h.1)]
 rw[x];simp[show(qU qt (pre e)==0)=false by simpa using h0]
def stM(ops:List Int)(s:List Str)(e:Ex):List Str×Bool:=(WT ops s e,true)
def qtU(s:List Str):AV:=match s with
 |[]=>.sl 0 [] .nil
 |a::r=>.sl 1 ((a::r).map jo) (.chain 0 (r.length+1))
def qu3(s:List Str):List (Option Nat):=match s with
 |[]=>[]
 |_::r=>[some (r.length+1)]
def any_beq'{α:Type}[BEq α](l:List α)(a:α):(l.any fun v=>a==v)=l.contains a:=by rw[List.any_beq]
def qiX(c ops)(ho:Fits ops):qdK (stM ops) (fun s=>[.cells c,.cells [.sl 1 (ops.map qh) .none],.cells [qtU s]]) qu3 309 [.ptr 1 0,.ptr 2 0] (fun s=>1000000-s.length):=by
 intro s tail e hwe hm;refine qj.vc qX func309 rfl (by kernel_rfl) ?_;simp only[qc e];simp;refine qFJ (qe2 GG ops e.op ho) (by simp) ?_;rw[any_beq'];cases hc:ops.contains e.op
 . have x:WT ops s e=s:=(by simp only[WT,hc,qDo];rfl);simp[stM,x]
 cases s with
 | nil=>
  simp[qtU];refine qFK (ZA GG [] e.name (by simp)) (by simp) (by simp[Leq]) ?_;have x:WT ops [] e=[e.name]:=by simp only[WT,hc];rfl
  simp[stM,x,qu3,qr,qe,ql,qZ]
 | cons a r=>
  simp[qtU];refine qFY (ZA GG (a::r) e.name (by simp at hm⊢;omega)) (by simp) (by simp) ?_;rw[any_beq'];cases hn:(a::r).contains e.name
  . have x:WT ops (a::r) e=a::(r++[e.name]):=(by simp only[WT,hc,hn];rfl);simp[stM,x,qu3,qr,qe,ql,qZ,show r.length<=549755813886 by simp at hm;omega]
  have x:WT ops (a::r) e=a::r:=by simp only[WT,hc,hn];rfl
  simp[stM,x,qu3]
def qgG{ops}:∀(l:List Ex) (s),l.foldl (fun s e=>(stM ops s e).1) s=l.foldl (WT ops) s
 |[],s=>rfl
 |e::r,s=>by rw[qBP,qBP];exact qgG r _
def vO{ops s e}:(WT ops s e).length<=s.length+1:=by
 unfold WT;split<;>simp
def qgi(e)(hwe:Wen e)(ops)(ho:Fits ops)(hsz:(pre e).length<=100000):Pure prog GG 254 [.agg (qp e),.sl 1 (ops.map qh) .none] (.sl 1 ((zO ops e).map jo) .none):=by
 refine okzQ func254 rfl rfl ?_;simp only[qc e];simp;rw[<- qc e];refine qFN (qdW (c:=3) (hd:=fun s=>[.cells (qp e),.cells [.sl 1 (ops.map qh) .none],.cells [qtU s]]) (T:=qu3) (m:=fun s=>1000000-s.length) (fun _=>rfl) (fun s x=>by have:=vO (ops:=ops) (s:=s) (e:=x);simp only[stM];omega) (qiX _ ops ho) e hwe [] (by simp;omega) []) ?_;rintro r U' ⟨t,rfl⟩;rw[KB (fun s e=>rfl),qgG];have hn:(pre e).foldl (WT ops) []=zO ops e:=rfl;rw[hn]
 cases hs:zO ops e with
 |nil=>simp[qtU,Leq]
 |cons a r=>simp[qtU,hs]
def QE(e)(hwe:Wen e)(hsz:(pre e).length<=100000):Pure prog GG 176 [.agg (qp e)] (.sl 1 ((zO [3,24] e).map jo) .none):=by
 refine okzQ func176 rfl rfl ?_;simp only[qc e];simp[qe,ql];rw[<- qc e];refine qFK (qgi e hwe [3,24] (by decide) hsz) (by simp) (by simp[Leq]) ?_;simp[]
def Z5(e)(hwe:Wen e)(hsz:(pre e).length<=100000):Pure prog GG 178 [.agg (qp e)] (.sl 1 ((zO [2] e).map jo) .none):=by
 refine okzQ func178 rfl rfl ?_;simp only[qc e];simp[qe,ql];rw[<- qc e];refine qFK (qgi e hwe [2] (by decide) hsz) (by simp) (by simp[Leq]) ?_;simp[]
