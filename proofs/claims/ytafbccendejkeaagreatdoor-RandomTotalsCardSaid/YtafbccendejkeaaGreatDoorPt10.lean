import Derived.Test.YtafbccendejkeaaGreatDoorPt06
set_option maxHeartbeats 16000000
set_option maxRecDepth 100000
set_option linter.all false
set_option linter.defProp false
namespace Go.Proofs.YtafbccendejkeaaGreatDoor
open Go Go.Abs Tryz
def qoL(op):Pure prog GG 334 [.int .i64 op] (.int .i64 (zB op)):=by
 refine qE9 qe func334 rfl (by kernel_rfl) ?_;by_cases o1:op=1
 . subst o1;simp[zB]
 by_cases o2:op=2
 . subst o2;simp[zB]
 by_cases o24:op=24
 . subst o24;simp[zB]
 by_cases o3:op=3
 . subst o3;simp[zB]
 by_cases o4:op=4
 . subst o4;simp[zB]
 by_cases o5:op=5
 . subst o5;simp[zB]
 by_cases o6:op=6
 . subst o6;simp[zB]
 by_cases o25:op=25
 . subst o25;simp[zB]
 by_cases o22:op=22
 . subst o22;simp[zB]
 by_cases o23:op=23
 . subst o23;simp[zB]
 by_cases c1:op<1
 . have e:zB op = -1:=(by simp[zB,o1,o2,o24,o3,o4,o5,o6,o25,o22,o23,c1]);rw[e];simp[o1,o2,o24,o3,o4,o5,o6,o25,o22,o23,c1]
 by_cases c2:25<op
 . have e:zB op = -1:=(by simp[zB,o1,o2,o24,o3,o4,o5,o6,o25,o22,o23,c2]);rw[e];simp[o1,o2,o24,o3,o4,o5,o6,o25,o22,o23,c1,c2]
 have e:zB op=2:=by simp[zB,o1,o2,o24,o3,o4,o5,o6,o25,o22,o23,c1,c2]
 rw[e];simp[o1,o2,o24,o3,o4,o5,o6,o25,o22,o23,c1,c2]
def qel(e):Pure prog GG 294 [.agg (qp e)] (.bool (ql e)):=by
 refine qE9 qe func294 rfl (by kernel_rfl) ?_;have ht:(e.args.length:Int).tmod 2=((e.args.length%2:Nat):Int):=rfl;by_cases o23:e.op=23
 . by_cases c1:e.args.length%2=1
   . have c1':((e.args.length%2:Nat):Int)=1:=(by omega);by_cases c2:3<=e.args.length
     . have c2':(3:Int)<=e.args.length:=(by omega);by_cases c3:e.args.length<=33
       . have c3':(e.args.length:Int)<=33:=(by omega);have x:ql e=true:=(by simp[ql,o23,c1,c2,c3]);rw[x];simp only[qc,o23];simp[ht,c1',c2',c3']
       have c3':¬(e.args.length:Int)<=33:=(by omega);have x:ql e=false:=(by simp[ql,o23,c3]);rw[x];simp only[qc,o23];simp[ht,c1',c2',c3']
     have c2':¬(3:Int)<=e.args.length:=(by omega);have x:ql e=false:=(by simp[ql,o23,c2]);rw[x];simp only[qc,o23];simp[ht,c1',c2']
   . have c1':¬((e.args.length%2:Nat):Int)=1:=(by omega);have c1'':¬(e.args.length:Int)%2=1:=(by omega);have x:ql e=false:=(by simp[ql,o23,c1]);rw[x];simp only[qc,o23];simp[ht,c1'']
 have x:ql e=decide ((e.args.length:Int)=zB e.op):=by simp[ql,o23]
 rw[x];simp only[qc];simp[o23];refine qET (qoL e.op) (by simp) ?_;simp
 try(rw[qBd];simp)
def qrF(e)(hs:Fits e.name):Pure prog GG 234 [.agg (qp e)] (.int .i64 (qs e)):=by
 refine qE9 qe func234 rfl (by kernel_rfl) ?_;have hop:=qel e;have hvar:=qnJ e.name hs;have hnam:=Qc e.name;rw[qc]at hop⊢;obtain⟨op,n,s,a⟩:=e;simp only[qEC,Ex.n_mk,qED,qEE]at hop hvar hnam hs⊢;by_cases c1:op<1
 . have x:qs (.mk op n s a)=1:=(by simp[qs,c1]);have o2:¬op=2:=(by omega);have o3:¬op=3:=(by omega);have o24:¬op=24:=(by omega);rw[x];simp[c1,o2,o3]
 by_cases c2:25<op
 . have x:qs (.mk op n s a)=1:=(by simp[qs,c2]);have o2:¬op=2:=(by omega);have o3:¬op=3:=(by omega);have o24:¬op=24:=(by omega);rw[x];simp[c1,c2,o2,o3]
 by_cases o1:op=1
 . subst o1;by_cases n1:n<0
   . have x:qs (.mk 1 n s a)=1:=(by simp[qs,n1]);rw[x];simp[n1]
   by_cases n2:65535<n
   . have x:qs (.mk 1 n s a)=1:=(by simp[qs,n2]);rw[x];simp[n1,n2]
   by_cases hnm:s=[]
   . subst hnm;simp[n1,n2];refine qET hop (by simp) ?_;cases ho:ql (.mk 1 n [] a)
     . have x:qs (.mk 1 n [] a)=1:=(by simp[qs,ho]);rw[x];simp
     have x:qs (.mk 1 n [] a)=0:=(by simp[qs,ho];omega);rw[x];simp
   have x:qs (.mk 1 n s a)=1:=(by simp[qs,hnm]);have hie:s.isEmpty=false:=(by simpa using hnm);rw[x];simp[n1,n2,show(s == [])=false by simpa using hnm]
 by_cases n0:n=0
 . subst n0;by_cases o2:op=2
   . subst o2;simp;refine qET hop (by simp) ?_;cases ho:ql (.mk 2 0 s a)
     . have x:qs (.mk 2 0 s a)=1:=(by simp[qs,ho]);rw[x];simp
     simp;refine qET hvar (by simp) ?_;cases hv:k0 s
     . have x:qs (.mk 2 0 s a)=7:=(by simp[qs,ho,hv]);rw[x];simp
     have x:qs (.mk 2 0 s a)=0:=(by simp[qs,ho,hv]);rw[x];simp
   by_cases o3:op=3
   . subst o3;simp;refine qET hop (by simp) ?_;cases ho:ql (.mk 3 0 s a)
     . have x:qs (.mk 3 0 s a)=1:=(by simp[qs,ho]);rw[x];simp
     simp;refine qET hnam (by simp) ?_;cases hv:z6 s
     . have x:qs (.mk 3 0 s a)=7:=(by simp[qs,ho,hv]);rw[x];simp
     have x:qs (.mk 3 0 s a)=0:=(by simp[qs,ho,hv]);rw[x];simp
   by_cases o24:op=24
   . subst o24;simp;refine qET hop (by simp) ?_;cases ho:ql (.mk 24 0 s a)
     . have x:qs (.mk 24 0 s a)=1:=(by simp[qs,ho]);rw[x];simp
     simp;refine qET hnam (by simp) ?_;cases hv:z6 s
     . have x:qs (.mk 24 0 s a)=7:=(by simp[qs,ho,hv]);rw[x];simp
     have x:qs (.mk 24 0 s a)=0:=(by simp[qs,ho,hv]);rw[x];simp
   have b1:(op==1)=false:=(by simpa using o1);have b1':(op != 1)=true:=(by simpa using o1);have b2:(op==2)=false:=(by simpa using o2);have b3:(op==3)=false:=(by simpa using o3);have b24:(op==24)=false:=(by simpa using o24);by_cases hnm:s=[]
   . subst hnm;simp[c1,c2,b1,b1',b2,b3,b24];refine qET hop (by simp) ?_;cases ho:ql (.mk op 0 [] a)
     . have x:qs (.mk op 0 [] a)=1:=(by simp[qs,ho]);rw[x];simp
     have x:qs (.mk op 0 [] a)=0:=(by simp[qs,ho,c1,c2,o1,o2,o3,o24]);rw[x];simp[b2,b3,b24]
   have hie:s.isEmpty=false:=(by simpa using hnm);have x:qs (.mk op 0 s a)=1:=(by simp[qs,c1,c2,o1,o2,o3,o24,hnm]);rw[x];simp[c1,c2,b1,b1',b2,b3,b24,hie]
 have x:qs (.mk op n s a)=1:=by simp[qs,o1,n0]
 rw[x];by_cases o2:op=2
 . subst o2;simp[n0]
 by_cases o3:op=3
 . subst o3;simp[n0]
 by_cases o24:op=24
 . subst o24;simp[n0]
 simp[c1,c2,show(op==1)=false by simpa using o1,show(op != 1)=true by simpa using o1,show(op==2)=false by simpa using o2,show(op==3)=false by simpa using o3,show(op==24)=false by simpa using o24,show(n != 0)=true by simpa using n0]
def KX{l m}:Je (l++m)=max (Je l) (Je m):=by
 induction l with
 |nil=>simp
 |cons a r ih=>simp only[qAL,ZV,ih];omega
def qok:∀(e),Wen e->hgt e<1000000->Pure prog GG 235 [.agg (qp e)] (.int .i64 (hgt e)):=by
 refine qE7 fun e ih hwe hh=>?_
 refine qE9 qe func235 rfl (by kernel_rfl) ?_;have hl:=hwe.fits;simp only[qc e];simp;refine qE6 (fun n env U=>∃i tl,i<=e.args.length/\n=e.args.length-i/\env 3=.int .i64 (Je (e.args.take i))/\env 7=.sl 4 (e.args.map qp) .none/\env 8=.int .i64 e.args.length/\env 9=.int .i64 i/\U=⟨tl,[]⟩) e.args.length ⟨0,_,by simp,by simp,by simp,by simp,by simp,by simp,rfl⟩ ?_;rintro n env U ⟨i,tl,hi,rfl,h3,h7,h8,h9,rfl⟩
 cases hv:e.args[i]? with
 | some a=>
  obtain⟨hc,hv'⟩:=qAm.1 hv;have hm:=qAn hv;have hlt:=qks hm;have e1:Je (e.args.take (i+1))=max (Je (e.args.take i)) (hgt a):=by
   rw[qAT,hv,KX];simp
  simp[h3,h7,h8,h9,hc,hv',qc a,qA0];rw[<- qc a];refine qET (ih a hm (hwe.arg hm) (by omega)) (by simp) ?_;simp[qnv,h9];refine⟨_,by omega,i+1,by omega,rfl,?_,wr (by omega) (by omega)⟩;rw[e1];split<;>omega
 | none=>
  have hc:¬i<e.args.length:=by simp at hv;omega
  have ht:e.args.take i=e.args:=qAs (by omega);rw[ht]at h3;have hw:IntKind.i64.wrap ((Je e.args:Int)+1)=hgt e:=by rw[wv e]at hh⊢;rw[wr (by omega) (by omega)];omega
  simp[h3,h7,h8,h9,hc,hw]
noncomputable def stV(_:Int)(e:Ex):Int×Bool:=(qs e,qs e==0)
def stN(n:Int)(_:Ex):Int×Bool:=(IntKind.i64.wrap (n+1),true)
def qiG(c m):qdt stV (fun s=>[.cells c,.cells [.int .i64 s]]) (fun _=>[]) 233 [.ptr 1 0] m:=by
 intro s tail e hwe _;refine qg.vc qe func233 rfl (by kernel_rfl) ?_;simp only[qc e];simp;rw[<- qc e];refine qET (qrF e hwe.nm) (by simp) ?_;simp[stV]
def qiF(c m):qdt stN (fun s=>[.cells c,.cells [.int .i64 s]]) (fun _=>[]) 296 [.ptr 1 0] m:=by
 intro s tail e hwe _;refine qg.vc qe func296 rfl (by kernel_rfl) ?_;simp only[qc e];simp[stN]
def qqU(e)(hwe:Wen e):Pure prog GG 236 [.agg (qp e)] (.int .i64 (WI e)):=by
 refine qE9 qe func236 rfl (by kernel_rfl) ?_;have hx:(ZE stN 0 (pre e)).1=WI e:=by
  rw[Kh (fun s e=>rfl)];have:=VG (n:=0) (pre e);simp only[qEy]at this;rw[WI,<- this];simp[stN,IntKind.wrap,IntKind.bits,IntKind.signed]
 simp only[qc e];simp;rw[<- qc e];refine qEX (qdF (c:=2) (hd:=fun s=>[.cells (qp e),.cells [.int .i64 s]]) (T:=fun _=>[]) (m:=fun _=>(pre e).length) (fun _=>rfl) (fun _ _=>by omega) (qiF _ _) e hwe 0 (qAy _) []) ?_;rintro r U' ⟨t,rfl⟩;rw[hx];simp
def qkK(e):(ZE stV 0 (pre e)).1=qU qs (pre e):=by
 have:=Vg (f:=qs) 0 (pre e);rw[if_neg (by rw[jB];simp)]at this;exact this
def YZ(e)(hwe:Wen e)(hh:hgt e<1000000):Pure prog GG 163 [.agg (qp e)] (.int .i64 (zi e)):=by
 refine qE9 qe func163 rfl (by kernel_rfl) ?_;simp only[qc e];simp;rw[<- qc e];refine qEX (qdF (c:=2) (hd:=fun s=>[.cells (qp e),.cells [.int .i64 s]]) (T:=fun _=>[]) (m:=fun _=>(pre e).length) (fun _=>rfl) (fun _ _=>by omega) (qiG _ _) e hwe 0 (qAy _) []) ?_;rintro r U' ⟨t,rfl⟩;rw[qkK];by_cases h0:qU qs (pre e)=0
 . rw[h0];simp[qc e];rw[<- qc e];refine qET (qok e hwe hh) (by simp) ?_;by_cases h24:24<hgt e
   . have h24':(24:Int)<hgt e:=(by omega);have x:zi e=2:=(by unfold zi;rw[if_pos ⟨h0,.inl h24⟩]);rw[x];simp[h24']
   have h24':¬(24:Int)<hgt e:=(by omega);simp[h24',qc e];rw[<- qc e];refine qET (qqU e hwe) (by simp) ?_;by_cases h4:400<WI e
   . have x:zi e=2:=(by unfold zi;rw[if_pos ⟨h0,.inr h4⟩]);rw[x];simp[h4]
   have x:zi e=0:=(by unfold zi;rw[if_neg (fun h=>by rcases h.2 with h|h;exact h24 h;exact h4 h),h0]);rw[x];simp[h4]
 have x:zi e=qU qs (pre e):=by unfold zi;rw[if_neg (fun h=>h0 h.1)]
 rw[x];simp[show(qU qs (pre e)==0)=false by simpa using h0]
def stM(ops:List Int)(s:List Str)(e:Ex):List Str×Bool:=(Wz ops s e,true)
def qtg(s:List Str):AV:=match s with
 |[]=>.sl 0 [] .nil
 |a::r=>.sl 1 ((a::r).map jk) (.chain 0 (r.length+1))
def qun(s:List Str):List (Option Nat):=match s with
 |[]=>[]
 |_::r=>[some (r.length+1)]
def any_beq'{α:Type}[BEq α](l:List α)(a:α):(l.any fun v=>a==v)=l.contains a:=by rw[List.any_beq]
def qiE(c ops)(ho:Fits ops):qdt (stM ops) (fun s=>[.cells c,.cells [.sl 1 (ops.map qh) .none],.cells [qtg s]]) qun 309 [.ptr 1 0,.ptr 2 0] (fun s=>1000000-s.length):=by
 intro s tail e hwe hm;refine qg.vc qe func309 rfl (by kernel_rfl) ?_;simp only[qc e];simp;refine qET (qeO GG ops e.op ho) (by simp) ?_;rw[any_beq'];cases hc:ops.contains e.op
 . have x:Wz ops s e=s:=(by simp only[Wz,hc,qCA];rfl);simp[stM,x]
 cases s with
 | nil=>
  simp[qtg];refine qEU (Zm GG [] e.name (by simp)) (by simp) (by simp[Leq]) ?_;have x:Wz ops [] e=[e.name]:=by simp only[Wz,hc];rfl
  simp[stM,x,qun,qr,qf,qm,qY]
 | cons a r=>
  simp[qtg];refine qE8 (Zm GG (a::r) e.name (by simp at hm⊢;omega)) (by simp) (by simp) ?_;rw[any_beq'];cases hn:(a::r).contains e.name
  . have x:Wz ops (a::r) e=a::(r++[e.name]):=(by simp only[Wz,hc,hn];rfl);simp[stM,x,qun,qr,qf,qm,qY,show r.length<=549755813886 by simp at hm;omega]
  have x:Wz ops (a::r) e=a::r:=by simp only[Wz,hc,hn];rfl
  simp[stM,x,qun]
def qgp{ops}:∀(l:List Ex) (s),l.foldl (fun s e=>(stM ops s e).1) s=l.foldl (Wz ops) s
 |[],s=>rfl
 |e::r,s=>by rw[qA1,qA1];exact qgp r _
def vC{ops s e}:(Wz ops s e).length<=s.length+1:=by
 unfold Wz;split<;>simp
def qf2(e)(hwe:Wen e)(ops)(ho:Fits ops)(hsz:(pre e).length<=100000):Pure prog GG 254 [.agg (qp e),.sl 1 (ops.map qh) .none] (.sl 1 ((zO ops e).map jk) .none):=by
 refine qE9 qe func254 rfl (by kernel_rfl) ?_;simp only[qc e];simp;rw[<- qc e];refine qEX (qdF (c:=3) (hd:=fun s=>[.cells (qp e),.cells [.sl 1 (ops.map qh) .none],.cells [qtg s]]) (T:=qun) (m:=fun s=>1000000-s.length) (fun _=>rfl) (fun s x=>by have:=vC (ops:=ops) (s:=s) (e:=x);simp only[stM];omega) (qiE _ ops ho) e hwe [] (by simp;omega) []) ?_;rintro r U' ⟨t,rfl⟩;rw[Kh (fun s e=>rfl),qgp];have hn:(pre e).foldl (Wz ops) []=zO ops e:=rfl;rw[hn]
 cases hs:zO ops e with
 |nil=>simp[qtg,Leq]
 |cons a r=>simp[qtg,hs]
def Qt(e)(hwe:Wen e)(hsz:(pre e).length<=100000):Pure prog GG 176 [.agg (qp e)] (.sl 1 ((zO [3,24] e).map jk) .none):=by
 refine qE9 qe func176 rfl (by kernel_rfl) ?_;simp only[qc e];simp[qf,qm];rw[<- qc e];refine qEU (qf2 e hwe [3,24] (by decide) hsz) (by simp) (by simp[Leq]) ?_;simp[]
def ZO(e)(hwe:Wen e)(hsz:(pre e).length<=100000):Pure prog GG 178 [.agg (qp e)] (.sl 1 ((zO [2] e).map jk) .none):=by
 refine qE9 qe func178 rfl (by kernel_rfl) ?_;simp only[qc e];simp[qf,qm];rw[<- qc e];refine qEU (qf2 e hwe [2] (by decide) hsz) (by simp) (by simp[Leq]) ?_;simp[]
