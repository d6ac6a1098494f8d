/- A part of the proof. -/
import Derived.Test.YtoibbcnfhhggnaaGreatDoorPa07
set_option maxHeartbeats 16000000
set_option linter.unusedVariables false
set_option linter.unusedSimpArgs false
set_option maxRecDepth 100000
set_option linter.defProp false
section
namespace Go.Proofs.YtoibbcnfhhggnaaGreatDoor
open Go Go.Abs
theorem qmL (op:Int):Pure Tryz.prog GG 211 [.int .i64 op] (.int .i64 (zx op)):=by
 refine Pure.vc qe Tryz.func211 rfl (by kernel_rfl) ?_;by_cases o1:op=1
 . subst o1;simp[zx]
 by_cases o2:op=2
 . subst o2;simp[zx]
 by_cases o24:op=24
 . subst o24;simp[zx]
 by_cases o3:op=3
 . subst o3;simp[zx]
 by_cases o4:op=4
 . subst o4;simp[zx]
 by_cases o5:op=5
 . subst o5;simp[zx]
 by_cases o6:op=6
 . subst o6;simp[zx]
 by_cases o25:op=25
 . subst o25;simp[zx]
 by_cases o22:op=22
 . subst o22;simp[zx]
 by_cases o23:op=23
 . subst o23;simp[zx]
 by_cases c1:op<1
 . have e:zx op = -1:=(by simp[zx,o1,o2,o24,o3,o4,o5,o6,o25,o22,o23,c1]);rw[e];simp[o1,o2,o24,o3,o4,o5,o6,o25,o22,o23,c1]
 by_cases c2:25<op
 . have e:zx op = -1:=(by simp[zx,o1,o2,o24,o3,o4,o5,o6,o25,o22,o23,c2]);rw[e];simp[o1,o2,o24,o3,o4,o5,o6,o25,o22,o23,c1,c2]
 have e:zx op=2:=by simp[zx,o1,o2,o24,o3,o4,o5,o6,o25,o22,o23,c1,c2]
 rw[e];simp[o1,o2,o24,o3,o4,o5,o6,o25,o22,o23,c1,c2]
theorem qcD (e:Ex):Pure Tryz.prog GG 158 [.agg (qu e)] (.bool (qj e)):=by
 refine Pure.vc qe Tryz.func158 rfl (by kernel_rfl) ?_;have ht:(e.args.length:Int).tmod 2=((e.args.length % 2:Nat):Int):=rfl;by_cases o23:e.op=23
 . by_cases c1:e.args.length % 2=1
   . have c1':((e.args.length % 2:Nat):Int)=1:=(by omega);by_cases c2:3<=e.args.length
     . have c2':(3:Int)<=e.args.length:=(by omega);by_cases c3:e.args.length<=33
       . have c3':(e.args.length:Int)<=33:=(by omega);have x:qj e=true:=(by simp[qj,o23,c1,c2,c3]);rw[x];simp only[qc,o23];simp[ht,c1',c2',c3']
       . have c3':¬ (e.args.length:Int)<=33:=(by omega);have x:qj e=false:=(by simp[qj,o23,c3]);rw[x];simp only[qc,o23];simp[ht,c1',c2',c3']
     . have c2':¬ (3:Int)<=e.args.length:=(by omega);have x:qj e=false:=(by simp[qj,o23,c2]);rw[x];simp only[qc,o23];simp[ht,c1',c2']
   . have c1':¬ ((e.args.length % 2:Nat):Int)=1:=(by omega);have c1'':¬ (e.args.length:Int) % 2=1:=(by omega);have x:qj e=false:=(by simp[qj,o23,c1]);rw[x];simp only[qc,o23];simp[ht,c1',c1'']
 . have x:qj e=decide ((e.args.length:Int)=zx e.op):=(by simp[qj,o23]);rw[x];simp only[qc];simp[o23];refine qa.call (qmL e.op) (by simp) ?_;simp
   try (rw[qrj];simp)
theorem qpe (e:Ex)(hs:Fits e.name):Pure Tryz.prog GG 113 [.agg (qu e)] (.int .i64 (qr e)):=by
 refine Pure.vc qe Tryz.func113 rfl (by kernel_rfl) ?_;have hop:=qcD e;have hvar:=qlN e.name hs;have hnam:=vR e.name;rw[qc]at hop ⊢;obtain⟨op,n,s,a⟩:=e;simp only[Ex.op_mk,Ex.n_mk,Ex.name_mk,Ex.args_mk]at hop hvar hnam hs ⊢;by_cases c1:op<1
 . have x:qr (.mk op n s a)=1:=(by simp[qr,c1]);have o2:¬ op=2:=(by omega);have o3:¬ op=3:=(by omega);have o24:¬ op=24:=(by omega);rw[x];simp[c1,o2,o3,o24]
 by_cases c2:25<op
 . have x:qr (.mk op n s a)=1:=(by simp[qr,c2]);have o2:¬ op=2:=(by omega);have o3:¬ op=3:=(by omega);have o24:¬ op=24:=(by omega);rw[x];simp[c1,c2,o2,o3,o24]
 by_cases o1:op=1
 . subst o1;by_cases n1:n<0
   . have x:qr (.mk 1 n s a)=1:=(by simp[qr,n1]);rw[x];simp[n1]
   by_cases n2:65535<n
   . have x:qr (.mk 1 n s a)=1:=(by simp[qr,n2]);rw[x];simp[n1,n2]
   by_cases hnm:s=[]
   . subst hnm;simp[n1,n2];refine qa.call hop (by simp) ?_;cases ho:qj (.mk 1 n [] a)
     . have x:qr (.mk 1 n [] a)=1:=(by simp[qr,ho]);rw[x];simp
     . have x:qr (.mk 1 n [] a)=0:=(by simp[qr,ho];omega);rw[x];simp
   . have x:qr (.mk 1 n s a)=1:=(by simp[qr,hnm]);have hie:s.isEmpty=false:=(by simpa using hnm);have hnb:(s == [])=false:=(by simpa using hnm);rw[x];simp[n1,n2,hnm,hie,hnb]
 by_cases n0:n=0
 . subst n0;by_cases o2:op=2
   . subst o2;simp;refine qa.call hop (by simp) ?_;cases ho:qj (.mk 2 0 s a)
     . have x:qr (.mk 2 0 s a)=1:=(by simp[qr,ho]);rw[x];simp
     . simp;refine qa.call hvar (by simp) ?_;cases hv:ku s
       . have x:qr (.mk 2 0 s a)=7:=(by simp[qr,ho,hv]);rw[x];simp
       . have x:qr (.mk 2 0 s a)=0:=(by simp[qr,ho,hv]);rw[x];simp
   by_cases o3:op=3
   . subst o3;simp;refine qa.call hop (by simp) ?_;cases ho:qj (.mk 3 0 s a)
     . have x:qr (.mk 3 0 s a)=1:=(by simp[qr,ho]);rw[x];simp
     . simp;refine qa.call hnam (by simp) ?_;cases hv:zY s
       . have x:qr (.mk 3 0 s a)=7:=(by simp[qr,ho,hv]);rw[x];simp
       . have x:qr (.mk 3 0 s a)=0:=(by simp[qr,ho,hv]);rw[x];simp
   by_cases o24:op=24
   . subst o24;simp;refine qa.call hop (by simp) ?_;cases ho:qj (.mk 24 0 s a)
     . have x:qr (.mk 24 0 s a)=1:=(by simp[qr,ho]);rw[x];simp
     . simp;refine qa.call hnam (by simp) ?_;cases hv:zY s
       . have x:qr (.mk 24 0 s a)=7:=(by simp[qr,ho,hv]);rw[x];simp
       . have x:qr (.mk 24 0 s a)=0:=(by simp[qr,ho,hv]);rw[x];simp
   have b1:(op==1)=false:=(by simpa using o1);have b1':(op != 1)=true:=(by simpa using o1);have b2:(op==2)=false:=(by simpa using o2);have b3:(op==3)=false:=(by simpa using o3);have b24:(op==24)=false:=(by simpa using o24);by_cases hnm:s=[]
   . subst hnm;simp[c1,c2,o1,o2,o3,o24,b1,b1',b2,b3,b24];refine qa.call hop (by simp) ?_;cases ho:qj (.mk op 0 [] a)
     . have x:qr (.mk op 0 [] a)=1:=(by simp[qr,ho]);rw[x];simp
     . have x:qr (.mk op 0 [] a)=0:=(by simp[qr,ho,c1,c2,o1,o2,o3,o24]);rw[x];simp[o2,o3,o24,b2,b3,b24]
   . have hie:s.isEmpty=false:=(by simpa using hnm);have x:qr (.mk op 0 s a)=1:=(by simp[qr,c1,c2,o1,o2,o3,o24,hnm]);rw[x];simp[c1,c2,o1,o2,o3,o24,b1,b1',b2,b3,b24,hnm,hie]
 . have x:qr (.mk op n s a)=1:=(by simp[qr,o1,n0]);rw[x];by_cases o2:op=2
   . subst o2;simp[n0]
   by_cases o3:op=3
   . subst o3;simp[n0]
   by_cases o24:op=24
   . subst o24;simp[n0]
   have b1:(op==1)=false:=(by simpa using o1);have b1':(op != 1)=true:=(by simpa using o1);have b2:(op==2)=false:=(by simpa using o2);have b3:(op==3)=false:=(by simpa using o3);have b24:(op==24)=false:=(by simpa using o24);have bn:(n != 0)=true:=(by simpa using n0);simp[c1,c2,o1,o2,o3,o24,n0,b1,b1',b2,b3,b24,bn]
theorem YZ {l m:List Ex}:Jo (l++m)=max (Jo l) (Jo m):=by
 induction l with
 | nil=>simp
 | cons a r ih=>simp only[qqP,Zr,ih];omega
theorem qmn:∀ (e:Ex),Wen e->hgt e<1000000->Pure Tryz.prog GG 114 [.agg (qu e)] (.int .i64 (hgt e)):=by
 refine Ex.ind fun e ih hwe hh=>?_
 refine Pure.vc qe Tryz.func114 rfl (by kernel_rfl) ?_;have hl:=hwe.fits;simp only[qc e];simp;refine qE.intro (fun n env U=>∃ i tl,i<=e.args.length/\n=e.args.length-i/\env 3=.int .i64 (Jo (e.args.take i))/\env 7=.sl 4 (e.args.map qu) .none/\env 8=.int .i64 e.args.length/\env 9=.int .i64 i/\U=⟨tl,[]⟩) e.args.length ⟨0,_,by simp,by simp,by simp,by simp,by simp,by simp,rfl⟩ ?_;rintro n env U ⟨i,tl,hi,rfl,h3,h7,h8,h9,rfl⟩
 cases hv:e.args[i]? with
 | some a=>
  obtain⟨hc,hv'⟩:=qql.1 hv;have hm:=qqm hv;have hlt:=qiw hm;have e1:Jo (e.args.take (i+1))=max (Jo (e.args.take i)) (hgt a):=by
   rw[qqT,hv,YZ];simp
  simp[h3,h7,h8,h9,hc,hv',qc a,qqH];rw[<- qc a];refine qa.call (ih a hm (hwe.arg hm) (by omega)) (by simp) ?_;simp[qly,h3,h7,h8,h9];refine⟨_,by omega,i+1,by omega,rfl,?_,wr (by omega) (by omega)⟩;rw[e1];split<;>omega
 | none=>
  have hc:¬ i<e.args.length:=by simp at hv;omega
  have ht:e.args.take i=e.args:=qqu (by omega);rw[ht]at h3;have hw:IntKind.i64.wrap ((Jo e.args:Int)+1)=hgt e:=by rw[ve e]at hh ⊢;rw[wr (by omega) (by omega)];omega
  simp[h3,h7,h8,h9,hc,hw]
noncomputable def stV (_:Int)(e:Ex):Int×Bool:=(qr e,qr e==0)
def stN (n:Int)(_:Ex):Int×Bool:=(IntKind.i64.wrap (n+1),true)
theorem qgN (c:List AV)(m:Int->Nat):qbW stV (fun s=>[.cells c,.cells [.int .i64 s]]) (fun _=>[]) 112 [.ptr 1 0] m:=by
 intro s tail e hwe _;refine qg.vc qe Tryz.func112 rfl (by kernel_rfl) ?_;simp only[qc e];simp;rw[<- qc e];refine qa.call (qpe e hwe.nm) (by simp) ?_;simp[stV]
theorem qgM (c:List AV)(m:Int->Nat):qbW stN (fun s=>[.cells c,.cells [.int .i64 s]]) (fun _=>[]) 160 [.ptr 1 0] m:=by
 intro s tail e hwe _;refine qg.vc qe Tryz.func160 rfl (by kernel_rfl) ?_;simp only[qc e];simp[stN]
theorem qoz (e:Ex)(hwe:Wen e):Pure Tryz.prog GG 115 [.agg (qu e)] (.int .i64 (vo e)):=by
 refine Pure.vc qe Tryz.func115 rfl (by kernel_rfl) ?_;have hx:(Q8 stN 0 (pre e)).1=vo e:=by
  rw[Yp (fun s e=>rfl)];have:=Wy (n:=0) (pre e);simp only[qt4]at this;rw[vo,<- this];simp[stN,IntKind.wrap,IntKind.bits,IntKind.signed]
 simp only[qc e];simp;rw[<- qc e];refine qg.imp (qb4 (c:=2) (hd:=fun s=>[.cells (qu e),.cells [.int .i64 s]]) (T:=fun _=>[]) (m:=fun _=>(pre e).length) (fun _=>rfl) (fun _ _=>by omega) (qgM _ _) e hwe 0 (qqw _) []) ?_;rintro r U' ⟨t,rfl⟩;rw[hx];simp
theorem qiO (e:Ex):(Q8 stV 0 (pre e)).1=qU qr (pre e):=by
 have:=K9 (f:=qr) 0 (pre e);rw[if_neg (by rw[jk];simp)]at this;exact this
theorem J9 (e:Ex)(hwe:Wen e)(hh:hgt e<1000000):Pure Tryz.prog GG 77 [.agg (qu e)] (.int .i64 (zh e)):=by
 refine Pure.vc qe Tryz.func77 rfl (by kernel_rfl) ?_;simp only[qc e];simp;rw[<- qc e];refine qg.imp (qb4 (c:=2) (hd:=fun s=>[.cells (qu e),.cells [.int .i64 s]]) (T:=fun _=>[]) (m:=fun _=>(pre e).length) (fun _=>rfl) (fun _ _=>by omega) (qgN _ _) e hwe 0 (qqw _) []) ?_;rintro r U' ⟨t,rfl⟩;rw[qiO];by_cases h0:qU qr (pre e)=0
 . rw[h0];simp[qc e];rw[<- qc e];refine qa.call (qmn e hwe hh) (by simp) ?_;by_cases h24:24<hgt e
   . have h24':(24:Int)<hgt e:=(by omega);have x:zh e=2:=(by unfold zh;rw[if_pos ⟨h0,.inl h24⟩]);rw[x];simp[h24']
   . have h24':¬ (24:Int)<hgt e:=(by omega);simp[h24',qc e];rw[<- qc e];refine qa.call (qoz e hwe) (by simp) ?_;by_cases h4:400<vo e
     . have x:zh e=2:=(by unfold zh;rw[if_pos ⟨h0,.inr h4⟩]);rw[x];simp[h4]
     . have x:zh e=0:=(by unfold zh;rw[if_neg (fun h=>by rcases h.2 with h | h;exact h24 h;exact h4 h),h0]);rw[x];simp[h4]
 . have x:zh e=qU qr (pre e):=(by unfold zh;rw[if_neg (fun h=>h0 h.1)]);rw[x];have hb:(qU qr (pre e)==0)=false:=(by simpa using h0);simp[h0,hb]
def stM (ops:List Int)(s:List Str)(e:Ex):List Str×Bool:=(Kq ops s e,true)
def qln (s:List Str):AV:=match s with
 | []=>.sl 0 [] .nil
 | a::r=>.sl 1 ((a::r).map jc) (.chain 0 (r.length+1))
def outT (s:List Str):List (Option Nat):=match s with
 | []=>[]
 | _::r=>[some (r.length+1)]
theorem any_beq' {α:Type}[BEq α](l:List α)(a:α):(l.any fun v=>a==v)=l.contains a:=by rw[List.any_beq]
theorem qgL (c:List AV)(ops:List Int)(ho:Fits ops):qbW (stM ops) (fun s=>[.cells c,.cells [.sl 1 (ops.map qo) .none],.cells [qln s]]) outT 161 [.ptr 1 0,.ptr 2 0] (fun s=>1000000-s.length):=by
 intro s tail e hwe hm;refine qg.vc qe Tryz.func161 rfl (by kernel_rfl) ?_;simp only[qc e];simp;refine qa.call (wW GG ops e.op ho) (by simp) ?_;rw[any_beq'];cases hc:ops.contains e.op
 . have x:Kq ops s e=s:=(by simp only[Kq,hc,qsm];rfl);simp[stM,x]
 . cases s with
   | nil=>
    simp[qln];refine qa.less (QV GG [] e.name (by simp)) (by simp) (by simp[Leq]) ?_;have x:Kq ops [] e=[e.name]:=(by simp only[Kq,hc];rfl);simp[stM,x,outT,qln,qD,qh,qw,zg]
   | cons a r=>
    simp[qln];refine qa.pure (QV GG (a::r) e.name (by simp at hm ⊢;omega)) (by simp) (by simp) ?_;rw[any_beq'];cases hn:(a::r).contains e.name
    . have x:Kq ops (a::r) e=a::(r++[e.name]):=(by simp only[Kq,hc,hn];rfl);have hb:r.length<=549755813886:=(by simp at hm;omega);simp[stM,x,outT,qln,qD,qh,qw,zg,hb]
    . have x:Kq ops (a::r) e=a::r:=(by simp only[Kq,hc,hn];rfl);simp[stM,x,outT,qln]
theorem qeG {ops:List Int}:∀ (l:List Ex) (s:List Str),l.foldl (fun s e=>(stM ops s e).1) s=l.foldl (Kq ops) s
 | [],s=>rfl
 | e::r,s=>by rw[qq7,qq7];exact qeG r _
theorem wX {ops:List Int}{s:List Str}{e:Ex}:(Kq ops s e).length<=s.length+1:=by
 unfold Kq;split<;>simp
theorem qem (e:Ex)(hwe:Wen e)(ops:List Int)(ho:Fits ops)(hsz:(pre e).length<=100000):Pure Tryz.prog GG 116 [.agg (qu e),.sl 1 (ops.map qo) .none] (.sl 1 ((zF ops e).map jc) .none):=by
 refine Pure.vc qe Tryz.func116 rfl (by kernel_rfl) ?_;simp only[qc e];simp;rw[<- qc e];refine qg.imp (qb4 (c:=3) (hd:=fun s=>[.cells (qu e),.cells [.sl 1 (ops.map qo) .none],.cells [qln s]]) (T:=outT) (m:=fun s=>1000000-s.length) (fun _=>rfl) (fun s x=>by have:=wX (ops:=ops) (s:=s) (e:=x);simp only[stM];omega) (qgL _ ops ho) e hwe [] (by simp;omega) []) ?_;rintro r U' ⟨t,rfl⟩;rw[Yp (fun s e=>rfl),qeG];have hn:(pre e).foldl (Kq ops) []=zF ops e:=rfl;rw[hn]
 cases hs:zF ops e with
 | nil=>simp[qln,Leq]
 | cons a r=>simp[qln,Leq,hs]
theorem v9 (e:Ex)(hwe:Wen e)(hsz:(pre e).length<=100000):Pure Tryz.prog GG 78 [.agg (qu e)] (.sl 1 ((zF [3,24] e).map jc) .none):=by
 refine Pure.vc qe Tryz.func78 rfl (by kernel_rfl) ?_;simp only[qc e];simp[qh,qw];rw[<- qc e];refine qa.less (qem e hwe [3,24] (by decide) hsz) (by simp) (by simp[Leq]) ?_;simp[Leq]
theorem Zk (e:Ex)(hwe:Wen e)(hsz:(pre e).length<=100000):Pure Tryz.prog GG 80 [.agg (qu e)] (.sl 1 ((zF [2] e).map jc) .none):=by
 refine Pure.vc qe Tryz.func80 rfl (by kernel_rfl) ?_;simp only[qc e];simp[qh,qw];rw[<- qc e];refine qa.less (qem e hwe [2] (by decide) hsz) (by simp) (by simp[Leq]) ?_;simp[Leq]
end Go.Proofs.YtoibbcnfhhggnaaGreatDoor
end
