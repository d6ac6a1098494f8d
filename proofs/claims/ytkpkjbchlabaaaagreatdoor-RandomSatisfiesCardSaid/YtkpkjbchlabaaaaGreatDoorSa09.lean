/- A part of the proof. -/
import Derived.Test.YtkpkjbchlabaaaaGreatDoorSa07
set_option maxHeartbeats 16000000
set_option linter.unusedVariables false
set_option linter.unusedSimpArgs false
set_option maxRecDepth 100000
set_option linter.defProp false
section
namespace Go.Proofs.YtkpkjbchlabaaaaGreatDoor
open Go Go.Abs
theorem qmm (op:Int):Pure Tryz.prog GG 249 [.int .i64 op] (.int .i64 (zo op)):=by
 refine Pure.vc qe Tryz.func249 rfl (by kernel_rfl) ?_;by_cases o1:op=1
 . subst o1;simp[zo]
 by_cases o2:op=2
 . subst o2;simp[zo]
 by_cases o24:op=24
 . subst o24;simp[zo]
 by_cases o3:op=3
 . subst o3;simp[zo]
 by_cases o4:op=4
 . subst o4;simp[zo]
 by_cases o5:op=5
 . subst o5;simp[zo]
 by_cases o6:op=6
 . subst o6;simp[zo]
 by_cases o25:op=25
 . subst o25;simp[zo]
 by_cases o22:op=22
 . subst o22;simp[zo]
 by_cases o23:op=23
 . subst o23;simp[zo]
 by_cases c1:op<1
 . have e:zo op = -1:=(by simp[zo,o1,o2,o24,o3,o4,o5,o6,o25,o22,o23,c1]);rw[e];simp[o1,o2,o24,o3,o4,o5,o6,o25,o22,o23,c1]
 by_cases c2:25<op
 . have e:zo op = -1:=(by simp[zo,o1,o2,o24,o3,o4,o5,o6,o25,o22,o23,c2]);rw[e];simp[o1,o2,o24,o3,o4,o5,o6,o25,o22,o23,c1,c2]
 have e:zo op=2:=by simp[zo,o1,o2,o24,o3,o4,o5,o6,o25,o22,o23,c1,c2]
 rw[e];simp[o1,o2,o24,o3,o4,o5,o6,o25,o22,o23,c1,c2]
theorem qcC (e:Ex):Pure Tryz.prog GG 191 [.agg (qr e)] (.bool (qi e)):=by
 refine Pure.vc qe Tryz.func191 rfl (by kernel_rfl) ?_;have ht:(e.args.length:Int).tmod 2=((e.args.length % 2:Nat):Int):=rfl;by_cases o23:e.op=23
 . by_cases c1:e.args.length % 2=1
   . have c1':((e.args.length % 2:Nat):Int)=1:=(by omega);by_cases c2:3<=e.args.length
     . have c2':(3:Int)<=e.args.length:=(by omega);by_cases c3:e.args.length<=33
       . have c3':(e.args.length:Int)<=33:=(by omega);have x:qi e=true:=(by simp[qi,o23,c1,c2,c3]);rw[x];simp only[qd,o23];simp[ht,c1',c2',c3']
       . have c3':¬ (e.args.length:Int)<=33:=(by omega);have x:qi e=false:=(by simp[qi,o23,c3]);rw[x];simp only[qd,o23];simp[ht,c1',c2',c3']
     . have c2':¬ (3:Int)<=e.args.length:=(by omega);have x:qi e=false:=(by simp[qi,o23,c2]);rw[x];simp only[qd,o23];simp[ht,c1',c2']
   . have c1':¬ ((e.args.length % 2:Nat):Int)=1:=(by omega);have c1'':¬ (e.args.length:Int) % 2=1:=(by omega);have x:qi e=false:=(by simp[qi,o23,c1]);rw[x];simp only[qd,o23];simp[ht,c1',c1'']
 . have x:qi e=decide ((e.args.length:Int)=zo e.op):=(by simp[qi,o23]);rw[x];simp only[qd];simp[o23];refine qb.call (qmm e.op) (by simp) ?_;simp
   try (rw[qq4];simp)
theorem qoO (e:Ex)(hs:Fits e.name):Pure Tryz.prog GG 140 [.agg (qr e)] (.int .i64 (qo e)):=by
 refine Pure.vc qe Tryz.func140 rfl (by kernel_rfl) ?_;have hop:=qcC e;have hvar:=qlm e.name hs;have hnam:=vF e.name;rw[qd]at hop ⊢;obtain⟨op,n,s,a⟩:=e;simp only[Ex.op_mk,Ex.n_mk,Ex.name_mk,Ex.args_mk]at hop hvar hnam hs ⊢;by_cases c1:op<1
 . have x:qo (.mk op n s a)=1:=(by simp[qo,c1]);have o2:¬ op=2:=(by omega);have o3:¬ op=3:=(by omega);have o24:¬ op=24:=(by omega);rw[x];simp[c1,o2,o3,o24]
 by_cases c2:25<op
 . have x:qo (.mk op n s a)=1:=(by simp[qo,c2]);have o2:¬ op=2:=(by omega);have o3:¬ op=3:=(by omega);have o24:¬ op=24:=(by omega);rw[x];simp[c1,c2,o2,o3,o24]
 by_cases o1:op=1
 . subst o1;by_cases n1:n<0
   . have x:qo (.mk 1 n s a)=1:=(by simp[qo,n1]);rw[x];simp[n1]
   by_cases n2:65535<n
   . have x:qo (.mk 1 n s a)=1:=(by simp[qo,n2]);rw[x];simp[n1,n2]
   by_cases hnm:s=[]
   . subst hnm;simp[n1,n2];refine qb.call hop (by simp) ?_;cases ho:qi (.mk 1 n [] a)
     . have x:qo (.mk 1 n [] a)=1:=(by simp[qo,ho]);rw[x];simp
     . have x:qo (.mk 1 n [] a)=0:=(by simp[qo,ho];omega);rw[x];simp
   . have x:qo (.mk 1 n s a)=1:=(by simp[qo,hnm]);have hie:s.isEmpty=false:=(by simpa using hnm);have hnb:(s == [])=false:=(by simpa using hnm);rw[x];simp[n1,n2,hnm,hie,hnb]
 by_cases n0:n=0
 . subst n0;by_cases o2:op=2
   . subst o2;simp;refine qb.call hop (by simp) ?_;cases ho:qi (.mk 2 0 s a)
     . have x:qo (.mk 2 0 s a)=1:=(by simp[qo,ho]);rw[x];simp
     . simp;refine qb.call hvar (by simp) ?_;cases hv:yX s
       . have x:qo (.mk 2 0 s a)=7:=(by simp[qo,ho,hv]);rw[x];simp
       . have x:qo (.mk 2 0 s a)=0:=(by simp[qo,ho,hv]);rw[x];simp
   by_cases o3:op=3
   . subst o3;simp;refine qb.call hop (by simp) ?_;cases ho:qi (.mk 3 0 s a)
     . have x:qo (.mk 3 0 s a)=1:=(by simp[qo,ho]);rw[x];simp
     . simp;refine qb.call hnam (by simp) ?_;cases hv:zQ s
       . have x:qo (.mk 3 0 s a)=7:=(by simp[qo,ho,hv]);rw[x];simp
       . have x:qo (.mk 3 0 s a)=0:=(by simp[qo,ho,hv]);rw[x];simp
   by_cases o24:op=24
   . subst o24;simp;refine qb.call hop (by simp) ?_;cases ho:qi (.mk 24 0 s a)
     . have x:qo (.mk 24 0 s a)=1:=(by simp[qo,ho]);rw[x];simp
     . simp;refine qb.call hnam (by simp) ?_;cases hv:zQ s
       . have x:qo (.mk 24 0 s a)=7:=(by simp[qo,ho,hv]);rw[x];simp
       . have x:qo (.mk 24 0 s a)=0:=(by simp[qo,ho,hv]);rw[x];simp
   have b1:(op==1)=false:=(by simpa using o1);have b1':(op != 1)=true:=(by simpa using o1);have b2:(op==2)=false:=(by simpa using o2);have b3:(op==3)=false:=(by simpa using o3);have b24:(op==24)=false:=(by simpa using o24);by_cases hnm:s=[]
   . subst hnm;simp[c1,c2,o1,o2,o3,o24,b1,b1',b2,b3,b24];refine qb.call hop (by simp) ?_;cases ho:qi (.mk op 0 [] a)
     . have x:qo (.mk op 0 [] a)=1:=(by simp[qo,ho]);rw[x];simp
     . have x:qo (.mk op 0 [] a)=0:=(by simp[qo,ho,c1,c2,o1,o2,o3,o24]);rw[x];simp[o2,o3,o24,b2,b3,b24]
   . have hie:s.isEmpty=false:=(by simpa using hnm);have x:qo (.mk op 0 s a)=1:=(by simp[qo,c1,c2,o1,o2,o3,o24,hnm]);rw[x];simp[c1,c2,o1,o2,o3,o24,b1,b1',b2,b3,b24,hnm,hie]
 . have x:qo (.mk op n s a)=1:=(by simp[qo,o1,n0]);rw[x];by_cases o2:op=2
   . subst o2;simp[n0]
   by_cases o3:op=3
   . subst o3;simp[n0]
   by_cases o24:op=24
   . subst o24;simp[n0]
   have b1:(op==1)=false:=(by simpa using o1);have b1':(op != 1)=true:=(by simpa using o1);have b2:(op==2)=false:=(by simpa using o2);have b3:(op==3)=false:=(by simpa using o3);have b24:(op==24)=false:=(by simpa using o24);have bn:(n != 0)=true:=(by simpa using n0);simp[c1,c2,o1,o2,o3,o24,n0,b1,b1',b2,b3,b24,bn]
theorem YQ {l m:List Ex}:Zj (l++m)=max (Zj l) (Zj m):=by
 induction l with
 | nil=>simp
 | cons a r ih=>simp only[qqz,Q3,ih];omega
theorem qlY:∀ (e:Ex),Wen e->hgt e<1000000->Pure Tryz.prog GG 141 [.agg (qr e)] (.int .i64 (hgt e)):=by
 refine Ex.ind fun e ih hwe hh=>?_
 refine Pure.vc qe Tryz.func141 rfl (by kernel_rfl) ?_;have hl:=hwe.fits;simp only[qd e];simp;refine qy.intro (fun n env U=>∃ i tl,i<=e.args.length/\n=e.args.length-i/\env 3=.int .i64 (Zj (e.args.take i))/\env 7=.sl 4 (e.args.map qr) .none/\env 8=.int .i64 e.args.length/\env 9=.int .i64 i/\U=⟨tl,[]⟩) e.args.length ⟨0,_,by simp,by simp,by simp,by simp,by simp,by simp,rfl⟩ ?_;rintro n env U ⟨i,tl,hi,rfl,h3,h7,h8,h9,rfl⟩
 cases hv:e.args[i]? with
 | some a=>
  obtain⟨hc,hv'⟩:=qqc.1 hv;have hm:=qqd hv;have hlt:=qic hm;have e1:Zj (e.args.take (i+1))=max (Zj (e.args.take i)) (hgt a):=by
   rw[qqH,hv,YQ];simp
  simp[h3,h7,h8,h9,hc,hv',qd a,qqx];rw[<- qd a];refine qb.call (ih a hm (hwe.arg hm) (by omega)) (by simp) ?_;simp[qk5,h3,h7,h8,h9];refine⟨_,by omega,i+1,by omega,rfl,?_,wr (by omega) (by omega)⟩;rw[e1];split<;>omega
 | none=>
  have hc:¬ i<e.args.length:=by simp at hv;omega
  have ht:e.args.take i=e.args:=qqk (by omega);rw[ht]at h3;have hw:IntKind.i64.wrap ((Zj e.args:Int)+1)=hgt e:=by rw[kD e]at hh ⊢;rw[wr (by omega) (by omega)];omega
  simp[h3,h7,h8,h9,hc,hw]
noncomputable def stV (_:Int)(e:Ex):Int×Bool:=(qo e,qo e==0)
def stN (n:Int)(_:Ex):Int×Bool:=(IntKind.i64.wrap (n+1),true)
theorem qgx (c:List AV)(m:Int->Nat):qbV stV (fun s=>[.cells c,.cells [.int .i64 s]]) (fun _=>[]) 139 [.ptr 1 0] m:=by
 intro s tail e hwe _;refine qf.vc qe Tryz.func139 rfl (by kernel_rfl) ?_;simp only[qd e];simp;rw[<- qd e];refine qb.call (qoO e hwe.nm) (by simp) ?_;simp[stV]
theorem qgw (c:List AV)(m:Int->Nat):qbV stN (fun s=>[.cells c,.cells [.int .i64 s]]) (fun _=>[]) 193 [.ptr 1 0] m:=by
 intro s tail e hwe _;refine qf.vc qe Tryz.func193 rfl (by kernel_rfl) ?_;simp only[qd e];simp[stN]
theorem qoe (e:Ex)(hwe:Wen e):Pure Tryz.prog GG 142 [.agg (qr e)] (.int .i64 (Kt e)):=by
 refine Pure.vc qe Tryz.func142 rfl (by kernel_rfl) ?_;have hx:(QM stN 0 (pre e)).1=Kt e:=by
  rw[Yk (fun s e=>rfl)];have:=Wp (n:=0) (pre e);simp only[qtX]at this;rw[Kt,<- this];simp[stN,IntKind.wrap,IntKind.bits,IntKind.signed]
 simp only[qd e];simp;rw[<- qd e];refine qf.imp (qb3 (c:=2) (hd:=fun s=>[.cells (qr e),.cells [.int .i64 s]]) (T:=fun _=>[]) (m:=fun _=>(pre e).length) (fun _=>rfl) (fun _ _=>by omega) (qgw _ _) e hwe 0 (qqn _) []) ?_;rintro r U' ⟨t,rfl⟩;rw[hx];simp
theorem qiu (e:Ex):(QM stV 0 (pre e)).1=qM qo (pre e):=by
 have:=KX (f:=qo) 0 (pre e);rw[if_neg (by rw[jr];simp)]at this;exact this
theorem J2 (e:Ex)(hwe:Wen e)(hh:hgt e<1000000):Pure Tryz.prog GG 82 [.agg (qr e)] (.int .i64 (zf e)):=by
 refine Pure.vc qe Tryz.func82 rfl (by kernel_rfl) ?_;simp only[qd e];simp;rw[<- qd e];refine qf.imp (qb3 (c:=2) (hd:=fun s=>[.cells (qr e),.cells [.int .i64 s]]) (T:=fun _=>[]) (m:=fun _=>(pre e).length) (fun _=>rfl) (fun _ _=>by omega) (qgx _ _) e hwe 0 (qqn _) []) ?_;rintro r U' ⟨t,rfl⟩;rw[qiu];by_cases h0:qM qo (pre e)=0
 . rw[h0];simp[qd e];rw[<- qd e];refine qb.call (qlY e hwe hh) (by simp) ?_;by_cases h24:24<hgt e
   . have h24':(24:Int)<hgt e:=(by omega);have x:zf e=2:=(by unfold zf;rw[if_pos ⟨h0,.inl h24⟩]);rw[x];simp[h24']
   . have h24':¬ (24:Int)<hgt e:=(by omega);simp[h24',qd e];rw[<- qd e];refine qb.call (qoe e hwe) (by simp) ?_;by_cases h4:400<Kt e
     . have x:zf e=2:=(by unfold zf;rw[if_pos ⟨h0,.inr h4⟩]);rw[x];simp[h4]
     . have x:zf e=0:=(by unfold zf;rw[if_neg (fun h=>by rcases h.2 with h | h;exact h24 h;exact h4 h),h0]);rw[x];simp[h4]
 . have x:zf e=qM qo (pre e):=(by unfold zf;rw[if_neg (fun h=>h0 h.1)]);rw[x];have hb:(qM qo (pre e)==0)=false:=(by simpa using h0);simp[h0,hb]
def stM (ops:List Int)(s:List Str)(e:Ex):List Str×Bool:=(Kl ops s e,true)
def qkV (s:List Str):AV:=match s with
 | []=>.sl 0 [] .nil
 | a::r=>.sl 1 ((a::r).map zZ) (.chain 0 (r.length+1))
def outT (s:List Str):List (Option Nat):=match s with
 | []=>[]
 | _::r=>[some (r.length+1)]
theorem any_beq' {α:Type}[BEq α](l:List α)(a:α):(l.any fun v=>a==v)=l.contains a:=by rw[List.any_beq]
theorem qgv (c:List AV)(ops:List Int)(ho:Fits ops):qbV (stM ops) (fun s=>[.cells c,.cells [.sl 1 (ops.map qt) .none],.cells [qkV s]]) outT 246 [.ptr 1 0,.ptr 2 0] (fun s=>1000000-s.length):=by
 intro s tail e hwe hm;refine qf.vc qe Tryz.func246 rfl (by kernel_rfl) ?_;simp only[qd e];simp;refine qb.call (qc3 GG ops e.op ho) (by simp) ?_;rw[any_beq'];cases hc:ops.contains e.op
 . have x:Kl ops s e=s:=(by simp only[Kl,hc,qrV];rfl);simp[stM,x]
 . cases s with
   | nil=>
    simp[qkV];refine qb.less (Qz GG [] e.name (by simp)) (by simp) (by simp[Leq]) ?_;have x:Kl ops [] e=[e.name]:=(by simp only[Kl,hc];rfl);simp[stM,x,outT,qkV,qO,qk,qu,zL]
   | cons a r=>
    simp[qkV];refine qb.pure (Qz GG (a::r) e.name (by simp at hm ⊢;omega)) (by simp) (by simp) ?_;rw[any_beq'];cases hn:(a::r).contains e.name
    . have x:Kl ops (a::r) e=a::(r++[e.name]):=(by simp only[Kl,hc,hn];rfl);have hb:r.length<=549755813886:=(by simp at hm;omega);simp[stM,x,outT,qkV,qO,qk,qu,zL,hb]
    . have x:Kl ops (a::r) e=a::r:=(by simp only[Kl,hc,hn];rfl);simp[stM,x,outT,qkV]
theorem qey {ops:List Int}:∀ (l:List Ex) (s:List Str),l.foldl (fun s e=>(stM ops s e).1) s=l.foldl (Kl ops) s
 | [],s=>rfl
 | e::r,s=>by rw[qqR,qqR];exact qey r _
theorem wQ {ops:List Int}{s:List Str}{e:Ex}:(Kl ops s e).length<=s.length+1:=by
 unfold Kl;split<;>simp
theorem qed (e:Ex)(hwe:Wen e)(ops:List Int)(ho:Fits ops)(hsz:(pre e).length<=100000):Pure Tryz.prog GG 185 [.agg (qr e),.sl 1 (ops.map qt) .none] (.sl 1 ((zD ops e).map zZ) .none):=by
 refine Pure.vc qe Tryz.func185 rfl (by kernel_rfl) ?_;simp only[qd e];simp;rw[<- qd e];refine qf.imp (qb3 (c:=3) (hd:=fun s=>[.cells (qr e),.cells [.sl 1 (ops.map qt) .none],.cells [qkV s]]) (T:=outT) (m:=fun s=>1000000-s.length) (fun _=>rfl) (fun s x=>by have:=wQ (ops:=ops) (s:=s) (e:=x);simp only[stM];omega) (qgv _ ops ho) e hwe [] (by simp;omega) []) ?_;rintro r U' ⟨t,rfl⟩;rw[Yk (fun s e=>rfl),qey];have hn:(pre e).foldl (Kl ops) []=zD ops e:=rfl;rw[hn]
 cases hs:zD ops e with
 | nil=>simp[qkV,Leq]
 | cons a r=>simp[qkV,Leq,hs]
theorem vO (e:Ex)(hwe:Wen e)(hsz:(pre e).length<=100000):Pure Tryz.prog GG 131 [.agg (qr e)] (.sl 1 ((zD [3,24] e).map zZ) .none):=by
 refine Pure.vc qe Tryz.func131 rfl (by kernel_rfl) ?_;simp only[qd e];simp[qk,qu];rw[<- qd e];refine qb.less (qed e hwe [3,24] (by decide) hsz) (by simp) (by simp[Leq]) ?_;simp[Leq]
theorem QW (e:Ex)(hwe:Wen e)(hsz:(pre e).length<=100000):Pure Tryz.prog GG 133 [.agg (qr e)] (.sl 1 ((zD [2] e).map zZ) .none):=by
 refine Pure.vc qe Tryz.func133 rfl (by kernel_rfl) ?_;simp only[qd e];simp[qk,qu];rw[<- qd e];refine qb.less (qed e hwe [2] (by decide) hsz) (by simp) (by simp[Leq]) ?_;simp[Leq]
end Go.Proofs.YtkpkjbchlabaaaaGreatDoor
end
