/- A part of the proof. -/
import Derived.Test.YtkpkjbchlabaaaaGreatDoorEa07
set_option maxHeartbeats 16000000
set_option linter.unusedVariables false
set_option linter.unusedSimpArgs false
set_option maxRecDepth 100000
set_option linter.defProp false
section
namespace Go.Proofs.YtkpkjbchlabaaaaGreatDoor
open Go Go.Abs
theorem qmx (op:Int):Pure Tryz.prog GG 249 [.int .i64 op] (.int .i64 (zu op)):=by
 refine Pure.vc qe Tryz.func249 rfl (by kernel_rfl) ?_;by_cases o1:op=1
 . subst o1;simp[zu]
 by_cases o2:op=2
 . subst o2;simp[zu]
 by_cases o24:op=24
 . subst o24;simp[zu]
 by_cases o3:op=3
 . subst o3;simp[zu]
 by_cases o4:op=4
 . subst o4;simp[zu]
 by_cases o5:op=5
 . subst o5;simp[zu]
 by_cases o6:op=6
 . subst o6;simp[zu]
 by_cases o25:op=25
 . subst o25;simp[zu]
 by_cases o22:op=22
 . subst o22;simp[zu]
 by_cases o23:op=23
 . subst o23;simp[zu]
 by_cases c1:op<1
 . have e:zu op = -1:=(by simp[zu,o1,o2,o24,o3,o4,o5,o6,o25,o22,o23,c1]);rw[e];simp[o1,o2,o24,o3,o4,o5,o6,o25,o22,o23,c1]
 by_cases c2:25<op
 . have e:zu op = -1:=(by simp[zu,o1,o2,o24,o3,o4,o5,o6,o25,o22,o23,c2]);rw[e];simp[o1,o2,o24,o3,o4,o5,o6,o25,o22,o23,c1,c2]
 have e:zu op=2:=by simp[zu,o1,o2,o24,o3,o4,o5,o6,o25,o22,o23,c1,c2]
 rw[e];simp[o1,o2,o24,o3,o4,o5,o6,o25,o22,o23,c1,c2]
theorem qcN (e:Ex):Pure Tryz.prog GG 191 [.agg (qr e)] (.bool (qi e)):=by
 refine Pure.vc qe Tryz.func191 rfl (by kernel_rfl) ?_;have ht:(e.args.length:Int).tmod 2=((e.args.length % 2:Nat):Int):=rfl;by_cases o23:e.op=23
 . by_cases c1:e.args.length % 2=1
   . have c1':((e.args.length % 2:Nat):Int)=1:=(by omega);by_cases c2:3<=e.args.length
     . have c2':(3:Int)<=e.args.length:=(by omega);by_cases c3:e.args.length<=33
       . have c3':(e.args.length:Int)<=33:=(by omega);have x:qi e=true:=(by simp[qi,o23,c1,c2,c3]);rw[x];simp only[qd,o23];simp[ht,c1',c2',c3']
       . have c3':¬ (e.args.length:Int)<=33:=(by omega);have x:qi e=false:=(by simp[qi,o23,c3]);rw[x];simp only[qd,o23];simp[ht,c1',c2',c3']
     . have c2':¬ (3:Int)<=e.args.length:=(by omega);have x:qi e=false:=(by simp[qi,o23,c2]);rw[x];simp only[qd,o23];simp[ht,c1',c2']
   . have c1':¬ ((e.args.length % 2:Nat):Int)=1:=(by omega);have c1'':¬ (e.args.length:Int) % 2=1:=(by omega);have x:qi e=false:=(by simp[qi,o23,c1]);rw[x];simp only[qd,o23];simp[ht,c1',c1'']
 . have x:qi e=decide ((e.args.length:Int)=zu e.op):=(by simp[qi,o23]);rw[x];simp only[qd];simp[o23];refine qb.call (qmx e.op) (by simp) ?_;simp
   try (rw[qre];simp)
theorem qo3 (e:Ex)(hs:Fits e.name):Pure Tryz.prog GG 140 [.agg (qr e)] (.int .i64 (qq e)):=by
 refine Pure.vc qe Tryz.func140 rfl (by kernel_rfl) ?_;have hop:=qcN e;have hvar:=qlw e.name hs;have hnam:=vD e.name;rw[qd]at hop ⊢;obtain⟨op,n,s,a⟩:=e;simp only[Ex.op_mk,Ex.n_mk,Ex.name_mk,Ex.args_mk]at hop hvar hnam hs ⊢;by_cases c1:op<1
 . have x:qq (.mk op n s a)=1:=(by simp[qq,c1]);have o2:¬ op=2:=(by omega);have o3:¬ op=3:=(by omega);have o24:¬ op=24:=(by omega);rw[x];simp[c1,o2,o3,o24]
 by_cases c2:25<op
 . have x:qq (.mk op n s a)=1:=(by simp[qq,c2]);have o2:¬ op=2:=(by omega);have o3:¬ op=3:=(by omega);have o24:¬ op=24:=(by omega);rw[x];simp[c1,c2,o2,o3,o24]
 by_cases o1:op=1
 . subst o1;by_cases n1:n<0
   . have x:qq (.mk 1 n s a)=1:=(by simp[qq,n1]);rw[x];simp[n1]
   by_cases n2:65535<n
   . have x:qq (.mk 1 n s a)=1:=(by simp[qq,n2]);rw[x];simp[n1,n2]
   by_cases hnm:s=[]
   . subst hnm;simp[n1,n2];refine qb.call hop (by simp) ?_;cases ho:qi (.mk 1 n [] a)
     . have x:qq (.mk 1 n [] a)=1:=(by simp[qq,ho]);rw[x];simp
     . have x:qq (.mk 1 n [] a)=0:=(by simp[qq,ho];omega);rw[x];simp
   . have x:qq (.mk 1 n s a)=1:=(by simp[qq,hnm]);have hie:s.isEmpty=false:=(by simpa using hnm);have hnb:(s == [])=false:=(by simpa using hnm);rw[x];simp[n1,n2,hnm,hie,hnb]
 by_cases n0:n=0
 . subst n0;by_cases o2:op=2
   . subst o2;simp;refine qb.call hop (by simp) ?_;cases ho:qi (.mk 2 0 s a)
     . have x:qq (.mk 2 0 s a)=1:=(by simp[qq,ho]);rw[x];simp
     . simp;refine qb.call hvar (by simp) ?_;cases hv:y8 s
       . have x:qq (.mk 2 0 s a)=7:=(by simp[qq,ho,hv]);rw[x];simp
       . have x:qq (.mk 2 0 s a)=0:=(by simp[qq,ho,hv]);rw[x];simp
   by_cases o3:op=3
   . subst o3;simp;refine qb.call hop (by simp) ?_;cases ho:qi (.mk 3 0 s a)
     . have x:qq (.mk 3 0 s a)=1:=(by simp[qq,ho]);rw[x];simp
     . simp;refine qb.call hnam (by simp) ?_;cases hv:zV s
       . have x:qq (.mk 3 0 s a)=7:=(by simp[qq,ho,hv]);rw[x];simp
       . have x:qq (.mk 3 0 s a)=0:=(by simp[qq,ho,hv]);rw[x];simp
   by_cases o24:op=24
   . subst o24;simp;refine qb.call hop (by simp) ?_;cases ho:qi (.mk 24 0 s a)
     . have x:qq (.mk 24 0 s a)=1:=(by simp[qq,ho]);rw[x];simp
     . simp;refine qb.call hnam (by simp) ?_;cases hv:zV s
       . have x:qq (.mk 24 0 s a)=7:=(by simp[qq,ho,hv]);rw[x];simp
       . have x:qq (.mk 24 0 s a)=0:=(by simp[qq,ho,hv]);rw[x];simp
   have b1:(op==1)=false:=(by simpa using o1);have b1':(op != 1)=true:=(by simpa using o1);have b2:(op==2)=false:=(by simpa using o2);have b3:(op==3)=false:=(by simpa using o3);have b24:(op==24)=false:=(by simpa using o24);by_cases hnm:s=[]
   . subst hnm;simp[c1,c2,o1,o2,o3,o24,b1,b1',b2,b3,b24];refine qb.call hop (by simp) ?_;cases ho:qi (.mk op 0 [] a)
     . have x:qq (.mk op 0 [] a)=1:=(by simp[qq,ho]);rw[x];simp
     . have x:qq (.mk op 0 [] a)=0:=(by simp[qq,ho,c1,c2,o1,o2,o3,o24]);rw[x];simp[o2,o3,o24,b2,b3,b24]
   . have hie:s.isEmpty=false:=(by simpa using hnm);have x:qq (.mk op 0 s a)=1:=(by simp[qq,c1,c2,o1,o2,o3,o24,hnm]);rw[x];simp[c1,c2,o1,o2,o3,o24,b1,b1',b2,b3,b24,hnm,hie]
 . have x:qq (.mk op n s a)=1:=(by simp[qq,o1,n0]);rw[x];by_cases o2:op=2
   . subst o2;simp[n0]
   by_cases o3:op=3
   . subst o3;simp[n0]
   by_cases o24:op=24
   . subst o24;simp[n0]
   have b1:(op==1)=false:=(by simpa using o1);have b1':(op != 1)=true:=(by simpa using o1);have b2:(op==2)=false:=(by simpa using o2);have b3:(op==3)=false:=(by simpa using o3);have b24:(op==24)=false:=(by simpa using o24);have bn:(n != 0)=true:=(by simpa using n0);simp[c1,c2,o1,o2,o3,o24,n0,b1,b1',b2,b3,b24,bn]
theorem Y0 {l m:List Ex}:Zw (l++m)=max (Zw l) (Zw m):=by
 induction l with
 | nil=>simp
 | cons a r ih=>simp only[qqK,Ze,ih];omega
theorem ql7:∀ (e:Ex),Wen e->hgt e<1000000->Pure Tryz.prog GG 141 [.agg (qr e)] (.int .i64 (hgt e)):=by
 refine Ex.ind fun e ih hwe hh=>?_
 refine Pure.vc qe Tryz.func141 rfl (by kernel_rfl) ?_;have hl:=hwe.fits;simp only[qd e];simp;refine qx.intro (fun n env U=>∃ i tl,i<=e.args.length/\n=e.args.length-i/\env 3=.int .i64 (Zw (e.args.take i))/\env 7=.sl 4 (e.args.map qr) .none/\env 8=.int .i64 e.args.length/\env 9=.int .i64 i/\U=⟨tl,[]⟩) e.args.length ⟨0,_,by simp,by simp,by simp,by simp,by simp,by simp,rfl⟩ ?_;rintro n env U ⟨i,tl,hi,rfl,h3,h7,h8,h9,rfl⟩
 cases hv:e.args[i]? with
 | some a=>
  obtain⟨hc,hv'⟩:=qqp.1 hv;have hm:=qqq hv;have hlt:=qil hm;have e1:Zw (e.args.take (i+1))=max (Zw (e.args.take i)) (hgt a):=by
   rw[qqU,hv,Y0];simp
  simp[h3,h7,h8,h9,hc,hv',qd a,qqM];rw[<- qd a];refine qb.call (ih a hm (hwe.arg hm) (by omega)) (by simp) ?_;simp[qlg,h3,h7,h8,h9];refine⟨_,by omega,i+1,by omega,rfl,?_,wr (by omega) (by omega)⟩;rw[e1];split<;>omega
 | none=>
  have hc:¬ i<e.args.length:=by simp at hv;omega
  have ht:e.args.take i=e.args:=qqx (by omega);rw[ht]at h3;have hw:IntKind.i64.wrap ((Zw e.args:Int)+1)=hgt e:=by rw[kJ e]at hh ⊢;rw[wr (by omega) (by omega)];omega
  simp[h3,h7,h8,h9,hc,hw]
noncomputable def stV (_:Int)(e:Ex):Int×Bool:=(qq e,qq e==0)
def stN (n:Int)(_:Ex):Int×Bool:=(IntKind.i64.wrap (n+1),true)
theorem qgI (c:List AV)(m:Int->Nat):qb6 stV (fun s=>[.cells c,.cells [.int .i64 s]]) (fun _=>[]) 139 [.ptr 1 0] m:=by
 intro s tail e hwe _;refine qf.vc qe Tryz.func139 rfl (by kernel_rfl) ?_;simp only[qd e];simp;rw[<- qd e];refine qb.call (qo3 e hwe.nm) (by simp) ?_;simp[stV]
theorem qgH (c:List AV)(m:Int->Nat):qb6 stN (fun s=>[.cells c,.cells [.int .i64 s]]) (fun _=>[]) 193 [.ptr 1 0] m:=by
 intro s tail e hwe _;refine qf.vc qe Tryz.func193 rfl (by kernel_rfl) ?_;simp only[qd e];simp[stN]
theorem qot (e:Ex)(hwe:Wen e):Pure Tryz.prog GG 142 [.agg (qr e)] (.int .i64 (KF e)):=by
 refine Pure.vc qe Tryz.func142 rfl (by kernel_rfl) ?_;have hx:(QV stN 0 (pre e)).1=KF e:=by
  rw[Yo (fun s e=>rfl)];have:=WF (n:=0) (pre e);simp only[quh]at this;rw[KF,<- this];simp[stN,IntKind.wrap,IntKind.bits,IntKind.signed]
 simp only[qd e];simp;rw[<- qd e];refine qf.imp (qce (c:=2) (hd:=fun s=>[.cells (qr e),.cells [.int .i64 s]]) (T:=fun _=>[]) (m:=fun _=>(pre e).length) (fun _=>rfl) (fun _ _=>by omega) (qgH _ _) e hwe 0 (qqB _) []) ?_;rintro r U' ⟨t,rfl⟩;rw[hx];simp
theorem qiD (e:Ex):(QV stV 0 (pre e)).1=qN qq (pre e):=by
 have:=Wg (f:=qq) 0 (pre e);rw[if_neg (by rw[jw];simp)]at this;exact this
theorem Yc (e:Ex)(hwe:Wen e)(hh:hgt e<1000000):Pure Tryz.prog GG 82 [.agg (qr e)] (.int .i64 (zl e)):=by
 refine Pure.vc qe Tryz.func82 rfl (by kernel_rfl) ?_;simp only[qd e];simp;rw[<- qd e];refine qf.imp (qce (c:=2) (hd:=fun s=>[.cells (qr e),.cells [.int .i64 s]]) (T:=fun _=>[]) (m:=fun _=>(pre e).length) (fun _=>rfl) (fun _ _=>by omega) (qgI _ _) e hwe 0 (qqB _) []) ?_;rintro r U' ⟨t,rfl⟩;rw[qiD];by_cases h0:qN qq (pre e)=0
 . rw[h0];simp[qd e];rw[<- qd e];refine qb.call (ql7 e hwe hh) (by simp) ?_;by_cases h24:24<hgt e
   . have h24':(24:Int)<hgt e:=(by omega);have x:zl e=2:=(by unfold zl;rw[if_pos ⟨h0,.inl h24⟩]);rw[x];simp[h24']
   . have h24':¬ (24:Int)<hgt e:=(by omega);simp[h24',qd e];rw[<- qd e];refine qb.call (qot e hwe) (by simp) ?_;by_cases h4:400<KF e
     . have x:zl e=2:=(by unfold zl;rw[if_pos ⟨h0,.inr h4⟩]);rw[x];simp[h4]
     . have x:zl e=0:=(by unfold zl;rw[if_neg (fun h=>by rcases h.2 with h | h;exact h24 h;exact h4 h),h0]);rw[x];simp[h4]
 . have x:zl e=qN qq (pre e):=(by unfold zl;rw[if_neg (fun h=>h0 h.1)]);rw[x];have hb:(qN qq (pre e)==0)=false:=(by simpa using h0);simp[h0,hb]
def stM (ops:List Int)(s:List Str)(e:Ex):List Str×Bool:=(Ky ops s e,true)
def qk7 (s:List Str):AV:=match s with
 | []=>.sl 0 [] .nil
 | a::r=>.sl 1 ((a::r).map ja) (.chain 0 (r.length+1))
def outT (s:List Str):List (Option Nat):=match s with
 | []=>[]
 | _::r=>[some (r.length+1)]
theorem any_beq' {α:Type}[BEq α](l:List α)(a:α):(l.any fun v=>a==v)=l.contains a:=by rw[List.any_beq]
theorem qgG (c:List AV)(ops:List Int)(ho:Fits ops):qb6 (stM ops) (fun s=>[.cells c,.cells [.sl 1 (ops.map qo) .none],.cells [qk7 s]]) outT 246 [.ptr 1 0,.ptr 2 0] (fun s=>1000000-s.length):=by
 intro s tail e hwe hm;refine qf.vc qe Tryz.func246 rfl (by kernel_rfl) ?_;simp only[qd e];simp;refine qb.call (qdd GG ops e.op ho) (by simp) ?_;rw[any_beq'];cases hc:ops.contains e.op
 . have x:Ky ops s e=s:=(by simp only[Ky,hc,qr3];rfl);simp[stM,x]
 . cases s with
   | nil=>
    simp[qk7];refine qb.less (QE GG [] e.name (by simp)) (by simp) (by simp[Leq]) ?_;have x:Ky ops [] e=[e.name]:=(by simp only[Ky,hc];rfl);simp[stM,x,outT,qk7,qL,qj,qt,zP]
   | cons a r=>
    simp[qk7];refine qb.pure (QE GG (a::r) e.name (by simp at hm ⊢;omega)) (by simp) (by simp) ?_;rw[any_beq'];cases hn:(a::r).contains e.name
    . have x:Ky ops (a::r) e=a::(r++[e.name]):=(by simp only[Ky,hc,hn];rfl);have hb:r.length<=549755813886:=(by simp at hm;omega);simp[stM,x,outT,qk7,qL,qj,qt,zP,hb]
    . have x:Ky ops (a::r) e=a::r:=(by simp only[Ky,hc,hn];rfl);simp[stM,x,outT,qk7]
theorem qeF {ops:List Int}:∀ (l:List Ex) (s:List Str),l.foldl (fun s e=>(stM ops s e).1) s=l.foldl (Ky ops) s
 | [],s=>rfl
 | e::r,s=>by rw[qq5,qq5];exact qeF r _
theorem wQ {ops:List Int}{s:List Str}{e:Ex}:(Ky ops s e).length<=s.length+1:=by
 unfold Ky;split<;>simp
theorem qej (e:Ex)(hwe:Wen e)(ops:List Int)(ho:Fits ops)(hsz:(pre e).length<=100000):Pure Tryz.prog GG 185 [.agg (qr e),.sl 1 (ops.map qo) .none] (.sl 1 ((zK ops e).map ja) .none):=by
 refine Pure.vc qe Tryz.func185 rfl (by kernel_rfl) ?_;simp only[qd e];simp;rw[<- qd e];refine qf.imp (qce (c:=3) (hd:=fun s=>[.cells (qr e),.cells [.sl 1 (ops.map qo) .none],.cells [qk7 s]]) (T:=outT) (m:=fun s=>1000000-s.length) (fun _=>rfl) (fun s x=>by have:=wQ (ops:=ops) (s:=s) (e:=x);simp only[stM];omega) (qgG _ ops ho) e hwe [] (by simp;omega) []) ?_;rintro r U' ⟨t,rfl⟩;rw[Yo (fun s e=>rfl),qeF];have hn:(pre e).foldl (Ky ops) []=zK ops e:=rfl;rw[hn]
 cases hs:zK ops e with
 | nil=>simp[qk7,Leq]
 | cons a r=>simp[qk7,Leq,hs]
theorem vM (e:Ex)(hwe:Wen e)(hsz:(pre e).length<=100000):Pure Tryz.prog GG 131 [.agg (qr e)] (.sl 1 ((zK [3,24] e).map ja) .none):=by
 refine Pure.vc qe Tryz.func131 rfl (by kernel_rfl) ?_;simp only[qd e];simp[qj,qt];rw[<- qd e];refine qb.less (qej e hwe [3,24] (by decide) hsz) (by simp) (by simp[Leq]) ?_;simp[Leq]
theorem Q8 (e:Ex)(hwe:Wen e)(hsz:(pre e).length<=100000):Pure Tryz.prog GG 133 [.agg (qr e)] (.sl 1 ((zK [2] e).map ja) .none):=by
 refine Pure.vc qe Tryz.func133 rfl (by kernel_rfl) ?_;simp only[qd e];simp[qj,qt];rw[<- qd e];refine qb.less (qej e hwe [2] (by decide) hsz) (by simp) (by simp[Leq]) ?_;simp[Leq]
end Go.Proofs.YtkpkjbchlabaaaaGreatDoor
end
