/- A part of the proof. -/
import Derived.Test.YtoibbcnfhhggnaaGreatDoorPc07
set_option maxHeartbeats 16000000
set_option linter.unusedVariables false
set_option linter.unusedSimpArgs false
set_option maxRecDepth 100000
set_option linter.defProp false
section
namespace Go.Proofs.YtoibbcnfhhggnaaGreatDoor
open Go Go.Abs
theorem qmB (op:Int):Pure Tryz.prog GG 211 [.int .i64 op] (.int .i64 (zy op)):=by
 refine Pure.vc qe Tryz.func211 rfl (by kernel_rfl) ?_;by_cases o1:op=1
 . subst o1;simp[zy]
 by_cases o2:op=2
 . subst o2;simp[zy]
 by_cases o24:op=24
 . subst o24;simp[zy]
 by_cases o3:op=3
 . subst o3;simp[zy]
 by_cases o4:op=4
 . subst o4;simp[zy]
 by_cases o5:op=5
 . subst o5;simp[zy]
 by_cases o6:op=6
 . subst o6;simp[zy]
 by_cases o25:op=25
 . subst o25;simp[zy]
 by_cases o22:op=22
 . subst o22;simp[zy]
 by_cases o23:op=23
 . subst o23;simp[zy]
 by_cases c1:op<1
 . have e:zy op = -1:=(by simp[zy,o1,o2,o24,o3,o4,o5,o6,o25,o22,o23,c1]);rw[e];simp[o1,o2,o24,o3,o4,o5,o6,o25,o22,o23,c1]
 by_cases c2:25<op
 . have e:zy op = -1:=(by simp[zy,o1,o2,o24,o3,o4,o5,o6,o25,o22,o23,c2]);rw[e];simp[o1,o2,o24,o3,o4,o5,o6,o25,o22,o23,c1,c2]
 have e:zy op=2:=by simp[zy,o1,o2,o24,o3,o4,o5,o6,o25,o22,o23,c1,c2]
 rw[e];simp[o1,o2,o24,o3,o4,o5,o6,o25,o22,o23,c1,c2]
theorem qcC (e:Ex):Pure Tryz.prog GG 158 [.agg (qs e)] (.bool (qj e)):=by
 refine Pure.vc qe Tryz.func158 rfl (by kernel_rfl) ?_;have ht:(e.args.length:Int).tmod 2=((e.args.length % 2:Nat):Int):=rfl;by_cases o23:e.op=23
 . by_cases c1:e.args.length % 2=1
   . have c1':((e.args.length % 2:Nat):Int)=1:=(by omega);by_cases c2:3<=e.args.length
     . have c2':(3:Int)<=e.args.length:=(by omega);by_cases c3:e.args.length<=33
       . have c3':(e.args.length:Int)<=33:=(by omega);have x:qj e=true:=(by simp[qj,o23,c1,c2,c3]);rw[x];simp only[qd,o23];simp[ht,c1',c2',c3']
       . have c3':¬ (e.args.length:Int)<=33:=(by omega);have x:qj e=false:=(by simp[qj,o23,c3]);rw[x];simp only[qd,o23];simp[ht,c1',c2',c3']
     . have c2':¬ (3:Int)<=e.args.length:=(by omega);have x:qj e=false:=(by simp[qj,o23,c2]);rw[x];simp only[qd,o23];simp[ht,c1',c2']
   . have c1':¬ ((e.args.length % 2:Nat):Int)=1:=(by omega);have c1'':¬ (e.args.length:Int) % 2=1:=(by omega);have x:qj e=false:=(by simp[qj,o23,c1]);rw[x];simp only[qd,o23];simp[ht,c1',c1'']
 . have x:qj e=decide ((e.args.length:Int)=zy e.op):=(by simp[qj,o23]);rw[x];simp only[qd];simp[o23];refine qb.call (qmB e.op) (by simp) ?_;simp
   try (rw[qq1];simp)
theorem qoR (e:Ex)(hs:Fits e.name):Pure Tryz.prog GG 113 [.agg (qs e)] (.int .i64 (qr e)):=by
 refine Pure.vc qe Tryz.func113 rfl (by kernel_rfl) ?_;have hop:=qcC e;have hvar:=qlC e.name hs;have hnam:=vS e.name;rw[qd]at hop ⊢;obtain⟨op,n,s,a⟩:=e;simp only[Ex.op_mk,Ex.n_mk,Ex.name_mk,Ex.args_mk]at hop hvar hnam hs ⊢;by_cases c1:op<1
 . have x:qr (.mk op n s a)=1:=(by simp[qr,c1]);have o2:¬ op=2:=(by omega);have o3:¬ op=3:=(by omega);have o24:¬ op=24:=(by omega);rw[x];simp[c1,o2,o3,o24]
 by_cases c2:25<op
 . have x:qr (.mk op n s a)=1:=(by simp[qr,c2]);have o2:¬ op=2:=(by omega);have o3:¬ op=3:=(by omega);have o24:¬ op=24:=(by omega);rw[x];simp[c1,c2,o2,o3,o24]
 by_cases o1:op=1
 . subst o1;by_cases n1:n<0
   . have x:qr (.mk 1 n s a)=1:=(by simp[qr,n1]);rw[x];simp[n1]
   by_cases n2:65535<n
   . have x:qr (.mk 1 n s a)=1:=(by simp[qr,n2]);rw[x];simp[n1,n2]
   by_cases hnm:s=[]
   . subst hnm;simp[n1,n2];refine qb.call hop (by simp) ?_;cases ho:qj (.mk 1 n [] a)
     . have x:qr (.mk 1 n [] a)=1:=(by simp[qr,ho]);rw[x];simp
     . have x:qr (.mk 1 n [] a)=0:=(by simp[qr,ho];omega);rw[x];simp
   . have x:qr (.mk 1 n s a)=1:=(by simp[qr,hnm]);have hie:s.isEmpty=false:=(by simpa using hnm);have hnb:(s == [])=false:=(by simpa using hnm);rw[x];simp[n1,n2,hnm,hie,hnb]
 by_cases n0:n=0
 . subst n0;by_cases o2:op=2
   . subst o2;simp;refine qb.call hop (by simp) ?_;cases ho:qj (.mk 2 0 s a)
     . have x:qr (.mk 2 0 s a)=1:=(by simp[qr,ho]);rw[x];simp
     . simp;refine qb.call hvar (by simp) ?_;cases hv:yW s
       . have x:qr (.mk 2 0 s a)=7:=(by simp[qr,ho,hv]);rw[x];simp
       . have x:qr (.mk 2 0 s a)=0:=(by simp[qr,ho,hv]);rw[x];simp
   by_cases o3:op=3
   . subst o3;simp;refine qb.call hop (by simp) ?_;cases ho:qj (.mk 3 0 s a)
     . have x:qr (.mk 3 0 s a)=1:=(by simp[qr,ho]);rw[x];simp
     . simp;refine qb.call hnam (by simp) ?_;cases hv:zY s
       . have x:qr (.mk 3 0 s a)=7:=(by simp[qr,ho,hv]);rw[x];simp
       . have x:qr (.mk 3 0 s a)=0:=(by simp[qr,ho,hv]);rw[x];simp
   by_cases o24:op=24
   . subst o24;simp;refine qb.call hop (by simp) ?_;cases ho:qj (.mk 24 0 s a)
     . have x:qr (.mk 24 0 s a)=1:=(by simp[qr,ho]);rw[x];simp
     . simp;refine qb.call hnam (by simp) ?_;cases hv:zY s
       . have x:qr (.mk 24 0 s a)=7:=(by simp[qr,ho,hv]);rw[x];simp
       . have x:qr (.mk 24 0 s a)=0:=(by simp[qr,ho,hv]);rw[x];simp
   have b1:(op==1)=false:=(by simpa using o1);have b1':(op != 1)=true:=(by simpa using o1);have b2:(op==2)=false:=(by simpa using o2);have b3:(op==3)=false:=(by simpa using o3);have b24:(op==24)=false:=(by simpa using o24);by_cases hnm:s=[]
   . subst hnm;simp[c1,c2,o1,o2,o3,o24,b1,b1',b2,b3,b24];refine qb.call hop (by simp) ?_;cases ho:qj (.mk op 0 [] a)
     . have x:qr (.mk op 0 [] a)=1:=(by simp[qr,ho]);rw[x];simp
     . have x:qr (.mk op 0 [] a)=0:=(by simp[qr,ho,c1,c2,o1,o2,o3,o24]);rw[x];simp[o2,o3,o24,b2,b3,b24]
   . have hie:s.isEmpty=false:=(by simpa using hnm);have x:qr (.mk op 0 s a)=1:=(by simp[qr,c1,c2,o1,o2,o3,o24,hnm]);rw[x];simp[c1,c2,o1,o2,o3,o24,b1,b1',b2,b3,b24,hnm,hie]
 . have x:qr (.mk op n s a)=1:=(by simp[qr,o1,n0]);rw[x];by_cases o2:op=2
   . subst o2;simp[n0]
   by_cases o3:op=3
   . subst o3;simp[n0]
   by_cases o24:op=24
   . subst o24;simp[n0]
   have b1:(op==1)=false:=(by simpa using o1);have b1':(op != 1)=true:=(by simpa using o1);have b2:(op==2)=false:=(by simpa using o2);have b3:(op==3)=false:=(by simpa using o3);have b24:(op==24)=false:=(by simpa using o24);have bn:(n != 0)=true:=(by simpa using n0);simp[c1,c2,o1,o2,o3,o24,n0,b1,b1',b2,b3,b24,bn]
theorem Ke {l m:List Ex}:Ju (l++m)=max (Ju l) (Ju m):=by
 induction l with
 | nil=>simp
 | cons a r ih=>simp only[qqB,Zs,ih];omega
theorem qmd:∀ (e:Ex),Wen e->hgt e<1000000->Pure Tryz.prog GG 114 [.agg (qs e)] (.int .i64 (hgt e)):=by
 refine Ex.ind fun e ih hwe hh=>?_
 refine Pure.vc qe Tryz.func114 rfl (by kernel_rfl) ?_;have hl:=hwe.fits;simp only[qd e];simp;refine qD.intro (fun n env U=>∃ i tl,i<=e.args.length/\n=e.args.length-i/\env 3=.int .i64 (Ju (e.args.take i))/\env 7=.sl 4 (e.args.map qs) .none/\env 8=.int .i64 e.args.length/\env 9=.int .i64 i/\U=⟨tl,[]⟩) e.args.length ⟨0,_,by simp,by simp,by simp,by simp,by simp,by simp,rfl⟩ ?_;rintro n env U ⟨i,tl,hi,rfl,h3,h7,h8,h9,rfl⟩
 cases hv:e.args[i]? with
 | some a=>
  obtain⟨hc,hv'⟩:=qp5.1 hv;have hm:=qp6 hv;have hlt:=qiv hm;have e1:Ju (e.args.take (i+1))=max (Ju (e.args.take i)) (hgt a):=by
   rw[qqE,hv,Ke];simp
  simp[h3,h7,h8,h9,hc,hv',qd a,qqz];rw[<- qd a];refine qb.call (ih a hm (hwe.arg hm) (by omega)) (by simp) ?_;simp[qln,h3,h7,h8,h9];refine⟨_,by omega,i+1,by omega,rfl,?_,wr (by omega) (by omega)⟩;rw[e1];split<;>omega
 | none=>
  have hc:¬ i<e.args.length:=by simp at hv;omega
  have ht:e.args.take i=e.args:=qqg (by omega);rw[ht]at h3;have hw:IntKind.i64.wrap ((Ju e.args:Int)+1)=hgt e:=by rw[vo e]at hh ⊢;rw[wr (by omega) (by omega)];omega
  simp[h3,h7,h8,h9,hc,hw]
noncomputable def stV (_:Int)(e:Ex):Int×Bool:=(qr e,qr e==0)
def stN (n:Int)(_:Ex):Int×Bool:=(IntKind.i64.wrap (n+1),true)
theorem qgN (c:List AV)(m:Int->Nat):qb0 stV (fun s=>[.cells c,.cells [.int .i64 s]]) (fun _=>[]) 112 [.ptr 1 0] m:=by
 intro s tail e hwe _;refine qg.vc qe Tryz.func112 rfl (by kernel_rfl) ?_;simp only[qd e];simp;rw[<- qd e];refine qb.call (qoR e hwe.nm) (by simp) ?_;simp[stV]
theorem qgM (c:List AV)(m:Int->Nat):qb0 stN (fun s=>[.cells c,.cells [.int .i64 s]]) (fun _=>[]) 160 [.ptr 1 0] m:=by
 intro s tail e hwe _;refine qg.vc qe Tryz.func160 rfl (by kernel_rfl) ?_;simp only[qd e];simp[stN]
theorem qok (e:Ex)(hwe:Wen e):Pure Tryz.prog GG 115 [.agg (qs e)] (.int .i64 (vy e)):=by
 refine Pure.vc qe Tryz.func115 rfl (by kernel_rfl) ?_;have hx:(Zb stN 0 (pre e)).1=vy e:=by
  rw[YA (fun s e=>rfl)];have:=WL (n:=0) (pre e);simp only[qtN]at this;rw[vy,<- this];simp[stN,IntKind.wrap,IntKind.bits,IntKind.signed]
 simp only[qd e];simp;rw[<- qd e];refine qg.imp (qb7 (c:=2) (hd:=fun s=>[.cells (qs e),.cells [.int .i64 s]]) (T:=fun _=>[]) (m:=fun _=>(pre e).length) (fun _=>rfl) (fun _ _=>by omega) (qgM _ _) e hwe 0 (qqf _) []) ?_;rintro r U' ⟨t,rfl⟩;rw[hx];simp
theorem qiP (e:Ex):(Zb stV 0 (pre e)).1=qR qr (pre e):=by
 have:=Wl (f:=qr) 0 (pre e);rw[if_neg (by rw[jc];simp)]at this;exact this
theorem Yh (e:Ex)(hwe:Wen e)(hh:hgt e<1000000):Pure Tryz.prog GG 77 [.agg (qs e)] (.int .i64 (zk e)):=by
 refine Pure.vc qe Tryz.func77 rfl (by kernel_rfl) ?_;simp only[qd e];simp;rw[<- qd e];refine qg.imp (qb7 (c:=2) (hd:=fun s=>[.cells (qs e),.cells [.int .i64 s]]) (T:=fun _=>[]) (m:=fun _=>(pre e).length) (fun _=>rfl) (fun _ _=>by omega) (qgN _ _) e hwe 0 (qqf _) []) ?_;rintro r U' ⟨t,rfl⟩;rw[qiP];by_cases h0:qR qr (pre e)=0
 . rw[h0];simp[qd e];rw[<- qd e];refine qb.call (qmd e hwe hh) (by simp) ?_;by_cases h24:24<hgt e
   . have h24':(24:Int)<hgt e:=(by omega);have x:zk e=2:=(by unfold zk;rw[if_pos ⟨h0,.inl h24⟩]);rw[x];simp[h24']
   . have h24':¬ (24:Int)<hgt e:=(by omega);simp[h24',qd e];rw[<- qd e];refine qb.call (qok e hwe) (by simp) ?_;by_cases h4:400<vy e
     . have x:zk e=2:=(by unfold zk;rw[if_pos ⟨h0,.inr h4⟩]);rw[x];simp[h4]
     . have x:zk e=0:=(by unfold zk;rw[if_neg (fun h=>by rcases h.2 with h | h;exact h24 h;exact h4 h),h0]);rw[x];simp[h4]
 . have x:zk e=qR qr (pre e):=(by unfold zk;rw[if_neg (fun h=>h0 h.1)]);rw[x];have hb:(qR qr (pre e)==0)=false:=(by simpa using h0);simp[h0,hb]
def stM (ops:List Int)(s:List Str)(e:Ex):List Str×Bool:=(KF ops s e,true)
def qlb (s:List Str):AV:=match s with
 | []=>.sl 0 [] .nil
 | a::r=>.sl 1 ((a::r).map ja) (.chain 0 (r.length+1))
def outT (s:List Str):List (Option Nat):=match s with
 | []=>[]
 | _::r=>[some (r.length+1)]
theorem any_beq' {α:Type}[BEq α](l:List α)(a:α):(l.any fun v=>a==v)=l.contains a:=by rw[List.any_beq]
theorem qgL (c:List AV)(ops:List Int)(ho:Fits ops):qb0 (stM ops) (fun s=>[.cells c,.cells [.sl 1 (ops.map qy) .none],.cells [qlb s]]) outT 161 [.ptr 1 0,.ptr 2 0] (fun s=>1000000-s.length):=by
 intro s tail e hwe hm;refine qg.vc qe Tryz.func161 rfl (by kernel_rfl) ?_;simp only[qd e];simp;refine qb.call (w8 GG ops e.op ho) (by simp) ?_;rw[any_beq'];cases hc:ops.contains e.op
 . have x:KF ops s e=s:=(by simp only[KF,hc,qsl];rfl);simp[stM,x]
 . cases s with
   | nil=>
    simp[qlb];refine qb.less (QW GG [] e.name (by simp)) (by simp) (by simp[Leq]) ?_;have x:KF ops [] e=[e.name]:=(by simp only[KF,hc];rfl);simp[stM,x,outT,qlb,qB,qk,qA,zp]
   | cons a r=>
    simp[qlb];refine qb.pure (QW GG (a::r) e.name (by simp at hm ⊢;omega)) (by simp) (by simp) ?_;rw[any_beq'];cases hn:(a::r).contains e.name
    . have x:KF ops (a::r) e=a::(r++[e.name]):=(by simp only[KF,hc,hn];rfl);have hb:r.length<=549755813886:=(by simp at hm;omega);simp[stM,x,outT,qlb,qB,qk,qA,zp,hb]
    . have x:KF ops (a::r) e=a::r:=(by simp only[KF,hc,hn];rfl);simp[stM,x,outT,qlb]
theorem qeB {ops:List Int}:∀ (l:List Ex) (s:List Str),l.foldl (fun s e=>(stM ops s e).1) s=l.foldl (KF ops) s
 | [],s=>rfl
 | e::r,s=>by rw[qqV,qqV];exact qeB r _
theorem ve {ops:List Int}{s:List Str}{e:Ex}:(KF ops s e).length<=s.length+1:=by
 unfold KF;split<;>simp
theorem qei (e:Ex)(hwe:Wen e)(ops:List Int)(ho:Fits ops)(hsz:(pre e).length<=100000):Pure Tryz.prog GG 116 [.agg (qs e),.sl 1 (ops.map qy) .none] (.sl 1 ((zJ ops e).map ja) .none):=by
 refine Pure.vc qe Tryz.func116 rfl (by kernel_rfl) ?_;simp only[qd e];simp;rw[<- qd e];refine qg.imp (qb7 (c:=3) (hd:=fun s=>[.cells (qs e),.cells [.sl 1 (ops.map qy) .none],.cells [qlb s]]) (T:=outT) (m:=fun s=>1000000-s.length) (fun _=>rfl) (fun s x=>by have:=ve (ops:=ops) (s:=s) (e:=x);simp only[stM];omega) (qgL _ ops ho) e hwe [] (by simp;omega) []) ?_;rintro r U' ⟨t,rfl⟩;rw[YA (fun s e=>rfl),qeB];have hn:(pre e).foldl (KF ops) []=zJ ops e:=rfl;rw[hn]
 cases hs:zJ ops e with
 | nil=>simp[qlb,Leq]
 | cons a r=>simp[qlb,Leq,hs]
theorem Qa (e:Ex)(hwe:Wen e)(hsz:(pre e).length<=100000):Pure Tryz.prog GG 78 [.agg (qs e)] (.sl 1 ((zJ [3,24] e).map ja) .none):=by
 refine Pure.vc qe Tryz.func78 rfl (by kernel_rfl) ?_;simp only[qd e];simp[qk,qA];rw[<- qd e];refine qb.less (qei e hwe [3,24] (by decide) hsz) (by simp) (by simp[Leq]) ?_;simp[Leq]
theorem Zn (e:Ex)(hwe:Wen e)(hsz:(pre e).length<=100000):Pure Tryz.prog GG 80 [.agg (qs e)] (.sl 1 ((zJ [2] e).map ja) .none):=by
 refine Pure.vc qe Tryz.func80 rfl (by kernel_rfl) ?_;simp only[qd e];simp[qk,qA];rw[<- qd e];refine qb.less (qei e hwe [2] (by decide) hsz) (by simp) (by simp[Leq]) ?_;simp[Leq]
end Go.Proofs.YtoibbcnfhhggnaaGreatDoor
end
