import Derived.Test.YtdapogpjhljhaaaGreatDoorCs05
set_option maxHeartbeats 16000000
set_option maxRecDepth 100000
set_option linter.all false
set_option linter.defProp false
namespace Go.Proofs.YtdapogpjhljhaaaGreatDoor
open Go Go.Abs Tryz
def qpt(op):Pure prog GG 216 [.int .i64 op] (.int .i64 (zE op)):=by
 refine qF6 func216 ?_;by_cases h:op=1
 . subst h;simp[zE]
 by_cases j:op=2
 . subst j;simp[zE]
 by_cases a:op=24
 . subst a;simp[zE]
 by_cases b:op=3
 . subst b;simp[zE]
 by_cases l:op=4
 . subst l;simp[zE]
 by_cases f:op=5
 . subst f;simp[zE]
 by_cases c:op=6
 . subst c;simp[zE]
 by_cases g:op=25
 . subst g;simp[zE]
 by_cases i:op=22
 . subst i;simp[zE]
 by_cases d:op=23
 . subst d;simp[zE]
 by_cases c1:op<1
 . have e:zE op = -1:=(by simp[zE,h,j,a,b,l,f,c,g,i,d,c1]);rw[e];simp[h,j,a,b,l,f,c,g,i,d,c1]
 by_cases c2:25<op
 . have e:zE op = -1:=(by simp[zE,h,j,a,b,l,f,c,g,i,d,c2]);rw[e];simp[h,j,a,b,l,f,c,g,i,d,c1,c2]
 rw[show zE op=2 by simp[zE,h,j,a,b,l,f,c,g,i,d,c1,c2]];simp[h,j,a,b,l,f,c,g,i,d,c1,c2]
def qex(e):Pure prog GG 166 [.agg (qo e)] (.bool (qk e)):=by
 refine qF6 func166 ?_;have c:(e.args.length:Int).tmod 2=((e.args.length%2:Nat):Int):=rfl;by_cases a:e.op=23
 . by_cases c1:e.args.length%2=1
   . have b:((e.args.length%2:Nat):Int)=1:=(by omega);by_cases c2:3<=e.args.length
     . have d:(3:Int)<=e.args.length:=(by omega);by_cases c3:e.args.length<=33
       . have f:(e.args.length:Int)<=33:=(by omega);have x:qk e=true:=(by simp[qk,a,c1,c2,c3]);rw[x];simp only[qd,a];simp[c,b,d,f]
       have f:¬(e.args.length:Int)<=33:=(by omega);have x:qk e=false:=(by simp[qk,a,c3]);rw[x];simp only[qd,a];simp[c,b,d,f]
     have d:¬(3:Int)<=e.args.length:=(by omega);have x:qk e=false:=(by simp[qk,a,c2]);rw[x];simp only[qd,a];simp[c,b,d]
   . have b:¬((e.args.length%2:Nat):Int)=1:=(by omega);have x:qk e=false:=(by simp[qk,a,c1]);rw[x];simp only[qd,a];simp[c,show ¬(e.args.length:Int)%2=1 by omega]
 have x:qk e=decide ((e.args.length:Int)=zE e.op):=by simp[qk,a]
 rw[x];simp only[qd];simp[a];refine qFQ (qpt e.op) ?_ rfl;simp
 try(rw[qCo];simp)
def qsj(e)(r:Fits e.name):Pure prog GG 120 [.agg (qo e)] (.int .i64 (qy e)):=by
 refine qF6 func120 ?_;have h:=qex e;have o:=qow e.name r;have l:=Qt e.name;rw[qd]at h⊢;obtain⟨op,n,s,a⟩:=e;simp only[qFy,qFz,qFA,qFB]at h o l r⊢;by_cases c1:op<1
 . have x:qy (.mk op n s a)=1:=(by simp[qy,c1]);have c:¬op=2:=(by omega);have b:¬op=3:=(by omega);have d:¬op=24:=(by omega);rw[x];simp[c1,c,b]
 by_cases c2:25<op
 . have x:qy (.mk op n s a)=1:=(by simp[qy,c2]);have c:¬op=2:=(by omega);have b:¬op=3:=(by omega);have d:¬op=24:=(by omega);rw[x];simp[c1,c2,c,b]
 by_cases g:op=1
 . subst g;by_cases n1:n<0
   . have x:qy (.mk 1 n s a)=1:=(by simp[qy,n1]);rw[x];simp[n1]
   by_cases i:65535<n
   . have x:qy (.mk 1 n s a)=1:=(by simp[qy,i]);rw[x];simp[n1,i]
   by_cases f:s=[]
   . subst f;simp[n1,i];refine qFQ h ?_;cases ho:qk (.mk 1 n [] a)
     . have x:qy (.mk 1 n [] a)=1:=(by simp[qy,ho]);rw[x];simp
     have x:qy (.mk 1 n [] a)=0:=(by simp[qy,ho];omega);rw[x];simp
   have x:qy (.mk 1 n s a)=1:=(by simp[qy,f]);have t:s.isEmpty=false:=(by simpa using f);rw[x];simp[n1,i,show(s == [])=false by simpa using f]
 by_cases n0:n=0
 . subst n0;by_cases c:op=2
   . subst c;simp;refine qFQ h ?_;cases ho:qk (.mk 2 0 s a)
     . have x:qy (.mk 2 0 s a)=1:=(by simp[qy,ho]);rw[x];simp
     simp;refine qFQ o ?_ rfl;cases hv:kW s
     . have x:qy (.mk 2 0 s a)=7:=(by simp[qy,ho,hv]);rw[x];simp
     have x:qy (.mk 2 0 s a)=0:=(by simp[qy,ho,hv]);rw[x];simp
   by_cases b:op=3
   . subst b;simp;refine qFQ h ?_;cases ho:qk (.mk 3 0 s a)
     . have x:qy (.mk 3 0 s a)=1:=(by simp[qy,ho]);rw[x];simp
     simp;refine qFQ l ?_ rfl;cases hv:jc s
     . have x:qy (.mk 3 0 s a)=7:=(by simp[qy,ho,hv]);rw[x];simp
     have x:qy (.mk 3 0 s a)=0:=(by simp[qy,ho,hv]);rw[x];simp
   by_cases d:op=24
   . subst d;simp;refine qFQ h ?_;cases ho:qk (.mk 24 0 s a)
     . have x:qy (.mk 24 0 s a)=1:=(by simp[qy,ho]);rw[x];simp
     simp;refine qFQ l ?_ rfl;cases hv:jc s
     . have x:qy (.mk 24 0 s a)=7:=(by simp[qy,ho,hv]);rw[x];simp
     have x:qy (.mk 24 0 s a)=0:=(by simp[qy,ho,hv]);rw[x];simp
   have b1:(op==1)=false:=(by simpa using g);have m:(op != 1)=true:=(by simpa using g);have b2:(op==2)=false:=(by simpa using c);have b3:(op==3)=false:=(by simpa using b);have j:(op==24)=false:=(by simpa using d);by_cases f:s=[]
   . subst f;simp[c1,c2,b1,m,b2,b3,j];refine qFQ h ?_;cases ho:qk (.mk op 0 [] a)
     . have x:qy (.mk op 0 [] a)=1:=(by simp[qy,ho]);rw[x];simp
     have x:qy (.mk op 0 [] a)=0:=(by simp[qy,ho,c1,c2,g,c,b,d]);rw[x];simp[b2,b3,j]
   have t:s.isEmpty=false:=(by simpa using f);have x:qy (.mk op 0 s a)=1:=(by simp[qy,c1,c2,g,c,b,d,f]);rw[x];simp[c1,c2,b1,m,b2,b3,j,t]
 have x:qy (.mk op n s a)=1:=by simp[qy,g,n0]
 rw[x];by_cases c:op=2
 . subst c;simp[n0]
 by_cases b:op=3
 . subst b;simp[n0]
 by_cases d:op=24
 . subst d;simp[n0]
 simp[c1,c2,show(op==1)=false by simpa using g,show(op != 1)=true by simpa using g,show(op==2)=false by simpa using c,show(op==3)=false by simpa using b,show(op==24)=false by simpa using d,show(n != 0)=true by simpa using n0]
def Wn{l m}:Yn (l++m)=max (Yn l) (Yn m):=by
 induction l with
 |nil=>simp
 |cons a r ih=>simp only[qBV,Wm,ih];omega
def qo3:∀(e),Wen e->hgt e<1000000->Pure prog GG 121 [.agg (qo e)] (.int .i64 (hgt e)):=by
 refine qF4 fun e ih j t=>?_
 refine qF6 func121 ?_;have u:=j.fits;simp only[qd e];simp;refine qF3 (fun n env σ=>∃i l,i<=e.args.length/\n=e.args.length-i/\env 3=.int .i64 (Yn (e.args.take i))/\env 7=.sl 4 (e.args.map qo) .none/\env 8=.int .i64 e.args.length/\env 9=.int .i64 i/\σ=⟨l,[]⟩) e.args.length ⟨0,_,by simp,by simp,by simp,by simp,by simp,by simp,rfl⟩ ?_;rintro n env σ ⟨i,l,hi,rfl,d,g,h,c,rfl⟩
 cases hv:e.args[i]? with
 | some a=>
  obtain⟨f,s⟩:=qBk.1 hv;have b:=qBl hv;have v:=qk4 b;have m:Yn (e.args.take (i+1))=max (Yn (e.args.take i)) (hgt a):=by
   rw[qBQ,hv,Wn];simp
  simp[d,g,h,c,f,s,qd a,qB8];rw[<- qd a];refine qFQ (ih a b (j.arg b) (by omega)) ?_;simp[qoi,c];refine⟨_,by omega,i+1,by omega,rfl,?_,wr⟩;rw[m];split<;>omega
 | none=>
  have f:¬i<e.args.length:=by simp at hv;omega
  have o:e.args.take i=e.args:=qBr (by omega);rw[o]at d;have r:IntKind.i64.wrap ((Yn e.args:Int)+1)=hgt e:=by rw[w8 e]at t⊢;rw[wr];omega
  simp[d,g,h,c,f,r]
noncomputable def stV(_:Int)(e:Ex):Int×Bool:=(qy e,qy e==0)
def stN(n:Int)(_:Ex):Int×Bool:=(IntKind.i64.wrap (n+1),true)
def qjb(c m):qdK stV (fun s=>[.cells c,.cells [.int .i64 s]]) (fun _=>[]) 119 [.ptr 1 0] m:=by
 intro s tail e a _;refine qh.vc func119 ?_;simp only[qd e];simp;rw[<- qd e];refine qFQ (qsj e a.nm) ?_;simp[stV]
def qja(c m):qdK stN (fun s=>[.cells c,.cells [.int .i64 s]]) (fun _=>[]) 168 [.ptr 1 0] m:=by
 intro s tail e a _;refine qh.vc func168 ?_;simp only[qd e];simp[stN]
def qrw(e)(a:Wen e):Pure prog GG 122 [.agg (qo e)] (.int .i64 (vQ e)):=by
 refine qF6 func122 ?_;have b:(Z1 stN 0 (pre e)).1=vQ e:=by
  rw[KH (fun s e=>rfl)];have:=V1 (n:=0) (pre e);simp only[qFu]at this;rw[vQ,<- this];simp[stN,IntKind.wrap,IntKind.bits,IntKind.signed]
 simp only[qd e];simp;rw[<- qd e];refine qFU (qdV (c:=2) (hd:=fun s=>[.cells (qo e),.cells [.int .i64 s]]) (T:=fun _=>[]) (m:=fun _=>(pre e).length) (fun _=>rfl) (fun _ _=>by omega) (qja _ _) e a 0 (qBs _) []) ?_;rintro r σ' ⟨t,rfl⟩;rw[b];simp
def qll(e):(Z1 stV 0 (pre e)).1=zd qy (pre e):=by
 have:=Vx (f:=qy) 0 (pre e)
 rwa[if_neg (by rw[jv];simp)]at this
def Km(e)(b:Wen e)(g:hgt e<1000000):Pure prog GG 80 [.agg (qo e)] (.int .i64 (zr e)):=by
 refine qF6 func80 ?_;simp only[qd e];simp;rw[<- qd e];refine qFU (qdV (c:=2) (hd:=fun s=>[.cells (qo e),.cells [.int .i64 s]]) (T:=fun _=>[]) (m:=fun _=>(pre e).length) (fun _=>rfl) (fun _ _=>by omega) (qjb _ _) e b 0 (qBs _) []) ?_;rintro r σ' ⟨t,rfl⟩;rw[qll];by_cases h0:zd qy (pre e)=0
 . rw[h0];simp[qd e];rw[<- qd e];refine qFQ (qo3 e b g) ?_;by_cases f:24<hgt e
   . have d:(24:Int)<hgt e:=(by omega);have x:zr e=2:=(by unfold zr;rw[if_pos ⟨h0,.inl f⟩]);rw[x];simp[d]
   have d:¬(24:Int)<hgt e:=(by omega);simp[d,qd e];rw[<- qd e];refine qFQ (qrw e b) ?_;by_cases a:400<vQ e
   . have x:zr e=2:=(by unfold zr;rw[if_pos ⟨h0,.inr a⟩]);rw[x];simp[a]
   have x:zr e=0:=(by unfold zr;rw[if_neg (fun h=>by rcases h.2 with h|h;exact f h;exact a h),h0]);rw[x];simp[a]
 have x:zr e=zd qy (pre e):=by unfold zr;rw[if_neg (fun h=>h0 h.1)]
 rw[x];simp[show(zd qy (pre e)==0)=false by simpa using h0]
def stM(ops:List Int)(s:List Str)(e:Ex):List Str×Bool:=(WS ops s e,true)
def qtT(s:List Str):AV:=match s with
 |[]=>.sl 0 [] .nil
 |a::r=>.sl 1 ((a::r).map jo) (.chain 0 (r.length+1))
def qu7(s:List Str):List (Option Nat):=match s with
 |[]=>[]
 |_::r=>[some (r.length+1)]
def any_beq'{α:Type}[BEq α](l:List α)(a:α):(l.any fun v=>a==v)=l.contains a:=by rw[List.any_beq]
def qi9(c ops)(d:Fits ops):qdK (stM ops) (fun s=>[.cells c,.cells [.sl 1 (ops.map qf) .none],.cells [qtT s]]) qu7 169 [.ptr 1 0,.ptr 2 0] (fun s=>1000000-s.length):=by
 intro s tail e f b;refine qh.vc func169 ?_;simp only[qd e];simp;refine qFQ (vH GG ops e.op d) ?_;rw[any_beq'];cases hc:ops.contains e.op
 . have x:WS ops s e=s:=(by simp only[WS,hc,qDy];rfl);simp[stM,x]
 cases s with
 | nil=>
  simp[qtT];refine qFR (ZH GG [] e.name (by simp)) (by simp) (by simp[Leq]) ?_;have x:WS ops [] e=[e.name]:=by simp only[WS,hc];rfl
  simp[stM,x,qu7,qm,qe,qp,qR]
 | cons a r=>
  simp[qtT];refine qF5 (ZH GG (a::r) e.name (by simp at b⊢;omega)) (by simp) (by simp) ?_;rw[any_beq'];cases hn:(a::r).contains e.name
  . have x:WS ops (a::r) e=a::(r++[e.name]):=(by simp only[WS,hc,hn];rfl);simp[stM,x,qu7,qm,qe,qp,qR,show r.length<=549755813886 by simp at b;omega]
  have x:WS ops (a::r) e=a::r:=by simp only[WS,hc,hn];rfl
  simp[stM,x,qu7]
def qgG{ops}:∀(l:List Ex) (s),l.foldl (fun s e=>(stM ops s e).1) s=l.foldl (WS ops) s
 |[],s=>rfl
 |e::r,s=>by rw[qB2,qB2];exact qgG r _
def vL{ops s e}:(WS ops s e).length<=s.length+1:=by
 unfold WS;split<;>simp
def qgj(e)(b:Wen e)(ops)(d:Fits ops)(g:(pre e).length<=100000):Pure prog GG 123 [.agg (qo e),.sl 1 (ops.map qf) .none] (.sl 1 ((zS ops e).map jo) .none):=by
 refine qF6 func123 ?_;simp only[qd e];simp;rw[<- qd e];refine qFU (qdV (c:=3) (hd:=fun s=>[.cells (qo e),.cells [.sl 1 (ops.map qf) .none],.cells [qtT s]]) (T:=qu7) (m:=fun s=>1000000-s.length) (fun _=>rfl) (fun s x=>by have:=vL (ops:=ops) (s:=s) (e:=x);simp only[stM];omega) (qi9 _ ops d) e b [] (by simp;omega) []) ?_;rintro r σ' ⟨t,rfl⟩;rw[KH (fun s e=>rfl),qgG];have f:(pre e).foldl (WS ops) []=zS ops e:=rfl;rw[f]
 cases hs:zS ops e with
 |nil=>simp[qtT,Leq]
 |cons a r=>simp[qtT,hs]
def QE(e)(a:Wen e)(b:(pre e).length<=100000):Pure prog GG 81 [.agg (qo e)] (.sl 1 ((zS [3,24] e).map jo) .none):=by
 refine qF6 func81 ?_;simp only[qd e];simp[qe,qp];rw[<- qd e];refine qFR (qgj e a [3,24] (by decide) b) (by simp) (by simp[Leq]) ?_;simp[]
def Jc(e)(a:Wen e)(b:(pre e).length<=100000):Pure prog GG 83 [.agg (qo e)] (.sl 1 ((zS [2] e).map jo) .none):=by
 refine qF6 func83 ?_;simp only[qd e];simp[qe,qp];rw[<- qd e];refine qFR (qgj e a [2] (by decide) b) (by simp) (by simp[Leq]) ?_;simp[]
