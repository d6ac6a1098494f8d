/- A part of the proof. -/
import Derived.Test.YtkpkjbchlabaaaaGreatDoorSa07
set_option linter.unusedVariables false
set_option linter.unusedSimpArgs false
set_option maxRecDepth 100000
set_option maxHeartbeats 16000000
set_option linter.defProp false
section
namespace Go.Proofs.YtkpkjbchlabaaaaGreatDoor
open Go Go.Abs
theorem ju {α:Type}{p:α->Prop}{l:List α}{i:Nat}{v:α}(h:l[i]?=some v)(hz:∀ a∈l.take i,p a)(hv:p v):∀ a∈l.take (i+1),p a:=by
 intro a ha;rw[qqH,h]at ha;rcases qqA.1 ha with ha|ha
 . exact hz a ha
 . simp at ha;rw[ha];exact hv
theorem qoN:∀ (e:Ex),Wen e->∀ (d:Nat),d<=30->Pure Tryz.prog GG 151 [.agg (qr e),.int .i64 d] (.int .i64 (yc e d)):=by
 refine Ex.ind fun e ih hwe d hd=>?_
 refine Pure.vc qe Tryz.func151 rfl (by kernel_rfl) ?_;have hl:=hwe.fits;simp only[qd e];simp;refine qy.intro (fun q env U=>∃ i n,i<=e.args.length/\q=e.args.length-i/\env 1=.int .i64 d/\env 2=.ptr 0 0/\env 5=.int .i64 n/\env 6=.int .i64 i/\U=⟨[.cells (qr e)],[]⟩/\yc e d=ky (e.args.drop i) d n) e.args.length ⟨0,1,by simp,by simp,by simp,by simp,by simp,by simp,by rw[qd e],by rw[qaV];simp⟩ ?_;rintro q env U ⟨i,n,hi,rfl,h1,h2,h5,h6,rfl,hn⟩
 cases hv:e.args[i]? with
 | none=>
  have hc:¬ i<e.args.length:=by simp at hv;omega
  have hd0:e.args.drop i=[]:=by simp;omega
  rw[hd0,qfC]at hn;rw[hn];simp[h1,h2,h5,h6,qd e,hc]
 | some a=>
  obtain⟨hc,hv'⟩:=qqc.1 hv;have hm:=qqd hv;rw[zA hv,YC]at hn;by_cases c1:n<100
  . by_cases c2:(d:Int)<30
    . have c2':d<30:=(by omega);rw[if_pos ⟨c1,c2⟩]at hn;have hw:IntKind.i64.wrap ((d:Int)+1)=((d+1:Nat):Int):=(by rw[wr (by omega) (by omega)];omega);simp[h1,h2,h5,h6,qd e,hc,c1,c2,c2',hv',qd a,hw];rw[<- qd a];refine qb.call (ih a hm (hwe.arg hm) (d+1) (by omega)) (by simp) ?_;rw[hw]at hn;simp[h1,h2,h5,h6];exact⟨_,by omega,i+1,by omega,rfl,wr (by omega) (by omega),by simpa using hn⟩
    . have c2':¬ d<30:=(by omega);rw[if_neg (fun h=>c2 h.2)]at hn;rw[hn];simp[h1,h2,h5,h6,qd e,hc,c1,c2,c2']
  . rw[if_neg (fun h=>c1 h.1)]at hn;rw[hn];simp[h1,h2,h5,h6,qd e,hc,c1]
theorem qi8:∀ (e:Ex),Wen e->∀ (d:Nat),d<=26->Pure Tryz.prog GG 91 [.agg (qr e),.int .i64 d] (.bool (z7 e d)):=by
 refine Ex.ind fun e ih hwe d hd=>?_
 refine Pure.vc qe Tryz.func91 rfl (by kernel_rfl) ?_;have hl:=hwe.fits;have hB:=Ke e d;by_cases c1:25<d
 . have c1':(25:Int)<d:=(by omega);rw[hB,if_pos (.inl c1)];simp only[qd e];simp[c1']
 . have c1':¬ (25:Int)<d:=(by omega);have hw:IntKind.i64.wrap ((d:Int)+1)=((d+1:Nat):Int):=(by rw[wr (by omega) (by omega)];omega);by_cases c2:d=0
   . subst c2;simp only[qd e];simp;rw[<- qd e];refine qb.call (qoN e hwe 0 (by omega)) (by simp) ?_;by_cases c3:60<yc e 0
     . rw[hB,if_pos (.inr ⟨rfl,c3⟩)];simp[c3]
     . rw[if_neg (fun h=>by rcases h with h | h;omega;exact c3 h.2)]at hB;simp[c3];rw[hB,ZP];refine qy.intro (fun q env U=>∃ i,i<=e.args.length/\q=e.args.length-i/\env 1=.int .i64 0/\env 2=.ptr 0 0/\env 5=.int .i64 i/\U=⟨[.cells (qr e)],[]⟩/\∀ a∈e.args.take i,z7 a 1=true) e.args.length ⟨0,by simp,by simp,by simp,by simp,by simp,rfl,by simp⟩ ?_;rintro q env U ⟨i,hi,rfl,h1,h2,h5,rfl,hall⟩
       cases hv:e.args[i]? with
       | none=>
        have hc:¬ i<e.args.length:=(by simp at hv;omega);have ht:e.args.take i=e.args:=qqk (by omega);rw[ht]at hall;rw[qqo.2 hall];simp[h1,h2,h5,qd e,hc]
       | some a=>
        obtain⟨hc,hv'⟩:=qqc.1 hv;have hm:=qqd hv;have w1:IntKind.i64.wrap 1=1:=(by decide);simp[h1,h2,h5,qd e,hc,hv',qd a,w1];rw[<- qd a];refine qb.call (ih a hm (hwe.arg hm) 1 (by omega)) (by simp) ?_;cases ha:z7 a 1
        . have:(e.args.all fun x=>z7 x 1)=false:=by
           rw[qrq];intro h;rw[qqo.1 h a hm]at ha;cases ha
          simp[this]
        . simp[h1,h2,h5];exact⟨_,by omega,i+1,by omega,rfl,wr (by omega) (by omega),ju hv hall ha⟩
   . have c2':¬ (d:Int)=0:=(by omega);rw[if_neg (fun h=>by rcases h with h | h;omega;exact c2 h.1)]at hB;simp only[qd e];simp[c1',c2,c2'];rw[hB,ZP];refine qy.intro (fun q env U=>∃ i,i<=e.args.length/\q=e.args.length-i/\env 1=.int .i64 d/\env 2=.ptr 0 0/\env 5=.int .i64 i/\U=⟨[.cells (qr e)],[]⟩/\∀ a∈e.args.take i,z7 a (d+1)=true) e.args.length ⟨0,by simp,by simp,by simp,by simp,by simp,by rw[qd e],by simp⟩ ?_;rintro q env U ⟨i,hi,rfl,h1,h2,h5,rfl,hall⟩
     cases hv:e.args[i]? with
     | none=>
      have hc:¬ i<e.args.length:=(by simp at hv;omega);have ht:e.args.take i=e.args:=qqk (by omega);rw[ht]at hall;rw[qqo.2 hall];simp[h1,h2,h5,qd e,hc]
     | some a=>
      obtain⟨hc,hv'⟩:=qqc.1 hv;have hm:=qqd hv;simp[h1,h2,h5,qd e,hc,hv',qd a,hw];rw[<- qd a];refine qb.call (ih a hm (hwe.arg hm) (d+1) (by omega)) (by simp) ?_;cases ha:z7 a (d+1)
      . have:(e.args.all fun x=>z7 x (d+1))=false:=by
         rw[qrq];intro h;rw[qqo.1 h a hm]at ha;cases ha
        simp[this]
      . simp[h1,h2,h5];exact⟨_,by omega,i+1,by omega,rfl,wr (by omega) (by omega),ju hv hall ha⟩
theorem qeR {α:Type}{p:α->Bool}{l:List α}{a:α}(h:a∈l)(hp:p a=false):l.all p=false:=by
 rw[qrq];intro e;rw[qqo.1 e a h]at hp;cases hp
theorem qob (p:Problem)(hw:∀ e∈p.hard++p.soft,Wen e):Pure Tryz.prog GG 44 [.agg (qE p)] (.bool (jA p)):=by
 refine Pure.vc qe Tryz.func44 rfl (by kernel_rfl) ?_;by_cases l1:20<p.vars.length
 . have x:jA p=false:=(by simp[jA,l1]);have l1':(20:Int)<p.vars.length:=(by omega);rw[x];simp[l1']
 have l1':¬ (20:Int)<p.vars.length:=by omega
 by_cases l2:20<p.hard.length
 . have x:jA p=false:=(by simp[jA,l2]);have l2':(20:Int)<p.hard.length:=(by omega);rw[x];simp[l1',l2']
 have l2':¬ (20:Int)<p.hard.length:=by omega
 by_cases l3:20<p.soft.length
 . have x:jA p=false:=(by simp[jA,l3]);have l3':(20:Int)<p.soft.length:=(by omega);rw[x];simp[l1',l2',l3']
 have l3':¬ (20:Int)<p.soft.length:=by omega
 by_cases l4:20<p.dists.length
 . have x:jA p=false:=(by simp[jA,l4]);have l4':(20:Int)<p.dists.length:=(by omega);rw[x];simp[l1',l2',l3',l4']
 have l4':¬ (20:Int)<p.dists.length:=by omega
 by_cases l5:20<p.groups.length
 . have x:jA p=false:=(by simp[jA,l5]);have l5':(20:Int)<p.groups.length:=(by omega);rw[x];simp[l1',l2',l3',l4',l5']
 have l5':¬ (20:Int)<p.groups.length:=by omega
 have hS:jA p=(p.hard.all (z7 · 0)&&p.soft.all (z7 · 0)&&p.dists.all (fun d=>decide (d.weights.length<=20))&&p.groups.all (fun g=>decide (g.length<=20))):=by
  simp only[jA,l1,l2,l3,l4,l5,decide_false,Bool.or_false,qtO,qrg]
 simp[l1',l2',l3',l4',l5'];refine qy.intro (fun q env U=>∃ i,i<=p.hard.length/\q=p.hard.length-i/\env 1=.ptr 0 0/\env 3=.int .i64 i/\U=⟨[.cells (qE p)],[]⟩/\∀ a∈p.hard.take i,z7 a 0=true) p.hard.length ⟨0,by simp⟩ ?_;rintro q env U ⟨i,hi,rfl,h1,h3,rfl,hall⟩
 cases hv:p.hard[i]? with
 | some a=>
  obtain⟨hc,hv'⟩:=qqc.1 hv;have hm:=qqd hv;simp[h1,h3,hc,hv',qd a];rw[<- qd a];refine qb.call (qi8 a (hw a (qq5 _ hm)) 0 (by omega)) (by simp) ?_;cases ha:z7 a 0
  . have x:jA p=false:=(by rw[hS,qeR (p:=(z7 · 0)) hm ha];simp);rw[x];simp
  . simp[h1,h3];exact⟨_,by omega,i+1,by omega,rfl,wr (by omega) (by omega),ju hv hall ha⟩
 | none=>
  have hc:¬ i<p.hard.length:=by simp at hv;omega
  have ht:p.hard.take i=p.hard:=qqk (by omega);rw[ht]at hall;have hA:p.hard.all (z7 · 0)=true:=qqo.2 hall;simp[h1,h3,hc];refine qy.intro (fun q env U=>∃ i,i<=p.soft.length/\q=p.soft.length-i/\env 1=.ptr 0 0/\env 4=.int .i64 i/\U=⟨[.cells (qE p)],[]⟩/\∀ a∈p.soft.take i,z7 a 0=true) p.soft.length ⟨0,by simp[h1]⟩ ?_;clear h1 h3 hall hc ht hv hi i;rintro q env U ⟨i,hi,rfl,h1,h3,rfl,hall⟩
  cases hv:p.soft[i]? with
  | some a=>
   obtain⟨hc,hv'⟩:=qqc.1 hv;have hm:=qqd hv;simp[h1,h3,hc,hv',qd a];rw[<- qd a];refine qb.call (qi8 a (hw a (qrE _ hm)) 0 (by omega)) (by simp) ?_;cases ha:z7 a 0
   . have x:jA p=false:=(by rw[hS,qeR (p:=(z7 · 0)) hm ha];simp);rw[x];simp
   . simp[h1,h3];exact⟨_,by omega,i+1,by omega,rfl,wr (by omega) (by omega),ju hv hall ha⟩
  | none=>
   have hc:¬ i<p.soft.length:=(by simp at hv;omega);have ht:p.soft.take i=p.soft:=qqk (by omega);rw[ht]at hall;have hB:p.soft.all (z7 · 0)=true:=qqo.2 hall;simp[h1,h3,hc];refine qy.intro (fun q env U=>∃ i,i<=p.dists.length/\q=p.dists.length-i/\env 1=.ptr 0 0/\env 5=.int .i64 i/\U=⟨[.cells (qE p)],[]⟩/\∀ a∈p.dists.take i,a.weights.length<=20) p.dists.length ⟨0,by simp[h1]⟩ ?_;clear h1 h3 hall hc ht hv hi i;rintro q env U ⟨i,hi,rfl,h1,h3,rfl,hall⟩
   cases hv:p.dists[i]? with
   | some a=>
    obtain⟨hc,hv'⟩:=qqc.1 hv;have hm:=qqd hv;by_cases hlw:a.weights.length<=20
    . have hlw':¬ (20:Int)<a.weights.length:=(by omega);simp[h1,h3,hc,hv',hlw'];exact⟨_,by omega,i+1,by omega,rfl,wr (by omega) (by omega),ju (p:=fun a:Dist=>a.weights.length<=20) hv hall hlw⟩
    . have hlw':(20:Int)<a.weights.length:=(by omega);have x:jA p=false:=(by rw[hS,qeR (p:=fun d:Dist=>decide (d.weights.length<=20)) hm (by simpa using hlw)];simp);rw[x];simp[h1,h3,hc,hv',hlw']
   | none=>
    have hc:¬ i<p.dists.length:=(by simp at hv;omega);have ht:p.dists.take i=p.dists:=qqk (by omega);rw[ht]at hall;have hC:p.dists.all (fun d=>decide (d.weights.length<=20))=true:=qqo.2 fun d hd=>decide_eq_true (hall d hd)
    simp[h1,h3,hc];refine qy.intro (fun q env U=>∃ i,i<=p.groups.length/\q=p.groups.length-i/\env 1=.ptr 0 0/\env 6=.int .i64 i/\U=⟨[.cells (qE p)],[]⟩/\∀ a∈p.groups.take i,a.length<=20) p.groups.length ⟨0,by simp[h1]⟩ ?_;clear h1 h3 hall hc ht hv hi i;rintro q env U ⟨i,hi,rfl,h1,h3,rfl,hall⟩
    cases hv:p.groups[i]? with
    | some a=>
     obtain⟨hc,hv'⟩:=qqc.1 hv;have hm:=qqd hv;by_cases hlw:a.length<=20
     . have hlw':¬ (20:Int)<a.length:=(by omega);simp[h1,h3,hc,hv',hlw'];exact⟨_,by omega,i+1,by omega,rfl,wr (by omega) (by omega),ju (p:=fun a:List Int=>a.length<=20) hv hall hlw⟩
     . have hlw':(20:Int)<a.length:=(by omega);have x:jA p=false:=(by rw[hS,qeR (p:=fun d:List Int=>decide (d.length<=20)) hm (by simpa using hlw)];simp);rw[x];simp[h1,h3,hc,hv',hlw']
    | none=>
     have hc:¬ i<p.groups.length:=(by simp at hv;omega);have ht:p.groups.take i=p.groups:=qqk (by omega);rw[ht]at hall;have hD:p.groups.all (fun g=>decide (g.length<=20))=true:=qqo.2 fun g hg=>decide_eq_true (hall g hg)
     have x:jA p=true:=(by rw[hS,hA,hB,hC,hD];rfl);rw[x];simp[h1,h3,hc]
theorem qkZ:∀ (e:Ex) (d:Nat),d+hgt e<=30->(1<=yc e d/\((pre e).length<=100->((pre e).length:Int)<=yc e d)/\(100<=(pre e).length->100<=yc e d))/\yc e d<=100*hgt e:=by
 refine Ex.ind fun e ih d hd=>?_
 rw[kD]at hd ⊢;have gen:∀ (l:List Ex) (n:Int),(∀ a∈l,a∈e.args)->1<=n->n<=100*(Zj e.args+1:Nat) ->
  (1<=ky l d n/\n<=ky l d n/\(n+(kx l).length<=100->n+(kx l).length<=ky l d n)/\(100<=n+(kx l).length->100<=ky l d n))/\ky l d n<=100*(Zj e.args+1:Nat):=by
  intro l
  induction l with
  | nil=>intro n _ h1 h2;simp;omega
  | cons a r ihr=>
   intro n hsub h1 h2;have ham:=hsub a (by simp);have hga:=qet ham;have hga1:1<=hgt a:=(by rw[kD];omega);rw[YC];by_cases c1:n<100
   . have c2:(d:Int)<30:=(by omega);rw[if_pos ⟨c1,c2⟩];have hw:IntKind.i64.wrap ((d:Int)+1)=((d+1:Nat):Int):=(by rw[wr (by omega) (by omega)];omega);rw[hw];have k:=ih a ham (d+1) (by omega);have hub:yc a ((d+1:Nat):Int)<=100*hgt a:=k.2;have hw2:IntKind.i64.wrap (n+yc a ((d+1:Nat):Int))=n+yc a ((d+1:Nat):Int):=wr (by omega) (by omega);rw[hw2];have kr:=ihr (n+yc a ((d+1:Nat):Int)) (fun x hx=>hsub x (by simp[hx])) (by omega) (by omega);simp only[yb,qqg];obtain⟨⟨k1,k2,k3⟩,k4⟩:=k;obtain⟨⟨r1,r2,r3,r4⟩,r5⟩:=kr;refine⟨⟨r1,by omega,fun h=>?_,fun h=>?_⟩,r5⟩
     . have a1:=k2 (by omega);by_cases hb:n+yc a ((d+1:Nat):Int)+(kx r).length<=100
       . have:=r3 hb;omega
       . have:=r4 (by omega);omega
     . by_cases ha:(pre a).length<=100
       . have a1:=k2 ha;exact r4 (by omega)
       . have a1:=k3 (by omega);exact r4 (by omega)
   . rw[if_neg (fun h=>c1 h.1)];refine⟨⟨h1,Int.le_refl _,fun h=>?_,fun _=>by omega⟩,h2⟩;simp only[yb,qqg]at h ⊢;omega
 have g:=gen e.args 1 (fun _ h=>h) (by omega) (by omega);rw[<- qaV]at g;have hl:(pre e).length=(kx e.args).length+1:=by rw[jr,qqs]
 rw[hl];refine⟨⟨g.1.1,fun h=>?_,fun h=>?_⟩,g.2⟩
 . have:=g.1.2.2.1 (by omega);omega
 . exact g.1.2.2.2 (by omega)
theorem qi7 {e:Ex}(h:z7 e 0=true):(pre e).length<=60:=by
 have hh:=qbJ e 0 h;rw[Ke]at h;split at h
 . cases h
 . rename_i hn;have h60:¬ 60<yc e 0:=fun h=>hn (.inr ⟨rfl,h⟩)
   have k:=qkZ e 0 (by omega);obtain⟨⟨_,k2,k3⟩,_⟩:=k;apply Classical.byContradiction;intro hgt60;by_cases h100:(pre e).length<=100
   . have:=k2 h100;simp only[qrn]at this h60;omega
   . have:=k3 (by omega);simp only[qrn]at this h60;omega
end Go.Proofs.YtkpkjbchlabaaaaGreatDoor
end
