import Derived.Test.YtafbccendejkeaaGreatDoorPv05
set_option maxRecDepth 100000
set_option maxHeartbeats 16000000
set_option linter.all false
namespace Go.Proofs.YtafbccendejkeaaGreatDoor
open Go Go.Abs Tryz
def jS{α:Type}{p:α->Prop}{l:List α}{i:Nat}{v:α}(h:l[i]?=some v)(hz:∀a∈l.take i,p a)(hv:p v):∀a∈l.take (i+1),p a:=by
 intro a ha;rw[qBG,h]at ha;rcases qBp.1 ha with ha|ha
 . exact hz a ha
 simp at ha;rwa[ha]
def qr8:∀(e:Ex),Wen e->∀(d:Nat),d<=30->Pure prog GG 60 [.agg (qp e),.int .i64 d] (.int .i64 (yT e d)):=by
 refine qFX fun e ih hwe d hd=>?_
 refine okzQ func60 rfl rfl ?_;have hl:=hwe.fits;simp only[qc e];simp;refine qFW (fun q env U=>∃i n,i<=e.args.length/\q=e.args.length-i/\env 1=.int .i64 d/\env 2=.ptr 0 0/\env 5=.int .i64 n/\env 6=.int .i64 i/\U=⟨[.cells (qp e)],[]⟩/\yT e d=wE (e.args.drop i) d n) e.args.length ⟨0,1,by simp,by simp,by simp,by simp,by simp,by simp,by rw[qc e],by rw[qcI];simp⟩ ?_;rintro q env U ⟨i,n,hi,rfl,h1,h2,h5,h6,rfl,hn⟩
 cases hv:e.args[i]? with
 | none=>
  have hc:¬i<e.args.length:=by simp at hv;omega
  rw[show e.args.drop i=[] by simp;omega,qhZ]at hn;rw[hn];simp[h2,h5,h6,qc e,hc]
 | some a=>
  obtain⟨hc,hv'⟩:=qBa.1 hv;have hm:=qBb hv;rw[ze hv,KX]at hn;by_cases c1:n<100
  . by_cases c2:(d:Int)<30
    . have c2':d<30:=(by omega);rw[if_pos ⟨c1,c2⟩]at hn;have hw:IntKind.i64.wrap ((d:Int)+1)=((d+1:Nat):Int):=(by rw[wr (by omega) (by omega)];omega);simp[h1,h2,h5,h6,qc e,hc,c1,c2,hv',qc a,hw];rw[<- qc a];refine qFJ (ih a hm (hwe.arg hm) (d+1) (by omega)) (by simp) ?_;rw[hw]at hn;simp[h6];exact⟨_,by omega,i+1,by omega,rfl,wr (by omega) (by omega),by simpa using hn⟩
    . have c2':¬d<30:=(by omega);rw[if_neg (fun h=>c2 h.2)]at hn;rw[hn];simp[h1,h2,h5,h6,qc e,hc,c1,c2]
  rw[if_neg (fun h=>c1 h.1)]at hn;rw[hn];simp[h1,h2,h5,h6,qc e,hc,c1]
def qlL:∀(e:Ex),Wen e->∀(d:Nat),d<=26->Pure prog GG 33 [.agg (qp e),.int .i64 d] (.bool (jr e d)):=by
 refine qFX fun e ih hwe d hd=>?_
 refine okzQ func33 rfl rfl ?_;have hl:=hwe.fits;have hB:=WK e d;by_cases c1:25<d
 . have c1':(25:Int)<d:=(by omega);rw[hB,if_pos (.inl c1)];simp only[qc e];simp[c1']
 have c1':¬(25:Int)<d:=by omega
 by_cases c2:d=0
 . subst c2;simp only[qc e];simp;rw[<- qc e];refine qFJ (qr8 e hwe 0 (by omega)) (by simp) ?_;by_cases c3:60<yT e 0
   . rw[hB,if_pos (.inr ⟨rfl,c3⟩)];simp[c3]
   rw[if_neg (fun h=>by rcases h with h|h;omega;exact c3 h.2)]at hB;simp[c3];rw[hB,JZ];refine qFW (fun q env U=>∃i,i<=e.args.length/\q=e.args.length-i/\env 1=.int .i64 0/\env 2=.ptr 0 0/\env 5=.int .i64 i/\U=⟨[.cells (qp e)],[]⟩/\∀a∈e.args.take i,jr a 1=true) e.args.length ⟨0,by simp⟩ ?_;rintro q env U ⟨i,hi,rfl,h1,h2,h5,rfl,hall⟩
   cases hv:e.args[i]? with
   | none=>
    have hc:¬i<e.args.length:=(by simp at hv;omega);have ht:e.args.take i=e.args:=qBh (by omega);rw[ht]at hall;rw[qBk.2 hall];simp[h2,h5,qc e,hc]
   | some a=>
    obtain⟨hc,hv'⟩:=qBa.1 hv;have hm:=qBb hv;simp[h1,h2,h5,qc e,hc,hv',qc a,show IntKind.i64.wrap 1=1 by decide];rw[<- qc a];refine qFJ (ih a hm (hwe.arg hm) 1 (by omega)) (by simp) ?_;cases ha:jr a 1
    . have:(e.args.all fun x=>jr x 1)=false:=by
       rw[qCu];intro h;rw[qBk.1 h a hm]at ha;cases ha
      simp[this]
    simp[h1,h2,h5];exact⟨_,by omega,i+1,by omega,rfl,wr (by omega) (by omega),jS hv hall ha⟩
 have c2':¬(d:Int)=0:=by omega
 rw[if_neg (fun h=>by rcases h with h|h;omega;exact c2 h.1)]at hB;simp only[qc e];simp[c1',c2];rw[hB,JZ];refine qFW (fun q env U=>∃i,i<=e.args.length/\q=e.args.length-i/\env 1=.int .i64 d/\env 2=.ptr 0 0/\env 5=.int .i64 i/\U=⟨[.cells (qp e)],[]⟩/\∀a∈e.args.take i,jr a (d+1)=true) e.args.length ⟨0,by simp,by simp,by simp,by simp,by simp,by rw[qc e],by simp⟩ ?_;rintro q env U ⟨i,hi,rfl,h1,h2,h5,rfl,hall⟩
 cases hv:e.args[i]? with
 | none=>
  have hc:¬i<e.args.length:=by simp at hv;omega
  rw[show e.args.take i=e.args from qBh (by omega)]at hall;rw[qBk.2 hall];simp[h2,h5,qc e,hc]
 | some a=>
  obtain⟨hc,hv'⟩:=qBa.1 hv;have hm:=qBb hv;simp[h1,h2,h5,qc e,hc,hv',qc a,show IntKind.i64.wrap ((d:Int)+1)=((d+1:Nat):Int) by rw[wr (by omega) (by omega)];omega];rw[<- qc a];refine qFJ (ih a hm (hwe.arg hm) (d+1) (by omega)) (by simp) ?_;cases ha:jr a (d+1)
  . have:(e.args.all fun x=>jr x (d+1))=false:=by
     rw[qCu];intro h;rw[qBk.1 h a hm]at ha;cases ha
    simp[this]
  simp[h1,h2,h5];exact⟨_,by omega,i+1,by omega,rfl,wr (by omega) (by omega),jS hv hall ha⟩
def qg3{α:Type}{p:α->Bool}{l:List α}{a:α}(h:a∈l)(hp:p a=false):l.all p=false:=by
 rw[qCu];intro e;rw[qBk.1 e a h]at hp;cases hp
def qrh(p)(hw:∀e∈p.hard++p.soft,Wen e):Pure prog GG 17 [.agg (qu p)] (.bool (jY p)):=by
 refine qFZ qX func17 rfl (by kernel_rfl) ?_;by_cases l1:20<p.vars.length
 . have x:jY p=false:=(by simp[jY,l1]);have l1':(20:Int)<p.vars.length:=(by omega);rw[x];simp[l1']
 have l1':¬(20:Int)<p.vars.length:=by omega
 by_cases l2:20<p.hard.length
 . have x:jY p=false:=(by simp[jY,l2]);have l2':(20:Int)<p.hard.length:=(by omega);rw[x];simp[l1',l2']
 have l2':¬(20:Int)<p.hard.length:=by omega
 by_cases l3:20<p.soft.length
 . have x:jY p=false:=(by simp[jY,l3]);have l3':(20:Int)<p.soft.length:=(by omega);rw[x];simp[l1',l2',l3']
 have l3':¬(20:Int)<p.soft.length:=by omega
 by_cases l4:20<p.dists.length
 . have x:jY p=false:=(by simp[jY,l4]);have l4':(20:Int)<p.dists.length:=(by omega);rw[x];simp[l1',l2',l3',l4']
 have l4':¬(20:Int)<p.dists.length:=by omega
 by_cases l5:20<p.groups.length
 . have x:jY p=false:=(by simp[jY,l5]);have l5':(20:Int)<p.groups.length:=(by omega);rw[x];simp[l1',l2',l3',l4',l5']
 have hS:jY p=(p.hard.all (jr · 0)&&p.soft.all (jr · 0)&&p.dists.all (fun d=>decide (d.weights.length<=20))&&p.groups.all (fun g=>decide (g.length<=20))):=by
  simp only[jY,l1,l2,l3,l4,l5,decide_false,Bool.or_false,qFf,qCs]
 simp[l1',l2',l3',l4',show ¬(20:Int)<p.groups.length by omega];refine qFW (fun q env U=>∃i,i<=p.hard.length/\q=p.hard.length-i/\env 1=.ptr 0 0/\env 3=.int .i64 i/\U=⟨[.cells (qu p)],[]⟩/\∀a∈p.hard.take i,jr a 0=true) p.hard.length ⟨0,by simp⟩ ?_;rintro q env U ⟨i,hi,rfl,h1,h3,rfl,hall⟩
 cases hv:p.hard[i]? with
 | some a=>
  obtain⟨hc,hv'⟩:=qBa.1 hv;have hm:=qBb hv;simp[h1,h3,hc,hv',qc a];rw[<- qc a];refine qFJ (qlL a (hw a (qB1 _ hm)) 0 (by omega)) (by simp) ?_;cases ha:jr a 0
  . have x:jY p=false:=(by rw[hS,qg3 (p:=(jr · 0)) hm ha];simp);rw[x];simp
  simp[h1,h3];exact⟨_,by omega,i+1,by omega,rfl,wr (by omega) (by omega),jS hv hall ha⟩
 | none=>
  have hc:¬i<p.hard.length:=by simp at hv;omega
  have ht:p.hard.take i=p.hard:=qBh (by omega);rw[ht]at hall;have hA:p.hard.all (jr · 0)=true:=qBk.2 hall;simp[h1,h3,hc];refine qFW (fun q env U=>∃i,i<=p.soft.length/\q=p.soft.length-i/\env 1=.ptr 0 0/\env 4=.int .i64 i/\U=⟨[.cells (qu p)],[]⟩/\∀a∈p.soft.take i,jr a 0=true) p.soft.length ⟨0,by simp[h1]⟩ ?_;rintro q env U ⟨i,hi,rfl,h1,h3,rfl,hall⟩
  cases hv:p.soft[i]? with
  | some a=>
   obtain⟨hc,hv'⟩:=qBa.1 hv;have hm:=qBb hv;simp[h1,h3,hc,hv',qc a];rw[<- qc a];refine qFJ (qlL a (hw a (qCE _ hm)) 0 (by omega)) (by simp) ?_;cases ha:jr a 0
   . have x:jY p=false:=(by rw[hS,qg3 (p:=(jr · 0)) hm ha];simp);rw[x];simp
   simp[h1,h3];exact⟨_,by omega,i+1,by omega,rfl,wr (by omega) (by omega),jS hv hall ha⟩
  | none=>
   have hc:¬i<p.soft.length:=(by simp at hv;omega);have ht:p.soft.take i=p.soft:=qBh (by omega);rw[ht]at hall;have hB:p.soft.all (jr · 0)=true:=qBk.2 hall;simp[h1,h3,hc];refine qFW (fun q env U=>∃i,i<=p.dists.length/\q=p.dists.length-i/\env 1=.ptr 0 0/\env 5=.int .i64 i/\U=⟨[.cells (qu p)],[]⟩/\∀a∈p.dists.take i,a.weights.length<=20) p.dists.length ⟨0,by simp[h1]⟩ ?_;rintro q env U ⟨i,hi,rfl,h1,h3,rfl,hall⟩
   cases hv:p.dists[i]? with
   | some a=>
    obtain⟨hc,hv'⟩:=qBa.1 hv;have hm:=qBb hv;by_cases hlw:a.weights.length<=20
    . have hlw':¬(20:Int)<a.weights.length:=(by omega);simp[h1,h3,hc,hv',hlw'];exact⟨_,by omega,i+1,by omega,rfl,wr (by omega) (by omega),jS (p:=fun a:Dist=>a.weights.length<=20) hv hall hlw⟩
    have hlw':(20:Int)<a.weights.length:=(by omega);have x:jY p=false:=(by rw[hS,qg3 (p:=fun d:Dist=>decide (d.weights.length<=20)) hm (by simpa using hlw)];simp);rw[x];simp[h1,h3,hc,hv',hlw']
   | none=>
    have hc:¬i<p.dists.length:=(by simp at hv;omega);have ht:p.dists.take i=p.dists:=qBh (by omega);rw[ht]at hall;have hC:p.dists.all (fun d=>decide (d.weights.length<=20))=true:=qBk.2 fun d hd=>decide_eq_true (hall d hd)
    simp[h1,h3,hc];refine qFW (fun q env U=>∃i,i<=p.groups.length/\q=p.groups.length-i/\env 1=.ptr 0 0/\env 6=.int .i64 i/\U=⟨[.cells (qu p)],[]⟩/\∀a∈p.groups.take i,a.length<=20) p.groups.length ⟨0,by simp[h1]⟩ ?_;rintro q env U ⟨i,hi,rfl,h1,h3,rfl,hall⟩
    cases hv:p.groups[i]? with
    | some a=>
     obtain⟨hc,hv'⟩:=qBa.1 hv;have hm:=qBb hv;by_cases hlw:a.length<=20
     . have hlw':¬(20:Int)<a.length:=(by omega);simp[h1,h3,hc,hv',hlw'];exact⟨_,by omega,i+1,by omega,rfl,wr (by omega) (by omega),jS (p:=fun a:List Int=>a.length<=20) hv hall hlw⟩
     have hlw':(20:Int)<a.length:=(by omega);have x:jY p=false:=(by rw[hS,qg3 (p:=fun d:List Int=>decide (d.length<=20)) hm (by simpa using hlw)];simp);rw[x];simp[h1,h3,hc,hv',hlw']
    | none=>
     have hc:¬i<p.groups.length:=(by simp at hv;omega);have ht:p.groups.take i=p.groups:=qBh (by omega);rw[ht]at hall;have hD:p.groups.all (fun g=>decide (g.length<=20))=true:=qBk.2 fun g hg=>decide_eq_true (hall g hg)
     have x:jY p=true:=(by rw[hS,hA,hB,hC,hD];rfl);rw[x];simp[h1,h3,hc]
def qnS:∀(e) (d),d+hgt e<=30->(1<=yT e d/\((pre e).length<=100->((pre e).length:Int)<=yT e d)/\(100<=(pre e).length->100<=yT e d))/\yT e d<=100*hgt e:=by
 refine qFX fun e ih d hd=>?_
 rw[wH]at hd⊢;have gen:∀(l:List Ex) (n:Int),(∀a∈l,a∈e.args)->1<=n->n<=100*(Jv e.args+1:Nat) ->
  (1<=wE l d n/\n<=wE l d n/\(n+(wD l).length<=100->n+(wD l).length<=wE l d n)/\(100<=n+(wD l).length->100<=wE l d n))/\wE l d n<=100*(Jv e.args+1:Nat):=by
  intro l
  induction l with
  |nil=>intro n _ h1 h2;simp;omega
  | cons a r ihr=>
   intro n hsub h1 h2;have ham:=hsub a (by simp);have hga:=qgC ham;have hga1:1<=hgt a:=(by rw[wH];omega);rw[KX];by_cases c1:n<100
   . have c2:(d:Int)<30:=(by omega);rw[if_pos ⟨c1,c2⟩];rw[show IntKind.i64.wrap ((d:Int)+1)=((d+1:Nat):Int) by rw[wr (by omega) (by omega)];omega];have k:=ih a ham (d+1) (by omega);rw[show IntKind.i64.wrap (n+yT a ((d+1:Nat):Int))=n+yT a ((d+1:Nat):Int) from wr (by omega) (by omega)];have kr:=ihr (n+yT a ((d+1:Nat):Int)) (fun x hx=>hsub x (by simp[hx])) (by omega) (by omega);simp only[yJ,qBe];obtain⟨⟨k1,k2,k3⟩,k4⟩:=k;obtain⟨⟨r1,r2,r3,r4⟩,r5⟩:=kr;refine⟨⟨r1,by omega,fun h=>?_,fun h=>?_⟩,r5⟩
     . have a1:=k2 (by omega);by_cases hb:n+yT a ((d+1:Nat):Int)+(wD r).length<=100
       . have:=r3 hb;omega
       have:=r4 (by omega);omega
     by_cases ha:(pre a).length<=100
     . have a1:=k2 ha;exact r4 (by omega)
     have a1:=k3 (by omega);exact r4 (by omega)
   rw[if_neg (fun h=>c1 h.1)];refine⟨⟨h1,qEA _,fun h=>?_,fun _=>by omega⟩,h2⟩;simp only[yJ,qBe]at h⊢;omega
 have g:=gen e.args 1 (fun _ h=>h) (by omega) (by omega);rw[<- qcI]at g;rw[show(pre e).length=(wD e.args).length+1 by rw[jF,qBr]];refine⟨⟨g.1.1,fun h=>?_,fun h=>?_⟩,g.2⟩
 . have:=g.1.2.2.1 (by omega);omega
 exact g.1.2.2.2 (by omega)
def qlK{e}(h:jr e 0=true):(pre e).length<=60:=by
 have hh:=qdy e 0 h;rw[WK]at h;split at h
 . cases h
 rename_i hn;have h60:¬60<yT e 0:=fun h=>hn (.inr ⟨rfl,h⟩)
 have k:=qnS e 0 (by omega);obtain⟨⟨_,k2,k3⟩,_⟩:=k;apply Classical.byContradiction;intro hgt60;by_cases h100:(pre e).length<=100
 . have:=k2 h100;simp only[qCy]at this h60;omega
 have:=k3 (by omega);simp only[qCy]at this h60;omega
