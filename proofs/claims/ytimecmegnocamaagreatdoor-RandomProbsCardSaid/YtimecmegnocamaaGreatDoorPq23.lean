import Derived.Test.YtimecmegnocamaaGreatDoorPq10
set_option maxRecDepth 100000
set_option maxHeartbeats 16000000
set_option linter.all false
set_option linter.defProp false
namespace Go.Proofs.YtimecmegnocamaaGreatDoor
open Go Go.Abs Tryz
def jN{α:Type}{p:α->Prop}{l:List α}{i:Nat}{v:α}(h:l[i]?=some v)(hz:∀a∈l.take i,p a)(hv:p v):∀a∈l.take (i+1),p a:=by
 intro a ha;rw[qBi,h]at ha;rcases qBb.1 ha with ha|ha
 . exact hz a ha
 simp at ha;rwa[ha]
def qrU:∀(e:Ex),Wen e->∀(d:Nat),d<=30->Pure prog GG 58 [.agg (qt e),.int .i64 d] (.int .i64 (yU e d)):=by
 refine qFN fun e ih hwe d hd=>?_
 refine qFP qg func58 rfl (by kernel_rfl) ?_;have hl:=hwe.fits;simp only[qc e];simp;refine qFM (fun q env U=>∃i n,i<=e.args.length/\q=e.args.length-i/\env 1=.int .i64 d/\env 2=.ptr 0 0/\env 5=.int .i64 n/\env 6=.int .i64 i/\U=⟨[.cells (qt e)],[]⟩/\yU e d=wz (e.args.drop i) d n) e.args.length ⟨0,1,by simp,by simp,by simp,by simp,by simp,by simp,by rw[qc e],by rw[qcw];simp⟩ ?_;rintro q env U ⟨i,n,hi,rfl,h1,h2,h5,h6,rfl,hn⟩
 cases hv:e.args[i]? with
 | none=>
  have hc:¬i<e.args.length:=by simp at hv;omega
  rw[show e.args.drop i=[] by simp;omega,qhQ]at hn;rw[hn];simp[h2,h5,h6,qc e,hc]
 | some a=>
  obtain⟨hc,hv'⟩:=qAU.1 hv;have hm:=qAV hv;rw[zf hv,KH]at hn;by_cases c1:n<100
  . by_cases c2:(d:Int)<30
    . have c2':d<30:=(by omega);rw[if_pos ⟨c1,c2⟩]at hn;have hw:IntKind.i64.wrap ((d:Int)+1)=((d+1:Nat):Int):=(by rw[wr (by omega) (by omega)];omega);simp[h1,h2,h5,h6,qc e,hc,c1,c2,hv',qc a,hw];rw[<- qc a];refine qFz (ih a hm (hwe.arg hm) (d+1) (by omega)) (by simp) ?_;rw[hw]at hn;simp[h6];exact⟨_,by omega,i+1,by omega,rfl,wr (by omega) (by omega),by simpa using hn⟩
    . have c2':¬d<30:=(by omega);rw[if_neg (fun h=>c2 h.2)]at hn;rw[hn];simp[h1,h2,h5,h6,qc e,hc,c1,c2]
  rw[if_neg (fun h=>c1 h.1)]at hn;rw[hn];simp[h1,h2,h5,h6,qc e,hc,c1]
def qlI:∀(e:Ex),Wen e->∀(d:Nat),d<=26->Pure prog GG 29 [.agg (qt e),.int .i64 d] (.bool (jq e d)):=by
 refine qFN fun e ih hwe d hd=>?_
 refine qFP qg func29 rfl (by kernel_rfl) ?_;have hl:=hwe.fits;have hB:=WA e d;by_cases c1:25<d
 . have c1':(25:Int)<d:=(by omega);rw[hB,if_pos (.inl c1)];simp only[qc e];simp[c1']
 have c1':¬(25:Int)<d:=by omega
 by_cases c2:d=0
 . subst c2;simp only[qc e];simp;rw[<- qc e];refine qFz (qrU e hwe 0 (by omega)) (by simp) ?_;by_cases c3:60<yU e 0
   . rw[hB,if_pos (.inr ⟨rfl,c3⟩)];simp[c3]
   rw[if_neg (fun h=>by rcases h with h|h;omega;exact c3 h.2)]at hB;simp[c3];rw[hB,JN];refine qFM (fun q env U=>∃i,i<=e.args.length/\q=e.args.length-i/\env 1=.int .i64 0/\env 2=.ptr 0 0/\env 5=.int .i64 i/\U=⟨[.cells (qt e)],[]⟩/\∀a∈e.args.take i,jq a 1=true) e.args.length ⟨0,by simp⟩ ?_;rintro q env U ⟨i,hi,rfl,h1,h2,h5,rfl,hall⟩
   cases hv:e.args[i]? with
   | none=>
    have hc:¬i<e.args.length:=(by simp at hv;omega);have ht:e.args.take i=e.args:=qAZ (by omega);rw[ht]at hall;rw[qA3.2 hall];simp[h2,h5,qc e,hc]
   | some a=>
    obtain⟨hc,hv'⟩:=qAU.1 hv;have hm:=qAV hv;simp[h1,h2,h5,qc e,hc,hv',qc a,show IntKind.i64.wrap 1=1 by decide];rw[<- qc a];refine qFz (ih a hm (hwe.arg hm) 1 (by omega)) (by simp) ?_;cases ha:jq a 1
    . have:(e.args.all fun x=>jq x 1)=false:=by
       rw[qCe];intro h;rw[qA3.1 h a hm]at ha;cases ha
      simp[this]
    simp[h1,h2,h5];exact⟨_,by omega,i+1,by omega,rfl,wr (by omega) (by omega),jN hv hall ha⟩
 have c2':¬(d:Int)=0:=by omega
 rw[if_neg (fun h=>by rcases h with h|h;omega;exact c2 h.1)]at hB;simp only[qc e];simp[c1',c2];rw[hB,JN];refine qFM (fun q env U=>∃i,i<=e.args.length/\q=e.args.length-i/\env 1=.int .i64 d/\env 2=.ptr 0 0/\env 5=.int .i64 i/\U=⟨[.cells (qt e)],[]⟩/\∀a∈e.args.take i,jq a (d+1)=true) e.args.length ⟨0,by simp,by simp,by simp,by simp,by simp,by rw[qc e],by simp⟩ ?_;rintro q env U ⟨i,hi,rfl,h1,h2,h5,rfl,hall⟩
 cases hv:e.args[i]? with
 | none=>
  have hc:¬i<e.args.length:=by simp at hv;omega
  rw[show e.args.take i=e.args from qAZ (by omega)]at hall;rw[qA3.2 hall];simp[h2,h5,qc e,hc]
 | some a=>
  obtain⟨hc,hv'⟩:=qAU.1 hv;have hm:=qAV hv;simp[h1,h2,h5,qc e,hc,hv',qc a,show IntKind.i64.wrap ((d:Int)+1)=((d+1:Nat):Int) by rw[wr (by omega) (by omega)];omega];rw[<- qc a];refine qFz (ih a hm (hwe.arg hm) (d+1) (by omega)) (by simp) ?_;cases ha:jq a (d+1)
  . have:(e.args.all fun x=>jq x (d+1))=false:=by
     rw[qCe];intro h;rw[qA3.1 h a hm]at ha;cases ha
    simp[this]
  simp[h1,h2,h5];exact⟨_,by omega,i+1,by omega,rfl,wr (by omega) (by omega),jN hv hall ha⟩
def qgQ{α:Type}{p:α->Bool}{l:List α}{a:α}(h:a∈l)(hp:p a=false):l.all p=false:=by
 rw[qCe];intro e;rw[qA3.1 e a h]at hp;cases hp
def qq8(p)(hw:∀e∈p.hard++p.soft,Wen e):Pure prog GG 9 [.agg (qA p)] (.bool (jU p)):=by
 refine qFP qg func9 rfl (by kernel_rfl) ?_;by_cases l1:20<p.vars.length
 . have x:jU p=false:=(by simp[jU,l1]);have l1':(20:Int)<p.vars.length:=(by omega);rw[x];simp[l1']
 have l1':¬(20:Int)<p.vars.length:=by omega
 by_cases l2:20<p.hard.length
 . have x:jU p=false:=(by simp[jU,l2]);have l2':(20:Int)<p.hard.length:=(by omega);rw[x];simp[*]
 have l2':¬(20:Int)<p.hard.length:=by omega
 by_cases l3:20<p.soft.length
 . have x:jU p=false:=(by simp[jU,l3]);have l3':(20:Int)<p.soft.length:=(by omega);rw[x];simp[*]
 have l3':¬(20:Int)<p.soft.length:=by omega
 by_cases l4:20<p.dists.length
 . have x:jU p=false:=(by simp[jU,l4]);have l4':(20:Int)<p.dists.length:=(by omega);rw[x];simp[*]
 have l4':¬(20:Int)<p.dists.length:=by omega
 by_cases l5:20<p.groups.length
 . have x:jU p=false:=(by simp[jU,l5]);have l5':(20:Int)<p.groups.length:=(by omega);rw[x];simp[*]
 have hS:jU p=(p.hard.all (jq · 0)&&p.soft.all (jq · 0)&&p.dists.all (fun d=>decide (d.weights.length<=20))&&p.groups.all (fun g=>decide (g.length<=20))):=by
  simp only[jU,l1,l2,l3,l4,l5,decide_false,Bool.or_false,qE6,qB7]
 simp[l1',l2',l3',l4',show ¬(20:Int)<p.groups.length by omega];refine qFM (fun q env U=>∃i,i<=p.hard.length/\q=p.hard.length-i/\env 1=.ptr 0 0/\env 3=.int .i64 i/\U=⟨[.cells (qA p)],[]⟩/\∀a∈p.hard.take i,jq a 0=true) p.hard.length ⟨0,by simp⟩ ?_;rintro q env U ⟨i,hi,rfl,h1,h3,rfl,hall⟩
 cases hv:p.hard[i]? with
 | some a=>
  obtain⟨hc,hv'⟩:=qAU.1 hv;have hm:=qAV hv;simp[h1,h3,hc,hv',qc a];rw[<- qc a];refine qFz (qlI a (hw a (qBJ _ hm)) 0 (by omega)) (by simp) ?_;cases ha:jq a 0
  . have x:jU p=false:=(by rw[hS,qgQ (p:=(jq · 0)) hm ha];simp);rw[x];simp
  simp[*];exact⟨_,by omega,i+1,by omega,rfl,wr (by omega) (by omega),jN hv hall ha⟩
 | none=>
  have hc:¬i<p.hard.length:=by simp at hv;omega
  have ht:p.hard.take i=p.hard:=qAZ (by omega);rw[ht]at hall;have hA:p.hard.all (jq · 0)=true:=qA3.2 hall;simp[h1,h3,hc];refine qFM (fun q env U=>∃i,i<=p.soft.length/\q=p.soft.length-i/\env 1=.ptr 0 0/\env 4=.int .i64 i/\U=⟨[.cells (qA p)],[]⟩/\∀a∈p.soft.take i,jq a 0=true) p.soft.length ⟨0,by simp[h1]⟩ ?_;rintro q env U ⟨i,hi,rfl,h1,h3,rfl,hall⟩
  cases hv:p.soft[i]? with
  | some a=>
   obtain⟨hc,hv'⟩:=qAU.1 hv;have hm:=qAV hv;simp[h1,h3,hc,hv',qc a];rw[<- qc a];refine qFz (qlI a (hw a (qCl _ hm)) 0 (by omega)) (by simp) ?_;cases ha:jq a 0
   . have x:jU p=false:=(by rw[hS,qgQ (p:=(jq · 0)) hm ha];simp);rw[x];simp
   simp[*];exact⟨_,by omega,i+1,by omega,rfl,wr (by omega) (by omega),jN hv hall ha⟩
  | none=>
   have hc:¬i<p.soft.length:=(by simp at hv;omega);have ht:p.soft.take i=p.soft:=qAZ (by omega);rw[ht]at hall;have hB:p.soft.all (jq · 0)=true:=qA3.2 hall;simp[h1,h3,hc];refine qFM (fun q env U=>∃i,i<=p.dists.length/\q=p.dists.length-i/\env 1=.ptr 0 0/\env 5=.int .i64 i/\U=⟨[.cells (qA p)],[]⟩/\∀a∈p.dists.take i,a.weights.length<=20) p.dists.length ⟨0,by simp[h1]⟩ ?_;rintro q env U ⟨i,hi,rfl,h1,h3,rfl,hall⟩
   cases hv:p.dists[i]? with
   | some a=>
    obtain⟨hc,hv'⟩:=qAU.1 hv;have hm:=qAV hv;by_cases hlw:a.weights.length<=20
    . have hlw':¬(20:Int)<a.weights.length:=(by omega);simp[h1,h3,hc,hv',hlw'];exact⟨_,by omega,i+1,by omega,rfl,wr (by omega) (by omega),jN (p:=fun a:Dist=>a.weights.length<=20) hv hall hlw⟩
    have hlw':(20:Int)<a.weights.length:=(by omega);have x:jU p=false:=(by rw[hS,qgQ (p:=fun d:Dist=>decide (d.weights.length<=20)) hm (by simpa using hlw)];simp);rw[x];simp[h1,h3,hc,hv',hlw']
   | none=>
    have hc:¬i<p.dists.length:=(by simp at hv;omega);have ht:p.dists.take i=p.dists:=qAZ (by omega);rw[ht]at hall;have hC:p.dists.all (fun d=>decide (d.weights.length<=20))=true:=qA3.2 fun d hd=>decide_eq_true (hall d hd)
    simp[h1,h3,hc];refine qFM (fun q env U=>∃i,i<=p.groups.length/\q=p.groups.length-i/\env 1=.ptr 0 0/\env 6=.int .i64 i/\U=⟨[.cells (qA p)],[]⟩/\∀a∈p.groups.take i,a.length<=20) p.groups.length ⟨0,by simp[h1]⟩ ?_;rintro q env U ⟨i,hi,rfl,h1,h3,rfl,hall⟩
    cases hv:p.groups[i]? with
    | some a=>
     obtain⟨hc,hv'⟩:=qAU.1 hv;have hm:=qAV hv;by_cases hlw:a.length<=20
     . have hlw':¬(20:Int)<a.length:=(by omega);simp[h1,h3,hc,hv',hlw'];exact⟨_,by omega,i+1,by omega,rfl,wr (by omega) (by omega),jN (p:=fun a:List Int=>a.length<=20) hv hall hlw⟩
     have hlw':(20:Int)<a.length:=(by omega);have x:jU p=false:=(by rw[hS,qgQ (p:=fun d:List Int=>decide (d.length<=20)) hm (by simpa using hlw)];simp);rw[x];simp[h1,h3,hc,hv',hlw']
    | none=>
     have hc:¬i<p.groups.length:=(by simp at hv;omega);have ht:p.groups.take i=p.groups:=qAZ (by omega);rw[ht]at hall;have hD:p.groups.all (fun g=>decide (g.length<=20))=true:=qA3.2 fun g hg=>decide_eq_true (hall g hg)
     have x:jU p=true:=(by rw[hS,hA,hB,hC,hD];rfl);rw[x];simp[*]
def qnM:∀(e) (d),d+hgt e<=30->(1<=yU e d/\((pre e).length<=100->((pre e).length:Int)<=yU e d)/\(100<=(pre e).length->100<=yU e d))/\yU e d<=100*hgt e:=by
 refine qFN fun e ih d hd=>?_
 rw[wC]at hd⊢;have gen:∀(l:List Ex) (n:Int),(∀a∈l,a∈e.args)->1<=n->n<=100*(Jh e.args+1:Nat) ->
  (1<=wz l d n/\n<=wz l d n/\(n+(wv l).length<=100->n+(wv l).length<=wz l d n)/\(100<=n+(wv l).length->100<=wz l d n))/\wz l d n<=100*(Jh e.args+1:Nat):=by
  intro l
  induction l with
  |nil=>intro n _ h1 h2;simp;omega
  | cons a r ihr=>
   intro n hsub h1 h2;have ham:=hsub a (by simp);have hga:=qgq ham;have hga1:1<=hgt a:=(by rw[wC];omega);rw[KH];by_cases c1:n<100
   . have c2:(d:Int)<30:=(by omega);rw[if_pos ⟨c1,c2⟩];rw[show IntKind.i64.wrap ((d:Int)+1)=((d+1:Nat):Int) by rw[wr (by omega) (by omega)];omega];have k:=ih a ham (d+1) (by omega);rw[show IntKind.i64.wrap (n+yU a ((d+1:Nat):Int))=n+yU a ((d+1:Nat):Int) from wr (by omega) (by omega)];have kr:=ihr (n+yU a ((d+1:Nat):Int)) (fun x hx=>hsub x (by simp[hx])) (by omega) (by omega);simp only[kh,qAY];obtain⟨⟨k1,k2,k3⟩,k4⟩:=k;obtain⟨⟨r1,r2,r3,r4⟩,r5⟩:=kr;refine⟨⟨r1,by omega,fun h=>?_,fun h=>?_⟩,r5⟩
     . have a1:=k2 (by omega);by_cases hb:n+yU a ((d+1:Nat):Int)+(wv r).length<=100
       . have:=r3 hb;omega
       have:=r4 (by omega);omega
     by_cases ha:(pre a).length<=100
     . have a1:=k2 ha;exact r4 (by omega)
     have a1:=k3 (by omega);exact r4 (by omega)
   rw[if_neg (fun h=>c1 h.1)];refine⟨⟨h1,qEr _,fun h=>?_,fun _=>by omega⟩,h2⟩;simp at h⊢;omega
 have g:=gen e.args 1 (fun _ h=>h) (by omega) (by omega);rw[<- qcw]at g;rw[show(pre e).length=(wv e.args).length+1 by rw[jC,qBc]];refine⟨⟨g.1.1,fun h=>?_,fun h=>?_⟩,g.2⟩
 . have:=g.1.2.2.1 (by omega);omega
 exact g.1.2.2.2 (by omega)
def qlH{e}(h:jq e 0=true):(pre e).length<=60:=by
 have hh:=qdq e 0 h;rw[WA]at h;split at h
 . cases h
 rename_i hn;have h60:¬60<yU e 0:=fun h=>hn (.inr ⟨rfl,h⟩)
 have k:=qnM e 0 (by omega);obtain⟨⟨_,k2,k3⟩,_⟩:=k;apply Classical.byContradiction;intro hgt60;by_cases h100:(pre e).length<=100
 . have:=k2 h100;simp at this h60;omega
 have:=k3 (by omega);simp at this h60;omega
