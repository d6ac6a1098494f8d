import Derived.Test.YtfmdnopgncbmoaaGreatDoorPs08
set_option maxRecDepth 100000
set_option maxHeartbeats 16000000
set_option linter.all false
set_option linter.defProp false
namespace Go.Proofs.YtfmdnopgncbmoaaGreatDoor
open Go Go.Abs Tryz
def jx{α:Type}{p:α->Prop}{l:List α}{i:Nat}{v:α}(h:l[i]?=some v)(hz:∀a∈l.take i,p a)(hv:p v):∀a∈l.take (i+1),p a:=by
 intro a ha;rw[qzb,h]at ha;rcases qy0.1 ha with ha|ha
 . exact hz a ha
 simp at ha;rwa[ha]
def qpE:∀(e:Ex),Wen e->∀(d:Nat),d<=30->Pure prog GG 112 [.agg (qt e),.int .i64 d] (.int .i64 (yh e d)):=by
 refine qDa fun e ih hwe d hd=>?_
 refine qDb qe func112 rfl (by kernel_rfl) ?_;have hl:=hwe.fits;simp only[qd e];simp;refine qC9 (fun q env U=>∃i n,i<=e.args.length/\q=e.args.length-i/\env 1=.int .i64 d/\env 2=.ptr 0 0/\env 5=.int .i64 n/\env 6=.int .i64 i/\U=⟨[.cells (qt e)],[]⟩/\yh e d=kN (e.args.drop i) d n) e.args.length ⟨0,1,by simp,by simp,by simp,by simp,by simp,by simp,by rw[qd e],by rw[qa9];simp⟩ ?_;rintro q env U ⟨i,n,hi,rfl,h1,h2,h5,h6,rfl,hn⟩
 cases hv:e.args[i]? with
 | none=>
  have hc:¬i<e.args.length:=by simp at hv;omega
  rw[show e.args.drop i=[] by simp;omega,qfQ]at hn;rw[hn];simp[h2,h5,h6,qd e,hc]
 | some a=>
  obtain⟨hc,hv'⟩:=qyF.1 hv;have hm:=qyG hv;rw[zA hv,YD]at hn;by_cases c1:n<100
  . by_cases c2:(d:Int)<30
    . have c2':d<30:=(by omega);rw[if_pos ⟨c1,c2⟩]at hn;have hw:IntKind.i64.wrap ((d:Int)+1)=((d+1:Nat):Int):=(by rw[wr (by omega) (by omega)];omega);simp[h1,h2,h5,h6,qd e,hc,c1,c2,hv',qd a,hw];rw[<- qd a];refine qCW (ih a hm (hwe.arg hm) (d+1) (by omega)) (by simp) ?_;rw[hw]at hn;simp[h6];exact⟨_,by omega,i+1,by omega,rfl,wr (by omega) (by omega),by simpa using hn⟩
    . have c2':¬d<30:=(by omega);rw[if_neg (fun h=>c2 h.2)]at hn;rw[hn];simp[h1,h2,h5,h6,qd e,hc,c1,c2]
  rw[if_neg (fun h=>c1 h.1)]at hn;rw[hn];simp[h1,h2,h5,h6,qd e,hc,c1]
def qjB:∀(e:Ex),Wen e->∀(d:Nat),d<=26->Pure prog GG 66 [.agg (qt e),.int .i64 d] (.bool (je e d)):=by
 refine qDa fun e ih hwe d hd=>?_
 refine qDb qe func66 rfl (by kernel_rfl) ?_;have hl:=hwe.fits;have hB:=Ki e d;by_cases c1:25<d
 . have c1':(25:Int)<d:=(by omega);rw[hB,if_pos (.inl c1)];simp only[qd e];simp[c1']
 have c1':¬(25:Int)<d:=by omega
 by_cases c2:d=0
 . subst c2;simp only[qd e];simp;rw[<- qd e];refine qCW (qpE e hwe 0 (by omega)) (by simp) ?_;by_cases c3:60<yh e 0
   . rw[hB,if_pos (.inr ⟨rfl,c3⟩)];simp[c3]
   rw[if_neg (fun h=>by rcases h with h|h;omega;exact c3 h.2)]at hB;simp[c3];rw[hB,ZZ];refine qC9 (fun q env U=>∃i,i<=e.args.length/\q=e.args.length-i/\env 1=.int .i64 0/\env 2=.ptr 0 0/\env 5=.int .i64 i/\U=⟨[.cells (qt e)],[]⟩/\∀a∈e.args.take i,je a 1=true) e.args.length ⟨0,by simp⟩ ?_;rintro q env U ⟨i,hi,rfl,h1,h2,h5,rfl,hall⟩
   cases hv:e.args[i]? with
   | none=>
    have hc:¬i<e.args.length:=(by simp at hv;omega);have ht:e.args.take i=e.args:=qyN (by omega);rw[ht]at hall;rw[qyP.2 hall];simp[h2,h5,qd e,hc]
   | some a=>
    obtain⟨hc,hv'⟩:=qyF.1 hv;have hm:=qyG hv;simp[h1,h2,h5,qd e,hc,hv',qd a,show IntKind.i64.wrap 1=1 by decide];rw[<- qd a];refine qCW (ih a hm (hwe.arg hm) 1 (by omega)) (by simp) ?_;cases ha:je a 1
    . have:(e.args.all fun x=>je x 1)=false:=by
       rw[qzT];intro h;rw[qyP.1 h a hm]at ha;cases ha
      simp[this]
    simp[h1,h2,h5];exact⟨_,by omega,i+1,by omega,rfl,wr (by omega) (by omega),jx hv hall ha⟩
 have c2':¬(d:Int)=0:=by omega
 rw[if_neg (fun h=>by rcases h with h|h;omega;exact c2 h.1)]at hB;simp only[qd e];simp[c1',c2];rw[hB,ZZ];refine qC9 (fun q env U=>∃i,i<=e.args.length/\q=e.args.length-i/\env 1=.int .i64 d/\env 2=.ptr 0 0/\env 5=.int .i64 i/\U=⟨[.cells (qt e)],[]⟩/\∀a∈e.args.take i,je a (d+1)=true) e.args.length ⟨0,by simp,by simp,by simp,by simp,by simp,by rw[qd e],by simp⟩ ?_;rintro q env U ⟨i,hi,rfl,h1,h2,h5,rfl,hall⟩
 cases hv:e.args[i]? with
 | none=>
  have hc:¬i<e.args.length:=by simp at hv;omega
  rw[show e.args.take i=e.args from qyN (by omega)]at hall;rw[qyP.2 hall];simp[h2,h5,qd e,hc]
 | some a=>
  obtain⟨hc,hv'⟩:=qyF.1 hv;have hm:=qyG hv;simp[h1,h2,h5,qd e,hc,hv',qd a,show IntKind.i64.wrap ((d:Int)+1)=((d+1:Nat):Int) by rw[wr (by omega) (by omega)];omega];rw[<- qd a];refine qCW (ih a hm (hwe.arg hm) (d+1) (by omega)) (by simp) ?_;cases ha:je a (d+1)
  . have:(e.args.all fun x=>je x (d+1))=false:=by
     rw[qzT];intro h;rw[qyP.1 h a hm]at ha;cases ha
    simp[this]
  simp[h1,h2,h5];exact⟨_,by omega,i+1,by omega,rfl,wr (by omega) (by omega),jx hv hall ha⟩
def qeY{α:Type}{p:α->Bool}{l:List α}{a:α}(h:a∈l)(hp:p a=false):l.all p=false:=by
 rw[qzT];intro e;rw[qyP.1 e a h]at hp;cases hp
def qo2(p)(hw:∀e∈p.hard++p.soft,Wen e):Pure prog GG 31 [.agg (qA p)] (.bool (jA p)):=by
 refine qDb qe func31 rfl (by kernel_rfl) ?_;by_cases l1:20<p.vars.length
 . have x:jA p=false:=(by simp[jA,l1]);have l1':(20:Int)<p.vars.length:=(by omega);rw[x];simp[l1']
 have l1':¬(20:Int)<p.vars.length:=by omega
 by_cases l2:20<p.hard.length
 . have x:jA p=false:=(by simp[jA,l2]);have l2':(20:Int)<p.hard.length:=(by omega);rw[x];simp[l1',l2']
 have l2':¬(20:Int)<p.hard.length:=by omega
 by_cases l3:20<p.soft.length
 . have x:jA p=false:=(by simp[jA,l3]);have l3':(20:Int)<p.soft.length:=(by omega);rw[x];simp[l1',l2',l3']
 have l3':¬(20:Int)<p.soft.length:=by omega
 by_cases l4:20<p.dists.length
 . have x:jA p=false:=(by simp[jA,l4]);have l4':(20:Int)<p.dists.length:=(by omega);rw[x];simp[l1',l2',l3',l4']
 have l4':¬(20:Int)<p.dists.length:=by omega
 by_cases l5:20<p.groups.length
 . have x:jA p=false:=(by simp[jA,l5]);have l5':(20:Int)<p.groups.length:=(by omega);rw[x];simp[l1',l2',l3',l4',l5']
 have hS:jA p=(p.hard.all (je · 0)&&p.soft.all (je · 0)&&p.dists.all (fun d=>decide (d.weights.length<=20))&&p.groups.all (fun g=>decide (g.length<=20))):=by
  simp only[jA,l1,l2,l3,l4,l5,decide_false,Bool.or_false,qBW,qzN]
 simp[l1',l2',l3',l4',show ¬(20:Int)<p.groups.length by omega];refine qC9 (fun q env U=>∃i,i<=p.hard.length/\q=p.hard.length-i/\env 1=.ptr 0 0/\env 3=.int .i64 i/\U=⟨[.cells (qA p)],[]⟩/\∀a∈p.hard.take i,je a 0=true) p.hard.length ⟨0,by simp⟩ ?_;rintro q env U ⟨i,hi,rfl,h1,h3,rfl,hall⟩
 cases hv:p.hard[i]? with
 | some a=>
  obtain⟨hc,hv'⟩:=qyF.1 hv;have hm:=qyG hv;simp[h1,h3,hc,hv',qd a];rw[<- qd a];refine qCW (qjB a (hw a (qzM _ hm)) 0 (by omega)) (by simp) ?_;cases ha:je a 0
  . have x:jA p=false:=(by rw[hS,qeY (p:=(je · 0)) hm ha];simp);rw[x];simp
  simp[h1,h3];exact⟨_,by omega,i+1,by omega,rfl,wr (by omega) (by omega),jx hv hall ha⟩
 | none=>
  have hc:¬i<p.hard.length:=by simp at hv;omega
  have ht:p.hard.take i=p.hard:=qyN (by omega);rw[ht]at hall;have hA:p.hard.all (je · 0)=true:=qyP.2 hall;simp[h1,h3,hc];refine qC9 (fun q env U=>∃i,i<=p.soft.length/\q=p.soft.length-i/\env 1=.ptr 0 0/\env 4=.int .i64 i/\U=⟨[.cells (qA p)],[]⟩/\∀a∈p.soft.take i,je a 0=true) p.soft.length ⟨0,by simp[h1]⟩ ?_;rintro q env U ⟨i,hi,rfl,h1,h3,rfl,hall⟩
  cases hv:p.soft[i]? with
  | some a=>
   obtain⟨hc,hv'⟩:=qyF.1 hv;have hm:=qyG hv;simp[h1,h3,hc,hv',qd a];rw[<- qd a];refine qCW (qjB a (hw a (qAs _ hm)) 0 (by omega)) (by simp) ?_;cases ha:je a 0
   . have x:jA p=false:=(by rw[hS,qeY (p:=(je · 0)) hm ha];simp);rw[x];simp
   simp[h1,h3];exact⟨_,by omega,i+1,by omega,rfl,wr (by omega) (by omega),jx hv hall ha⟩
  | none=>
   have hc:¬i<p.soft.length:=(by simp at hv;omega);have ht:p.soft.take i=p.soft:=qyN (by omega);rw[ht]at hall;have hB:p.soft.all (je · 0)=true:=qyP.2 hall;simp[h1,h3,hc];refine qC9 (fun q env U=>∃i,i<=p.dists.length/\q=p.dists.length-i/\env 1=.ptr 0 0/\env 5=.int .i64 i/\U=⟨[.cells (qA p)],[]⟩/\∀a∈p.dists.take i,a.weights.length<=20) p.dists.length ⟨0,by simp[h1]⟩ ?_;rintro q env U ⟨i,hi,rfl,h1,h3,rfl,hall⟩
   cases hv:p.dists[i]? with
   | some a=>
    obtain⟨hc,hv'⟩:=qyF.1 hv;have hm:=qyG hv;by_cases hlw:a.weights.length<=20
    . have hlw':¬(20:Int)<a.weights.length:=(by omega);simp[h1,h3,hc,hv',hlw'];exact⟨_,by omega,i+1,by omega,rfl,wr (by omega) (by omega),jx (p:=fun a:Dist=>a.weights.length<=20) hv hall hlw⟩
    have hlw':(20:Int)<a.weights.length:=(by omega);have x:jA p=false:=(by rw[hS,qeY (p:=fun d:Dist=>decide (d.weights.length<=20)) hm (by simpa using hlw)];simp);rw[x];simp[h1,h3,hc,hv',hlw']
   | none=>
    have hc:¬i<p.dists.length:=(by simp at hv;omega);have ht:p.dists.take i=p.dists:=qyN (by omega);rw[ht]at hall;have hC:p.dists.all (fun d=>decide (d.weights.length<=20))=true:=qyP.2 fun d hd=>decide_eq_true (hall d hd)
    simp[h1,h3,hc];refine qC9 (fun q env U=>∃i,i<=p.groups.length/\q=p.groups.length-i/\env 1=.ptr 0 0/\env 6=.int .i64 i/\U=⟨[.cells (qA p)],[]⟩/\∀a∈p.groups.take i,a.length<=20) p.groups.length ⟨0,by simp[h1]⟩ ?_;rintro q env U ⟨i,hi,rfl,h1,h3,rfl,hall⟩
    cases hv:p.groups[i]? with
    | some a=>
     obtain⟨hc,hv'⟩:=qyF.1 hv;have hm:=qyG hv;by_cases hlw:a.length<=20
     . have hlw':¬(20:Int)<a.length:=(by omega);simp[h1,h3,hc,hv',hlw'];exact⟨_,by omega,i+1,by omega,rfl,wr (by omega) (by omega),jx (p:=fun a:List Int=>a.length<=20) hv hall hlw⟩
     have hlw':(20:Int)<a.length:=(by omega);have x:jA p=false:=(by rw[hS,qeY (p:=fun d:List Int=>decide (d.length<=20)) hm (by simpa using hlw)];simp);rw[x];simp[h1,h3,hc,hv',hlw']
    | none=>
     have hc:¬i<p.groups.length:=(by simp at hv;omega);have ht:p.groups.take i=p.groups:=qyN (by omega);rw[ht]at hall;have hD:p.groups.all (fun g=>decide (g.length<=20))=true:=qyP.2 fun g hg=>decide_eq_true (hall g hg)
     have x:jA p=true:=(by rw[hS,hA,hB,hC,hD];rfl);rw[x];simp[h1,h3,hc]
def qlB:∀(e) (d),d+hgt e<=30->(1<=yh e d/\((pre e).length<=100->((pre e).length:Int)<=yh e d)/\(100<=(pre e).length->100<=yh e d))/\yh e d<=100*hgt e:=by
 refine qDa fun e ih d hd=>?_
 rw[kR]at hd⊢;have gen:∀(l:List Ex) (n:Int),(∀a∈l,a∈e.args)->1<=n->n<=100*(Zr e.args+1:Nat) ->
  (1<=kN l d n/\n<=kN l d n/\(n+(kK l).length<=100->n+(kK l).length<=kN l d n)/\(100<=n+(kK l).length->100<=kN l d n))/\kN l d n<=100*(Zr e.args+1:Nat):=by
  intro l
  induction l with
  |nil=>intro n _ h1 h2;simp;omega
  | cons a r ihr=>
   intro n hsub h1 h2;have ham:=hsub a (by simp);have hga:=qez ham;have hga1:1<=hgt a:=(by rw[kR];omega);rw[YD];by_cases c1:n<100
   . have c2:(d:Int)<30:=(by omega);rw[if_pos ⟨c1,c2⟩];rw[show IntKind.i64.wrap ((d:Int)+1)=((d+1:Nat):Int) by rw[wr (by omega) (by omega)];omega];have k:=ih a ham (d+1) (by omega);rw[show IntKind.i64.wrap (n+yh a ((d+1:Nat):Int))=n+yh a ((d+1:Nat):Int) from wr (by omega) (by omega)];have kr:=ihr (n+yh a ((d+1:Nat):Int)) (fun x hx=>hsub x (by simp[hx])) (by omega) (by omega);simp only[ya,qyK];obtain⟨⟨k1,k2,k3⟩,k4⟩:=k;obtain⟨⟨r1,r2,r3,r4⟩,r5⟩:=kr;refine⟨⟨r1,by omega,fun h=>?_,fun h=>?_⟩,r5⟩
     . have a1:=k2 (by omega);by_cases hb:n+yh a ((d+1:Nat):Int)+(kK r).length<=100
       . have:=r3 hb;omega
       have:=r4 (by omega);omega
     by_cases ha:(pre a).length<=100
     . have a1:=k2 ha;exact r4 (by omega)
     have a1:=k3 (by omega);exact r4 (by omega)
   rw[if_neg (fun h=>c1 h.1)];refine⟨⟨h1,qBY _,fun h=>?_,fun _=>by omega⟩,h2⟩;simp only[ya,qyK]at h⊢;omega
 have g:=gen e.args 1 (fun _ h=>h) (by omega) (by omega);rw[<- qa9]at g;rw[show(pre e).length=(kK e.args).length+1 by rw[ju,qyY]];refine⟨⟨g.1.1,fun h=>?_,fun h=>?_⟩,g.2⟩
 . have:=g.1.2.2.1 (by omega);omega
 exact g.1.2.2.2 (by omega)
def qjA{e}(h:je e 0=true):(pre e).length<=60:=by
 have hh:=qbV e 0 h;rw[Ki]at h;split at h
 . cases h
 rename_i hn;have h60:¬60<yh e 0:=fun h=>hn (.inr ⟨rfl,h⟩)
 have k:=qlB e 0 (by omega);obtain⟨⟨_,k2,k3⟩,_⟩:=k;apply Classical.byContradiction;intro hgt60;by_cases h100:(pre e).length<=100
 . have:=k2 h100;simp only[qz1]at this h60;omega
 have:=k3 (by omega);simp only[qz1]at this h60;omega
