/- A part of the proof. -/
import Derived.Test.YtpgcmnabljandaaGreatDoorPa16
set_option linter.unusedVariables false
set_option linter.unusedSimpArgs false
set_option maxRecDepth 100000
set_option linter.defProp false
attribute [local simp] Go.Abs.acells Go.Abs.fin Go.Abs.zh Go.Abs.ze Go.Abs.pl1 Go.Abs.plain Go.Abs.pl2 Go.Abs.AV.atom
section
namespace Go.Proofs.YtpgcmnabljandaaGreatDoor
open Go Go.Abs
theorem Zx {α:Type}{p:α->Prop}{l:List α}{i:Nat}{v:α}(h:l[i]?=some v)(hz:∀ a∈l.take i,p a)(hv:p v):∀ a∈l.take (i+1),p a:=by
 intro a ha;rw[qrB,h]at ha;rcases qre.1 ha with ha|ha
 . exact hz a ha
 . simp at ha;rw[ha];exact hv
theorem qp1:∀ (e:Ex),Wen e->∀ (d:Nat),d<=30->PZ 84 [.agg (qz e),.int .i64 d] (.int .i64 (kj e d)):=by
 refine Ex.ind fun e ih hwe d hd=>?_
 refine Pure.vc qg Tryz.func84 rfl (by kernel_rfl) ?_;have hl:=hwe.fits;simp only[qa e];simp;refine qC.intro (fun q env O=>∃ i n,i<=e.args.length/\q=e.args.length-i/\env 1=.int .i64 d/\env 2=.ptr 0 0/\env 5=.int .i64 n/\env 6=.int .i64 i/\O=⟨[.cells (qz e)],[]⟩/\kj e d=vm (e.args.drop i) d n) e.args.length ⟨0,1,by simp,by simp,by simp,by simp,by simp,by simp,by rw[qa e],by rw[qcE];simp⟩ ?_;rintro q env O ⟨i,n,hi,rfl,h1,h2,h5,h6,rfl,hn⟩
 cases hv:e.args[i]? with
 | none=>
  have hc:¬ i<e.args.length:=by simp at hv;omega
  have hd0:e.args.drop i=[]:=by simp;omega
  rw[hd0,qhS]at hn;rw[hn];simp[h1,h2,h5,h6,qa e,hc]
 | some a=>
  obtain⟨hc,hv'⟩:=qqV.1 hv;have hm:=qqW hv;rw[zn hv,KU]at hn;by_cases c1:n<100
  . by_cases c2:(d:Int)<30
    . have c2':d<30:=(by omega);rw[if_pos ⟨c1,c2⟩]at hn;have hw:IntKind.i64.wrap ((d:Int)+1)=((d+1:Nat):Int):=(by rw[wr (by omega) (by omega)];omega);simp[h1,h2,h5,h6,qa e,hc,c1,c2,c2',hv',qa a,hw];rw[<- qa a];refine qe.call (ih a hm (hwe.arg hm) (d+1) (by omega)) (by simp) ?_;rw[hw]at hn;simp[h1,h2,h5,h6];exact⟨_,by omega,i+1,by omega,rfl,wr (by omega) (by omega),by simpa using hn⟩
    . have c2':¬ d<30:=(by omega);rw[if_neg (fun h=>c2 h.2)]at hn;rw[hn];simp[h1,h2,h5,h6,qa e,hc,c1,c2,c2']
  . rw[if_neg (fun h=>c1 h.1)]at hn;rw[hn];simp[h1,h2,h5,h6,qa e,hc,c1]
theorem qqK:∀ (e:Ex),Wen e->∀ (d:Nat),d<=26->PZ 29 [.agg (qz e),.int .i64 d] (.bool (yu e d)):=by
 refine Ex.ind fun e ih hwe d hd=>?_
 refine Pure.vc qg Tryz.func29 rfl (by kernel_rfl) ?_;have hl:=hwe.fits;have hB:=WX e d;by_cases c1:25<d
 . have c1':(25:Int)<d:=(by omega);rw[hB,if_pos (.inl c1)];simp only[qa e];simp[c1']
 . have c1':¬ (25:Int)<d:=(by omega);have hw:IntKind.i64.wrap ((d:Int)+1)=((d+1:Nat):Int):=(by rw[wr (by omega) (by omega)];omega);by_cases c2:d=0
   . subst c2;simp only[qa e];simp;rw[<- qa e];refine qe.call (qp1 e hwe 0 (by omega)) (by simp) ?_;by_cases c3:60<kj e 0
     . rw[hB,if_pos (.inr ⟨rfl,c3⟩)];simp[c3]
     . rw[if_neg (fun h=>by rcases h with h | h;omega;exact c3 h.2)]at hB;simp[c3];rw[hB,Yk];refine qC.intro (fun q env O=>∃ i,i<=e.args.length/\q=e.args.length-i/\env 1=.int .i64 0/\env 2=.ptr 0 0/\env 5=.int .i64 i/\O=⟨[.cells (qz e)],[]⟩/\∀ a∈e.args.take i,yu a 1=true) e.args.length ⟨0,by simp,by simp,by simp,by simp,by simp,rfl,by simp⟩ ?_;rintro q env O ⟨i,hi,rfl,h1,h2,h5,rfl,hall⟩
       cases hv:e.args[i]? with
       | none=>
        have hc:¬ i<e.args.length:=(by simp at hv;omega);have ht:e.args.take i=e.args:=qrb (by omega);rw[ht]at hall;rw[qq7.2 hall];simp[h1,h2,h5,qa e,hc]
       | some a=>
        obtain⟨hc,hv'⟩:=qqV.1 hv;have hm:=qqW hv;have w1:IntKind.i64.wrap 1=1:=(by decide);simp[h1,h2,h5,qa e,hc,hv',qa a,w1];rw[<- qa a];refine qe.call (ih a hm (hwe.arg hm) 1 (by omega)) (by simp) ?_;cases ha:yu a 1
        . have:(e.args.all fun x=>yu x 1)=false:=by
           rw[qrG];intro h;rw[qq7.1 h a hm]at ha;cases ha
          simp[this]
        . simp[h1,h2,h5];exact⟨_,by omega,i+1,by omega,rfl,wr (by omega) (by omega),Zx hv hall ha⟩
   . have c2':¬ (d:Int)=0:=(by omega);rw[if_neg (fun h=>by rcases h with h | h;omega;exact c2 h.1)]at hB;simp only[qa e];simp[c1',c2,c2'];rw[hB,Yk];refine qC.intro (fun q env O=>∃ i,i<=e.args.length/\q=e.args.length-i/\env 1=.int .i64 d/\env 2=.ptr 0 0/\env 5=.int .i64 i/\O=⟨[.cells (qz e)],[]⟩/\∀ a∈e.args.take i,yu a (d+1)=true) e.args.length ⟨0,by simp,by simp,by simp,by simp,by simp,by rw[qa e],by simp⟩ ?_;rintro q env O ⟨i,hi,rfl,h1,h2,h5,rfl,hall⟩
     cases hv:e.args[i]? with
     | none=>
      have hc:¬ i<e.args.length:=(by simp at hv;omega);have ht:e.args.take i=e.args:=qrb (by omega);rw[ht]at hall;rw[qq7.2 hall];simp[h1,h2,h5,qa e,hc]
     | some a=>
      obtain⟨hc,hv'⟩:=qqV.1 hv;have hm:=qqW hv;simp[h1,h2,h5,qa e,hc,hv',qa a,hw];rw[<- qa a];refine qe.call (ih a hm (hwe.arg hm) (d+1) (by omega)) (by simp) ?_;cases ha:yu a (d+1)
      . have:(e.args.all fun x=>yu x (d+1))=false:=by
         rw[qrG];intro h;rw[qq7.1 h a hm]at ha;cases ha
        simp[this]
      . simp[h1,h2,h5];exact⟨_,by omega,i+1,by omega,rfl,wr (by omega) (by omega),Zx hv hall ha⟩
theorem qmY:∀ (e:Ex) (d:Nat),d+hgt e<=30->(1<=kj e d/\((pre e).length<=100->((pre e).length:Int)<=kj e d)/\(100<=(pre e).length->100<=kj e d))/\kj e d<=100*hgt e:=by
 refine Ex.ind fun e ih d hd=>?_
 rw[jo]at hd ⊢;have gen:∀ (l:List Ex) (n:Int),(∀ a∈l,a∈e.args)->1<=n->n<=100*(Z4 e.args+1:Nat) ->
  (1<=vm l d n/\n<=vm l d n/\(n+(ki l).length<=100->n+(ki l).length<=vm l d n)/\(100<=n+(ki l).length->100<=vm l d n))/\vm l d n<=100*(Z4 e.args+1:Nat):=by
  intro l
  induction l with
  | nil=>intro n _ h1 h2;simp;omega
  | cons a r ihr=>
   intro n hsub h1 h2;have ham:=hsub a (by simp);have hga:=qgB ham;have hga1:1<=hgt a:=(by rw[jo];omega);rw[KU];by_cases c1:n<100
   . have c2:(d:Int)<30:=(by omega);rw[if_pos ⟨c1,c2⟩];have hw:IntKind.i64.wrap ((d:Int)+1)=((d+1:Nat):Int):=(by rw[wr (by omega) (by omega)];omega);rw[hw];have k:=ih a ham (d+1) (by omega);have hub:kj a ((d+1:Nat):Int)<=100*hgt a:=k.2;have hw2:IntKind.i64.wrap (n+kj a ((d+1:Nat):Int))=n+kj a ((d+1:Nat):Int):=wr (by omega) (by omega);rw[hw2];have kr:=ihr (n+kj a ((d+1:Nat):Int)) (fun x hx=>hsub x (by simp[hx])) (by omega) (by omega);simp only[jF,qqY];obtain⟨⟨k1,k2,k3⟩,k4⟩:=k;obtain⟨⟨r1,r2,r3,r4⟩,r5⟩:=kr;refine⟨⟨r1,by omega,fun h=>?_,fun h=>?_⟩,r5⟩
     . have a1:=k2 (by omega);by_cases hb:n+kj a ((d+1:Nat):Int)+(ki r).length<=100
       . have:=r3 hb;omega
       . have:=r4 (by omega);omega
     . by_cases ha:(pre a).length<=100
       . have a1:=k2 ha;exact r4 (by omega)
       . have a1:=k3 (by omega);exact r4 (by omega)
   . rw[if_neg (fun h=>c1 h.1)];refine⟨⟨h1,qso _,fun h=>?_,fun _=>by omega⟩,h2⟩;simp only[jF,qqY]at h ⊢;omega
 have g:=gen e.args 1 (fun _ h=>h) (by omega) (by omega);rw[<- qcE]at g;have hl:(pre e).length=(ki e.args).length+1:=by rw[zb,qq5]
 rw[hl];refine⟨⟨g.1.1,fun h=>?_,fun h=>?_⟩,g.2⟩
 . have:=g.1.2.2.1 (by omega);omega
 . exact g.1.2.2.2 (by omega)
theorem qln {e:Ex}(h:yu e 0=true):(pre e).length<=60:=by
 have hh:=qlm e 0 h;rw[WX]at h;split at h
 . cases h
 . rename_i hn;have h60:¬ 60<kj e 0:=fun h=>hn (.inr ⟨rfl,h⟩)
   have k:=qmY e 0 (by omega);obtain⟨⟨_,k2,k3⟩,_⟩:=k;apply Classical.byContradiction;intro hgt60;by_cases h100:(pre e).length<=100
   . have:=k2 h100;simp only[qti]at this h60;omega
   . have:=k3 (by omega);simp only[qti]at this h60;omega
end Go.Proofs.YtpgcmnabljandaaGreatDoor
end
