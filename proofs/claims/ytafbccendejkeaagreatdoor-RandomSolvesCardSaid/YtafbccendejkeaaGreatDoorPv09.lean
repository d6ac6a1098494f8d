import Derived.Test.YtafbccendejkeaaGreatDoorPv05
set_option maxRecDepth 100000
set_option maxHeartbeats 16000000
set_option linter.all false
namespace Go.Proofs.YtafbccendejkeaaGreatDoor
open Go Go.Abs Tryz
section
variable (G:Nat->AV)
def qvx(v:Var)(name:Str):Pure prog G 252 [.agg (qG v),.rptr [.str name]] (.bool (v.name==name)):=by
 refine qFZ qX func252 rfl (by kernel_rfl) ?_;simp
def index(l:List Var)(name:Str)(hl:Fits l):Pure prog G 171 [.sl 4 (l.map qG) .none,.str name] (.int .i64 (zo (fun v=>v.name==name) l 0)):=by
 refine qFZ qX func171 rfl (by kernel_rfl) ?_;simp;refine qa.lent (Yf G l (fun v=>v.name==name) 252 [] [.rptr [.str name]] hl rfl rfl fun v _=>qvx G v name) rfl ?_ ?_
 . simp[frz]
 simp
def jq(p i):Pure prog G 97 [.agg (qu p),.int .i64 i] (.bool (decide (0<=i)&&(p.vars[i.toNat]?).any (fun v=>v.mode != 0))):=by
 refine qFZ qX func97 rfl (by kernel_rfl) ?_;by_cases h0:0<=i
 . cases hv:p.vars[i.toNat]? with
   | none=>
    have h1:¬i<p.vars.length:=(by simp at hv;omega);simp[h0,h1]
   | some v=>
    obtain⟨hc,hv'⟩:=qBa.1 hv;simp[h0,show i<p.vars.length by omega,hv']
 simp[h0]
end
def Qu{α:Type}(p:α->Bool)(l:List α):decide (zo p l 0<0) = !l.any p:=by
 have h:=qa9 (p:=p) (l:=l) (i:=0) (by omega);cases hb:l.any p
 . rw[hb]at h;have:¬0<=zo p l 0:=fun e=>by have:=h.1 e;cases this
   simp;omega
 rw[hb]at h;have:=h.2 rfl;simp;omega
def qdb{l name}(h:wk name=none):WX l name=false:=by simp[WX,h]
def qc9{l name a}(h:jD name a 0):WX l name=false:=by simp[WX,vI h]
def qda{l name a i}(h:jD name a (i+1)):WX l name = !Qr l (zT a i):=by simp[WX,vI h]
def qvB(l:List Var)(name:Str)(hl:Fits l)(hs:Fits name)(hv:wq name=true):Pure prog GG 174 [.sl 4 (l.map qG) .none,.str name] (.bool (WX l name)):=by
 refine okzQ func174 rfl rfl ?_;simp;cases hc:name.contains 91
 . refine qFJ (qe1 GG name hs hc) rfl ?_;rw[qdb (KY hc)];simp
 refine qFJ (qls GG name hs hc) rfl ?_;simp;have hn:z8 name=false:=by
  cases e:z8 name
  . rfl
  exact absurd (wZ e 91 (by simpa using hc)) (by simp)
 obtain⟨a,i,hi⟩:∃a i,jD name a i:=by
  simp only[wq,hn,qDu,qD4]at hv;obtain⟨p,hp⟩:=hv;exact⟨p.1,p.2,wa.1 hp⟩
 have hh:=hi.has.2.1;have hal:a.length<=1000:=by have:=wF hi.2.1;omega
 rw[hh];refine qFW (fun n env U=>∃j:Nat,1<=j/\j<=8/\n=8-j/\env 0=.sl 4 (l.map qG) .none/\env 1=.str name/\env 5=.str a/\env 8=.int .i64 j/\U=⟨[],[]⟩/\(i=0\/j<=i)) 7 ⟨1,by simp,by simp,by simp,by simp,by simp,by simp,by simp,rfl,by omega⟩ ?_;rintro n env U ⟨j,hj1,hj8,rfl,h0,h1,h5,h8,rfl,hj⟩;by_cases hlt:j<8
 . have hlt':(j:Int)<8:=(by omega);simp[h1,h5,h8,hlt'];refine qFJ (JT a j hlt hal) rfl ?_;by_cases he:j=i
   . subst he;rw[<- hi.2.2];obtain⟨k,rfl⟩:∃k,j=k+1:=⟨j-1,by omega⟩;have hw2:IntKind.i64.wrap ((k:Int)+1-1)=k:=(by rw[wr (by omega) (by omega)];omega);simp[h0,h1,h5,h8,show IntKind.i64.wrap (k:Int)=k from wr (by omega) (by omega)];refine qFJ (JT a k (by omega) hal) rfl ?_;refine qFJ (index GG l (zT a k) hl) (by simp) ?_;rw[qda hi];simp[Qu,Qr]
   have hne:¬name=zT a j:=by
    intro e;exact he (WE hlt hi.1 (e.symm.trans hi.2.2)).2
   simp[h0,h1,h5,h8,hne];refine⟨_,by omega,j+1,by omega,by omega,rfl,wr (by omega) (by omega),by omega⟩
 have hlt':¬(j:Int)<8:=by omega
 have hi0:i=0:=by have:=hi.1;omega
 subst hi0;rw[qc9 hi];simp[h1,h5,h8,hlt']
def qq3(l v)(hl:Fits l)(hs:Fits v.name)(hv:wq v.name=true):Pure prog GG 173 [.agg (qG v),.rptr [.sl 4 (l.map qG) .none]] (.bool (WX l v.name)):=by
 refine okzQ func173 rfl rfl ?_;simp;refine qFJ (qvB l v.name hl hs hv) (by simp) ?_;simp
def qwH{w:Int}(h1:1<=w)(h2:w<=8):IntKind.i64.wrap (2^(min w.toNat 64))=2^w.toNat:=by
 obtain⟨k,rfl⟩:=qBw (show 0<=w by omega);have:k=1\/k=2\/k=3\/k=4\/k=5\/k=6\/k=7\/k=8:=by omega
 rcases this with rfl|rfl|rfl|rfl|rfl|rfl|rfl|rfl<;>decide
def qd5(v)(hs:Fits v.name):Pure prog GG 158 [.agg (qG v)] (.int .i64 (j5 v)):=by
 refine okzQ func158 rfl rfl ?_;simp;refine qFJ (qnV v.name hs) rfl ?_;cases hn:wq v.name
 . simp[j5,hn]
 by_cases c1:v.width<1
 . have e:j5 v=1:=(by simp[j5,hn,c1]);simp[e,c1]
 by_cases c2:8<v.width
 . have e:j5 v=1:=(by simp[j5,hn,c2]);simp[e,c1,c2]
 by_cases c3:v.mode<0
 . have e:j5 v=1:=(by simp[j5,hn,c3]);simp[e,c1,c2,c3]
 by_cases c4:2<v.mode
 . have e:j5 v=1:=(by simp[j5,hn,c4]);simp[e,c1,c2,c3,c4]
 by_cases c5:v.value<0
 . have e:j5 v=1:=(by simp[j5,hn,c5]);simp[e,c1,c2,c3,c4,c5]
 have c6:¬v.width<0:=by omega
 have hsh:=qwH (w:=v.width) (by omega) (by omega);by_cases m0:v.mode=0
 . by_cases c7:(2:Int)^v.width.toNat<=v.value
   . have e:j5 v=1:=(by simp[j5,hn,c7]);simp[e,c1,c2,c5,c6,m0,hsh,c7,IntKind.bits]
   . have e:j5 v=0:=(by simp[j5,hn,c1,c2,c5,c7,m0]);simp[e,c1,c2,c5,c6,m0,hsh,c7,IntKind.bits]
 by_cases c8:v.value=0
 . have c9:¬(2:Int)^v.width.toNat<=0:=by
    have:(0:Int)<2^v.width.toNat:=qE4 (by omega);omega
   have e:j5 v=0:=(by simp[j5,hn,c1,c2,c3,c4,c8,c9]);simp[e,c1,c2,c3,c4,c6,m0,hsh,c8,c9,IntKind.bits]
 have e:j5 v=1:=by simp[j5,hn,m0,c8]
 simp[e,c1,c2,c3,c4,c5,c6,m0,hsh,c8,IntKind.bits]
def qad{l:List Var}{i}{v:Var}(h:l[i]?=some v):yG (l.take (i+1))=yG (l.take i)+(if v.mode≠0 then v.width else 0):=by
 rw[qBG,h];have:∀(m n:List Var),yG (m++n)=yG m+yG n:=by
  intro m n
  induction m with
  |nil=>simp[yG]
  |cons a r ih=>simp only[qBB,yG,ih];omega
 rw[this];simp[yG]
def zf{v}(h:j5 v=0):wq v.name=true/\1<=v.width/\v.width<=8:=by
 unfold j5 at h;split at h
 . cases h
 rename_i hn;split at h
 . cases h
 rename_i hc;refine⟨by simpa using hn,?_,?_⟩
 . apply Classical.byContradiction;intro e;exact hc (.inl (by omega))
 apply Classical.byContradiction;intro e;exact hc (.inr (.inl (by omega)))
def WL{l}(h:∀v∈l,1<=v.width/\v.width<=8):0<=yG l/\yG l<=8*l.length:=by
 induction l with
 |nil=>simp[yG]
 | cons a r ih=>
  have h1:=h a (by simp);have h2:=ih fun v hv=>h v (by simp[hv])
  simp only[yG,qBr];split<;>omega
def qeS{l:List Var}{i:Nat}{v:Var}(h:l[i]?=some v):(zo (fun x=>x.name==v.name) l 0=i)↔Qy l i=false:=by
 have gen:∀(l:List Var) (i:Nat) (k:Int),l[i]?=some v->((zo (fun x=>x.name==v.name) l k=k+i)↔(l.take i).any (fun x=>x.name==v.name)=false):=by
  intro l
  induction l with
  |nil=>intro i k h;simp at h
  | cons a r ih=>
   intro i k h
   cases i with
   | zero=>
    simp only[qEZ,qBu]at h;subst h;simp[zo]
   | succ i=>
    simp only[qDG]at h;simp only[zo,qC0,qDc];by_cases hn:a.name=v.name
    . simp[hn];omega
    have hb:(a.name==v.name)=false:=(by simpa using hn);simp only[hb,qBE,if_false,qDu];rw[<- ih i (k+1) h];constructor<;>intro e<;>omega
 have:=gen l i 0 h;simp only[qFq]at this;rw[this];simp[Qy,h,Qr]
def qlj{l i}(hi:i<l.length)(h:Qy l i=true):qqq l=true:=by
 unfold qqq;exact qBJ.2 ⟨i,qB5.2 hi,h⟩
def qlk{l}(h:∀i,i<l.length->Qy l i=false):qqq l=false:=by
 unfold qqq;rw[qCu];intro e;obtain⟨i,h1,h2⟩:=qBJ.1 e;rw[h i (qB5.1 h1)]at h2;cases h2
def wj{α:Type}{f:α->Int}{l:List α}{i}{v:α}(h:l[i]?=some v)(hz:∀a∈l.take i,f a=0)(hv:f v≠0):qU f l=f v:=by
 obtain⟨hc,hv'⟩:=qBa.1 h;have:l=l.take i++v::l.drop (i+1):=by
  conv=>lhs;rw[<- qBX i l,ze h]
 rw[this,yh,zC.2 hz];simp[qU,hv]
def qW{α:Type}{p:α->Prop}{l:List α}{i:Nat}{v:α}(h:l[i]?=some v)(hz:∀a∈l.take i,p a)(hv:p v):∀a∈l.take (i+1),p a:=by
 intro a ha;rw[qBG,h]at ha;rcases qBp.1 ha with ha|ha
 . exact hz a ha
 simp at ha;rwa[ha]
def qut(l)(hl:Fits l)(hs:∀v∈l,Fits v.name):Pure prog GG 121 [.sl 4 (l.map qG) .none] (.int .i64 (jj l)):=by
 refine okzQ func121 rfl rfl ?_;by_cases h16:16<l.length
 . have e:jj l=2:=(by simp[jj,h16]);have h16':(16:Int)<l.length:=(by omega);rw[e];simp[h16']
 have h16':¬(16:Int)<l.length:=by omega
 simp[h16'];refine qFW (fun n env U=>∃i tail,i<=l.length/\n=l.length-i/\env 1=.ptr 0 0/\env 11=.sl 4 (l.map qG) .none/\env 12=.int .i64 l.length/\env 13=.int .i64 i/\U=⟨.cells [.sl 4 (l.map qG) .none]::tail,[]⟩/\∀v∈l.take i,j5 v=0) l.length ⟨0,[],by simp⟩ ?_;rintro n env U ⟨i,tail,hi,rfl,h1,h11,h12,h13,rfl,hz⟩
 cases hv:l[i]? with
 | some v=>
  obtain⟨hc,hv'⟩:=qBa.1 hv;have hm:=qBb hv;have bad:j5 v≠0->jj l=j5 v:=by
   intro hne;have:=wj hv hz hne;simp[jj,h16,this,hne]
  simp[h1,h11,h12,h13,hc,hv',qBO];refine qFJ (qnW v.name (hs v hm)) rfl ?_;have next:j5 v=0->∀a∈l.take (i+1),j5 a=0:=fun h=>qW hv hz h
  cases hn:wq v.name
  . have e:j5 v=7:=(by simp[j5,hn]);simp[bad (by rw[e];decide),e]
  by_cases c1:v.width<1
  . have e:j5 v=1:=(by simp[j5,hn,c1]);simp[c1,bad (by rw[e];decide),e]
  by_cases c2:8<v.width
  . have e:j5 v=1:=(by simp[j5,hn,c2]);simp[c1,c2,bad (by rw[e];decide),e]
  by_cases c3:v.mode<0
  . have e:j5 v=1:=(by simp[j5,hn,c3]);simp[c1,c2,c3,bad (by rw[e];decide),e]
  by_cases c4:2<v.mode
  . have e:j5 v=1:=(by simp[j5,hn,c4]);simp[c1,c2,c3,c4,bad (by rw[e];decide),e]
  by_cases c5:v.value<0
  . have e:j5 v=1:=(by simp[j5,hn,c5]);simp[c1,c2,c3,c4,c5,bad (by rw[e];decide),e]
  have c6:¬v.width<0:=by omega
  have hsh:=qwH (w:=v.width) (by omega) (by omega);by_cases c7:(2:Int)^v.width.toNat<=v.value
  . have e:j5 v=1:=(by simp[j5,hn,c7]);simp[c1,c2,c3,c4,c5,c6,hsh,c7,IntKind.bits,bad (by rw[e];decide),e]
  by_cases m0:v.mode=0
  . have e:j5 v=0:=(by simp[j5,hn,c1,c2,c5,c7,m0]);simp[c1,c2,c5,c6,hsh,c7,IntKind.bits,m0,h1,h11,h12,h13];exact⟨_,by omega,i+1,by omega,rfl,wr (by omega) (by omega),next e⟩
  by_cases c8:v.value=0
  . have hp:(0:Int)<2^v.width.toNat:=qE4 (by omega);have e:j5 v=0:=(by simp[j5,hn,c1,c2,c3,c4,c8,hp]);simp[c1,c2,c3,c4,c6,hsh,IntKind.bits,m0,c8,show ¬(2:Int)^v.width.toNat<=0 by omega,h1,h11,h12,h13];exact⟨_,by omega,i+1,by omega,rfl,wr (by omega) (by omega),next e⟩
  have e:j5 v=1:=by simp[j5,hn,m0,c8]
  simp[c1,c2,c3,c4,c5,c6,hsh,c7,IntKind.bits,m0,c8,bad (by rw[e];decide),e]
 | none=>
  have hc:¬i<l.length:=by simp at hv;omega
  have ht:l.take i=l:=qBh (by omega);rw[ht]at hz;have hz0:=zC.2 hz;simp[h1,h11,h12,h13,hc];have hw:∀v∈l,wq v.name=true/\1<=v.width/\v.width<=8:=fun v hv=>zf (hz v hv)
  refine qFW (fun n env U=>∃i tail,i<=l.length/\n=l.length-i/\env 1=.ptr 0 0/\env 5=.int .i64 (yG (l.take i))/\env 63=.sl 4 (l.map qG) .none/\env 64=.int .i64 l.length/\env 65=.int .i64 i/\U=⟨.cells [.sl 4 (l.map qG) .none]::tail,[]⟩/\∀j,j<i->Qy l j=false) l.length ⟨0,tail,by simp[h1,yG]⟩ ?_;rintro n env U ⟨i,tail,hi,rfl,h1,h5,h63,h64,h65,rfl,hd⟩
  cases hv:l[i]? with
  | some v=>
   obtain⟨hc,hv'⟩:=qBa.1 hv;have hm:=qBb hv;have hfi:=qeS hv;have hb:=WL (l:=l.take i) fun v hv=>(hw v (qBW hv)).2
   have hbl:(l.take i).length<=16:=(by simp;omega);have next:Qy l i=false->∀j,j<i+1->Qy l j=false:=fun h j hj=>by
    rcases qCn.1 hj with hj|rfl
    . exact hd j hj
    exact h
   simp[h1,h63,h64,h65,hc,hv',qBO];refine qFJ (index GG l v.name hl) (by simp) ?_;cases hdi:Qy l i
   . rw[hfi.2 hdi];have hbt:=qad hv;by_cases m0:v.mode=0
     . simp[m0,h1,h5,h63,h64,h65];refine⟨_,by omega,i+1,by omega,rfl,?_,wr (by omega) (by omega),next hdi⟩;rw[hbt];simp[m0]
     have hw2:=hw v hm;have hwr:IntKind.i64.wrap (yG (l.take i)+v.width)=yG (l.take (i+1)):=by
      rw[hbt,if_pos m0];exact wr (by omega) (by omega)
     simp[m0,h1,h5,h63,h64,h65,hwr];refine⟨_,by omega,i+1,by omega,rfl,rfl,wr (by omega) (by omega),next hdi⟩
   have hne:¬zo (fun x=>x.name==v.name) l 0=i:=by
    intro e;have:=hfi.1 e;rw[hdi]at this;cases this
   have e:jj l=8:=(by simp[jj,h16,hz0,qlj hc hdi]);rw[e];simp[hne]
  | none=>
   have hc:¬i<l.length:=(by simp at hv;omega);have ht:l.take i=l:=qBh (by omega);rw[ht]at h5;have hnd:=qlk (l:=l) fun j hj=>hd j (by omega)
   simp[h1,h63,h64,h65,hc];refine qa.lent (Qz GG l (fun v=>WX l v.name) 173 [] [.rptr [.sl 4 (l.map qG) .none]] hl rfl (by simp) fun v hv=>qq3 l v hl (hs v hv) (hw v hv).1) rfl ?_ ?_
   . simp[frz]
   cases hg:l.any fun v=>WX l v.name
   . by_cases hb:20<yG l
     . have e:jj l=2:=(by simp[jj,h16,hz0,hnd,hg,hb]);rw[e];simp[hb,h5]
     . have e:jj l=0:=(by simp only[jj,h16,hz0,hnd,hg,hb];rfl);rw[e];simp[hb,h5]
   have e:jj l=10:=(by simp only[jj,h16,hz0,hnd,hg];rfl);rw[e];simp
def qvA(l)(hl:Fits l)(hs:∀v∈l,Fits v.name)(hv:∀v∈l,wq v.name=true):Pure prog GG 160 [.sl 4 (l.map qG) .none] (.bool (l.any fun v=>WX l v.name)):=by
 refine okzQ func160 rfl rfl ?_;simp;refine qFW (fun n env U=>∃i,i<=l.length/\n=l.length-i/\env 0=.sl 4 (l.map qG) .none/\env 3=.int .i64 i/\U=⟨[],[]⟩/\∀v∈l.take i,WX l v.name=false) l.length ⟨0,by simp⟩ ?_;rintro n env U ⟨i,hi,rfl,h0,h3,rfl,hall⟩
 cases hv1:l[i]? with
 | none=>
  have hc:¬i<l.length:=by simp at hv1;omega
  rw[show l.take i=l from qBh (by omega)]at hall;have e:(l.any fun v=>WX l v.name)=false:=by
   rw[qCu];intro e;obtain⟨v,h1,h2⟩:=qBJ.1 e;rw[hall v h1]at h2;cases h2
  rw[e];simp only[qCV]at e;simp[h0,h3,hc]
  try exact hall
 | some v=>
  obtain⟨hc,hv'⟩:=qBa.1 hv1;have hm:=qBb hv1;have hfit:=hs v hm;simp[h0,h3,hc]
  -- the places of a bracket
  refine qFW (fun n env U=>∃k:Nat,1<=k/\k<=v.name.length+1/\n=v.name.length+1-k/\env 0=.sl 4 (l.map qG) .none/\env 3=.int .i64 i/\env 4=.int .i64 k/\U=⟨[],[]⟩/\(∀a j,jD v.name a j->a.length<k->WX l v.name=false)) v.name.length ⟨1,by simp,by simp,by simp,by simp[h0],by simp[h3],by simp,rfl,fun a j hj h=>by have:=qBv.2 (qaW hj.2.1);omega⟩ ?_;clear h0 h3;rintro n env U ⟨k,hk1,hk,rfl,h0,h3,h4,rfl,hel⟩;by_cases hlt:k<v.name.length
  . have hlt':(k:Int)<v.name.length:=(by omega);have hle':(k:Int)<=v.name.length:=(by omega);have hle:k<=v.name.length:=(by omega);have step:(∀a j,jD v.name a j->a.length=k->WX l v.name=false)->∀a j,jD v.name a j->a.length<k+1->WX l v.name=false:=fun h a j hj hl=>by
     rcases qCn.1 hl with h1|h1
     . exact hel a j hj h1
     exact h a j hj h1
    have at91:∀a j,jD v.name a j->a.length=k->v.name[k]=91/\v.name.take k=a:=fun a j hj hl=>by
     have e:=hj.2.2;subst hl;constructor
     . simp[e,zT]
     conv=>lhs;rw[e]
     simp[zT]
    have hw:IntKind.i64.wrap ((k:Int)+1)=((k+1:Nat):Int):=(by rw[wr (by omega) (by omega)];omega);by_cases hb:v.name[k]=91
    . -- a bracket: every name that holds one is an element's
      have hnm:z8 v.name=false:=by
       cases e:z8 v.name
       . rfl
       exact absurd (wZ e 91 (by rw[<- hb];exact qDf hlt)) (by simp)
      obtain⟨a,j,hj⟩:∃a j,jD v.name a j:=by
       have:=hv v hm;simp only[wq,hnm,qDu,qD4]at this;obtain⟨p,hp⟩:=this;exact⟨p.1,p.2,wa.1 hp⟩
      have hak:a.length=k:=by
       have e:=hj.2.2;apply Classical.byContradiction;intro hne;rcases Nat.lt_or_gt_of_ne hne with h|h
       . have hl4:v.name.length=a.length+3:=(by rw[e];simp);have hjl:=hj.1;have d:v.name[k]=[91,UInt8.ofNat (48+j),93][k-a.length]'(by simp;omega):=by
          simp only[e,zT];rw[List.getElem_append_right (by omega)]
         rw[hb]at d;have:k-a.length=1\/k-a.length=2:=by omega
         rcases this with h1|h1
         . simp only[h1,qFb,qFc]at d;have:=congrArg UInt8.toNat d;simp at this;omega
         simp only[h1,qFb,qFc]at d;cases d
       have d:v.name[k]=a[k]'h:=by
        simp only[e,zT];rw[List.getElem_append_left h]
       exact wZ hj.2.1 _ (qDf h) (d.symm.trans hb)
      have hta:=(at91 a j hj hak).2;have hal:a.length<=1000:=(by have:=wF hj.2.1;omega);simp[h0,h3,h4,hc,hv',hlt,hb];refine qFW (fun n env U=>∃m:Nat,1<=m/\m<=8/\n=8-m/\env 0=.sl 4 (l.map qG) .none/\env 3=.int .i64 i/\env 4=.int .i64 k/\env 5=.int .i64 m/\U=⟨[],[]⟩/\(1<=j->j<m->WX l v.name=false)) 7 ⟨1,by simp,by simp,by simp,by simp[h0],by simp[h3],by simp[h4],by simp,rfl,by omega⟩ ?_;rintro n env U ⟨m,hm1,hm8,rfl,h0,h3,h4,h5,rfl,hin⟩;by_cases h8:m<8
      . have h8':(m:Int)<8:=(by omega);simp[h0,h3,h4,h5,h8',hc,hv',zl,zS,hle,hta];refine qFJ (JS a m h8 hal) rfl ?_;by_cases he:m=j
        . subst he;rw[<- hj.2.2];obtain⟨q,rfl⟩:∃q,m=q+1:=⟨m-1,by omega⟩;simp[h0,h3,h4,h5,hc,hv',zl,zS,hle,hta,show IntKind.i64.wrap (q:Int)=q from wr (by omega) (by omega)];refine qFJ (JS a q (by omega) hal) rfl ?_;refine qFJ (qeU GG l (zT a q) hl) (by simp) ?_;have hg:=qda (l:=l) hj;cases hh:Qr l (zT a q)
          . rw[hh]at hg;have hf:zo (fun v=>v.name==zT a q) l 0<0:=by
             have:=Qu (fun v:Var=>v.name==zT a q) l;simp only[Qr]at hh;rw[hh]at this;simpa using this
            rw[(fun h=>qBJ.2 ⟨v,hm,h⟩) hg];simp[hf]
          rw[hh]at hg;have hf:¬zo (fun v=>v.name==zT a q) l 0<0:=by
           have:=Qu (fun v:Var=>v.name==zT a q) l;simp only[Qr]at hh;rw[hh]at this;simpa using this
          simp[hf,h0,h3,h4,h5];exact⟨_,by omega,q+2,by omega,by omega,rfl,by rw[wr (by omega) (by omega)];omega,fun _=>by simpa using hg⟩
        have hne:¬v.name=zT a m:=by
         intro e;exact he (WE h8 hj.1 (e.symm.trans hj.2.2)).2
        simp[h0,h3,h4,h5,hne,show IntKind.i64.wrap ((m:Int)+1)=((m+1:Nat):Int) by rw[wr (by omega) (by omega)];omega];exact⟨_,by omega,m+1,by omega,by omega,rfl,rfl,fun h1 h2=>hin h1 (by omega)⟩
      have h8':¬(m:Int)<8:=(by omega);have hg:WX l v.name=false:=by
       rcases qCC j with h|h
       . subst h;exact qc9 hj
       exact hin h (by have:=hj.1;omega)
      simp[h0,h3,h4,h5,h8',hw];exact⟨_,by omega,k+1,by omega,by omega,rfl,rfl,step fun _ _ _ _=>hg⟩
    have hb':¬(v.name[k].toNat:Int)=91:=by
     intro e;exact hb (UInt8.toNat_inj.1 (by simp;omega))
    simp[h0,h3,h4,hc,hv',hlt,hb',hw];exact⟨_,by omega,k+1,by omega,by omega,rfl,rfl,step fun a j hj hl=>absurd (at91 a j hj hl).1 hb⟩
  have hlt':¬(k:Int)<v.name.length:=by omega
  have hg:WX l v.name=false:=by
   cases he:wk v.name with
   |none=>exact qdb he
   | some p=>
    have hj:=wa.1 (show wk v.name=some (p.1,p.2) from he);refine hel p.1 p.2 hj ?_;have:v.name.length=p.1.length+3:=by rw[hj.2.2];simp
    omega
  simp[h0,h3,h4,hc,hv',hlt,show IntKind.i64.wrap ((i:Int)+1)=((i+1:Nat):Int) by rw[wr (by omega) (by omega)];omega];exact⟨_,by omega,i+1,by omega,rfl,rfl,(fun h=>qW hv1 hall h) hg⟩
def qd3(l)(hl:Fits l)(hs:∀v∈l,Fits v.name):Pure prog GG 105 [.sl 4 (l.map qG) .none] (.int .i64 (jj l)):=by
 refine okzQ func105 rfl rfl ?_;by_cases h16:16<l.length
 . have e:jj l=2:=(by simp[jj,h16]);have h16':(16:Int)<l.length:=(by omega);rw[e];simp[h16']
 have h16':¬(16:Int)<l.length:=by omega
 simp[h16'];refine qFW (fun n env U=>∃i,i<=l.length/\n=l.length-i/\env 0=.sl 4 (l.map qG) .none/\env 3=.int .i64 (yG (l.take i))/\env 4=.int .i64 i/\U=⟨[],[]⟩/\∀v∈l.take i,j5 v=0) l.length ⟨0,by simp[yG]⟩ ?_;rintro n env U ⟨i,hi,rfl,h0,h3,h4,rfl,hz⟩
 cases hv:l[i]? with
 | some v=>
  obtain⟨hc,hv'⟩:=qBa.1 hv;have hm:=qBb hv;have hw:∀v∈l.take i,1<=v.width/\v.width<=8:=fun v hv=>(zf (hz v hv)).2
  have hb:=WL hw;have hbl:(l.take i).length<=16:=by simp;omega
  have hbt:=qad hv;simp[h0,h4,hc,hv'];refine qFJ (qd5 v (hs v hm)) rfl ?_;by_cases he:j5 v=0
  . have hw2:=(zf he).2;by_cases m0:v.mode=0
    . simp[he,m0,h0,h3,h4,hc,hv'];refine⟨_,by omega,i+1,by omega,rfl,?_,wr (by omega) (by omega),qW hv hz he⟩;rw[hbt];simp[m0]
    have hwr:IntKind.i64.wrap (yG (l.take i)+v.width)=yG (l.take (i+1)):=by
     rw[hbt,if_pos m0];exact wr (by omega) (by omega)
    simp[he,m0,h0,h3,h4,hc,hv',hwr];exact⟨_,by omega,i+1,by omega,rfl,rfl,wr (by omega) (by omega),qW hv hz he⟩
  have e:jj l=j5 v:=by
   have:=wj hv hz he;simp[jj,h16,this,he]
  rw[e];simp[he]
 | none=>
  have hc:¬i<l.length:=by simp at hv;omega
  rw[show l.take i=l from qBh (by omega)]at hz h3;have hz0:=zC.2 hz;simp[h0,h4,hc];refine qFW (fun n env U=>∃i,i<=l.length/\n=l.length-i/\env 0=.sl 4 (l.map qG) .none/\env 3=.int .i64 (yG l)/\env 6=.int .i64 i/\U=⟨[],[]⟩/\∀j,j<i->Qy l j=false) l.length ⟨0,by simp[h0,h3]⟩ ?_;rintro n env U ⟨i,hi,rfl,h0,h3,h6,rfl,hd⟩
  cases hv:l[i]? with
  | some v=>
   obtain⟨hc,hv'⟩:=qBa.1 hv;have next:Qy l i=false->∀j,j<i+1->Qy l j=false:=fun h j hj=>by
    rcases qCn.1 hj with hj|rfl
    . exact hd j hj
    exact h
   simp[h0,h6,hc,hv',zl,zS,ki,zU,show(i:Int)<=l.length by omega];rw[<- List.map_take];refine qFK (qeU GG (l.take i) v.name (by simp;omega)) ?_ ?_ ?_
   . simp only[qx,qL,qyy,qDd]
   . simp only[zm,qFG,and_true]
     try exact Leq.sl (by rw[List.map_take])
   have hge:=qk9 (fun x:Var=>x.name==v.name) (l.take i);rw[<- show Qy l i=(l.take i).any (fun x=>x.name==v.name) by simp[Qy,hv,Qr]]at hge;cases hdi:Qy l i
   . rw[hdi]at hge;have hf:=of_decide_eq_false hge;simp[hf,h0,h3,h6];exact⟨_,by omega,i+1,by omega,rfl,wr (by omega) (by omega),next hdi⟩
   rw[hdi]at hge;have e:jj l=8:=(by simp[jj,h16,hz0,qlj hc hdi]);rw[e];simp[of_decide_eq_true hge]
  | none=>
   have hc:¬i<l.length:=(by simp at hv;omega);have hnd:=qlk (l:=l) fun j hj=>hd j (by omega)
   simp[h0,h6,hc];refine qFJ (qvA l hl hs fun v hv=>((fun v hv=>zf (hz v hv)) v hv).1) (by simp) ?_;cases hg:l.any fun v=>WX l v.name
   . by_cases hb:20<yG l
     . have e:jj l=2:=(by simp only[jj,h16,hz0,hnd,hg,hb];rfl);rw[e];simp[hb,h3]
     . have e:jj l=0:=(by simp only[jj,h16,hz0,hnd,hg,hb];rfl);rw[e];simp[hb,h3]
   have e:jj l=10:=(by simp only[jj,h16,hz0,hnd,hg];rfl);rw[e];simp
def qiV(w):Pure prog GG 258 [.agg (qy w)] (.bool (zV w)):=by
 refine okzQ func258 rfl rfl ?_;by_cases c1:w.lo<0
 . have x:zV w=true:=(by simp[zV,c1]);rw[x];simp[c1]
 by_cases c2:w.hi<w.lo
 . have x:zV w=true:=(by simp[zV,c2]);rw[x];simp[c1,c2]
 by_cases c3:65535<w.hi
 . have x:zV w=true:=(by simp[zV,c3]);rw[x];simp[c1,c2,c3]
 by_cases c4:w.weight<0
 . have x:zV w=true:=(by simp[zV,c4]);rw[x];simp[c1,c2,c3,c4]
 have x:zV w=decide (1000<w.weight):=by simp[zV,c1,c2,c3,c4]
 rw[x];simp[c1,c2,c3,c4]
def qhg(l)(hl:Fits l):Pure prog GG 182 [.sl 4 (l.map qy) .none] (.bool (!l.any zV)):=by
 refine okzQ func182 rfl rfl ?_;simp;refine qFJ (Jl GG l zV 258 [] [] hl rfl rfl fun v _=>qiV v) (by simp) ?_;simp
def qrq(x d):Pure prog GG 181 [.agg (zn x),.rptr (zn d)] (.bool (x.var==d.var)):=by
 refine okzQ func181 rfl rfl ?_;simp
def qqe{f n i}(hi:i<n)(hz:∀j,j<i->f j=0)(hf:f i≠0):qU f (List.range n)=f i :=
 wj (l:=List.range n) (i:=i) (v:=i) (by simp[hi]) (fun a ha=>by
  rw[List.take_range]at ha;have:=qB5.1 ha;exact hz a (by omega)) hf
def qk7{f n}(hz:∀j,j<n->f j=0):qU f (List.range n)=0:=zC.2 fun a ha=>hz a (qB5.1 ha)
def qaI(l i):(decide (0<=i)&&(l[i.toNat]?).any (fun v=>v.mode != 0))=yQ l i:=rfl
def qs7(p)(hd:Fits p.dists)(hw:∀d∈p.dists,Fits d.weights):Pure prog GG 125 [.agg (qu p)] (.int .i64 (yC p.vars p.dists)):=by
 refine okzQ func125 rfl rfl ?_;simp;refine qFW (fun n env U=>∃i tail,i<=p.dists.length/\n=p.dists.length-i/\env 1=.ptr 0 0/\env 6=.sl 2 (p.dists.map zn) .none/\env 7=.int .i64 p.dists.length/\env 8=.int .i64 i/\U=⟨.cells (qu p)::tail,[]⟩/\∀j,j<i->jW p.vars p.dists j=0) p.dists.length ⟨0,[],by simp⟩ ?_;rintro n env U ⟨i,tail,hi,rfl,h1,h6,h7,h8,rfl,hz⟩
 cases hv:p.dists[i]? with
 | some d=>
  obtain⟨hc,hv'⟩:=qBa.1 hv;have hm:=qBb hv;have bad:jW p.vars p.dists i≠0->yC p.vars p.dists=jW p.vars p.dists i:=fun h=>qqe hc hz h
  have next:jW p.vars p.dists i=0->∀j,j<i+1->jW p.vars p.dists j=0:=fun h j hj=>by
   rcases qCn.1 hj with hj|rfl
   . exact hz j hj
   exact h
  have hle:i<=p.dists.length:=by omega
  have hle':(i:Int)<=p.dists.length:=by omega
  have hr:=jq GG p d.var;rw[qaI]at hr;simp only[qu]at hr;simp[h1,h6,h7,h8,hc,hv',qBO];refine qFJ hr (by simp) ?_;cases hrn:yQ p.vars d.var
  . have x:jW p.vars p.dists i=1:=(by simp[jW,hv,hrn]);rw[bad (by rw[x];decide),x];simp
  simp[h1,zl,zS,ki,zU,hle,qBO];have hcf:=YD GG (p.dists.take i) (fun y=>y.var==d.var) 181 [] [.rptr (zn d)] (by simp;omega) rfl (by simp) fun y _=>qrq y d
  refine qa.lent hcf rfl ?_ ?_
  . have htk:(p.dists.map zn).take i=(p.dists.take i).map zn:=List.map_take.symm;simp[frz,-List.map_take,htk]
  cases hdp:(p.dists.take i).any fun y=>y.var==d.var
  . by_cases h16:16<d.weights.length
    . have h16':(16:Int)<d.weights.length:=(by omega);have x:jW p.vars p.dists i=2:=(by simp only[jW,hv,hrn,hdp,h16];rfl);rw[bad (by rw[x];decide),x];simp[h16']
    . have h16':¬(16:Int)<d.weights.length:=(by omega);simp[h16'];refine qFJ (qhg d.weights (hw d hm)) (by simp) ?_;cases hwt:d.weights.any zV
      . have x:jW p.vars p.dists i=0:=(by simp only[jW,hv,hrn,hdp,h16,hwt];rfl);simp[h1,h6,h7,h8];exact⟨_,by omega,i+1,by omega,rfl,wr (by omega) (by omega),next x⟩
      have x:jW p.vars p.dists i=1:=(by simp only[jW,hv,hrn,hdp,h16,hwt];rfl);rw[bad (by rw[x];decide),x];simp
  have x:jW p.vars p.dists i=8:=by simp only[jW,hv,hrn,hdp];rfl
  rw[bad (by rw[x];decide),x];simp
 | none=>
  have hc:¬i<p.dists.length:=by simp at hv;omega
  have x:yC p.vars p.dists=0:=qk7 fun j hj=>hz j (by omega)
  rw[x];simp[h6,h7,h8,hc]
def Yt(n:Nat)(d:List Int):List AV:=(List.range n).map fun(j:Nat)=>AV.bool (decide ((j:Int)∈d))
@[simp]def qpJ{n d}:(Yt n d).length=n:=by simp[Yt]
def qjH{n}:(List.replicate n [AV.bool false]).flatten=Yt n []:=by
 simp only[Yt,qCQ,decide_false]
 induction n with
 |zero=>simp
 |succ n ih=>rw[qCt,qCi,<- ih,qDR];simp
def ZS{n j d}(h:j<n):(Yt n d)[j]?=some (.bool (decide ((j:Int)∈d))):=by simp[Yt,h]
def qjG{n j d}(h:j<n):(Yt n d).set j (.bool true)=Yt n (d++[(j:Int)]):=by
 apply qCb;intro i;by_cases hi:i<n
 . rw[qDL,ZS hi,ZS hi];by_cases hij:j=i
   . subst hij;simp[h]
   rw[if_neg hij];have:¬(i:Int)=j:=by omega
   simp[this]
 rw[qBI (by simp;omega),qBI (by simp;omega)]
def V5{g:List (List Int)}{i k}{x:List Int}{v}(hg:g[i]?=some x)(hx:x[k]?=some v):
 g.flatten=((g.take i).flatten++x.take k)++v::(x.drop (k+1)++(g.drop (i+1)).flatten):=by
 conv=>lhs;rw[show g=g.take i++x::g.drop (i+1) by conv=>lhs;rw[<- qBX i g,ze hg]]
 rw[qCU,qBZ]
 conv=>lhs;rw[show x=x.take k++v::x.drop (k+1) by conv=>lhs;rw[<- qBX k x,ze hx]]
 simp
def qdh{g:List (List Int)}{i x}(hg:g[i]?=some x):(g.take (i+1)).flatten=(g.take i).flatten++x:=by
 rw[qBG,hg];simp
def qkT(p)(hv:p.vars=[])(hg:Fits p.groups):Pure prog GG 127 [.agg (qu p)] (.int .i64 (zH p.vars p.groups)):=by
 refine okzQ func127 rfl rfl ?_;have hr0:∀i,yQ p.vars i=false:=fun i=>by simp[yQ,hv]
 have hrv:p.vars.length=0:=by rw[hv];rfl
 simp[qD,hrv];refine qFW (fun n env U=>n=1/\env 1=.ptr 0 0/\env 14=.sl 1 (p.groups.map qA) .none/\env 15=.int .i64 p.groups.length/\env 16=.int .i64 0/\U=⟨[.cells (qu p)],[some 0]⟩) 1 ⟨rfl,by simp⟩ ?_;rintro n env U ⟨rfl,h1,h14,h15,h16,rfl⟩
 cases hgs:p.groups with
 | nil=>
  have x:zH p.vars []=0:=by
   unfold zH;rw[if_pos ⟨by simp,by simp,by simp,fun i hi=>by omega⟩]
  rw[hgs]at h15;rw[x];simp[h1,h14,h15,h16,hrv];refine qFW (fun n env U=>n=1/\env 46=.int .i64 0/\env 47=.int .i64 0) 1 ⟨rfl,by simp⟩ ?_;rintro n env U ⟨rfl,h46,h47⟩;simp[h46,h47]
 | cons g r=>
  rw[hgs]at h14 h15
  cases g with
  | nil=>
   have x:zH p.vars ([]::r)=1:=by
    unfold zH;rw[if_neg (wI (by simp))]
   rw[x];have hp:(0:Int)<r.length+1:=(by omega);simp[h1,h14,h15,h16,hp]
  | cons v g=>
   have x:zH p.vars ((v::g)::r)=1:=by
    unfold zH;rw[if_neg (V0 (i:=v) (by simp) (hr0 v))]
   rw[x];simp[h1,h14,h15,h16,show(0:Int)<r.length+1 by omega,show ¬(g.length:Int)+1=0 by omega];refine qFW (fun n env U=>n=1/\env 1=.ptr 0 0/\env 23=.sl 1 ((v::g).map qh) .none/\env 24=.int .i64 (g.length+1)/\env 25=.int .i64 0/\U=⟨[.cells (qu p)],[some 0]⟩) 1 ⟨rfl,by simp[h1]⟩ ?_;rintro n env U ⟨rfl,h1,h23,h24,h25,rfl⟩;have hr:=jq GG p v;rw[qaI,hr0]at hr;simp only[qu]at hr;simp[h1,h23,h24,h25,show(0:Int)<g.length+1 by omega];refine qFJ hr (by simp) ?_;simp
def qhG{n}:List.replicate n (AV.bool false)=Yt n []:=by
 rw[<- qjH]
 induction n with
 |zero=>rfl
 |succ n ih=>rw[qCZ,qCZ,qBZ,<- ih];rfl
def GI(l:List Var)(d:List Int):Prop:=(∀v∈d,yQ l v=true)/\d.Nodup
def GI.add{l d v}(h:GI l d)(hr:yQ l v=true)(hn:v∉d):GI l (d++[v]):=by
 refine⟨fun x hx=>?_,?_⟩
 . rcases qBp.1 hx with hx|hx
   . exact h.1 x hx
   . rwa[qBR.1 hx]
 rw[qCa];refine⟨h.2,by simp,fun a ha b hb e=>?_⟩;rw[qBR.1 hb]at e;exact hn (e▸ha)
def NE(g:List (List Int)):Prop:=∀x∈g,x≠[]
def kV{c:List AV}{j v}(h:c[j]?=some v):(c.drop j).take 1=[v]:=by
 rw[ze h];rfl
def qkS(p)(hv:p.vars≠[])(hv20:p.vars.length<=1000)(hg:Fits p.groups)(hgs:∀g∈p.groups,Fits g):Pure prog GG 127 [.agg (qu p)] (.int .i64 (zH p.vars p.groups)):=by
 refine okzQ func127 rfl rfl ?_;have hn0:=qBv.2 hv;obtain⟨N,hN⟩:∃N,N=p.vars.length:=⟨_,rfl⟩;have hc2:¬(N:Int)=0:=by omega
 have rnd:∀i,Pure prog GG 97 [.agg [.sl 4 (p.vars.map qG) .none,.sl 4 (p.hard.map qp) .none,.sl 4 (p.soft.map qp) .none,.sl 2 (p.dists.map zn) .none,.sl 1 (p.groups.map qA) .none],.int .i64 i] (.bool (yQ p.vars i)):=fun i=>by
  have hr:=jq GG p i;rw[qaI]at hr;simpa only[qu] using hr
 have bad:¬yi p.vars p.groups->zH p.vars p.groups=1:=fun h=>by unfold zH;rw[if_neg h]
 simp[qD,<- hN,show(N:Int)<=549755813888 by omega,show ¬N=0 by omega,qhG];refine qFW (fun n env U=>∃i,i<=p.groups.length/\n=p.groups.length-i/\env 1=.ptr 0 0/\env 3=.ms 1 0 N 1/\env 14=.sl 1 (p.groups.map qA) .none/\env 15=.int .i64 p.groups.length/\env 16=.int .i64 i/\U=⟨[.cells (qu p),.cells (Yt N (p.groups.take i).flatten)],[]⟩/\NE (p.groups.take i)/\GI p.vars (p.groups.take i).flatten) p.groups.length ⟨0,by simp,by simp,by simp,by simp,by simp,by simp,by simp,by simp,by simp[NE],by simp[GI]⟩ ?_;rintro n env U ⟨i,hi,rfl,h1,h3,h14,h15,h16,rfl,hne,hgi0⟩
 cases hgi:p.groups[i]? with
 | some g=>
  obtain⟨hc,hv'⟩:=qBa.1 hgi;have hm:=qBb hgi;have hfg:=hgs g hm;by_cases hge:g=[]
  . rw[bad (wI (hge▸hm))];subst hge;simp[h1,h14,h15,h16,hc,hv']
  have hgl:¬(g.length:Int)=0:=by have:=qBv.2 hge;omega
  simp[h1,h14,h15,h16,hc,hv',show ¬g.length=0 by have:=qBv.2 hge;omega];refine qFW (fun n env U=>∃k,k<=g.length/\n=g.length-k/\env 1=.ptr 0 0/\env 3=.ms 1 0 N 1/\env 14=.sl 1 (p.groups.map qA) .none/\env 15=.int .i64 p.groups.length/\env 16=.int .i64 i/\env 23=.sl 1 (g.map qh) .none/\env 24=.int .i64 g.length/\env 25=.int .i64 k/\U=⟨[.cells (qu p),.cells (Yt N ((p.groups.take i).flatten++g.take k))],[]⟩/\GI p.vars ((p.groups.take i).flatten++g.take k)) g.length ⟨0,by simp[h1,h3,h14,h15,h16];exact hgi0⟩ ?_;clear h1 h3 h14 h15 h16;rintro n env U ⟨k,hk,rfl,h1,h3,h14,h15,h16,h23,h24,h25,rfl,hgi1⟩
  cases hvk:g[k]? with
  | some v=>
   obtain⟨hck,hvk'⟩:=qBa.1 hvk;have hsp:=V5 hgi hvk;simp[h1,h3,h14,h15,h16,h23,h24,h25,hck,hvk'];refine qFJ (rnd v) (by simp) ?_;cases hr:yQ p.vars v
   . rw[bad (V0 (by rw[hsp];simp) hr)];simp
   obtain⟨r1,r2⟩:=JD hr;obtain⟨j,rfl⟩:=qBw r1;have hj:j<N:=(by omega);have hj':(j:Int)<N:=(by omega);have hg1:=ZS (d:=(p.groups.take i).flatten++g.take k) hj;have hset:=qjG (d:=(p.groups.take i).flatten++g.take k) hj;have htk:g.take (k+1)=g.take k++[(j:Int)]:=(by rw[qBG,hvk];rfl);have hj1:j+1<=N:=hj;by_cases hmem:(j:Int)∈(p.groups.take i).flatten++g.take k
   . rw[bad (qih hsp hmem)];rw[decide_eq_true hmem]at hg1;have ht1:=kV hg1;simp[h1,h3,h14,h15,h16,h23,h24,h25,hj,hj',hj1,ht1]
   rw[decide_eq_false hmem]at hg1;have ht1:=kV hg1;simp[h1,h3,h14,h15,h16,h23,h24,h25,hj,hj',hj1,ht1,hset];refine⟨_,by omega,k+1,by omega,rfl,wr (by omega) (by omega),?_,?_⟩
   . rw[htk]
   rw[htk,<- qBQ];exact hgi1.add hr hmem
  | none=>
   have hck:¬k<g.length:=(by simp at hvk;omega);have ht:g.take k=g:=qBh (by omega);rw[ht]at hgi1;have hft:=qdh hgi;simp[h1,h3,h14,h15,h16,h23,h24,h25,hck,show IntKind.i64.wrap ((i:Int)+1)=((i+1:Nat):Int) by rw[wr (by omega) (by omega)];omega];refine⟨_,by omega,i+1,by omega,rfl,rfl,?_,?_,?_⟩
   . rw[hft,ht]
   . intro x hx;rw[qBG,hgi]at hx;rcases qBp.1 hx with hx|hx
     . exact hne x hx
     simp at hx;rwa[hx]
   rwa[hft]
 | none=>
  have hc:¬i<p.groups.length:=by simp at hgi;omega
  have ht:p.groups.take i=p.groups:=qBh (by omega);rw[ht]at hne hgi0;simp[h1,h14,h15,h16,hc];refine qFW (fun n env U=>∃i,i<=N/\n=N-i/\env 1=.ptr 0 0/\env 3=.ms 1 0 N 1/\env 46=.int .i64 N/\env 47=.int .i64 i/\U=⟨[.cells (qu p),.cells (Yt N p.groups.flatten)],[]⟩/\∀j:Nat,j<i->yQ p.vars j=true->(j:Int)∈p.groups.flatten) N ⟨0,by simp[h1,h3,<- hN,ht]⟩ ?_;rintro n env U ⟨j,hj0,rfl,h1,h3,h46,h47,rfl,hall⟩;by_cases hj:j<N
  . have hj':(j:Int)<N:=(by omega);have hj1:j+1<=N:=hj;have hg1:=ZS (d:=p.groups.flatten) hj;simp[h1,h46,h47,hj];refine qFJ (rnd j) (by simp) ?_;cases hr:yQ p.vars j
    . simp[h1,h3,h46,h47];refine⟨_,by omega,j+1,by omega,rfl,wr (by omega) (by omega),?_⟩;intro q hq hqr;rcases qCn.1 hq with hq|rfl
      . have:=hall q hq hqr;simpa using this
      rw[hr]at hqr;cases hqr
    by_cases hmem:(j:Int)∈p.groups.flatten
    . rw[decide_eq_true hmem]at hg1;have ht1:=kV hg1;simp[h1,h3,h46,h47,hj,hj1,ht1];refine⟨_,by omega,j+1,by omega,rfl,wr (by omega) (by omega),?_⟩;intro q hq hqr;rcases qCn.1 hq with hq|rfl
      . have:=hall q hq hqr;simpa using this
      simpa using hmem
    rw[bad (qeO (by omega) hr hmem)];rw[decide_eq_false hmem]at hg1;have ht1:=kV hg1;simp[h1,h3,h46,h47,hj,hj1,ht1]
  have x:zH p.vars p.groups=0:=by
   unfold zH;rw[if_pos ⟨hne,hgi0.1,hgi0.2,fun q hq hqr=>hall q (by omega) hqr⟩]
  rw[x];simp[h1,h46,h47,hj]
def qop(p)(hv20:p.vars.length<=1000)(hg:Fits p.groups)(hgs:∀g∈p.groups,Fits g):Pure prog GG 127 [.agg (qu p)] (.int .i64 (zH p.vars p.groups)):=by
 by_cases hv:p.vars=[]
 . exact qkT p hv hg
 exact qkS p hv hv20 hg hgs
