import Derived.Test.YtimecmegnocamaaGreatDoorPq10
import Derived.Test.YtimecmegnocamaaGreatDoorPq15
set_option maxHeartbeats 16000000
set_option maxRecDepth 100000
set_option linter.all false
set_option linter.defProp false
namespace Go.Proofs.YtimecmegnocamaaGreatDoor
open Go Go.Abs Tryz
def Qq{α:Type}(p:α->Bool)(l:List α):decide (zq p l 0<0) = !l.any p:=by
 have h:=qaW (p:=p) (l:=l) (i:=0) (by omega);cases hb:l.any p
 . rw[hb]at h;have:¬0<=zq p l 0:=fun e=>by have:=h.1 e;cases this
   simp;omega
 rw[hb]at h;have:=h.2 rfl;simp;omega
def qcZ{l name}(h:wb name=none):WN l name=false:=by simp[WN,h]
def qcX{l name a}(h:jA name a 0):WN l name=false:=by simp[WN,vF h]
def qcY{l name a i}(h:jA name a (i+1)):WN l name = !Qn l (zX a i):=by simp[WN,vF h]
def qvo(l:List Var)(name:Str)(hl:Fits l)(hs:Fits name)(hv:wg name=true):Pure prog GG 174 [.sl 4 (l.map qM) .none,.str name] (.bool (WN l name)):=by
 refine qFP qg func174 rfl (by kernel_rfl) ?_;simp;cases hc:name.contains 91
 . refine qFz (qeO GG name hs hc) rfl ?_;rw[qcZ (KJ hc)];simp
 refine qFz (qlp GG name hs hc) rfl ?_;simp;have hn:z8 name=false:=by
  cases e:z8 name
  . rfl
  exact absurd (wU e 91 (by simpa using hc)) (by simp)
 obtain⟨a,i,hi⟩:∃a i,jA name a i:=by
  simp only[wg,hn,qDz,qDV]at hv;obtain⟨p,hp⟩:=hv;exact⟨p.1,p.2,kN.1 hp⟩
 have hh:=hi.has.2.1;have hal:a.length<=1000:=by have:=wA hi.2.1;omega
 rw[hh];refine qFM (fun n env U=>∃j:Nat,1<=j/\j<=8/\n=8-j/\env 0=.sl 4 (l.map qM) .none/\env 1=.str name/\env 5=.str a/\env 8=.int .i64 j/\U=⟨[],[]⟩/\(i=0\/j<=i)) 7 ⟨1,by simp,by simp,by simp,by simp,by simp,by simp,by simp,rfl,by omega⟩ ?_;rintro n env U ⟨j,hj1,hj8,rfl,h0,h1,h5,h8,rfl,hj⟩;by_cases hlt:j<8
 . have hlt':(j:Int)<8:=(by omega);simp[h1,h5,h8,hlt'];refine qFz (JF a j hlt hal) rfl ?_;by_cases he:j=i
   . subst he;rw[<- hi.2.2];obtain⟨k,rfl⟩:∃k,j=k+1:=⟨j-1,by omega⟩;have hw2:IntKind.i64.wrap ((k:Int)+1-1)=k:=(by rw[wr (by omega) (by omega)];omega);simp[h0,h1,h5,h8,show IntKind.i64.wrap (k:Int)=k from wr (by omega) (by omega)];refine qFz (JF a k (by omega) hal) rfl ?_;refine qFz (index GG l (zX a k) hl) (by simp) ?_;rw[qcY hi];simp[Qq,Qn]
   have hne:¬name=zX a j:=by
    intro e;exact he (Wq hlt hi.1 (e.symm.trans hi.2.2)).2
   simp[h0,h1,h5,h8,hne];refine⟨_,by omega,j+1,by omega,by omega,rfl,wr (by omega) (by omega),by omega⟩
 have hlt':¬(j:Int)<8:=by omega
 have hi0:i=0:=by have:=hi.1;omega
 subst hi0;rw[qcX hi];simp[h1,h5,h8,hlt']
def qqS(l v)(hl:Fits l)(hs:Fits v.name)(hv:wg v.name=true):Pure prog GG 173 [.agg (qM v),.rptr [.sl 4 (l.map qM) .none]] (.bool (WN l v.name)):=by
 refine qFP qg func173 rfl (by kernel_rfl) ?_;simp;refine qFz (qvo l v.name hl hs hv) (by simp) ?_;simp
def qwv{w:Int}(h1:1<=w)(h2:w<=8):IntKind.i64.wrap (2^(min w.toNat 64))=2^w.toNat:=by
 obtain⟨k,rfl⟩:=qBe (show 0<=w by omega);have:k=1\/k=2\/k=3\/k=4\/k=5\/k=6\/k=7\/k=8:=by omega
 rcases this with rfl|rfl|rfl|rfl|rfl|rfl|rfl|rfl<;>decide
def qdW(v)(hs:Fits v.name):Pure prog GG 146 [.agg (qM v)] (.int .i64 (j4 v)):=by
 refine qFP qg func146 rfl (by kernel_rfl) ?_;simp;refine qFz (qnP v.name hs) rfl ?_;cases hn:wg v.name
 . simp[j4,hn]
 by_cases c1:v.width<1
 . have e:j4 v=1:=(by simp[j4,hn,c1]);simp[e,c1]
 by_cases c2:8<v.width
 . have e:j4 v=1:=(by simp[j4,hn,c2]);simp[e,c1,c2]
 by_cases c3:v.mode<0
 . have e:j4 v=1:=(by simp[j4,hn,c3]);simp[e,c1,c2,c3]
 by_cases c4:2<v.mode
 . have e:j4 v=1:=(by simp[j4,hn,c4]);simp[e,c1,c2,c3,c4]
 by_cases c5:v.value<0
 . have e:j4 v=1:=(by simp[j4,hn,c5]);simp[e,c1,c2,c3,c4,c5]
 have c6:¬v.width<0:=by omega
 have hsh:=qwv (w:=v.width) (by omega) (by omega);by_cases m0:v.mode=0
 . by_cases c7:(2:Int)^v.width.toNat<=v.value
   . have e:j4 v=1:=(by simp[j4,hn,c7]);simp[e,c1,c2,c5,c6,m0,hsh,c7,IntKind.bits]
   . have e:j4 v=0:=(by simp[j4,hn,c1,c2,c5,c7,m0]);simp[e,c1,c2,c5,c6,m0,hsh,c7,IntKind.bits]
 by_cases c8:v.value=0
 . have c9:¬(2:Int)^v.width.toNat<=0:=by
    have:(0:Int)<2^v.width.toNat:=qET (by omega);omega
   have e:j4 v=0:=(by simp[j4,hn,c1,c2,c3,c4,c8,c9]);simp[e,c1,c2,c3,c4,c6,m0,hsh,c8,c9,IntKind.bits]
 have e:j4 v=1:=by simp[j4,hn,m0,c8]
 simp[e,c1,c2,c3,c4,c5,c6,m0,hsh,c8,IntKind.bits]
def V4{l:List Var}{i}{v:Var}(h:l[i]?=some v):yE (l.take (i+1))=yE (l.take i)+(if v.mode≠0 then v.width else 0):=by
 rw[qBi,h];have:∀(m n:List Var),yE (m++n)=yE m+yE n:=by
  intro m n
  induction m with
  |nil=>simp[yE]
  |cons a r ih=>simp only[qBl,yE,ih];omega
 rw[this];simp[yE]
def zi{v}(h:j4 v=0):wg v.name=true/\1<=v.width/\v.width<=8:=by
 unfold j4 at h;split at h
 . cases h
 rename_i hn;split at h
 . cases h
 rename_i hc;refine⟨by simpa using hn,?_,?_⟩
 . apply Classical.byContradiction;intro e;exact hc (.inl (by omega))
 apply Classical.byContradiction;intro e;exact hc (.inr (.inl (by omega)))
def WB{l}(h:∀v∈l,1<=v.width/\v.width<=8):0<=yE l/\yE l<=8*l.length:=by
 induction l with
 |nil=>simp[yE]
 | cons a r ih=>
  have h1:=h a (by simp);have h2:=ih fun v hv=>h v (by simp[hv])
  simp only[yE,qBc];split<;>omega
def qeF{l:List Var}{i:Nat}{v:Var}(h:l[i]?=some v):(zq (fun x=>x.name==v.name) l 0=i)↔Qu l i=false:=by
 have gen:∀(l:List Var) (i:Nat) (k:Int),l[i]?=some v->((zq (fun x=>x.name==v.name) l k=k+i)↔(l.take i).any (fun x=>x.name==v.name)=false):=by
  intro l
  induction l with
  |nil=>intro i k h;simp at h
  | cons a r ih=>
   intro i k h
   cases i with
   | zero=>
    simp only[qEP,qBg]at h;subst h;simp[zq]
   | succ i=>
    simp only[qDx]at h;simp only[zq,qCt,qC1];by_cases hn:a.name=v.name
    . simp[hn];omega
    have hb:(a.name==v.name)=false:=(by simpa using hn);simp only[hb,qBz,if_false,qDz];rw[<- ih i (k+1) h];constructor<;>intro e<;>omega
 have:=gen l i 0 h;simp only[qFe]at this;rw[this];simp[Qu,h,Qn]
def qlg{l i}(hi:i<l.length)(h:Qu l i=true):qqg l=true:=by
 unfold qqg;exact qBr.2 ⟨i,qCd.2 hi,h⟩
def qlh{l}(h:∀i,i<l.length->Qu l i=false):qqg l=false:=by
 unfold qqg;rw[qCe];intro e;obtain⟨i,h1,h2⟩:=qBr.1 e;rw[h i (qCd.1 h1)]at h2;cases h2
def k0{α:Type}{f:α->Int}{l:List α}{i}{v:α}(h:l[i]?=some v)(hz:∀a∈l.take i,f a=0)(hv:f v≠0):qY f l=f v:=by
 obtain⟨hc,hv'⟩:=qAU.1 h;have:l=l.take i++v::l.drop (i+1):=by
  conv=>lhs;rw[<- qBF i l,zf h]
 rw[this,yg,zF.2 hz];simp[qY,hv]
def q9{α:Type}{p:α->Prop}{l:List α}{i:Nat}{v:α}(h:l[i]?=some v)(hz:∀a∈l.take i,p a)(hv:p v):∀a∈l.take (i+1),p a:=by
 intro a ha;rw[qBi,h]at ha;rcases qBb.1 ha with ha|ha
 . exact hz a ha
 simp at ha;rwa[ha]
def quc(l)(hl:Fits l)(hs:∀v∈l,Fits v.name):Pure prog GG 120 [.sl 4 (l.map qM) .none] (.int .i64 (jg l)):=by
 refine qFP qg func120 rfl (by kernel_rfl) ?_;by_cases h16:16<l.length
 . have e:jg l=2:=(by simp[jg,h16]);have h16':(16:Int)<l.length:=(by omega);rw[e];simp[h16']
 have h16':¬(16:Int)<l.length:=by omega
 simp[h16'];refine qFM (fun n env U=>∃i tail,i<=l.length/\n=l.length-i/\env 1=.ptr 0 0/\env 11=.sl 4 (l.map qM) .none/\env 12=.int .i64 l.length/\env 13=.int .i64 i/\U=⟨.cells [.sl 4 (l.map qM) .none]::tail,[]⟩/\∀v∈l.take i,j4 v=0) l.length ⟨0,[],by simp⟩ ?_;rintro n env U ⟨i,tail,hi,rfl,h1,h11,h12,h13,rfl,hz⟩
 cases hv:l[i]? with
 | some v=>
  obtain⟨hc,hv'⟩:=qAU.1 hv;have hm:=qAV hv;have bad:j4 v≠0->jg l=j4 v:=by
   intro hne;have:=k0 hv hz hne;simp[jg,h16,this,hne]
  simp[h1,h11,h12,h13,hc,hv',qBx];refine qFz (qnQ v.name (hs v hm)) rfl ?_;have next:j4 v=0->∀a∈l.take (i+1),j4 a=0:=fun h=>q9 hv hz h
  cases hn:wg v.name
  . have e:j4 v=7:=(by simp[j4,hn]);simp[bad (by rw[e];decide),e]
  by_cases c1:v.width<1
  . have e:j4 v=1:=(by simp[j4,hn,c1]);simp[c1,bad (by rw[e];decide),e]
  by_cases c2:8<v.width
  . have e:j4 v=1:=(by simp[j4,hn,c2]);simp[c1,c2,bad (by rw[e];decide),e]
  by_cases c3:v.mode<0
  . have e:j4 v=1:=(by simp[j4,hn,c3]);simp[c1,c2,c3,bad (by rw[e];decide),e]
  by_cases c4:2<v.mode
  . have e:j4 v=1:=(by simp[j4,hn,c4]);simp[c1,c2,c3,c4,bad (by rw[e];decide),e]
  by_cases c5:v.value<0
  . have e:j4 v=1:=(by simp[j4,hn,c5]);simp[c1,c2,c3,c4,c5,bad (by rw[e];decide),e]
  have c6:¬v.width<0:=by omega
  have hsh:=qwv (w:=v.width) (by omega) (by omega);by_cases c7:(2:Int)^v.width.toNat<=v.value
  . have e:j4 v=1:=(by simp[j4,hn,c7]);simp[c1,c2,c3,c4,c5,c6,hsh,c7,IntKind.bits,bad (by rw[e];decide),e]
  by_cases m0:v.mode=0
  . have e:j4 v=0:=(by simp[j4,hn,c1,c2,c5,c7,m0]);simp[c1,c2,c5,c6,hsh,c7,IntKind.bits,m0,h1,h11,h12,h13];exact⟨_,by omega,i+1,by omega,rfl,wr (by omega) (by omega),next e⟩
  by_cases c8:v.value=0
  . have hp:(0:Int)<2^v.width.toNat:=qET (by omega);have e:j4 v=0:=(by simp[j4,hn,c1,c2,c3,c4,c8,hp]);simp[c1,c2,c3,c4,c6,hsh,IntKind.bits,m0,c8,show ¬(2:Int)^v.width.toNat<=0 by omega,h1,h11,h12,h13];exact⟨_,by omega,i+1,by omega,rfl,wr (by omega) (by omega),next e⟩
  have e:j4 v=1:=by simp[j4,hn,m0,c8]
  simp[c1,c2,c3,c4,c5,c6,hsh,c7,IntKind.bits,m0,c8,bad (by rw[e];decide),e]
 | none=>
  have hc:¬i<l.length:=by simp at hv;omega
  have ht:l.take i=l:=qAZ (by omega);rw[ht]at hz;have hz0:=zF.2 hz;simp[h1,h11,h12,h13,hc];have hw:∀v∈l,wg v.name=true/\1<=v.width/\v.width<=8:=fun v hv=>zi (hz v hv)
  refine qFM (fun n env U=>∃i tail,i<=l.length/\n=l.length-i/\env 1=.ptr 0 0/\env 5=.int .i64 (yE (l.take i))/\env 63=.sl 4 (l.map qM) .none/\env 64=.int .i64 l.length/\env 65=.int .i64 i/\U=⟨.cells [.sl 4 (l.map qM) .none]::tail,[]⟩/\∀j,j<i->Qu l j=false) l.length ⟨0,tail,by simp[h1,yE]⟩ ?_;rintro n env U ⟨i,tail,hi,rfl,h1,h5,h63,h64,h65,rfl,hd⟩
  cases hv:l[i]? with
  | some v=>
   obtain⟨hc,hv'⟩:=qAU.1 hv;have hm:=qAV hv;have hfi:=qeF hv;have hb:=WB (l:=l.take i) fun v hv=>(hw v (qBH hv)).2
   have hbl:(l.take i).length<=16:=(by simp;omega);have next:Qu l i=false->∀j,j<i+1->Qu l j=false:=fun h j hj=>by
    rcases qB5.1 hj with hj|rfl
    . exact hd j hj
    exact h
   simp[h1,h63,h64,h65,hc,hv',qBx];refine qFz (index GG l v.name hl) (by simp) ?_;cases hdi:Qu l i
   . rw[hfi.2 hdi];have hbt:=V4 hv;by_cases m0:v.mode=0
     . simp[m0,h1,h5,h63,h64,h65];refine⟨_,by omega,i+1,by omega,rfl,?_,wr (by omega) (by omega),next hdi⟩;rw[hbt];simp[m0]
     have hw2:=hw v hm;have hwr:IntKind.i64.wrap (yE (l.take i)+v.width)=yE (l.take (i+1)):=by
      rw[hbt,if_pos m0];exact wr (by omega) (by omega)
     simp[m0,h1,h5,h63,h64,h65,hwr];refine⟨_,by omega,i+1,by omega,rfl,rfl,wr (by omega) (by omega),next hdi⟩
   have hne:¬zq (fun x=>x.name==v.name) l 0=i:=by
    intro e;have:=hfi.1 e;rw[hdi]at this;cases this
   have e:jg l=8:=(by simp[jg,h16,hz0,qlg hc hdi]);rw[e];simp[hne]
  | none=>
   have hc:¬i<l.length:=(by simp at hv;omega);have ht:l.take i=l:=qAZ (by omega);rw[ht]at h5;have hnd:=qlh (l:=l) fun j hj=>hd j (by omega)
   simp[h1,h63,h64,h65,hc];refine qa.lent (Qv GG l (fun v=>WN l v.name) 173 [] [.rptr [.sl 4 (l.map qM) .none]] hl rfl (by simp) fun v hv=>qqS l v hl (hs v hv) (hw v hv).1) rfl ?_ ?_
   . simp[frz]
   cases hg:l.any fun v=>WN l v.name
   . by_cases hb:20<yE l
     . have e:jg l=2:=(by simp[jg,h16,hz0,hnd,hg,hb]);rw[e];simp[hb,h5]
     . have e:jg l=0:=(by simp only[jg,h16,hz0,hnd,hg,hb];rfl);rw[e];simp[hb,h5]
   have e:jg l=10:=(by simp only[jg,h16,hz0,hnd,hg];rfl);rw[e];simp
def qvn(l)(hl:Fits l)(hs:∀v∈l,Fits v.name)(hv:∀v∈l,wg v.name=true):Pure prog GG 148 [.sl 4 (l.map qM) .none] (.bool (l.any fun v=>WN l v.name)):=by
 refine qFP qg func148 rfl (by kernel_rfl) ?_;simp;refine qFM (fun n env U=>∃i,i<=l.length/\n=l.length-i/\env 0=.sl 4 (l.map qM) .none/\env 3=.int .i64 i/\U=⟨[],[]⟩/\∀v∈l.take i,WN l v.name=false) l.length ⟨0,by simp⟩ ?_;rintro n env U ⟨i,hi,rfl,h0,h3,rfl,hall⟩
 cases hv1:l[i]? with
 | none=>
  have hc:¬i<l.length:=by simp at hv1;omega
  rw[show l.take i=l from qAZ (by omega)]at hall;have e:(l.any fun v=>WN l v.name)=false:=by
   rw[qCe];intro e;obtain⟨v,h1,h2⟩:=qBr.1 e;rw[hall v h1]at h2;cases h2
  rw[e];simp only[qCv]at e;simp[h0,h3,hc]
  try exact hall
 | some v=>
  obtain⟨hc,hv'⟩:=qAU.1 hv1;have hm:=qAV hv1;have hfit:=hs v hm;simp[h0,h3,hc]
  -- the places of a bracket
  refine qFM (fun n env U=>∃k:Nat,1<=k/\k<=v.name.length+1/\n=v.name.length+1-k/\env 0=.sl 4 (l.map qM) .none/\env 3=.int .i64 i/\env 4=.int .i64 k/\U=⟨[],[]⟩/\(∀a j,jA v.name a j->a.length<k->WN l v.name=false)) v.name.length ⟨1,by simp,by simp,by simp,by simp[h0],by simp[h3],by simp,rfl,fun a j hj h=>by have:=qBf.2 (qaH hj.2.1);omega⟩ ?_;clear h0 h3;rintro n env U ⟨k,hk1,hk,rfl,h0,h3,h4,rfl,hel⟩;by_cases hlt:k<v.name.length
  . have hlt':(k:Int)<v.name.length:=(by omega);have hle':(k:Int)<=v.name.length:=(by omega);have hle:k<=v.name.length:=(by omega);have step:(∀a j,jA v.name a j->a.length=k->WN l v.name=false)->∀a j,jA v.name a j->a.length<k+1->WN l v.name=false:=fun h a j hj hl=>by
     rcases qB5.1 hl with h1|h1
     . exact hel a j hj h1
     exact h a j hj h1
    have at91:∀a j,jA v.name a j->a.length=k->v.name[k]=91/\v.name.take k=a:=fun a j hj hl=>by
     have e:=hj.2.2;subst hl;constructor
     . simp[e,zX]
     conv=>lhs;rw[e]
     simp[zX]
    have hw:IntKind.i64.wrap ((k:Int)+1)=((k+1:Nat):Int):=(by rw[wr (by omega) (by omega)];omega);by_cases hb:v.name[k]=91
    . -- a bracket: every name that holds one is an element's
      have hnm:z8 v.name=false:=by
       cases e:z8 v.name
       . rfl
       exact absurd (wU e 91 (by rw[<- hb];exact qDh hlt)) (by simp)
      obtain⟨a,j,hj⟩:∃a j,jA v.name a j:=by
       have:=hv v hm;simp only[wg,hnm,qDz,qDV]at this;obtain⟨p,hp⟩:=this;exact⟨p.1,p.2,kN.1 hp⟩
      have hak:a.length=k:=by
       have e:=hj.2.2;apply Classical.byContradiction;intro hne;rcases Nat.lt_or_gt_of_ne hne with h|h
       . have hl4:v.name.length=a.length+3:=(by rw[e];simp);have hjl:=hj.1;have d:v.name[k]=[91,UInt8.ofNat (48+j),93][k-a.length]'(by simp;omega):=by
          simp only[e,zX];rw[List.getElem_append_right (by omega)]
         rw[hb]at d;have:k-a.length=1\/k-a.length=2:=by omega
         rcases this with h1|h1
         . simp only[h1,qE2,qE3]at d;have:=congrArg UInt8.toNat d;simp at this;omega
         simp only[h1,qE2,qE3]at d;cases d
       have d:v.name[k]=a[k]'h:=by
        simp only[e,zX];rw[List.getElem_append_left h]
       exact wU hj.2.1 _ (qDh h) (d.symm.trans hb)
      have hta:=(at91 a j hj hak).2;have hal:a.length<=1000:=(by have:=wA hj.2.1;omega);simp[h0,h3,h4,hc,hv',hlt,hb];refine qFM (fun n env U=>∃m:Nat,1<=m/\m<=8/\n=8-m/\env 0=.sl 4 (l.map qM) .none/\env 3=.int .i64 i/\env 4=.int .i64 k/\env 5=.int .i64 m/\U=⟨[],[]⟩/\(1<=j->j<m->WN l v.name=false)) 7 ⟨1,by simp,by simp,by simp,by simp[h0],by simp[h3],by simp[h4],by simp,rfl,by omega⟩ ?_;rintro n env U ⟨m,hm1,hm8,rfl,h0,h3,h4,h5,rfl,hin⟩;by_cases h8:m<8
      . have h8':(m:Int)<8:=(by omega);simp[h0,h3,h4,h5,h8',hc,hv',zk,zR,hle,hta];refine qFz (JE a m h8 hal) rfl ?_;by_cases he:m=j
        . subst he;rw[<- hj.2.2];obtain⟨q,rfl⟩:∃q,m=q+1:=⟨m-1,by omega⟩;simp[h0,h3,h4,h5,hc,hv',zk,zR,hle,hta,show IntKind.i64.wrap (q:Int)=q from wr (by omega) (by omega)];refine qFz (JE a q (by omega) hal) rfl ?_;refine qFz (qeH GG l (zX a q) hl) (by simp) ?_;have hg:=qcY (l:=l) hj;cases hh:Qn l (zX a q)
          . rw[hh]at hg;have hf:zq (fun v=>v.name==zX a q) l 0<0:=by
             have:=Qq (fun v:Var=>v.name==zX a q) l;simp only[Qn]at hh;rw[hh]at this;simpa using this
            rw[(fun h=>qBr.2 ⟨v,hm,h⟩) hg];simp[hf]
          rw[hh]at hg;have hf:¬zq (fun v=>v.name==zX a q) l 0<0:=by
           have:=Qq (fun v:Var=>v.name==zX a q) l;simp only[Qn]at hh;rw[hh]at this;simpa using this
          simp[hf,h0,h3,h4,h5];exact⟨_,by omega,q+2,by omega,by omega,rfl,by rw[wr (by omega) (by omega)];omega,fun _=>by simpa using hg⟩
        have hne:¬v.name=zX a m:=by
         intro e;exact he (Wq h8 hj.1 (e.symm.trans hj.2.2)).2
        simp[h0,h3,h4,h5,hne,show IntKind.i64.wrap ((m:Int)+1)=((m+1:Nat):Int) by rw[wr (by omega) (by omega)];omega];exact⟨_,by omega,m+1,by omega,by omega,rfl,rfl,fun h1 h2=>hin h1 (by omega)⟩
      have h8':¬(m:Int)<8:=(by omega);have hg:WN l v.name=false:=by
       rcases qCh j with h|h
       . subst h;exact qcX hj
       exact hin h (by have:=hj.1;omega)
      simp[h0,h3,h4,h5,h8',hw];exact⟨_,by omega,k+1,by omega,by omega,rfl,rfl,step fun _ _ _ _=>hg⟩
    have hb':¬(v.name[k].toNat:Int)=91:=by
     intro e;exact hb (UInt8.toNat_inj.1 (by simp;omega))
    simp[h0,h3,h4,hc,hv',hlt,hb',hw];exact⟨_,by omega,k+1,by omega,by omega,rfl,rfl,step fun a j hj hl=>absurd (at91 a j hj hl).1 hb⟩
  have hlt':¬(k:Int)<v.name.length:=by omega
  have hg:WN l v.name=false:=by
   cases he:wb v.name with
   |none=>exact qcZ he
   | some p=>
    have hj:=kN.1 (show wb v.name=some (p.1,p.2) from he);refine hel p.1 p.2 hj ?_;have:v.name.length=p.1.length+3:=by rw[hj.2.2];simp
    omega
  simp[h0,h3,h4,hc,hv',hlt,show IntKind.i64.wrap ((i:Int)+1)=((i+1:Nat):Int) by rw[wr (by omega) (by omega)];omega];exact⟨_,by omega,i+1,by omega,rfl,rfl,(fun h=>q9 hv1 hall h) hg⟩
def qdU(l)(hl:Fits l)(hs:∀v∈l,Fits v.name):Pure prog GG 93 [.sl 4 (l.map qM) .none] (.int .i64 (jg l)):=by
 refine qFP qg func93 rfl (by kernel_rfl) ?_;by_cases h16:16<l.length
 . have e:jg l=2:=(by simp[jg,h16]);have h16':(16:Int)<l.length:=(by omega);rw[e];simp[h16']
 have h16':¬(16:Int)<l.length:=by omega
 simp[h16'];refine qFM (fun n env U=>∃i,i<=l.length/\n=l.length-i/\env 0=.sl 4 (l.map qM) .none/\env 3=.int .i64 (yE (l.take i))/\env 4=.int .i64 i/\U=⟨[],[]⟩/\∀v∈l.take i,j4 v=0) l.length ⟨0,by simp[yE]⟩ ?_;rintro n env U ⟨i,hi,rfl,h0,h3,h4,rfl,hz⟩
 cases hv:l[i]? with
 | some v=>
  obtain⟨hc,hv'⟩:=qAU.1 hv;have hm:=qAV hv;have hw:∀v∈l.take i,1<=v.width/\v.width<=8:=fun v hv=>(zi (hz v hv)).2
  have hb:=WB hw;have hbl:(l.take i).length<=16:=by simp;omega
  have hbt:=V4 hv;simp[h0,h4,hc,hv'];refine qFz (qdW v (hs v hm)) rfl ?_;by_cases he:j4 v=0
  . have hw2:=(zi he).2;by_cases m0:v.mode=0
    . simp[he,m0,h0,h3,h4,hc,hv'];refine⟨_,by omega,i+1,by omega,rfl,?_,wr (by omega) (by omega),q9 hv hz he⟩;rw[hbt];simp[m0]
    have hwr:IntKind.i64.wrap (yE (l.take i)+v.width)=yE (l.take (i+1)):=by
     rw[hbt,if_pos m0];exact wr (by omega) (by omega)
    simp[he,m0,h0,h3,h4,hc,hv',hwr];exact⟨_,by omega,i+1,by omega,rfl,rfl,wr (by omega) (by omega),q9 hv hz he⟩
  have e:jg l=j4 v:=by
   have:=k0 hv hz he;simp[jg,h16,this,he]
  rw[e];simp[he]
 | none=>
  have hc:¬i<l.length:=by simp at hv;omega
  rw[show l.take i=l from qAZ (by omega)]at hz h3;have hz0:=zF.2 hz;simp[h0,h4,hc];refine qFM (fun n env U=>∃i,i<=l.length/\n=l.length-i/\env 0=.sl 4 (l.map qM) .none/\env 3=.int .i64 (yE l)/\env 6=.int .i64 i/\U=⟨[],[]⟩/\∀j,j<i->Qu l j=false) l.length ⟨0,by simp[h0,h3]⟩ ?_;rintro n env U ⟨i,hi,rfl,h0,h3,h6,rfl,hd⟩
  cases hv:l[i]? with
  | some v=>
   obtain⟨hc,hv'⟩:=qAU.1 hv;have next:Qu l i=false->∀j,j<i+1->Qu l j=false:=fun h j hj=>by
    rcases qB5.1 hj with hj|rfl
    . exact hd j hj
    exact h
   simp[h0,h6,hc,hv',zk,zR,yT,zT,show(i:Int)<=l.length by omega];rw[<- List.map_take];refine qFA (qeH GG (l.take i) v.name (by simp;omega)) ?_ ?_ ?_
   . simp only[qw,qO,qyl,qC2]
   . simp only[zm,qFw,and_true]
     try exact Leq.sl (by rw[List.map_take])
   have hge:=qk5 (fun x:Var=>x.name==v.name) (l.take i);rw[<- show Qu l i=(l.take i).any (fun x=>x.name==v.name) by simp[Qu,hv,Qn]]at hge;cases hdi:Qu l i
   . rw[hdi]at hge;have hf:=of_decide_eq_false hge;simp[hf,h0,h3,h6];exact⟨_,by omega,i+1,by omega,rfl,wr (by omega) (by omega),next hdi⟩
   rw[hdi]at hge;have e:jg l=8:=(by simp[jg,h16,hz0,qlg hc hdi]);rw[e];simp[of_decide_eq_true hge]
  | none=>
   have hc:¬i<l.length:=(by simp at hv;omega);have hnd:=qlh (l:=l) fun j hj=>hd j (by omega)
   simp[h0,h6,hc];refine qFz (qvn l hl hs fun v hv=>((fun v hv=>zi (hz v hv)) v hv).1) (by simp) ?_;cases hg:l.any fun v=>WN l v.name
   . by_cases hb:20<yE l
     . have e:jg l=2:=(by simp only[jg,h16,hz0,hnd,hg,hb];rfl);rw[e];simp[hb,h3]
     . have e:jg l=0:=(by simp only[jg,h16,hz0,hnd,hg,hb];rfl);rw[e];simp[hb,h3]
   have e:jg l=10:=(by simp only[jg,h16,hz0,hnd,hg];rfl);rw[e];simp
def qiQ(w):Pure prog GG 261 [.agg (qz w)] (.bool (zY w)):=by
 refine qFP qg func261 rfl (by kernel_rfl) ?_;by_cases c1:w.lo<0
 . have x:zY w=true:=(by simp[zY,c1]);rw[x];simp[c1]
 by_cases c2:w.hi<w.lo
 . have x:zY w=true:=(by simp[zY,c2]);rw[x];simp[c1,c2]
 by_cases c3:65535<w.hi
 . have x:zY w=true:=(by simp[zY,c3]);rw[x];simp[c1,c2,c3]
 by_cases c4:w.weight<0
 . have x:zY w=true:=(by simp[zY,c4]);rw[x];simp[c1,c2,c3,c4]
 have x:zY w=decide (1000<w.weight):=by simp[zY,c1,c2,c3,c4]
 rw[x];simp[c1,c2,c3,c4]
def qg5(l)(hl:Fits l):Pure prog GG 182 [.sl 4 (l.map qz) .none] (.bool (!l.any zY)):=by
 refine qFP qg func182 rfl (by kernel_rfl) ?_;simp;refine qFz (Z8 GG l zY 261 [] [] hl rfl rfl fun v _=>qiQ v) (by simp) ?_;simp
def qrh(x d):Pure prog GG 181 [.agg (zs x),.rptr (zs d)] (.bool (x.var==d.var)):=by
 refine qFP qg func181 rfl (by kernel_rfl) ?_;simp
def qp4{f n i}(hi:i<n)(hz:∀j,j<i->f j=0)(hf:f i≠0):qY f (List.range n)=f i :=
 k0 (l:=List.range n) (i:=i) (v:=i) (by simp[hi]) (fun a ha=>by
  rw[List.take_range]at ha;have:=qCd.1 ha;exact hz a (by omega)) hf
def qk4{f n}(hz:∀j,j<n->f j=0):qY f (List.range n)=0:=zF.2 fun a ha=>hz a (qCd.1 ha)
def qat(l i):(decide (0<=i)&&(l[i.toNat]?).any (fun v=>v.mode != 0))=yO l i:=rfl
def qsU(p)(hd:Fits p.dists)(hw:∀d∈p.dists,Fits d.weights):Pure prog GG 124 [.agg (qA p)] (.int .i64 (yB p.vars p.dists)):=by
 refine qFP qg func124 rfl (by kernel_rfl) ?_;simp;refine qFM (fun n env U=>∃i tail,i<=p.dists.length/\n=p.dists.length-i/\env 1=.ptr 0 0/\env 6=.sl 2 (p.dists.map zs) .none/\env 7=.int .i64 p.dists.length/\env 8=.int .i64 i/\U=⟨.cells (qA p)::tail,[]⟩/\∀j,j<i->jT p.vars p.dists j=0) p.dists.length ⟨0,[],by simp⟩ ?_;rintro n env U ⟨i,tail,hi,rfl,h1,h6,h7,h8,rfl,hz⟩
 cases hv:p.dists[i]? with
 | some d=>
  obtain⟨hc,hv'⟩:=qAU.1 hv;have hm:=qAV hv;have bad:jT p.vars p.dists i≠0->yB p.vars p.dists=jT p.vars p.dists i:=fun h=>qp4 hc hz h
  have next:jT p.vars p.dists i=0->∀j,j<i+1->jT p.vars p.dists j=0:=fun h j hj=>by
   rcases qB5.1 hj with hj|rfl
   . exact hz j hj
   exact h
  have hle:i<=p.dists.length:=by omega
  have hle':(i:Int)<=p.dists.length:=by omega
  have hr:=jp GG p d.var;rw[qat]at hr;simp only[qA]at hr;simp[h1,h6,h7,h8,hc,hv',qBx];refine qFz hr (by simp) ?_;cases hrn:yO p.vars d.var
  . have x:jT p.vars p.dists i=1:=(by simp[jT,hv,hrn]);rw[bad (by rw[x];decide),x];simp
  simp[h1,zk,zR,yT,zT,hle,qBx];have hcf:=Yp GG (p.dists.take i) (fun y=>y.var==d.var) 181 [] [.rptr (zs d)] (by simp;omega) rfl (by simp) fun y _=>qrh y d
  refine qa.lent hcf rfl ?_ ?_
  . have htk:(p.dists.map zs).take i=(p.dists.take i).map zs:=List.map_take.symm;simp[frz,-List.map_take,htk]
  cases hdp:(p.dists.take i).any fun y=>y.var==d.var
  . by_cases h16:16<d.weights.length
    . have h16':(16:Int)<d.weights.length:=(by omega);have x:jT p.vars p.dists i=2:=(by simp only[jT,hv,hrn,hdp,h16];rfl);rw[bad (by rw[x];decide),x];simp[h16']
    . have h16':¬(16:Int)<d.weights.length:=(by omega);simp[h16'];refine qFz (qg5 d.weights (hw d hm)) (by simp) ?_;cases hwt:d.weights.any zY
      . have x:jT p.vars p.dists i=0:=(by simp only[jT,hv,hrn,hdp,h16,hwt];rfl);simp[h1,h6,h7,h8];exact⟨_,by omega,i+1,by omega,rfl,wr (by omega) (by omega),next x⟩
      have x:jT p.vars p.dists i=1:=(by simp only[jT,hv,hrn,hdp,h16,hwt];rfl);rw[bad (by rw[x];decide),x];simp
  have x:jT p.vars p.dists i=8:=by simp only[jT,hv,hrn,hdp];rfl
  rw[bad (by rw[x];decide),x];simp
 | none=>
  have hc:¬i<p.dists.length:=by simp at hv;omega
  have x:yB p.vars p.dists=0:=qk4 fun j hj=>hz j (by omega)
  rw[x];simp[h6,h7,h8,hc]
def Yh(n:Nat)(d:List Int):List AV:=(List.range n).map fun(j:Nat)=>AV.bool (decide ((j:Int)∈d))
@[simp]def qpy{n d}:(Yh n d).length=n:=by simp[Yh]
def qjy{n}:(List.replicate n [AV.bool false]).flatten=Yh n []:=by
 simp only[Yh,qDg,decide_false]
 induction n with
 |zero=>simp
 |succ n ih=>rw[qCk,qBV,<- ih,qDL];simp
def ZH{n j d}(h:j<n):(Yh n d)[j]?=some (.bool (decide ((j:Int)∈d))):=by simp[Yh,h]
def qjx{n j d}(h:j<n):(Yh n d).set j (.bool true)=Yh n (d++[(j:Int)]):=by
 apply qB2;intro i;by_cases hi:i<n
 . rw[qCU,ZH hi,ZH hi];by_cases hij:j=i
   . subst hij;simp[h]
   rw[if_neg hij];have:¬(i:Int)=j:=by omega
   simp[this]
 rw[qBs (by simp;omega),qBs (by simp;omega)]
def VT{g:List (List Int)}{i k}{x:List Int}{v}(hg:g[i]?=some x)(hx:x[k]?=some v):
 g.flatten=((g.take i).flatten++x.take k)++v::(x.drop (k+1)++(g.drop (i+1)).flatten):=by
 conv=>lhs;rw[show g=g.take i++x::g.drop (i+1) by conv=>lhs;rw[<- qBF i g,zf hg]]
 rw[qCW,qBI]
 conv=>lhs;rw[show x=x.take k++v::x.drop (k+1) by conv=>lhs;rw[<- qBF k x,zf hx]]
 simp
def qc6{g:List (List Int)}{i x}(hg:g[i]?=some x):(g.take (i+1)).flatten=(g.take i).flatten++x:=by
 rw[qBi,hg];simp
def qkP(p)(hv:p.vars=[])(hg:Fits p.groups):Pure prog GG 126 [.agg (qA p)] (.int .i64 (zK p.vars p.groups)):=by
 refine qFP qg func126 rfl (by kernel_rfl) ?_;have hr0:∀i,yO p.vars i=false:=fun i=>by simp[yO,hv]
 have hrv:p.vars.length=0:=by rw[hv];rfl
 simp[qG,hrv];refine qFM (fun n env U=>n=1/\env 1=.ptr 0 0/\env 14=.sl 1 (p.groups.map qD) .none/\env 15=.int .i64 p.groups.length/\env 16=.int .i64 0/\U=⟨[.cells (qA p)],[some 0]⟩) 1 ⟨rfl,by simp⟩ ?_;rintro n env U ⟨rfl,h1,h14,h15,h16,rfl⟩
 cases hgs:p.groups with
 | nil=>
  have x:zK p.vars []=0:=by
   unfold zK;rw[if_pos ⟨by simp,by simp,by simp,fun i hi=>by omega⟩]
  rw[hgs]at h15;rw[x];simp[*];refine qFM (fun n env U=>n=1/\env 46=.int .i64 0/\env 47=.int .i64 0) 1 ⟨rfl,by simp⟩ ?_;rintro n env U ⟨rfl,h46,h47⟩;simp[*]
 | cons g r=>
  rw[hgs]at h14 h15
  cases g with
  | nil=>
   have x:zK p.vars ([]::r)=1:=by
    unfold zK;rw[if_neg (wD (by simp))]
   rw[x];have hp:(0:Int)<r.length+1:=(by omega);simp[*]
  | cons v g=>
   have x:zK p.vars ((v::g)::r)=1:=by
    unfold zK;rw[if_neg (VR (i:=v) (by simp) (hr0 v))]
   rw[x];simp[h1,h14,h15,h16,show(0:Int)<r.length+1 by omega,show ¬(g.length:Int)+1=0 by omega];refine qFM (fun n env U=>n=1/\env 1=.ptr 0 0/\env 23=.sl 1 ((v::g).map qh) .none/\env 24=.int .i64 (g.length+1)/\env 25=.int .i64 0/\U=⟨[.cells (qA p)],[some 0]⟩) 1 ⟨rfl,by simp[h1]⟩ ?_;rintro n env U ⟨rfl,h1,h23,h24,h25,rfl⟩;have hr:=jp GG p v;rw[qat,hr0]at hr;simp at hr;simp[h1,h23,h24,h25,show(0:Int)<g.length+1 by omega];refine qFz hr (by simp) ?_;simp
def qhu{n}:List.replicate n (AV.bool false)=Yh n []:=by
 rw[<- qjy]
 induction n with
 |zero=>rfl
 |succ n ih=>rw[qCV,qCV,qBI,<- ih];rfl
def GI(l:List Var)(d:List Int):Prop:=(∀v∈d,yO l v=true)/\d.Nodup
def GI.add{l d v}(h:GI l d)(hr:yO l v=true)(hn:v∉d):GI l (d++[v]):=by
 refine⟨fun x hx=>?_,?_⟩
 . rcases qBb.1 hx with hx|hx
   . exact h.1 x hx
   . rwa[qBD.1 hx]
 rw[qCu];refine⟨h.2,by simp,fun a ha b hb e=>?_⟩;rw[qBD.1 hb]at e;exact hn (e▸ha)
def NE(g:List (List Int)):Prop:=∀x∈g,x≠[]
def kI{c:List AV}{j v}(h:c[j]?=some v):(c.drop j).take 1=[v]:=by
 rw[zf h];rfl
def qkO(p)(hv:p.vars≠[])(hv20:p.vars.length<=1000)(hg:Fits p.groups)(hgs:∀g∈p.groups,Fits g):Pure prog GG 126 [.agg (qA p)] (.int .i64 (zK p.vars p.groups)):=by
 refine qFP qg func126 rfl (by kernel_rfl) ?_;have hn0:=qBf.2 hv;obtain⟨N,hN⟩:∃N,N=p.vars.length:=⟨_,rfl⟩;have hc2:¬(N:Int)=0:=by omega
 have rnd:∀i,Pure prog GG 112 [.agg [.sl 4 (p.vars.map qM) .none,.sl 4 (p.hard.map qt) .none,.sl 4 (p.soft.map qt) .none,.sl 2 (p.dists.map zs) .none,.sl 1 (p.groups.map qD) .none],.int .i64 i] (.bool (yO p.vars i)):=fun i=>by
  have hr:=jp GG p i;rw[qat]at hr;simpa only[qA] using hr
 have bad:¬yh p.vars p.groups->zK p.vars p.groups=1:=fun h=>by unfold zK;rw[if_neg h]
 simp[qG,<- hN,show(N:Int)<=549755813888 by omega,show ¬N=0 by omega,qhu];refine qFM (fun n env U=>∃i,i<=p.groups.length/\n=p.groups.length-i/\env 1=.ptr 0 0/\env 3=.ms 1 0 N 1/\env 14=.sl 1 (p.groups.map qD) .none/\env 15=.int .i64 p.groups.length/\env 16=.int .i64 i/\U=⟨[.cells (qA p),.cells (Yh N (p.groups.take i).flatten)],[]⟩/\NE (p.groups.take i)/\GI p.vars (p.groups.take i).flatten) p.groups.length ⟨0,by simp,by simp,by simp,by simp,by simp,by simp,by simp,by simp,by simp[NE],by simp[GI]⟩ ?_;rintro n env U ⟨i,hi,rfl,h1,h3,h14,h15,h16,rfl,hne,hgi0⟩
 cases hgi:p.groups[i]? with
 | some g=>
  obtain⟨hc,hv'⟩:=qAU.1 hgi;have hm:=qAV hgi;have hfg:=hgs g hm;by_cases hge:g=[]
  . rw[bad (wD (hge▸hm))];subst hge;simp[h1,h14,h15,h16,hc,hv']
  have hgl:¬(g.length:Int)=0:=by have:=qBf.2 hge;omega
  simp[h1,h14,h15,h16,hc,hv',show ¬g.length=0 by have:=qBf.2 hge;omega];refine qFM (fun n env U=>∃k,k<=g.length/\n=g.length-k/\env 1=.ptr 0 0/\env 3=.ms 1 0 N 1/\env 14=.sl 1 (p.groups.map qD) .none/\env 15=.int .i64 p.groups.length/\env 16=.int .i64 i/\env 23=.sl 1 (g.map qh) .none/\env 24=.int .i64 g.length/\env 25=.int .i64 k/\U=⟨[.cells (qA p),.cells (Yh N ((p.groups.take i).flatten++g.take k))],[]⟩/\GI p.vars ((p.groups.take i).flatten++g.take k)) g.length ⟨0,by simp[h1,h3,h14,h15,h16];exact hgi0⟩ ?_;clear h1 h3 h14 h15 h16;rintro n env U ⟨k,hk,rfl,h1,h3,h14,h15,h16,h23,h24,h25,rfl,hgi1⟩
  cases hvk:g[k]? with
  | some v=>
   obtain⟨hck,hvk'⟩:=qAU.1 hvk;have hsp:=VT hgi hvk;simp[h1,h3,h14,h15,h16,h23,h24,h25,hck,hvk'];refine qFz (rnd v) (by simp) ?_;cases hr:yO p.vars v
   . rw[bad (VR (by rw[hsp];simp) hr)];simp
   obtain⟨r1,r2⟩:=Jp hr;obtain⟨j,rfl⟩:=qBe r1;have hj:j<N:=(by omega);have hj':(j:Int)<N:=(by omega);have hg1:=ZH (d:=(p.groups.take i).flatten++g.take k) hj;have hset:=qjx (d:=(p.groups.take i).flatten++g.take k) hj;have htk:g.take (k+1)=g.take k++[(j:Int)]:=(by rw[qBi,hvk];rfl);have hj1:j+1<=N:=hj;by_cases hmem:(j:Int)∈(p.groups.take i).flatten++g.take k
   . rw[bad (qh9 hsp hmem)];rw[decide_eq_true hmem]at hg1;have ht1:=kI hg1;simp[h1,h3,h14,h15,h16,h23,h24,h25,hj,hj',hj1,ht1]
   rw[decide_eq_false hmem]at hg1;have ht1:=kI hg1;simp[h1,h3,h14,h15,h16,h23,h24,h25,hj,hj',hj1,ht1,hset];refine⟨_,by omega,k+1,by omega,rfl,wr (by omega) (by omega),?_,?_⟩
   . rw[htk]
   rw[htk,<- qBE];exact hgi1.add hr hmem
  | none=>
   have hck:¬k<g.length:=(by simp at hvk;omega);have ht:g.take k=g:=qAZ (by omega);rw[ht]at hgi1;have hft:=qc6 hgi;simp[h1,h3,h14,h15,h16,h23,h24,h25,hck,show IntKind.i64.wrap ((i:Int)+1)=((i+1:Nat):Int) by rw[wr (by omega) (by omega)];omega];refine⟨_,by omega,i+1,by omega,rfl,rfl,?_,?_,?_⟩
   . rw[hft,ht]
   . intro x hx;rw[qBi,hgi]at hx;rcases qBb.1 hx with hx|hx
     . exact hne x hx
     simp at hx;rwa[hx]
   rwa[hft]
 | none=>
  have hc:¬i<p.groups.length:=by simp at hgi;omega
  have ht:p.groups.take i=p.groups:=qAZ (by omega);rw[ht]at hne hgi0;simp[h1,h14,h15,h16,hc];refine qFM (fun n env U=>∃i,i<=N/\n=N-i/\env 1=.ptr 0 0/\env 3=.ms 1 0 N 1/\env 46=.int .i64 N/\env 47=.int .i64 i/\U=⟨[.cells (qA p),.cells (Yh N p.groups.flatten)],[]⟩/\∀j:Nat,j<i->yO p.vars j=true->(j:Int)∈p.groups.flatten) N ⟨0,by simp[h1,h3,<- hN,ht]⟩ ?_;rintro n env U ⟨j,hj0,rfl,h1,h3,h46,h47,rfl,hall⟩;by_cases hj:j<N
  . have hj':(j:Int)<N:=(by omega);have hj1:j+1<=N:=hj;have hg1:=ZH (d:=p.groups.flatten) hj;simp[h1,h46,h47,hj];refine qFz (rnd j) (by simp) ?_;cases hr:yO p.vars j
    . simp[h1,h3,h46,h47];refine⟨_,by omega,j+1,by omega,rfl,wr (by omega) (by omega),?_⟩;intro q hq hqr;rcases qB5.1 hq with hq|rfl
      . have:=hall q hq hqr;simpa using this
      rw[hr]at hqr;cases hqr
    by_cases hmem:(j:Int)∈p.groups.flatten
    . rw[decide_eq_true hmem]at hg1;have ht1:=kI hg1;simp[h1,h3,h46,h47,hj,hj1,ht1];refine⟨_,by omega,j+1,by omega,rfl,wr (by omega) (by omega),?_⟩;intro q hq hqr;rcases qB5.1 hq with hq|rfl
      . have:=hall q hq hqr;simpa using this
      simpa using hmem
    rw[bad (qeB (by omega) hr hmem)];rw[decide_eq_false hmem]at hg1;have ht1:=kI hg1;simp[h1,h3,h46,h47,hj,hj1,ht1]
  have x:zK p.vars p.groups=0:=by
   unfold zK;rw[if_pos ⟨hne,hgi0.1,hgi0.2,fun q hq hqr=>hall q (by omega) hqr⟩]
  rw[x];simp[h1,h46,h47,hj]
def qok(p)(hv20:p.vars.length<=1000)(hg:Fits p.groups)(hgs:∀g∈p.groups,Fits g):Pure prog GG 126 [.agg (qA p)] (.int .i64 (zK p.vars p.groups)):=by
 by_cases hv:p.vars=[]
 . exact qkP p hv hg
 exact qkO p hv hv20 hg hgs
