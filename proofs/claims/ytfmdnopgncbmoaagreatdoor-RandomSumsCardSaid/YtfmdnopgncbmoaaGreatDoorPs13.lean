import Derived.Test.YtfmdnopgncbmoaaGreatDoorPs08
set_option maxRecDepth 100000
set_option maxHeartbeats 16000000
set_option linter.all false
set_option linter.defProp false
namespace Go.Proofs.YtfmdnopgncbmoaaGreatDoor
open Go Go.Abs Tryz
section
variable (G:Nat->AV)
def qsQ(v:Var)(name:Str):Pure prog G 208 [.agg (qD v),.rptr [.str name]] (.bool (v.name==name)):=by
 refine qDb qe func208 rfl (by kernel_rfl) ?_;simp
def index(l:List Var)(name:Str)(hl:Fits l):Pure prog G 142 [.sl 4 (l.map qD) .none,.str name] (.int .i64 (zu (fun v=>v.name==name) l 0)):=by
 refine qDb qe func142 rfl (by kernel_rfl) ?_;simp;refine qb.lent (Jj G l (fun v=>v.name==name) 208 [] [.rptr [.str name]] hl rfl rfl fun v _=>qsQ G v name) rfl ?_ ?_
 . simp[frz]
 simp
def jc(p i):Pure prog G 86 [.agg (qA p),.int .i64 i] (.bool (decide (0<=i)&&(p.vars[i.toNat]?).any (fun v=>v.mode != 0))):=by
 refine qDb qe func86 rfl (by kernel_rfl) ?_;by_cases h0:0<=i
 . cases hv:p.vars[i.toNat]? with
   | none=>
    have h1:¬i<p.vars.length:=(by simp at hv;omega);simp[h0,h1]
   | some v=>
    obtain⟨hc,hv'⟩:=qyF.1 hv;simp[h0,show i<p.vars.length by omega,hv']
 simp[h0]
end
def vM{α:Type}(p:α->Bool)(l:List α):decide (zu p l 0<0) = !l.any p:=by
 have h:=Vx (p:=p) (l:=l) (i:=0) (by omega);cases hb:l.any p
 . rw[hb]at h;have:¬0<=zu p l 0:=fun e=>by have:=h.1 e;cases this
   simp;omega
 rw[hb]at h;have:=h.2 rfl;simp;omega
def qbx{l name}(h:kj name=none):Kv l name=false:=by simp[Kv,h]
def qbv{l name a}(h:jm name a 0):Kv l name=false:=by simp[Kv,wU h]
def qbw{l name a i}(h:jm name a (i+1)):Kv l name = !vK l (zV a i):=by simp[Kv,wU h]
def qsU(l:List Var)(name:Str)(hl:Fits l)(hs:Fits name)(hv:kq name=true):Pure prog GG 145 [.sl 4 (l.map qD) .none,.str name] (.bool (Kv l name)):=by
 refine qDb qe func145 rfl (by kernel_rfl) ?_;simp;cases hc:name.contains 91
 . refine qCW (qdb GG name hs hc) rfl ?_;rw[qbx (YE hc)];simp
 refine qCW (qjj GG name hs hc) rfl ?_;simp;have hn:zQ name=false:=by
  cases e:zQ name
  . rfl
  exact absurd (ww e 91 (by simpa using hc)) (by simp)
 obtain⟨a,i,hi⟩:∃a i,jm name a i:=by
  simp only[kq,hn,qBf,qBz]at hv;obtain⟨p,hp⟩:=hv;exact⟨p.1,p.2,yY.1 hp⟩
 have hh:=hi.has.2.1;have hal:a.length<=1000:=by have:=wO hi.2.1;omega
 rw[hh];refine qC9 (fun n env U=>∃j:Nat,1<=j/\j<=8/\n=8-j/\env 0=.sl 4 (l.map qD) .none/\env 1=.str name/\env 5=.str a/\env 8=.int .i64 j/\U=⟨[],[]⟩/\(i=0\/j<=i)) 7 ⟨1,by simp,by simp,by simp,by simp,by simp,by simp,by simp,rfl,by omega⟩ ?_;rintro n env U ⟨j,hj1,hj8,rfl,h0,h1,h5,h8,rfl,hj⟩;by_cases hlt:j<8
 . have hlt':(j:Int)<8:=(by omega);simp[h1,h5,h8,hlt'];refine qCW (ZS a j hlt hal) rfl ?_;by_cases he:j=i
   . subst he;rw[<- hi.2.2];obtain⟨k,rfl⟩:∃k,j=k+1:=⟨j-1,by omega⟩;have hw2:IntKind.i64.wrap ((k:Int)+1-1)=k:=(by rw[wr (by omega) (by omega)];omega);simp[h0,h1,h5,h8,show IntKind.i64.wrap (k:Int)=k from wr (by omega) (by omega)];refine qCW (ZS a k (by omega) hal) rfl ?_;refine qCW (index GG l (zV a k) hl) (by simp) ?_;rw[qbw hi];simp[vM,vK]
   have hne:¬name=zV a j:=by
    intro e;exact he (Kc hlt hi.1 (e.symm.trans hi.2.2)).2
   simp[h0,h1,h5,h8,hne];refine⟨_,by omega,j+1,by omega,by omega,rfl,wr (by omega) (by omega),by omega⟩
 have hlt':¬(j:Int)<8:=by omega
 have hi0:i=0:=by have:=hi.1;omega
 subst hi0;rw[qbv hi];simp[h1,h5,h8,hlt']
def qoJ(l v)(hl:Fits l)(hs:Fits v.name)(hv:kq v.name=true):Pure prog GG 144 [.agg (qD v),.rptr [.sl 4 (l.map qD) .none]] (.bool (Kv l v.name)):=by
 refine qDb qe func144 rfl (by kernel_rfl) ?_;simp;refine qCW (qsU l v.name hl hs hv) (by simp) ?_;simp
def qvD{w:Int}(h1:1<=w)(h2:w<=8):IntKind.i64.wrap (2^(min w.toNat 64))=2^w.toNat:=by
 obtain⟨k,rfl⟩:=qzg (show 0<=w by omega);have:k=1\/k=2\/k=3\/k=4\/k=5\/k=6\/k=7\/k=8:=by omega
 rcases this with rfl|rfl|rfl|rfl|rfl|rfl|rfl|rfl<;>decide
def qcp(v)(hs:Fits v.name):Pure prog GG 68 [.agg (qD v)] (.int .i64 (jK v)):=by
 refine qDb qe func68 rfl (by kernel_rfl) ?_;simp;refine qCW (qlF v.name hs) rfl ?_;cases hn:kq v.name
 . simp[jK,hn]
 by_cases c1:v.width<1
 . have e:jK v=1:=(by simp[jK,hn,c1]);simp[e,c1]
 by_cases c2:8<v.width
 . have e:jK v=1:=(by simp[jK,hn,c2]);simp[e,c1,c2]
 by_cases c3:v.mode<0
 . have e:jK v=1:=(by simp[jK,hn,c3]);simp[e,c1,c2,c3]
 by_cases c4:2<v.mode
 . have e:jK v=1:=(by simp[jK,hn,c4]);simp[e,c1,c2,c3,c4]
 by_cases c5:v.value<0
 . have e:jK v=1:=(by simp[jK,hn,c5]);simp[e,c1,c2,c3,c4,c5]
 have c6:¬v.width<0:=by omega
 have hsh:=qvD (w:=v.width) (by omega) (by omega);by_cases m0:v.mode=0
 . by_cases c7:(2:Int)^v.width.toNat<=v.value
   . have e:jK v=1:=(by simp[jK,hn,c7]);simp[e,c1,c2,c5,c6,m0,hsh,c7,IntKind.bits]
   . have e:jK v=0:=(by simp[jK,hn,c1,c2,c5,c7,m0]);simp[e,c1,c2,c5,c6,m0,hsh,c7,IntKind.bits]
 by_cases c8:v.value=0
 . have c9:¬(2:Int)^v.width.toNat<=0:=by
    have:(0:Int)<2^v.width.toNat:=qCm (by omega);omega
   have e:jK v=0:=(by simp[jK,hn,c1,c2,c3,c4,c8,c9]);simp[e,c1,c2,c3,c4,c6,m0,hsh,c8,c9,IntKind.bits]
 have e:jK v=1:=by simp[jK,hn,m0,c8]
 simp[e,c1,c2,c3,c4,c5,c6,m0,hsh,c8,IntKind.bits]
def WF{l:List Var}{i}{v:Var}(h:l[i]?=some v):j5 (l.take (i+1))=j5 (l.take i)+(if v.mode≠0 then v.width else 0):=by
 rw[qzb,h];have:∀(m n:List Var),j5 (m++n)=j5 m+j5 n:=by
  intro m n
  induction m with
  |nil=>simp[j5]
  |cons a r ih=>simp only[qy3,j5,ih];omega
 rw[this];simp[j5]
def zc{v}(h:jK v=0):kq v.name=true/\1<=v.width/\v.width<=8:=by
 unfold jK at h;split at h
 . cases h
 rename_i hn;split at h
 . cases h
 rename_i hc;refine⟨by simpa using hn,?_,?_⟩
 . apply Classical.byContradiction;intro e;exact hc (.inl (by omega))
 apply Classical.byContradiction;intro e;exact hc (.inr (.inl (by omega)))
def Kj{l}(h:∀v∈l,1<=v.width/\v.width<=8):0<=j5 l/\j5 l<=8*l.length:=by
 induction l with
 |nil=>simp[j5]
 | cons a r ih=>
  have h1:=h a (by simp);have h2:=ih fun v hv=>h v (by simp[hv])
  simp only[j5,qyY];split<;>omega
def qc2{l:List Var}{i:Nat}{v:Var}(h:l[i]?=some v):(zu (fun x=>x.name==v.name) l 0=i)↔vO l i=false:=by
 have gen:∀(l:List Var) (i:Nat) (k:Int),l[i]?=some v->((zu (fun x=>x.name==v.name) l k=k+i)↔(l.take i).any (fun x=>x.name==v.name)=false):=by
  intro l
  induction l with
  |nil=>intro i k h;simp at h
  | cons a r ih=>
   intro i k h
   cases i with
   | zero=>
    simp only[qCh,qyU]at h;subst h;simp[zu]
   | succ i=>
    simp only[qBd]at h;simp only[zu,qBb,qAS];by_cases hn:a.name=v.name
    . simp[hn];omega
    have hb:(a.name==v.name)=false:=(by simpa using hn);simp only[hb,qy4,if_false,qBf];rw[<- ih i (k+1) h];constructor<;>intro e<;>omega
 have:=gen l i 0 h;simp only[qCD]at this;rw[this];simp[vO,h,vK]
def qja{l i}(hi:i<l.length)(h:vO l i=true):qn8 l=true:=by
 unfold qn8;exact qy8.2 ⟨i,qzP.2 hi,h⟩
def qjb{l}(h:∀i,i<l.length->vO l i=false):qn8 l=false:=by
 unfold qn8;rw[qzT];intro e;obtain⟨i,h1,h2⟩:=qy8.1 e;rw[h i (qzP.1 h1)]at h2;cases h2
def kh{α:Type}{f:α->Int}{l:List α}{i}{v:α}(h:l[i]?=some v)(hz:∀a∈l.take i,f a=0)(hv:f v≠0):qO f l=f v:=by
 obtain⟨hc,hv'⟩:=qyF.1 h;have:l=l.take i++v::l.drop (i+1):=by
  conv=>lhs;rw[<- qzA i l,zA h]
 rw[this,jQ,zz.2 hz];simp[qO,hv]
def za{α:Type}{p:α->Prop}{l:List α}{i:Nat}{v:α}(h:l[i]?=some v)(hz:∀a∈l.take i,p a)(hv:p v):∀a∈l.take (i+1),p a:=by
 intro a ha;rw[qzb,h]at ha;rcases qy0.1 ha with ha|ha
 . exact hz a ha
 simp at ha;rwa[ha]
def qrO(l)(hl:Fits l)(hs:∀v∈l,Fits v.name):Pure prog GG 98 [.sl 4 (l.map qD) .none] (.int .i64 (zW l)):=by
 refine qDb qe func98 rfl (by kernel_rfl) ?_;by_cases h16:16<l.length
 . have e:zW l=2:=(by simp[zW,h16]);have h16':(16:Int)<l.length:=(by omega);rw[e];simp[h16']
 have h16':¬(16:Int)<l.length:=by omega
 simp[h16'];refine qC9 (fun n env U=>∃i tail,i<=l.length/\n=l.length-i/\env 1=.ptr 0 0/\env 11=.sl 4 (l.map qD) .none/\env 12=.int .i64 l.length/\env 13=.int .i64 i/\U=⟨.cells [.sl 4 (l.map qD) .none]::tail,[]⟩/\∀v∈l.take i,jK v=0) l.length ⟨0,[],by simp⟩ ?_;rintro n env U ⟨i,tail,hi,rfl,h1,h11,h12,h13,rfl,hz⟩
 cases hv:l[i]? with
 | some v=>
  obtain⟨hc,hv'⟩:=qyF.1 hv;have hm:=qyG hv;have bad:jK v≠0->zW l=jK v:=by
   intro hne;have:=kh hv hz hne;simp[zW,h16,this,hne]
  simp[h1,h11,h12,h13,hc,hv',qzi];refine qCW (qlG v.name (hs v hm)) rfl ?_;have next:jK v=0->∀a∈l.take (i+1),jK a=0:=fun h=>za hv hz h
  cases hn:kq v.name
  . have e:jK v=7:=(by simp[jK,hn]);simp[bad (by rw[e];decide),e]
  by_cases c1:v.width<1
  . have e:jK v=1:=(by simp[jK,hn,c1]);simp[c1,bad (by rw[e];decide),e]
  by_cases c2:8<v.width
  . have e:jK v=1:=(by simp[jK,hn,c2]);simp[c1,c2,bad (by rw[e];decide),e]
  by_cases c3:v.mode<0
  . have e:jK v=1:=(by simp[jK,hn,c3]);simp[c1,c2,c3,bad (by rw[e];decide),e]
  by_cases c4:2<v.mode
  . have e:jK v=1:=(by simp[jK,hn,c4]);simp[c1,c2,c3,c4,bad (by rw[e];decide),e]
  by_cases c5:v.value<0
  . have e:jK v=1:=(by simp[jK,hn,c5]);simp[c1,c2,c3,c4,c5,bad (by rw[e];decide),e]
  have c6:¬v.width<0:=by omega
  have hsh:=qvD (w:=v.width) (by omega) (by omega);by_cases c7:(2:Int)^v.width.toNat<=v.value
  . have e:jK v=1:=(by simp[jK,hn,c7]);simp[c1,c2,c3,c4,c5,c6,hsh,c7,IntKind.bits,bad (by rw[e];decide),e]
  by_cases m0:v.mode=0
  . have e:jK v=0:=(by simp[jK,hn,c1,c2,c5,c7,m0]);simp[c1,c2,c5,c6,hsh,c7,IntKind.bits,m0,h1,h11,h12,h13];exact⟨_,by omega,i+1,by omega,rfl,wr (by omega) (by omega),next e⟩
  by_cases c8:v.value=0
  . have hp:(0:Int)<2^v.width.toNat:=qCm (by omega);have e:jK v=0:=(by simp[jK,hn,c1,c2,c3,c4,c8,hp]);simp[c1,c2,c3,c4,c6,hsh,IntKind.bits,m0,c8,show ¬(2:Int)^v.width.toNat<=0 by omega,h1,h11,h12,h13];exact⟨_,by omega,i+1,by omega,rfl,wr (by omega) (by omega),next e⟩
  have e:jK v=1:=by simp[jK,hn,m0,c8]
  simp[c1,c2,c3,c4,c5,c6,hsh,c7,IntKind.bits,m0,c8,bad (by rw[e];decide),e]
 | none=>
  have hc:¬i<l.length:=by simp at hv;omega
  have ht:l.take i=l:=qyN (by omega);rw[ht]at hz;have hz0:=zz.2 hz;simp[h1,h11,h12,h13,hc];have hw:∀v∈l,kq v.name=true/\1<=v.width/\v.width<=8:=fun v hv=>zc (hz v hv)
  refine qC9 (fun n env U=>∃i tail,i<=l.length/\n=l.length-i/\env 1=.ptr 0 0/\env 5=.int .i64 (j5 (l.take i))/\env 63=.sl 4 (l.map qD) .none/\env 64=.int .i64 l.length/\env 65=.int .i64 i/\U=⟨.cells [.sl 4 (l.map qD) .none]::tail,[]⟩/\∀j,j<i->vO l j=false) l.length ⟨0,tail,by simp[h1,j5]⟩ ?_;rintro n env U ⟨i,tail,hi,rfl,h1,h5,h63,h64,h65,rfl,hd⟩
  cases hv:l[i]? with
  | some v=>
   obtain⟨hc,hv'⟩:=qyF.1 hv;have hm:=qyG hv;have hfi:=qc2 hv;have hb:=Kj (l:=l.take i) fun v hv=>(hw v (qzy hv)).2
   have hbl:(l.take i).length<=16:=(by simp;omega);have next:vO l i=false->∀j,j<i+1->vO l j=false:=fun h j hj=>by
    rcases qzK.1 hj with hj|rfl
    . exact hd j hj
    exact h
   simp[h1,h63,h64,h65,hc,hv',qzi];refine qCW (index GG l v.name hl) (by simp) ?_;cases hdi:vO l i
   . rw[hfi.2 hdi];have hbt:=WF hv;by_cases m0:v.mode=0
     . simp[m0,h1,h5,h63,h64,h65];refine⟨_,by omega,i+1,by omega,rfl,?_,wr (by omega) (by omega),next hdi⟩;rw[hbt];simp[m0]
     have hw2:=hw v hm;have hwr:IntKind.i64.wrap (j5 (l.take i)+v.width)=j5 (l.take (i+1)):=by
      rw[hbt,if_pos m0];exact wr (by omega) (by omega)
     simp[m0,h1,h5,h63,h64,h65,hwr];refine⟨_,by omega,i+1,by omega,rfl,rfl,wr (by omega) (by omega),next hdi⟩
   have hne:¬zu (fun x=>x.name==v.name) l 0=i:=by
    intro e;have:=hfi.1 e;rw[hdi]at this;cases this
   have e:zW l=8:=(by simp[zW,h16,hz0,qja hc hdi]);rw[e];simp[hne]
  | none=>
   have hc:¬i<l.length:=(by simp at hv;omega);have ht:l.take i=l:=qyN (by omega);rw[ht]at h5;have hnd:=qjb (l:=l) fun j hj=>hd j (by omega)
   simp[h1,h63,h64,h65,hc];refine qb.lent (vP GG l (fun v=>Kv l v.name) 144 [] [.rptr [.sl 4 (l.map qD) .none]] hl rfl (by simp) fun v hv=>qoJ l v hl (hs v hv) (hw v hv).1) rfl ?_ ?_
   . simp[frz]
   cases hg:l.any fun v=>Kv l v.name
   . by_cases hb:20<j5 l
     . have e:zW l=2:=(by simp[zW,h16,hz0,hnd,hg,hb]);rw[e];simp[hb,h5]
     . have e:zW l=0:=(by simp only[zW,h16,hz0,hnd,hg,hb];rfl);rw[e];simp[hb,h5]
   have e:zW l=10:=(by simp only[zW,h16,hz0,hnd,hg];rfl);rw[e];simp
def qsT(l)(hl:Fits l)(hs:∀v∈l,Fits v.name)(hv:∀v∈l,kq v.name=true):Pure prog GG 70 [.sl 4 (l.map qD) .none] (.bool (l.any fun v=>Kv l v.name)):=by
 refine qDb qe func70 rfl (by kernel_rfl) ?_;simp;refine qC9 (fun n env U=>∃i,i<=l.length/\n=l.length-i/\env 0=.sl 4 (l.map qD) .none/\env 3=.int .i64 i/\U=⟨[],[]⟩/\∀v∈l.take i,Kv l v.name=false) l.length ⟨0,by simp⟩ ?_;rintro n env U ⟨i,hi,rfl,h0,h3,rfl,hall⟩
 cases hv1:l[i]? with
 | none=>
  have hc:¬i<l.length:=by simp at hv1;omega
  rw[show l.take i=l from qyN (by omega)]at hall;have e:(l.any fun v=>Kv l v.name)=false:=by
   rw[qzT];intro e;obtain⟨v,h1,h2⟩:=qy8.1 e;rw[hall v h1]at h2;cases h2
  rw[e];simp only[qAg]at e;simp[h0,h3,hc]
  try exact hall
 | some v=>
  obtain⟨hc,hv'⟩:=qyF.1 hv1;have hm:=qyG hv1;have hfit:=hs v hm;simp[h0,h3,hc]
  -- the places of a bracket
  refine qC9 (fun n env U=>∃k:Nat,1<=k/\k<=v.name.length+1/\n=v.name.length+1-k/\env 0=.sl 4 (l.map qD) .none/\env 3=.int .i64 i/\env 4=.int .i64 k/\U=⟨[],[]⟩/\(∀a j,jm v.name a j->a.length<k->Kv l v.name=false)) v.name.length ⟨1,by simp,by simp,by simp,by simp[h0],by simp[h3],by simp,rfl,fun a j hj h=>by have:=qyZ.2 (Vj hj.2.1);omega⟩ ?_;clear h0 h3;rintro n env U ⟨k,hk1,hk,rfl,h0,h3,h4,rfl,hel⟩;by_cases hlt:k<v.name.length
  . have hlt':(k:Int)<v.name.length:=(by omega);have hle':(k:Int)<=v.name.length:=(by omega);have hle:k<=v.name.length:=(by omega);have step:(∀a j,jm v.name a j->a.length=k->Kv l v.name=false)->∀a j,jm v.name a j->a.length<k+1->Kv l v.name=false:=fun h a j hj hl=>by
     rcases qzK.1 hl with h1|h1
     . exact hel a j hj h1
     exact h a j hj h1
    have at91:∀a j,jm v.name a j->a.length=k->v.name[k]=91/\v.name.take k=a:=fun a j hj hl=>by
     have e:=hj.2.2;subst hl;constructor
     . simp[e,zV]
     conv=>lhs;rw[e]
     simp[zV]
    have hw:IntKind.i64.wrap ((k:Int)+1)=((k+1:Nat):Int):=(by rw[wr (by omega) (by omega)];omega);by_cases hb:v.name[k]=91
    . -- a bracket: every name that holds one is an element's
      have hnm:zQ v.name=false:=by
       cases e:zQ v.name
       . rfl
       exact absurd (ww e 91 (by rw[<- hb];exact qAV hlt)) (by simp)
      obtain⟨a,j,hj⟩:∃a j,jm v.name a j:=by
       have:=hv v hm;simp only[kq,hnm,qBf,qBz]at this;obtain⟨p,hp⟩:=this;exact⟨p.1,p.2,yY.1 hp⟩
      have hak:a.length=k:=by
       have e:=hj.2.2;apply Classical.byContradiction;intro hne;rcases Nat.lt_or_gt_of_ne hne with h|h
       . have hl4:v.name.length=a.length+3:=(by rw[e];simp);have hjl:=hj.1;have d:v.name[k]=[91,UInt8.ofNat (48+j),93][k-a.length]'(by simp;omega):=by
          simp only[e,zV];rw[List.getElem_append_right (by omega)]
         rw[hb]at d;have:k-a.length=1\/k-a.length=2:=by omega
         rcases this with h1|h1
         . simp only[h1,qCp,qCq]at d;have:=congrArg UInt8.toNat d;simp at this;omega
         simp only[h1,qCp,qCq]at d;cases d
       have d:v.name[k]=a[k]'h:=by
        simp only[e,zV];rw[List.getElem_append_left h]
       exact ww hj.2.1 _ (qAV h) (d.symm.trans hb)
      have hta:=(at91 a j hj hak).2;have hal:a.length<=1000:=(by have:=wO hj.2.1;omega);simp[h0,h3,h4,hc,hv',hlt,hb];refine qC9 (fun n env U=>∃m:Nat,1<=m/\m<=8/\n=8-m/\env 0=.sl 4 (l.map qD) .none/\env 3=.int .i64 i/\env 4=.int .i64 k/\env 5=.int .i64 m/\U=⟨[],[]⟩/\(1<=j->j<m->Kv l v.name=false)) 7 ⟨1,by simp,by simp,by simp,by simp[h0],by simp[h3],by simp[h4],by simp,rfl,by omega⟩ ?_;rintro n env U ⟨m,hm1,hm8,rfl,h0,h3,h4,h5,rfl,hin⟩;by_cases h8:m<8
      . have h8':(m:Int)<8:=(by omega);simp[h0,h3,h4,h5,h8',hc,hv',zo,zU,hle,hta];refine qCW (ZR a m h8 hal) rfl ?_;by_cases he:m=j
        . subst he;rw[<- hj.2.2];obtain⟨q,rfl⟩:∃q,m=q+1:=⟨m-1,by omega⟩;simp[h0,h3,h4,h5,hc,hv',zo,zU,hle,hta,show IntKind.i64.wrap (q:Int)=q from wr (by omega) (by omega)];refine qCW (ZR a q (by omega) hal) rfl ?_;refine qCW (qc4 GG l (zV a q) hl) (by simp) ?_;have hg:=qbw (l:=l) hj;cases hh:vK l (zV a q)
          . rw[hh]at hg;have hf:zu (fun v=>v.name==zV a q) l 0<0:=by
             have:=vM (fun v:Var=>v.name==zV a q) l;simp only[vK]at hh;rw[hh]at this;simpa using this
            rw[(fun h=>qy8.2 ⟨v,hm,h⟩) hg];simp[hf]
          rw[hh]at hg;have hf:¬zu (fun v=>v.name==zV a q) l 0<0:=by
           have:=vM (fun v:Var=>v.name==zV a q) l;simp only[vK]at hh;rw[hh]at this;simpa using this
          simp[hf,h0,h3,h4,h5];exact⟨_,by omega,q+2,by omega,by omega,rfl,by rw[wr (by omega) (by omega)];omega,fun _=>by simpa using hg⟩
        have hne:¬v.name=zV a m:=by
         intro e;exact he (Kc h8 hj.1 (e.symm.trans hj.2.2)).2
        simp[h0,h3,h4,h5,hne,show IntKind.i64.wrap ((m:Int)+1)=((m+1:Nat):Int) by rw[wr (by omega) (by omega)];omega];exact⟨_,by omega,m+1,by omega,by omega,rfl,rfl,fun h1 h2=>hin h1 (by omega)⟩
      have h8':¬(m:Int)<8:=(by omega);have hg:Kv l v.name=false:=by
       rcases qzV j with h|h
       . subst h;exact qbv hj
       exact hin h (by have:=hj.1;omega)
      simp[h0,h3,h4,h5,h8',hw];exact⟨_,by omega,k+1,by omega,by omega,rfl,rfl,step fun _ _ _ _=>hg⟩
    have hb':¬(v.name[k].toNat:Int)=91:=by
     intro e;exact hb (UInt8.toNat_inj.1 (by simp;omega))
    simp[h0,h3,h4,hc,hv',hlt,hb',hw];exact⟨_,by omega,k+1,by omega,by omega,rfl,rfl,step fun a j hj hl=>absurd (at91 a j hj hl).1 hb⟩
  have hlt':¬(k:Int)<v.name.length:=by omega
  have hg:Kv l v.name=false:=by
   cases he:kj v.name with
   |none=>exact qbx he
   | some p=>
    have hj:=yY.1 (show kj v.name=some (p.1,p.2) from he);refine hel p.1 p.2 hj ?_;have:v.name.length=p.1.length+3:=by rw[hj.2.2];simp
    omega
  simp[h0,h3,h4,hc,hv',hlt,show IntKind.i64.wrap ((i:Int)+1)=((i+1:Nat):Int) by rw[wr (by omega) (by omega)];omega];exact⟨_,by omega,i+1,by omega,rfl,rfl,(fun h=>za hv1 hall h) hg⟩
def qcn(l)(hl:Fits l)(hs:∀v∈l,Fits v.name):Pure prog GG 33 [.sl 4 (l.map qD) .none] (.int .i64 (zW l)):=by
 refine qDb qe func33 rfl (by kernel_rfl) ?_;by_cases h16:16<l.length
 . have e:zW l=2:=(by simp[zW,h16]);have h16':(16:Int)<l.length:=(by omega);rw[e];simp[h16']
 have h16':¬(16:Int)<l.length:=by omega
 simp[h16'];refine qC9 (fun n env U=>∃i,i<=l.length/\n=l.length-i/\env 0=.sl 4 (l.map qD) .none/\env 3=.int .i64 (j5 (l.take i))/\env 4=.int .i64 i/\U=⟨[],[]⟩/\∀v∈l.take i,jK v=0) l.length ⟨0,by simp[j5]⟩ ?_;rintro n env U ⟨i,hi,rfl,h0,h3,h4,rfl,hz⟩
 cases hv:l[i]? with
 | some v=>
  obtain⟨hc,hv'⟩:=qyF.1 hv;have hm:=qyG hv;have hw:∀v∈l.take i,1<=v.width/\v.width<=8:=fun v hv=>(zc (hz v hv)).2
  have hb:=Kj hw;have hbl:(l.take i).length<=16:=by simp;omega
  have hbt:=WF hv;simp[h0,h4,hc,hv'];refine qCW (qcp v (hs v hm)) rfl ?_;by_cases he:jK v=0
  . have hw2:=(zc he).2;by_cases m0:v.mode=0
    . simp[he,m0,h0,h3,h4,hc,hv'];refine⟨_,by omega,i+1,by omega,rfl,?_,wr (by omega) (by omega),za hv hz he⟩;rw[hbt];simp[m0]
    have hwr:IntKind.i64.wrap (j5 (l.take i)+v.width)=j5 (l.take (i+1)):=by
     rw[hbt,if_pos m0];exact wr (by omega) (by omega)
    simp[he,m0,h0,h3,h4,hc,hv',hwr];exact⟨_,by omega,i+1,by omega,rfl,rfl,wr (by omega) (by omega),za hv hz he⟩
  have e:zW l=jK v:=by
   have:=kh hv hz he;simp[zW,h16,this,he]
  rw[e];simp[he]
 | none=>
  have hc:¬i<l.length:=by simp at hv;omega
  rw[show l.take i=l from qyN (by omega)]at hz h3;have hz0:=zz.2 hz;simp[h0,h4,hc];refine qC9 (fun n env U=>∃i,i<=l.length/\n=l.length-i/\env 0=.sl 4 (l.map qD) .none/\env 3=.int .i64 (j5 l)/\env 6=.int .i64 i/\U=⟨[],[]⟩/\∀j,j<i->vO l j=false) l.length ⟨0,by simp[h0,h3]⟩ ?_;rintro n env U ⟨i,hi,rfl,h0,h3,h6,rfl,hd⟩
  cases hv:l[i]? with
  | some v=>
   obtain⟨hc,hv'⟩:=qyF.1 hv;have next:vO l i=false->∀j,j<i+1->vO l j=false:=fun h j hj=>by
    rcases qzK.1 hj with hj|rfl
    . exact hd j hj
    exact h
   simp[h0,h6,hc,hv',zo,zU,kI,z0,show(i:Int)<=l.length by omega];rw[<- List.map_take];refine qCX (qc4 GG (l.take i) v.name (by simp;omega)) ?_ ?_ ?_
   . simp only[qx,zb,qvW,qAG]
   . simp only[zq,qCT,and_true]
     try exact Leq.sl (by rw[List.map_take])
   have hge:=qiY (fun x:Var=>x.name==v.name) (l.take i);rw[<- show vO l i=(l.take i).any (fun x=>x.name==v.name) by simp[vO,hv,vK]]at hge;cases hdi:vO l i
   . rw[hdi]at hge;have hf:=of_decide_eq_false hge;simp[hf,h0,h3,h6];exact⟨_,by omega,i+1,by omega,rfl,wr (by omega) (by omega),next hdi⟩
   rw[hdi]at hge;have e:zW l=8:=(by simp[zW,h16,hz0,qja hc hdi]);rw[e];simp[of_decide_eq_true hge]
  | none=>
   have hc:¬i<l.length:=(by simp at hv;omega);have hnd:=qjb (l:=l) fun j hj=>hd j (by omega)
   simp[h0,h6,hc];refine qCW (qsT l hl hs fun v hv=>((fun v hv=>zc (hz v hv)) v hv).1) (by simp) ?_;cases hg:l.any fun v=>Kv l v.name
   . by_cases hb:20<j5 l
     . have e:zW l=2:=(by simp only[zW,h16,hz0,hnd,hg,hb];rfl);rw[e];simp[hb,h3]
     . have e:zW l=0:=(by simp only[zW,h16,hz0,hnd,hg,hb];rfl);rw[e];simp[hb,h3]
   have e:zW l=10:=(by simp only[zW,h16,hz0,hnd,hg];rfl);rw[e];simp
def qgK(w):Pure prog GG 214 [.agg (qC w)] (.bool (zM w)):=by
 refine qDb qe func214 rfl (by kernel_rfl) ?_;by_cases c1:w.lo<0
 . have x:zM w=true:=(by simp[zM,c1]);rw[x];simp[c1]
 by_cases c2:w.hi<w.lo
 . have x:zM w=true:=(by simp[zM,c2]);rw[x];simp[c1,c2]
 by_cases c3:65535<w.hi
 . have x:zM w=true:=(by simp[zM,c3]);rw[x];simp[c1,c2,c3]
 by_cases c4:w.weight<0
 . have x:zM w=true:=(by simp[zM,c4]);rw[x];simp[c1,c2,c3,c4]
 have x:zM w=decide (1000<w.weight):=by simp[zM,c1,c2,c3,c4]
 rw[x];simp[c1,c2,c3,c4]
def qe7(l)(hl:Fits l):Pure prog GG 153 [.sl 4 (l.map qC) .none] (.bool (!l.any zM)):=by
 refine qDb qe func153 rfl (by kernel_rfl) ?_;simp;refine qCW (Zk GG l zM 214 [] [] hl rfl rfl fun v _=>qgK v) (by simp) ?_;simp
def qpa(x d):Pure prog GG 152 [.agg (zF x),.rptr (zF d)] (.bool (x.var==d.var)):=by
 refine qDb qe func152 rfl (by kernel_rfl) ?_;simp
def qnW{f n i}(hi:i<n)(hz:∀j,j<i->f j=0)(hf:f i≠0):qO f (List.range n)=f i :=
 kh (l:=List.range n) (i:=i) (v:=i) (by simp[hi]) (fun a ha=>by
  rw[List.take_range]at ha;have:=qzP.1 ha;exact hz a (by omega)) hf
def qiX{f n}(hz:∀j,j<n->f j=0):qO f (List.range n)=0:=zz.2 fun a ha=>hz a (qzP.1 ha)
def W7(l i):(decide (0<=i)&&(l[i.toNat]?).any (fun v=>v.mode != 0))=yo l i:=rfl
def qqw(p)(hd:Fits p.dists)(hw:∀d∈p.dists,Fits d.weights):Pure prog GG 102 [.agg (qA p)] (.int .i64 (yi p.vars p.dists)):=by
 refine qDb qe func102 rfl (by kernel_rfl) ?_;simp;refine qC9 (fun n env U=>∃i tail,i<=p.dists.length/\n=p.dists.length-i/\env 1=.ptr 0 0/\env 6=.sl 2 (p.dists.map zF) .none/\env 7=.int .i64 p.dists.length/\env 8=.int .i64 i/\U=⟨.cells (qA p)::tail,[]⟩/\∀j,j<i->jE p.vars p.dists j=0) p.dists.length ⟨0,[],by simp⟩ ?_;rintro n env U ⟨i,tail,hi,rfl,h1,h6,h7,h8,rfl,hz⟩
 cases hv:p.dists[i]? with
 | some d=>
  obtain⟨hc,hv'⟩:=qyF.1 hv;have hm:=qyG hv;have bad:jE p.vars p.dists i≠0->yi p.vars p.dists=jE p.vars p.dists i:=fun h=>qnW hc hz h
  have next:jE p.vars p.dists i=0->∀j,j<i+1->jE p.vars p.dists j=0:=fun h j hj=>by
   rcases qzK.1 hj with hj|rfl
   . exact hz j hj
   exact h
  have hle:i<=p.dists.length:=by omega
  have hle':(i:Int)<=p.dists.length:=by omega
  have hr:=jc GG p d.var;rw[W7]at hr;simp only[qA]at hr;simp[h1,h6,h7,h8,hc,hv',qzi];refine qCW hr (by simp) ?_;cases hrn:yo p.vars d.var
  . have x:jE p.vars p.dists i=1:=(by simp[jE,hv,hrn]);rw[bad (by rw[x];decide),x];simp
  simp[h1,zo,zU,kI,z0,hle,qzi];have hcf:=JC GG (p.dists.take i) (fun y=>y.var==d.var) 152 [] [.rptr (zF d)] (by simp;omega) rfl (by simp) fun y _=>qpa y d
  refine qb.lent hcf rfl ?_ ?_
  . have htk:(p.dists.map zF).take i=(p.dists.take i).map zF:=List.map_take.symm;simp[frz,-List.map_take,htk]
  cases hdp:(p.dists.take i).any fun y=>y.var==d.var
  . by_cases h16:16<d.weights.length
    . have h16':(16:Int)<d.weights.length:=(by omega);have x:jE p.vars p.dists i=2:=(by simp only[jE,hv,hrn,hdp,h16];rfl);rw[bad (by rw[x];decide),x];simp[h16']
    . have h16':¬(16:Int)<d.weights.length:=(by omega);simp[h16'];refine qCW (qe7 d.weights (hw d hm)) (by simp) ?_;cases hwt:d.weights.any zM
      . have x:jE p.vars p.dists i=0:=(by simp only[jE,hv,hrn,hdp,h16,hwt];rfl);simp[h1,h6,h7,h8];exact⟨_,by omega,i+1,by omega,rfl,wr (by omega) (by omega),next x⟩
      have x:jE p.vars p.dists i=1:=(by simp only[jE,hv,hrn,hdp,h16,hwt];rfl);rw[bad (by rw[x];decide),x];simp
  have x:jE p.vars p.dists i=8:=by simp only[jE,hv,hrn,hdp];rfl
  rw[bad (by rw[x];decide),x];simp
 | none=>
  have hc:¬i<p.dists.length:=by simp at hv;omega
  have x:yi p.vars p.dists=0:=qiX fun j hj=>hz j (by omega)
  rw[x];simp[h6,h7,h8,hc]
def Jt(n:Nat)(d:List Int):List AV:=(List.range n).map fun(j:Nat)=>AV.bool (decide ((j:Int)∈d))
@[simp]def qnt{n d}:(Jt n d).length=n:=by simp[Jt]
def qhz{n}:(List.replicate n [AV.bool false]).flatten=Jt n []:=by
 simp only[Jt,qAd,decide_false]
 induction n with
 |zero=>simp
 |succ n ih=>rw[qAc,qzE,<- ih,qBk];simp
def QT{n j d}(h:j<n):(Jt n d)[j]?=some (.bool (decide ((j:Int)∈d))):=by simp[Jt,h]
def qhy{n j d}(h:j<n):(Jt n d).set j (.bool true)=Jt n (d++[(j:Int)]):=by
 apply qzC;intro i;by_cases hi:i<n
 . rw[qBi,QT hi,QT hi];by_cases hij:j=i
   . subst hij;simp[h]
   rw[if_neg hij];have:¬(i:Int)=j:=by omega
   simp[this]
 rw[qy6 (by simp;omega),qy6 (by simp;omega)]
def Wy{g:List (List Int)}{i k}{x:List Int}{v}(hg:g[i]?=some x)(hx:x[k]?=some v):
 g.flatten=((g.take i).flatten++x.take k)++v::(x.drop (k+1)++(g.drop (i+1)).flatten):=by
 conv=>lhs;rw[show g=g.take i++x::g.drop (i+1) by conv=>lhs;rw[<- qzA i g,zA hg]]
 rw[qAF,qzn]
 conv=>lhs;rw[show x=x.take k++v::x.drop (k+1) by conv=>lhs;rw[<- qzA k x,zA hx]]
 simp
def qbF{g:List (List Int)}{i x}(hg:g[i]?=some x):(g.take (i+1)).flatten=(g.take i).flatten++x:=by
 rw[qzb,hg];simp
def qiD(p)(hv:p.vars=[])(hg:Fits p.groups):Pure prog GG 104 [.agg (qA p)] (.int .i64 (zy p.vars p.groups)):=by
 refine qDb qe func104 rfl (by kernel_rfl) ?_;have hr0:∀i,yo p.vars i=false:=fun i=>by simp[yo,hv]
 have hrv:p.vars.length=0:=by rw[hv];rfl
 simp[qz,hrv];refine qC9 (fun n env U=>n=1/\env 1=.ptr 0 0/\env 14=.sl 1 (p.groups.map zJ) .none/\env 15=.int .i64 p.groups.length/\env 16=.int .i64 0/\U=⟨[.cells (qA p)],[some 0]⟩) 1 ⟨rfl,by simp⟩ ?_;rintro n env U ⟨rfl,h1,h14,h15,h16,rfl⟩
 cases hgs:p.groups with
 | nil=>
  have x:zy p.vars []=0:=by
   unfold zy;rw[if_pos ⟨by simp,by simp,by simp,fun i hi=>by omega⟩]
  rw[hgs]at h15;rw[x];simp[h1,h14,h15,h16,hrv];refine qC9 (fun n env U=>n=1/\env 46=.int .i64 0/\env 47=.int .i64 0) 1 ⟨rfl,by simp⟩ ?_;rintro n env U ⟨rfl,h46,h47⟩;simp[h46,h47]
 | cons g r=>
  rw[hgs]at h14 h15
  cases g with
  | nil=>
   have x:zy p.vars ([]::r)=1:=by
    unfold zy;rw[if_neg (kU (by simp))]
   rw[x];have hp:(0:Int)<r.length+1:=(by omega);simp[h1,h14,h15,h16,hp]
  | cons v g=>
   have x:zy p.vars ((v::g)::r)=1:=by
    unfold zy;rw[if_neg (Ww (i:=v) (by simp) (hr0 v))]
   rw[x];simp[h1,h14,h15,h16,show(0:Int)<r.length+1 by omega,show ¬(g.length:Int)+1=0 by omega];refine qC9 (fun n env U=>n=1/\env 1=.ptr 0 0/\env 23=.sl 1 ((v::g).map qq) .none/\env 24=.int .i64 (g.length+1)/\env 25=.int .i64 0/\U=⟨[.cells (qA p)],[some 0]⟩) 1 ⟨rfl,by simp[h1]⟩ ?_;rintro n env U ⟨rfl,h1,h23,h24,h25,rfl⟩;have hr:=jc GG p v;rw[W7,hr0]at hr;simp only[qA]at hr;simp[h1,h23,h24,h25,show(0:Int)<g.length+1 by omega];refine qCW hr (by simp) ?_;simp
def qfC{n}:List.replicate n (AV.bool false)=Jt n []:=by
 rw[<- qhz]
 induction n with
 |zero=>rfl
 |succ n ih=>rw[qBa,qBa,qzn,<- ih];rfl
def GI(l:List Var)(d:List Int):Prop:=(∀v∈d,yo l v=true)/\d.Nodup
def GI.add{l d v}(h:GI l d)(hr:yo l v=true)(hn:v∉d):GI l (d++[v]):=by
 refine⟨fun x hx=>?_,?_⟩
 . rcases qy0.1 hx with hx|hx
   . exact h.1 x hx
   . rwa[qzh.1 hx]
 rw[qz3];refine⟨h.2,by simp,fun a ha b hb e=>?_⟩;rw[qzh.1 hb]at e;exact hn (e▸ha)
def NE(g:List (List Int)):Prop:=∀x∈g,x≠[]
def yU{c:List AV}{j v}(h:c[j]?=some v):(c.drop j).take 1=[v]:=by
 rw[zA h];rfl
def qiC(p)(hv:p.vars≠[])(hv20:p.vars.length<=1000)(hg:Fits p.groups)(hgs:∀g∈p.groups,Fits g):Pure prog GG 104 [.agg (qA p)] (.int .i64 (zy p.vars p.groups)):=by
 refine qDb qe func104 rfl (by kernel_rfl) ?_;have hn0:=qyZ.2 hv;obtain⟨N,hN⟩:∃N,N=p.vars.length:=⟨_,rfl⟩;have hc2:¬(N:Int)=0:=by omega
 have rnd:∀i,Pure prog GG 86 [.agg [.sl 4 (p.vars.map qD) .none,.sl 4 (p.hard.map qt) .none,.sl 4 (p.soft.map qt) .none,.sl 2 (p.dists.map zF) .none,.sl 1 (p.groups.map zJ) .none],.int .i64 i] (.bool (yo p.vars i)):=fun i=>by
  have hr:=jc GG p i;rw[W7]at hr;simpa only[qA] using hr
 have bad:¬jR p.vars p.groups->zy p.vars p.groups=1:=fun h=>by unfold zy;rw[if_neg h]
 simp[qz,<- hN,show(N:Int)<=549755813888 by omega,show ¬N=0 by omega,qfC];refine qC9 (fun n env U=>∃i,i<=p.groups.length/\n=p.groups.length-i/\env 1=.ptr 0 0/\env 3=.ms 1 0 N 1/\env 14=.sl 1 (p.groups.map zJ) .none/\env 15=.int .i64 p.groups.length/\env 16=.int .i64 i/\U=⟨[.cells (qA p),.cells (Jt N (p.groups.take i).flatten)],[]⟩/\NE (p.groups.take i)/\GI p.vars (p.groups.take i).flatten) p.groups.length ⟨0,by simp,by simp,by simp,by simp,by simp,by simp,by simp,by simp,by simp[NE],by simp[GI]⟩ ?_;rintro n env U ⟨i,hi,rfl,h1,h3,h14,h15,h16,rfl,hne,hgi0⟩
 cases hgi:p.groups[i]? with
 | some g=>
  obtain⟨hc,hv'⟩:=qyF.1 hgi;have hm:=qyG hgi;have hfg:=hgs g hm;by_cases hge:g=[]
  . rw[bad (kU (hge▸hm))];subst hge;simp[h1,h14,h15,h16,hc,hv']
  have hgl:¬(g.length:Int)=0:=by have:=qyZ.2 hge;omega
  simp[h1,h14,h15,h16,hc,hv',show ¬g.length=0 by have:=qyZ.2 hge;omega];refine qC9 (fun n env U=>∃k,k<=g.length/\n=g.length-k/\env 1=.ptr 0 0/\env 3=.ms 1 0 N 1/\env 14=.sl 1 (p.groups.map zJ) .none/\env 15=.int .i64 p.groups.length/\env 16=.int .i64 i/\env 23=.sl 1 (g.map qq) .none/\env 24=.int .i64 g.length/\env 25=.int .i64 k/\U=⟨[.cells (qA p),.cells (Jt N ((p.groups.take i).flatten++g.take k))],[]⟩/\GI p.vars ((p.groups.take i).flatten++g.take k)) g.length ⟨0,by simp[h1,h3,h14,h15,h16];exact hgi0⟩ ?_;clear h1 h3 h14 h15 h16;rintro n env U ⟨k,hk,rfl,h1,h3,h14,h15,h16,h23,h24,h25,rfl,hgi1⟩
  cases hvk:g[k]? with
  | some v=>
   obtain⟨hck,hvk'⟩:=qyF.1 hvk;have hsp:=Wy hgi hvk;simp[h1,h3,h14,h15,h16,h23,h24,h25,hck,hvk'];refine qCW (rnd v) (by simp) ?_;cases hr:yo p.vars v
   . rw[bad (Ww (by rw[hsp];simp) hr)];simp
   obtain⟨r1,r2⟩:=Zy hr;obtain⟨j,rfl⟩:=qzg r1;have hj:j<N:=(by omega);have hj':(j:Int)<N:=(by omega);have hg1:=QT (d:=(p.groups.take i).flatten++g.take k) hj;have hset:=qhy (d:=(p.groups.take i).flatten++g.take k) hj;have htk:g.take (k+1)=g.take k++[(j:Int)]:=(by rw[qzb,hvk];rfl);have hj1:j+1<=N:=hj;by_cases hmem:(j:Int)∈(p.groups.take i).flatten++g.take k
   . rw[bad (qf8 hsp hmem)];rw[decide_eq_true hmem]at hg1;have ht1:=yU hg1;simp[h1,h3,h14,h15,h16,h23,h24,h25,hj,hj',hj1,ht1]
   rw[decide_eq_false hmem]at hg1;have ht1:=yU hg1;simp[h1,h3,h14,h15,h16,h23,h24,h25,hj,hj',hj1,ht1,hset];refine⟨_,by omega,k+1,by omega,rfl,wr (by omega) (by omega),?_,?_⟩
   . rw[htk]
   rw[htk,<- qze];exact hgi1.add hr hmem
  | none=>
   have hck:¬k<g.length:=(by simp at hvk;omega);have ht:g.take k=g:=qyN (by omega);rw[ht]at hgi1;have hft:=qbF hgi;simp[h1,h3,h14,h15,h16,h23,h24,h25,hck,show IntKind.i64.wrap ((i:Int)+1)=((i+1:Nat):Int) by rw[wr (by omega) (by omega)];omega];refine⟨_,by omega,i+1,by omega,rfl,rfl,?_,?_,?_⟩
   . rw[hft,ht]
   . intro x hx;rw[qzb,hgi]at hx;rcases qy0.1 hx with hx|hx
     . exact hne x hx
     simp at hx;rwa[hx]
   rwa[hft]
 | none=>
  have hc:¬i<p.groups.length:=by simp at hgi;omega
  have ht:p.groups.take i=p.groups:=qyN (by omega);rw[ht]at hne hgi0;simp[h1,h14,h15,h16,hc];refine qC9 (fun n env U=>∃i,i<=N/\n=N-i/\env 1=.ptr 0 0/\env 3=.ms 1 0 N 1/\env 46=.int .i64 N/\env 47=.int .i64 i/\U=⟨[.cells (qA p),.cells (Jt N p.groups.flatten)],[]⟩/\∀j:Nat,j<i->yo p.vars j=true->(j:Int)∈p.groups.flatten) N ⟨0,by simp[h1,h3,<- hN,ht]⟩ ?_;rintro n env U ⟨j,hj0,rfl,h1,h3,h46,h47,rfl,hall⟩;by_cases hj:j<N
  . have hj':(j:Int)<N:=(by omega);have hj1:j+1<=N:=hj;have hg1:=QT (d:=p.groups.flatten) hj;simp[h1,h46,h47,hj];refine qCW (rnd j) (by simp) ?_;cases hr:yo p.vars j
    . simp[h1,h3,h46,h47];refine⟨_,by omega,j+1,by omega,rfl,wr (by omega) (by omega),?_⟩;intro q hq hqr;rcases qzK.1 hq with hq|rfl
      . have:=hall q hq hqr;simpa using this
      rw[hr]at hqr;cases hqr
    by_cases hmem:(j:Int)∈p.groups.flatten
    . rw[decide_eq_true hmem]at hg1;have ht1:=yU hg1;simp[h1,h3,h46,h47,hj,hj1,ht1];refine⟨_,by omega,j+1,by omega,rfl,wr (by omega) (by omega),?_⟩;intro q hq hqr;rcases qzK.1 hq with hq|rfl
      . have:=hall q hq hqr;simpa using this
      simpa using hmem
    rw[bad (qcZ (by omega) hr hmem)];rw[decide_eq_false hmem]at hg1;have ht1:=yU hg1;simp[h1,h3,h46,h47,hj,hj1,ht1]
  have x:zy p.vars p.groups=0:=by
   unfold zy;rw[if_pos ⟨hne,hgi0.1,hgi0.2,fun q hq hqr=>hall q (by omega) hqr⟩]
  rw[x];simp[h1,h46,h47,hj]
def qmc(p)(hv20:p.vars.length<=1000)(hg:Fits p.groups)(hgs:∀g∈p.groups,Fits g):Pure prog GG 104 [.agg (qA p)] (.int .i64 (zy p.vars p.groups)):=by
 by_cases hv:p.vars=[]
 . exact qiD p hv hg
 exact qiC p hv hv20 hg hgs
