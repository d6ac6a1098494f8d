import Derived.Test.YtimecmegnocamaaGreatDoorPq09
import Derived.ChangeArms
import Derived.DataReads
set_option maxRecDepth 100000
set_option maxHeartbeats 16000000
set_option linter.all false
set_option linter.defProp false
namespace Go.Proofs.YtimecmegnocamaaGreatDoor
open Go Go.Abs Tryz
noncomputable def qa6(s:Str):AV:=match wb s with
 |some (a,i)=>.tup [.str a,.int .i64 i,.bool true]
 |none=>.tup [.str [],.int .i64 0,.bool false]
def Z5{s a i}(h:jA s a i):qa6 s=.tup [.str a,.int .i64 i,.bool true]:=by simp[qa6,vF h]
def vE{s}(h:wb s=none):qa6 s=.tup [.str [],.int .i64 0,.bool false]:=by simp[qa6,h]
def qxW{c:UInt8}(h1:48<=c.toNat)(h2:c.toNat<56):UInt8.ofNat (48+(c.toNat-48))=c:=by
 have:48+(c.toNat-48)=c.toNat:=by omega
 rw[this];simp
def qcO{s t}{c:UInt8}(hn:z8 t=true)(h1:48<=c.toNat)(h2:c.toNat<56)(h:s=t++[91,c,93]):jA s t (c.toNat-48) :=
 ⟨by omega,hn,by rw[h,zX,qxW h1 h2]⟩
def qdc{s a i}(h:jA s a i):s=a++[91,UInt8.ofNat (48+i),93]/\(UInt8.ofNat (48+i)).toNat=48+i/\i<8:=by
 refine⟨h.2.2,?_,h.1⟩;have:=h.1;simp;omega
def VY(s:Str)(hs:Fits s):Pure prog GG 322 [.str s] (qa6 s):=by
 refine qFP qg func322 rfl (by kernel_rfl) ?_;simp;cases hc:s.contains 91
 . refine qFz (qeO GG s hs hc) rfl ?_;rw[vE (KJ hc)];simp
 refine qFz (qlp GG s hs hc) rfl ?_;simp;refine qFz (Qk (yf s)) rfl ?_;cases hn:z8 (yf s)
 . rw[vE (qdd hn)];simp
 have no:(∀c,Y9 s=[c,93]->¬(48<=c.toNat/\c.toNat<56))->qa6 s=.tup [.str [],.int .i64 0,.bool false]:=by
  intro h;refine vE (y8.2 fun a i hi=>?_);obtain⟨e1,e2,e3⟩:=qdc hi;exact h _ hi.has.2.2 ⟨by omega,by omega⟩
 cases ht:Y9 s with
 |nil=>rw[no (by simp[ht])];simp
 | cons c r1=>
  cases r1 with
  |nil=>rw[no (by simp[ht])];simp
  | cons d r2=>
   cases r2 with
   | cons e r3=>
    rw[no (by simp[ht])];simp[show ¬((r3.length:Int)+1+1+1=2) by omega]
   | nil=>
    by_cases hd:d=93
    . subst hd;by_cases h1:48<=c.toNat
      . have h1':¬(c.toNat:Int)<48:=(by omega);by_cases h2:c.toNat<56
        . have h2':¬(56:Int)<=c.toNat:=(by omega);have e:jA s (yf s) (c.toNat-48):=qcO hn h1 h2 (by have:=qqi hc;rwa[ht]at this);rw[Z5 e];have w3:((c.toNat:Int)-48)=((c.toNat-48:Nat):Int):=(by omega);simp[h1',h2',wK,show IntKind.u8.wrap ((c.toNat:Int)-48)=c.toNat-48 by simp[IntKind.wrap,IntKind.bits,IntKind.signed];omega,show IntKind.i64.wrap ((c.toNat:Int)-48)=c.toNat-48 from wr (by omega) (by omega)];omega
        have h2':(56:Int)<=c.toNat:=(by omega);rw[no (fun c' e=>by rw[ht]at e;cases e;omega)];simp[h1',h2']
      have h1':(c.toNat:Int)<48:=(by omega);rw[no (fun c' e=>by rw[ht]at e;cases e;omega)];simp[h1']
    have hd':¬(d.toNat:Int)=93:=by
     intro e;exact hd (UInt8.toNat_inj.1 (by simp;omega))
    rw[no (fun c' e=>by rw[ht]at e;cases e;exact absurd rfl hd)];simp[hd']
def qn6(s:Str)(hs:Fits s):Pure prog GG 284 [.str s] (.bool (wg s)):=by
 refine qFP qg func284 rfl (by kernel_rfl) ?_;simp
 cases he:wb s with
 | some p=>
  obtain⟨a,i⟩:=p;refine qFz (by have:=VY s hs;rw[Z5 (kN.1 he)]at this;exact this) rfl ?_;simp[wg,he]
 | none=>
  refine qFz (by have:=VY s hs;rwa[vE he]at this) rfl ?_;simp;refine qFz (Qk s) rfl ?_;simp[wg,he]
def qyo{s:Str}(h:3<=s.length):∃t x y z,s=t++[x,y,z]:=by
 refine⟨s.take (s.length-3),s[s.length-3]'(by omega),s[s.length-2]'(by omega),s[s.length-1]'(by omega),?_⟩;have e:s.drop (s.length-3)=[s[s.length-3]'(by omega),s[s.length-2]'(by omega),s[s.length-1]'(by omega)]:=by
  rw[qA9 (by omega),qA9 (by omega),qA9 (by omega),List.drop_eq_nil_of_le (by omega)];simp only[qC8,and_true,true_and];exact⟨by congr 1;omega,by congr 1;omega⟩
 rw[<- e,qBF]
def qii{s}(h:s.length<4):wb s=none:=by
 rw[y8];intro a i hi;have:=qaH hi.2.1;have:=qBf.2 this;rw[hi.2.2]at h;simp at h;omega
def qfv(s:Str)(hs:Fits s):Pure prog GG 393 [.str s] (qa6 s):=by
 refine qFP qg func393 rfl (by kernel_rfl) ?_;by_cases h4:s.length<4
 . have h4':(s.length:Int)<4:=(by omega);rw[vE (qii h4)];simp[h4']
 obtain⟨t,x,y,z,rfl⟩:=qyo (s:=s) (by omega);have hl:(t++[x,y,z]).length=t.length+3:=by simp
 rw[Fits,hl]at hs;rw[hl]at h4;have no:¬(x=91/\z=93/\48<=y.toNat/\y.toNat<56/\z8 t=true)->qa6 (t++[x,y,z])=.tup [.str [],.int .i64 0,.bool false]:=by
  intro h;refine vE (y8.2 fun a i hi=>h ?_);obtain⟨e1,e2,e3⟩:=qdc hi;obtain⟨e4,e5⟩:=List.append_inj' e1 rfl;cases e5;subst e4;exact⟨rfl,rfl,by omega,by omega,hi.2.1⟩
 have h4':¬(t.length:Int)+3<4:=by omega
 have w1:IntKind.i64.wrap ((t.length:Int)+3-1)=((t.length+2:Nat):Int):=by rw[wr (by omega) (by omega)];omega
 have w2:IntKind.i64.wrap ((t.length:Int)+3-2)=((t.length+1:Nat):Int):=by rw[wr (by omega) (by omega)];omega
 have w3:IntKind.i64.wrap (t.length:Int)=t.length:=wr (by omega) (by omega);have g1:(t++[x,y,z])[t.length+2]?=some z:=by simp
 have g2:(t++[x,y,z])[t.length+1]?=some y:=by simp
 have g3:(t++[x,y,z])[t.length]?=some x:=by simp
 have g4:(t++[x,y,z]).take t.length=t:=by simp
 have n1:((t.length:Int)+2).toNat=t.length+2:=by omega
 have n2:((t.length:Int)+1).toNat=t.length+1:=by omega
 have p1:(0:Int)<=(t.length:Int)+2:=by omega
 have p2:(0:Int)<=(t.length:Int)+1:=by omega
 have hn210:=Qj t (show t.length<_ by omega);have yes:x=91->z=93->48<=y.toNat->y.toNat<56->z8 t=true->qa6 (t++[x,y,z])=.tup [.str t,.int .i64 ((y.toNat:Int)-48),.bool true]:=by
  rintro rfl rfl h1 h2 h3;rw[Z5 (qcO h3 h1 h2 rfl)];congr 4;omega
 generalize hS:t++[x,y,z]=S at *;generalize t.length=T at *;have q1:=(qAU.1 g1).2;have q2:=(qAU.1 g2).2;have q3:=(qAU.1 g3).2;have le3:(T:Int)<=(T:Int)+3:=by omega
 by_cases hz:z=93
 . by_cases hx:x=91
   . subst hx hz;have wy1:IntKind.i64.wrap (y.toNat:Int)=y.toNat:=(by have:=y.toNat_lt;exact wr (by omega) (by omega));have wy2:IntKind.i64.wrap ((y.toNat:Int)-48)=y.toNat-48:=(by have:=y.toNat_lt;exact wr (by omega) (by omega));by_cases h1:48<=y.toNat
     . by_cases h2:y.toNat<56
       . have h1':¬(y.toNat:Int)-48<0:=(by omega);have h2':¬(8:Int)<=(y.toNat:Int)-48:=(by omega);simp[hl,h4',w1,w2,w3,q1,q2,q3,le3,g4,n1,n2,p1,p2,wK,wy1,wy2,h1',h2',zk,zR];refine qFz hn210 rfl ?_;cases hnt:z8 t
         . rw[no (fun h=>by rw[hnt]at h;cases h.2.2.2.2)];simp
         rw[yes rfl rfl h1 h2 hnt];simp
       . rw[no (fun h=>h2 h.2.2.2.1)];have h1':¬(y.toNat:Int)-48<0:=(by omega);simp[hl,h4',w1,w2,w3,q1,q2,q3,le3,g4,n1,n2,p1,p2,wK,wy1,wy2,h1',show(8:Int)<=(y.toNat:Int)-48 by omega,zk,zR]
     rw[no (fun h=>h1 h.2.2.1)];simp[hl,h4',w1,w2,w3,q1,q2,q3,le3,g4,n1,n2,p1,p2,wK,wy1,wy2,show(y.toNat:Int)-48<0 by omega,zk,zR]
   . have hx':¬(x.toNat:Int)=91:=by
      intro e;exact hx (UInt8.toNat_inj.1 (by simp;omega))
     rw[no (fun h=>hx h.1)];subst hz;simp[hl,h4',w1,w2,w3,q1,q2,q3,n1,n2,p1,p2,hx']
 have hz':¬(z.toNat:Int)=93:=by
  intro e;exact hz (UInt8.toNat_inj.1 (by simp;omega))
 rw[no (fun h=>hz h.2.1)];simp[hl,h4',w1,w2,w3,q1,q2,q3,n1,n2,p1,p2,hz']
def qn5(s:Str)(hs:Fits s):Pure prog GG 383 [.str s] (.bool (wg s)):=by
 refine qFP qg func383 rfl (by kernel_rfl) ?_;simp
 cases he:wb s with
 | some p=>
  obtain⟨a,i⟩:=p;refine qFz (by have:=qfv s hs;rw[Z5 (kN.1 he)]at this;exact this) rfl ?_;simp[wg,he]
 | none=>
  refine qFz (by have:=qfv s hs;rwa[vE he]at this) rfl ?_;simp;refine qFz (Qj s hs) rfl ?_;simp[wg,he]
def qnP(s:Str)(hs:Fits s):Pure prog GG 224 [.str s] (.bool (wg s)):=by
 refine qFP qg func224 rfl (by kernel_rfl) ?_;simp;refine qFz (Qj s hs) rfl ?_;cases hn:z8 s
 . simp;refine qFM (fun n env U=>∃k:Nat,1<=k/\k<=s.length+1/\n=s.length+1-k/\env 0=.str s/\env 3=.int .i64 k/\U=⟨[],[]⟩/\∀a i,jA s a i->¬a.length<k) s.length ⟨1,by simp,by simp,by simp,by simp,by simp,rfl,fun a i hi=>by have:=qBf.2 (qaH hi.2.1);omega⟩ ?_;rintro n env U ⟨k,hk1,hk,rfl,h0,h3,rfl,hall⟩;by_cases hlt:k<s.length
   . have hlt':(k:Int)<s.length:=(by omega);have step:(∀a i,jA s a i->a.length≠k)->∀a i,jA s a i->¬a.length<k+1:=fun h a i hi hl=>by
      rcases qB5.1 hl with h1|h1
      . exact hall a i hi h1
      exact h a i hi h1
     have at91:∀a i,jA s a i->a.length=k->s[k]=91/\s.take k=a:=fun a i hi hl=>by
      obtain⟨_,_,rfl⟩:=hi;subst hl;simp[zX]
     have hw:IntKind.i64.wrap ((k:Int)+1)=((k+1:Nat):Int):=(by rw[wr (by omega) (by omega)];omega);by_cases hc:s[k]=91
     . simp[h0,h3,hlt,hc,zk,zR,show k<=s.length by omega];refine qFz (Qj (s.take k) (by simp;omega)) rfl ?_;cases ht:z8 (s.take k)
       . simp[h0,h3,hw];refine⟨_,by omega,k+1,by omega,by omega,rfl,rfl,fun a i hi=>Nat.not_lt.1 (step (fun a i hi hl=>?_) a i hi)⟩;have:=(at91 a i hi hl).2;rw[this,hi.2.1]at ht;cases ht
       simp[h0,h3];refine qFM (fun n env U=>∃i:Nat,i<=8/\n=8-i/\env 0=.str s/\env 3=.int .i64 k/\env 4=.int .i64 i/\U=⟨[],[]⟩/\∀j,j<i->s≠zX (s.take k) j) 8 ⟨0,by simp[h0,h3]⟩ ?_;rintro n env U ⟨i,hi,rfl,h0,h3,h4,rfl,hin⟩;by_cases h8:i<8
       . have h8':(i:Int)<8:=(by omega);simp[h0,h3,h4,h8',zk,zR,show(k:Int)<=s.length by omega];refine qFz (JE (s.take k) i h8 (by have:=wA ht;omega)) rfl ?_;by_cases he:s=zX (s.take k) i
         . have hv:wg s=true:=(by simp[wg,vF (show jA s (s.take k) i from⟨h8,ht,he⟩)]);rw[<- he];simp[h0,hv]
         simp[h0,h3,h4,he];refine⟨_,by omega,i+1,by omega,rfl,wr (by omega) (by omega),?_⟩;intro j hj e;rcases qB5.1 hj with hj|rfl
         . exact hin j hj e
         exact he e
       have h8':¬(i:Int)<8:=(by omega);simp[h0,h3,h4,h8',hw];refine⟨_,by omega,k+1,by omega,by omega,rfl,rfl,fun a i hi=>Nat.not_lt.1 (step (fun a i' hi' hl=>?_) a i hi)⟩;have:=(at91 a i' hi' hl).2;exact hin i' (by have:=hi'.1;omega) (by rw[this];exact hi'.2.2)
     have hc':¬(s[k].toNat:Int)=91:=by
      intro e;exact hc (UInt8.toNat_inj.1 (by simp;omega))
     simp[h0,h3,hlt,hc',hw];refine⟨_,by omega,k+1,by omega,by omega,rfl,rfl,fun a i hi=>Nat.not_lt.1 (step (fun a i hi hl=>?_) a i hi)⟩;exact hc (at91 a i hi hl).1
   have hlt':¬(k:Int)<s.length:=(by omega);have hv:wg s=false:=by
    have:=y8.2 fun a i hi=>hall a i hi (by rw[hi.2.2]at hlt;simp at hlt;omega)
    simp[wg,hn,this]
   simp[h0,h3,hlt,hv]
 simp[wg,hn]
def qfC{S}{stp:S->Ex->S×Bool}{s:S}{e}:ZI stp s (pre e)=if(stp s e).2=true then ZI stp (stp s e).1 (wv e.args) else((stp s e).1,false):=by
 rw[jC,ZI]
def look{hd:List Blk}{c}(hc:hd.length=c){t k}:(hd++t)[c+k]?=t[k]?:=by
 subst hc;rw[qA4 (by omega)];simp
def qnT{tail t:List Blk}{k:Nat}{b:Blk}(h:tail[k]?=some b):(tail++t)[k]?=some b:=by
 rw[qBa (qAU.1 h).1,h]
def Wen(e:Ex):Prop:=∀x∈pre e,Fits x.args/\Fits x.name
def Wen.fits{e}(h:Wen e):Fits e.args:=(h e (by rw[jC];simp)).1
def Wen.nm{e}(h:Wen e):Fits e.name:=(h e (by rw[jC];simp)).2
def Wen.arg{e a}(h:Wen e)(ha:a∈e.args):Wen a:=fun x hx=>h x (by rw[jC];exact qCg _ (ZU.2 ⟨a,ha,hx⟩))
section
variable {S:Type}{stp:S->Ex->S×Bool}{hd:S->List Blk}{T:S->List (Option Nat)}{c:Nat}{vf:FuncId}{cap:List AV}{m:S->Nat}
def qdD(stp:S->Ex->S×Bool)(hd:S->List Blk)(T:S->List (Option Nat))(vf:FuncId)(cap:List AV)(m:S->Nat):Prop :=
 ∀s tail e,Wen e->0<m s->qj prog GG vf (.agg (qt e)::cap) ⟨hd s++tail,T s⟩ (fun r U'=>r=.bool (stp s e).2/\∃t,U'=⟨hd (stp s e).1++(tail++t),T (stp s e).1⟩)
def qpz(hm:∀s e,m s<=m (stp s e).1+1):∀(s:S) (l),m s<=m (ZI stp s l).1+l.length
 |s,[]=>by simp[ZI]
 | s,e::r=>by
  simp only[ZI];split
  . have:=hm s e;have:=qpz hm (stp s e).1 r;simp;omega
  have:=hm s e;simp;omega
def qsR(hc:∀s,(hd s).length=c)(hm:∀s e,m s<=m (stp s e).1+1)(hv:qdD stp hd T vf cap m):∀e,Wen e->∀s tail kb kd,(pre e).length<=m s->tail[kb]?=some (.cells [.fn vf [] cap])->tail[kd]?=some (.cells [.fn 282 [] [.ptr (c+kb) 0,.ptr (c+kd) 0]]) ->
 qj prog GG 282 [.agg (qt e),.ptr (c+kb) 0,.ptr (c+kd) 0] ⟨hd s++tail,T s⟩ (fun r U'=>r=.bool (ZI stp s (pre e)).2/\∃t,U'=⟨hd (ZI stp s (pre e)).1++(tail++t),T (ZI stp s (pre e)).1⟩):=by
 refine qFN fun e ih hwe s tail kb kd hsz hb hd'=>?_
 rw[jC,qBc]at hsz;refine qj.vc qg func282 rfl (by kernel_rfl) ?_;have lx:∀s (t:List Blk) (x:Blk) (u:List Blk),(hd s++(tail++(t++x::u)))[c+(tail.length+t.length)]?=some x:=fun s t x u=>by
  rw[look (hc s),qA4 (by omega),qA4 (by omega)];simp
 have lx0:∀s (x:Blk) (u:List Blk),(hd s++(tail++(x::u)))[c+tail.length]?=some x:=fun s x u=>by
  have:=lx s [] x u;simpa using this
 simp[qc,hc,show ∀s t,(hd s++(tail++t))[c+kb]?=some (.cells [.fn vf [] cap]) from fun s t=>by rw[look (hc s),qnT hb],lx0];rw[<- qc e];refine qFD (hv s (tail++[.cells (qt e)]) e hwe (by omega)) ?_;rintro r U' ⟨rfl,t,rfl⟩;rw[show hd (stp s e).1++(tail++[Blk.cells (qt e)]++t)=hd (stp s e).1++(tail++(Blk.cells (qt e)::t)) by simp];cases hst:(stp s e).2
 . simp[qfC,hst]
 have hl:=hwe.fits;simp only[qc e];simp[hc];refine qFM (fun n env U=>∃i s' tl,i<=e.args.length/\n=e.args.length-i/\env 1=.ptr (c+kb) 0/\env 2=.ptr (c+kd) 0/\env 12=.sl 4 (e.args.map qt) .none/\env 13=.int .i64 e.args.length/\env 14=.int .i64 i/\U=⟨hd s'++(tail++tl),T s'⟩/\(wv (e.args.drop i)).length<=m s'/\ZI stp s (pre e)=ZI stp s' (wv (e.args.drop i))) e.args.length ⟨0,(stp s e).1,_,by simp,by simp,by simp,by simp,by simp,by simp,by simp,rfl,by have:=hm s e;simp;omega,by rw[qfC,hst];simp⟩ ?_;rintro n env U ⟨i,s',tl,hi,rfl,h1,h2,h12,h13,h14,rfl,hsz',hrun⟩
 cases hv':e.args[i]? with
 | none=>
  have hcn:¬i<e.args.length:=by simp at hv';omega
  rw[show e.args.drop i=[] by simp;omega]at hrun;simp[h12,h13,h14,hcn,hrun,ZI]
 | some a=>
  obtain⟨hcn,hve⟩:=qAU.1 hv';have hma:=qAV hv';rw[zf hv',kh,Kl]at hrun;rw[zf hv',kh,qAY]at hsz';have hmr:=qpz hm s' (pre a);have set1:∀(z x:Blk),(hd s'++(tail++(tl++[z]))).set (c+(tail.length+tl.length)) x=hd s'++(tail++(tl++[x])):=fun z x=>by
   rw[qBx,if_neg (by rw[hc];omega),hc,qBx,if_neg (by omega),qBx,if_neg (by omega)];have:c+(tail.length+tl.length)-c-tail.length-tl.length=0:=by omega
   rw[this];rfl
  simp[h2,h12,h13,h14,hcn,hve,qc a,hc,set1,show ∀s t,(hd s++(tail++t))[c+kd]?=some (.cells [.fn 282 [] [.ptr (c+kb) 0,.ptr (c+kd) 0]]) from fun s t=>by rw[look (hc s),qnT hd']];rw[<- qc a];refine qFD (ih a hma (hwe.arg hma) s' (tail++(tl++[.cells (qt a)])) kb kd (by omega) (qnT hb) (qnT hd')) ?_;rintro r U' ⟨rfl,t',rfl⟩;cases hr:(ZI stp s' (pre a)).2
  . rw[hr]at hrun;simp only[qBz,if_false]at hrun;simp[hrun,hr]
  rw[hr]at hrun;simp only[if_true]at hrun;simp[h1,h2,h12,h13,h14];exact⟨_,by omega,i+1,by omega,rfl,wr (by omega) (by omega),_,⟨⟨_,rfl⟩,rfl⟩,by omega,hrun⟩
def qdN(hc:∀s,(hd s).length=c)(hm:∀s e,m s<=m (stp s e).1+1)(hv:qdD stp hd T vf cap m)(e)(hwe:Wen e)(s:S)(hsz:(pre e).length<=m s)(tail):
 qj prog GG 208 [.agg (qt e),.fn vf [] cap] ⟨hd s++tail,T s⟩ (fun r U'=>∃t,U'=⟨hd (ZI stp s (pre e)).1++(tail++t),T (ZI stp s (pre e)).1⟩):=by
 refine qj.vc qg func208 rfl (by kernel_rfl) ?_;have set2:∀(x y z w:Blk),(hd s++(tail++[x,y,z])).set (c+(tail.length+(1+1))) w=hd s++(tail++[x,y,w]):=fun x y z w=>by
  rw[qBx,if_neg (by rw[hc];omega),hc,qBx,if_neg (by omega)];have:c+(tail.length+(1+1))-c-tail.length=2:=by omega
  rw[this];rfl
 have l0:∀(x:Blk) (u:List Blk),(hd s++(tail++(x::u)))[c+tail.length]?=some x:=fun x u=>by
  rw[look (hc s),qA4 (by omega)];simp
 have l2:∀(x y z:Blk) (u:List Blk),(hd s++(tail++(x::y::z::u)))[c+(tail.length+(1+1))]?=some z:=fun x y z u=>by
  rw[look (hc s),qA4 (by omega)];have:tail.length+(1+1)-tail.length=2:=by omega
  rw[this];rfl
 simp[qc e,hc,l2];rw[<- qc e];have k:=qsR hc hm hv e hwe s (tail++[.cells (qt e),.cells [.fn vf [] cap],.cells [.fn 282 [] [.ptr (c+(tail.length+1)) 0,.ptr (c+(tail.length+1)+1) 0]]]) (tail.length+1) (tail.length+1+1) hsz
  (by
    rw[qA4 (by omega)];have:tail.length+1-tail.length=1:=by omega
    rw[this];rfl)
  (by
    rw[qA4 (by omega)];have:tail.length+1+1-tail.length=2:=by omega
    rw[this];rfl)
 refine qFD k ?_;rintro r U' ⟨_,t,rfl⟩;exact⟨_,by rw[qBE]⟩
end
def KQ{α:Type}{R:Nat->α->Prop}:∀(n:Nat),(∀i,i<n->∃y,R i y)->∃l:List α,l.length=n/\∀i y,l[i]?=some y->R i y
 |0,_=>⟨[],rfl,by simp⟩
 | n+1,h=>by
  obtain⟨l,h1,h2⟩:=KQ n fun i hi=>h i (by omega)
  obtain⟨y,hy⟩:=h n (by omega);refine⟨l++[y],by simp[h1],fun i z hz=>?_⟩;rw[qBO]at hz;split at hz
  . exact h2 i z hz
  rename_i hi;have:i-l.length=0:=by
   rcases qCh (i-l.length) with h0|h0
   . exact h0
   rw[qBs (by simp;omega)]at hz;cases hz
  rw[this]at hz;cases hz;have:i=n:=by omega
  subst this;exact hy
section
variable {H:Type}{enc:TypeId×Value->H}{w:World}{base:Nat}{held:Bool}
abbrev KMw(w:World):Kn:=Go.Abs.K0 (qhz w)
def ql.get{K:Kn}:∀{l:List AV}{vs:List Value},ql K l vs->vs.length=l.length/\∀(j:Nat) (a:AV),l[j]?=some a->∃v,vs[j]?=some v/\qk K a v
 |[],_,h=>by simp only[ql]at h;subst h;simp
 | a::r,_,h=>by
  simp only[ql]at h;obtain⟨v,vr,rfl,h1,h2⟩:=h;obtain⟨k1,k2⟩:=ql.get h2;refine⟨by simp[k1],fun j b hj=>?_⟩
  cases j with
  |zero=>simp at hj;subst hj;exact⟨v,rfl,h1⟩
  |succ j=>simp at hj;exact k2 j b hj
def Kt{α:Type}{t e sz:Nat}{en:α->List AV}{good:α->Prop}{X:DataW H->Prop}{n:Nat}(ht:prog.underlying t=some (.slice e))(hsz:prog.cellsOf e=sz)(hpos:0<sz)
 (hat:∀y,(en y).all AV.atom=true/\(en y).length=sz)
 (hel:∀cs x,DataW.trod enc prog w base (fun _=>true) held n e cs=some x->X x.1->∃y,ql (KMw w) (en y) cs/\good y)
 {cs:List Value} {x:DataW H×List MemPlace} (h:DataW.trod enc prog w base (fun _=>true) held (n+1) t cs=some x) (hX:∀E S,x.1=.slice E S->∀d∈E,X d):
 ∃(l:List α) (v:Value),cs=[v]/\qk (KMw w) (.sl sz (l.map en) .none) v/\Fits l/\(∀y∈l,good y)/\∀N,(∀E S,x.1=.slice E S->E.length<=N)->l.length<=N:=by
 rcases DataW.trod_slice ht h with⟨rfl,rfl⟩|⟨a,len,cap,elems,rest,m,hm,rfl,rfl,hb,hl,hc,hlen,hel',hsp,_⟩
 . exact⟨[],_,rfl,by simp only[qk];exact .inl ⟨⟨none,rfl,.inl rfl⟩,rfl,trivial⟩,by simp,by simp,by simp⟩
 have hnm:n=m:=by omega
 subst hnm;rw[hsz]at hel' hsp;have one:∀i,i<len->∃y,∃cs',w.cells? base (a.add (i*sz)) sz=some cs'/\ql (KMw w) (en y) cs'/\good y:=by
  intro i hi;have:=hel' i hi;rw[qAW (by omega)]at this;obtain⟨cs',h1,h2⟩:=qCw.1 this;obtain⟨y,h3,h4⟩:=hel cs' _ h2 (hX _ _ rfl _ (List.mem_map_of_mem (qDh _)));exact⟨y,cs',h1,h3,h4⟩
 by_cases h0:cap=0
 . have hl0:len=0:=(by omega);subst h0 hl0;exact⟨[],_,rfl,by simp only[qk];exact .inl ⟨⟨some a,rfl,.inr trivial⟩,rfl,trivial⟩,by simp,by simp,by simp⟩
 have spot:a.spot=none:=by
  have rd:∃cs',w.cells? base (a.add 0) sz=some cs':=by
   by_cases hl0:0<len
   . obtain⟨_,cs',h1,_⟩:=one 0 hl0;rw[qCK]at h1;exact⟨cs',h1⟩
   obtain⟨hr1,hr2⟩:=hsp rfl;have:=hr2 0 (by omega);rw[qAW (by omega),show len+0=0 by omega,qCK]at this;obtain⟨cs',h1,_⟩:=qCw.1 this;exact⟨cs',h1⟩
  obtain⟨cs',h1⟩:=rd;obtain⟨_,hlen',hc'⟩:=World.cells?_some h1;have:=hc' 0 hpos;rw[qAW (by omega)]at this
  cases hs:a.spot with
  |none=>rfl
  | some s=>
   simp only[Addr.add,if_true]at this;unfold World.cell? at this;rw[hs]at this;split at this<;>simp at this
 obtain⟨b,o,s⟩:=a;simp only at spot;subst spot;obtain⟨l,hl1,hl2⟩:=KQ len one;refine⟨l,_,rfl,?_,by rw[Fits,hl1];simp only[maxLen]at hc;omega,fun y hy=>?_,fun N hN=>?_⟩
 . simp only[qk];refine .inr ⟨b,o,cap,by simp[hl1],by simpa[hl1] using hl,qFT b sz _ o fun i r e=>?_,trivial⟩;rw[qBp,qA2]at e;obtain⟨y,hy,rfl⟩:=e;obtain⟨cs',h1,h2,_⟩:=hl2 i y hy;obtain⟨h3,h4⟩:=hat y;obtain⟨_,hlen',hc'⟩:=World.cells?_some h1;obtain⟨g1,g2⟩:=ql.get h2;refine⟨h4,h3,qFS b _ _ fun j z hz=>?_⟩;obtain⟨v,hv1,hv2⟩:=g2 j z hz;have hjl:j<sz:=(by rw[<- hlen'];exact(qAU.1 hv1).1);refine⟨v,?_,hv2⟩;have:=hc' j hjl;rw[hv1]at this;show w.cell? ⟨b,o+i*sz+j,none⟩=some v;rw[<- this];congr 1;simp only[Addr.add];by_cases hi0:i*sz=0
   . rw[if_pos hi0];by_cases hj0:j=0
     . rw[if_pos hj0,hi0,hj0];simp
     rw[if_neg hj0,hi0];simp
   rw[if_neg hi0];by_cases hj0:j=0
   . rw[if_pos hj0,hj0];simp
   rw[if_neg hj0]
 . obtain⟨i,hi⟩:=qBB hy;obtain⟨_,_,_,hg⟩:=hl2 i y hi;exact hg
 have:=hN _ _ rfl;simp only[qBA]at this;omega
def vm{α:Type}{t e sz:Nat}{en:α->List AV}{good:α->Prop}{n:Nat}(ht:prog.underlying t=some (.slice e))(hsz:prog.cellsOf e=sz)(hpos:0<sz)
 (hat:∀y,(en y).all AV.atom=true/\(en y).length=sz)
 (hel:∀cs x,DataW.trod enc prog w base (fun _=>true) held n e cs=some x->∃y,ql (KMw w) (en y) cs/\good y)
 {cs:List Value} {x:DataW H×List MemPlace} (h:DataW.trod enc prog w base (fun _=>true) held (n+1) t cs=some x):
 ∃(l:List α) (v:Value),cs=[v]/\qk (KMw w) (.sl sz (l.map en) .none) v/\Fits l/\∀y∈l,good y:=by
 obtain⟨l,v,h1,h2,h3,h4,_⟩:=Kt (X:=fun _=>True) ht hsz hpos hat (fun cs x h _=>hel cs x h) h (fun _ _ _ _ _=>trivial);exact⟨l,v,h1,h2,h3,h4⟩
end
end Go.Proofs.YtimecmegnocamaaGreatDoor
namespace Go.Abs
open Go Go.RowKit
section
variable {P:Program}{G:Glo}{mu d lw:Bool}{ops:Array Oper}
def qdQ{Q Q'}(hq:∀env U,Q env U->Q' env U):∀(l){env:Env}{U:St},vcR P G mu ops d lw l env U Q->vcR P G mu ops d lw l env U Q'
 |[],env,U,h=>hq _ _ h
 | o::r,env,U,h=>by
  simp only[vcR]at h⊢;exact vcG.imp h fun env v U h=>qdQ hq r h
mutual
def qdO{ac Q Q'}(hq:∀env U,Q env U->Q' env U):∀(s){env:Env}{U:St},vcS P G mu ac ops s env U Q->vcS P G mu ac ops s env U Q'
 |.done,env,U,h=>by simp only[vcS]at h⊢;exact hq _ _ h
 | .step k dp s,env,U,h=>by
  simp only[vcS]at h⊢;split at h
  . rename_i o ho;exact vcG.imp h fun env v U h=>qdO hq s h
  exact h.elim
 | .fork a,env,U,h=>by
  simp only[vcS]at h⊢;exact W8 hq a h
def W8{ac Q Q'}(hq:∀env U,Q env U->Q' env U):∀(a){env:Env}{U:St},vR P G mu ac ops a env U Q->vR P G mu ac ops a env U Q'
 |.nil,env,U,h=>by simp only[vR]
 | .cons k s r,env,U,h=>by
  simp only[vR]at h⊢;refine⟨?_,W8 hq r h.2⟩;have h1:=h.1;split at h1
  . rename_i o ho;exact vcG.imp h1 fun env v U h=>qdO hq s h
  exact h1.elim
end
def we{n n' Q Q'}(hn:∀env U,n env U->n' env U)(hq:∀e env U,Q e env U->Q' e env U):∀e env U,w9 n Q e env U->w9 n' Q' e env U:=by
 intro e env U h;cases e<;>first|exact hn _ _ h|exact hq _ _ _ h
def qiB{id Q Q'}(hq:∀e env U,Q e env U->Q' e env U):∀e env U,vd id Q e env U->vd id Q' e env U:=by
 intro e env U h
 cases e with
 | exit i=>
  simp only[qe9]at h⊢;split at h
  . rename_i hi;rw[if_pos hi];exact hq _ _ _ h
  rename_i hi;rw[if_neg hi];exact hq _ _ _ h
 |_=>exact hq _ _ _ h
def yj:Code->Bool
 |.seq x y=>yj x&&yj y
 |.cond _ x y=>yj x&&yj y
 |.block _ c=>yj c
 |.loop c=>yj c
 |.scope c=>yj c
 |.rangeFunc .. =>false
 |_=>true
def km{o}:∀(c){env:Env}{U:St}{Q Q':Exit->Env->St->Prop},yj c=true->(∀e env U,Q e env U->Q' e env U)->vcC P G o c env U Q->vcC P G o c env U Q'
 |.skip,_,_,_,_,_,hq,h=>hq _ _ _ h
 |.ret,_,_,_,_,_,hq,h=>hq _ _ _ h
 |.exit _,_,_,_,_,_,hq,h=>hq _ _ _ h
 | .seq x y,env,U,Q,Q',hp,hq,h=>by
  simp only[yj,qA1]at hp;simp only[vcC]at h⊢;exact km x hp.1 (we (fun env U h=>km y hp.2 hq h) hq) h
 | .cond c x y,env,U,Q,Q',hp,hq,h=>by
  simp only[yj,qA1]at hp;simp only[vcC]at h⊢;split at h
  . exact⟨fun e=>km x hp.1 hq (h.1 e),fun e=>km y hp.2 hq (h.2 e)⟩
  exact h.elim
 | .block id c,env,U,Q,Q',hp,hq,h=>by
  simp only[yj]at hp;simp only[vcC]at h⊢;exact km c hp (qiB hq) h
 | .region id ops false,env,U,Q,Q',hp,hq,h=>by
  simp only[vcC]at h⊢;exact qdQ (fun env U h=>hq _ _ _ h) _ h
 | .region id ops true,env,U,Q,Q',hp,hq,h=>by
  simp only[vcC]at h⊢;split at h
  . exact qdO (fun env U h=>hq _ _ _ h) _ h
  exact qdQ (fun env U h=>hq _ _ _ h) _ h
 | .loop c,env,U,Q,Q',hp,hq,h=>by
  simp only[yj]at hp;simp only[vcC]at h⊢;obtain⟨I,n,h0,hr⟩:=h;exact⟨I,n,h0,fun n env U hI=>km c hp (we (fun _ _ h=>h) hq) (hr n env U hI)⟩
 |.rangeFunc ..,_,_,_,_,hp,_,_=>by simp[yj]at hp
 | .scope c,_,_,_,_,hp,hq,h=>by
  simp only[yj]at hp;simp only[vcC]at h⊢;refine km c hp (fun e env U h=>?_) h
  cases e with
  |goto l=>exact h
  |_=>exact hq _ _ _ h
 | .label l,_,_,_,_,_,hq,h=>by
  simp only[vcC]at h⊢;exact hq _ _ _ h
 |.goto l,_,_,_,_,_,_,h=>by simp only[vcC]at h
 |.refuse w,_,_,_,_,_,_,h=>by simp only[vcC]at h
def W7{o x y env U Q}(I)(hp:yj x=true)(h1:vcC P G o x env U (w9 I Q))(h2:∀env U,I env U->vcC P G o y env U Q):vcC P G o (.seq x y) env U Q:=by
 simp only[vcC];exact km x hp (we h2 fun _ _ _ h=>h) h1
end
section
variable {P:Program}{G:Glo}{o:Opts}{c:Code}{env:Env}{U:St}{Q:Exit->Env->St->Prop}{α:Type}
def qE.list(l)(J:List α->Env->St->Prop)(h0:J [] env U)
 (hs:∀d v r env U,l=d++v::r->l[d.length]?=some v->d.length<l.length->J d env U->vcC P G o c env U (w9 (J (d++[v])) Q))
 (he:∀env U,J l env U->vcC P G o c env U (w9 (fun _ _=>False) Q)) (hp:yj c=true:=by rfl):qE P G o c env U Q:=by
 refine qFM (fun n ev U=>∃d r,l=d++r/\n=r.length/\J d ev U) l.length ⟨[],l,rfl,rfl,h0⟩ ?_;rintro n ev U ⟨d,r,hl,rfl,hJ⟩
 cases r with
 | nil=>
  rw[qBC]at hl;subst hl;exact km c hp (fun e env U h=>we (fun _ _ h=>h.elim) (fun _ _ _ h=>h) e env U h) (he ev U hJ)
 | cons v r=>
  refine km c hp (fun e env U h=>we (fun env U h=>?_) (fun _ _ _ h=>h) e env U h) (hs d v r ev U hl (by rw[hl];simp) (by rw[hl];simp) hJ);exact⟨r.length,by simp,d++[v],r,by rw[hl];simp,rfl,h⟩
def qE.count(n)(J:Nat->Env->St->Prop)(h0:J 0 env U)
 (hs:∀i env U,i<n->J i env U->vcC P G o c env U (w9 (J (i+1)) Q))
 (he:∀env U,J n env U->vcC P G o c env U (w9 (fun _ _=>False) Q)) (hp:yj c=true:=by rfl):qE P G o c env U Q:=by
 refine qFM (fun m ev U=>∃i,i<=n/\m=n-i/\J i ev U) n ⟨0,by omega,by omega,h0⟩ ?_;rintro m ev U ⟨i,hi,rfl,hJ⟩;by_cases hn:i=n
 . subst hn;exact km c hp (fun e env U h=>we (fun _ _ h=>h.elim) (fun _ _ _ h=>h) e env U h) (he ev U hJ)
 refine km c hp (fun e env U h=>we (fun env U h=>?_) (fun _ _ _ h=>h) e env U h) (hs i ev U (by omega) hJ);exact⟨n-(i+1),by omega,i+1,by omega,rfl,h⟩
end
def ww{α:Type}(sz:Nat)(en:α->List AV)(t:Nat)(s:List α):AV:=match s with
 |[]=>.sl 0 [] .nil
 |a::r=>.sl sz ((a::r).map en) (.chain t (r.length+1))
def jY{α:Type}(T:List (Option Nat))(s:List α):List (Option Nat):=match s with
 |[]=>T
 |_::r=>T++[some (r.length+1)]
section
variable {α:Type}{sz t:Nat}{en:α->List AV}{T:List (Option Nat)}{s m:List α}
@[simp]def qwL:ww sz en t ([]:List α)=.sl 0 [] .nil:=rfl
@[simp]def quP:jY T ([]:List α)=T:=rfl
def qrL(h:s≠[]):ww sz en t s=.sl sz (s.map en) (.chain t s.length):=by
 cases s with
 |nil=>exact absurd rfl h
 |cons a r=>rfl
def qnH(h:s≠[]):jY T s=T++[some s.length]:=by
 cases s with
 |nil=>exact absurd rfl h
 |cons a r=>rfl
def ya{D H ty e i j tok}(hi:D ty=some i)(hd:i.d=.sl e)(hj:D e=some j)(hsz:j.size=sz)(h0:0<sz)(hz:j.zero.length=sz)(hb:j.bytes<=256)(hlen:s.length+m.length<=549755813888)(sz2)(h2:sz2=sz\/m=[]):
 qq D ⟨H,jY T s⟩ ty (ww sz en T.length s) (.sl sz2 (m.map en) tok)=some (ww sz en T.length (s++m),⟨H,jY T (s++m)⟩):=by
 subst hsz;by_cases hm:m=[]
 . subst hm;rw[qBC]
   cases s with
   |nil=>simp[qq,hi,hd,hj,h0,hz,hb,za]
   | cons a r=>
    have:r.length+1<=549755813888:=by simpa using hlen
    simp[qq,hi,hd,hj,h0,hz,hb,za,ww,jY,this]
 have h2:=h2.resolve_right hm;subst h2
 cases s with
 | nil=>
  have:m.length<=549755813888:=by simpa using hlen
  simp[qq,hi,hd,hj,h0,hz,hb,za,qnH hm,qrL hm,this,hm]
 | cons a r=>
  have:r.length+1+m.length<=549755813888:=by simpa using hlen
  simp only[qBl,ww,jY];simp[qq,hi,hd,hj,h0,hz,hb,za,this,hm];omega
def qj1{α:Type}(sz:Nat)(en:α->List AV)(s:List α):AV:=match s with
 |[]=>.sl 0 [] .nil
 |a::r=>.sl sz ((a::r).map en) .none
@[simp high]def QJ:plain (ww sz en t s)=qj1 sz en s:=by cases s<;>rfl
@[simp high]def qvt{H}:yP H (ww sz en t s)=qj1 sz en s:=by cases s<;>rfl
@[simp high]def qxa{H}:fin H (ww sz en t s)=qj1 sz en s:=by cases s<;>rfl
@[simp high]def VG(hn:∀x,qw (en x)=true):qO (qj1 sz en s)=true:=by
 cases s with
 |nil=>rfl
 |cons a r=>simpa[qj1] using zn hn (a::r)
def qgc:Leq (qj1 sz en s) (.sl sz (s.map en) .none):=by
 cases s with
 |nil=>simp[qj1,Leq]
 |cons a r=>exact Leq.sl rfl
@[simp high]def qu6:Leq (qj1 sz en s) (.sl sz (s.map en) .none)=True:=eq_true qgc
end
inductive Fr where
 |seq (y:Code)
 |block (id:Nat)
 |loop (n:Env->St->Prop)
 |scope
inductive Ct where
 |run (d lw:Bool) (rest:List Oper)
 |plan (ac:List Nat) (s:Sch)
section
variable (P:Program)(G:Glo)(o:Opts)
def itp:List Fr->(Exit->Env->St->Prop)->Exit->Env->St->Prop
 |[],Q=>Q
 |.seq y::ks,Q=>w9 (fun env U=>vcC P G o y env U (itp ks Q)) (itp ks Q)
 |.block id::ks,Q=>vd id (itp ks Q)
 |.loop n::ks,Q=>w9 n (itp ks Q)
 |.scope::ks,Q=>qqy (itp ks Q)
def kC(c:Code)(env:Env)(U:St)(ks:List Fr)(Q:Exit->Env->St->Prop):Prop:=vcC P G o c env U (itp P G o ks Q)
def kX(e:Exit)(env:Env)(U:St)(ks:List Fr)(Q:Exit->Env->St->Prop):Prop:=itp P G o ks Q e env U
def kT(ops:Array Oper)(ct:Ct)(env:Env)(U:St)(ks:List Fr)(Q:Exit->Env->St->Prop):Prop:=match ct with
 |.run d lw rest=>vcR P G o.mu ops d lw rest env U (fun env U=>itp P G o ks Q .normal env U)
 |.plan ac s=>vcS P G o.mu ac ops s env U (fun env U=>itp P G o ks Q .normal env U)
def kO(ops:Array Oper)(d:Bool)(op:Op)(dst:Option Nat)(ct:Ct)(env:Env)(U:St)(ks:List Fr)(Q:Exit->Env->St->Prop):Prop :=
 jP P G o.mu d op env U (fun v U'=>kT P G o ops ct (upd env dst v) U' ks Q)
def kS(ops:Array Oper)(x:Option (AV×St))(dst:Option Nat)(ct:Ct)(env:Env)(ks:List Fr)(Q:Exit->Env->St->Prop):Prop :=
 jJ x (fun v U'=>kT P G o ops ct (upd env dst v) U' ks Q)
def kY(ops:Array Oper)(l:Option (List (AV×St)))(x:Option (AV×St))(dst:Option Nat)(ct:Ct)(env:Env)(ks:List Fr)(Q:Exit->Env->St->Prop):Prop :=
 vcX l x (fun v U'=>kT P G o ops ct (upd env dst v) U' ks Q)
def kFn(ops:Array Oper)(d:Bool)(f:AV)(args:List AV)(U:St)(dst:Option Nat)(ct:Ct)(env:Env)(ks:List Fr)(Q:Exit->Env->St->Prop):Prop :=
 qxU P G d f args U (fun v U'=>kT P G o ops ct (upd env dst v) U' ks Q)
def qb(ops:Array Oper)(d:Bool)(g:FuncId)(args:List AV)(U:St)(dst:Option Nat)(ct:Ct)(env:Env)(ks:List Fr)(Q:Exit->Env->St->Prop):Prop :=
 qa P G d g args U (fun v U'=>kT P G o ops ct (upd env dst v) U' ks Q)
def kCd(v:AV)(x y:Code)(env:Env)(U:St)(ks:List Fr)(Q:Exit->Env->St->Prop):Prop:=match v with
 |.bool b=>(b=true->kC P G o x env U ks Q)/\(b=false->kC P G o y env U ks Q)
 |_=>False
def kGv(ops:Array Oper)(d:Bool)(t:Nat)(v:AV)(b:Bool)(op:Op)(dst:Option Nat)(ct:Ct)(env:Env)(U:St)(ks:List Fr)(Q:Exit->Env->St->Prop):Prop:=match v with
 |.bool c=>((c==b)=true->kO P G o ops d op dst ct (upd env (some t) (.bool b)) U ks Q)/\((c==b)=false->kT P G o ops ct (upd (upd env (some t) (.bool (!b))) dst (.tup [])) U ks Q)
 |.tup []=>kT P G o ops ct (upd env dst (.tup [])) U ks Q
 |_=>False
def kG(ops:Array Oper)(d:Bool)(x:Option Nat)(b:Bool)(op:Op)(dst:Option Nat)(ct:Ct)(env:Env)(U:St)(ks:List Fr)(Q:Exit->Env->St->Prop):Prop:=match x with
 |some t=>kGv P G o ops d t (env t) b op dst ct env U ks Q
 |none=>kT P G o ops ct (upd env dst (.tup [])) U ks Q
def qJ(c:Code)(env:Env)(U:St)(ks:List Fr)(Q:Exit->Env->St->Prop):Prop:=qE P G o c env U (itp P G o ks Q)
def kP(ops:Array Oper)(x:Option Oper)(d:Bool)(ct:Ct)(env:Env)(U:St)(ks:List Fr)(Q:Exit->Env->St->Prop):Prop:=match x with
 |some u=>vcG P G o.mu d ops u env U (fun env v U'=>kT P G o ops ct (upd env u.dst v) U' ks Q)
 |none=>False
end
section
variable {P:Program}{G:Glo}{o:Opts}{env:Env}{U:St}{ks:List Fr}{Q:Exit->Env->St->Prop}
@[simp ↓]def qyE:kC P G o .skip env U ks Q=kX P G o .normal env U ks Q:=by simp only[kC,kX,vcC]
@[simp ↓]def qzF:kC P G o .ret env U ks Q=kX P G o .ret env U ks Q:=by simp only[kC,kX,vcC]
@[simp ↓]def qyG{id}:kC P G o (.exit id) env U ks Q=kX P G o (.exit id) env U ks Q:=by simp only[kC,kX,vcC]
@[simp ↓]def qzE{x y}:kC P G o (.seq x y) env U ks Q=kC P G o x env U (.seq y::ks) Q:=by simp only[kC,vcC,itp]
@[simp ↓]def qw7{id x}:kC P G o (.block id x) env U ks Q=kC P G o x env U (.block id::ks) Q:=by simp only[kC,vcC,itp]
@[simp ↓]def qw3{x}:kC P G o (.scope x) env U ks Q=kC P G o x env U (.scope::ks) Q:=by simp only[kC,vcC,itp]
@[simp ↓]def qw4{l}:kC P G o (.label l) env U ks Q=kX P G o .normal env U ks Q:=by simp only[kC,kX,vcC]
@[simp ↓]def qpU:kX P G o .ret env U (.scope::ks) Q=kX P G o .ret env U ks Q:=z4 rfl
@[simp ↓]def qyH{c x y}:kC P G o (.cond c x y) env U ks Q=kCd P G o (ev G env c) x y env U ks Q:=by
 simp only[kC,vcC,kCd,qhd];split<;>simp_all[]
@[simp ↓]def qyF{x}:kC P G o (.loop x) env U ks Q=qJ P G o x env U ks Q:=by simp only[kC,qJ,vcC]<;>rfl
@[simp ↓]def qvd{id l}:kC P G o (.region id l.toArray false) env U ks Q=kT P G o l.toArray (.run false (o.lw.contains id) l) env U ks Q:=by simp only[kC,kT,vcC]
@[simp ↓ high]def qtN{id l}:kC P G o0 (.region id l.toArray false) env U ks Q=kT P G o0 l.toArray (.run false false l) env U ks Q:=by simp only[kC,kT,vcC];rfl
@[simp ↓ high]def qtM{m x y id l}:kC P G ⟨m,x,[],y⟩ (.region id l.toArray false) env U ks Q=kT P G ⟨m,x,[],y⟩ l.toArray (.run false false l) env U ks Q:=by simp only[kC,kT,vcC];rfl
@[simp ↓ high]def qw5{m y id l}:kC P G ⟨m,[],[],y⟩ (.region id l.toArray true) env U ks Q=kT P G ⟨m,[],[],y⟩ l.toArray (.run true false l) env U ks Q:=by simp[kC,kT,vcC]
@[simp ↓]def qw6{id l}:kC P G o0 (.region id l.toArray true) env U ks Q=kT P G o0 l.toArray (.run true false l) env U ks Q:=by simp[kC,kT,vcC,o0]
def Ju{id l}(h:o.fk.lookup id=none):kC P G o (.region id l.toArray true) env U ks Q=kT P G o l.toArray (.run true (o.lw.contains id) l) env U ks Q:=by simp only[kC,kT,vcC,h]
def qU{id}{l:List Oper}{s ac}(h:o.fk.lookup id=some (s,ac)):kC P G o (.region id l.toArray true) env U ks Q=kT P G o l.toArray (.plan ac s) env U ks Q:=by simp only[kC,kT,vcC,h]
@[simp]def qw1{x y}:kCd P G o (.bool true) x y env U ks Q=kC P G o x env U ks Q:=by simp[kCd]
@[simp]def qvc{x y}:kCd P G o (.bool false) x y env U ks Q=kC P G o y env U ks Q:=by simp[kCd]
@[simp low]def qw2{b x y}:kCd P G o (.bool b) x y env U ks Q=((b=true->kC P G o x env U ks Q)/\(b=false->kC P G o y env U ks Q)):=z4 rfl
@[simp ↓]def qzq{e}:kX P G o e env U [] Q=Q e env U:=z4 rfl
@[simp ↓]def qzp{y}:kX P G o .normal env U (.seq y::ks) Q=kC P G o y env U ks Q:=z4 rfl
@[simp ↓]def qtG{y}:kX P G o .ret env U (.seq y::ks) Q=kX P G o .ret env U ks Q:=z4 rfl
@[simp ↓]def qsc{y i}:kX P G o (.exit i) env U (.seq y::ks) Q=kX P G o (.exit i) env U ks Q:=z4 rfl
@[simp ↓]def qwR{id}:kX P G o .normal env U (.block id::ks) Q=kX P G o .normal env U ks Q:=z4 rfl
@[simp ↓]def qpW{id}:kX P G o .ret env U (.block id::ks) Q=kX P G o .ret env U ks Q:=z4 rfl
@[simp ↓]def qn0{id i}:kX P G o (.exit i) env U (.block id::ks) Q=if i=id then kX P G o .normal env U ks Q else kX P G o (.exit i) env U ks Q:=by
 simp only[kX,itp,vd]
@[simp ↓]def qyq{n}:kX P G o .normal env U (.loop n::ks) Q=n env U:=z4 rfl
@[simp ↓]def qsd{n}:kX P G o .ret env U (.loop n::ks) Q=kX P G o .ret env U ks Q:=z4 rfl
@[simp ↓]def qpV{n i}:kX P G o (.exit i) env U (.loop n::ks) Q=kX P G o (.exit i) env U ks Q:=z4 rfl
end
section
variable {P:Program}{G:Glo}{o:Opts}{ops:Array Oper}{d lw:Bool}{env:Env}{U:St}{ks:List Fr}{Q:Exit->Env->St->Prop}{dst:Option Nat}{op:Op}{ct:Ct}
@[simp ↓]def qzs:kT P G o ops (.run d lw []) env U ks Q=kX P G o .normal env U ks Q:=z4 rfl
@[simp ↓]def qzr{type pos}{after:Array Edge}{rest}:
 kT P G o ops (.run d false ({dst:=dst,op:=op,type:=type,pos:=pos,after:=after,guard:=none}::rest)) env U ks Q=kO P G o ops d op dst (.run d false rest) env U ks Q:=by
 simp only[kT,kO];rw[qqQ]
@[simp ↓]def qwS{type pos}{after:Array Edge}{rest j b}:
 kT P G o ops (.run d false ({dst:=dst,op:=op,type:=type,pos:=pos,after:=after,guard:=some (j,b)}::rest)) env U ks Q=kG P G o ops d ((ops[j]?).bind (·.dst)) b op dst (.run d false rest) env U ks Q:=by
 simp only[kT];rw[qiW];unfold vQ kG;generalize (ops[j]?).bind (·.dst)=x
 cases x with
 |none=>rfl
 | some t=>
  simp only[kGv];generalize env t=v
  cases v with
  |tup vs=>cases vs<;>rfl
  |_=>rfl
@[simp ↓]def qyt{ac}:kT P G o ops (.plan ac .done) env U ks Q=kX P G o .normal env U ks Q:=by simp only[kT,vcS,kX]
@[simp ↓]def qyr{ac dp k s}:kT P G o ops (.plan ac (.step k dp s)) env U ks Q=kP P G o ops (ops[k]?) (match ops[k]? with|some u=>zg o.mu ac k u.op != 9|none=>false) (.plan ac s) env U ks Q:=by
 simp only[kT,vcS,kP];split<;>rename_i h<;>simp[h]
@[simp]def qzt{type pos}{after:Array Edge}:kP P G o ops (some {dst:=dst,op:=op,type:=type,pos:=pos,after:=after,guard:=none}) d ct env U ks Q=kO P G o ops d op dst ct env U ks Q:=by
 simp only[kP,vcG,kO]
@[simp]def qyD{t b}:kG P G o ops d (some t) b op dst ct env U ks Q=kGv P G o ops d t (env t) b op dst ct env U ks Q:=z4 rfl
@[simp]def qyC{t b}:kGv P G o ops d t (.tup []) b op dst ct env U ks Q=kT P G o ops ct (upd env dst (.tup [])) U ks Q:=z4 rfl
@[simp]def qzz{t}:kGv P G o ops d t (.bool true) true op dst ct env U ks Q=kO P G o ops d op dst ct (upd env (some t) (.bool true)) U ks Q:=by simp[kGv]
@[simp]def qzC{t}:kGv P G o ops d t (.bool false) false op dst ct env U ks Q=kO P G o ops d op dst ct (upd env (some t) (.bool false)) U ks Q:=by simp[kGv]
@[simp]def qzA{t}:kGv P G o ops d t (.bool true) false op dst ct env U ks Q=kT P G o ops ct (upd (upd env (some t) (.bool true)) dst (.tup [])) U ks Q:=by simp[kGv]
@[simp]def qzB{t}:kGv P G o ops d t (.bool false) true op dst ct env U ks Q=kT P G o ops ct (upd (upd env (some t) (.bool false)) dst (.tup [])) U ks Q:=by simp[kGv]
@[simp low]def qw0{t c}:kGv P G o ops d t (.bool c) true op dst ct env U ks Q=((c=true->kO P G o ops d op dst ct (upd env (some t) (.bool true)) U ks Q)/\(c=false->kT P G o ops ct (upd (upd env (some t) (.bool false)) dst (.tup [])) U ks Q)):=by simp[kGv]
@[simp low]def qvb{t c}:kGv P G o ops d t (.bool c) false op dst ct env U ks Q=((c=false->kO P G o ops d op dst ct (upd env (some t) (.bool false)) U ks Q)/\(c=true->kT P G o ops ct (upd (upd env (some t) (.bool true)) dst (.tup [])) U ks Q)):=by simp[kGv]
@[simp]def qyu{v U}:kS P G o ops (some (v,U)) dst ct env ks Q=kT P G o ops ct (upd env dst v) U ks Q:=z4 rfl
@[simp]def qyv:kS P G o ops none dst ct env ks Q=False:=z4 rfl
@[simp]def qyp{x}:kY P G o ops none x dst ct env ks Q=kS P G o ops x dst ct env ks Q:=by simp only[kY,kS];rw[qab]
@[simp]def qzo{v τ x}:kY P G o ops (some [(v,τ)]) x dst ct env ks Q=kT P G o ops ct (upd env dst v) τ ks Q:=by simp only[kY];rw[qqO]
@[simp]def qzn{v v' τ τ' x}:kY P G o ops (some [(v,τ),(v',τ')]) x dst ct env ks Q=(kT P G o ops ct (upd env dst v) τ ks Q/\kT P G o ops ct (upd env dst v') τ' ks Q):=by simp only[kY];rw[qqN]
@[simp]def qzD{g first args cap}:kFn P G o ops d (.fn g first cap) args U dst ct env ks Q=qb P G o ops d g (ke first args cap) U dst ct env ks Q:=z4 rfl
@[simp ↓]def qyB{f a t}:kO P G o ops d (.call {callee:=.value f,args:=a,argTypes:=t}) dst ct env U ks Q=kFn P G o ops d (ev G env f) (qbs G env a.toList) U dst ct env ks Q:=z4 rfl
@[simp ↓]def qyy{x}:kO P G o ops d (.move x) dst ct env U ks Q=kS P G o ops (sem (Dof P) G env U (.move x)) dst ct env ks Q:=by simp only[kO,kS];rw[qiZ]
@[simp ↓]def qva{x}:kO P G o ops d (.assign x) dst ct env U ks Q=kS P G o ops (sem (Dof P) G env U (.assign x)) dst ct env ks Q:=by simp only[kO,kS];rw[qdS]
@[simp ↓]def qyx{a b c}:kO P G o ops d (.pick a b c) dst ct env U ks Q=kS P G o ops (sem (Dof P) G env U (.pick a b c)) dst ct env ks Q:=by simp only[kO,kS];rw[qiY]
@[simp ↓]def qwZ{t}:kO P G o ops d (.alloc t) dst ct env U ks Q=kS P G o ops (sem (Dof P) G env U (.alloc t)) dst ct env ks Q:=by simp only[kO,kS];rw[qhc]
@[simp ↓]def qzy{t x}:kO P G o ops d (.box t x) dst ct env U ks Q=kS P G o ops (sem (Dof P) G env U (.box t x)) dst ct env ks Q:=by simp only[kO,kS];rw[qmB]
@[simp ↓]def qwX{t p}:kO P G o ops d (.build t p) dst ct env U ks Q=kS P G o ops (sem (Dof P) G env U (.build t p)) dst ct env ks Q:=by simp only[kO,kS];rw[qha]
@[simp ↓]def qn4{t n p}:kO P G o ops d (.buildSlice t n p) dst ct env U ks Q=kS P G o ops (sem (Dof P) G env U (.buildSlice t n p)) dst ct env ks Q:=by simp only[kO,kS];rw[Y1]
@[simp ↓]def qyz{t x}:kO P G o ops d (.load t x) dst ct env U ks Q=kS P G o ops (sem (Dof P) G env U (.load t x)) dst ct env ks Q:=by simp only[kO,kS];rw[qi0]
@[simp ↓]def qwT{t x y}:kO P G o ops d (.store t x y) dst ct env U ks Q=kS P G o ops (sem (Dof P) G env U (.store t x y)) dst ct env ks Q:=by simp only[kO,kS];rw[qg6]
@[simp ↓]def qse{x}:kO P G o ops d (.nilCheck x) dst ct env U ks Q=kS P G o ops (sem (Dof P) G env U (.nilCheck x)) dst ct env ks Q:=by simp only[kO,kS];rw[qac]
@[simp ↓]def qwY{b t u x y}(h:b≠.eql)(h':b≠.neq):kO P G o ops d (.binOp b t x y u) dst ct env U ks Q=kS P G o ops (sem (Dof P) G env U (.binOp b t x y u)) dst ct env ks Q:=by simp only[kO,kS];rw[qhb h h']
@[simp ↓]def qzx{t u x y}:kO P G o ops d (.binOp .eql t x y u) dst ct env U ks Q=kY P G o ops (qkg d false (Dof P) t (ev G env x) (ev G env y) U) (sem (Dof P) G env U (.binOp .eql t x y u)) dst ct env ks Q:=by simp only[kO,kY];rw[qmz]
@[simp ↓]def qzu{t u x y}:kO P G o ops d (.binOp .neq t x y u) dst ct env U ks Q=kY P G o ops (qkg d true (Dof P) t (ev G env x) (ev G env y) U) (sem (Dof P) G env U (.binOp .neq t x y u)) dst ct env ks Q:=by simp only[kO,kY];rw[qmw]
@[simp ↓]def qyw{u t x}:kO P G o ops d (.unOp u t x) dst ct env U ks Q=kS P G o ops (sem (Dof P) G env U (.unOp u t x)) dst ct env ks Q:=by simp only[kO,kS];rw[qiX]
@[simp ↓]def qtJ{t u x}:kO P G o ops d (.convert t u x) dst ct env U ks Q=kS P G o ops (sem (Dof P) G env U (.convert t u x)) dst ct env ks Q:=by simp only[kO,kS];rw[qbG]
@[simp ↓]def qsf{f:Fn}{a b}:kO P G o ops d (.makeFunc f a b) dst ct env U ks Q=kS P G o ops (sem (Dof P) G env U (.makeFunc f a b)) dst ct env ks Q:=by simp only[kO,kS];rw[qad]
@[simp ↓]def qtH{t r}:kO P G o ops d (.makeMap t r) dst ct env U ks Q=kS P G o ops (sem (Dof P) G env U (.makeMap t r)) dst ct env ks Q:=by simp only[kO,kS];rw[qbE]
def ZX{t x y}(hmu:o.mu=false):kO P G o ops d (.makeSlice t x y) dst ct env U ks Q=kS P G o ops (sem (Dof P) G env U (.makeSlice t x y)) dst ct env ks Q:=by
 simp only[kO,kS];cases d
 . rw[Q7,hmu,qkk,qab]
 rw[Y0]
@[simp ↓]def qn2{u lw v t x y}:kO P G ⟨false,u,lw,v⟩ ops d (.makeSlice t x y) dst ct env U ks Q=kS P G ⟨false,u,lw,v⟩ ops (sem (Dof P) G env U (.makeSlice t x y)) dst ct env ks Q:=ZX rfl
@[simp ↓]def qn3{t x y}:kO P G o0 ops d (.makeSlice t x y) dst ct env U ks Q=kS P G o0 ops (sem (Dof P) G env U (.makeSlice t x y)) dst ct env ks Q:=ZX rfl
@[simp ↓]def qn1{u lw v t x y}:kO P G ⟨true,u,lw,v⟩ ops false (.makeSlice t x y) dst ct env U ks Q=kY P G ⟨true,u,lw,v⟩ ops (mkX (Dof P) true U t (ev G env x) (ev G env y)) (sem (Dof P) G env U (.makeSlice t x y)) dst ct env ks Q:=by simp only[kO,kY];rw[Q7]
@[simp ↓]def qwU{t x lo hi mx}:kO P G o ops d (.slice t x lo hi mx) dst ct env U ks Q=kS P G o ops (sem (Dof P) G env U (.slice t x lo hi mx)) dst ct env ks Q:=by simp only[kO,kS];rw[qg7]
@[simp ↓]def qpZ{t x i}:kO P G o ops d (.fieldAddr t x i) dst ct env U ks Q=kS P G o ops (sem (Dof P) G env U (.fieldAddr t x i)) dst ct env ks Q:=by simp only[kO,kS];rw[WT]
@[simp ↓]def qwW{t x i}:kO P G o ops d (.field t x i) dst ct env U ks Q=kS P G o ops (sem (Dof P) G env U (.field t x i)) dst ct env ks Q:=by simp only[kO,kS];rw[qg9]
@[simp ↓]def qpY{t x y}:kO P G o ops d (.indexAddr t x y) dst ct env U ks Q=kS P G o ops (sem (Dof P) G env U (.indexAddr t x y)) dst ct env ks Q:=by simp only[kO,kS];rw[WS]
@[simp ↓]def qwV{t x y}:kO P G o ops d (.index t x y) dst ct env U ks Q=kS P G o ops (sem (Dof P) G env U (.index t x y)) dst ct env ks Q:=by simp only[kO,kS];rw[qg8]
@[simp ↓]def qu9{t x y k}:kO P G o ops d (.lookup t x y k) dst ct env U ks Q=kS P G o ops (sem (Dof P) G env U (.lookup t x y k)) dst ct env ks Q:=by simp only[kO,kS];rw[qdR]
@[simp ↓]def qpX{t x y z}:kO P G o ops d (.mapUpdate t x y z) dst ct env U ks Q=kS P G o ops (sem (Dof P) G env U (.mapUpdate t x y z)) dst ct env ks Q:=by simp only[kO,kS];rw[WR]
@[simp ↓]def qtI{x i}:kO P G o ops d (.extract x i) dst ct env U ks Q=kS P G o ops (sem (Dof P) G env U (.extract x i)) dst ct env ks Q:=by simp only[kO,kS];rw[qbF]
@[simp ↓]def qzw{a t}:kO P G o ops d (.call {callee:=.builtin .len,args:=a,argTypes:=t}) dst ct env U ks Q=kS P G o ops (sem (Dof P) G env U (.call {callee:=.builtin .len,args:=a,argTypes:=t})) dst ct env ks Q:=by simp only[kO,kS];rw[qmy]
@[simp ↓]def qzv{a t}:kO P G o ops d (.call {callee:=.builtin .min,args:=a,argTypes:=t}) dst ct env U ks Q=kS P G o ops (sem (Dof P) G env U (.call {callee:=.builtin .min,args:=a,argTypes:=t})) dst ct env ks Q:=by simp only[kO,kS];rw[qmx]
@[simp ↓]def qkB{a t}(hmu:o.mu=false):kO P G o ops d (.call {callee:=.builtin .append,args:=a,argTypes:=t}) dst ct env U ks Q=kS P G o ops (sem (Dof P) G env U (.call {callee:=.builtin .append,args:=a,argTypes:=t})) dst ct env ks Q:=by simp only[kO,kS,hmu];rw[qdT]
@[simp ↓]def qtK{s x t u}(hmu:o.mu=true):kO P G o ops false (.call {callee:=.builtin .append,args:=#[s,x],argTypes:=#[t,u]}) dst ct env U ks Q=kY P G o ops ((zx (Dof P) U t u (ev G env s) (ev G env x)).map fun p=>[p]) (sem (Dof P) G env U (.call {callee:=.builtin .append,args:=#[s,x],argTypes:=#[t,u]})) dst ct env ks Q:=by simp only[kO,kY,hmu];rw[qbH]
@[simp ↓]def qyA{x y t u}:kO P G o ops false (.call {callee:=.builtin .copy,args:=#[x,y],argTypes:=#[t,u]}) dst ct env U ks Q=kY P G o ops ((kq (Dof P) U t (ev G env x) (ev G env y)).map fun p=>[p]) none dst ct env ks Q:=by simp only[kO,kY];rw[qi1]
@[simp ↓]def qtL{a t}:kO P G o0 ops d (.call {callee:=.builtin .append,args:=a,argTypes:=t}) dst ct env U ks Q=kS P G o0 ops (sem (Dof P) G env U (.call {callee:=.builtin .append,args:=a,argTypes:=t})) dst ct env ks Q:=qkB rfl
end
section
@[simp]def qxy  : AV.atom (.any)=false:=rfl
@[simp]def qti  : qZ (.any)=none:=rfl
@[simp]def qyi  : pl1 (.any)=.any:=rfl
@[simp]def qyc  : pl2 (.any)=.any:=rfl
@[simp]def quL  : plain (.any)=.any:=rfl
@[simp]def qxq  {H}:yb H (.any)=.any:=rfl
@[simp]def qxk  {H}:yP H (.any)=.any:=rfl
@[simp]def qyX  {H}:fin H (.any)=.any:=rfl
@[simp]def qv3{b}:AV.atom (.bool b)=true:=rfl
@[simp]def qqw{b}:qZ (.bool b)=some [.bool b]:=rfl
@[simp]def qwK{b}:pl1 (.bool b)=.bool b:=rfl
@[simp]def qwE{b}:pl2 (.bool b)=.bool b:=rfl
@[simp]def qtC{b}:plain (.bool b)=.bool b:=rfl
@[simp]def qvE{b H}:yb H (.bool b)=.bool b:=rfl
@[simp]def qvy{b H}:yP H (.bool b)=.bool b:=rfl
@[simp]def qxf{b H}:fin H (.bool b)=.bool b:=rfl
@[simp]def qxx{k n}:AV.atom (.int k n)=true:=rfl
@[simp]def qth{k n}:qZ (.int k n)=some [.int k n]:=rfl
@[simp]def qyh{k n}:pl1 (.int k n)=.int k n:=rfl
@[simp]def qyb{k n}:pl2 (.int k n)=.int k n:=rfl
@[simp]def quK{k n}:plain (.int k n)=.int k n:=rfl
@[simp]def qxp{k n H}:yb H (.int k n)=.int k n:=rfl
@[simp]def qxj{k n H}:yP H (.int k n)=.int k n:=rfl
@[simp]def qyW{k n H}:fin H (.int k n)=.int k n:=rfl
@[simp]def qxu{s:List UInt8}:AV.atom (.str s)=true:=rfl
@[simp]def qte{s:List UInt8}:qZ (.str s)=some [.str s]:=rfl
@[simp]def qye{s:List UInt8}:pl1 (.str s)=.str s:=rfl
@[simp]def qx8{s:List UInt8}:pl2 (.str s)=.str s:=rfl
@[simp]def quH{s:List UInt8}:plain (.str s)=.str s:=rfl
@[simp]def qxm{s:List UInt8}{H}:yb H (.str s)=.str s:=rfl
@[simp]def qxg{s:List UInt8}{H}:yP H (.str s)=.str s:=rfl
@[simp]def qyT{s:List UInt8}{H}:fin H (.str s)=.str s:=rfl
@[simp]def qvZ  : AV.atom (.nilp)=true:=rfl
@[simp]def qqs  : qZ (.nilp)=some [.nilp]:=rfl
@[simp]def qwG  : pl1 (.nilp)=.nilp:=rfl
@[simp]def qwA  : pl2 (.nilp)=.nilp:=rfl
@[simp]def qty  : plain (.nilp)=.nilp:=rfl
@[simp]def qvA  {H}:yb H (.nilp)=.nilp:=rfl
@[simp]def qvu  {H}:yP H (.nilp)=.nilp:=rfl
@[simp]def qxb  {H}:fin H (.nilp)=.nilp:=rfl
@[simp]def qxv{b o}:AV.atom (.ptr b o)=true:=rfl
@[simp]def qtf{b o}:qZ (.ptr b o)=some [.ptr b o]:=rfl
@[simp]def qyf{b o}:pl1 (.ptr b o)=.ptr b o:=rfl
@[simp]def qx9{b o}:pl2 (.ptr b o)=.ptr b o:=rfl
@[simp]def quI{b o}:plain (.ptr b o)=.ptr b o:=rfl
@[simp]def qxn{b o H}:yb H (.ptr b o)=.ptr b o:=rfl
@[simp]def qxh{b o H}:yP H (.ptr b o)=.ptr b o:=rfl
@[simp]def qyU{b o H}:fin H (.ptr b o)=.ptr b o:=rfl
@[simp]def qvY{c}:AV.atom (.rptr c)=true:=rfl
@[simp]def qqr{c}:qZ (.rptr c)=some [.rptr c]:=rfl
@[simp]def qwF{c}:pl1 (.rptr c)=.rptr c:=rfl
@[simp]def qwz{c}:pl2 (.rptr c)=.rptr c:=rfl
@[simp]def qtx{c}:plain (.rptr c)=.rptr c:=rfl
@[simp]def qvz{c H}:yb H (.rptr c)=.rptr c:=rfl
@[simp]def qvs{c H}:yP H (.rptr c)=.rptr c:=rfl
@[simp]def qw9{c H}:fin H (.rptr c)=.rptr c:=rfl
@[simp]def qv0  : AV.atom (.nilm)=true:=rfl
@[simp]def qqt  : qZ (.nilm)=some [.nilm]:=rfl
@[simp]def qwH  : pl1 (.nilm)=.nilm:=rfl
@[simp]def qwB  : pl2 (.nilm)=.nilm:=rfl
@[simp]def qtz  : plain (.nilm)=.nilm:=rfl
@[simp]def qvB  {H}:yb H (.nilm)=.nilm:=rfl
@[simp]def qvv  {H}:yP H (.nilm)=.nilm:=rfl
@[simp]def qxc  {H}:fin H (.nilm)=.nilm:=rfl
@[simp]def qxw{b}:AV.atom (.map b)=true:=rfl
@[simp]def qtg{b}:qZ (.map b)=some [.map b]:=rfl
@[simp]def qyg{b}:pl1 (.map b)=.map b:=rfl
@[simp]def qya{b}:pl2 (.map b)=.map b:=rfl
@[simp]def quJ{b}:plain (.map b)=.map b:=rfl
@[simp]def qxo{b H}:yb H (.map b)=.map b:=rfl
@[simp]def qxi{b H}:yP H (.map b)=.map b:=rfl
@[simp]def qyV{b H}:fin H (.map b)=.map b:=rfl
@[simp]def qv2{b}:AV.atom (.iter b)=true:=rfl
@[simp]def qqv{b}:qZ (.iter b)=some [.iter b]:=rfl
@[simp]def qwJ{b}:pl1 (.iter b)=.iter b:=rfl
@[simp]def qwD{b}:pl2 (.iter b)=.iter b:=rfl
@[simp]def qtB{b}:plain (.iter b)=.iter b:=rfl
@[simp]def qvD{b H}:yb H (.iter b)=.iter b:=rfl
@[simp]def qvx{b H}:yP H (.iter b)=.iter b:=rfl
@[simp]def qxe{b H}:fin H (.iter b)=.iter b:=rfl
@[simp]def qy7{f a c}:AV.atom (.fn f a c)=true:=rfl
@[simp]def qtW{f a c}:qZ (.fn f a c)=some [.fn f a c]:=rfl
@[simp]def qzk{f a c}:pl1 (.fn f a c)=.fn f a c:=rfl
@[simp]def qzi{f a c}:pl2 (.fn f a c)=.fn f a c:=rfl
@[simp]def qwy{f a c}:plain (.fn f a c)=.fn f a c:=rfl
@[simp]def qy0{f a c H}:yb H (.fn f a c)=.fn f a c:=rfl
@[simp]def qyZ{f a c H}:yP H (.fn f a c)=.fn f a c:=rfl
@[simp]def qzH{f a c H}:fin H (.fn f a c)=.fn f a c:=rfl
@[simp]def qv1  : AV.atom (.nilf)=true:=rfl
@[simp]def qqu  : qZ (.nilf)=some [.nilf]:=rfl
@[simp]def qwI  : pl1 (.nilf)=.nilf:=rfl
@[simp]def qwC  : pl2 (.nilf)=.nilf:=rfl
@[simp]def qtA  : plain (.nilf)=.nilf:=rfl
@[simp]def qvC  {H}:yb H (.nilf)=.nilf:=rfl
@[simp]def qvw  {H}:yP H (.nilf)=.nilf:=rfl
@[simp]def qxd  {H}:fin H (.nilf)=.nilf:=rfl
@[simp]def qy5{sz rows tok}:AV.atom (.sl sz rows tok)=true:=rfl
@[simp]def qtU{sz rows tok}:qZ (.sl sz rows tok)=some [.sl sz rows tok]:=rfl
@[simp]def qrD{sz rows}  : pl1 (.sl sz rows .none)=.sl sz rows .none:=rfl
@[simp]def qrC{sz rows}  : pl2 (.sl sz rows .none)=.sl sz rows .none:=rfl
@[simp]def qnE{sz rows}  : plain (.sl sz rows .none)=.sl sz rows .none:=rfl
@[simp]def qp8{sz rows H}:yb H (.sl sz rows .none)=.sl sz rows .none:=rfl
@[simp]def qp7{sz rows H}:yP H (.sl sz rows .none)=.sl sz rows .none:=rfl
@[simp]def qsF{sz rows H}:fin H (.sl sz rows .none)=.sl sz rows .none:=rfl
@[simp]def qtE{sz rows}  : pl1 (.sl sz rows .nil)=.sl sz rows .nil:=rfl
@[simp]def qtD{sz rows}  : pl2 (.sl sz rows .nil)=.sl sz rows .nil:=rfl
@[simp]def qpF{sz rows}  : plain (.sl sz rows .nil)=.sl sz rows .nil:=rfl
@[simp]def qsI{sz rows H}:yb H (.sl sz rows .nil)=.sl sz rows .nil:=rfl
@[simp]def qsH{sz rows H}:yP H (.sl sz rows .nil)=.sl sz rows .nil:=rfl
@[simp]def qtP{sz rows H}:fin H (.sl sz rows .nil)=.sl sz rows .nil:=rfl
@[simp]def qpI{sz rows}  : pl1 (.sl sz rows .tight)=.sl sz rows .tight:=rfl
@[simp]def qpG{sz rows}  : pl2 (.sl sz rows .tight)=.sl sz rows .tight:=rfl
@[simp]def qmn{sz rows}  : plain (.sl sz rows .tight)=.sl sz rows .tight:=rfl
@[simp]def qos{sz rows H}:yb H (.sl sz rows .tight)=.sl sz rows .tight:=rfl
@[simp]def qoq{sz rows H}:yP H (.sl sz rows .tight)=.sl sz rows .tight:=rfl
@[simp]def qp5{sz rows H}:fin H (.sl sz rows .tight)=.sl sz rows .tight:=rfl
@[simp]def qpJ{sz rows t k}:pl1 (.sl sz rows (.chain t k))=.sl sz rows .none:=rfl
@[simp]def qpH{sz rows t k}:pl2 (.sl sz rows (.chain t k))=.sl sz rows .none:=rfl
@[simp]def qmo{sz rows t k}:plain (.sl sz rows (.chain t k))=.sl sz rows .none:=rfl
@[simp]def qot{sz rows t k H}:yb H (.sl sz rows (.chain t k))=.sl sz rows .none:=rfl
@[simp]def qor{sz rows t k H}:yP H (.sl sz rows (.chain t k))=.sl sz rows .none:=rfl
@[simp]def qp6{sz rows t k H}:fin H (.sl sz rows (.chain t k))=.sl sz rows .none:=rfl
@[simp]def qy6{b o l z}:AV.atom (.ms b o l z)=true:=rfl
@[simp]def qtV{b o l z}:qZ (.ms b o l z)=some [.ms b o l z]:=rfl
@[simp]def qzj{b o l z}:pl1 (.ms b o l z)=.ms b o l z:=rfl
@[simp]def qzh{b o l z}:pl2 (.ms b o l z)=.ms b o l z:=rfl
@[simp]def qwx{b o l z}:plain (.ms b o l z)=.ms b o l z:=rfl
@[simp]def qxz{c}:AV.atom (.agg c)=false:=rfl
@[simp]def qxt{c}:AV.atom (.tup c)=false:=rfl
@[simp]def qtj{c}:qZ (.agg c)=if c.all AV.atom=true then some c else none:=rfl
@[simp]def qtT{c}:qZ (.tup c)=none:=rfl
@[simp]def qyd{c}:pl2 (.agg c)=.agg (c.map pl1):=rfl
@[simp]def quM{c}:plain (.agg c)=.agg (c.map pl1):=rfl
@[simp]def qxl{c H}:yP H (.agg c)=.agg (c.map (yb H)):=rfl
@[simp]def qyY{c H}:fin H (.agg c)=.agg (c.map (yb H)):=rfl
@[simp]def quG{c}:plain (.tup c)=.tup (c.map pl2):=rfl
@[simp]def qyS{c H}:fin H (.tup c)=.tup (c.map (yP H)):=rfl
end
attribute [simp] qEP qDx
attribute [simp] zu zZ qP qi qp za Jq qV TD.isSl TD.isPtr TD.isMap TD.isFn
section
variable {A t:List Blk}{k:Nat}{x:Blk}
@[simp]def qy9:(A++t)[A.length]?=t[0]?:=by rw[qA4 (qA5 _),qBS]
@[simp]def qy8:(A++t)[A.length+k]?=t[k]?:=by rw[qA4 (by omega)];congr 1;try omega
def qf(h:A[k]?=some x)(t):(A++t)[k]?=some x:=by rw[qBa (qAU.1 h).1,h]
def ky{b}(h:A[b]?=some x)(t y):(A++t).set b y=A.set b y++t:=List.set_append_left _ _ (qAU.1 h).1
end
section
variable {P:Program}{G:Glo}{U:St}{f:FuncId}{args:List AV}{r:AV}
def Pure.kO {G : Nat → AV} {fn : Func} {c : Code} (o : Opts) (deep : Bool) (hm : P.follows .mixedOrders = true) (hf : P.funcs[f]? = some fn) (hb : fn.body = some c) (hk : (jX fn.ntmps o c && decide (args.length ≤ fn.ntmps) && fn.name != "runtime.NumGoroutine") = true)
 (h:kC P G o c (JD args) ⟨[],[]⟩ [] (qc5 P deep fn.results.toList r)):Pure P G f args r:=Pure.vcO o deep hm hf hb hk h
def qFl:=@Pure.kO
def Pure.k {G : Nat → AV} {fn : Func} {c : Code} (hm : P.follows .mixedOrders = true) (hf : P.funcs[f]? = some fn) (hb : fn.body = some c) (hk : (jX fn.ntmps o0 c && decide (args.length ≤ fn.ntmps) && fn.name != "runtime.NumGoroutine") = true)
 (h:kC P G o0 c (JD args) ⟨[],[]⟩ [] (qc5 P false fn.results.toList r)):Pure P G f args r:=qFP hm hf hb hk h
def qFm:=@Pure.k
def qj.kO {fn c Q} (o) (hm : P.follows .mixedOrders = true) (hf : P.funcs[f]? = some fn) (hb : fn.body = some c) (hk : (jX fn.ntmps o c && decide (args.length ≤ fn.ntmps) && fn.name != "runtime.NumGoroutine") = true)
 (h:kC P G o c (JD args) U [] (qdC P fn.results.toList Q)):qj P G f args U Q:=qj.vcO o hm hf hb hk h
def qFn:=@qj.kO
def qj.k {fn c Q} (hm : P.follows .mixedOrders = true) (hf : P.funcs[f]? = some fn) (hb : fn.body = some c) (hk : (jX fn.ntmps o0 c && decide (args.length ≤ fn.ntmps) && fn.name != "runtime.NumGoroutine") = true)
 (h:kC P G o0 c (JD args) U [] (qdC P fn.results.toList Q)):qj P G f args U Q:=qj.vc hm hf hb hk h
def qFo:=@qj.k
end
section
variable {P:Program}{G:Glo}{o:Opts}{ops:Array Oper}{d:Bool}{g:FuncId}{args args':List AV}{env:Env}{U:St}{ks:List Fr}{Q:Exit->Env->St->Prop}{dst:Option Nat}{ct:Ct}{r:AV}
def qb.call(h:Pure P G g args r)(hno:qw args=true)(hq:kT P G o ops ct (upd env dst r) U ks Q):qb P G o ops d g args U dst ct env ks Q:=qFz h hno hq
def qFp:=@qb.call
def qb.less(h:Pure P G g args' r)(hno:qw args=true)(ha:zm args args')(hq:kT P G o ops ct (upd env dst r) U ks Q):qb P G o ops d g args U dst ct env ks Q:=qFA h hno ha hq
def qb.pure(h:Pure P G g args' r)(hno:qw (args.map plain)=true)(ha:zm (args.map plain) args')(hq:kT P G o ops ct (upd env dst r) U ks Q):qb P G o ops d g args U dst ct env ks Q:=qFO h hno ha hq
def qFq:=@qb.pure
def qb.lent(h:Pure P G g args' r)(hb:qtS r=true)(ha:zm (args.map (frz U.H 8)) args')(hq:kT P G o ops ct (upd env dst r) U ks Q):qb P G o ops d g args U dst ct env ks Q:=qa.lent h hb ha hq
def qFr:=@qb.lent
def qb.acall{R}(h:qj P G g args U R)(hq:∀v U',R v U'->kT P G o ops ct (upd env dst v) U' ks Q):qb P G o ops false g args U dst ct env ks Q:=qFD h hq
def qFs:=@qb.acall
def qJ.list{α:Type}(l:List α)(J:List α->Env->St->Prop){c:Code}(h0:J [] env U)
 (hs:∀d v r env U,l=d++v::r->l[d.length]?=some v->d.length<l.length->J d env U->kC P G o c env U (.loop (J (d++[v]))::ks) Q)
 (he:∀env U,J l env U->kC P G o c env U (.loop (fun _ _=>False)::ks) Q) (hp:yj c=true:=by rfl):qJ P G o c env U ks Q:=qE.list l J h0 hs he hp
def qFt:=@qJ.list
def qJ.count(n)(J:Nat->Env->St->Prop){c}(h0:J 0 env U)
 (hs:∀i env U,i<n->J i env U->kC P G o c env U (.loop (J (i+1))::ks) Q)
 (he:∀env U,J n env U->kC P G o c env U (.loop (fun _ _=>False)::ks) Q) (hp:yj c=true:=by rfl):qJ P G o c env U ks Q:=qE.count n J h0 hs he hp
def qJ.gen{c}(I:Nat->Env->St->Prop)(n)(h:I n env U)(hr:∀n env U (R:Env->St->Prop),(∀m env U,m<n->I m env U->R env U)->I n env U->kC P G o c env U (.loop R::ks) Q):qJ P G o c env U ks Q :=
 qFM I n h fun n env U hI=>hr n env U _ (fun m env U hm hI=>⟨m,hm,hI⟩) hI
def qFu:=@qJ.gen
end
