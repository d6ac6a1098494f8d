import Derived.Test.YtafbccendejkeaaGreatDoorPt06
set_option maxRecDepth 100000
set_option linter.all false
set_option linter.defProp false
namespace Go.Abs
open Go Go.RowKit
def jx{α:Type}(b sz:Nat)(en:α->List AV)(H:List Blk)(v:AV)(l:List α):Prop :=
 (l=[]/\v=.sl 0 [] .nil)\/(l≠[]/\v=.ms b 0 l.length sz/\H[b]?=some (.cells (l.flatMap en)))
section
variable {α:Type}{b sz:Nat}{en:α->List AV}{H:List Blk}{v:AV}{l m:List α}
def JG(hl:∀x,(en x).length=sz):∀(l:List α) (t),vH sz l.length (l.flatMap en++t)=l.map en
 |[],t=>by simp[vH]
 | a::r,t=>by
  have h1:((a::r).flatMap en++t).take sz=en a:=by
   rw[qAO,qA4,qBx (by rw[hl];exact qAy _),qAs (by rw[hl];exact qAy _)]
  have h2:((a::r).flatMap en++t).drop sz=r.flatMap en++t:=by
   rw[qAO,qA4,qB3 (by rw[hl];exact qAy _),qA3 (by rw[hl];exact qAy _),qAK]
  show((a::r).flatMap en++t).take sz::vH sz r.length (((a::r).flatMap en++t).drop sz)=en a::r.map en;rw[h1,h2,JG hl r t]
def jq(hl:∀x,(en x).length=sz):∀(l:List α),(l.flatMap en).length=l.length*sz
 |[]=>by simp
 |a::r=>by rw[qAO,qAq,hl,jq hl r,qAD,qCL];omega
def QD(hn:∀x,qz (en x)=true){n}:∀(l:List α),(l.map en).map (·.map (frz H n))=l.map en
 |[]=>rfl
 | a::r=>by
  have h:(en a).map (frz H n)=en a:=by
   have:=hn a;generalize en a=c at this
   induction c with
   |nil=>rfl
   | cons x y ih=>
    simp only[qz,qAr]at this;rw[qAz,qA this.1,ih this.2]
  rw[qAz,qAz,h,QD hn r]
def jx.frz(h:jx b sz en H v l)(hl:∀x,(en x).length=sz)(hn:∀x,qz (en x)=true)(ha:∀x,(en x).all AV.atom=true)(n):Leq (frz H (n+1) v) (.sl sz (l.map en) .none):=by
 rcases h with⟨rfl,rfl⟩|⟨hne,rfl,hb⟩
 . rw[qA (by simp)];simp
 have hc:=JG hl l [];rw[qA6]at hc;have hall:((vH sz l.length (l.flatMap en)).map (·.map (Abs.frz H n))).all (·.all AV.atom)=true:=by
  rw[hc,QD hn,qDx,qAv];intro x _;exact ha x
 unfold Abs.frz;simp only[qO,qAP,if_false,hb,qBz];rw[if_pos ⟨by rw[jq hl];omega,hall⟩,hc,QD hn];exact qEQ _
def jx.append{D T ty e i j tok}(h:jx b sz en H v l)(hi:D ty=some i)(hd:i.d=.sl e)(hj:D e=some j)(hsz:j.size=sz)(h0:0<sz)(hz:j.zero.length=sz)(hbt:j.bytes<=256)
 (hl:∀x,(en x).length=sz) (hlen:l.length+m.length<=549755813888) (hm:m≠[]) :
 ∃v' H',zq D ⟨H,T⟩ ty ty v (.sl sz (m.map en) tok)=some (v',⟨H',T⟩)/\jx H.length sz en H' v' (l++m)/\(∀(k) (x),H[k]?=some x->(l=[]\/k≠b)->H'[k]?=some x)/\H'.length=H.length+1:=by
 subst hsz;have hml:m.length≠0:=fun h=>hm (qDl.1 h)
 have hfl:(m.map en).flatten=m.flatMap en:=by rw[qBM]
 rcases h with⟨rfl,rfl⟩|⟨hne,rfl,hb⟩
 . refine⟨.ms H.length 0 m.length j.size,H++[.cells (m.flatMap en)],?_,?_,?_,by simp⟩
   . have:m.length<=549755813888:=by simpa using hlen
     simp[zq,zX,hi,hd,hj,h0,hz,hbt,Yv,qQ,hml,this,hm,hfl]
   . right;refine⟨by simpa using hm,by simp,by simp⟩
   . intro k x hk _;rw[qAB (qAm.1 hk).1,hk]
 have hfl2:=jq hl l;refine⟨.ms H.length 0 (l.length+m.length) j.size,H.set b .dead++[.cells (l.flatMap en++m.flatMap en)],?_,?_,?_,by simp⟩
 . have ht:(l.flatMap en).take (l.length*j.size)=l.flatMap en:=qAs (by omega);have hle:l.length*j.size<=(l.flatMap en).length:=(by omega);rw[hfl2]at hle;simp[zq,zX,hi,hd,hj,h0,hz,hbt,Yv,qQ,hml,hlen,hm,hfl,hb,hfl2,ht]
 . right;refine⟨by simp[hne],by simp,by simp⟩
 intro k x hk hkb;have hkb:=hkb.resolve_left hne;rw[qAB (by rw[qBK];exact(qAm.1 hk).1),qAp (Ne.symm hkb),hk]
def jx.append0{D T ty e i j sz2 tok}(h:jx b sz en H v l)(hi:D ty=some i)(hd:i.d=.sl e)(hj:D e=some j)(hne:l≠[]) :
 zq D ⟨H,T⟩ ty ty v (.sl sz2 [] tok)=some (v,⟨H,T⟩):=by
 rcases h with⟨rfl,rfl⟩|⟨hne,rfl,hb⟩
 . exact absurd rfl hne
 simp only[zq,zX,hi,hd,hj,qQ,Yv];split<;>simp_all
def jx.frzNo(h:jx b sz en H v l)(hl:∀x,(en x).length=sz)(hn:∀x,qz (en x)=true)(ha:∀x,(en x).all AV.atom=true)(n):qO (Abs.frz H (n+1) v)=true:=by
 rcases h with⟨rfl,rfl⟩|⟨hne,rfl,hb⟩
 . rw[qA (by simp)];simp
 have hc:=JG hl l [];rw[qA6]at hc;have hall:((vH sz l.length (l.flatMap en)).map (·.map (Abs.frz H n))).all (·.all AV.atom)=true:=by
  rw[hc,QD hn,qDx,qAv];intro x _;exact ha x
 unfold Abs.frz;simp only[qO,qAP,if_false,hb,qBz];rw[if_pos ⟨by rw[jq hl];omega,hall⟩,hc,QD hn];simpa using zp hn l
def jx.lt(h:jx b sz en H v l)(hl:l≠[]):b<H.length:=by
 rcases h with⟨h,_⟩|⟨_,_,h⟩
 . exact absurd h hl
 exact(qAm.1 h).1
def jx.keep{H'}(h:jx b sz en H v l)(hk:∀x,l≠[]->H[b]?=some x->H'[b]?=some x):jx b sz en H' v l:=by
 rcases h with h|⟨h1,h2,h3⟩
 . exact .inl h
 exact .inr ⟨h1,h2,hk _ h1 h3⟩
def jx.at(h:jx b sz en H v l)(hl:l≠[]):v=.ms b 0 l.length sz/\H[b]?=some (.cells (l.flatMap en)):=by
 rcases h with⟨h,_⟩|⟨_,h1,h2⟩
 . exact absurd h hl
 exact⟨h1,h2⟩
end
section
variable {α:Type}{b sz:Nat}{en:α->List AV}{H:List Blk}{v:AV}{l m:List α}
def jx.appendK{P G o D T ty e i j tok}(h:jx b sz en H v l)(hi:D ty=some i)(hd:i.d=.sl e)(hj:D e=some j)(hsz:j.size=sz)(h0:0<sz)(hz:j.zero.length=sz)(hbt:j.bytes<=256)
 (hl:∀x,(en x).length=sz) (hlen:l.length+m.length<=549755813888) :
 ∃ v' b' H',(∀ops dst ct env ks Q,kY P G o ops ((zq D ⟨H,T⟩ ty ty v (.sl sz (m.map en) tok)).map fun p=>[p]) (qr D ⟨H,T⟩ ty v (.sl sz (m.map en) tok)) dst ct env ks Q=kT P G o ops ct (upd env dst v') ⟨H',T⟩ ks Q) /\
  jx b' sz en H' v' (l++m)/\(b'=b\/b'=H.length)/\(∀(k) (x),H[k]?=some x->(l=[]\/k≠b)->H'[k]?=some x)/\H.length<=H'.length:=by
 by_cases hm:m=[]
 . subst hm;rw[qA6];by_cases hne:l=[]
   . rcases h with⟨rfl,rfl⟩|⟨hne',_⟩
     . refine⟨.sl 0 [] .nil,b,H,fun ops dst ct env ks Q=>?_,.inl ⟨rfl,rfl⟩,.inl rfl,fun k x hk _=>hk,qAy _⟩;subst hsz;have hX:zq D ⟨H,T⟩ ty ty (.sl 0 [] .nil) (.sl j.size [] tok)=none:=by
        simp[zq,zX,hi,hd,hj,qQ,Yv]
       have hA:qr D ⟨H,T⟩ ty (.sl 0 [] .nil) (.sl j.size [] tok)=some (.sl 0 [] .nil,⟨H,T⟩):=by
        simp[qr,hi,hd,hj,qY,h0,hz,hbt]
       rw[qAZ,hX,hA];simp
     . exact absurd hne hne'
   refine⟨v,b,H,fun ops dst ct env ks Q=>?_,h,.inl rfl,fun k x hk _=>hk,qAy _⟩;rw[qAZ,h.append0 hi hd hj hne];simp
 obtain⟨v',H',h1,h2,h3,h4⟩:=h.append (T:=T) (tok:=tok) hi hd hj hsz h0 hz hbt hl hlen hm;refine⟨v',H.length,H',fun ops dst ct env ks Q=>?_,h2,.inr rfl,h3,by omega⟩;rw[h1];simp
end
section
variable {A t:List Blk}{b k:Nat}{x y:Blk}
end
def vY{c}:∀(new) (pre) (off),zx (pre++c) (pre.length+off) new=pre++zx c off new
 | new,pre,off=>by
  induction new generalizing c off with
  |nil=>rfl
  | cons v r ih=>
   rw[zx,zx,qBc _ _ (by omega),qBr,qCm];exact ih (off+1)
def vd:∀(new c t),c.length=new.length->zx (c++t) 0 new=new++t:=by
 have gen:∀(new pre c t:List AV),c.length=new.length->zx (pre++(c++t)) pre.length new=pre++(new++t):=by
  intro new
  induction new with
  |nil=>intro pre c t h;have:c=[]:=qDl.1 h;subst this;simp[zx]
  | cons v r ih=>
   intro pre c t h
   cases c with
   |nil=>simp at h
   | cons x c=>
    have:=ih (pre++[v]) c t (by simpa using h);simp only[qA4,qB5,qAq,qAQ]at this;rw[zx];rw[show(pre++(x::c++t)).set pre.length v=pre++v::(c++t) by simp];exact this
 intro new c t h;simpa using gen new [] c t h
def QA{α:Type}{sz:Nat}{en:α->List AV}(hl:∀x,(en x).length=sz):∀(l:List α) (i:Nat) (v:α),i<l.length->zx (l.flatMap en) (i*sz) (en v)=(l.set i v).flatMap en
 |[],i,v,h=>by simp at h
 | a::r,0,v,_=>by
  rw[qAO,qCl,qDO,qAO];exact vd _ _ _ (by rw[hl,hl])
 | a::r,i+1,v,h=>by
  have h':i<r.length:=by simpa using h
  rw[qAO,qDb,qAO,<- QA hl r i v h',qCL,qCs];have:=vY (c:=r.flatMap en) (en v) (en a) (i*sz)
  rwa[hl]at this
section
variable {P:Program}{G:Glo}{o:Opts}{env:Env}{U:St}{ks:List Fr}{Q:Exit->Env->St->Prop}
def qL.listR{α:Type}(l:List α)(J:List α->Env->St->Prop){c:Code}(h0:J [] env U)
 (hs:∀d v r env U (R:Env->St->Prop),(∀env U,J (d++[v]) env U->R env U)->l=d++v::r->l[d.length]?=some v->d.length<l.length->J d env U->kC P G o c env U (.loop R::ks) Q)
 (he:∀env U,J l env U->kC P G o c env U (.loop (fun _ _=>False)::ks) Q) (hp:yc c=true:=by rfl):qL P G o c env U ks Q :=
 qEN l J h0 (fun d v r env U h1 h2 h3 hJ=>hs d v r env U _ (fun _ _ h=>h) h1 h2 h3 hJ) he hp
def qEZ:=@qL.listR
end
section
variable {P:Program}{G:Glo}{o:Opts}{env:Env}{U:St}{ks:List Fr}{Q:Exit->Env->St->Prop}
def qkl(hX:G.NoX){g:Operand}{pe gb:Nat}{cap:List AV}{x y:Code}(pre:St->Prop)(vals:List AV)(J:Nat->St->Prop)(hg:ev G env g=.fn gb [] cap)(hfw:qw5 P G gb cap pre vals)(hpre:∀i U,J i U->pre U)(hJ:J 0 U)
 (hs:∀i v U,vals[i]?=some v->J i U->kC P G o x (upd env (some pe) v) U [] (fun e env' U'=>e=.normal/\kC P G o y env' U' [] (fun e _ U''=>e=.normal/\J (i+1) U'')))
 (he:∀U,J vals.length U->kX P G o .normal env U ks Q):kC P G o (.rangeFunc g #[pe] x y) env U ks Q:=by
 unfold kC;simp only[vcC,hg];exact⟨pre,vals,J,hX,hfw,hpre,hJ,hs,he⟩
end
def qkz{H b off n c}(h:H[b]?=some (.cells c)):frz H (n+1) (.ptr b off)=.rptr ((c.drop off).map (frz H n)):=by
 rw[frz];simp[qO,h]
def qeC{H n}{s:List UInt8}:frz H n (.str s)=.str s:=qA rfl
def Zi{H n k z}:frz H n (.int k z)=.int k z:=qA rfl
def qaN{H n z}:frz H n (.bool z)=.bool z:=qA rfl
section
variable {P:Program}{G:Glo}{o:Opts}{ops:Array Oper}{ac dp:List Nat}{env:Env}{U:St}{ks:List Fr}{Q:Exit->Env->St->Prop}
def kAl(P:Program)(G:Glo)(o:Opts)(ops:Array Oper)(ac:List Nat)(al:Alts)(env:Env)(U:St)(ks:List Fr)(Q:Exit->Env->St->Prop):Prop:=vL P G o.mu ac ops al env U (fun env U=>itp P G o ks Q .normal env U)
@[simp ↓]def qxT{al}:kT P G o ops (.plan ac (.fork al)) env U ks Q=kAl P G o ops ac al env U ks Q:=by simp only[kT,vcS,kAl]
@[simp ↓]def qx9:kAl P G o ops ac .nil env U ks Q=True:=by simp only[kAl,vL]
@[simp ↓]def qwA{k s r}:kAl P G o ops ac (.cons k s r) env U ks Q=(kP P G o ops (ops[k]?) (match ops[k]? with|some u=>ze o.mu ac k u.op != 9|none=>false) (.plan ac s) env U ks Q/\kAl P G o ops ac r env U ks Q):=by
 simp only[kAl,vL,kP,kT];congr 1;split<;>rename_i h<;>simp[h]
end
section
variable {α:Type}{sz t:Nat}{en:α->List AV}{T:List (Option Nat)}{a s m:List α}
end
section
variable {P:Program}{G:Glo}{o:Opts}{env:Env}{U:St}{ks:List Fr}{Q:Exit->Env->St->Prop}
end
section
variable {P:Program}{G:Glo}{U:St}{f:FuncId}{args args':List AV}{Q:AV->St->Prop}
def qg.leq(h:qg P G f args' U Q)(ha:zn args args'):qg P G f args U Q :=
 ⟨h.1,fun w0 ro0 K w vs hw hvs=>h.2 w0 ro0 K w vs hw (zn.rel _ _ ha hvs)⟩
end
section
variable {P:Program}{G:Glo}{o:Opts}{ops:Array Oper}{ct:Ct}{env:Env}{U:St}{ks:List Fr}{Q:Exit->Env->St->Prop}
end
def WR{α:Type}(n sz:Nat)(en:α->List AV)(T:List (Option Nat))(v:AV)(l:List α):Prop :=
 (l=[]/\v=.sl 0 [] .nil)\/(l≠[]/\∃t,n<=t/\v=.sl sz (l.map en) (.chain t l.length)/\T[t]?=some (some l.length))
section
variable {α:Type}{n sz:Nat}{en:α->List AV}{T T':List (Option Nat)}{v:AV}{l m:List α}
def WR.nil:WR n sz en T (.sl 0 [] .nil) ([]:List α):=.inl ⟨rfl,rfl⟩
def WR.ext(h:WR n sz en T v l)(hT:T <+: T'):WR n sz en T' v l:=by
 rcases h with h|⟨h1,t,h2,h3,h4⟩
 . exact .inl h
 obtain⟨u,rfl⟩:=hT;exact .inr ⟨h1,t,h2,h3,by rw[qAB (qAm.1 h4).1,h4]⟩
def qhE{T0 T:List (Option Nat)}(h:T0 <+: T){t}(ht:T0.length<=t)(x:Option Nat):T0 <+: T.set t x:=by
 obtain⟨u,rfl⟩:=h;rw[qBc _ _ ht];exact⟨_,rfl⟩
def WR.append{T0 D ty e i j tok}(h:WR T0.length sz en T v l)(hT:T0 <+: T)(hi:D ty=some i)(hd:i.d=.sl e)(hj:D e=some j)(hsz:j.size=sz)(h0:0<sz)(hz:j.zero.length=sz)(hb:j.bytes<=256)
 (hlen:l.length+m.length<=549755813888) (sz2) (h2:sz2=sz\/m=[]) :
 ∃v' T',(∀H,qr D ⟨H,T⟩ ty v (.sl sz2 (m.map en) tok)=some (v',⟨H,T'⟩))/\WR T0.length sz en T' v' (l++m)/\T0 <+: T':=by
 subst hsz;by_cases hm:m=[]
 . subst hm;rw[qA6];refine⟨v,T,fun H=>?_,h,hT⟩;rcases h with⟨rfl,rfl⟩|⟨hne,t,_,rfl,_⟩
   . simp[qr,hi,hd,hj,h0,hz,hb,qY]
   have:l.length<=549755813888:=by simpa using hlen
   simp[qr,hi,hd,hj,h0,hz,hb,qY,this]
 have h2:=h2.resolve_right hm;subst h2;rcases h with⟨rfl,rfl⟩|⟨hne,t,ht,rfl,hk⟩
 . have:m.length<=549755813888:=by simpa using hlen
   refine⟨.sl j.size (m.map en) (.chain T.length m.length),T++[some m.length],fun H=>?_,.inr ⟨by simpa using hm,T.length,?_,by simp,by simp⟩,hT.trans (qDK _ _)⟩
   . simp[qr,hi,hd,hj,h0,hz,hb,qY,this,hm]
   obtain⟨u,rfl⟩:=hT;simp
 refine⟨.sl j.size ((l++m).map en) (.chain t (l.length+m.length)),T.set t (some (l.length+m.length)),fun H=>?_,.inr ⟨by simp[hne],t,ht,by simp,?_⟩,qhE hT ht _⟩
 . simp[qr,hi,hd,hj,h0,hz,hb,qY,hlen,hm,hk]
 rw[qAt (qAm.1 hk).1];simp
end
def qky{α:Type}{sz:Nat}{en:α->List AV}(hn:∀x,qz (en x)=true)(ha:∀x,(en x).all AV.atom=true)(H:List Blk)(k:Nat)(l:List α)(tok:Tok):Leq (Abs.frz H (k+1) (.sl sz (l.map en) tok)) (.sl sz (l.map en) .none):=by
 have hr:=QD (H:=H) hn (n:=k) l;have hall:((l.map en).map (·.map (Abs.frz H k))).all (·.all AV.atom)=true:=by
  rw[hr,qDx,qAv];intro x _;exact ha x
 by_cases hno:Abs.qO (.sl sz (l.map en) tok)=true
 . rw[qA hno];exact Leq.sl rfl
 rw[Abs.frz,if_neg hno];simp only[if_pos hall];rw[hr];exact qEQ _
def qnY{α:Type}{sz sz'}{en:α->List AV}(hn:∀x,qz (en x)=true)(ha:∀x,(en x).all AV.atom=true)(H k)(l:List α)(tok)(h:sz=sz'\/l=[]):Leq (Abs.frz H (k+1) (.sl sz (l.map en) tok)) (.sl sz' (l.map en) .none):=by
 rcases h with rfl|rfl
 . exact qky hn ha H k l tok
 by_cases hno:Abs.qO (.sl sz [] tok)=true
 . rw[qAZ,qA hno];exact Leq.slnil
 rw[qAZ,Abs.frz,if_neg hno];exact Leq.slnil
section
variable {P:Program}{G:Glo}{f:FuncId}{args:List AV}{U:St}{Q:AV->St->Prop}
def qg.up(h:qg P G f args U (fun r τ=>∃w,Leq r w/\Q w τ)):qg P G f args U Q :=
 ⟨h.1,fun w0 ro0 K w vs hw hvs=>(h.2 w0 ro0 K w vs hw hvs).mono fun e w' h=>h.imp (fun⟨v',v,U',K',h1,h2,h3,h4,u,h5,h6⟩=>⟨v',u,U',K',h1,h2,h3,qEP _ _ h5 h4,h6⟩) id⟩
end
section
variable {P:Program}{G:Glo}{o:Opts}{ops:Array Oper}{ct:Ct}{env:Env}{U:St}{ks:List Fr}{Q:Exit->Env->St->Prop}{dst:Option Nat}
end
section
variable {es:List (AV×AV×Nat)}{H:List Blk}{T:List (Option Nat)}{it m clk:Nat}{seen:List Nat}
end
end Go.Abs
namespace Go.Proofs.YtafbccendejkeaaGreatDoor
open Go Go.Abs Tryz
def wru{n}(h0:0<=n)(h1:n<18446744073709551616):IntKind.u64.wrap n=n:=by
 simp[IntKind.wrap,IntKind.bits,IntKind.signed];omega
def qak(n:Nat)(h:n<9223372036854775808):Pure prog GG 261 [.int .i64 n] (.int .u64 n):=by
 refine qEG qe func261 rfl (by kernel_rfl) ?_;have h1:=wru (n:=n) (by omega) (by omega);simp[show ¬(n:Int)<0 by omega,wE,h1]
def qb0(n:Nat)(h:n<18446744073709551616):Pure prog GG 262 [.bool false,.int .u64 n] (if n<9223372036854775808 then .tup [.int .i64 n,.int .i64 0] else .tup [.int .i64 0,.int .i64 3]):=by
 refine qEG qe func262 rfl (by kernel_rfl) ?_;by_cases hn:n<9223372036854775808
 . have h1:=wr (n:=n) (by omega) (by omega);have h2:(n:Int)<9223372036854775808:=(by omega);simp[hn,h2,wE,h1]
 have h2:¬(n:Int)<9223372036854775808:=by omega
 simp[hn,h2]
def qib:∀(b a:Nat),a<18446744073709551616->b<18446744073709551616->Pure prog GG 312 [.int .u64 a,.int .u64 b] (.int .u64 (Nat.gcd a b:Nat)):=by
 intro b a ha hb;refine qEG qe func312 rfl (by kernel_rfl) ?_;simp;refine qEO (fun n ev U=>∃x y:Nat,n=y/\x<18446744073709551616/\y<18446744073709551616/\ev 0=.int .u64 x/\ev 1=.int .u64 y/\Nat.gcd x y=Nat.gcd a b) b ⟨a,b,rfl,ha,hb,by simp,by simp,rfl⟩ ?_;rintro y ev U R hR ⟨x,_,rfl,hx,hy,h0,h1,hg⟩;by_cases hz:y=0
 . subst hz;simp at hg;simp[h0,h1,hg]
 simp[h0,h1,hz];refine hR (x%y) _ _ (qCZ _ (by omega)) ⟨y,x%y,rfl,hy,qBZ (Nat.mod_le _ _) hx,by simp,by simp[qB8],?_⟩;rw[qDi y,<- Nat.gcd_rec,qDi];exact hg
def qsQ(n m:Nat)(h:n%4294967296=m):zw .and .u64 n 4294967295=some (.int .u64 m):=by
 have h1:((BitVec.ofInt 64 n &&& BitVec.ofInt 64 4294967295).toNat:Int)=m:=by
  rw[BitVec.toNat_and,BitVec.toNat_ofInt];rw[show(BitVec.ofInt 64 4294967295).toNat=2^32-1 by decide,qCv];omega
 show some (AV.int .u64 (IntKind.u64.wrap ((BitVec.ofInt 64 n &&& BitVec.ofInt 64 4294967295).toNat:Int)))=_;rw[h1,wru (by omega) (by omega)]
def qjd(n m:Nat)(h:n/4294967296=m):(n:Int).fdiv 4294967296=m:=by
 rw[qCF _ (by omega)];omega
def qvV(a b c:Nat)(h:a*b=c)(hc:c<18446744073709551616):zw .mul .u64 a b=some (.int .u64 c):=by
 show some (AV.int .u64 (IntKind.u64.wrap ((a:Int)*b)))=_;rw[<- Int.natCast_mul,h,wru (by omega) (by omega)]
def qvW(a b c:Nat)(h:a+b=c)(hc:c<18446744073709551616):zw .add .u64 a b=some (.int .u64 c):=by
 show some (AV.int .u64 (IntKind.u64.wrap ((a:Int)+b)))=_;rw[<- qDA,h,wru (by omega) (by omega)]
def qxn(a b c d:Nat)(h:a*b=18446744073709551616*d+c)(hc:c<18446744073709551616):zw .mul .u64 a b=some (.int .u64 c):=by
 show some (AV.int .u64 (IntKind.u64.wrap ((a:Int)*b)))=_;rw[<- Int.natCast_mul,h];simp only[IntKind.wrap,IntKind.bits,IntKind.signed];simp;omega
def qpI(x)(hx:x<18446744073709551616):∃a b:Nat,x%4294967296=a/\x/4294967296=b/\x=4294967296*b+a/\a<=4294967295/\b<=4294967295:=⟨_,_,rfl,rfl,by omega,by omega,by omega⟩
def qxy:((2:Int)^min 32 IntKind.u64.bits)=4294967296:=by decide
def qcv(x y hi lo:Nat)(hx:x<18446744073709551616)(hy:y<18446744073709551616)(hh:x*y=18446744073709551616*hi+lo)(hlo:lo<18446744073709551616) :
 Pure prog GG 116 [.int .u64 x,.int .u64 y] (.tup [.int .u64 hi,.int .u64 lo]):=by
 have hlast:=qxn x y lo hi hh hlo;have key:∃x0 x1 y0 y1 p00 p10 t t0 t1 q r p01 p11 u v w:Nat,zw .and .u64 x 4294967295=some (.int .u64 x0)/\(x:Int).fdiv 4294967296=x1/\zw .and .u64 y 4294967295=some (.int .u64 y0)/\(y:Int).fdiv 4294967296=y1 /\
  zw .mul .u64 x0 y0=some (.int .u64 p00)/\zw .mul .u64 x1 y0=some (.int .u64 p10)/\(p00:Int).fdiv 4294967296=q/\zw .add .u64 p10 q=some (.int .u64 t)/\zw .and .u64 t 4294967295=some (.int .u64 t0)/\(t:Int).fdiv 4294967296=t1 /\
  zw .mul .u64 x0 y1=some (.int .u64 p01)/\zw .add .u64 t0 p01=some (.int .u64 r)/\zw .mul .u64 x1 y1=some (.int .u64 p11)/\zw .add .u64 p11 t1=some (.int .u64 u)/\(r:Int).fdiv 4294967296=v/\zw .add .u64 u v=some (.int .u64 hi):=by
  obtain⟨x0,x1,a1,a2,a3,a4,a5⟩:=qpI x hx;obtain⟨y0,y1,b1,b2,b3,b4,b5⟩:=qpI y hy;have m11:=qCz a5 b5;have m10:=qCz a5 b4;have m01:=qCz a4 b5;have m00:=qCz a4 b4;have hp:x*y=18446744073709551616*(x1*y1)+4294967296*(x1*y0)+4294967296*(x0*y1)+x0*y0:=by
   rw[a3,b3,qBs,qEe,qEe,Nat.mul_mul_mul_comm,qDS 4294967296 x1 y0,Nat.mul_left_comm x0 4294967296 y1];omega
  rw[hh]at hp;obtain⟨p11,e11⟩:∃p,x1*y1=p:=⟨_,rfl⟩;obtain⟨p10,e10⟩:∃p,x1*y0=p:=⟨_,rfl⟩;obtain⟨p01,e01⟩:∃p,x0*y1=p:=⟨_,rfl⟩;obtain⟨p00,e00⟩:∃p,x0*y0=p:=⟨_,rfl⟩;rw[e11]at hp m11;rw[e10]at hp m10;rw[e01]at hp m01;rw[e00]at hp m00;obtain⟨q,eq⟩:∃p,p00/4294967296=p:=⟨_,rfl⟩;obtain⟨t,et⟩:∃p,p10+q=p:=⟨_,rfl⟩;obtain⟨t0,et0⟩:∃p,t%4294967296=p:=⟨_,rfl⟩;obtain⟨t1,et1⟩:∃p,t/4294967296=p:=⟨_,rfl⟩;obtain⟨r,er⟩:∃p,t0+p01=p:=⟨_,rfl⟩;obtain⟨u,eu⟩:∃p,p11+t1=p:=⟨_,rfl⟩;obtain⟨v,ev⟩:∃p,r/4294967296=p:=⟨_,rfl⟩;exact⟨x0,x1,y0,y1,p00,p10,t,t0,t1,q,r,p01,p11,u,v,0,qsQ _ _ a1,qjd _ _ a2,qsQ _ _ b1,qjd _ _ b2,qvV _ _ _ e00 (by omega),qvV _ _ _ e10 (by omega),qjd _ _ eq,qvW _ _ _ et (by omega),qsQ _ _ et0,qjd _ _ et1,
   qvV _ _ _ e01 (by omega),qvW _ _ _ er (by omega),qvV _ _ _ e11 (by omega),qvW _ _ _ eu (by omega),qjd _ _ ev,qvW _ _ _ (by omega) (by omega)⟩
 obtain⟨x0,x1,y0,y1,p00,p10,t,t0,t1,q,r,p01,p11,u,v,_,k1,k2,k3,k4,k5,k6,k7,k8,k9,k10,k11,k12,k13,k14,k15,k16⟩:=key;refine qEG qe func116 rfl (by kernel_rfl) ?_;simp[-zw,qxy,k1,k2,k3,k4,k5,k6,k7,k8,k9,k10,k11,k12,k13,k14,k15,k16,hlast]
def J2(n:Nat):Int×Int:=if n<9223372036854775808 then(n,0) else(0,3)
def qjW(a b:Nat)(ha:a<9223372036854775808)(hb:b<9223372036854775808):Pure prog GG 187 [.int .i64 a,.int .i64 b] (.tup [.int .i64 (J2 (a*b)).1,.int .i64 (J2 (a*b)).2]):=by
 obtain⟨hi,lo,hh,hlo⟩:∃hi lo,a*b=18446744073709551616*hi+lo/\lo<18446744073709551616:=⟨_,_,(Nat.div_add_mod _ _).symm,qCZ _ (by omega)⟩;have hm:=qcv a b hi lo (by omega) (by omega) hh hlo;have hs1:=qak a ha;have hs2:=qak b hb;have hsg:=qb0 lo hlo;refine qEG qe func187 rfl (by kernel_rfl) ?_;generalize hr:J2 (a*b)=r;have hm:=qcv a b hi lo (by omega) (by omega) hh hlo;simp;refine qEJ hs1 (by simp) ?_;simp;refine qEJ hs2 (by simp) ?_;simp;refine qEJ hm (by simp) ?_;simp;refine⟨fun h0=>?_,fun h0=>?_⟩
 . have h0':¬a*b<9223372036854775808:=(by omega);simp[J2,h0']at hr;subst hr;simp
 have:a*b=lo:=by omega
 simp[show ¬(a:Int)<0 by omega,show ¬(b:Int)<0 by omega];refine qEJ hsg (by simp) ?_;rw[this]at hr;unfold J2 at hr;split at hr<;>subst hr<;>rename_i h<;>simp[h]
def quG(a b:Nat)(ha:0<a)(hb:0<b)(ha1:a<9223372036854775808)(hb1:b<9223372036854775808):Pure prog GG 259 [.int .i64 a,.int .i64 b] (.tup [.int .i64 (J2 (Nat.lcm a b)).1,.int .i64 (J2 (Nat.lcm a b)).2]):=by
 have hg:=qD9 b ha;have hgl:=qCG ha (qCP a b);have hlcm:a/Nat.gcd a b*b=Nat.lcm a b:=by
  unfold Nat.lcm;exact qEi (qCP a b) b
 have hq:a/Nat.gcd a b<=a:=qBy _ _;obtain⟨g,hge⟩:∃g,Nat.gcd a b=g:=⟨_,rfl⟩;obtain⟨q,hqe⟩:∃q,a/g=q:=⟨_,rfl⟩;obtain⟨l,hle⟩:∃l,Nat.lcm a b=l:=⟨_,rfl⟩;have hd:=qib b a (by omega) (by omega);rw[hge]at hg hgl hlcm hq hd;rw[hqe]at hlcm hq;rw[hle]at hlcm⊢;obtain⟨hi,lo,hh,hlo⟩:∃hi lo,l=18446744073709551616*hi+lo/\lo<18446744073709551616:=⟨_,_,(Nat.div_add_mod _ _).symm,qCZ _ (by omega)⟩;have hm:=qcv q b hi lo (by omega) (by omega) (by omega) hlo;have hs1:=qak a ha1;have hs2:=qak b hb1;have hsg:=qb0 lo hlo;have hdiv:(a:Int).tdiv g=q:=by
  rw[qBN (by omega)];omega
 have hqu:=wru (n:=q) (by omega) (by omega);generalize hr:J2 l=r;refine qEG qe func259 rfl (by kernel_rfl) ?_;simp[show ¬a=0 by omega,show ¬b=0 by omega];refine qEJ hs1 (by simp) ?_;simp;refine qEJ hs1 (by simp) ?_;simp;refine qEJ hs2 (by simp) ?_;simp;refine qEJ hd (by simp) ?_;simp[show ¬g=0 by omega,hdiv,hqu];refine qEJ hs2 (by simp) ?_;simp;refine qEJ hm (by simp) ?_;simp;refine⟨fun h0=>?_,fun h0=>?_⟩
 . have h0':¬l<9223372036854775808:=(by omega);simp[J2,h0']at hr;subst hr;simp
 have:l=lo:=by omega
 refine qEJ hsg (by simp) ?_;rw[this]at hr;unfold J2 at hr;split at hr<;>subst hr<;>rename_i h<;>simp[h]
