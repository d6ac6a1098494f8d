import Derived.Test.YtimecmegnocamaaGreatDoorPq10
set_option maxRecDepth 100000
set_option linter.all false
set_option linter.defProp false
namespace Go.Abs
open Go Go.RowKit
def jr{α:Type}(b sz:Nat)(en:α->List AV)(H:List Blk)(v:AV)(l:List α):Prop :=
 (l=[]/\v=.sl 0 [] .nil)\/(l≠[]/\v=.ms b 0 l.length sz/\H[b]?=some (.cells (l.flatMap en)))
section
variable {α:Type}{b sz:Nat}{en:α->List AV}{H:List Blk}{v:AV}{l m:List α}
def JK(hl:∀x,(en x).length=sz):∀(l:List α) (t),wL sz l.length (l.flatMap en++t)=l.map en
 |[],t=>by simp[wL]
 | a::r,t=>by
  have h1:((a::r).flatMap en++t).take sz=en a:=by
   rw[qBm,qBE,qB6 (by rw[hl];exact qA5 _),qAZ (by rw[hl];exact qA5 _)]
  have h2:((a::r).flatMap en++t).drop sz=r.flatMap en++t:=by
   rw[qBm,qBE,qCB (by rw[hl];exact qA5 _),qBq (by rw[hl];exact qA5 _),qBk]
  show((a::r).flatMap en++t).take sz::wL sz r.length (((a::r).flatMap en++t).drop sz)=en a::r.map en;rw[h1,h2,JK hl r t]
def ju(hl:∀x,(en x).length=sz):∀(l:List α),(l.flatMap en).length=l.length*sz
 |[]=>by simp
 |a::r=>by rw[qBm,qAY,hl,ju hl r,qBc,qDs];omega
def vA(hn:∀x,qw (en x)=true){n}:∀(l:List α),(l.map en).map (·.map (frz H n))=l.map en
 |[]=>rfl
 | a::r=>by
  have h:(en a).map (frz H n)=en a:=by
   have:=hn a;generalize en a=c at this
   induction c with
   |nil=>rfl
   | cons x y ih=>
    simp only[qw,qA1]at this;rw[qA7,qF this.1,ih this.2]
  rw[qA7,qA7,h,vA hn r]
def jr.frz(h:jr b sz en H v l)(hl:∀x,(en x).length=sz)(hn:∀x,qw (en x)=true)(ha:∀x,(en x).all AV.atom=true)(n):Leq (frz H (n+1) v) (.sl sz (l.map en) .none):=by
 rcases h with⟨rfl,rfl⟩|⟨hne,rfl,hb⟩
 . rw[qF (by simp)];simp
 have hc:=JK hl l [];rw[qBC]at hc;have hall:((wL sz l.length (l.flatMap en)).map (·.map (Abs.frz H n))).all (·.all AV.atom)=true:=by
  rw[hc,vA hn,qDT,qA3];intro x _;exact ha x
 unfold Abs.frz;simp only[qO,qBz,if_false,hb,qBZ];rw[if_pos ⟨by rw[ju hl];omega,hall⟩,hc,vA hn];exact qFw _
def jr.append{D T ty e i j tok}(h:jr b sz en H v l)(hi:D ty=some i)(hd:i.d=.sl e)(hj:D e=some j)(hsz:j.size=sz)(h0:0<sz)(hz:j.zero.length=sz)(hbt:j.bytes<=256)
 (hl:∀x,(en x).length=sz) (hlen:l.length+m.length<=549755813888) (hm:m≠[]):
 ∃v' H',zx D ⟨H,T⟩ ty ty v (.sl sz (m.map en) tok)=some (v',⟨H',T⟩)/\jr H.length sz en H' v' (l++m)/\(∀(k) (x),H[k]?=some x->(l=[]\/k≠b)->H'[k]?=some x)/\H'.length=H.length+1:=by
 subst hsz;have hml:m.length≠0:=fun h=>hm (qD1.1 h)
 have hfl:(m.map en).flatten=m.flatMap en:=by rw[qCD]
 rcases h with⟨rfl,rfl⟩|⟨hne,rfl,hb⟩
 . refine⟨.ms H.length 0 m.length j.size,H++[.cells (m.flatMap en)],?_,?_,?_,by simp⟩
   . have:m.length<=549755813888:=by simpa using hlen
     simp[*,zx,ja,Kc,qV]
   . right;refine⟨by simpa using hm,by simp⟩
   . intro k x hk _;rw[qBa (qAU.1 hk).1,hk]
 have hfl2:=ju hl l;refine⟨.ms H.length 0 (l.length+m.length) j.size,H.set b .dead++[.cells (l.flatMap en++m.flatMap en)],?_,?_,?_,by simp⟩
 . have ht:(l.flatMap en).take (l.length*j.size)=l.flatMap en:=qAZ (by omega);have hle:l.length*j.size<=(l.flatMap en).length:=(by omega);rw[hfl2]at hle;simp[*,zx,ja,Kc,qV]
 . right;refine⟨by simp[hne],by simp⟩
 intro k x hk hkb;have hkb:=hkb.resolve_left hne;rw[qBa (by rw[qCj];exact(qAU.1 hk).1),qAX (Ne.symm hkb),hk]
def jr.append0{D T ty e i j sz2 tok}(h:jr b sz en H v l)(hi:D ty=some i)(hd:i.d=.sl e)(hj:D e=some j)(hne:l≠[]):
 zx D ⟨H,T⟩ ty ty v (.sl sz2 [] tok)=some (v,⟨H,T⟩):=by
 rcases h with⟨rfl,rfl⟩|⟨hne,rfl,hb⟩
 . exact absurd rfl hne
 simp only[zx,ja,hi,hd,hj,qV,Kc];split<;>simp_all
def jr.frzNo(h:jr b sz en H v l)(hl:∀x,(en x).length=sz)(hn:∀x,qw (en x)=true)(ha:∀x,(en x).all AV.atom=true)(n):qO (Abs.frz H (n+1) v)=true:=by
 rcases h with⟨rfl,rfl⟩|⟨hne,rfl,hb⟩
 . rw[qF (by simp)];simp
 have hc:=JK hl l [];rw[qBC]at hc;have hall:((wL sz l.length (l.flatMap en)).map (·.map (Abs.frz H n))).all (·.all AV.atom)=true:=by
  rw[hc,vA hn,qDT,qA3];intro x _;exact ha x
 unfold Abs.frz;simp only[qO,qBz,if_false,hb,qBZ];rw[if_pos ⟨by rw[ju hl];omega,hall⟩,hc,vA hn];simpa using zn hn l
def jr.lt(h:jr b sz en H v l)(hl:l≠[]):b<H.length:=by
 rcases h with⟨h,_⟩|⟨_,_,h⟩
 . exact absurd h hl
 exact(qAU.1 h).1
def jr.keep{H'}(h:jr b sz en H v l)(hk:∀x,l≠[]->H[b]?=some x->H'[b]?=some x):jr b sz en H' v l:=by
 rcases h with h|⟨h1,h2,h3⟩
 . exact .inl h
 exact .inr ⟨h1,h2,hk _ h1 h3⟩
def jr.at(h:jr b sz en H v l)(hl:l≠[]):v=.ms b 0 l.length sz/\H[b]?=some (.cells (l.flatMap en)):=by
 rcases h with⟨h,_⟩|⟨_,h1,h2⟩
 . exact absurd h hl
 exact⟨h1,h2⟩
end
section
variable {α:Type}{b sz:Nat}{en:α->List AV}{H:List Blk}{v:AV}{l m:List α}
def jr.appendK{P G o D T ty e i j tok}(h:jr b sz en H v l)(hi:D ty=some i)(hd:i.d=.sl e)(hj:D e=some j)(hsz:j.size=sz)(h0:0<sz)(hz:j.zero.length=sz)(hbt:j.bytes<=256)
 (hl:∀x,(en x).length=sz) (hlen:l.length+m.length<=549755813888):
 ∃ v' b' H',(∀ops dst ct env ks Q,kY P G o ops ((zx D ⟨H,T⟩ ty ty v (.sl sz (m.map en) tok)).map fun p=>[p]) (qq D ⟨H,T⟩ ty v (.sl sz (m.map en) tok)) dst ct env ks Q=kT P G o ops ct (upd env dst v') ⟨H',T⟩ ks Q) /\
  jr b' sz en H' v' (l++m)/\(b'=b\/b'=H.length)/\(∀(k) (x),H[k]?=some x->(l=[]\/k≠b)->H'[k]?=some x)/\H.length<=H'.length:=by
 by_cases hm:m=[]
 . subst hm;rw[qBC];by_cases hne:l=[]
   . rcases h with⟨rfl,rfl⟩|⟨hne',_⟩
     . refine⟨.sl 0 [] .nil,b,H,fun ops dst ct env ks Q=>?_,.inl ⟨rfl,rfl⟩,.inl rfl,fun k x hk _=>hk,qA5 _⟩;subst hsz;have hX:zx D ⟨H,T⟩ ty ty (.sl 0 [] .nil) (.sl j.size [] tok)=none:=by
        simp[*,zx,ja,qV,Kc]
       have hA:qq D ⟨H,T⟩ ty (.sl 0 [] .nil) (.sl j.size [] tok)=some (.sl 0 [] .nil,⟨H,T⟩):=by
        simp[*,qq,za]
       rw[qBy,hX,hA];simp
     . exact absurd hne hne'
   refine⟨v,b,H,fun ops dst ct env ks Q=>?_,h,.inl rfl,fun k x hk _=>hk,qA5 _⟩;rw[qBy,h.append0 hi hd hj hne];simp
 obtain⟨v',H',h1,h2,h3,h4⟩:=h.append (T:=T) (tok:=tok) hi hd hj hsz h0 hz hbt hl hlen hm;refine⟨v',H.length,H',fun ops dst ct env ks Q=>?_,h2,.inr rfl,h3,by omega⟩;rw[h1];simp
end
section
variable {A t:List Blk}{b k:Nat}{x y:Blk}
end
def Qb{c}:∀(new) (pre) (off),zA (pre++c) (pre.length+off) new=pre++zA c off new
 | new,pre,off=>by
  induction new generalizing c off with
  |nil=>rfl
  | cons v r ih=>
   rw[zA,zA,qBK _ _ (by omega),qB0,qC0];exact ih (off+1)
def vn:∀(new c t),c.length=new.length->zA (c++t) 0 new=new++t:=by
 have gen:∀(new pre c t:List AV),c.length=new.length->zA (pre++(c++t)) pre.length new=pre++(new++t):=by
  intro new
  induction new with
  |nil=>intro pre c t h;have:c=[]:=qD1.1 h;subst this;simp[zA]
  | cons v r ih=>
   intro pre c t h
   cases c with
   |nil=>simp at h
   | cons x c=>
    have:=ih (pre++[v]) c t (by simpa using h);simp at this;rw[zA]
    rwa[show(pre++(x::c++t)).set pre.length v=pre++v::(c++t) by simp]
 intro new c t h;simpa using gen new [] c t h
def QI{α:Type}{sz:Nat}{en:α->List AV}(hl:∀x,(en x).length=sz):∀(l:List α) (i:Nat) (v:α),i<l.length->zA (l.flatMap en) (i*sz) (en v)=(l.set i v).flatMap en
 |[],i,v,h=>by simp at h
 | a::r,0,v,_=>by
  rw[qBm,qCK,qDU,qBm];exact vn _ _ _ (by rw[hl,hl])
 | a::r,i+1,v,h=>by
  have h':i<r.length:=by simpa using h
  rw[qBm,qDB,qBm,<- QI hl r i v h',qDs,qCX];have:=Qb (c:=r.flatMap en) (en v) (en a) (i*sz)
  rwa[hl]at this
section
variable {P:Program}{G:Glo}{o:Opts}{env:Env}{U:St}{ks:List Fr}{Q:Exit->Env->St->Prop}
def qJ.listR{α:Type}(l:List α)(J:List α->Env->St->Prop){c:Code}(h0:J [] env U)
 (hs:∀d v r env U (R:Env->St->Prop),(∀env U,J (d++[v]) env U->R env U)->l=d++v::r->l[d.length]?=some v->d.length<l.length->J d env U->kC P G o c env U (.loop R::ks) Q)
 (he:∀env U,J l env U->kC P G o c env U (.loop (fun _ _=>False)::ks) Q) (hp:yj c=true:=by rfl):qJ P G o c env U ks Q :=
 qFt l J h0 (fun d v r env U h1 h2 h3 hJ=>hs d v r env U _ (fun _ _ h=>h) h1 h2 h3 hJ) he hp
def qFF:=@qJ.listR
end
section
variable {P:Program}{G:Glo}{o:Opts}{env:Env}{U:St}{ks:List Fr}{Q:Exit->Env->St->Prop}
def qkC(hX:G.NoX){g:Operand}{pe gb:Nat}{cap:List AV}{x y:Code}(pre:St->Prop)(vals:List AV)(J:Nat->St->Prop)(hg:ev G env g=.fn gb [] cap)(hfw:qxD P G gb cap pre vals)(hpre:∀i U,J i U->pre U)(hJ:J 0 U)
 (hs:∀i v U,vals[i]?=some v->J i U->kC P G o x (upd env (some pe) v) U [] (fun e env' U'=>e=.normal/\kC P G o y env' U' [] (fun e _ U''=>e=.normal/\J (i+1) U'')))
 (he:∀U,J vals.length U->kX P G o .normal env U ks Q):kC P G o (.rangeFunc g #[pe] x y) env U ks Q:=by
 unfold kC;simp only[vcC,hg];exact⟨pre,vals,J,hX,hfw,hpre,hJ,hs,he⟩
end
def qkS{H b off n c}(h:H[b]?=some (.cells c)):frz H (n+1) (.ptr b off)=.rptr ((c.drop off).map (frz H n)):=by
 rw[frz];simp[qO,h]
def qeD{H n}{s:List UInt8}:frz H n (.str s)=.str s:=qF rfl
def Zl{H n k z}:frz H n (.int k z)=.int k z:=qF rfl
def qaR{H n z}:frz H n (.bool z)=.bool z:=qF rfl
section
variable {P:Program}{G:Glo}{o:Opts}{ops:Array Oper}{ac dp:List Nat}{env:Env}{U:St}{ks:List Fr}{Q:Exit->Env->St->Prop}
def kAl(P:Program)(G:Glo)(o:Opts)(ops:Array Oper)(ac:List Nat)(al:Alts)(env:Env)(U:St)(ks:List Fr)(Q:Exit->Env->St->Prop):Prop:=vR P G o.mu ac ops al env U (fun env U=>itp P G o ks Q .normal env U)
@[simp ↓]def qys{al}:kT P G o ops (.plan ac (.fork al)) env U ks Q=kAl P G o ops ac al env U ks Q:=by simp only[kT,vcS,kAl]
@[simp ↓]def qyI:kAl P G o ops ac .nil env U ks Q=True:=by simp only[kAl,vR]
@[simp ↓]def qw8{k s r}:kAl P G o ops ac (.cons k s r) env U ks Q=(kP P G o ops (ops[k]?) (match ops[k]? with|some u=>zg o.mu ac k u.op != 9|none=>false) (.plan ac s) env U ks Q/\kAl P G o ops ac r env U ks Q):=by
 simp only[kAl,vR,kP,kT];congr 1;split<;>rename_i h<;>simp[h]
end
section
variable {α:Type}{sz t:Nat}{en:α->List AV}{T:List (Option Nat)}{a s m:List α}
end
section
variable {P:Program}{G:Glo}{o:Opts}{env:Env}{U:St}{ks:List Fr}{Q:Exit->Env->St->Prop}
end
section
variable {P:Program}{G:Glo}{U:St}{f:FuncId}{args args':List AV}{Q:AV->St->Prop}
def qj.leq(h:qj P G f args' U Q)(ha:zm args args'):qj P G f args U Q :=
 ⟨h.1,fun w0 ro0 K w vs hw hvs=>h.2 w0 ro0 K w vs hw (zm.rel _ _ ha hvs)⟩
end
section
variable {P:Program}{G:Glo}{o:Opts}{ops:Array Oper}{ct:Ct}{env:Env}{U:St}{ks:List Fr}{Q:Exit->Env->St->Prop}
end
def W2{α:Type}(n sz:Nat)(en:α->List AV)(T:List (Option Nat))(v:AV)(l:List α):Prop :=
 (l=[]/\v=.sl 0 [] .nil)\/(l≠[]/\∃t,n<=t/\v=.sl sz (l.map en) (.chain t l.length)/\T[t]?=some (some l.length))
section
variable {α:Type}{n sz:Nat}{en:α->List AV}{T T':List (Option Nat)}{v:AV}{l m:List α}
def W2.nil:W2 n sz en T (.sl 0 [] .nil) ([]:List α):=.inl ⟨rfl,rfl⟩
def W2.ext(h:W2 n sz en T v l)(hT:T <+: T'):W2 n sz en T' v l:=by
 rcases h with h|⟨h1,t,h2,h3,h4⟩
 . exact .inl h
 obtain⟨u,rfl⟩:=hT;exact .inr ⟨h1,t,h2,h3,by rw[qBa (qAU.1 h4).1,h4]⟩
def qhL{T0 T:List (Option Nat)}(h:T0 <+: T){t}(ht:T0.length<=t)(x:Option Nat):T0 <+: T.set t x:=by
 obtain⟨u,rfl⟩:=h;rw[qBK _ _ ht];exact⟨_,rfl⟩
def W2.append{T0 D ty e i j tok}(h:W2 T0.length sz en T v l)(hT:T0 <+: T)(hi:D ty=some i)(hd:i.d=.sl e)(hj:D e=some j)(hsz:j.size=sz)(h0:0<sz)(hz:j.zero.length=sz)(hb:j.bytes<=256)
 (hlen:l.length+m.length<=549755813888) (sz2) (h2:sz2=sz\/m=[]):
 ∃v' T',(∀H,qq D ⟨H,T⟩ ty v (.sl sz2 (m.map en) tok)=some (v',⟨H,T'⟩))/\W2 T0.length sz en T' v' (l++m)/\T0 <+: T':=by
 subst hsz;by_cases hm:m=[]
 . subst hm;rw[qBC];refine⟨v,T,fun H=>?_,h,hT⟩;rcases h with⟨rfl,rfl⟩|⟨hne,t,_,rfl,_⟩
   . simp[qq,hi,hd,hj,h0,hz,hb,za]
   have:l.length<=549755813888:=by simpa using hlen
   simp[qq,hi,hd,hj,h0,hz,hb,za,this]
 have h2:=h2.resolve_right hm;subst h2;rcases h with⟨rfl,rfl⟩|⟨hne,t,ht,rfl,hk⟩
 . have:m.length<=549755813888:=by simpa using hlen
   refine⟨.sl j.size (m.map en) (.chain T.length m.length),T++[some m.length],fun H=>?_,.inr ⟨by simpa using hm,T.length,?_,by simp⟩,hT.trans (qEt _ _)⟩
   . simp[qq,hi,hd,hj,h0,hz,hb,za,this,hm]
   obtain⟨u,rfl⟩:=hT;simp
 refine⟨.sl j.size ((l++m).map en) (.chain t (l.length+m.length)),T.set t (some (l.length+m.length)),fun H=>?_,.inr ⟨by simp[hne],t,ht,by simp,?_⟩,qhL hT ht _⟩
 . simp[qq,hi,hd,hj,h0,hz,hb,za,hlen,hm,hk]
 rw[qA0 (qAU.1 hk).1];simp
end
def qkR{α:Type}{sz:Nat}{en:α->List AV}(hn:∀x,qw (en x)=true)(ha:∀x,(en x).all AV.atom=true)(H:List Blk)(k:Nat)(l:List α)(tok:Tok):Leq (Abs.frz H (k+1) (.sl sz (l.map en) tok)) (.sl sz (l.map en) .none):=by
 have hr:=vA (H:=H) hn (n:=k) l;have hall:((l.map en).map (·.map (Abs.frz H k))).all (·.all AV.atom)=true:=by
  rw[hr,qDT,qA3];intro x _;exact ha x
 by_cases hno:Abs.qO (.sl sz (l.map en) tok)=true
 . rw[qF hno];exact Leq.sl rfl
 rw[Abs.frz,if_neg hno];simp only[if_pos hall];rw[hr];exact qFw _
def qol{α:Type}{sz sz'}{en:α->List AV}(hn:∀x,qw (en x)=true)(ha:∀x,(en x).all AV.atom=true)(H k)(l:List α)(tok)(h:sz=sz'\/l=[]):Leq (Abs.frz H (k+1) (.sl sz (l.map en) tok)) (.sl sz' (l.map en) .none):=by
 rcases h with rfl|rfl
 . exact qkR hn ha H k l tok
 by_cases hno:Abs.qO (.sl sz [] tok)=true
 . rw[qBy,qF hno];exact Leq.slnil
 rw[qBy,Abs.frz,if_neg hno];exact Leq.slnil
section
variable {P:Program}{G:Glo}{f:FuncId}{args:List AV}{U:St}{Q:AV->St->Prop}
def qj.up(h:qj P G f args U (fun r τ=>∃w,Leq r w/\Q w τ)):qj P G f args U Q :=
 ⟨h.1,fun w0 ro0 K w vs hw hvs=>(h.2 w0 ro0 K w vs hw hvs).mono fun e w' h=>h.imp (fun⟨v',v,U',K',h1,h2,h3,h4,u,h5,h6⟩=>⟨v',u,U',K',h1,h2,h3,qFv _ _ h5 h4,h6⟩) id⟩
end
section
variable {P:Program}{G:Glo}{o:Opts}{ops:Array Oper}{ct:Ct}{env:Env}{U:St}{ks:List Fr}{Q:Exit->Env->St->Prop}{dst:Option Nat}
end
section
variable {es:List (AV×AV×Nat)}{H:List Blk}{T:List (Option Nat)}{it m clk:Nat}{seen:List Nat}
end
end Go.Abs
namespace Go.Proofs.YtimecmegnocamaaGreatDoor
open Go Go.Abs Tryz
def qy(n:Int):Int:=n%65536
def qx(n):0<=qy n/\qy n<=65535:=by unfold qy;omega
def QB{n}(h0:0<=n)(h1:n<=65535):qy n=n:=by unfold qy;omega
def b2i(b:Bool):Int:=if b=true then 1 else 0
def WE(b):0<=b2i b/\b2i b<=65535:=by cases b<;>simp[b2i]
def jB(env:List Signal)(name:Str):Option Int:=(env.find? fun s=>s.name==name).map fun s=>qy s.value
def atV(env:List Signal)(a:Str)(i:Int):Int:=if 0<=i/\i<8 then(jB env (zX a i.toNat)).getD 0 else 0
def qml(env:List Signal)(a:Str):Nat->Int
 |0=>0
 |i+1=>qy (qml env a i+atV env a i)
def yR(a:Nat):Nat->Nat
 |0=>0
 |i+1=>yR a i+(if a.testBit i=true then 1 else 0)
def unW(op a:Int):Int :=
 if op=4 then b2i (decide (a=0)) else if op=5 then 65535-qy a else if op=6 then qy (0-a) else(yR (qy a).toNat 16:Int)
def jZ(op a b:Int):Int :=
 if op=7 then qy (a+b) else if op=8 then qy (a-b) else if op=9 then qy (a*b)
 else if op=10 then((a.toNat &&& b.toNat:Nat):Int) else if op=11 then((a.toNat ||| b.toNat:Nat):Int) else if op=12 then((a.toNat ^^^ b.toNat:Nat):Int)
 else if op=13 then(if 0<=b/\b<16 then qy (a*2^b.toNat) else 0)
 else if op=14 then(if 0<=b/\b<16 then qy a/2^b.toNat else 0)
 else if op=15 then b2i (decide (a=b)) else if op=16 then b2i (!decide (a=b)) else if op=17 then b2i (decide (a<b)) else if op=18 then b2i (decide (a<=b))
 else if op=19 then b2i (!decide (a=0)&&!decide (b=0)) else if op=20 then b2i (!decide (a=0)||!decide (b=0))
 else b2i (decide (a=0)||!decide (b=0))
def jh(a:Int):List Int->Bool
 |x::y::r=>(decide (x<=a)&&decide (a<=y))||jh a r
 |_=>false
def opW(op:Int)(l:List Int):Int :=
 if op=22 then(if l.getD 0 0≠0 then l.getD 1 0 else l.getD 2 0)
 else if op=23 then b2i (jh (l.getD 0 0) l.tail)
 else match l with
  |[]=>0
  |[a]=>unW op a
  |a::b::_=>jZ op a b
def vw(env:List Signal)(op n:Int)(name:Str)(l:List Int):Int :=
 if op=1 then n else if op=2 then(jB env name).getD 0 else if op=3 then atV env name (l.getD 0 0) else if op=24 then qml env name 8 else opW op l
mutual
def yn(env:List Signal):Ex->Int
 |.mk op n name args=>vw env op n name (qi5 env args)
def qi5(env:List Signal):List Ex->List Int
 |[]=>[]
 |e::r=>yn env e::qi5 env r
end
@[simp]def qmE(env):∀l,qi5 env l=l.map (yn env)
 |[]=>by simp[qi5]
 |e::r=>by simp[qi5,qmE env r]
def yX(env e):yn env e=vw env e.op e.n e.name (e.args.map (yn env)):=by cases e;simp[yn]
def qiJ(env:List Signal)(e:Ex):Bool :=
 if e.op=2 then(jB env e.name).isSome else if e.op=3\/e.op=24 then(jB env (zX e.name 0)).isSome else true
def jL(env:List Signal)(e:Ex):Bool:=(pre e).all (qiJ env)
def qcM(env e):jL env e=(qiJ env e&&e.args.all (jL env)):=by
 unfold jL;rw[jC,qCm];congr 1;generalize e.args=l
 induction l with
 |nil=>simp
 |cons a r ih=>simp[ih,qCx]
noncomputable def Qs(env:List Signal)(e:Ex):Int:=if zp e≠0 then 1 else if jL env e=true then 0 else 7
noncomputable def jz(env:List Signal)(e:Ex):Int:=if zp e=0/\jL env e=true then yn env e else 0
def y9(e:Ex):Prop:=∀x∈pre e,qv x=0
def y9.self{e}(h:y9 e):qv e=0:=h e (by rw[jC];simp)
def y9.arg{e a}(h:y9 e)(ha:a∈e.args):y9 a:=fun x hx=>h x (by rw[jC];exact qCg _ (ZU.2 ⟨a,ha,hx⟩))
def vU{e}(h:zp e=0):y9 e:=by
 unfold zp at h;split at h
 . cases h
 exact zF.1 h
def jk{e}(h:qv e=0):1<=e.op/\e.op<=25/\(e.op=1->0<=e.n/\e.n<=65535)/\(e.op≠1->e.n=0)/\qm e=true/\(e.op=2->wg e.name=true)/\(e.op=3\/e.op=24->z8 e.name=true)/\(¬(e.op=2\/e.op=3\/e.op=24)->e.name=[]):=by
 unfold qv at h;split at h
 . cases h
 rename_i h1;split at h
 . cases h
 rename_i h2;split at h
 . cases h
 rename_i h3;split at h
 . cases h
 rename_i h4;refine⟨by omega,by omega,fun h=>?_,fun h=>?_,?_,fun h=>?_,fun h=>?_,fun h=>?_⟩
 . apply Classical.byContradiction;intro hn;exact h2 (.inl ⟨h,by omega⟩)
 . apply Classical.byContradiction;intro hn;exact h2 (.inr ⟨h,hn⟩)
 . cases ho:qm e with
   |true=>rfl
   |false=>exact absurd (.inr ho) h3
 . cases ho:wg e.name with
   |true=>rfl
   |false=>exact absurd (.inl ⟨h,ho⟩) h4
 . cases ho:z8 e.name with
   |true=>rfl
   |false=>exact absurd (.inr ⟨h,ho⟩) h4
 apply Classical.byContradiction;intro hn;exact h3 (.inl ⟨h,hn⟩)
def vu{e}(h:qm e=true)(h23:e.op≠23):(e.args.length:Int)=zE e.op:=by
 unfold qm at h;rw[if_neg h23]at h;simpa using h
def Zh{e}(h:qm e=true)(h23:e.op=23):e.args.length%2=1/\3<=e.args.length/\e.args.length<=33:=by
 unfold qm at h;rw[if_pos h23]at h;simpa using h
def ZQ(a):∀i,yR a i<=i
 |0=>qA5 _
 | i+1=>by
  have:=ZQ a i;simp only[yR];split<;>omega
def Wh{env name v}(h:jB env name=some v):0<=v/\v<=65535:=by
 unfold jB at h;obtain⟨s,_,rfl⟩:=qA2.1 h;exact qx _
def Jy{o:Option Int}(h:∀v,o=some v->0<=v/\v<=65535):0<=o.getD 0/\o.getD 0<=65535:=by
 cases o with
 |none=>simp
 |some v=>exact h v rfl
def qlR(env a i):0<=atV env a i/\atV env a i<=65535:=by
 unfold atV;split
 . exact Jy fun v h=>Wh h
 omega
def qhp(env a):∀i,0<=qml env a i/\qml env a i<=65535
 |0=>by simp[qml]
 |i+1=>qx _
def qje(op a):0<=unW op a/\unW op a<=65535:=by
 unfold unW;split
 . exact WE _
 split
 . have:=qx a;omega
 split
 . exact qx _
 have:=ZQ (qy a).toNat 16;omega
def Kf{a:Int}(n:Nat)(h0:0<=a)(h1:a<=65535):0<=a/2^n/\a/2^n<=65535:=by
 have hp:(0:Int)<2^n:=qET (by omega);refine⟨Int.ediv_nonneg h0 (by omega),?_⟩;have:=Int.ediv_le_self (2^n) h0;omega
def InW(n:Int):Prop:=0<=n/\n<=65535
def InW.ite{c:Prop}[Decidable c]{a b}(ha:InW a)(hb:InW b):InW (if c then a else b):=by
 split
 . exact ha
 exact hb
def qiu(op){a b}(ha0:0<=a)(ha1:a<=65535)(hb0:0<=b)(hb1:b<=65535):0<=jZ op a b/\jZ op a b<=65535:=by
 obtain⟨x,rfl⟩:=qBe ha0;obtain⟨y,rfl⟩:=qBe hb0;have hx:x<2^16:=by omega
 have hy:y<2^16:=by omega
 have o1:=qEv (n:=16) x hy;have o2:=qEB (n:=16) hx hy;have o3:=qEw (n:=16) hx hy;show InW (jZ op x y);unfold jZ;simp
 repeat' apply InW.ite
 all_goals first|exact qx _|exact WE _|exact Kf _ (qx _).1 (qx _).2|(unfold InW;omega)
def Vb(env):∀e,y9 e->0<=yn env e/\yn env e<=65535:=by
 refine qFN fun e ih hn=>?_
 have hm:∀x∈e.args.map (yn env),0<=x/\x<=65535:=by
  intro x hx;obtain⟨a,ha,rfl⟩:=qBj.1 hx;exact ih a ha (hn.arg ha)
 have hg:∀i,0<=(e.args.map (yn env)).getD i 0/\(e.args.map (yn env)).getD i 0<=65535:=by
  intro i;rw[qA8];exact Jy fun v h=>hm v (qAV h)
 obtain⟨h1,h2,h3,_⟩:=jk hn.self;rw[yX];unfold vw;split
 . rename_i h;exact h3 h
 split
 . exact Jy fun v h=>Wh h
 split
 . exact qlR _ _ _
 split
 . exact qhp _ _ _
 unfold opW;split
 . split
   . exact hg 1
   . exact hg 2
 split
 . exact WE _
 split
 . omega
 . exact qje _ _
 rename_i a b r hl;rw[hl]at hm;exact qiu _ (hm a (by simp)).1 (hm a (by simp)).2 (hm b (by simp)).1 (hm b (by simp)).2
def yo(l:List Var)(a:List Int):List Signal:=if a.length=l.length then(l.zip a).map fun q=>⟨q.1.name,q.2⟩ else []
def zG(q:Var×Int):Bool:=decide (0<=q.2)&&decide (q.2<2^q.1.width.toNat)&&(!decide (q.1.mode=0)||decide (q.2=q.1.value))
def qL(l:List Var)(a:List Int):Bool:=decide (a.length=l.length)&&(l.zip a).all zG
noncomputable def yi(p:Problem)(a:List Int)(e:Ex):Bool :=
 decide (qo p=0)&&qL p.vars a&&decide (Qs (yo p.vars a) e=0)&&!decide (jz (yo p.vars a) e=0)
def Y3{p}(h:qo p=0):∀v∈p.vars,j4 v=0:=by
 unfold qo at h;split at h
 . rename_i hn;exact absurd h hn
 rename_i hv;have hv:=qB1.1 hv;unfold jg at hv;split at hv
 . cases hv
 split at hv
 . rename_i hn;exact absurd hv hn
 rename_i hz;exact zF.1 (qB1.1 hz)
def zU(v:Var):Nat:=2^v.width.toNat
def qI:List Var->List Int->List Int×Bool
 | v::vs,x::xs=>
  if(qI vs xs).2=false then(x::(qI vs xs).1,false)
  else if v.mode=0 then(x::(qI vs xs).1,true)
  else if x+1<(zU v:Nat) then((x+1)::(qI vs xs).1,false)
  else(0::(qI vs xs).1,true)
 |_,_=>([],true)
def zC(vs:List Var):List Int:=vs.map fun v=>if v.mode=0 then v.value else 0
def jH:List Var->List (List Int)
 |[]=>[[]]
 |v::vs=>if v.mode=0 then(jH vs).map (v.value::·) else(List.range (zU v)).flatMap fun n:Nat=>(jH vs).map ((n:Int)::·)
def wm:List Var->List Int->List (List Int)
 |v::vs,x::xs=>if v.mode=0 then(wm vs xs).map (x::·) else(wm vs xs).map (x::·)++(List.range' (x.toNat+1) (zU v-1-x.toNat)).flatMap fun n:Nat=>(jH vs).map ((n:Int)::·)
 |_,_=>[[]]
def WH{v vs}(h:v.mode=0):jH (v::vs)=(jH vs).map (v.value::·):=by rw[jH,if_pos h]
def WI{v vs}(h:¬v.mode=0):jH (v::vs)=(List.range (zU v)).flatMap fun n:Nat=>(jH vs).map ((n:Int)::·):=by rw[jH,if_neg h]
def YE{v vs x xs}(h:v.mode=0):wm (v::vs) (x::xs)=(wm vs xs).map (x::·):=by rw[wm,if_pos h]
def QM{v vs x xs}(h:¬v.mode=0):wm (v::vs) (x::xs)=(wm vs xs).map (x::·)++(List.range' (x.toNat+1) (zU v-1-x.toNat)).flatMap fun n:Nat=>(jH vs).map ((n:Int)::·):=by rw[wm,if_neg h]
def okA:List Var->List Int->Prop
 |[],[]=>True
 |v::vs,x::xs=>(if v.mode=0 then x=v.value else 0<=x/\x<(zU v:Nat))/\okA vs xs
 |_,_=>False
def Ke(v):0<zU v:=qDS _
def okA.len:∀{vs:List Var}{a:List Int},okA vs a->a.length=vs.length
 |[],[],_=>rfl
 |_::vs,_::xs,h=>by simp[okA.len h.2]
 |[],_::_,h=>h.elim
 |_::_,[],h=>h.elim
def Qe:∀(vs),okA vs (zC vs)
 |[]=>trivial
 | v::vs=>by
  have:=Ke v;show okA (v::vs) ((if v.mode=0 then v.value else 0)::zC vs);refine⟨?_,Qe vs⟩;by_cases h:v.mode=0
  . rw[if_pos h,if_pos h]
  rw[if_neg h,if_neg h];omega
def ZR:∀{vs:List Var}{a:List Int},okA vs a->okA vs (qI vs a).1
 |[],[],_=>trivial
 | v::vs,x::xs,h=>by
  have h1:=ZR h.2;have h2:=h.1;have:=Ke v;unfold qI;split
  . exact⟨h2,h1⟩
  split
  . exact⟨h2,h1⟩
  rename_i hm;rw[if_neg hm]at h2;split
  . refine⟨?_,h1⟩;rw[if_neg hm];omega
  refine⟨?_,h1⟩;rw[if_neg hm];omega
 |[],_::_,h=>h.elim
 |_::_,[],h=>h.elim
def qb2:∀{vs:List Var}{a:List Int},okA vs a->(qI vs a).2=true->(qI vs a).1=zC vs
 |[],[],_,_=>rfl
 | v::vs,x::xs,h,ho=>by
  have h2:=h.1;unfold qI at ho⊢;by_cases h1:(qI vs xs).2=false
  . rw[if_pos h1]at ho;cases ho
  have h1':(qI vs xs).2=true:=by simpa using h1
  have ih:=qb2 h.2 h1';rw[if_neg h1]at ho⊢;show _=(if v.mode=0 then v.value else 0)::zC vs;by_cases hm:v.mode=0
  . rw[if_pos hm]at h2⊢;rw[if_pos hm,ih,h2]
  rw[if_neg hm]at ho⊢;rw[if_neg hm];by_cases hx:x+1<(zU v:Nat)
  . rw[if_pos hx]at ho;cases ho
  rw[if_neg hx,ih]
 |[],_::_,h,_=>h.elim
 |_::_,[],h,_=>h.elim
def qhD{n}(h:0<n):List.range n=0::List.range' 1 (n-1):=by
 cases n with
 |zero=>omega
 |succ n=>rw[qCP,qC3];simp
def yA:∀(vs),wm vs (zC vs)=jH vs
 |[]=>rfl
 | v::vs=>by
  show wm (v::vs) ((if v.mode=0 then v.value else 0)::zC vs)=_;by_cases h:v.mode=0
  . rw[if_pos h,YE h,WH h,yA vs]
  rw[if_neg h,QM h,WI h,yA vs,qhD (Ke v),qBm];rfl
def Qo:∀{vs:List Var}{a:List Int},okA vs a->wm vs a=a::if(qI vs a).2=true then [] else wm vs (qI vs a).1
 |[],[],_=>rfl
 | v::vs,x::xs,h=>by
  have ih:=Qo h.2;have h2:=h.1;by_cases h1:(qI vs xs).2=false
  . have e:qI (v::vs) (x::xs)=(x::(qI vs xs).1,false):=(by rw[qI,if_pos h1]);rw[h1,if_neg (by simp)]at ih;rw[e,if_neg (by simp)];by_cases hm:v.mode=0
    . rw[YE hm,YE hm,ih];rfl
    rw[QM hm,QM hm,ih];rfl
  have h1':(qI vs xs).2=true:=by simpa using h1
  rw[h1',if_pos rfl]at ih;by_cases hm:v.mode=0
  . have e:qI (v::vs) (x::xs)=(x::(qI vs xs).1,true):=(by rw[qI,if_neg h1,if_pos hm]);rw[e,if_pos rfl,YE hm,ih];rfl
  rw[if_neg hm]at h2;by_cases hx:x+1<(zU v:Nat)
  . have e:qI (v::vs) (x::xs)=((x+1)::(qI vs xs).1,false):=(by rw[qI,if_neg h1,if_neg hm,if_pos hx]);have e1:(x+1).toNat=x.toNat+1:=(by omega);have e2:zU v-1-x.toNat=(zU v-1-(x.toNat+1))+1:=(by omega);have e3:((x.toNat+1:Nat):Int)=x+1:=(by omega);rw[e,if_neg (by simp),QM hm,ih,QM hm,qb2 h.2 h1',yA,e1,e2,qC3,qBm,e3];rfl
  have e:qI (v::vs) (x::xs)=(0::(qI vs xs).1,true):=by rw[qI,if_neg h1,if_neg hm,if_neg hx]
  have e2:zU v-1-x.toNat=0:=by omega
  rw[e,if_pos rfl,QM hm,ih,e2];rfl
 |[],_::_,h=>h.elim
 |_::_,[],h=>h.elim
def Zu:∀(vs),(jH vs).length=2^((vs.map fun v=>if v.mode=0 then 0 else v.width.toNat).sum)
 |[]=>rfl
 | v::vs=>by
  by_cases h:v.mode=0
  . rw[WH h,qBA,Zu vs];simp[h]
  rw[WI h];have:∀(l:List Nat),(l.flatMap fun n:Nat=>(jH vs).map ((n:Int)::·)).length=l.length*(jH vs).length:=by
   intro l
   induction l with
   |nil=>simp
   |cons a r ih=>rw[qBm,qAY,ih,qBA,qBc,qDs,qCX]
  rw[this,qED,Zu vs];simp only[qA7,if_neg h,qDl,qEX,zU]
def wc:∀{vs:List Var}{a:List Int},a∈jH vs↔okA vs a
 | [],a=>by
  cases a with
  |nil=>simp[jH,okA]
  |cons x xs=>simp[jH,okA]
 | v::vs,a=>by
  by_cases h:v.mode=0
  . rw[WH h,qBj];constructor
    . rintro⟨b,hb,rfl⟩;exact⟨by rw[if_pos h],wc.1 hb⟩
    intro hk
    cases a with
    |nil=>exact hk.elim
    | cons x xs=>
     have h1:=hk.1;rw[if_pos h]at h1;exact⟨xs,wc.2 hk.2,by rw[h1]⟩
  rw[WI h,qEO];constructor
  . rintro⟨n,hn,hb'⟩;obtain⟨b,hb,rfl⟩:=qBj.1 hb';have:=qCd.1 hn;exact⟨by rw[if_neg h];omega,wc.1 hb⟩
  intro hk
  cases a with
  |nil=>exact hk.elim
  | cons x xs=>
   have h1:=hk.1;rw[if_neg h]at h1;refine⟨x.toNat,qCd.2 (by omega),qBj.2 ⟨xs,wc.2 hk.2,?_⟩⟩;rw[Int.toNat_of_nonneg h1.1]
noncomputable def yD(vs:List Var)(l:List Ex)(a:List Int):Bool:=l.all fun e=>decide (jz (yo vs a) e≠0)
noncomputable def qdJ(vs:List Var)(l:List Ex):Nat->List Int->Option (List Int)×Bool
 |0,_=>(none,false)
 |k+1,a=>if yD vs l a then(some a,(qI vs a).2) else if(qI vs a).2 then(none,true) else qdJ vs l k (qI vs a).1
def qgp{vs l}:∀(k){a:List Int},okA vs a->(wm vs a).length<=k->(qdJ vs l k a).1=(wm vs a).find? (yD vs l)/\((qdJ vs l k a).1=none->(qdJ vs l k a).2=true)
 |0,a,h,hk=>by rw[Qo h]at hk;simp at hk
 | k+1,a,h,hk=>by
  rw[Qo h]at hk⊢;unfold qdJ;rw[qDC];by_cases hs:yD vs l a=true
  . rw[if_pos hs,hs];exact⟨rfl,fun e=>by cases e⟩
  rw[if_neg hs];have hs':yD vs l a=false:=by simpa using hs
  rw[hs'];by_cases ho:(qI vs a).2=true
  . rw[if_pos ho,if_pos ho];exact⟨rfl,fun _=>rfl⟩
  rw[if_neg ho,if_neg ho];rw[if_neg ho]at hk;exact qgp k (ZR h) (by simp at hk;omega)
noncomputable def jQ(vs:List Var)(l:List Ex):Bool:=(jH vs).any (yD vs l)
def qog{vs l k}(hk:(jH vs).length<=k):((qdJ vs l k (zC vs)).1.isSome=jQ vs l)/\((qdJ vs l k (zC vs)).1=none->(qdJ vs l k (zC vs)).2=true):=by
 have:=qgp (l:=l) k (Qe vs) (by rwa[yA]);rw[yA]at this;refine⟨?_,this.2⟩;rw[this.1,jQ];generalize jH vs=L
 induction L with
 |nil=>rfl
 |cons a r ih=>rw[qDC,qC1];cases yD vs l a<;>simp[ih]
def wF(l:List Var)(a:List Int):List Signal:=(l.zip a).map fun q=>⟨q.1.name,q.2⟩
def Qt(l a):yo l a=if a.length=l.length then wF l a else []:=rfl
def vD{l:List Var}{a:List Int}{i:Nat}{v:Var}{x:Int}(h:l[i]?=some v)(h':a[i]?=some x):(wF l a)[i]?=some ⟨v.name,x⟩:=by
 unfold wF;rw[qBp,(qCA (z:=(v,x))).2 ⟨h,h'⟩];rfl
def yK{l a}(h:a.length=l.length):(wF l a).length=l.length:=by simp[wF,h]
def qa3{l a}:(yo l a).length<=l.length:=by
 rw[Qt];split
 . rename_i h;rw[yK h];exact qA5 _
 simp
def zo(e):(qt e).length=4:=by rw[qc];rfl
def jw(e):(qt e).all AV.atom=true:=by
 rw[qc];simp
def yN(e):qZ (.agg (qt e))=some (qt e):=by rw[qc];simp[qZ,AV.atom]
def qma{cs}(h:cs.all AV.atom=true):qZ (.agg cs)=some cs:=by simp only[qZ,h,if_true]
def putAt_all:∀(c new),c.length=new.length->zA c 0 new=new:=by
 have gen:∀(new pre c:List AV),c.length=new.length->zA (pre++c) pre.length new=pre++new:=by
  intro new
  induction new with
  |nil=>intro pre c h;have:c=[]:=qD1.1 h;subst this;simp[zA]
  | cons v r ih=>
   intro pre c h
   cases c with
   |nil=>simp at h
   | cons x c=>
    have:=ih (pre++[v]) c (by simpa using h);simp only[qBE,qC5,qAY,qBo]at this;rw[zA]
    rwa[show(pre++x::c).set pre.length v=pre++v::c by simp]
 intro c new h;simpa using gen new [] c h
structure Near(c:List AV)(Y):Prop where
 len:c.length=4
 atoms:c.all AV.atom=true
 leq:zm c (qt Y)
 nr:qw c=true
def Qh{a b r s}(h1:a=b\/(zm a b/\b.all AV.atom=true))(h2:yp r s):yp (a::r) (b::s):=by
 simp only[yp];exact⟨h1,h2⟩
def qgd:yp [] []:=by simp only[yp]
def Near.row{c Y}(h:Near c Y):c=qt Y\/(zm c (qt Y)/\(qt Y).all AV.atom=true):=.inr ⟨h.leq,jw Y⟩
def qnO(Y):Near (qt Y) Y:=⟨zo Y,jw Y,qFx _,qwO Y⟩
def qrZ{o n:Int}{s:Str}{rows:List (List AV)}{args:List Ex}(h:yp rows (args.map qt))(hn:qX rows=true):Near [.int .i64 o,.int .i64 n,.str s,.sl 4 rows .tight] (.mk o n s args):=by
 refine⟨rfl,rfl,?_,?_⟩
 . rw[qc];simp only[zm,Leq,and_true,true_and,qFi,Ex.n_mk,qFj,qFk];exact .inr ⟨h,.inl trivial⟩
 simp[hn]
def Near.four{c Y}(h:Near c Y):∃c0 c1 c2 c3,c=[c0,c1,c2,c3]:=by
 have:=h.len
 match c,this with
 |[c0,c1,c2,c3],_=>exact⟨c0,c1,c2,c3,rfl⟩
def Near.fin{c0 c1 c2 c3 Y}(h:Near [c0,c1,c2,c3] Y)(H):yb H c0=c0/\yb H c1=c1/\yb H c2=c2/\yb H c3=c3:=by
 have:=h.nr;simp only[qw,qA1,and_true]at this;exact⟨QQ this.1,QQ this.2.1,QQ this.2.2.1,QQ this.2.2.2⟩
def wru{n}(h0:0<=n)(h1:n<18446744073709551616):IntKind.u64.wrap n=n:=by
 simp[IntKind.wrap,IntKind.bits,IntKind.signed];omega
def qao(n:Nat)(h:n<9223372036854775808):Pure prog GG 264 [.int .i64 n] (.int .u64 n):=by
 refine qFm qg func264 rfl (by kernel_rfl) ?_;have h1:=wru (n:=n) (by omega) (by omega);simp[show ¬(n:Int)<0 by omega,wK,h1]
def qb6(n:Nat)(h:n<18446744073709551616):Pure prog GG 265 [.bool false,.int .u64 n] (if n<9223372036854775808 then .tup [.int .i64 n,.int .i64 0] else .tup [.int .i64 0,.int .i64 3]):=by
 refine qFm qg func265 rfl (by kernel_rfl) ?_;by_cases hn:n<9223372036854775808
 . have h1:=wr (n:=n) (by omega) (by omega);have h2:(n:Int)<9223372036854775808:=(by omega);simp[hn,h2,wK,h1]
 have h2:¬(n:Int)<9223372036854775808:=by omega
 simp[hn,h2]
def qij:∀(b a:Nat),a<18446744073709551616->b<18446744073709551616->Pure prog GG 314 [.int .u64 a,.int .u64 b] (.int .u64 (Nat.gcd a b:Nat)):=by
 intro b a ha hb;refine qFm qg func314 rfl (by kernel_rfl) ?_;simp;refine qFu (fun n ev U=>∃x y:Nat,n=y/\x<18446744073709551616/\y<18446744073709551616/\ev 0=.int .u64 x/\ev 1=.int .u64 y/\Nat.gcd x y=Nat.gcd a b) b ⟨a,b,rfl,ha,hb,by simp⟩ ?_;rintro y ev U R hR ⟨x,_,rfl,hx,hy,h0,h1,hg⟩;by_cases hz:y=0
 . subst hz;simp at hg;simp[h0,h1,hg]
 simp[h0,h1,hz];refine hR (x%y) _ _ (qDo _ (by omega)) ⟨y,x%y,rfl,hy,qB3 (Nat.mod_le _ _) hx,by simp,by simp[qCf],?_⟩
 rwa[qDu y,<- qEW,qDu]
def qtd(n m:Nat)(h:n%4294967296=m):zz .and .u64 n 4294967295=some (.int .u64 m):=by
 have h1:((BitVec.ofInt 64 n &&& BitVec.ofInt 64 4294967295).toNat:Int)=m:=by
  rw[BitVec.toNat_and,BitVec.toNat_ofInt];rw[show(BitVec.ofInt 64 4294967295).toNat=2^32-1 by decide,qDb];omega
 show some (AV.int .u64 (IntKind.u64.wrap ((BitVec.ofInt 64 n &&& BitVec.ofInt 64 4294967295).toNat:Int)))=_;rw[h1,wru (by omega) (by omega)]
def qju(n m:Nat)(h:n/4294967296=m):(n:Int).fdiv 4294967296=m:=by
 rw[qDm _ (by omega)];omega
def qwt(a b c:Nat)(h:a*b=c)(hc:c<18446744073709551616):zz .mul .u64 a b=some (.int .u64 c):=by
 show some (AV.int .u64 (IntKind.u64.wrap ((a:Int)*b)))=_;rw[<- Int.natCast_mul,h,wru (by omega) (by omega)]
def qwu(a b c:Nat)(h:a+b=c)(hc:c<18446744073709551616):zz .add .u64 a b=some (.int .u64 c):=by
 show some (AV.int .u64 (IntKind.u64.wrap ((a:Int)+b)))=_;rw[<- qES,h,wru (by omega) (by omega)]
def qxV(a b c d:Nat)(h:a*b=18446744073709551616*d+c)(hc:c<18446744073709551616):zz .mul .u64 a b=some (.int .u64 c):=by
 show some (AV.int .u64 (IntKind.u64.wrap ((a:Int)*b)))=_;rw[<- Int.natCast_mul,h];simp only[IntKind.wrap,IntKind.bits,IntKind.signed];simp;omega
def qp2(x)(hx:x<18446744073709551616):∃a b:Nat,x%4294967296=a/\x/4294967296=b/\x=4294967296*b+a/\a<=4294967295/\b<=4294967295:=⟨_,_,rfl,rfl,by omega,by omega,by omega⟩
def qx7:((2:Int)^min 32 IntKind.u64.bits)=4294967296:=by decide
def qcB(x y hi lo:Nat)(hx:x<18446744073709551616)(hy:y<18446744073709551616)(hh:x*y=18446744073709551616*hi+lo)(hlo:lo<18446744073709551616):
 Pure prog GG 87 [.int .u64 x,.int .u64 y] (.tup [.int .u64 hi,.int .u64 lo]):=by
 have hlast:=qxV x y lo hi hh hlo;have key:∃x0 x1 y0 y1 p00 p10 t t0 t1 q r p01 p11 u v w:Nat,zz .and .u64 x 4294967295=some (.int .u64 x0)/\(x:Int).fdiv 4294967296=x1/\zz .and .u64 y 4294967295=some (.int .u64 y0)/\(y:Int).fdiv 4294967296=y1 /\
  zz .mul .u64 x0 y0=some (.int .u64 p00)/\zz .mul .u64 x1 y0=some (.int .u64 p10)/\(p00:Int).fdiv 4294967296=q/\zz .add .u64 p10 q=some (.int .u64 t)/\zz .and .u64 t 4294967295=some (.int .u64 t0)/\(t:Int).fdiv 4294967296=t1 /\
  zz .mul .u64 x0 y1=some (.int .u64 p01)/\zz .add .u64 t0 p01=some (.int .u64 r)/\zz .mul .u64 x1 y1=some (.int .u64 p11)/\zz .add .u64 p11 t1=some (.int .u64 u)/\(r:Int).fdiv 4294967296=v/\zz .add .u64 u v=some (.int .u64 hi):=by
  obtain⟨x0,x1,a1,a2,a3,a4,a5⟩:=qp2 x hx;obtain⟨y0,y1,b1,b2,b3,b4,b5⟩:=qp2 y hy;have m11:=qCQ a5 b5;have m10:=qCQ a5 b4;have m01:=qCQ a4 b5;have m00:=qCQ a4 b4;have hp:x*y=18446744073709551616*(x1*y1)+4294967296*(x1*y0)+4294967296*(x0*y1)+x0*y0:=by
   rw[a3,b3,qBW,qCY,qCY,qEh,qCb 4294967296 x1 y0,Nat.mul_left_comm x0 4294967296 y1];omega
  rw[hh]at hp;obtain⟨p11,e11⟩:∃p,x1*y1=p:=⟨_,rfl⟩;obtain⟨p10,e10⟩:∃p,x1*y0=p:=⟨_,rfl⟩;obtain⟨p01,e01⟩:∃p,x0*y1=p:=⟨_,rfl⟩;obtain⟨p00,e00⟩:∃p,x0*y0=p:=⟨_,rfl⟩;rw[e11]at hp m11;rw[e10]at hp m10;rw[e01]at hp m01;rw[e00]at hp m00;obtain⟨q,eq⟩:∃p,p00/4294967296=p:=⟨_,rfl⟩;obtain⟨t,et⟩:∃p,p10+q=p:=⟨_,rfl⟩;obtain⟨t0,et0⟩:∃p,t%4294967296=p:=⟨_,rfl⟩;obtain⟨t1,et1⟩:∃p,t/4294967296=p:=⟨_,rfl⟩;obtain⟨r,er⟩:∃p,t0+p01=p:=⟨_,rfl⟩;obtain⟨u,eu⟩:∃p,p11+t1=p:=⟨_,rfl⟩;obtain⟨v,ev⟩:∃p,r/4294967296=p:=⟨_,rfl⟩;exact⟨x0,x1,y0,y1,p00,p10,t,t0,t1,q,r,p01,p11,u,v,0,qtd _ _ a1,qju _ _ a2,qtd _ _ b1,qju _ _ b2,qwt _ _ _ e00 (by omega),qwt _ _ _ e10 (by omega),qju _ _ eq,qwu _ _ _ et (by omega),qtd _ _ et0,qju _ _ et1,
   qwt _ _ _ e01 (by omega),qwu _ _ _ er (by omega),qwt _ _ _ e11 (by omega),qwu _ _ _ eu (by omega),qju _ _ ev,qwu _ _ _ (by omega) (by omega)⟩
 obtain⟨x0,x1,y0,y1,p00,p10,t,t0,t1,q,r,p01,p11,u,v,_,k1,k2,k3,k4,k5,k6,k7,k8,k9,k10,k11,k12,k13,k14,k15,k16⟩:=key;refine qFm qg func87 rfl (by kernel_rfl) ?_;simp[-zz,qx7,k1,k2,k3,k4,k5,k6,k7,k8,k9,k10,k11,k12,k13,k14,k15,k16,hlast]
def J6(n:Nat):Int×Int:=if n<9223372036854775808 then(n,0) else(0,3)
def qkd(a b:Nat)(ha:a<9223372036854775808)(hb:b<9223372036854775808):Pure prog GG 187 [.int .i64 a,.int .i64 b] (.tup [.int .i64 (J6 (a*b)).1,.int .i64 (J6 (a*b)).2]):=by
 obtain⟨hi,lo,hh,hlo⟩:∃hi lo,a*b=18446744073709551616*hi+lo/\lo<18446744073709551616:=⟨_,_,(qDR _ _).symm,qDo _ (by omega)⟩;have hm:=qcB a b hi lo (by omega) (by omega) hh hlo;have hs1:=qao a ha;have hs2:=qao b hb;have hsg:=qb6 lo hlo;refine qFm qg func187 rfl (by kernel_rfl) ?_;generalize hr:J6 (a*b)=r;have hm:=qcB a b hi lo (by omega) (by omega) hh hlo;simp;refine qFp hs1 rfl ?_;simp;refine qFp hs2 rfl ?_;simp;refine qFp hm rfl ?_;simp;refine⟨fun h0=>?_,fun h0=>?_⟩
 . have h0':¬a*b<9223372036854775808:=(by omega);simp[J6,h0']at hr;subst hr;simp
 have:a*b=lo:=by omega
 simp[show ¬(a:Int)<0 by omega,show ¬(b:Int)<0 by omega];refine qFp hsg rfl ?_;rw[this]at hr;unfold J6 at hr;split at hr<;>subst hr<;>rename_i h<;>simp[h]
def qu8(a b:Nat)(ha:0<a)(hb:0<b)(ha1:a<9223372036854775808)(hb1:b<9223372036854775808):Pure prog GG 262 [.int .i64 a,.int .i64 b] (.tup [.int .i64 (J6 (Nat.lcm a b)).1,.int .i64 (J6 (Nat.lcm a b)).2]):=by
 have hg:=qER b ha;have hgl:=qDn ha (qC4 a b);have hlcm:a/Nat.gcd a b*b=Nat.lcm a b:=by
  unfold Nat.lcm;exact qE1 (qC4 a b) b
 have hq:a/Nat.gcd a b<=a:=qBQ _ _;obtain⟨g,hge⟩:∃g,Nat.gcd a b=g:=⟨_,rfl⟩;obtain⟨q,hqe⟩:∃q,a/g=q:=⟨_,rfl⟩;obtain⟨l,hle⟩:∃l,Nat.lcm a b=l:=⟨_,rfl⟩;have hd:=qij b a (by omega) (by omega);rw[hge]at hg hgl hlcm hq hd;rw[hqe]at hlcm hq;rw[hle]at hlcm⊢;obtain⟨hi,lo,hh,hlo⟩:∃hi lo,l=18446744073709551616*hi+lo/\lo<18446744073709551616:=⟨_,_,(qDR _ _).symm,qDo _ (by omega)⟩;have hm:=qcB q b hi lo (by omega) (by omega) (by omega) hlo;have hs1:=qao a ha1;have hs2:=qao b hb1;have hsg:=qb6 lo hlo;have hdiv:(a:Int).tdiv g=q:=by
  rw[qBT (by omega)];omega
 have hqu:=wru (n:=q) (by omega) (by omega);generalize hr:J6 l=r;refine qFm qg func262 rfl (by kernel_rfl) ?_;simp[show ¬a=0 by omega,show ¬b=0 by omega];refine qFp hs1 rfl ?_;simp;refine qFp hs1 rfl ?_;simp;refine qFp hs2 rfl ?_;simp;refine qFp hd rfl ?_;simp[show ¬g=0 by omega,hdiv,hqu];refine qFp hs2 rfl ?_;simp;refine qFp hm rfl ?_;simp;refine⟨fun h0=>?_,fun h0=>?_⟩
 . have h0':¬l<9223372036854775808:=(by omega);simp[J6,h0']at hr;subst hr;simp
 have:l=lo:=by omega
 refine qFp hsg rfl ?_;rw[this]at hr;unfold J6 at hr;split at hr<;>subst hr<;>rename_i h<;>simp[h]
