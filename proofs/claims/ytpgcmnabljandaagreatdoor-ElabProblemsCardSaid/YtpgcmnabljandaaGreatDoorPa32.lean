/- A part of the proof. -/
import Derived.Test.YtpgcmnabljandaaGreatDoorPa21
set_option linter.unusedVariables false
set_option linter.unusedSimpArgs false
set_option linter.defProp false
attribute [local simp] Go.Abs.acells Go.Abs.fin Go.Abs.zh Go.Abs.ze Go.Abs.pl1 Go.Abs.plain Go.Abs.pl2 Go.Abs.AV.atom
section
namespace Go.Abs
open Go Go.RowKit
section
def zi {α:Type}(b sz:Nat)(en:α->List AV)(H:List Blk)(v:AV)(l:List α):Prop :=
 (l=[]/\v=.sl 0 [] .nil)\/(l≠[]/\v=.ms b 0 l.length sz/\H[b]?=some (.cells (l.flatMap en)))
section
variable {α:Type}{b sz:Nat}{en:α->List AV}{H:List Blk}{v:AV}{l m:List α}
theorem chunk_flat (hl:∀ x,(en x).length=sz):∀ (l:List α) (t:List AV),vE sz l.length (l.flatMap en++t)=l.map en
 | [],t=>by simp[vE]
 | a::r,t=>by
  have h1:((a::r).flatMap en++t).take sz=en a:=by
   rw[qrm,qri,qsb (by rw[hl];exact qrn _),qrb (by rw[hl];exact qrn _)]
  have h2:((a::r).flatMap en++t).drop sz=r.flatMap en++t:=by
   rw[qrm,qri,List.drop_append_of_le_length (by rw[hl];exact qrn _),List.drop_of_length_le (by rw[hl];exact qrn _),qrh]
  show ((a::r).flatMap en++t).take sz::vE sz r.length (((a::r).flatMap en++t).drop sz)=en a::r.map en;rw[h1,h2,chunk_flat hl r t]
theorem flat_len (hl:∀ x,(en x).length=sz):∀ (l:List α),(l.flatMap en).length=l.length*sz
 | []=>by simp
 | a::r=>by rw[qrm,qqY,hl,flat_len hl r,qq5,qse];omega
theorem kQ (hn:∀ x,qu (en x)=true){n:Nat}:∀ (l:List α),(l.map en).map (·.map (frz H n))=l.map en
 | []=>rfl
 | a::r=>by
  have h:(en a).map (frz H n)=en a:=by
   have:=hn a;generalize en a=c at this
   induction c with
   | nil=>rfl
   | cons x y ih=>
    simp only[qu,qq1]at this;rw[qqZ,qP this.1,ih this.2]
  rw[qqZ,qqZ,h,kQ hn r]
theorem zi.frz (h:zi b sz en H v l)(hl:∀ x,(en x).length=sz)(hn:∀ x,qu (en x)=true)(ha:∀ x,(en x).all AV.atom=true)(n:Nat):Leq (frz H (n+1) v) (.sl sz (l.map en) .none):=by
 rcases h with ⟨rfl,rfl⟩|⟨hne,rfl,hb⟩
 . rw[qP (by simp)];simp
 . have hc:=chunk_flat hl l [];rw[qrl]at hc;have hall:((vE sz l.length (l.flatMap en)).map (·.map (Abs.frz H n))).all (·.all AV.atom)=true:=by
    rw[hc,kQ hn,qsA,qq7];intro x _;exact ha x
   unfold Abs.frz;simp only[zg,qrq,if_false,hb,qsv];rw[if_pos ⟨by rw[flat_len hl];omega,hall⟩,hc,kQ hn];exact Leq.refl _
theorem zi.append {D:Nat->Option TI}{T:List (Option Nat)}{ty e:Nat}{i j:TI}{tok:Tok}(h:zi b sz en H v l)(hi:D ty=some i)(hd:i.d=.sl e)(hj:D e=some j)(hsz:j.size=sz)(h0:0<sz)(hz:j.zero.length=sz)(hbt:j.bytes<=65536)
 (hl:∀ x,(en x).length=sz) (hlen:l.length+m.length<=1073741824) (hm:m≠[]) :
 ∃ v' H',z6 D ⟨H,T⟩ ty ty v (.sl sz (m.map en) tok)=some (v',⟨H',T⟩)/\zi H.length sz en H' v' (l++m)/\(∀ (k:Nat) (x:Blk),H[k]?=some x->(l=[]\/k≠b)->H'[k]?=some x)/\H'.length=H.length+1:=by
 subst hsz;have hml:m.length≠0:=fun h=>hm (qrQ.1 h)
 have hfl:(m.map en).flatten=m.flatMap en:=by rw[List.flatMap_def]
 rcases h with ⟨rfl,rfl⟩|⟨hne,rfl,hb⟩
 . refine⟨.ms H.length 0 m.length j.size,H++[.cells (m.flatMap en)],?_,?_,?_,by simp⟩
   . have:m.length<=1073741824:=by simpa using hlen
     simp[z6,yv,hi,hd,hj,h0,hz,hbt,srcA,zw,hml,this,hm,hfl]
   . right;refine⟨by simpa using hm,by simp,by simp⟩
   . intro k x hk _;rw[qrc (qqV.1 hk).1,hk]
 . have hfl2:=flat_len hl l;refine⟨.ms H.length 0 (l.length+m.length) j.size,H.set b .dead++[.cells (l.flatMap en++m.flatMap en)],?_,?_,?_,by simp⟩
   . have ht:(l.flatMap en).take (l.length*j.size)=l.flatMap en:=qrb (by omega);have hle:l.length*j.size<=(l.flatMap en).length:=(by omega);rw[hfl2]at hle;simp[z6,yv,hi,hd,hj,h0,hz,hbt,srcA,zw,hml,hlen,hm,hfl,hb,hfl2,ht]
   . right;refine⟨by simp[hne],by simp,by simp⟩
   . intro k x hk hkb;have hkb:=hkb.resolve_left hne;rw[qrc (by rw[qsk];exact (qqV.1 hk).1),qqX (Ne.symm hkb),hk]
theorem zi.append0 {D:Nat->Option TI}{T:List (Option Nat)}{ty e:Nat}{i j:TI}{sz2:Nat}{tok:Tok}(h:zi b sz en H v l)(hi:D ty=some i)(hd:i.d=.sl e)(hj:D e=some j)(hne:l≠[]) :
 z6 D ⟨H,T⟩ ty ty v (.sl sz2 [] tok)=some (v,⟨H,T⟩):=by
 rcases h with ⟨rfl,rfl⟩|⟨hne,rfl,hb⟩
 . exact absurd rfl hne
 . simp only[z6,yv,hi,hd,hj,zw,srcA];split<;>simp_all
theorem zi.frzNo (h:zi b sz en H v l)(hl:∀ x,(en x).length=sz)(hn:∀ x,qu (en x)=true)(ha:∀ x,(en x).all AV.atom=true)(n:Nat):zg (Abs.frz H (n+1) v)=true:=by
 rcases h with ⟨rfl,rfl⟩|⟨hne,rfl,hb⟩
 . rw[qP (by simp)];simp
 . have hc:=chunk_flat hl l [];rw[qrl]at hc;have hall:((vE sz l.length (l.flatMap en)).map (·.map (Abs.frz H n))).all (·.all AV.atom)=true:=by
    rw[hc,kQ hn,qsA,qq7];intro x _;exact ha x
   unfold Abs.frz;simp only[zg,qrq,if_false,hb,qsv];rw[if_pos ⟨by rw[flat_len hl];omega,hall⟩,hc,kQ hn];simpa using qS hn l
theorem zi.acells (h:zi b sz en H v l):acells v=some [v]:=by
 rcases h with ⟨_,rfl⟩|⟨_,rfl,_⟩<;>rfl
theorem zi.atom (h:zi b sz en H v l):AV.atom v=true:=by
 rcases h with ⟨_,rfl⟩|⟨_,rfl,_⟩<;>rfl
theorem zi.lt (h:zi b sz en H v l)(hl:l≠[]):b<H.length:=by
 rcases h with ⟨h,_⟩|⟨_,_,h⟩
 . exact absurd h hl
 . exact (qqV.1 h).1
theorem zi.keep {H':List Blk}(h:zi b sz en H v l)(hk:∀ x,l≠[]->H[b]?=some x->H'[b]?=some x):zi b sz en H' v l:=by
 rcases h with h|⟨h1,h2,h3⟩
 . exact .inl h
 . exact .inr ⟨h1,h2,hk _ h1 h3⟩
theorem zi.at (h:zi b sz en H v l)(hl:l≠[]):v=.ms b 0 l.length sz/\H[b]?=some (.cells (l.flatMap en)):=by
 rcases h with ⟨h,_⟩|⟨_,h1,h2⟩
 . exact absurd h hl
 . exact⟨h1,h2⟩
end
section
variable {α:Type}{b sz:Nat}{en:α->List AV}{H:List Blk}{v:AV}{l m:List α}
theorem zi.appendK {P:Program}{G:Nat->AV}{o:Opts}{D:Nat->Option TI}{T:List (Option Nat)}{ty e:Nat}{i j:TI}{tok:Tok}(h:zi b sz en H v l)(hi:D ty=some i)(hd:i.d=.sl e)(hj:D e=some j)(hsz:j.size=sz)(h0:0<sz)(hz:j.zero.length=sz)(hbt:j.bytes<=65536)
 (hl:∀ x,(en x).length=sz) (hlen:l.length+m.length<=1073741824) :
 ∃ v' b' H',(∀ ops dst ct env ks Q,kY P G o ops ((z6 D ⟨H,T⟩ ty ty v (.sl sz (m.map en) tok)).map fun p=>[p]) (qt D ⟨H,T⟩ ty v (.sl sz (m.map en) tok)) dst ct env ks Q=kT P G o ops ct (upd env dst v') ⟨H',T⟩ ks Q) /\
  zi b' sz en H' v' (l++m)/\(b'=b\/b'=H.length)/\(∀ (k:Nat) (x:Blk),H[k]?=some x->(l=[]\/k≠b)->H'[k]?=some x)/\H.length<=H'.length:=by
 by_cases hm:m=[]
 . subst hm;rw[qrl];by_cases hne:l=[]
   . rcases h with ⟨rfl,rfl⟩|⟨hne',_⟩
     . refine⟨.sl 0 [] .nil,b,H,fun ops dst ct env ks Q=>?_,.inl ⟨rfl,rfl⟩,.inl rfl,fun k x hk _=>hk,qrn _⟩;subst hsz;have hX:z6 D ⟨H,T⟩ ty ty (.sl 0 [] .nil) (.sl j.size [] tok)=none:=by
        simp[z6,yv,hi,hd,hj,zw,srcA]
       have hA:qt D ⟨H,T⟩ ty (.sl 0 [] .nil) (.sl j.size [] tok)=some (.sl 0 [] .nil,⟨H,T⟩):=by
        simp[qt,hi,hd,hj,zD,h0,hz,hbt]
       rw[qq9,hX,hA];simp
     . exact absurd hne hne'
   . refine⟨v,b,H,fun ops dst ct env ks Q=>?_,h,.inl rfl,fun k x hk _=>hk,qrn _⟩;rw[qq9,h.append0 hi hd hj hne];simp
 . obtain⟨v',H',h1,h2,h3,h4⟩:=h.append (T:=T) (tok:=tok) hi hd hj hsz h0 hz hbt hl hlen hm;refine⟨v',H.length,H',fun ops dst ct env ks Q=>?_,h2,.inr rfl,h3,by omega⟩;rw[h1];simp
end
section
variable {A t:List Blk}{b k:Nat}{x y:Blk}
theorem kL (h:A[b]?=some x):(A.set b y++t)[b]?=some y:=by
 have:=(qqV.1 h).1;rw[qrc (by simpa using this),qq4 this]
theorem jh (h:A[k]?=some x)(hk:k≠b):(A.set b y++t)[k]?=some x:=by
 have:=(qqV.1 h).1;rw[qrc (by simpa using this),qqX (Ne.symm hk),h]
theorem WZ {c c':List AV}{k':Nat}(h:A[k]?=some (.cells c))(h':A[k']?=some (.cells c'))(hc:c[1]?≠c'[1]?):k≠k':=by
 rintro rfl;rw[h]at h';cases h';exact hc rfl
def Kp (H:List Blk)(b:Nat)(H':List Blk):Prop:=H.length<=H'.length/\∀ (k:Nat) (x:Blk),H[k]?=some x->k≠b->H'[k]?=some x
theorem Kp.trans {H H' H'':List Blk}(h:Kp H b H')(h':Kp H' b H''):Kp H b H'':=⟨qrN h.1 h'.1,fun k x hk hb=>h'.2 k x (h.2 k x hk hb) hb⟩
theorem Kp.set {H:List Blk}:Kp H b (H.set b y++t):=⟨by simp,fun k x hk hb=>jh hk hb⟩
end
theorem qcy {c:List AV}:∀ (new:List AV) (pre:List AV) (off:Nat),ju (pre++c) (pre.length+off) new=pre++ju c off new
 | new,pre,off=>by
  induction new generalizing c off with
  | nil=>rfl
  | cons v r ih=>
   rw[ju,ju,qsX _ _ (by omega),qtT,qs3];exact ih (off+1)
theorem qeE:∀ (new c t:List AV),c.length=new.length->ju (c++t) 0 new=new++t:=by
 have gen:∀ (new pre c t:List AV),c.length=new.length->ju (pre++(c++t)) pre.length new=pre++(new++t):=by
  intro new
  induction new with
  | nil=>intro pre c t h;have:c=[]:=qrQ.1 h;subst this;simp[ju]
  | cons v r ih=>
   intro pre c t h
   cases c with
   | nil=>simp at h
   | cons x c=>
    have h':c.length=r.length:=(by simpa using h);have:=ih (pre++[v]) c t h';simp only[qri,qtj,qqY,qq8]at this;rw[ju];have e:(pre++(x::c++t)).set pre.length v=pre++v::(c++t):=(by simp);rw[e];exact this
 intro new c t h;simpa using gen new [] c t h
theorem Q9 {α:Type}{sz:Nat}{en:α->List AV}(hl:∀ x,(en x).length=sz):∀ (l:List α) (i:Nat) (v:α),i<l.length->ju (l.flatMap en) (i*sz) (en v)=(l.set i v).flatMap en
 | [],i,v,h=>by simp at h
 | a::r,0,v,_=>by
  rw[qrm,qsZ,List.set_cons_zero,qrm];exact qeE _ _ _ (by rw[hl,hl])
 | a::r,i+1,v,h=>by
  have h':i<r.length:=by simpa using h
  rw[qrm,qtw,qrm,<- Q9 hl r i v h',qse,qtl];have:=qcy (c:=r.flatMap en) (en v) (en a) (i*sz)
  rwa[hl]at this
section
variable {P:Program}{G:Nat->AV}{o:Opts}{env:Env}{O:St}{ks:List Fr}{Q:Exit->Env->St->Prop}
theorem qv.listR {α:Type}(l:List α)(J:List α->Env->St->Prop){c:Code}(h0:J [] env O)
 (hs:∀ d v r env O (R:Env->St->Prop),(∀ env O,J (d++[v]) env O->R env O)->l=d++v::r->l[d.length]?=some v->d.length<l.length->J d env O->kC P G o c env O (.loop R::ks) Q)
 (he:∀ env O,J l env O->kC P G o c env O (.loop (fun _ _=>False)::ks) Q) (hp:yi c=true:=by rfl):qv P G o c env O ks Q :=
 qv.list l J h0 (fun d v r env O h1 h2 h3 hJ=>hs d v r env O _ (fun _ _ h=>h) h1 h2 h3 hJ) he hp
end
section
variable {P:Program}{G:Nat->AV}{o:Opts}{env:Env}{O:St}{ks:List Fr}{Q:Exit->Env->St->Prop}
theorem qnh {α:Type}{g:Operand}{pi pe gb b k:Nat}{x y:Code}{tok:Tok}(l:List α)(en:α->List AV)(J:Nat->St->Prop)(hg:ev G env g=.fn gb [] [.ptr b 0])(hbw:BwOk P G gb k)(hfit:l.length<2 ^ 62)(hJ:J l.length O)
 (hcells:∀ i O,J i O->O.H[b]?=some (.cells [.sl k (l.map en) tok]))
 (hs:∀ i v O,l[i]?=some v->J (i+1) O->kC P G o x (upd (upd env (some pi) (.int .i64 i)) (some pe) (.agg (en v))) O [] (fun e env' O'=>e=.normal/\kC P G o y env' O' [] (fun e _ O''=>e=.normal/\J i O'')))
 (he:∀ O,J 0 O->kX P G o .normal env O ks Q) (hpx:yi x=true:=by rfl) (hpy:yi y=true:=by rfl):kC P G o (.rangeFunc g #[pi,pe] x y) env O ks Q:=by
 have hr:∀ n O,n<=l.length->J n O->QG (fun env O Q=>vcC P G o x env O Q) (fun env O Q=>vcC P G o y env O Q) k b pi pe env n O (fun O=>itp P G o ks Q .normal env O):=by
  intro n
  induction n with
  | zero=>intro O _ h;exact he O h
  | succ n ih=>
   intro O hn h;obtain⟨v,hv⟩:∃ v,l[n]?=some v:=⟨_,qq6 (by omega)⟩;have h1:=hs n v O hv h;simp only[QG,hcells _ _ h];refine⟨trivial,?_⟩;have hv':(l.map en)[n]?=some (en v):=(by rw[qrw,hv];rfl);simp only[hv'];refine kc x hpx (fun e env' O' hq=>⟨hq.1,?_⟩) h1;exact kc y hpy (fun e _ O'' hq=>⟨hq.1,ih O'' (by omega) hq.2⟩) hq.2
 unfold kC;simp only[vcC,hg];refine⟨k,hbw,?_⟩;simp only[hcells _ _ hJ];exact⟨by simpa using hfit,by simpa using hr l.length O (qrn _) hJ⟩
end
theorem qbo {H:List Blk}{b off n:Nat}{c:List AV}(h:H[b]?=some (.cells c)):frz H (n+1) (.ptr b off)=.rptr ((c.drop off).map (frz H n)):=by
 rw[frz];simp[zg,h]
theorem Qi {H:List Blk}{n:Nat}{s:List UInt8}:frz H n (.str s)=.str s:=qP rfl
theorem qkK {H:List Blk}{n:Nat}{k:IntKind}{z:Int}:frz H n (.int k z)=.int k z:=qP rfl
theorem qnw {H:List Blk}{n:Nat}{z:Bool}:frz H n (.bool z)=.bool z:=qP rfl
section
variable {P:Program}{G:Nat->AV}{o:Opts}{ops:Array Oper}{ac dp:List Nat}{env:Env}{O:St}{ks:List Fr}{Q:Exit->Env->St->Prop}
def kAl (P:Program)(G:Nat->AV)(o:Opts)(ops:Array Oper)(ac:List Nat)(al:Alts)(env:Env)(O:St)(ks:List Fr)(Q:Exit->Env->St->Prop):Prop:=Qz P G o.mu ac ops al env O (fun env O=>itp P G o ks Q .normal env O)
@[simp ↓]theorem kT_fork {al:Alts}:kT P G o ops (.plan ac (.fork al)) env O ks Q=kAl P G o ops ac al env O ks Q:=by simp only[kT,vcS,kAl]
@[simp ↓]theorem kAl_nil:kAl P G o ops ac .nil env O ks Q=True:=by simp only[kAl,Qz]
@[simp ↓]theorem kAl_cons {k:Nat}{s:Sch}{r:Alts}:kAl P G o ops ac (.cons k s r) env O ks Q=(kP P G o ops (ops[k]?) (match ops[k]? with | some u=>zR o.mu ac k u.op != 9 | none=>false) (.plan ac s) env O ks Q/\kAl P G o ops ac r env O ks Q):=by
 simp only[kAl,Qz,kP,kT];congr 1;split<;>rename_i h<;>simp[h]
end
end
section
def qiE {α:Type}(sz:Nat)(en:α->List AV)(t:Nat)(a s:List α):AV:=match s with
 | []=>.sl sz (a.map en) .tight
 | x::r=>.sl sz ((a++x::r).map en) (.chain t (r.length+1))
section
variable {α:Type}{sz t:Nat}{en:α->List AV}{T:List (Option Nat)}{a s m:List α}
theorem qpS (h:s≠[]):qiE sz en t a s=.sl sz ((a++s).map en) (.chain t s.length):=by
 cases s with
 | nil=>exact absurd rfl h
 | cons x r=>rfl
theorem qfC {D:Nat->Option TI}{H:List Blk}{ty e:Nat}{i j:TI}{tok:Tok}(hi:D ty=some i)(hd:i.d=.sl e)(hj:D e=some j)(hsz:j.size=sz)(h0:0<sz)(hz:j.zero.length=sz)(hb:j.bytes<=65536)(hlen:a.length+s.length+m.length<=1073741824)(sz2:Nat)(h2:sz2=sz\/m=[]) :
 qt D ⟨H,zG T s⟩ ty (qiE sz en T.length a s) (.sl sz2 (m.map en) tok)=some (qiE sz en T.length a (s++m),⟨H,zG T (s++m)⟩):=by
 subst hsz;by_cases hm:m=[]
 . subst hm;rw[qrl]
   cases s with
   | nil=>
    have:a.length<=1073741824:=by simp at hlen;omega
    simp[qt,hi,hd,hj,h0,hz,hb,zD,qiE,this]
   | cons x r=>
    have:a.length+(r.length+1)<=1073741824:=by simpa using hlen
    simp[qt,hi,hd,hj,h0,hz,hb,zD,qiE,zG,this]
 . have h2:sz2=j.size:=h2.resolve_right hm;subst h2
   cases s with
   | nil=>
    have:a.length+m.length<=1073741824:=by simpa using hlen
    rw[qrh,qpS hm,qgg hm];simp[qt,hi,hd,hj,h0,hz,hb,zD,this,hm,qiE]
   | cons x r=>
    have:a.length+(r.length+1+m.length)<=1073741824:=by simp at hlen;omega
    simp only[qrd,qiE,zG];simp[qt,hi,hd,hj,h0,hz,hb,zD,this,hm];omega
def outE {α:Type}(sz:Nat)(en:α->List AV)(a s:List α):AV:=match s with
 | []=>.sl sz (a.map en) .tight
 | x::r=>.sl sz ((a++x::r).map en) .none
@[simp high]theorem fin_outD {H:List Blk}:fin H (qiE sz en t a s)=outE sz en a s:=by cases s<;>rfl
@[simp high]theorem noRef_outE (hn:∀ x,qu (en x)=true):zg (outE sz en a s)=true:=by
 cases s with
 | nil=>simpa[outE] using qS hn a
 | cons x r=>simpa[outE] using qS hn (a++x::r)
theorem qna:Leq (outE sz en a s) (.sl sz ((a++s).map en) .none):=by
 cases s with
 | nil=>rw[qrl];exact Leq.sl rfl
 | cons x r=>exact Leq.sl rfl
end
section
variable {P:Program}{G:Nat->AV}{o:Opts}{env:Env}{O:St}{ks:List Fr}{Q:Exit->Env->St->Prop}
theorem qkt {x y:Code}(I:Env->St->Prop)(h1:kC P G o x env O (.loop I::ks) Q)(h2:∀ env O,I env O->kC P G o y env O ks Q)(hp:yi x=true:=by rfl):kC P G o x env O (.seq y::ks) Q:=by
 unfold kC at h1 ⊢;exact kc x hp (fun e env O h=>wh (fun env O h=>h2 env O h) (fun _ _ _ h=>h) e env O h) h1
end
end
section
def Ext (O O':St):Prop:=∃ t u,O'=⟨O.H++t,O.T++u⟩
theorem Ext.refl {O:St}:Ext O O:=⟨[],[],by simp⟩
theorem Ext.trans {O O' O'':St}(h:Ext O O')(h':Ext O' O''):Ext O O'':=by
 obtain⟨t,u,rfl⟩:=h;obtain⟨t',u',rfl⟩:=h';exact⟨t++t',u++u',by simp⟩
theorem Ext.at {O O':St}(h:Ext O O'){k:Nat}{x:Blk}(hk:O.H[k]?=some x):O'.H[k]?=some x:=by
 obtain⟨t,u,rfl⟩:=h;exact qb hk t
section
variable {P:Program}{G:Nat->AV}{O:St}{f:FuncId}{args args':List AV}{Q:AV->St->Prop}
theorem qq.leq (h:qq P G f args' O Q)(ha:zt args args'):qq P G f args O Q :=
 ⟨h.1,fun w0 ro0 K w vs hw hvs=>h.2 w0 ro0 K w vs hw (zt.rel _ _ ha hvs)⟩
end
end
section
section
variable {P:Program}{G:Nat->AV}{o:Opts}{ops:Array Oper}{ct:Ct}{env:Env}{O:St}{ks:List Fr}{Q:Exit->Env->St->Prop}
theorem qos {y:Code}(I:Env->St->Prop)(h1:kT P G o ops ct env O (.loop I::ks) Q)(h2:∀ env O,I env O->kC P G o y env O ks Q):kT P G o ops ct env O (.seq y::ks) Q:=by
 unfold kT at h1 ⊢
 cases ct with
 | run d lw rest=>exact qaw (fun env O h=>h2 env O h) rest h1
 | plan ac s=>exact qav (fun env O h=>h2 env O h) s h1
theorem qbd {v:AV}{x y z:Code}(I:Env->St->Prop)(h1:kCd P G o v x y env O (.loop I::ks) Q)(h2:∀ env O,I env O->kC P G o z env O ks Q)(hp:yi x=true:=by rfl)(hq:yi y=true:=by rfl):kCd P G o v x y env O (.seq z::ks) Q:=by
 unfold kCd at h1 ⊢
 cases v with
 | bool b=>exact⟨fun e=>qkt I (h1.1 e) h2 hp,fun e=>qkt I (h1.2 e) h2 hq⟩
 | _=>exact h1
end
theorem Ext.push {H t:List Blk}{T:List (Option Nat)}:Ext ⟨H,T⟩ ⟨H++t,T⟩:=⟨t,[],by simp⟩
theorem Ext.pushT {H t:List Blk}{T T':List (Option Nat)}(h:T <+: T'):Ext ⟨H,T⟩ ⟨H++t,T'⟩:=by
 obtain⟨u,rfl⟩:=h;exact⟨t,u,rfl⟩
end
section
def yc {α:Type}(n sz:Nat)(en:α->List AV)(T:List (Option Nat))(v:AV)(l:List α):Prop :=
 (l=[]/\v=.sl 0 [] .nil)\/(l≠[]/\∃ t,n<=t/\v=.sl sz (l.map en) (.chain t l.length)/\T[t]?=some (some l.length))
section
variable {α:Type}{n sz:Nat}{en:α->List AV}{T T':List (Option Nat)}{v:AV}{l m:List α}
theorem yc.nil:yc n sz en T (.sl 0 [] .nil) ([]:List α):=.inl ⟨rfl,rfl⟩
theorem yc.ext (h:yc n sz en T v l)(hT:T <+: T'):yc n sz en T' v l:=by
 rcases h with h|⟨h1,t,h2,h3,h4⟩
 . exact .inl h
 . obtain⟨u,rfl⟩:=hT;exact .inr ⟨h1,t,h2,h3,by rw[qrc (qqV.1 h4).1,h4]⟩
theorem yc.acells (h:yc n sz en T v l):acells v=some [v]:=by
 rcases h with ⟨_,rfl⟩|⟨_,t,_,rfl,_⟩<;>rfl
theorem yc.atom (h:yc n sz en T v l):AV.atom v=true:=by
 rcases h with ⟨_,rfl⟩|⟨_,t,_,rfl,_⟩<;>rfl
theorem yc.leq (h:yc n sz en T v l):Leq v (.sl sz (l.map en) .none):=by
 rcases h with ⟨rfl,rfl⟩|⟨_,t,_,rfl,_⟩
 . exact Leq.slnil
 . exact Leq.sl rfl
theorem Za {T0 T:List (Option Nat)}(h:T0 <+: T){t:Nat}(ht:T0.length<=t)(x:Option Nat):T0 <+: T.set t x:=by
 obtain⟨u,rfl⟩:=h;rw[qsX _ _ ht];exact⟨_,rfl⟩
theorem yc.append {T0:List (Option Nat)}{D:Nat->Option TI}{ty e:Nat}{i j:TI}{tok:Tok}(h:yc T0.length sz en T v l)(hT:T0 <+: T)(hi:D ty=some i)(hd:i.d=.sl e)(hj:D e=some j)(hsz:j.size=sz)(h0:0<sz)(hz:j.zero.length=sz)(hb:j.bytes<=65536)
 (hlen:l.length+m.length<=1073741824) (sz2:Nat) (h2:sz2=sz\/m=[]) :
 ∃ v' T',(∀ H,qt D ⟨H,T⟩ ty v (.sl sz2 (m.map en) tok)=some (v',⟨H,T'⟩))/\yc T0.length sz en T' v' (l++m)/\T0 <+: T':=by
 subst hsz;by_cases hm:m=[]
 . subst hm;rw[qrl];refine⟨v,T,fun H=>?_,h,hT⟩;rcases h with ⟨rfl,rfl⟩|⟨hne,t,_,rfl,_⟩
   . simp[qt,hi,hd,hj,h0,hz,hb,zD]
   . have:l.length<=1073741824:=by simpa using hlen
     simp[qt,hi,hd,hj,h0,hz,hb,zD,this]
 . have h2:sz2=j.size:=h2.resolve_right hm;subst h2;have hml:m.length≠0:=fun h=>hm (qrQ.1 h)
   rcases h with ⟨rfl,rfl⟩|⟨hne,t,ht,rfl,hk⟩
   . have:m.length<=1073741824:=by simpa using hlen
     refine⟨.sl j.size (m.map en) (.chain T.length m.length),T++[some m.length],fun H=>?_,.inr ⟨by simpa using hm,T.length,?_,by simp,by simp⟩,hT.trans (qrY _ _)⟩
     . simp[qt,hi,hd,hj,h0,hz,hb,zD,this,hm]
     . obtain⟨u,rfl⟩:=hT;simp
   . refine⟨.sl j.size ((l++m).map en) (.chain t (l.length+m.length)),T.set t (some (l.length+m.length)),fun H=>?_,.inr ⟨by simp[hne],t,ht,by simp,?_⟩,Za hT ht _⟩
     . simp[qt,hi,hd,hj,h0,hz,hb,zD,hlen,hm,hk]
     . rw[qq4 (qqV.1 hk).1];simp
end
theorem qe5 {α:Type}{sz:Nat}{en:α->List AV}(hn:∀ x,qu (en x)=true)(ha:∀ x,(en x).all AV.atom=true)(H:List Blk)(k:Nat)(l:List α)(tok:Tok):Leq (Abs.frz H (k+1) (.sl sz (l.map en) tok)) (.sl sz (l.map en) .none):=by
 have hr:=kQ (H:=H) hn (n:=k) l;have hall:((l.map en).map (·.map (Abs.frz H k))).all (·.all AV.atom)=true:=by
  rw[hr,qsA,qq7];intro x _;exact ha x
 by_cases hno:Abs.zg (.sl sz (l.map en) tok)=true
 . rw[qP hno];exact Leq.sl rfl
 . rw[Abs.frz,if_neg hno];simp only[if_pos hall];rw[hr];exact Leq.refl _
theorem qbn {α:Type}{sz sz':Nat}{en:α->List AV}(hn:∀ x,qu (en x)=true)(ha:∀ x,(en x).all AV.atom=true)(H:List Blk)(k:Nat)(l:List α)(tok:Tok)(h:sz=sz'\/l=[]):Leq (Abs.frz H (k+1) (.sl sz (l.map en) tok)) (.sl sz' (l.map en) .none):=by
 rcases h with rfl|rfl
 . exact qe5 hn ha H k l tok
 . by_cases hno:Abs.zg (.sl sz [] tok)=true
   . rw[qq9,qP hno];exact Leq.slnil
   . rw[qq9,Abs.frz,if_neg hno];exact Leq.slnil
theorem yc.frz {α:Type}{n sz:Nat}{en:α->List AV}{T:List (Option Nat)}{v:AV}{l:List α}(h:yc n sz en T v l)(hn:∀ x,qu (en x)=true)(ha:∀ x,(en x).all AV.atom=true)(H:List Blk)(k:Nat):Abs.zg (Abs.frz H (k+1) v)=true/\Leq (Abs.frz H (k+1) v) (.sl sz (l.map en) .none):=by
 rcases h with ⟨rfl,rfl⟩|⟨_,t,_,rfl,_⟩
 . rw[qP (by simp)];simp
 . have hr:=kQ (H:=H) hn (n:=k) l;have hall:((l.map en).map (·.map (Abs.frz H k))).all (·.all AV.atom)=true:=by
    rw[hr,qsA,qq7];intro x _;exact ha x
   by_cases hno:Abs.zg (.sl sz (l.map en) (.chain t l.length))=true
   . rw[qP hno];exact⟨hno,Leq.sl rfl⟩
   . rw[Abs.frz,if_neg hno];simp only[if_pos hall];rw[hr];exact⟨by simpa using qS hn l,Leq.refl _⟩
section
variable {P:Program}{G:Nat->AV}{f:FuncId}{args:List AV}{O:St}{Q:AV->St->Prop}
theorem qq.up (h:qq P G f args O (fun r τ=>∃ w,Leq r w/\Q w τ)):qq P G f args O Q :=
 ⟨h.1,fun w0 ro0 K w vs hw hvs=>(h.2 w0 ro0 K w vs hw hvs).mono fun e w' ⟨v',v,O',K',h1,h2,h3,h4,u,h5,h6⟩=>⟨v',u,O',K',h1,h2,h3,Leq.rel _ _ h5 h4,h6⟩⟩
end
end
section
def enO {α:Type}(z:List AV)(en:α->List AV):Option α->List AV
 | none=>z
 | some x=>en x
section
variable {α:Type}{b sz:Nat}{z:List AV}{en:α->List AV}{H:List Blk}{T:List (Option Nat)}{v:AV}{l:List α}
theorem qbq:∀ l:List α,(l.map some).flatMap (enO z en)=l.flatMap en
 | []=>rfl
 | a::r=>by rw[qqZ,qrm,qrm,qbq r];rfl
theorem zi.opt (h:zi b sz en H v l):zi b sz (enO z en) H v (l.map some):=by
 rcases h with ⟨rfl,rfl⟩|⟨h1,rfl,h3⟩
 . exact .inl ⟨rfl,rfl⟩
 . exact .inr ⟨by simpa using h1,by simp,by rw[qbq];exact h3⟩
theorem zi.put {D:Nat->Option TI}{ty e:Nat}{i j:TI}{tok:Tok}(h:zi b sz en H v l)(hi:D ty=some i)(hd:i.d=.sl e)(hj:D e=some j)(hsz:j.size=sz)(h0:0<sz)(hz:j.zero.length=sz)(hbt:j.bytes<=65536)
 (hl:∀ x,(en x).length=sz) (hzl:z.length=sz) (hlen:l.length+1<=1073741824) (x:α) :
 ∃ H' c,z6 D ⟨H,T⟩ ty ty v (.sl sz [z] tok)=some (.ms H.length 0 (l.length+1) sz,⟨H',T⟩)/\H'[H.length]?=some (.cells c)/\c.length=(l.length+1)*sz/\ju c (l.length*sz) (en x)=(l++[x]).flatMap en /\
  (∀ (k:Nat) (y:Blk),H[k]?=some y->(l=[]\/k≠b)->H'[k]?=some y)/\H'.length=H.length+1:=by
 have hlo:∀ y:Option α,(enO z en y).length=sz:=fun y=>by cases y<;>simp[enO,hl,hzl]
 obtain⟨v',H',h1,h2,h3,h4⟩:=(h.opt (z:=z)).append (T:=T) (m:=[none]) (tok:=tok) hi hd hj hsz h0 hz hbt hlo (by simpa using hlen) (by simp);have hv:v'=.ms H.length 0 (l.length+1) sz/\H'[H.length]?=some (.cells ((l.map some++[none]).flatMap (enO z en))):=by
  have:=h2.at (by simp);simpa using this
 obtain⟨rfl,hc⟩:=hv;refine⟨H',_,by simpa[enO] using h1,hc,?_,?_,fun k y hk hor=>h3 k y hk (by simpa using hor),h4⟩
 . rw[flat_len hlo];simp
 . have:=Q9 (en:=enO z en) hlo (l.map some++[none]) l.length (some x) (by simp);have e:(l.map some++[none]).set l.length (some x)=(l++[x]).map some:=(by simp[qrg]);rw[e,qbq]at this;exact this
theorem qgQ (hl:∀ x,(en x).length=sz):∀ (l:List α) (i:Nat) (x:α),l[i]?=some x->cut (l.flatMap en) (i*sz) sz=some (en x)
 | [],i,x,h=>by simp at h
 | a::r,0,x,h=>by
  simp only[qsf,Option.some.injEq]at h;subst h;have:sz<=(en a++r.flatMap en).length:=by rw[qqY,hl];omega
  simp only[cut,qsZ,qsh,qrm,if_pos this,qsv];rw[qsb (by rw[hl];omega),qrb (by rw[hl];omega)]
 | a::r,i+1,x,h=>by
  have ih:=qgQ hl r i x (by simpa using h);simp only[cut]at ih ⊢;split at ih
  . rename_i hc;rw[if_pos (by rw[qrm,qqY,hl,qse];omega),<- ih,qrm,qse,qtl (i*sz) sz];rw[List.drop_append,hl];have:(en a).drop (sz+i*sz)=[]:=qtY (by rw[hl];omega);rw[this,qrh,qtT]
  . cases ih
end
end
end Go.Abs
end
