/- A part of the proof. -/
import Derived.Test.YtpgcmnabljandaaGreatDoorPa31
import Derived.Test.YtpgcmnabljandaaGreatDoorPa32
set_option maxHeartbeats 16000000
set_option linter.unusedVariables false
set_option linter.unusedSimpArgs false
set_option maxRecDepth 100000
set_option linter.defProp false
section
namespace Go.Proofs.YtpgcmnabljandaaGreatDoor
open Go Go.Abs
theorem Kz {sz i:Nat}{rows:List (List AV)}(h:i<=rows.length):jg (.sl sz rows .none) none (some (I_ i)) none=some (.sl sz (rows.take i) .none):=by
 have h1:(i:Int)<=rows.length:=by omega
 simp[jg,jp,Jb,kK,h1]
theorem qcs (l:List Fld)(hl:Fits l)(s:Str):PZ 212 [sF l,.str s] (.bool (l.any fun f=>f.name==s)):=by
 refine Pure.k qg Tryz.func212 rfl (by kernel_rfl) ?_;generalize hr:(l.any fun f=>f.name==s)=r;simp[-getElem?_pos];refine qv.listR l (fun d ev O=>ev 0=sF l/\ev 1=.str s/\ev 5=I_ d.length/\(∃ H,O=⟨H,[]⟩)/\∀ x∈d,(x.name==s)=false) ?_ ?_ ?_
 . exact⟨by simp,by simp,by simp,⟨_,rfl⟩,by simp⟩
 . rintro d x rest ev O R hR hd hx hlt ⟨h0,h1,h5,⟨H,rfl⟩,hz⟩;have hdw:IntKind.i64.wrap ((d.length:Int)+1)=(d.length+1:Nat):=(by rw[wr (by omega) (by omega)];omega);by_cases hs:x.name=s
   . have:r=true:=by rw[<- hr];exact qq2.2 ⟨x,qqW hx,by simp[hs]⟩
     subst this;simp[-getElem?_pos,h0,h1,h5,hlt,hx,hs]
   . simp[-getElem?_pos,h0,h1,h5,hlt,hx,hs,hdw];exact hR _ _ ⟨h0,h1,by simp,⟨_,rfl⟩,zu hz (by simpa using hs)⟩
 . rintro ev O ⟨h0,h1,h5,⟨H,rfl⟩,hz⟩;have:r=false:=by rw[<- hr,qrx];exact fun x hx=>by simp[hz x hx]
   subst this;simp[-getElem?_pos,h0,h5]
theorem qnA {α:Type}{p:α->Bool}{d r:List α}{v:α}{i:Int}(hz:∀ x∈d,p x=false)(hv:p v=true):qF p (d++v::r) i=i+d.length:=by
 induction d generalizing i with
 | nil=>simp[qF,hv]
 | cons a d ih=>
  rw[qrd,qF,if_neg (by simp[hz a (by simp)]),ih (fun x hx=>hz x (by simp[hx]))];simp;omega
theorem qkU {α:Type}{p:α->Bool}{d:List α}{i:Int}(hz:∀ x∈d,p x=false):qF p d i = -1:=by
 induction d generalizing i with
 | nil=>rfl
 | cons a d ih=>rw[qF,if_neg (by simp[hz a (by simp)]),ih (fun x hx=>hz x (by simp[hx]))]
theorem qcx (l:List Blc)(hl:Fits l)(s:Str):PZ 205 [sB l,.str s] (I_ (qF (fun b=>b.name==s) l 0)):=by
 refine Pure.k qg Tryz.func205 rfl (by kernel_rfl) ?_;generalize hr:qF (fun b:Blc=>b.name==s) l 0=r;simp[-getElem?_pos];refine qv.listR l (fun d ev O=>ev 0=sB l/\ev 1=.str s/\ev 5=I_ d.length/\(∃ H,O=⟨H,[]⟩)/\∀ x∈d,(x.name==s)=false) ?_ ?_ ?_
 . exact⟨by simp,by simp,by simp,⟨_,rfl⟩,by simp⟩
 . rintro d x rest ev O R hR hd hx hlt ⟨h0,h1,h5,⟨H,rfl⟩,hz⟩;have hdw:IntKind.i64.wrap ((d.length:Int)+1)=(d.length+1:Nat):=(by rw[wr (by omega) (by omega)];omega);by_cases hs:x.name=s
   . have:r=d.length:=by rw[<- hr,hd,qnA hz (by simp[hs])];omega
     subst this;simp[-getElem?_pos,h0,h1,h5,hlt,hx,hs]
   . simp[-getElem?_pos,h0,h1,h5,hlt,hx,hs,hdw];exact hR _ _ ⟨h0,h1,by simp,⟨_,rfl⟩,zu hz (by simpa using hs)⟩
 . rintro ev O ⟨h0,h1,h5,⟨H,rfl⟩,hz⟩;have:r = -1:=by rw[<- hr,qkU hz]
   subst this;simp[-getElem?_pos,h0,h5]
theorem Vi (f:Fld)(hs:Fits f.name):PZ 211 [.agg (q8 f)] (I_ (yp f)):=by
 refine Pure.k qg Tryz.func211 rfl (by kernel_rfl) ?_;have hr:yp f=if qO f.name=false then 7 else if f.width<1\/8<f.width\/f.size<0\/8<f.size then 1 else if f.mode≠0/\f.mode≠1/\f.mode≠2 then 1
  else if f.size≠0/\f.mode=2 then 1 else if f.init<0\/qoe f<f.init then 1 else 0:=rfl
 have ht:qoe f=if f.mode=0 then 2 ^ f.width.toNat-1 else 0:=rfl
 generalize qoe f=top at *;generalize yp f=r at hr;simp[-getElem?_pos];refine qd.call (yl f.name hs) (by simp) ?_;cases hn:qO f.name
 . rw[if_pos hn]at hr;subst hr;simp[-getElem?_pos]
 rw[if_neg (by simp[hn])]at hr;by_cases hw:1<=f.width/\f.width<=8
 . have hs:IntKind.i64.wrap (2 ^ min f.width.toNat IntKind.i64.bits)=2 ^ f.width.toNat:=shl1 (by omega) (by omega);have hu:IntKind.u64.wrap f.width=f.width:=(by simp[IntKind.wrap,IntKind.bits,IntKind.signed];omega);have hw0:¬ f.width<0:=(by omega);have w1:¬ f.width<1:=(by omega);have w8:¬ 8<f.width:=(by omega);have hp:=qoi (n:=f.width.toNat) (by omega);have hs2:IntKind.i64.wrap (2 ^ f.width.toNat-1)=2 ^ f.width.toNat-1:=wr (by omega) (by omega);simp[hs,hw0,w1,w8,hs2,hu,Zu]
   repeat' first | (refine And.intro ?_ ?_) | (intro _)
   all_goals grind
 . by_cases w1:f.width<1
   . rw[if_pos (.inl w1)]at hr;subst hr;simp[w1]
   . have w8:8<f.width:=(by omega);rw[if_pos (.inr (.inl w8))]at hr;subst hr;simp[w1,w8]
theorem Y1 (src:List Cls)(hl:Fits src)(name:Str):PZ 203 [sC src,.str name] (.tup [.agg (qn (yo src name)),.bool (yI src name).isSome]):=by
 refine Pure.k qg Tryz.func203 rfl (by kernel_rfl) ?_;simp[-getElem?_pos];refine qv.listR src (fun d ev O=>ev 0=sC src/\ev 1=.str name/\ev 4=.ptr 0 0/\ev 6=I_ d.length/\(∃ t,O=⟨.cells [.str [],.str [],.sl 0 [] .nil,.sl 0 [] .nil]::t,[]⟩)/\∀ x∈d,(x.name==name)=false) ?_ ?_ ?_
 . exact⟨by simp,by simp,by simp,by simp,⟨[],by simp⟩,by simp⟩
 . rintro d v r ev O R hR hd hv hlt ⟨h0,h1,h4,h6,⟨t,rfl⟩,hz⟩;have hdw:IntKind.i64.wrap ((d.length:Int)+1)=(d.length+1:Nat):=(by rw[wr (by omega) (by omega)];omega);by_cases hn:v.name=name
   . have e:yI src name=some v:=(by rw[hd];exact qe6 hz (by simp[hn]));simp[-getElem?_pos,h0,h1,h4,h6,hlt,hv,hn,yo,e]
   . simp[-getElem?_pos,h0,h1,h4,h6,hlt,hv,hn,hdw];exact hR _ _ ⟨h0,h1,h4,by simp,⟨_,rfl⟩,zu hz (by simpa using hn)⟩
 . rintro ev O ⟨h0,h1,h4,h6,⟨t,rfl⟩,hz⟩;have e:yI src name=none:=qbt hz;simp[-getElem?_pos,h0,h4,h6,yo,e,Q2,Zs,ju]
def upS (src:List Cls):Nat->Cls->List Cls
 | 0,c=>[c]
 | f+1,c=>if c.parent=[] then [c] else match yI src c.parent with
  | some d=>c::upS src f d
  | none=>[c]
end Go.Proofs.YtpgcmnabljandaaGreatDoor
end
section
namespace Go.Abs
open Go Go.RowKit
section
attribute [local simp] acells fin zh ze pl1 plain pl2 AV.atom
section
variable {P:Program}{G:Nat->AV}{o:Opts}{ops:Array Oper}{ct:Ct}{env:Env}{O:St}{ks:List Fr}{Q:Exit->Env->St->Prop}{dst:Option Nat}
theorem qkr {l:List (AV×St)}{x:Option (AV×St)}(h:∀ v τ,(v,τ)∈l->kT P G o ops ct (upd env dst v) τ ks Q):kY P G o ops (some l) x dst ct env ks Q:=by
 unfold kY vcX;exact h
end
section
variable {es:List (AV×AV×Nat)}{H:List Blk}{T:List (Option Nat)}{it m clk:Nat}{seen:List Nat}
def wk (es:List (AV×AV×Nat))(seen:List Nat):List (AV×AV×Nat):=es.filter fun e=>!seen.contains e.2.2
theorem KX (hit:H[it]?=some (.miter (some m) clk seen clk))(hm:H[m]?=some (.map es clk))(hlt:∀ e∈es,e.2.2<clk) :
 KY ⟨H,T⟩ (.iter it)=some ((if (wk es seen).isEmpty then [(.tup [.bool false],(⟨H,T⟩:St))] else [])++(wk es seen).map fun e=>(.tup [.bool true,e.1,e.2.1],(⟨H.set it (.miter (some m) clk (seen++[e.2.2]) clk),T⟩:St))):=by
 have hg:¬ (seen.isEmpty=false/\es.isEmpty=false/\es.all (fun e=>decide (clk<=e.2.2))=true):=by
  rintro⟨_,h2,h3⟩
  cases es with
  | nil=>cases h2
  | cons e r=>
   have h4:=hlt e (by simp);rw[qq7]at h3;have:=of_decide_eq_true (h3 e (by simp));omega
 have hold:(wk es seen).filter (fun e=>decide (e.2.2<clk))=wk es seen:=qsQ.2 fun e he=>by
  simpa using hlt e (qrz.1 he).1
 have hnew:(wk es seen).filter (fun e=>decide (clk<=e.2.2))=[]:=qtZ.2 fun e he=>by
  have:=hlt e (qrz.1 he).1;simp;omega
 unfold wk at hold hnew ⊢;simp only[KY,hit,hm,if_neg hg,hold,hnew,qrl]
theorem WI {e:AV×AV×Nat}(hit:H[it]?=some (.miter (some m) clk (seen++[e.2.2]) clk))(hm:H[m]?=some (.map es clk))(he:e∈es)(hst:(es.map (·.2.2)).Nodup):WJ ⟨H,T⟩ (.iter it)=some (.tup [e.1,e.2.1]):=by
 have hf:es.find? (fun x=>x.2.2==e.2.2)=some e:=by
  clear hit hm
  induction es with
  | nil=>cases he
  | cons a r ih=>
   simp only[qqZ,qr4]at hst;rw[qtn];rcases qra.1 he with rfl|he
   . simp
   . have hne:¬ a.2.2=e.2.2:=fun h=>hst.1 (by rw[h];exact qq3.2 ⟨e,he,rfl⟩)
     have:(a.2.2==e.2.2)=false:=by simpa using hne
     rw[this];exact ih he hst.2
 simp only[WJ,hit,hm,List.getLast?_append,List.getLast?_singleton,Option.or_some,if_true,hf,qsH];simp[hf]
theorem qa9 (h:(wk es seen).isEmpty=true):∀ e∈es,e.2.2∈seen:=by
 intro e he;have h':wk es seen=[]:=by simpa using h
 unfold wk at h';rw[qtZ]at h';have:=h' e he;simpa using this
theorem qba {e:AV×AV×Nat}(h:e∈wk es seen):e∈es/\e.2.2∉seen:=by
 unfold wk at h;obtain⟨h1,h2⟩:=qrz.1 h;exact⟨h1,by simpa using h2⟩
end
end
end Go.Abs
end
