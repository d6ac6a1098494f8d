import Derived.Test.YtkodonalmdmgpaaGreatDoorSv17
set_option linter.all false
set_option linter.defProp false
section
namespace Go.Abs
open Go Go.RowKit
section
/-- A row of the state's own with these elements, in block b; or nothing yet. -/
def OwnAt {α:Type} (b sz:Nat) (en:α→List AV) (H:List Blk) (v:AV) (l:List α):Prop :=
 (l=[]∧v=.sl 0 [] .nil)∨(l≠[]∧v=.ms b 0 l.length sz∧H[b]?=some (.cells (l.flatMap en)))
section
variable {α:Type} {b sz:Nat} {en:α→List AV} {H:List Blk} {v:AV} {l m:List α}
theorem chunk_flat (hl:∀ x,(en x).length=sz):∀ (l:List α) (t:List AV),chunk sz l.length (l.flatMap en++t)=l.map en
 | [],t=>by simp [chunk]
 | a::r,t=>by
  have h1:((a::r).flatMap en++t).take sz=en a:=by
   rw [List.flatMap_cons,List.append_assoc,List.take_append_of_le_length (by rw [hl];exact Nat.le_refl _),List.take_of_length_le (by rw [hl];exact Nat.le_refl _)]
  have h2:((a::r).flatMap en++t).drop sz=r.flatMap en++t:=by
   rw [List.flatMap_cons,List.append_assoc,List.drop_append_of_le_length (by rw [hl];exact Nat.le_refl _),List.drop_of_length_le (by rw [hl];exact Nat.le_refl _),List.nil_append]
  show ((a::r).flatMap en++t).take sz::chunk sz r.length (((a::r).flatMap en++t).drop sz)=en a::r.map en
  rw [h1,h2,chunk_flat hl r t]
theorem flat_len (hl:∀ x,(en x).length=sz):∀ (l:List α),(l.flatMap en).length=l.length*sz
 | []=>by simp
 | a::r=>by rw [List.flatMap_cons,List.length_append,hl,flat_len hl r,List.length_cons,Nat.succ_mul];omega
theorem frz_rows (hn:∀ x,noRefs (en x)=true) {n:Nat}:∀ (l:List α),(l.map en).map (·.map (frz H n))=l.map en
 | []=>rfl
 | a::r=>by
  have h:(en a).map (frz H n)=en a:=by
   have:=hn a
   generalize en a=c at this
   induction c with
   | nil=>rfl
   | cons x y ih=>
    simp only [noRefs,Bool.and_eq_true] at this
    rw [List.map_cons,frz_noRef this.1,ih this.2]
  rw [List.map_cons,List.map_cons,h,frz_rows hn r]
/-- A row of the state's own, as a callee sees it that changes nothing. -/
theorem OwnAt.frz (h:OwnAt b sz en H v l) (hl:∀ x,(en x).length=sz) (hn:∀ x,noRefs (en x)=true) (ha:∀ x,(en x).all AV.atom=true) (n:Nat):Leq (frz H (n+1) v) (.sl sz (l.map en) .none):=by
 rcases h with ⟨rfl,rfl⟩|⟨hne,rfl,hb⟩
 · rw [frz_noRef (by simp)];simp
 · have hc:=chunk_flat hl l []
   rw [List.append_nil] at hc
   have hall:((chunk sz l.length (l.flatMap en)).map (·.map (Abs.frz H n))).all (·.all AV.atom)=true:=by
    rw [hc,frz_rows hn,List.all_map,List.all_eq_true]
    intro x _
    exact ha x
   unfold Abs.frz
   simp only [noRef,Bool.false_eq_true,if_false,hb,List.drop_zero]
   rw [if_pos ⟨by rw [flat_len hl];omega,hall⟩,hc,frz_rows hn]
   exact Leq.refl _
/-- Appended to. -/
theorem OwnAt.append {D:Nat→Option TI} {T:List (Option Nat)} {ty e:Nat} {i j:TI} {tok:Tok} (h:OwnAt b sz en H v l) (hi:D ty=some i) (hd:i.d=.sl e) (hj:D e=some j) (hsz:j.size=sz) (h0:0<sz) (hz:j.zero.length=sz) (hbt:j.bytes≤256)
 (hl:∀ x,(en x).length=sz) (hlen:l.length+m.length≤549755813888) (hm:m≠[]) :
 ∃ v' H',appendX D ⟨H,T⟩ ty ty v (.sl sz (m.map en) tok)=some (v',⟨H',T⟩)∧OwnAt H.length sz en H' v' (l++m)∧(∀ (k:Nat) (x:Blk),H[k]?=some x→(l=[]∨k≠b)→H'[k]?=some x)∧H'.length=H.length+1:=by
 subst hsz
 have hml:m.length≠0:=fun h=>hm (List.length_eq_zero_iff.1 h)
 have hfl:(m.map en).flatten=m.flatMap en:=by rw [List.flatMap_def]
 rcases h with ⟨rfl,rfl⟩|⟨hne,rfl,hb⟩
 · refine⟨.ms H.length 0 m.length j.size,H++[.cells (m.flatMap en)],?_,?_,?_,by simp⟩
   · have:m.length≤549755813888:=by simpa using hlen
     simp [appendX,appendM,hi,hd,hj,h0,hz,hbt,srcA,plainTD,hml,this,hm,hfl]
   · right
     refine⟨by simpa using hm,by simp,by simp⟩
   · intro k x hk _
     rw [List.getElem?_append_left (List.getElem?_eq_some_iff.1 hk).1,hk]
 · have hfl2:=flat_len hl l
   refine⟨.ms H.length 0 (l.length+m.length) j.size,H.set b .dead++[.cells (l.flatMap en++m.flatMap en)],?_,?_,?_,by simp⟩
   · have ht:(l.flatMap en).take (l.length*j.size)=l.flatMap en:=List.take_of_length_le (by omega)
     have hle:l.length*j.size≤(l.flatMap en).length:=by omega
     rw [hfl2] at hle
     simp [appendX,appendM,hi,hd,hj,h0,hz,hbt,srcA,plainTD,hml,hlen,hm,hfl,hb,hfl2,ht]
   · right
     refine⟨by simp [hne],by simp,by simp⟩
   · intro k x hk hkb
     have hkb:=hkb.resolve_left hne
     rw [List.getElem?_append_left (by rw [List.length_set];exact (List.getElem?_eq_some_iff.1 hk).1),List.getElem?_set_ne (Ne.symm hkb),hk]
theorem OwnAt.append0 {D:Nat→Option TI} {T:List (Option Nat)} {ty e:Nat} {i j:TI} {sz2:Nat} {tok:Tok} (h:OwnAt b sz en H v l) (hi:D ty=some i) (hd:i.d=.sl e) (hj:D e=some j) (hne:l≠[]) :
 appendX D ⟨H,T⟩ ty ty v (.sl sz2 [] tok)=some (v,⟨H,T⟩):=by
 rcases h with ⟨rfl,rfl⟩|⟨hne,rfl,hb⟩
 · exact absurd rfl hne
 · simp only [appendX,appendM,hi,hd,hj,plainTD,srcA]
   split<;>simp_all
theorem OwnAt.frzNo (h:OwnAt b sz en H v l) (hl:∀ x,(en x).length=sz) (hn:∀ x,noRefs (en x)=true) (ha:∀ x,(en x).all AV.atom=true) (n:Nat):noRef (Abs.frz H (n+1) v)=true:=by
 rcases h with ⟨rfl,rfl⟩|⟨hne,rfl,hb⟩
 · rw [frz_noRef (by simp)];simp
 · have hc:=chunk_flat hl l []
   rw [List.append_nil] at hc
   have hall:((chunk sz l.length (l.flatMap en)).map (·.map (Abs.frz H n))).all (·.all AV.atom)=true:=by
    rw [hc,frz_rows hn,List.all_map,List.all_eq_true]
    intro x _
    exact ha x
   unfold Abs.frz
   simp only [noRef,Bool.false_eq_true,if_false,hb,List.drop_zero]
   rw [if_pos ⟨by rw [flat_len hl];omega,hall⟩,hc,frz_rows hn]
   simpa using noRefss_map hn l
theorem OwnAt.acells (h:OwnAt b sz en H v l):acells v=some [v]:=by
 rcases h with ⟨_,rfl⟩|⟨_,rfl,_⟩<;>rfl
theorem OwnAt.atom (h:OwnAt b sz en H v l):AV.atom v=true:=by
 rcases h with ⟨_,rfl⟩|⟨_,rfl,_⟩<;>rfl
theorem OwnAt.lt (h:OwnAt b sz en H v l) (hl:l≠[]):b<H.length:=by
 rcases h with ⟨h,_⟩|⟨_,_,h⟩
 · exact absurd h hl
 · exact (List.getElem?_eq_some_iff.1 h).1
theorem OwnAt.keep {H':List Blk} (h:OwnAt b sz en H v l) (hk:∀ x,l≠[]→H[b]?=some x→H'[b]?=some x):OwnAt b sz en H' v l:=by
 rcases h with h|⟨h1,h2,h3⟩
 · exact .inl h
 · exact .inr ⟨h1,h2,hk _ h1 h3⟩
theorem OwnAt.at (h:OwnAt b sz en H v l) (hl:l≠[]):v=.ms b 0 l.length sz∧H[b]?=some (.cells (l.flatMap en)):=by
 rcases h with ⟨h,_⟩|⟨_,h1,h2⟩
 · exact absurd h hl
 · exact⟨h1,h2⟩
end
section
variable {α:Type} {b sz:Nat} {en:α→List AV} {H:List Blk} {v:AV} {l m:List α}
/-- Appended to, in a body. -/
theorem OwnAt.appendK {P:Program} {G:Glo} {o:Opts} {D:Nat→Option TI} {T:List (Option Nat)} {ty e:Nat} {i j:TI} {tok:Tok} (h:OwnAt b sz en H v l) (hi:D ty=some i) (hd:i.d=.sl e) (hj:D e=some j) (hsz:j.size=sz) (h0:0<sz) (hz:j.zero.length=sz) (hbt:j.bytes≤256)
 (hl:∀ x,(en x).length=sz) (hlen:l.length+m.length≤549755813888) :
 ∃ v' b' H',(∀ ops dst ct env ks Q,kY P G o ops ((appendX D ⟨H,T⟩ ty ty v (.sl sz (m.map en) tok)).map fun p=>[p]) (appendA D ⟨H,T⟩ ty v (.sl sz (m.map en) tok)) dst ct env ks Q=kT P G o ops ct (upd env dst v') ⟨H',T⟩ ks Q) ∧
  OwnAt b' sz en H' v' (l++m)∧(b'=b∨b'=H.length)∧(∀ (k:Nat) (x:Blk),H[k]?=some x→(l=[]∨k≠b)→H'[k]?=some x)∧H.length≤H'.length:=by
 by_cases hm:m=[]
 · subst hm
   rw [List.append_nil]
   by_cases hne:l=[]
   · rcases h with ⟨rfl,rfl⟩|⟨hne',_⟩
     · refine⟨.sl 0 [] .nil,b,H,fun ops dst ct env ks Q=>?_,.inl ⟨rfl,rfl⟩,.inl rfl,fun k x hk _=>hk,Nat.le_refl _⟩
       subst hsz
       have hX:appendX D ⟨H,T⟩ ty ty (.sl 0 [] .nil) (.sl j.size [] tok)=none:=by
        simp [appendX,appendM,hi,hd,hj,plainTD,srcA]
       have hA:appendA D ⟨H,T⟩ ty (.sl 0 [] .nil) (.sl j.size [] tok)=some (.sl 0 [] .nil,⟨H,T⟩):=by
        simp [appendA,hi,hd,hj,rowsOf,h0,hz,hbt]
       rw [List.map_nil,hX,hA]
       simp
     · exact absurd hne hne'
   · refine⟨v,b,H,fun ops dst ct env ks Q=>?_,h,.inl rfl,fun k x hk _=>hk,Nat.le_refl _⟩
     rw [List.map_nil,h.append0 hi hd hj hne]
     simp
 · obtain⟨v',H',h1,h2,h3,h4⟩:=h.append (T:=T) (tok:=tok) hi hd hj hsz h0 hz hbt hl hlen hm
   refine⟨v',H.length,H',fun ops dst ct env ks Q=>?_,h2,.inr rfl,h3,by omega⟩
   rw [h1]
   simp
end
section
variable {A t:List Blk} {b k:Nat} {x y:Blk}
theorem set_look (h:A[b]?=some x):(A.set b y++t)[b]?=some y:=by
 have:=(List.getElem?_eq_some_iff.1 h).1
 rw [List.getElem?_append_left (by simpa using this),List.getElem?_set_self this]
theorem set_look_ne (h:A[k]?=some x) (hk:k≠b):(A.set b y++t)[k]?=some x:=by
 have:=(List.getElem?_eq_some_iff.1 h).1
 rw [List.getElem?_append_left (by simpa using this),List.getElem?_set_ne (Ne.symm hk),h]
theorem blk_ne {c c':List AV} {k':Nat} (h:A[k]?=some (.cells c)) (h':A[k']?=some (.cells c')) (hc:c[1]?≠c'[1]?):k≠k':=by
 rintro rfl
 rw [h] at h'
 cases h'
 exact hc rfl
/-- What stays: all but this block. -/
def Kp (H:List Blk) (b:Nat) (H':List Blk):Prop:=H.length≤H'.length∧∀ (k:Nat) (x:Blk),H[k]?=some x→k≠b→H'[k]?=some x
theorem Kp.refl {H:List Blk}:Kp H b H:=⟨Nat.le_refl _,fun _ _ h _=>h⟩
theorem Kp.trans {H H' H'':List Blk} (h:Kp H b H') (h':Kp H' b H''):Kp H b H'':=⟨Nat.le_trans h.1 h'.1,fun k x hk hb=>h'.2 k x (h.2 k x hk hb) hb⟩
theorem Kp.set {H:List Blk}:Kp H b (H.set b y++t):=⟨by simp,fun k x hk hb=>set_look_ne hk hb⟩
theorem Kp.app {H:List Blk}:Kp H b (H++t):=⟨by simp,fun k x hk _=>look_app hk t⟩
end
theorem putAt_append {c:List AV}:∀ (new:List AV) (pre:List AV) (off:Nat),putAt (pre++c) (pre.length+off) new=pre++putAt c off new
 | new,pre,off=>by
  induction new generalizing c off with
  | nil=>rfl
  | cons v r ih=>
   rw [putAt,putAt,List.set_append_right _ _ (by omega),Nat.add_sub_cancel_left,Nat.add_assoc]
   exact ih (off+1)
theorem putAt_front:∀ (new c t:List AV),c.length=new.length→putAt (c++t) 0 new=new++t:=by
 have gen:∀ (new pre c t:List AV),c.length=new.length→putAt (pre++(c++t)) pre.length new=pre++(new++t):=by
  intro new
  induction new with
  | nil=>intro pre c t h;have:c=[]:=List.length_eq_zero_iff.1 h;subst this;simp [putAt]
  | cons v r ih=>
   intro pre c t h
   cases c with
   | nil=>simp at h
   | cons x c=>
    have h':c.length=r.length:=by simpa using h
    have:=ih (pre++[v]) c t h'
    simp only [List.append_assoc,List.singleton_append,List.length_append,List.length_singleton] at this
    rw [putAt]
    have e:(pre++(x::c++t)).set pre.length v=pre++v::(c++t):=by simp
    rw [e]
    exact this
 intro new c t h
 simpa using gen new [] c t h
/-- One element is written. -/
theorem putAt_flat {α:Type} {sz:Nat} {en:α→List AV} (hl:∀ x,(en x).length=sz):∀ (l:List α) (i:Nat) (v:α),i<l.length→putAt (l.flatMap en) (i*sz) (en v)=(l.set i v).flatMap en
 | [],i,v,h=>by simp at h
 | a::r,0,v,_=>by
  rw [List.flatMap_cons,Nat.zero_mul,List.set_cons_zero,List.flatMap_cons]
  exact putAt_front _ _ _ (by rw [hl,hl])
 | a::r,i+1,v,h=>by
  have h':i<r.length:=by simpa using h
  rw [List.flatMap_cons,List.set_cons_succ,List.flatMap_cons,← putAt_flat hl r i v h',Nat.succ_mul,Nat.add_comm]
  have:=putAt_append (c:=r.flatMap en) (en v) (en a) (i*sz)
  rwa [hl] at this
section
variable {P:Program} {G:Glo} {o:Opts} {env:Env} {σ:St} {ks:List Fr} {Q:Exit→Env→St→Prop}
/-- A loop over a list; what the next round begins with is not looked into. -/
theorem kLoop.listR {α:Type} (l:List α) (J:List α→Env→St→Prop) {c:Code} (h0:J [] env σ)
 (hs:∀ d v r env σ (R:Env→St→Prop),(∀ env σ,J (d++[v]) env σ→R env σ)→l=d++v::r→l[d.length]?=some v→d.length<l.length→J d env σ→kC P G o c env σ (.loop R::ks) Q)
 (he:∀ env σ,J l env σ→kC P G o c env σ (.loop (fun _ _=>False)::ks) Q) (hp:plainC c=true:=by rfl):kLoop P G o c env σ ks Q :=
 kLoop.list l J h0 (fun d v r env σ h1 h2 h3 hJ=>hs d v r env σ _ (fun _ _ h=>h) h1 h2 h3 hJ) he hp
end
section
variable {P:Program} {G:Glo} {o:Opts} {env:Env} {σ:St} {ks:List Fr} {Q:Exit→Env→St→Prop}
/-- A range over a row of structs, from its last one on. -/
theorem kC_range (hX:G.NoX) {α:Type} {g:Operand} {pi pe gb b k:Nat} {x y:Code} {tok:Tok} (l:List α) (en:α→List AV) (J:Nat→St→Prop) (hg:ev G env g=.fn gb [] [.ptr b 0]) (hbw:BwOk P G gb k) (hfit:l.length<2 ^ 62) (hJ:J l.length σ)
 (hcells:∀ i σ,J i σ→σ.H[b]?=some (.cells [.sl k (l.map en) tok]))
 (hs:∀ i v σ,l[i]?=some v→J (i+1) σ→kC P G o x (upd (upd env (some pi) (.int .i64 i)) (some pe) (.agg (en v))) σ [] (fun e env' σ'=>e=.normal∧kC P G o y env' σ' [] (fun e _ σ''=>e=.normal∧J i σ'')))
 (he:∀ σ,J 0 σ→kX P G o .normal env σ ks Q) (hpx:plainC x=true:=by rfl) (hpy:plainC y=true:=by rfl):kC P G o (.rangeFunc g #[pi,pe] x y) env σ ks Q:=by
 have hr:∀ n σ,n≤l.length→J n σ→rounds (fun env σ Q=>vcC P G o x env σ Q) (fun env σ Q=>vcC P G o y env σ Q) k b pi pe env n σ (fun σ=>itp P G o ks Q .normal env σ):=by
  intro n
  induction n with
  | zero=>intro σ _ h;exact he σ h
  | succ n ih=>
   intro σ hn h
   obtain⟨v,hv⟩:∃ v,l[n]?=some v:=⟨_,List.getElem?_eq_getElem (by omega)⟩
   have h1:=hs n v σ hv h
   simp only [rounds,hcells _ _ h]
   refine⟨trivial,?_⟩
   have hv':(l.map en)[n]?=some (en v):=by rw [List.getElem?_map,hv];rfl
   simp only [hv']
   refine vcC_imp x hpx (fun e env' σ' hq=>⟨hq.1,?_⟩) h1
   exact vcC_imp y hpy (fun e _ σ'' hq=>⟨hq.1,ih σ'' (by omega) hq.2⟩) hq.2
 unfold kC
 simp only [vcC,hg]
 refine⟨k,hX,hbw,?_⟩
 simp only [hcells _ _ hJ]
 exact⟨by simpa using hfit,by simpa using hr l.length σ (Nat.le_refl _) hJ⟩
/-- A range over values that a function hands on. -/
theorem kC_rangeF (hX:G.NoX) {g:Operand} {pe gb:Nat} {cap:List AV} {x y:Code} (pre:St→Prop) (vals:List AV) (J:Nat→St→Prop) (hg:ev G env g=.fn gb [] cap) (hfw:FwOk P G gb cap pre vals) (hpre:∀ i σ,J i σ→pre σ) (hJ:J 0 σ)
 (hs:∀ i v σ,vals[i]?=some v→J i σ→kC P G o x (upd env (some pe) v) σ [] (fun e env' σ'=>e=.normal∧kC P G o y env' σ' [] (fun e _ σ''=>e=.normal∧J (i+1) σ'')))
 (he:∀ σ,J vals.length σ→kX P G o .normal env σ ks Q):kC P G o (.rangeFunc g #[pe] x y) env σ ks Q:=by
 unfold kC
 simp only [vcC,hg]
 exact⟨pre,vals,J,hX,hfw,hpre,hJ,hs,he⟩
end
theorem frz_ptr {H:List Blk} {b off n:Nat} {c:List AV} (h:H[b]?=some (.cells c)):frz H (n+1) (.ptr b off)=.rptr ((c.drop off).map (frz H n)):=by
 rw [frz];simp [noRef,h]
theorem frz_str {H:List Blk} {n:Nat} {s:List UInt8}:frz H n (.str s)=.str s:=frz_noRef rfl
theorem frz_int {H:List Blk} {n:Nat} {k:IntKind} {z:Int}:frz H n (.int k z)=.int k z:=frz_noRef rfl
theorem frz_bool {H:List Blk} {n:Nat} {z:Bool}:frz H n (.bool z)=.bool z:=frz_noRef rfl
section
variable {P:Program} {G:Glo} {o:Opts} {ops:Array Oper} {ac dp:List Nat} {env:Env} {σ:St} {ks:List Fr} {Q:Exit→Env→St→Prop}
/-- All orders of a fork. -/
def kAl (P:Program) (G:Glo) (o:Opts) (ops:Array Oper) (ac:List Nat) (al:Alts) (env:Env) (σ:St) (ks:List Fr) (Q:Exit→Env→St→Prop):Prop:=vcAlts P G o.mu ac ops al env σ (fun env σ=>itp P G o ks Q .normal env σ)
@[simp ↓] theorem kT_fork {al:Alts}:kT P G o ops (.plan ac (.fork al)) env σ ks Q=kAl P G o ops ac al env σ ks Q:=by simp only [kT,vcS,kAl]
@[simp ↓] theorem kAl_nil:kAl P G o ops ac .nil env σ ks Q=True:=by simp only [kAl,vcAlts]
@[simp ↓] theorem kAl_cons {k:Nat} {s:Sch} {r:Alts}:kAl P G o ops ac (.cons k s r) env σ ks Q=(kP P G o ops (ops[k]?) (match ops[k]? with | some u=>clsB o.mu ac k u.op != 9 | none=>false) (.plan ac s) env σ ks Q∧kAl P G o ops ac r env σ ks Q):=by
 simp only [kAl,vcAlts,kP,kT]
 congr 1
 split<;>rename_i h<;>simp [h]
end
end
section
/-- A list that began with 'a', and what has been appended. -/
def outD {α:Type} (sz:Nat) (en:α→List AV) (t:Nat) (a s:List α):AV:=match s with
 | []=>.sl sz (a.map en) .tight
 | x::r=>.sl sz ((a++x::r).map en) (.chain t (r.length+1))
section
variable {α:Type} {sz t:Nat} {en:α→List AV} {T:List (Option Nat)} {a s m:List α}
theorem outD_ne (h:s≠[]):outD sz en t a s=.sl sz ((a++s).map en) (.chain t s.length):=by
 cases s with
 | nil=>exact absurd rfl h
 | cons x r=>rfl
theorem append_outD {D:Nat→Option TI} {H:List Blk} {ty e:Nat} {i j:TI} {tok:Tok} (hi:D ty=some i) (hd:i.d=.sl e) (hj:D e=some j) (hsz:j.size=sz) (h0:0<sz) (hz:j.zero.length=sz) (hb:j.bytes≤256) (hlen:a.length+s.length+m.length≤549755813888) (sz2:Nat) (h2:sz2=sz∨m=[]) :
 appendA D ⟨H,outCT T s⟩ ty (outD sz en T.length a s) (.sl sz2 (m.map en) tok)=some (outD sz en T.length a (s++m),⟨H,outCT T (s++m)⟩):=by
 subst hsz
 by_cases hm:m=[]
 · subst hm
   rw [List.append_nil]
   cases s with
   | nil=>
    have:a.length≤549755813888:=by simp at hlen;omega
    simp [appendA,hi,hd,hj,h0,hz,hb,rowsOf,outD,this]
   | cons x r=>
    have:a.length+(r.length+1)≤549755813888:=by simpa using hlen
    simp [appendA,hi,hd,hj,h0,hz,hb,rowsOf,outD,outCT,this]
 · have h2:sz2=j.size:=h2.resolve_right hm
   subst h2
   cases s with
   | nil=>
    have:a.length+m.length≤549755813888:=by simpa using hlen
    rw [List.nil_append,outD_ne hm,outCT_ne hm]
    simp [appendA,hi,hd,hj,h0,hz,hb,rowsOf,this,hm,outD]
   | cons x r=>
    have:a.length+(r.length+1+m.length)≤549755813888:=by simp at hlen;omega
    simp only [List.cons_append,outD,outCT]
    simp [appendA,hi,hd,hj,h0,hz,hb,rowsOf,this,hm]
    omega
@[simp high] theorem outD_atom:AV.atom (outD sz en t a s)=true:=by cases s<;>rfl
@[simp high] theorem outD_acells:acells (outD sz en t a s)=some [outD sz en t a s]:=by cases s<;>rfl
/-- Such a list, handed on. -/
def outE {α:Type} (sz:Nat) (en:α→List AV) (a s:List α):AV:=match s with
 | []=>.sl sz (a.map en) .tight
 | x::r=>.sl sz ((a++x::r).map en) .none
@[simp high] theorem pl1_outD:pl1 (outD sz en t a s)=outE sz en a s:=by cases s<;>rfl
@[simp high] theorem pl2_outD:pl2 (outD sz en t a s)=outE sz en a s:=by cases s<;>rfl
@[simp high] theorem plain_outD:plain (outD sz en t a s)=outE sz en a s:=by cases s<;>rfl
@[simp high] theorem fin1_outD {H:List Blk}:fin1 H (outD sz en t a s)=outE sz en a s:=by cases s<;>rfl
@[simp high] theorem fin2_outD {H:List Blk}:fin2 H (outD sz en t a s)=outE sz en a s:=by cases s<;>rfl
@[simp high] theorem fin_outD {H:List Blk}:fin H (outD sz en t a s)=outE sz en a s:=by cases s<;>rfl
@[simp high] theorem outE_atom:AV.atom (outE sz en a s)=true:=by cases s<;>rfl
@[simp high] theorem noRef_outE (hn:∀ x,noRefs (en x)=true):noRef (outE sz en a s)=true:=by
 cases s with
 | nil=>simpa [outE] using noRefss_map hn a
 | cons x r=>simpa [outE] using noRefss_map hn (a++x::r)
theorem leq_outE:Leq (outE sz en a s) (.sl sz ((a++s).map en) .none):=by
 cases s with
 | nil=>rw [List.append_nil];exact Leq.sl rfl
 | cons x r=>exact Leq.sl rfl
end
section
variable {P:Program} {G:Glo} {o:Opts} {env:Env} {σ:St} {ks:List Fr} {Q:Exit→Env→St→Prop}
/-- A cut: what holds behind a piece of code. -/
theorem kC_cut {x y:Code} (I:Env→St→Prop) (h1:kC P G o x env σ (.loop I::ks) Q) (h2:∀ env σ,I env σ→kC P G o y env σ ks Q) (hp:plainC x=true:=by rfl):kC P G o x env σ (.seq y::ks) Q:=by
 unfold kC at h1 ⊢
 exact vcC_imp x hp (fun e env σ h=>aThen_imp (fun env σ h=>h2 env σ h) (fun _ _ _ h=>h) e env σ h) h1
end
end
end Go.Abs
end
