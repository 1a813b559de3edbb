/- A dict in memory: chains, tables, the dict itself; what a st -/
import Derived.Test.YthpdlidbaojlbaaGreatDoorQ00
set_option linter.unusedVariables false
set_option linter.unusedSimpArgs false
set_option maxHeartbeats 4000000
open Go.ChangeShapes Go.WideShapes Go.RowKit
namespace Go.Proofs.YthpdlidbaojlbaaGreatDoor
namespace ks
structure DE (α:Type) where
 b:Nat
 k:ByteArray
 v:α
abbrev Tab (α:Type):=List (List (DE α))
def hmul (h:Nat) (m:Nat):Nat:=(h*m) % 18446744073709551616
def rq (h:Nat) (b:UInt8):Nat:=hmul (h ^^^ b.toNat) 1099511628211
def sH (h:Nat):Nat:=(hmul (h ^^^ (h >>> 32)) 11400714819323198485) ^^^ ((hmul (h ^^^ (h >>> 32)) 11400714819323198485) >>> 29)
def hash (seed:Nat) (s:ByteArray):Nat:=sH (s.data.toList.foldl rq (14695981039346656037 ^^^ seed))
def dQ (seed len:Nat) (k:ByteArray):Nat:=hash seed k &&& (len-1)
theorem tz {seed len:Nat} (h:0<len) (k:ByteArray):dQ seed len k<len:=by have:=kE (n:=hash seed k) (m:=len-1);unfold dQ;omega
structure DM (α:Type) where
 seed:Nat
 ob:Nat
 old:Tab α
 yb:Nat
 aW:Tab α
 cur:Nat
 n:Nat
variable {α:Type}
def gZ (seed:Nat) (t:Tab α) (e:DE α):Tab α:=t.modify (dQ seed t.length e.k) (fun l=>e::l)
def skip (t:Tab α):Nat→Nat→Nat
 | 0,i=>i
 | f+1,i=>match t[i]? with
  | some []=>skip t f (i+1)
  | _=>i
def DM.dV (D:DM α):DM α:=
 match D.old[skip D.old 10 D.cur]? with
 | some (e::l)=>{ D with old:=D.old.set (skip D.old 10 D.cur) [],aW:=(e::l).foldl (gZ D.seed) D.aW,cur:=skip D.old 10 D.cur+1 }
 | _=>{ D with cur:=skip D.old 10 D.cur }
def DM.nG (D:DM α):DM α:=if D.cur=D.old.length then { D with ob:=D.yb,old:=D.aW,yb:=0,aW:=[],cur:=0 } else D
def DM.step (D:DM α):DM α:=if D.aW=[] then D else D.dV.nG
def eF (l:List (DE α)) (k:ByteArray):Option (DE α):=l.find? (fun e=>decide (e.k=k))
def fX (seed:Nat) (t:Tab α) (k:ByteArray):Option (DE α):=(t[dQ seed t.length k]?).bind (fun l=>eF l k)
def DM.find (D:DM α) (k:ByteArray):Option (DE α):=(fX D.seed D.old k).or (fX D.seed D.aW k)
def lR (l:List (DE α)) (k:ByteArray) (v:α):List (DE α):=
 match l with
 | []=>[]
 | e::r=>if e.k=k then { e with v:=v }::r else e::lR r k v
def sU (l:List (DE α)) (k:ByteArray):List (DE α):=
 match l with
 | []=>[]
 | e::r=>if e.k=k then r else e::sU r k
def fR (seed:Nat) (t:Tab α) (k:ByteArray) (v:α):Tab α:=t.modify (dQ seed t.length k) (fun l=>lR l k v)
def JE (seed:Nat) (t:Tab α) (k:ByteArray):Tab α:=t.modify (dQ seed t.length k) (fun l=>sU l k)
def DM.grown (D:DM α) (tb:Nat):DM α:=if D.old=[] then { D with ob:=tb,old:=List.replicate 4 [] } else if D.aW=[]∧D.old.length≤D.n then { D with yb:=tb,aW:=List.replicate (2*D.old.length) [] } else D
def DM.added (D:DM α) (e:DE α):DM α:=if D.aW=[] then { D with old:=gZ D.seed D.old e,n:=D.n+1 } else { D with aW:=gZ D.seed D.aW e,n:=D.n+1 }
def DM.put (D:DM α) (k:ByteArray) (v:α) (tb nb:Nat):DM α:=
 if (fX D.seed D.old k).isSome then { D with old:=fR D.seed D.old k v }
 else if (fX D.seed D.aW k).isSome then { D with aW:=fR D.seed D.aW k v }
 else (D.grown tb).added ⟨nb,k,v⟩
def DM.set (D:DM α) (k:ByteArray) (v:α) (tb nb:Nat):DM α:=D.step.put k v tb nb
def DM.new (seed:Nat):DM α:=⟨seed,0,[],0,[],0,0⟩
def DM.all (D:DM α):List (DE α):=D.old.flatten++D.aW.flatten
/-! ### What holds of a table at every time -/
structure DM.WF (D:DM α):Prop where
 keys:(D.all.map (fun e=>e.k)).Nodup
 nc:∀ i l,D.old[i]?=some l→∀ e∈l,dQ D.seed D.old.length e.k=i
 ox:∀ i l,D.aW[i]?=some l→∀ e∈l,dQ D.seed D.aW.length e.k=i
 gone:∀ i,i<D.cur→D.old[i]?=some []
 cur:D.aW=[]→D.cur=0
 none:D.old=[]→D.aW=[]
 n:D.n=D.all.length
 lt:D.aW≠[]→D.cur<D.old.length
theorem fL {l:List (DE α)} {k:ByteArray} {e:DE α} (h:eF l k=some e):e∈l∧e.k=k:=by unfold eF at h;exact⟨List.mem_of_find?_eq_some h,by have:=List.find?_some h;simpa using this⟩
theorem lT {l:List (DE α)} {k:ByteArray} (h:eF l k=none):∀ e∈l,e.k≠k:=by unfold eF at h;intro e he hk;have:=List.find?_eq_none.1 h e he;simp[hk] at this
theorem vO {l:List (DE α)} {e:DE α} (hk:(l.map (fun e=>e.k)).Nodup) (h:e∈l):eF l e.k=some e:=by
 induction l with
 | nil=>simp at h
 | cons x r ih=>
  rw[bP,bT] at hk;unfold eF;rw[List.find?_cons]
  by_cases hx:x.k=e.k
  ·rcases bM.1 h with rfl|hr
   ·simp
   ·exact absurd (aV.2 ⟨e,hr,rfl⟩) (by have:=hk.1;rw[hx] at this;exact this)
  ·rw[show decide (x.k=e.k)=false by simpa using hx]
   rcases bM.1 h with rfl|hr
   ·exact absurd rfl hx
   ·exact ih hk.2 hr
theorem lS {l m:List (DE α)} (hp:l.Perm m) (hk:(l.map (fun e=>e.k)).Nodup) (k:ByteArray):eF l k=eF m k:=by
 have hm:(m.map (fun e=>e.k)).Nodup:=(hp.map _).nodup hk
 cases h:eF l k with
 | none=>
  cases h2:eF m k with
  | none=>rfl
  | some e=>obtain⟨he,rfl⟩:=fL h2;exact absurd rfl (lT h e (hp.mem_iff.2 he))
 | some e=>obtain⟨he,rfl⟩:=fL h;exact(vO hm (hp.mem_iff.1 he)).symm
end ks
namespace ks
variable {α:Type}
theorem iR {β:Type}:∀ (t:List (List β)) (i:Nat) (l:List β),t[i]?=some l→t.flatten.Perm (l++(t.eraseIdx i).flatten)
 | [],i,l,h=>by simp at h
 | x::r,0,l,h=>by simp at h;subst h;simp
 | x::r,i+1,l,h=>by simp at h;have:=iR r i l h;simp only[List.flatten_cons,List.eraseIdx_cons_succ];refine(this.append_left x).trans ?_;rw[←aD,←aD];exact jP.append_right _
theorem sP {β:Type} (f:List β→List β) (t:List (List β)) (i:Nat) (l:List β) (h:t[i]?=some l):(t.modify i f).flatten.Perm (f l++(t.eraseIdx i).flatten):=by
 have h2:(t.modify i f)[i]?=some (f l):=by simp[fu,h]
 have:=iR _ _ _ h2
 have e:(t.modify i f).eraseIdx i=t.eraseIdx i:=by
  apply dG
  intro j;simp only[jE,fu]
  by_cases hj:j<i
  ·simp[hj,show i≠j by omega]
  ·simp[hj,show i≠j+1 by omega]
 rwa [e] at this
theorem xi {β:Type} (t:List (List β)) (i:Nat) (l m:List β) (h:t[i]?=some l):(t.set i m).flatten.Perm (m++(t.eraseIdx i).flatten):=by
 have:=sP (fun _=>m) t i l h
 rwa [show t.modify i (fun _=>m)=t.set i m from ?_] at this
 apply dG
 intro j;simp only[fu,dx]
 by_cases hj:i=j
 ·subst hj;simp[h,(au.1 h).1]
 ·simp[hj]
def pR (seed:Nat) (t:Tab α):Prop:=∀ i l,t[i]?=some l→∀ e∈l,dQ seed t.length e.k=i
theorem pB {t:Tab α} (h:t≠[]) (seed:Nat) (k:ByteArray):∃ l,t[dQ seed t.length k]?=some l:=by have:dQ seed t.length k<t.length:=tz (bZ.2 h) k;exact⟨_,ag this⟩
theorem uv {seed:Nat} {t:Tab α} (hs:pR seed t) (hk:(t.flatten.map (fun e=>e.k)).Nodup) (k:ByteArray):fX seed t k=eF t.flatten k:=by
 by_cases ht:t=[]
 ·subst ht;rfl
 obtain⟨l,hl⟩:=pB ht seed k;have hp:=iR _ _ _ hl;rw[lS hp hk k];unfold fX;rw[hl];simp only[Option.bind_some];unfold eF;rw[List.find?_append]
 have hn:List.find? (fun e:DE α=>decide (e.k=k)) (t.eraseIdx (dQ seed t.length k)).flatten=none:=by
  rw[List.find?_eq_none];intro e he;simp only[dr];rintro rfl;obtain⟨m,hm,hem⟩:=dM.1 he;obtain⟨j,hj⟩:=tf hm;rw[jE] at hj
  split at hj
  ·have:=hs _ _ hj e hem;omega
  ·have:=hs _ _ hj e hem;omega
 rw[hn];simp
theorem jo (seed:Nat) (t:Tab α) (e:DE α):(gZ seed t e).length=t.length:=by unfold gZ;simp
theorem xR (seed:Nat) (t:Tab α) (e:DE α) (h:t≠[]):gZ seed t e≠[]:=by intro h2;have:=jo seed t e;rw[h2] at this;exact h (dw this.symm)
theorem n9 {seed:Nat} {t:Tab α} (e:DE α) (h:t≠[]):(gZ seed t e).flatten.Perm (e::t.flatten):=by obtain⟨l,hl⟩:=pB h seed e.k;exact(sP _ _ _ _ hl).trans ((List.Perm.cons e (iR _ _ _ hl).symm))
theorem uH {seed:Nat} {t:Tab α} (e:DE α) (hs:pR seed t):pR seed (gZ seed t e):=by
 intro i l hi x hx;rw[jo];unfold gZ at hi;rw[fu] at hi
 cases hti:t[i]? with
 | none=>rw[hti] at hi;simp at hi
 | some m=>
  rw[hti] at hi;simp only[Option.map_eq_map,Option.map_some,fZ] at hi;subst hi
  split at hx
  ·rename_i he
   rcases bM.1 hx with rfl|hx
   ·exact he
   ·exact hs i m hti x hx
  ·exact hs i m hti x hx
theorem gF (seed:Nat):∀ (l:List (DE α)) (t:Tab α),(l.foldl (gZ seed) t).length=t.length
 | [],t=>rfl
 | e::l,t=>by rw[List.foldl_cons,gF seed l,jo]
theorem yX (seed:Nat) (l:List (DE α)) (t:Tab α) (h:t≠[]):l.foldl (gZ seed) t≠[]:=by intro h2;have:=gF seed l t;rw[h2] at this;exact h (dw this.symm)
theorem kO (seed:Nat):∀ (l:List (DE α)) (t:Tab α),t≠[]→(l.foldl (gZ seed) t).flatten.Perm (l++t.flatten)
 | [],t,h=>.refl _
 | e::l,t,h=>by rw[List.foldl_cons];refine(kO seed l _ (xR seed t e h)).trans ?_;refine((n9 e h).append_left l).trans ?_;exact(jh (a:=e) (l₁:=l) (l₂:=t.flatten))
theorem xe (seed:Nat):∀ (l:List (DE α)) (t:Tab α),pR seed t→pR seed (l.foldl (gZ seed) t)
 | [],t,h=>h
 | e::l,t,h=>by rw[List.foldl_cons];exact xe seed l _ (uH e h)
theorem xL (t:Tab α):∀ (f i:Nat),i≤skip t f i
 | 0,i=>aq _
 | f+1,i=>by
  unfold skip;split
  ·exact aF (by omega) (xL t f (i+1))
  ·exact aq _
theorem qm (t:Tab α):∀ (f i j:Nat),i≤j→j<skip t f i→t[j]?=some []
 | 0,i,j,h1,h2=>by unfold skip at h2;omega
 | f+1,i,j,h1,h2=>by
  unfold skip at h2
  split at h2
  ·rename_i he
   by_cases hj:i=j
   ·subst hj;exact he
   ·exact qm t f (i+1) j (by omega) h2
  ·omega
theorem Cy (t:Tab α):∀ (f i:Nat),i≤t.length→skip t f i≤t.length
 | 0,i,h=>h
 | f+1,i,h=>by
  unfold skip;split
  ·rename_i he
   have:=(au.1 he).1;exact Cy t f (i+1) (by omega)
  ·exact h
theorem DM.ju {D:DM α} {e:DE α} {l:List (DE α)} (h:D.old[skip D.old 10 D.cur]?=some (e::l)):
  D.dV={ D with old:=D.old.set (skip D.old 10 D.cur) [],aW:=(e::l).foldl (gZ D.seed) D.aW,cur:=skip D.old 10 D.cur+1 }:=by
 unfold DM.dV;simp only[h]
theorem DM.oK {D:DM α} (h:∀ e l,D.old[skip D.old 10 D.cur]?≠some (e::l)):D.dV={ D with cur:=skip D.old 10 D.cur }:=by
 unfold DM.dV;split
 ·rename_i e l he;exact absurd he (h e l)
 ·rfl
theorem DM.jn {D:DM α} (h:D.WF) (hy:D.aW≠[]):
  D.dV.seed=D.seed∧D.dV.old.length=D.old.length∧D.dV.aW.length=D.aW.length∧D.dV.all.Perm D.all∧pR D.seed D.dV.old∧pR D.seed D.dV.aW∧
  (∀ i,i<D.dV.cur→D.dV.old[i]?=some [])∧D.dV.n=D.n∧D.dV.cur≤D.old.length∧D.dV.ob=D.ob∧D.dV.yb=D.yb:=by
 have hlt:=h.lt hy;have hle:=Cy D.old 10 D.cur (bW hlt)
 have hg:∀ j,j<skip D.old 10 D.cur→D.old[j]?=some []:=fun j hj=>by
  by_cases hc:j<D.cur
  ·exact h.gone j hc
  ·exact qm D.old 10 D.cur j (by omega) hj
 by_cases hex:∃ e l,D.old[skip D.old 10 D.cur]?=some (e::l)
 ·obtain⟨e,l,he⟩:=hex;rw[DM.ju he];have hlt2:=(au.1 he).1;refine⟨rfl,by simp,by simp[gF,jo],?_,?_,xe _ _ _ h.ox,?_,rfl,hlt2,rfl,rfl⟩
  ·unfold DM.all;simp only;have h1:=xi D.old _ _ [] he;have h2:=kO D.seed (e::l) D.aW hy;have h3:=iR _ _ _ he;refine(h1.append h2).trans ?_;simp only[List.nil_append];refine List.Perm.trans ?_ (h3.append_right D.aW.flatten).symm;rw[←aD];exact(jP).append_right _
  ·intro i m hm x hx;rw[dO];rw[dx] at hm
   split at hm
   ·simp at hm;obtain⟨_,rfl⟩:=hm;simp at hx
   ·exact h.nc i m hm x hx
  ·intro j hj;rw[dx];simp only at hj
   by_cases hji:skip D.old 10 D.cur=j
   ·simp only[hji,kY];rw[←hji];simp[hlt2]
   ·rw[aJ hji];exact hg j (by omega)
 ·rw[DM.oK (fun e l he=>hex ⟨e,l,he⟩)];exact⟨rfl,rfl,rfl,.refl _,h.nc,h.ox,hg,rfl,hle,rfl,rfl⟩
theorem BK {β:Type} {t:List (List β)} (h:∀ i,i<t.length→t[i]?=some []):t.flatten=[]:=by rw[List.flatten_eq_nil_iff];intro l hl;obtain⟨i,hi⟩:=tf hl;have:=h i (au.1 hi).1;rw[hi] at this;exact cK this
theorem DM.fE {D:DM α} (h:D.WF):D.step.WF∧D.step.all.Perm D.all∧D.step.seed=D.seed∧D.step.n=D.n:=by
 unfold DM.step
 by_cases hy:D.aW=[]
 ·rw[aQ hy];exact⟨h,.refl _,rfl,rfl⟩
 rw[aJ hy];obtain⟨hse,hol,hyl,hp,hos,hys,hg,hn,hle,zI,hyb⟩:=DM.jn h hy;have hyn:D.dV.aW≠[]:=fun e=>hy (dw (by rw[←hyl,e];rfl))
 have hkeys:(D.dV.all.map (fun e=>e.k)).Nodup:=(hp.map _).symm.nodup h.keys;have hlen:D.dV.n=D.dV.all.length:=by rw[hn,h.n,hp.length_eq]
 unfold DM.nG;split
 ·rename_i hc
  have hfl:D.dV.old.flatten=[]:=BK (fun i hi=>hg i (by omega));have hal:D.dV.all=D.dV.aW.flatten:=by unfold DM.all;rw[hfl];rfl
  refine⟨⟨?_,?_,?_,?_,?_,?_,?_,?_⟩,?_,hse,hn⟩
  ·show((D.dV.aW.flatten++[]).map _).Nodup
   rw[cZ,←hal];exact hkeys
  ·intro i l hi;simp only at hi;rw[hse];exact hys i l hi
  ·intro i l hi;simp at hi
  ·intro i hi;simp at hi
  ·intro _;rfl
  ·intro _;rfl
  ·show D.dV.n=(D.dV.aW.flatten++[]).length
   rw[cZ,←hal];exact hlen
  ·intro hh;exact absurd rfl hh
  ·show(D.dV.aW.flatten++[]).Perm _
   rw[cZ,←hal];exact hp
 ·rename_i hc
  refine⟨⟨hkeys,by rw[hse];exact hos,by rw[hse];exact hys,hg,fun e=>absurd e hyn,fun e=>?_,hlen,fun _=>by omega⟩,hp,hse,hn⟩;have:D.old=[]:=dw (by rw[←hol,e];rfl);exact absurd (h.none this) hy
theorem lk {D:DM α} (h:D.WF):(D.old.flatten.map (fun e=>e.k)).Nodup:=by have:=h.keys;unfold DM.all at this;rw[aZ] at this;exact(bQ.1 this).1
theorem nf {D:DM α} (h:D.WF):(D.aW.flatten.map (fun e=>e.k)).Nodup:=by have:=h.keys;unfold DM.all at this;rw[aZ] at this;exact(bQ.1 this).2.1
theorem DM.find_eq {D:DM α} (h:D.WF) (k:ByteArray):D.find k=eF D.all k:=by unfold DM.find;rw[uv h.nc (lk h) k,uv h.ox (nf h) k];unfold DM.all eF;rw[List.find?_append]
end ks
namespace ks
variable {α:Type}
def rep (k:ByteArray) (v:α) (e:DE α):DE α:=if e.k=k then { e with v:=v } else e
theorem F5 (k:ByteArray) (v:α) (e:DE α):(rep k v e).k=e.k:=by unfold rep;split<;>rfl
theorem Aa {k:ByteArray} {v:α} {e:DE α} (h:e.k≠k):rep k v e=e:=aJ h
theorem mP {k:ByteArray} {v:α} {l:List (DE α)} (h:∀ e∈l,e.k≠k):l.map (rep k v)=l:=by
 induction l with
 | nil=>rfl
 | cons x r ih=>rw[bP,Aa (h x (by simp)),ih (fun e he=>h e (by simp[he]))]
theorem xp {k:ByteArray} {v:α}:∀ {l:List (DE α)},(l.map (fun e=>e.k)).Nodup→lR l k v=l.map (rep k v)
 | [],h=>rfl
 | e::r,h=>by
  rw[bP,bT] at h;unfold lR
  by_cases hk:e.k=k
  ·rw[aQ hk,bP,mP]
   ·unfold rep;rw[aQ hk]
   ·intro x hx e2;exact h.1 (aV.2 ⟨x,hx,by rw[e2,hk]⟩)
  ·rw[aJ hk,bP,Aa hk,xp h.2]
theorem Hh {t:Tab α} (hk:(t.flatten.map (fun e=>e.k)).Nodup) {l:List (DE α)} (hl:l∈t):(l.map (fun e=>e.k)).Nodup:=by have:(l.map (fun e=>e.k)).Sublist (t.flatten.map (fun e=>e.k)):=(oh hl).map _;exact this.nodup hk
theorem ql {seed:Nat} {t:Tab α} (hs:pR seed t) (hk:(t.flatten.map (fun e=>e.k)).Nodup) (k:ByteArray) (v:α):fR seed t k v=t.map (List.map (rep k v)):=by
 unfold fR
 apply dG
 intro i;rw[fu,bK]
 cases h:t[i]? with
 | none=>simp
 | some l=>
  simp only[Option.map_eq_map,Option.map_some];split
  ·rw[xp (Hh hk (aB h))]
  ·rename_i hne
   rw[mP];intro e he e2;exact hne (by rw[←e2];exact hs i l h e he)
theorem rT {β γ:Type} (f:β→γ) (t:List (List β)):(t.map (List.map f)).flatten=t.flatten.map f:=by rw[qJ]
theorem zY {seed:Nat} {t:Tab α} (hs:pR seed t) (k:ByteArray) (v:α):pR seed (t.map (List.map (rep k v))):=by
 intro i l hi e he;rw[bK] at hi
 cases h:t[i]? with
 | none=>rw[h] at hi;simp at hi
 | some m=>rw[h] at hi;simp at hi;subst hi;obtain⟨x,hx,rfl⟩:=aV.1 he;rw[F5,aU];exact hs i m h x hx
theorem zX (seed n:Nat):pR seed (List.replicate n ([]:List (DE α))):=by
 intro i l hi e he;rw[jj] at hi
 split at hi
 ·simp at hi;subst hi;simp at he
 ·simp at hi
theorem j0 {seed:Nat} {t:Tab α} (hs:pR seed t) (hk:(t.flatten.map (fun e=>e.k)).Nodup) (k:ByteArray):(fX seed t k).isSome=true↔∃ e∈t.flatten,e.k=k:=by
 rw[uv hs hk];constructor
 ·intro h;obtain⟨e,he⟩:=kR.1 h;exact⟨e,fL he⟩
 ·rintro⟨e,he,rfl⟩;rw[vO hk he];rfl
theorem DM.Hr {D:DM α} (h:D.WF) {k:ByteArray} (v:α) (tb nb:Nat) (hf:∃ e∈D.all,e.k=k):
  (D.put k v tb nb).WF∧(D.put k v tb nb).all=D.all.map (rep k v)∧(D.put k v tb nb).n=D.n:=by
 have hsa:∀ (a:Tab α),(∃ e∈a.flatten,e.k=k)→∀ e∈a.flatten,True:=fun _ _ _ _=>trivial
 have hno:=h.keys;unfold DM.all at hno;rw[aZ,bQ] at hno;unfold DM.put
 by_cases ho:(fX D.seed D.old k).isSome=true
 ·rw[aQ ho];obtain⟨e,he,rfl⟩:=(j0 h.nc (lk h) k).1 ho;have hy:D.aW.flatten.map (rep e.k v)=D.aW.flatten:=mP (fun x hx e2=>hno.2.2 _ (aV.2 ⟨e,he,rfl⟩) _ (aV.2 ⟨x,hx,rfl⟩) e2.symm)
  have hal:({ D with old:=fR D.seed D.old e.k v }:DM α).all=D.all.map (rep e.k v):=by unfold DM.all;simp only;rw[ql h.nc (lk h),rT,aZ,hy]
  refine⟨⟨?_,?_,?_,?_,h.cur,?_,?_,?_⟩,hal,rfl⟩
  ·rw[hal,kG];rw[show((fun e=>e.k) ∘ rep e.k v:DE α→ByteArray)=(fun e=>e.k) from funext (fun x=>F5 _ _ x)];exact h.keys
  ·show pR D.seed (fR D.seed D.old e.k v)
   rw[ql h.nc (lk h)];exact zY h.nc _ _
  ·exact h.ox
  ·intro i hi
   show(fR D.seed D.old e.k v)[i]?=_
   rw[ql h.nc (lk h),bK,h.gone i hi];rfl
  ·intro hh;have:D.old=[]:=dw (by have:=congrArg List.length hh;simpa[fR] using this);exact h.none this
  ·rw[hal,aU];exact h.n
  ·intro hh;show D.cur<(fR D.seed D.old e.k v).length;rw[show(fR D.seed D.old e.k v).length=D.old.length by simp[fR]];exact h.lt hh
 ·rw[aJ ho]
  have BG:∃ e∈D.aW.flatten,e.k=k:=by
   obtain⟨e,he,hk⟩:=hf
   rcases bj.1 he with h1|h1
   ·exact absurd ((j0 h.nc (lk h) k).2 ⟨e,h1,hk⟩) ho
   ·exact⟨e,h1,hk⟩
  rw[aQ ((j0 h.ox (nf h) k).2 BG)];obtain⟨e,he,rfl⟩:=BG;have hy:D.old.flatten.map (rep e.k v)=D.old.flatten:=mP (fun x hx e2=>hno.2.2 _ (aV.2 ⟨x,hx,rfl⟩) _ (aV.2 ⟨e,he,rfl⟩) e2)
  have hal:({ D with aW:=fR D.seed D.aW e.k v }:DM α).all=D.all.map (rep e.k v):=by unfold DM.all;simp only;rw[ql h.ox (nf h),rT,aZ,hy]
  have hyn:D.aW≠[]:=by rintro e2;rw[e2] at he;simp at he
  refine⟨⟨?_,h.nc,?_,h.gone,?_,?_,?_,?_⟩,hal,rfl⟩
  ·rw[hal,kG];rw[show((fun e=>e.k) ∘ rep e.k v:DE α→ByteArray)=(fun e=>e.k) from funext (fun x=>F5 _ _ x)];exact h.keys
  ·show pR D.seed (fR D.seed D.aW e.k v)
   rw[ql h.ox (nf h)];exact zY h.ox _ _
  ·intro hh;exact absurd (dw (by have:=congrArg List.length hh;simpa[fR] using this)) hyn
  ·intro hh;exact absurd (h.none hh) hyn
  ·rw[hal,aU];exact h.n
  ·intro hh;exact h.lt hyn
theorem DM.lA {D:DM α} (h:D.WF) (tb:Nat):(D.grown tb).WF∧(D.grown tb).all=D.all∧(D.grown tb).seed=D.seed∧(D.grown tb).n=D.n∧(D.grown tb).old≠[]:=by
 unfold DM.grown
 by_cases ho:D.old=[]
 ·rw[aQ ho];have hy:=h.none ho;have hal:({ D with ob:=tb,old:=List.replicate 4 [] }:DM α).all=D.all:=by unfold DM.all;simp[ho]
  refine⟨⟨by rw[hal];exact h.keys,zX _ _,h.ox,?_,h.cur,fun _=>hy,by rw[hal];exact h.n,fun hh=>absurd hy hh⟩,hal,rfl,rfl,by simp⟩;intro i hi;have:i<D.cur:=hi;rw[h.cur hy] at this;omega
 ·rw[aJ ho];split
  ·rename_i hc
   have hal:({ D with yb:=tb,aW:=List.replicate (2*D.old.length) [] }:DM α).all=D.all:=by unfold DM.all;simp[hc.1]
   have hp:0<D.old.length:=bZ.2 ho;refine⟨⟨by rw[hal];exact h.keys,h.nc,zX _ _,h.gone,fun _=>h.cur hc.1,fun e=>absurd e ho,by rw[hal];exact h.n,fun _=>?_⟩,hal,rfl,rfl,ho⟩
   show D.cur<D.old.length
   rw[h.cur hc.1];exact hp
  ·exact⟨h,rfl,rfl,rfl,ho⟩
theorem DM.sY {D:DM α} (h:D.WF) (ho:D.old≠[]) (e:DE α) (hf:∀ x∈D.all,x.k≠e.k):(D.added e).WF∧(D.added e).all.Perm (e::D.all)∧(D.added e).seed=D.seed∧(D.added e).n=D.n+1:=by
 have hk:((e::D.all).map (fun e=>e.k)).Nodup:=by rw[bP,bT];refine⟨fun hm=>?_,h.keys⟩;obtain⟨x,hx,e2⟩:=aV.1 hm;exact hf x hx e2
 unfold DM.added
 by_cases hy:D.aW=[]
 ·rw[aQ hy]
  have hp:({ D with old:=gZ D.seed D.old e,n:=D.n+1 }:DM α).all.Perm (e::D.all):=by unfold DM.all;exact(n9 e ho).append_right _
  refine⟨⟨(hp.map _).symm.nodup hk,uH e h.nc,h.ox,?_,fun _=>h.cur hy,fun e2=>absurd e2 (xR _ _ _ ho),by rw[hp.length_eq];simp[h.n],fun hh=>absurd hy hh⟩,hp,rfl,rfl⟩;intro i hi;have:i<D.cur:=hi;rw[h.cur hy] at this;omega
 ·rw[aJ hy]
  have hp:({ D with aW:=gZ D.seed D.aW e,n:=D.n+1 }:DM α).all.Perm (e::D.all):=by unfold DM.all;refine((n9 e hy).append_left _).trans ?_;exact jh
  exact⟨⟨(hp.map _).symm.nodup hk,h.nc,uH e h.ox,h.gone,fun e2=>absurd e2 (xR _ _ _ hy),fun e2=>absurd e2 ho,by rw[hp.length_eq];simp[h.n],fun _=>h.lt hy⟩,hp,rfl,rfl⟩
theorem DM.mz {D:DM α} (h:D.WF) {k:ByteArray} (v:α) (tb nb:Nat) (hf:∀ e∈D.all,e.k≠k):D.put k v tb nb=(D.grown tb).added ⟨nb,k,v⟩:=by
 unfold DM.put
 rw[aJ (fun h1=>by obtain⟨e,he,e2⟩:=(j0 h.nc (lk h) k).1 h1;exact hf e (bh _ he) e2),
  aJ (fun h1=>by obtain⟨e,he,e2⟩:=(j0 h.ox (nf h) k).1 h1;exact hf e (bA _ he) e2)]
theorem DM.Nv {D:DM α} (h:D.WF) {k:ByteArray} (v:α) (tb nb:Nat) (hf:∀ e∈D.all,e.k≠k):
  (D.put k v tb nb).WF∧(D.put k v tb nb).all.Perm (⟨nb,k,v⟩::D.all)∧(D.put k v tb nb).n=D.n+1:=by
 rw[DM.mz h v tb nb hf];obtain⟨g1,g2,g3,g4,g5⟩:=DM.lA h tb;obtain⟨a1,a2,a3,a4⟩:=DM.sY g1 g5 ⟨nb,k,v⟩ (by rw[g2];exact hf);exact⟨a1,by rw[g2] at a2;exact a2,by rw[a4,g4]⟩
theorem DM.ER (seed:Nat):(DM.new seed:DM α).WF:=by
 refine⟨by simp[DM.new,DM.all],?_,?_,?_,fun _=>rfl,fun _=>rfl,by simp[DM.new,DM.all],fun h=>absurd rfl h⟩
 ·intro i l hi;simp[DM.new] at hi
 ·intro i l hi;simp[DM.new] at hi
 ·intro i hi;simp[DM.new] at hi
end ks
namespace ks
theorem ae {p:Prop} (h:p):Hid p:=h
theorem hlt {w:World} {b:Nat} {o:Obj} (h:w.heap[b]?=some o):b<w.heap.size:=(kx.1 h).1
theorem ah {w:World} {b:Nat} {c:Array Value} {t:TypeId} {fz:Nat×Nat} (h:w.heap[b]?=some (.cells c t fz)) (o:Nat):w.cell? ⟨b,o,none⟩=c[o]?:=by unfold World.cell?;simp only[h];rfl
theorem bC {w:World} {b:Nat} {c:Array Value} {t:TypeId} (h:w.heap[b]?=some (.cells c t (0,0))) (o:Nat):w.frozen? ⟨b,o,none⟩=false:=by unfold World.frozen?;simp only[h];simp
theorem aX {w:World} {b:Nat} {c:Array Value} {t:TypeId} {fz:Nat×Nat} (h:w.heap[b]?=some (.cells c t fz)) (o:Nat) (v:Value):(w.setCell ⟨b,o,none⟩ v).heap[b]?=some (.cells (c.setIfInBounds o v) t fz):=by simp only[World.setCell,jQ,kY,h];rfl
theorem aT {w:World} {b:Nat} {a:Addr} (v:Value) (h:b≠a.block):(w.setCell a v).heap[b]?=w.heap[b]?:=Below.heap_setCell _ _ _ _ h
theorem alloc_old {w:World} {b:Nat} {o:Obj} (x:Obj) (h:w.heap[b]?=some o):(w.alloc x).heap[b]?=some o:=by rw[Below.heap_alloc _ _ _ (hlt h)];exact h
theorem aG (w:World) (x:Obj):(w.alloc x).heap[w.heap.size]?=some x:=iZ w x
structure af (bs:List Nat) (w w':World):Prop where
 os:w'.os=w.os
 tape:w'.tape=w.tape
 output:w'.output=w.output
 size:w.heap.size≤w'.heap.size
 block:∀ k,k<w.heap.size→k∉bs→w'.heap[k]?=w.heap[k]?
namespace af
variable {bs cs:List Nat} {a b c w w':World}
theorem refl (bs:List Nat) (w:World):af bs w w:=⟨rfl,rfl,rfl,aq _,fun _ _ _=>rfl⟩
theorem trans (h:af bs a b) (k:af bs b c):af bs a c:=⟨k.os.trans h.os,k.tape.trans h.tape,k.output.trans h.output,aF h.size k.size,fun i hi hs=>(k.block i (aP hi h.size) hs).trans (h.block i hi hs)⟩
theorem step (h:af bs a b) (k:af cs b c) (hT:∀ k,k∈cs→k∈bs∨a.heap.size≤k):af bs a c:=⟨k.os.trans h.os,k.tape.trans h.tape,k.output.trans h.output,aF h.size k.size,fun i hi hs=>(k.block i (aP hi h.size) (fun hc=>by rcases hT i hc with h1|h1;exact hs h1;omega)).trans (h.block i hi hs)⟩
theorem mono (h:af bs a b) (hT:∀ k,k∈bs→k∈cs):af cs a b:=⟨h.os,h.tape,h.output,h.size,fun i hi ht=>h.block i hi (fun hb=>ht (hT i hb))⟩
theorem drew (h:af bs a b):af bs a b.drew:=⟨h.os,h.tape,h.output,h.size,h.block⟩
theorem drewN (h:af bs a b) (n:Nat):af bs a (b.drewN n):=⟨h.os,h.tape,h.output,h.size,h.block⟩
theorem alloc (h:af bs a b) (o:Obj):af bs a (b.alloc o):=h.trans ⟨rfl,rfl,rfl,by simp,fun k hk _=>Below.heap_alloc _ _ _ hk⟩
theorem setCell (h:af bs a b) {p:Addr} (hp:p.block∈bs∨a.heap.size≤p.block) (u:Value):af bs a (b.setCell p u):=⟨h.os,h.tape,h.output,by simpa[World.setCell] using h.size,fun k hk hs=>(Below.heap_setCell _ _ _ _ (fun e=>by rcases hp with h1|h1;exact hs (e ▸ h1);omega)).trans (h.block k hk hs)⟩
theorem fm (h:Below a.heap.size a b):af bs a b:=⟨h.os,h.tape,h.output,h.size,fun k hk _=>h.block k hk⟩
theorem below (h:af [] a b):Below a.heap.size a b:=⟨h.os,h.tape,h.output,h.size,fun k hk=>h.block k hk (by simp)⟩
theorem ep {B:Nat} (h:af bs a b) (hB:B≤a.heap.size) (hb:∀ k,k∈bs→B≤k):Below B a b:=⟨h.os,h.tape,h.output,h.size,fun k hk=>h.block k (aP hk hB) (fun hm=>by have:=hb k hm;omega)⟩
theorem get (h:af bs a b) {k:Nat} {o:Obj} (hk:a.heap[k]?=some o) (hn:k∉bs):b.heap[k]?=some o:=(h.block k (hlt hk) hn).trans hk
end af
theorem yw {a b:Bool} (h:a=b):Ending.returned (.bool a)=.returned (.bool b):=by rw[h]
theorem ux {a b:ByteArray} (h:a=b):(a.toList == b.toList)=true:=by rw[h];simp
theorem iB {a b:ByteArray} (h:a≠b):(a.toList == b.toList)=false:=by rw[fc,ByteArray.toList_eq,ByteArray.toList_eq];exact fun e=>h (bytes_inj e)
end ks
namespace ks
structure DTy (α:Type) where
 e:Nat
 p:Nat
 d:Nat
 pv:α→List Value
variable {α:Type} (ty:DTy α)
def ptr:List (DE α)→Value
 | []=>.pointer none
 | e::_=>.pointer (some ⟨e.b,0,none⟩)
theorem sw (l:List (DE α)):∃ q,ptr l=.pointer q:=by cases l<;>exact⟨_,rfl⟩
def gG (e:DE α) (nx:Value):Obj:=.cells (.string e.k::(ty.pv e.v++[nx])).toArray ty.e (0,0)
def e9 (w:World):List (DE α)→Prop
 | []=>True
 | e::r=>w.heap[e.b]?=some (gG ty e (ptr r))∧e9 w r
def fJ (tb:Nat) (t:Tab α):Value:=if t=[] then .slice none 0 0 else .slice (some ⟨tb,0,none⟩) t.length t.length
structure TabIs (w:World) (tb:Nat) (t:Tab α):Prop where
 row:t≠[]→w.heap[tb]?=some (.cells (t.map ptr).toArray ty.p (0,0))
 ch:∀ l∈t,e9 ty w l
def cg (tb:Nat) (t:Tab α):List Nat:=(if t=[] then [] else [tb])++t.flatten.map (fun e=>e.b)
def DM.blocks (D:DM α) (db:Nat):List Nat:=db::(cg D.ob D.old++cg D.yb D.aW)
def lq (D:DM α):Obj:=.cells #[.int .u64 D.seed,fJ D.ob D.old,fJ D.yb D.aW,.int .i64 D.cur,.int .i64 D.n] ty.d (0,0)
structure bu (w:World) (db:Nat) (D:DM α):Prop where
 hd:w.heap[db]?=some (lq ty D)
 ho:TabIs ty w D.ob D.old
 hy:TabIs ty w D.yb D.aW
 nd:(D.blocks db).Nodup
 sd:D.seed<18446744073709551616
 ks:∀ e∈D.all,e.k.size≤maxLen
 bo:D.old.length≤17592186044416
 by_:D.aW.length≤17592186044416
 bn:D.n≤8796093022208
variable {ty}
theorem e9.bY {w w':World}:∀ {l:List (DE α)},e9 ty w l→(∀ e∈l,w'.heap[e.b]?=w.heap[e.b]?)→e9 ty w' l
 | [],_,_=>trivial
 | e::r,h,hk=>⟨(hk e (by simp)).trans h.1,h.2.bY (fun x hx=>hk x (by simp[hx]))⟩
theorem gW {tb:Nat} {t:Tab α} {l:List (DE α)} {e:DE α} (hl:l∈t) (he:e∈l):e.b∈cg tb t:=bA _ (aV.2 ⟨e,dM.2 ⟨l,hl,he⟩,rfl⟩)
theorem gQ {tb:Nat} {t:Tab α} (h:t≠[]):tb∈cg tb t:=by unfold cg;rw[aJ h];simp
theorem TabIs.bY {w w':World} {tb:Nat} {t:Tab α} (h:TabIs ty w tb t) (hk:∀ b∈cg tb t,w'.heap[b]?=w.heap[b]?):TabIs ty w' tb t:=⟨fun ht=>(hk tb (gQ ht)).trans (h.row ht),fun l hl=>(h.ch l hl).bY (fun e he=>hk _ (gW hl he))⟩
theorem TabIs.nil (w:World) (tb:Nat):TabIs ty w tb ([]:Tab α):=⟨fun h=>absurd rfl h,fun l hl=>by simp at hl⟩
theorem bu.bY {w w':World} {db:Nat} {D:DM α} (h:bu ty w db D) (hk:∀ b∈D.blocks db,w'.heap[b]?=w.heap[b]?):bu ty w' db D:=⟨(hk db (by simp[DM.blocks])).trans h.hd,h.ho.bY (fun b hb=>hk b (by simp[DM.blocks,hb])),h.hy.bY (fun b hb=>hk b (by simp[DM.blocks,hb])),h.nd,h.sd,h.ks,h.bo,h.by_,h.bn⟩
theorem e9.lt {w:World}:∀ {l:List (DE α)},e9 ty w l→∀ e∈l,e.b<w.heap.size
 | x::r,h,e,he=>by
  rcases bM.1 he with rfl|he
  ·exact hlt h.1
  ·exact h.2.lt e he
theorem TabIs.lt {w:World} {tb:Nat} {t:Tab α} (h:TabIs ty w tb t):∀ b∈cg tb t,b<w.heap.size:=by
 intro b hb;unfold cg at hb
 rcases bj.1 hb with h1|h1
 ·split at h1
  ·simp at h1
  ·rename_i hn;simp at h1;subst h1;exact hlt (h.row hn)
 ·obtain⟨e,he,rfl⟩:=aV.1 h1;obtain⟨l,hl,hel⟩:=dM.1 he;exact(h.ch l hl).lt e hel
theorem bu.lt {w:World} {db:Nat} {D:DM α} (h:bu ty w db D):∀ b∈D.blocks db,b<w.heap.size:=by
 intro b hb;unfold DM.blocks at hb
 rcases bM.1 hb with rfl|hb
 ·exact hlt h.hd
 ·rcases bj.1 hb with h1|h1
  ·exact h.ho.lt b h1
  ·exact h.hy.lt b h1
theorem bu.keeps {w w':World} {db:Nat} {D:DM α} {bs:List Nat} (h:bu ty w db D) (hk:af bs w w') (hb:∀ b∈D.blocks db,b∉bs):bu ty w' db D:=h.bY (fun b hm=>hk.block b (h.lt b hm) (hb b hm))
theorem TabIs.cell {w:World} {tb:Nat} {t:Tab α} (h:TabIs ty w tb t) {i:Nat} {l:List (DE α)} (hl:t[i]?=some l):w.cell? ⟨tb,i,none⟩=some (ptr l):=by
 have hn:t≠[]:=by rintro rfl;simp at hl
 rw[ah (h.row hn),bX,bK,hl];rfl
theorem TabIs.free {w:World} {tb:Nat} {t:Tab α} (h:TabIs ty w tb t) (hn:t≠[]) (i:Nat):w.frozen? ⟨tb,i,none⟩=false:=bC (h.row hn) i
theorem TabIs.FY {w:World} {tb:Nat} {t:Tab α} (h:TabIs ty w tb t) {i:Nat} (hi:i<t.length) (l:List (DE α)) (hl:e9 ty w l) (hb:∀ e∈l,e.b≠tb) (ht:∀ e∈t.flatten,e.b≠tb):
  TabIs ty (w.setCell ⟨tb,i,none⟩ (ptr l)) tb (t.set i l):=by
 have hn:t≠[]:=by rintro rfl;simp at hi
 refine⟨fun _=>?_,fun m hm=>?_⟩
 ·rw[aX (h.row hn)]
  congr 1
  have:(t.map ptr).toArray.setIfInBounds i (ptr l)=((t.set i l).map ptr).toArray:=by
   apply jG
   intro j;rw[fP,bX,bX,bK,bK,dx]
   by_cases hj:i=j
   ·subst hj;simp[hi]
   ·simp[hj]
  rw[this]
 ·rcases pw hm with h1|rfl
  ·exact(h.ch m h1).bY (fun e he=>aT _ (fun e2=>ht e (dM.2 ⟨m,h1,he⟩) e2))
  ·exact hl.bY (fun e he=>aT _ (hb e he))
theorem C7 {w:World} {e:DE α} {nx:Value} (h:w.heap[e.b]?=some (gG ty e nx)) (nv:Value):(w.setCell ⟨e.b,1+(ty.pv e.v).length,none⟩ nv).heap[e.b]?=some (gG ty e nv):=by
 unfold gG at h ⊢;rw[aX h]
 congr 2
 apply jG
 intro j;rw[fP];simp only[bX,cJ,List.length_cons,aM,List.length_nil]
 rcases j with _|j
 ·simp
 ·simp only[List.getElem?_cons_succ]
  by_cases hj:(ty.pv e.v).length=j
  ·subst hj;rw[aQ (by omega),aQ (by omega)];simp
  ·rw[aJ (by omega)]
   by_cases hj2:j<(ty.pv e.v).length
   ·rw[b8 hj2,b8 hj2]
   ·rw[bN (by omega),bN (by omega),bR (by simp;omega),bR (by simp;omega)]
theorem jM {w:World} {e:DE α} {nx:Value} (h:w.heap[e.b]?=some (gG ty e nx)):w.cell? ⟨e.b,1+(ty.pv e.v).length,none⟩=some nx:=by unfold gG at h;rw[ah h,bX,show 1+(ty.pv e.v).length=(ty.pv e.v).length+1 by omega,List.getElem?_cons_succ,bN (by omega)];simp
theorem qs {w:World} {e:DE α} {nx:Value} (h:w.heap[e.b]?=some (gG ty e nx)):w.cell? ⟨e.b,0,none⟩=some (.string e.k):=by unfold gG at h;rw[ah h];rfl
theorem As {w:World} {e:DE α} {nx:Value} (h:w.heap[e.b]?=some (gG ty e nx)) (o:Nat):w.frozen? ⟨e.b,o,none⟩=false:=bC h o
theorem TabIs.gZ {w:World} {tb:Nat} {t:Tab α} (h:TabIs ty w tb t) (hn:t≠[]) (seed:Nat) {e:DE α} {l:List (DE α)} {nx:Value} (hl:t[dQ seed t.length e.k]?=some l) (he:w.heap[e.b]?=some (gG ty e nx))
  (hnd:(e.b::cg tb t).Nodup):
  TabIs ty ((w.setCell ⟨e.b,1+(ty.pv e.v).length,none⟩ (ptr l)).setCell ⟨tb,dQ seed t.length e.k,none⟩ (ptr (e::l))) tb (ks.gZ seed t e):=by
 rw[bT] at hnd;obtain⟨h1,h2⟩:=hnd
 have hbt:tb∉t.flatten.map (fun e=>e.b):=by unfold cg at h2;rw[aJ hn] at h2;exact(bT.1 h2).1
 have hti:∀ b∈cg tb t,(w.setCell ⟨e.b,1+(ty.pv e.v).length,none⟩ (ptr l)).heap[b]?=w.heap[b]?:=fun b hb=>aT _ (fun e2=>h1 (by have e3:b=e.b:=e2;rw[←e3];exact hb))
 have hw1:=h.bY hti
 have hset:ks.gZ seed t e=t.set (dQ seed t.length e.k) (e::l):=by
  unfold ks.gZ
  apply dG
  intro j;rw[fu,dx]
  by_cases hj:dQ seed t.length e.k=j
  ·rw[←hj];simp only[kY,hl,aQ (au.1 hl).1];rfl
  ·simp[hj]
 rw[hset];refine hw1.FY (au.1 hl).1 (e::l) ⟨C7 he _,(h.ch l (aB hl)).bY (fun x hx=>hti _ (gW (aB hl) hx))⟩ (fun x hx e2=>?_) (fun x hx e2=>hbt (aV.2 ⟨x,hx,e2⟩))
 rcases bM.1 hx with rfl|hx
 ·exact h1 (e2 ▸ gQ hn)
 ·exact hbt (aV.2 ⟨x,dM.2 ⟨l,aB hl,hx⟩,e2⟩)
theorem bu.c0 {w:World} {db:Nat} {D:DM α} (h:bu ty w db D):w.cell? ⟨db,0,none⟩=some (.int .u64 D.seed):=by rw[ah h.hd];rfl
theorem bu.c1 {w:World} {db:Nat} {D:DM α} (h:bu ty w db D):w.cell? ⟨db,1,none⟩=some (fJ D.ob D.old):=by rw[ah h.hd];rfl
theorem bu.c2 {w:World} {db:Nat} {D:DM α} (h:bu ty w db D):w.cell? ⟨db,2,none⟩=some (fJ D.yb D.aW):=by rw[ah h.hd];rfl
theorem bu.c3 {w:World} {db:Nat} {D:DM α} (h:bu ty w db D):w.cell? ⟨db,3,none⟩=some (.int .i64 D.cur):=by rw[ah h.hd];rfl
theorem bu.c4 {w:World} {db:Nat} {D:DM α} (h:bu ty w db D):w.cell? ⟨db,4,none⟩=some (.int .i64 D.n):=by rw[ah h.hd];rfl
theorem bu.free {w:World} {db:Nat} {D:DM α} (h:bu ty w db D) (o:Nat):w.frozen? ⟨db,o,none⟩=false:=bC h.hd o
theorem eQ {t:Tab α} (h:t≠[]) (tb:Nat):fJ tb t=.slice (some ⟨tb,0,none⟩) t.length t.length:=aJ h
theorem gj (tb:Nat) (t:Tab α):∃ oa,fJ tb t=.slice oa t.length t.length:=by
 by_cases h:t=[]
 ·subst h;exact⟨none,rfl⟩
 ·exact⟨_,eQ h tb⟩
theorem sB {D:DM α} {db:Nat} (h:(D.blocks db).Nodup):(cg D.ob D.old).Nodup:=(bQ.1 (bT.1 h).2).1
theorem vu {D:DM α} {db:Nat} (h:(D.blocks db).Nodup):(cg D.yb D.aW).Nodup:=(bQ.1 (bT.1 h).2).2.1
end ks
end Go.Proofs.YthpdlidbaojlbaaGreatDoor
