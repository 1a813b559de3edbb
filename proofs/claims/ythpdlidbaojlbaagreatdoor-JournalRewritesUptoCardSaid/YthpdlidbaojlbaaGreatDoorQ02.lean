/- append of at least one element of one cell to a slice of the -/
import Derived.Test.YthpdlidbaojlbaaGreatDoorQ01
set_option linter.unusedVariables false
set_option linter.unusedSimpArgs false
set_option maxHeartbeats 4000000
open Go.ChangeShapes Go.WideShapes Go.ChangeAt Go.RowKit
namespace Go.Proofs.YthpdlidbaojlbaaGreatDoor
namespace ks
variable {α:Type}
theorem lx (tb:Nat):cg tb ([]:Tab α)=[]:=rfl
theorem mw {t:Tab α} (h:t≠[]) (tb:Nat):cg tb t=tb::t.flatten.map (fun e=>e.b):=by unfold cg;rw[aJ h];rfl
theorem jS (tb n:Nat) (h:0<n):cg tb (List.replicate n ([]:List (DE α)))=[tb]:=by rw[mw (by intro e;have:=congrArg List.length e;simp at this;omega)];simp
theorem uV {t s:Tab α} {tb:Nat} {m:List (DE α)} (ht:t≠[]) (hs:s≠[]) (hp:s.flatten.Perm (m++t.flatten)):(cg tb s).Perm (m.map (fun e=>e.b)++cg tb t):=by rw[mw ht,mw hs];have:=hp.map (fun e:DE α=>e.b);rw[aZ] at this;exact(List.Perm.cons tb this).trans jh.symm
theorem DM.lM {D:DM α} (h:D.WF) (hy:D.aW≠[]) (db:Nat):(D.dV.blocks db).Perm (D.blocks db)∧D.dV.aW≠[]:=by
 have hlt:=h.lt hy;have hon:D.old≠[]:=by intro e;rw[e] at hlt;simp at hlt
 by_cases hex:∃ e l,D.old[skip D.old 10 D.cur]?=some (e::l)
 ·obtain⟨e,l,he⟩:=hex;rw[DM.ju he];have hyn:=yX D.seed (e::l) D.aW hy;refine⟨?_,hyn⟩;unfold DM.blocks;refine List.Perm.cons _ ?_;simp only;have hsn:D.old.set (skip D.old 10 D.cur) []≠[]:=by intro e2;have:=congrArg List.length e2;simp at this;exact hon this
  have p1:(cg D.yb (List.foldl (gZ D.seed) D.aW (e::l))).Perm ((e::l).map (fun e=>e.b)++cg D.yb D.aW):=uV hy hyn (kO D.seed (e::l) D.aW hy)
  have p2:(cg D.ob D.old).Perm ((e::l).map (fun e=>e.b)++cg D.ob (D.old.set (skip D.old 10 D.cur) [])):=by refine uV hsn hon ?_;refine(iR _ _ _ he).trans ?_;refine List.Perm.append_left _ ?_;have:=xi D.old _ _ [] he;simpa using this.symm
  refine(p1.append_left _).trans ?_;refine List.Perm.trans ?_ (p2.symm.append_right _);rw[←aD];exact jP.append_right _
 ·rw[DM.oK (fun e l he=>hex ⟨e,l,he⟩)];exact⟨.refl _,hy⟩
theorem DM.lz {D:DM α} (h:D.WF) (db:Nat):∃ x,(D.step.blocks db++x).Perm (D.blocks db):=by
 unfold DM.step
 by_cases hy:D.aW=[]
 ·rw[aQ hy];exact⟨[],by simp⟩
 rw[aJ hy];obtain⟨hp,hyn⟩:=DM.lM h hy db;unfold DM.nG;split
 ·refine⟨cg D.dV.ob D.dV.old,List.Perm.trans ?_ hp⟩;unfold DM.blocks;simp only[lx,cZ,List.cons_append];exact List.Perm.cons _ jP
 ·exact⟨[],by simpa using hp⟩
theorem qR {l x m:List Nat} (h:(l++x).Perm m) (hm:m.Nodup):l.Nodup∧∀ b∈l,b∈m:=⟨(bQ.1 (h.nodup_iff.2 hm)).1,fun b hb=>h.mem_iff.1 (bh _ hb)⟩
theorem tY (seed:Nat) (t:Tab α) (k:ByteArray) (v:α) (tb:Nat):cg tb (fR seed t k v)=cg tb t:=by
 have hc:∀ l:List (DE α),(lR l k v).map (fun e=>e.b)=l.map (fun e=>e.b):=by
  intro l
  induction l with
  | nil=>rfl
  | cons e r ih=>unfold lR;split<;>simp[ih]
 have hf:(fR seed t k v).flatten.map (fun e=>e.b)=t.flatten.map (fun e=>e.b):=by
  rw[qJ,qJ]
  congr 1
  apply dG
  intro i;unfold fR;rw[bK,bK,fu]
  cases t[i]? with
  | none=>simp
  | some l=>
   simp only[Option.map_eq_map,Option.map_some]
   split<;>simp[hc]
 by_cases ht:t=[]
 ·subst ht;simp[fR]
 ·rw[mw ht,mw (by intro e;apply ht;apply dw;have:=congrArg List.length e;simpa[fR] using this),hf]
theorem ns (seed:Nat) {t:Tab α} (e:DE α) (h:t≠[]) (tb:Nat):(cg tb (gZ seed t e)).Perm (e.b::cg tb t):=uV (m:=[e]) h (xR seed t e h) (n9 e h)
theorem DM.mA {D:DM α} {k:ByteArray} (v:α) (tb nb db:Nat) (hf:(D.find k).isSome=true):(D.put k v tb nb).blocks db=D.blocks db:=by
 unfold DM.put;split
 ·unfold DM.blocks;simp only[tY]
 ·split
  ·unfold DM.blocks;simp only[tY]
  ·rename_i h1 h2
   unfold DM.find at hf;simp only[Option.not_isSome_iff_eq_none] at h1 h2;rw[h1,h2] at hf;simp at hf
theorem DM.vE {D:DM α} (tb db:Nat):(D.grown tb).blocks db=D.blocks db∨(D.old≠[]→(D.grown tb).blocks db=(D.blocks db)++[tb])∧(D.old=[]→D.aW=[]→(D.grown tb).blocks db=[db,tb]∧D.blocks db=[db]):=by
 unfold DM.grown
 by_cases ho:D.old=[]
 ·rw[aQ ho];refine .inr ⟨fun h=>absurd ho h,fun _ hy=>⟨?_,?_⟩⟩
  ·unfold DM.blocks;simp only[jS tb 4 (by decide),hy];rfl
  ·unfold DM.blocks;rw[ho,hy];rfl
 ·rw[aJ ho];split
  ·rename_i hc
   refine .inr ⟨fun _=>?_,fun h=>absurd h ho⟩;have hp:0<D.old.length:=bZ.2 ho;unfold DM.blocks;simp only[jS tb (2*D.old.length) (by omega),hc.1,lx];simp
  ·exact .inl rfl
theorem DM.wL {D:DM α} (h:D.WF) (tb db:Nat):∀ b∈(D.grown tb).blocks db,b∈D.blocks db∨b=tb:=by
 rcases DM.vE (D:=D) tb db with e|⟨e1,e2⟩
 ·rw[e];exact fun b hb=>.inl hb
 ·by_cases ho:D.old=[]
  ·obtain⟨e3,e4⟩:=e2 ho (h.none ho);rw[e3,e4];intro b hb;simpa using hb
  ·rw[e1 ho];intro b hb;simpa using hb
theorem DM.oE {D:DM α} (h:D.WF) {k:ByteArray} (v:α) {tb nb db:Nat} (hf:∀ e∈D.all,e.k≠k) (hnd:(D.blocks db).Nodup) (h1:tb∉D.blocks db) (h2:nb∉D.blocks db) (h3:tb≠nb):
  ((D.put k v tb nb).blocks db).Nodup∧∀ b∈(D.put k v tb nb).blocks db,b∈D.blocks db∨b=tb∨b=nb:=by
 rw[DM.mz h v tb nb hf];obtain⟨g1,g2,g3,g4,g5⟩:=DM.lA h tb
 have hg:((D.grown tb).blocks db).Nodup∧∀ b∈(D.grown tb).blocks db,b∈D.blocks db∨b=tb:=by
  rcases DM.vE (D:=D) tb db with e|⟨e1,e2⟩
  ·rw[e];exact⟨hnd,fun b hb=>.inl hb⟩
  ·by_cases ho:D.old=[]
   ·obtain⟨e3,e4⟩:=e2 ho (h.none ho);rw[e3,e4];rw[e4] at h1;refine⟨by simp at h1 ⊢;exact fun e=>h1 e.symm,fun b hb=>?_⟩;simp at hb ⊢;exact hb
   ·rw[e1 ho];refine⟨bQ.2 ⟨hnd,by simp,fun a ha b hb=>?_⟩,fun b hb=>?_⟩
    ·simp at hb;subst hb;rintro rfl;exact h1 ha
    ·simpa using hb
 have hp:(((D.grown tb).added ⟨nb,k,v⟩).blocks db).Perm (nb::(D.grown tb).blocks db):=by
  unfold DM.added;split
  ·rename_i hy
   unfold DM.blocks;simp only;refine(List.Perm.cons db ((ns _ _ g5 _).append_right _)).trans ?_;exact .swap _ _ _
  ·rename_i hy
   unfold DM.blocks;simp only;refine(List.Perm.cons db ((ns _ _ hy _).append_left _)).trans ?_;exact(List.Perm.cons db jh).trans (.swap _ _ _)
 refine⟨hp.nodup_iff.2 (bT.2 ⟨fun hm=>?_,hg.1⟩),fun b hb=>?_⟩
 ·rcases hg.2 nb hm with e|e
  ·exact h2 e
  ·exact h3 e.symm
 ·rcases bM.1 (hp.mem_iff.1 hb) with rfl|hb
  ·exact .inr (.inr rfl)
  ·rcases hg.2 b hb with e|e
   ·exact .inl e
   ·exact .inr (.inl e)
end ks
namespace ks
variable {α:Type} {ty:DTy α}
def wF (ty:DTy α) (e:DE α):Addr:=⟨e.b,1+(ty.pv e.v).length,none⟩
def eU (ty:DTy α) (k:ByteArray):List (DE α)→Addr→Option Addr
 | [],_=>none
 | e::r,a=>if e.k=k then some a else eU ty k r (wF ty e)
def fj (ty:DTy α) (seed tb:Nat) (t:Tab α) (k:ByteArray):Option Addr:=(t[dQ seed t.length k]?).bind (fun l=>eU ty k l ⟨tb,dQ seed t.length k,none⟩)
def DM.ln (ty:DTy α) (D:DM α) (k:ByteArray):Option Addr:=(fj ty D.seed D.ob D.old k).or (fj ty D.seed D.yb D.aW k)
theorem ru {k:ByteArray}:∀ {l:List (DE α)} {a:Addr},eU ty k l a=none↔eF l k=none
 | [],a=>by simp[eU,eF]
 | e::r,a=>by
  unfold eU eF;rw[List.find?_cons]
  by_cases h:e.k=k
  ·simp[h]
  ·simp only[h,sG,decide_false];exact ru
theorem nj {seed tb:Nat} {t:Tab α} {k:ByteArray}:fj ty seed tb t k=none↔fX seed t k=none:=by
 unfold fj fX
 cases t[dQ seed t.length k]? with
 | none=>simp
 | some l=>exact ru
theorem zH {seed tb:Nat} {t:Tab α} {k:ByteArray}:(fj ty seed tb t k).isSome=(fX seed t k).isSome:=by
 cases h:fj ty seed tb t k with
 | none=>rw[nj.1 h];rfl
 | some a=>
  cases h2:fX seed t k with
  | none=>rw[nj.2 h2] at h;cases h
  | some e=>rfl
theorem rr {k:ByteArray}:∀ {l:List (DE α)} {a p:Addr},eU ty k l a=some p→
  ∃ pre e r,l=pre++e::r∧e.k=k∧(∀ x∈pre,x.k≠k)∧eF l k=some e∧((pre=[]∧p=a)∨∃ pre' q,pre=pre'++[q]∧p=wF ty q)
 | [],a,p,h=>by simp[eU] at h
 | e::r,a,p,h=>by
  unfold eU at h
  by_cases hk:e.k=k
  ·rw[aQ hk] at h;obtain rfl:=cK h;exact⟨[],e,r,rfl,hk,fun x hx=>by simp at hx,by unfold eF;rw[List.find?_cons];simp[hk],.inl ⟨rfl,rfl⟩⟩
  ·rw[aJ hk] at h;obtain⟨pre,x,r',rfl,hx,hpre,hfind,hp⟩:=rr h;refine⟨e::pre,x,r',rfl,hx,fun y hy=>?_,?_,.inr ?_⟩
   ·rcases bM.1 hy with rfl|hy
    ·exact hk
    ·exact hpre y hy
   ·unfold eF at hfind ⊢;rw[List.find?_cons];simp only[hk,decide_false];exact hfind
   ·rcases hp with⟨rfl,rfl⟩|⟨pre',q,rfl,rfl⟩
    ·exact⟨[],e,rfl,rfl⟩
    ·exact⟨e::pre',q,rfl,rfl⟩
theorem vN {k:ByteArray} {v:α} {e:DE α} {r:List (DE α)} (hk:e.k=k):∀ {pre:List (DE α)},(∀ x∈pre,x.k≠k)→lR (pre++e::r) k v=pre++{ e with v:=v }::r
 | [],_=>by unfold lR;simp[hk]
 | x::pre,h=>by rw[List.cons_append];unfold lR;rw[aJ (h x (by simp)),vN hk (fun y hy=>h y (by simp[hy]))];rfl
theorem vP {k:ByteArray} {e:DE α} {r:List (DE α)} (hk:e.k=k):∀ {pre:List (DE α)},(∀ x∈pre,x.k≠k)→sU (pre++e::r) k=pre++r
 | [],_=>by unfold sU;simp[hk]
 | x::pre,h=>by rw[List.cons_append];unfold sU;rw[aJ (h x (by simp)),vP hk (fun y hy=>h y (by simp[hy]))];rfl
theorem e9.get {w:World} {e:DE α} {r:List (DE α)}:∀ {pre:List (DE α)},e9 ty w (pre++e::r)→w.heap[e.b]?=some (gG ty e (ptr r))
 | [],h=>h.1
 | x::pre,h=>e9.get h.2
theorem qV {a b:DE α} {r s:List (DE α)} (h:a.b=b.b):∀ pre:List (DE α),ptr (pre++a::r)=ptr (pre++b::s)
 | []=>by simp[ptr,h]
 | x::pre=>rfl
theorem Az {w:World} {e:DE α} {r:List (DE α)} {v:α} {x y:Value} (h1:ty.pv e.v=[x]) (h2:ty.pv v=[y]):∀ {pre:List (DE α)},e9 ty w (pre++e::r)→((pre++e::r).map (fun e=>e.b)).Nodup→
  e9 ty (w.setCell ⟨e.b,1,none⟩ y) (pre++{ e with v:=v }::r)
 | [],h,hn=>by
  rw[List.nil_append,bP,bT] at hn;refine⟨?_,h.2.bY (fun z hz=>aT _ (fun e2=>hn.1 (aV.2 ⟨z,hz,e2⟩)))⟩;have:=h.1;unfold gG at this ⊢;rw[h1] at this;rw[h2]
  show(w.setCell ⟨e.b,1,none⟩ y).heap[e.b]?=_
  rw[aX this];rfl
 | z::pre,h,hn=>by
  rw[List.cons_append,bP,bT] at hn;refine⟨?_,Az h1 h2 h.2 hn.2⟩;have hne:z.b≠e.b:=fun e2=>hn.1 (aV.2 ⟨e,by simp,e2.symm⟩)
  rw[aT _ hne,h.1]
  show some (gG ty z (ptr (pre++e::r)))=some (gG ty z (ptr (pre++{ e with v:=v }::r)))
  rw[qV (a:=e) (b:={ e with v:=v }) rfl]
theorem AA {w:World} {q e:DE α} {r:List (DE α)}:∀ {pre:List (DE α)},e9 ty w (pre++q::e::r)→((pre++q::e::r).map (fun e=>e.b)).Nodup→
  e9 ty (w.setCell (wF ty q) (ptr r)) (pre++q::r)
 | [],h,hn=>by rw[List.nil_append,bP,bT] at hn;refine⟨C7 h.1 _,h.2.2.bY (fun z hz=>aT _ (fun e2=>hn.1 (aV.2 ⟨z,by simp[hz],e2⟩)))⟩
 | z::pre,h,hn=>by
  rw[List.cons_append,bP,bT] at hn;refine⟨?_,AA h.2 hn.2⟩;have hne:z.b≠q.b:=fun e2=>hn.1 (aV.2 ⟨q,by simp,e2.symm⟩)
  rw[aT (b:=z.b) _ hne,h.1]
  show some (gG ty z (ptr (pre++q::e::r)))=some (gG ty z (ptr (pre++q::r)))
  rw[qV (a:=q) (b:=q) rfl]
theorem sA {tb:Nat} {t:Tab α} {l:List (DE α)} (hn:(cg tb t).Nodup) (hl:l∈t):(l.map (fun e=>e.b)).Nodup:=by have h2:(t.flatten.map (fun e=>e.b)).Nodup:=(bQ.1 hn).2.1;exact((oh hl).map _).nodup h2
theorem sl {tb:Nat} {t:Tab α} (hn:(cg tb t).Nodup) (ht:t≠[]):∀ e∈t.flatten,e.b≠tb:=by rw[mw ht,bT] at hn;exact fun e he e2=>hn.1 (aV.2 ⟨e,he,e2⟩)
theorem sx {tb:Nat} {t:Tab α} {i j:Nat} {l m:List (DE α)} (hn:(cg tb t).Nodup) (hi:t[i]?=some l) (hj:t[j]?=some m) (hij:i≠j):∀ e∈l,∀ x∈m,e.b≠x.b:=by
 have h2:(t.flatten.map (fun e=>e.b)).Nodup:=(bQ.1 hn).2.1;have hp:=(iR t i l hi).map (fun e:DE α=>e.b);have h3:=hp.nodup_iff.1 h2;rw[aZ,bQ] at h3;intro e he x hx;refine h3.2.2 _ (aV.2 ⟨e,he,rfl⟩) _ (aV.2 ⟨x,dM.2 ⟨m,?_,hx⟩,rfl⟩)
 by_cases hlt:j<i
 ·exact aB (i:=j) (by rw[jE,aQ hlt];exact hj)
 ·exact aB (i:=j-1) (by rw[jE,aJ (by omega),show j-1+1=j by omega];exact hj)
theorem yJ {β:Type} (t:List β) (i:Nat) (f:β→β) (x:β) (h:t[i]?=some x):t.modify i f=t.set i (f x):=by
 apply dG
 intro j;rw[fu,dx]
 by_cases hj:i=j
 ·rw[←hj,h];simp[(au.1 h).1]
 ·simp[hj]
theorem TabIs.put {w:World} {tb seed:Nat} {t:Tab α} (h:TabIs ty w tb t) (hn:(cg tb t).Nodup) {k:ByteArray} {e:DE α} (hf:fX seed t k=some e) {v:α} {x y:Value} (h1:ty.pv e.v=[x]) (h2:ty.pv v=[y]):
  TabIs ty (w.setCell ⟨e.b,1,none⟩ y) tb (fR seed t k v):=by
 unfold fX at hf
 cases hl:t[dQ seed t.length k]? with
 | none=>rw[hl] at hf;cases hf
 | some l=>
  rw[hl] at hf;simp only[Option.bind_some] at hf;have hml:=aB hl;obtain⟨he,hek⟩:=fL hf;have ht:t≠[]:=by rintro rfl;simp at hl
  have hfr:=sl hn ht;have hne:tb≠e.b:=fun e2=>hfr e (dM.2 ⟨l,hml,he⟩) e2.symm
  unfold fR;rw[yJ _ _ _ _ hl]
  have hex:∃ p,eU ty k l ⟨tb,dQ seed t.length k,none⟩=some p:=by
   cases hh:eU ty k l ⟨tb,dQ seed t.length k,none⟩ with
   | none=>rw[ru.1 hh] at hf;cases hf
   | some p=>exact⟨p,rfl⟩
  obtain⟨p,hp⟩:=hex;obtain⟨pre,e',r,rfl,hk',hpre,hf',_⟩:=rr hp;rw[hf'] at hf;obtain rfl:=cK hf;rw[vN hk' hpre];refine⟨fun _=>?_,fun m hm=>?_⟩
  ·rw[aT _ hne,h.row ht]
   congr 3
   apply dG
   intro j;rw[bK,bK,dx]
   by_cases hj:dQ seed t.length k=j
   ·rw[←hj,hl,aQ rfl,aQ (au.1 hl).1];simp only[Option.map_some];rw[qV (a:=e') (b:={ e' with v:=v }) rfl]
   ·rw[aJ hj]
  ·rcases ir.1 hm with⟨j,hj⟩
   rw[dx] at hj
   by_cases hij:dQ seed t.length k=j
   ·rw[aQ hij] at hj
    split at hj
    ·obtain rfl:=cK hj;exact Az h1 h2 (h.ch _ hml) (sA hn hml)
    ·cases hj
   ·rw[aJ hij] at hj;exact(h.ch _ (aB hj)).bY (fun z hz=>aT _ (sx hn hj hl (fun e2=>hij e2.symm) z hz e' (by simp)))
theorem TabIs.del {w:World} {tb seed:Nat} {t:Tab α} (h:TabIs ty w tb t) (hn:(cg tb t).Nodup) {k:ByteArray} {p:Addr} (hp:fj ty seed tb t k=some p):
  ∃ e r,fX seed t k=some e∧w.heap[e.b]?=some (gG ty e (ptr r))∧w.cell? p=some (ptr (e::r))∧w.frozen? p=false∧p.block∈cg tb t∧e.b∈cg tb t∧TabIs ty (w.setCell p (ptr r)) tb (JE seed t k):=by
 unfold fj at hp
 cases hl:t[dQ seed t.length k]? with
 | none=>rw[hl] at hp;cases hp
 | some l=>
  rw[hl] at hp;simp only[Option.bind_some] at hp;have hml:=aB hl;obtain⟨pre,e,r,rfl,hk,hpre,hf,hpa⟩:=rr hp;have ht:t≠[]:=by rintro rfl;simp at hl
  have hfr:=sl hn ht;have hch:=h.ch _ hml;have htf:fX seed t k=some e:=by unfold fX;rw[hl];exact hf
  unfold JE;rw[yJ _ _ _ _ hl,vP hk hpre];refine⟨e,r,htf,hch.get,?_⟩
  rcases hpa with⟨rfl,rfl⟩|⟨pre',q,rfl,rfl⟩
  ·refine⟨h.cell hl,h.free ht _,gQ ht,gW hml (by simp),?_⟩;exact h.FY (au.1 hl).1 r hch.2 (fun x hx=>hfr x (dM.2 ⟨_,hml,by simp[hx]⟩)) hfr
  ·have hq:w.heap[q.b]?=some (gG ty q (ptr (e::r))):=by have h2:=hch;rw[aD] at h2;exact e9.get h2
   refine⟨jM hq,As hq _,gW hml (by simp),gW hml (by simp),?_⟩;have hne:tb≠q.b:=fun e2=>hfr q (dM.2 ⟨_,hml,by simp⟩) e2.symm
   refine⟨fun _=>?_,fun m hm=>?_⟩
   ·rw[aT (b:=tb) _ hne,h.row ht]
    congr 3
    apply dG
    intro j;rw[bK,bK,dx]
    by_cases hj:dQ seed t.length k=j
    ·rw[←hj,hl,aQ rfl,aQ (au.1 hl).1];simp only[Option.map_some];rw[aD,aD];exact congrArg some (qV (a:=q) (b:=q) rfl pre')
    ·rw[aJ hj]
   ·rcases ir.1 hm with⟨j,hj⟩
    rw[dx] at hj
    by_cases hij:dQ seed t.length k=j
    ·rw[aQ hij] at hj
     split at hj
     ·obtain rfl:=cK hj;have h2:=hch;rw[aD] at h2;have h3:=sA hn hml;rw[aD] at h3;rw[aD];exact AA h2 h3
     ·cases hj
    ·rw[aJ hij] at hj;exact(h.ch _ (aB hj)).bY (fun z hz=>aT _ (sx hn hj hl (fun e2=>hij e2.symm) z hz q (by simp)))
theorem TabIs.at {w:World} {tb seed:Nat} {t:Tab α} (h:TabIs ty w tb t) (hn:(cg tb t).Nodup) {k:ByteArray} {p:Addr} (hp:fj ty seed tb t k=some p):
  ∃ e r,fX seed t k=some e∧w.heap[e.b]?=some (gG ty e (ptr r))∧w.cell? p=some (ptr (e::r))∧p.block∈cg tb t∧e.b∈cg tb t:=by
 obtain⟨e,r,h1,h2,h3,_,h4,h5,_⟩:=h.del hn hp;exact⟨e,r,h1,h2,h3,h4,h5⟩
end ks
namespace ks
variable {α:Type} {ty:DTy α}
def L8 (l:List (DE α)):List Nat:=l.map (fun e=>e.b)
theorem lF {t s:Tab α} (h:t.length=s.length) (tb:Nat):fJ tb t=fJ tb s:=by
 unfold fJ
 by_cases ht:t=[]
 ·subst ht;have:s=[]:=dw h.symm;rw[this]
 ·have hs:s≠[]:=by rintro rfl;exact ht (dw h)
  rw[aJ ht,aJ hs,h]
structure Mid (ty:DTy α) (w1 w:World) (D:DM α) (c pre suf:List (DE α)):Prop where
 eq:c=pre++suf
 y:TabIs ty w D.yb (pre.foldl (gZ D.seed) D.aW)
 ch:e9 ty w suf
 k:af (L8 c++[D.yb]) w1 w
section
variable {w1 w w2:World} {db:Nat} {D:DM α} {c pre r:List (DE α)} {e:DE α}
theorem tD (hc:D.old[D.cur]?=some c) {x:DE α} (hx:x∈c):x.b∈cg D.ob D.old:=gW (aB hc) hx
theorem wG (h:bu ty w1 db D) (hc:D.old[D.cur]?=some c):Mid ty w1 w1 D c [] c:=⟨rfl,h.hy,h.ho.ch c (aB hc),af.refl _ _⟩
theorem xY (hy:D.aW≠[]):D.yb∈cg D.yb D.aW:=gQ hy
theorem kB (h:bu ty w1 db D) {b:Nat} (h1:b∈cg D.ob D.old):b∉cg D.yb D.aW:=by have:=(bQ.1 (bT.1 h.nd).2).2.2;exact fun h2=>this b h1 b h2 rfl
theorem jN (h:bu ty w1 db D):db∉cg D.ob D.old∧db∉cg D.yb D.aW:=by have:=(bT.1 h.nd).1;exact⟨fun h1=>this (bh _ h1),fun h1=>this (bA _ h1)⟩
theorem OC (h:bu ty w1 db D) (hc:D.old[D.cur]?=some c):(L8 c).Nodup:=sA (sB h.nd) (aB hc)
theorem ri (h:bu ty w1 db D) (hy:D.aW≠[]) (hc:D.old[D.cur]?=some c) (m:Mid ty w1 w D c pre (e::r)):
  (e.b::cg D.yb (pre.foldl (gZ D.seed) D.aW)).Nodup∧(∀ x∈r,x.b≠e.b∧x.b≠D.yb)∧pre.foldl (gZ D.seed) D.aW≠[]:=by
 have hyn:=yX D.seed pre D.aW hy;have hp:(cg D.yb (pre.foldl (gZ D.seed) D.aW)).Perm (L8 pre++cg D.yb D.aW):=uV hy hyn (kO D.seed pre D.aW hy);have hcn:=OC h hc;rw[m.eq] at hcn;unfold L8 at hcn;rw[aZ,bP,bQ,bT] at hcn;obtain⟨n1,⟨n2,n3⟩,n4⟩:=hcn;have hec:e∈c:=by rw[m.eq];simp
 refine⟨bT.2 ⟨fun hm=>?_,hp.nodup_iff.2 (bQ.2 ⟨n1,vu h.nd,fun a ha b hb=>?_⟩)⟩,fun x hx=>⟨fun e2=>n2 (aV.2 ⟨x,hx,e2⟩),fun e2=>?_⟩,hyn⟩
 ·rcases bj.1 (hp.mem_iff.1 hm) with h1|h1
  ·exact n4 _ h1 _ (List.mem_cons_self ..) rfl
  ·exact kB h (tD hc hec) h1
 ·rintro rfl;obtain⟨x,hx,rfl⟩:=aV.1 ha;exact kB h (tD hc (by rw[m.eq];simp[hx])) hb
 ·have hxc:x∈c:=by rw[m.eq];simp[hx]
  exact kB h (tD hc hxc) (e2 ▸ xY hy)
theorem yK (h:bu ty w1 db D) (hy:D.aW≠[]) (hc:D.old[D.cur]?=some c) (m:Mid ty w1 w D c pre (e::r))
  (ht:TabIs ty w2 D.yb (gZ D.seed (pre.foldl (gZ D.seed) D.aW) e)) (hk:af [e.b,D.yb] w w2):Mid ty w1 w2 D c (pre++[e]) r:=by
 obtain⟨_,hr,_⟩:=ri h hy hc m;refine⟨by rw[m.eq];simp,by rw[iK,List.foldl_cons,List.foldl_nil];exact ht,m.ch.2.bY (fun x hx=>?_),m.k.trans (hk.mono (fun b hb=>?_))⟩
 ·refine hk.block _ (m.ch.2.lt x hx) (fun hm=>?_);simp at hm
  rcases hm with e2|e2
  ·exact(hr x hx).1 e2
  ·exact(hr x hx).2 e2
 ·simp at hb
  rcases hb with rfl|rfl
  ·exact bh _ (aV.2 ⟨e,by rw[m.eq];simp,rfl⟩)
  ·simp
theorem oL (h:bu ty w1 db D) (hy:D.aW≠[]) (hc:D.old[D.cur]?=some c) {suf:List (DE α)} (m:Mid ty w1 w D c pre suf):w.heap[db]?=some (lq ty D):=by
 refine m.k.get h.hd (fun hm=>?_)
 rcases bj.1 hm with h1|h1
 ·obtain⟨x,hx,e2⟩:=aV.1 h1;exact(jN h).1 (e2 ▸ tD hc hx)
 ·simp at h1;exact(jN h).2 (h1 ▸ xY hy)
theorem xO (h:bu ty w1 db D) (hy:D.aW≠[]) (hc:D.old[D.cur]?=some c) {suf:List (DE α)} (m:Mid ty w1 w D c pre suf):w.heap[D.ob]?=some (.cells (D.old.map ptr).toArray ty.p (0,0)):=by
 have hon:D.old≠[]:=by intro e;rw[e] at hc;simp at hc
 refine m.k.get (h.ho.row hon) (fun hm=>?_)
 rcases bj.1 hm with h1|h1
 ·obtain⟨x,hx,e2⟩:=aV.1 h1;exact sl (sB h.nd) hon x (dM.2 ⟨c,aB hc,hx⟩) e2
 ·simp at h1;exact kB h (gQ hon) (h1 ▸ xY hy)
theorem Bn (h:bu ty w1 db D) (hwf:D.WF) (hy:D.aW≠[]) (hc:D.old[D.cur]?=some c) (hcn:c≠[]) (m:Mid ty w1 w D c c []) (hsk:skip D.old 10 D.cur=D.cur):
  bu ty ((w.setCell ⟨D.ob,D.cur,none⟩ (.pointer none)).setCell ⟨db,3,none⟩ (.int .i64 ((D.cur+1:Nat):Int))) db D.dV∧
  af (D.blocks db) w1 ((w.setCell ⟨D.ob,D.cur,none⟩ (.pointer none)).setCell ⟨db,3,none⟩ (.int .i64 ((D.cur+1:Nat):Int))):=by
 have hon:D.old≠[]:=by intro e;rw[e] at hc;simp at hc
 have hlt:=(au.1 hc).1
 have hmv:D.dV={ D with old:=D.old.set D.cur [],aW:=c.foldl (gZ D.seed) D.aW,cur:=D.cur+1 }:=by
  cases c with
  | nil=>exact absurd rfl hcn
  | cons e l=>have:=DM.ju (D:=D) (e:=e) (l:=l) (by rw[hsk];exact hc);rw[this,hsk]
 have hrow:=xO h hy hc m;have hhd:=oL h hy hc m;have hdo:db≠D.ob:=fun e2=>(jN h).1 (e2 ▸ gQ hon)
 have hyo:∀ b,b∈cg D.yb D.dV.aW→b≠D.ob∧b≠db:=by
  intro b hb;rw[hmv] at hb;have hyn:=yX D.seed c D.aW hy;have hp:(cg D.yb (c.foldl (gZ D.seed) D.aW)).Perm (L8 c++cg D.yb D.aW):=uV hy hyn (kO D.seed c D.aW hy)
  rcases bj.1 (hp.mem_iff.1 hb) with h1|h1
  ·obtain⟨x,hx,rfl⟩:=aV.1 h1;exact⟨sl (sB h.nd) hon x (dM.2 ⟨c,aB hc,hx⟩),fun e2=>(jN h).1 (e2 ▸ tD hc hx)⟩
  ·exact⟨fun e2=>kB h (gQ hon) (e2 ▸ h1),fun e2=>(jN h).2 (e2 ▸ h1)⟩
 have hother:∀ l∈D.old.set D.cur [],e9 ty w l∧∀ x∈l,x.b≠D.ob∧x.b≠db:=by
  intro l hl
  rcases ir.1 hl with⟨j,hj⟩
  rw[dx] at hj
  by_cases hij:D.cur=j
  ·rw[aQ hij] at hj
   obtain rfl:[]=l:=by rw[aQ hlt] at hj;exact cK hj
   exact⟨trivial,fun x hx=>by simp at hx⟩
  ·rw[aJ hij] at hj;have hlm:=aB hj;refine⟨(h.ho.ch l hlm).bY (fun x hx=>?_),fun x hx=>⟨sl (sB h.nd) hon x (dM.2 ⟨l,hlm,hx⟩),fun e2=>(jN h).1 (e2 ▸ gW hlm hx)⟩⟩;refine m.k.block _ ((h.ho.ch l hlm).lt x hx) (fun hm=>?_)
   rcases bj.1 hm with h1|h1
   ·obtain⟨z,hz,e2⟩:=aV.1 h1;exact sx (sB h.nd) hj hc (fun e3=>hij e3.symm) x hx z hz e2.symm
   ·simp at h1;exact kB h (gW hlm hx) (h1 ▸ xY hy)
 obtain⟨hbp,hmy⟩:=DM.lM hwf hy db;refine⟨⟨?_,⟨fun _=>?_,fun l hl=>?_⟩,?_,hbp.nodup_iff.2 h.nd,?_,?_,?_,?_,?_⟩,?_⟩
 ·have h1:(w.setCell ⟨D.ob,D.cur,none⟩ (.pointer none)).heap[db]?=some (lq ty D):=by rw[aT _ hdo];exact hhd
  rw[hmv];unfold lq at h1 ⊢;rw[aX h1];simp only;rw[lF (t:=D.old.set D.cur []) (s:=D.old) (by simp),lF (t:=c.foldl (gZ D.seed) D.aW) (s:=D.aW) (gF _ _ _)];rfl
 ·rw[hmv];simp only;rw[aT (b:=D.ob) _ (fun e2=>hdo e2.symm),aX hrow]
  congr 2
  apply jG
  intro j;rw[fP,bX,bX,bK,bK,dx]
  by_cases hj:D.cur=j
  ·rw[←hj];simp[hlt,ptr]
  ·simp[hj]
 ·rw[hmv] at hl;obtain⟨h1,h2⟩:=hother l hl;exact h1.bY (fun x hx=>by rw[aT (b:=x.b) _ (h2 x hx).2,aT (b:=x.b) _ (h2 x hx).1])
 ·have BG:TabIs ty w D.yb D.dV.aW:=by rw[hmv];exact m.y
  have hyb:D.dV.yb=D.yb:=by rw[hmv]
  rw[hyb];exact BG.bY (fun b hb=>by rw[aT (b:=b) _ (hyo b hb).2,aT (b:=b) _ (hyo b hb).1])
 ·rw[hmv];exact h.sd
 ·intro x hx;exact h.ks x ((DM.jn hwf hy).2.2.2.1.mem_iff.1 hx)
 ·rw[(DM.jn hwf hy).2.1];exact h.bo
 ·rw[(DM.jn hwf hy).2.2.1];exact h.by_
 ·rw[(DM.jn hwf hy).2.2.2.2.2.2.2.1];exact h.bn
 ·refine((m.k.mono (fun b hb=>?_)).setCell (p:=⟨D.ob,D.cur,none⟩) (.inl ?_) _).setCell (p:=⟨db,3,none⟩) (.inl (by simp[DM.blocks])) _
  ·rcases bj.1 hb with h1|h1
   ·obtain⟨z,hz,rfl⟩:=aV.1 h1;exact bO _ (bh _ (tD hc hz))
   ·simp at h1;subst h1;exact bO _ (bA _ (xY hy))
  ·exact bO _ (bh _ (gQ hon))
theorem BS (h:bu ty w db D) (j:Nat):bu ty (w.setCell ⟨db,3,none⟩ (.int .i64 (j:Int))) db { D with cur:=j }:=by refine⟨?_,h.ho.bY (fun b hb=>aT _ (fun e2=>(jN h).1 (by have e3:b=db:=e2;rw[←e3];exact hb))),h.hy.bY (fun b hb=>aT _ (fun e2=>(jN h).2 (by have e3:b=db:=e2;rw[←e3];exact hb))),h.nd,h.sd,h.ks,h.bo,h.by_,h.bn⟩;have:=h.hd;unfold lq at this ⊢;rw[aX this];rfl
theorem yi (h:bu ty w db D) (hy:D.aW≠[]):
  bu ty (((w.setCell ⟨db,1,none⟩ (fJ D.yb D.aW)).setCell ⟨db,2,none⟩ (.slice none 0 0)).setCell ⟨db,3,none⟩ (.int .i64 0)) db { D with ob:=D.yb,old:=D.aW,yb:=0,aW:=[],cur:=0 }:=by
 have hk:∀ b∈cg D.yb D.aW,(((w.setCell ⟨db,1,none⟩ (fJ D.yb D.aW)).setCell ⟨db,2,none⟩ (.slice none 0 0)).setCell ⟨db,3,none⟩ (.int .i64 0)).heap[b]?=w.heap[b]?:=by
  intro b hb;have hne:b≠db:=fun e2=>(jN h).2 (e2 ▸ hb)
  rw[aT (b:=b) _ hne,aT (b:=b) _ hne,aT (b:=b) _ hne]
 refine⟨?_,h.hy.bY hk,TabIs.nil _ _,?_,h.sd,fun x hx=>h.ks x ?_,h.by_,by simp,h.bn⟩
 ·have:=h.hd;unfold lq at this ⊢;rw[aX (aX (aX this 1 _) 2 _) 3 _];rfl
 ·have:=h.nd;unfold DM.blocks at this ⊢;simp only[lx,cZ];rw[bT,bQ] at this;rw[bT];exact⟨fun hm=>this.1 (bA _ hm),this.2.2.1⟩
 ·unfold DM.all at hx ⊢;simp only[List.flatten_nil,cZ] at hx;exact bA _ hx
end
end ks
end Go.Proofs.YthpdlidbaojlbaaGreatDoor
namespace Go.Proofs.YthpdlidbaojlbaaGreatDoor
namespace jr
theorem jk {p:Prop} (h:p):Hid p:=h
def Y9 (w:World) (x:Value) (ss:List ByteArray):Prop:=∃ a cap,x=.slice a ss.length cap∧(0<ss.length→∃ g off,a=some ⟨g,off,none⟩∧∀ i,i<ss.length→w.cell? ⟨g,off+i,none⟩=some (.string (ss.getD i ByteArray.empty)))
def SN (w:World) (x:Value) (ll:List (List ByteArray)):Prop:=∃ a cap,x=.slice a ll.length cap∧(0<ll.length→∃ g off,a=some ⟨g,off,none⟩∧∀ i,i<ll.length→∃ y,w.cell? ⟨g,off+i,none⟩=some y∧Y9 w y (ll.getD i []))
set_option maxRecDepth 100000 in
theorem JN (ll:List (List ByteArray)) (x y:Value) (w:World) (hx:SN w x ll) (hy:SN w y ll) (hn:ll.length≤9223372036854775806) (hm:∀ l∈ll,l.length≤9223372036854775806):
  Calls Tryz.prog 7 #[x,y] w fun e w'=>e=.returned (.bool true)∧∃ n,w'=w.drewN n:=by
 obtain⟨a,cap,rfl,ha⟩:=hx;obtain⟨b,cap',rfl,hb⟩:=hy;obtain⟨n,hnn⟩:∃ n,ll.length=n:=⟨_,rfl⟩;rw[hnn] at ha hb hn ⊢;have HA:=jk ha;have HB:=jk hb;have HN:=jk hnn;have HM:=jk hm;clear ha hb hnn hm;go_enter Tryz.func7,Tryz.ntmps7
 go_wp2
 go_loopw [14,5,6] (fun i _ _ wr=>∃ (k j:Nat),i=.int .i64 k∧k≤n∧wr=w.drewN j) (fun i _ _ _=>n-(intOf i).toNat)
 case atStart=>exact⟨0,0,rfl,by omega,rfl⟩
 case round=>
  obtain⟨k,j,rfl,hk,rfl⟩:=hrel
  by_cases hlt:k<n
  ·obtain⟨g,off,ea,hca⟩:=HA.out (by omega);obtain⟨g',off',eb,hcb⟩:=HB.out (by omega);subst ea;subst eb;obtain⟨u,hu,a1,c1,rfl,h1⟩:=hca k hlt;obtain⟨u',hu',a2,c2,rfl,h2⟩:=hcb k hlt;obtain⟨m,hmm⟩:∃ m,(ll.getD k []).length=m:=⟨_,rfl⟩
   have hm1:m≤9223372036854775806:=by rw[←hmm];refine HM.out _ ?_;rw[az,ag (by rw[HN.out];exact hlt)];simp
   rw[hmm] at hu hu' h1 h2;have H1:=jk h1;have H2:=jk h2;have VI:=jk hmm;clear h1 h2 hmm hca hcb;have hlt':(k:Int)<(n:Int):=by omega
   go_wp2
   go_quiet (fail)
   go_wp2
   go_loopw [33] (fun i wr=>∃ (q j:Nat),i=.int .i64 q∧q≤m∧wr=w.drewN j) (fun i _=>m-(intOf i).toNat)
   case atStart=>exact⟨0,_,rfl,by omega,rfl⟩
   case round=>
    obtain⟨q,j',rfl,hq,rfl⟩:=hrel
    by_cases hlq:q<m
    ·obtain⟨g1,off1,e1,hc1⟩:=H1.out (by omega);obtain⟨g2,off2,e2,hc2⟩:=H2.out (by omega);subst e1;subst e2;have hs1:=hc1 q hlq;have hs2:=hc2 q hlq;obtain⟨s,hs⟩:∃ s,(ll.getD k []).getD q ByteArray.empty=s:=⟨_,rfl⟩;rw[hs] at hs1 hs2;clear hs hc1 hc2;have X8:(q:Int)<(m:Int):=by omega
     go_wp2
     go_quiet (fail)
     go_wp2
     go_roundw
     case rel=>exact⟨q+1,_,by go_num,by omega,rfl⟩
     case measure=>simp[intOf];omega
    ·go_wp2
     go_roundw
     case rel=>exact⟨k+1,_,by go_num,by omega,rfl⟩
     case measure=>simp[intOf];omega
  ·go_wp2
   go_ret;exact⟨rfl,_,rfl⟩
structure Kept (S:Nat→Prop) (w w':World):Prop where
 os:w'.os=w.os
 tape:w'.tape=w.tape
 output:w'.output=w.output
 size:w.heap.size≤w'.heap.size
 block:∀ k,k<w.heap.size→S k→w'.heap[k]?=w.heap[k]?
namespace Kept
variable {S T:Nat→Prop} {a b c w w':World}
theorem refl (S:Nat→Prop) (w:World):Kept S w w:=⟨rfl,rfl,rfl,aq _,fun _ _ _=>rfl⟩
theorem trans (h:Kept S a b) (k:Kept S b c):Kept S a c:=⟨k.os.trans h.os,k.tape.trans h.tape,k.output.trans h.output,aF h.size k.size,fun i hi hs=>(k.block i (aP hi h.size) hs).trans (h.block i hi hs)⟩
theorem mono (h:Kept S a b) (hT:∀ k,k<a.heap.size→T k→S k):Kept T a b:=⟨h.os,h.tape,h.output,h.size,fun i hi ht=>h.block i hi (hT i hi ht)⟩
theorem step (h:Kept S a b) (k:Kept T b c) (hT:∀ k,k<a.heap.size→S k→T k):Kept S a c:=⟨k.os.trans h.os,k.tape.trans h.tape,k.output.trans h.output,aF h.size k.size,fun i hi hs=>(k.block i (aP hi h.size) (hT i hi hs)).trans (h.block i hi hs)⟩
theorem alloc (h:Kept S a b) (o:Obj):Kept S a (b.alloc o):=h.trans ⟨rfl,rfl,rfl,by simp,fun k hk _=>Below.heap_alloc _ _ _ hk⟩
theorem setCell (h:Kept S a b) {p:Addr} (hp:p.block<a.heap.size→¬S p.block) (u:Value):Kept S a (b.setCell p u):=⟨h.os,h.tape,h.output,by simpa[World.setCell] using h.size,fun k hk hs=>(Below.heap_setCell _ _ _ _ (fun e=>hp (e ▸ hk) (e ▸ hs))).trans (h.block k hk hs)⟩
theorem grown {row:Option Nat} (h:Kept S a b) (hg:b.grownBy c row) (hr:∀ k,row=some k→k<a.heap.size→¬S k):Kept S a c:=⟨hg.os.trans h.os,hg.tape.trans h.tape,hg.output.trans h.output,aF h.size hg.size,fun k hk hs=>(hg.block k (aP hk h.size) (fun e=>hr k e.symm hk hs)).trans (h.block k hk hs)⟩
end Kept
theorem tO (W:World) (cs:List Value) (t:TypeId):∀ j u,cs[j]?=some u→(W.alloc (.cells cs.toArray t)).cell? ((⟨W.heap.size,0,none⟩:Addr).add j)=some u:=by
 intro j u hu;have hadd:(⟨W.heap.size,0,none⟩:Addr).add j=⟨W.heap.size,j,none⟩:=by unfold Addr.add;split<;>simp_all
 rw[hadd];unfold World.cell?;rw[show(W.alloc (.cells cs.toArray t)).heap[W.heap.size]?=some _ from iZ W _];simpa using hu
theorem nX {S:Nat→Prop} {a b:World} (h:Kept S a b) {base:Nat} {e:TypeId} {size:Nat} {v:Value} {n:Nat} {xs:List Value} (ho:a.ownsRow base e size v n xs) (hs:∀ k,v.ownBlock=some k→S k):b.ownsRow base e size v n xs:=by
 refine⟨ho.1,?_⟩
 rcases ho.2 with hn|⟨g,cap,cur,rfl,hb,hgg,rest⟩
 ·exact .inl hn
 ·refine .inr ⟨g,cap,cur,rfl,hb,?_,rest⟩;rw[h.block g (kx.1 hgg).1 (hs g rfl)];exact hgg
theorem Up:(Tryz.prog.info? 9).map (fun i=>(i.zero,i.size,i.bytes))=some (some (.string ByteArray.empty),1,16):=by kernel_rfl
theorem RE:(Tryz.prog.info? 32).map (fun i=>(i.zero,i.size,i.bytes))=some (some (.slice none 0 0),1,24):=by kernel_rfl
theorem Ae {w:World} {base:Nat} {e:TypeId} {g n cap:Nat} {xs:List Value} (ho:w.ownsRow base e 1 (.slice (some ⟨g,0,none⟩) n cap) n xs) (h:0<n):∃ c,w.cell? ⟨g,0,none⟩=some c:=by rw[ho.cellAt 0 (by omega)];exact⟨_,ag (by rw[ho.1];omega)⟩
def VX (S:Nat→Prop) (w:World) (e:Ending) (w':World):Prop:=e=.returned (.tuple #[])∧Kept S w w'
end jr
namespace jr
section
variable {P:Program} (w:World)
theorem A7 (base:Nat) (t ty e:TypeId) (i:TypeInfo) (z:Value) (bytes:Nat) (ht:P.underlying t=some (.slice e)) (hi:P.info? e=some i) (hz:i.zero=some z)
  (hsize:i.size=1) (hby:i.bytes=bytes) (hzs:z.cells.size=1)
  (v:Value) (n:Nat) (xs:List Value) (hown:w.ownsRow base e 1 v n xs)
  (a:Addr) (m c:Nat) (news:List Value) (hl:news.length=m) (hm:0<m) (hnews:∀ j u,news[j]?=some u→w.cell? (a.add j)=some u) (h1:∀ u∈news,u.oneCell'=true)
  (h63:n+m≤maxLen) (hbytes:(n+m)*bytes≤140737488355328) (hbase:base≤w.heap.size):
  ∃ g2 cap2 w',(Builtin.append_ #[t,t] ty #[v,.slice (some a) m c]).run P w=.ok (.slice (some ⟨g2,0,none⟩) (n+m) cap2) w'∧
   w'.ownsRow base e 1 (.slice (some ⟨g2,0,none⟩) (n+m) cap2) (n+m) (xs++news)∧w.grownBy w' v.ownBlock∧(v.ownBlock=some g2∨(w.heap.size≤g2∧w.grownBy w' none)):=by
 have hl1:news.length=m*1:=by omega
 obtain⟨v',w',hr,ho,hg,hn⟩:=run_append_own (P:=P) w base t ty e i z 1 bytes ht hi hz hsize hby hzs (by decide) v n xs hown a m c news hl1 hnews h1 h63 hbytes hbase;have hsmall:n+m≤9223372036854775807:=by simp only[maxLen] at h63;omega
 rcases hown.2 with⟨rfl,rfl⟩|⟨g,cap,cur,rfl,hbg,hgg,hnc,hcm,hcs,htake⟩
 ·have hr2:=oB (P:=P) w t ty e i z ht hi hz a m c news (by rw[hsize];exact hl1) hnews hm (by omega) (by rw[hby];have hb:=hbytes;simp only[bD] at hb;omega);rw[hr] at hr2;simp only[jJ] at hr2;obtain⟨rfl,rfl⟩:=hr2;refine⟨_,_,_,by simpa using hr,by simpa using ho,hg,.inr ⟨aq _,⟨rfl,rfl,rfl,by simp,fun k hk _=>Below.heap_alloc w.drew _ k hk⟩⟩⟩
 ·by_cases hroom:n+m≤cap
  ·have hr2:=run_append_room (P:=P) w t ty e i ht hi g n cap cur hgg a m c news (by rw[hsize];exact hl1) hnews h1 hroom (by rw[hsize];omega);rw[hr] at hr2;simp only[jJ] at hr2;obtain⟨rfl,rfl⟩:=hr2;exact⟨_,_,_,hr,ho,hg,.inl rfl⟩
  ·have holds:∀ j u,xs[j]?=some u→w.cell? ((⟨g,0,none⟩:Addr).add j)=some u:=hown.cells (g:=g) rfl;have hr2:=nH (P:=P) w t ty e i z ht hi hz ⟨g,0,none⟩ n cap xs (by rw[hsize];exact hown.1) holds a m c news (by rw[hsize];exact hl1) hnews (by omega) (by omega) (by rw[hby];exact sL (by omega) hbytes);rw[hr] at hr2;simp only[jJ] at hr2;obtain⟨rfl,rfl⟩:=hr2;exact⟨_,_,_,hr,ho,hg,.inr ⟨aq _,⟨rfl,rfl,rfl,by simp,fun k hk _=>Below.heap_alloc w.drew _ k hk⟩⟩⟩
theorem mq {ops:Array Oper} {rest:List Oper} {o:Oper} {a:Act} {Q:Exit→Act→World→Prop} (hgd:o.guard=none) (s x:Operand) (t:TypeId)
  (ho:o.op=.call { callee:=.builtin .append,args:=#[s,x],argTypes:=#[t,t] })
  (base:Nat) (e:TypeId) (i:TypeInfo) (z:Value) (bytes:Nat) (ht:P.underlying t=some (.slice e)) (hi:P.info? e=some i) (hz:i.zero=some z)
  (hsize:i.size=1) (hby:i.bytes=bytes) (hzs:z.cells.size=1)
  (v:Value) (n:Nat) (xs:List Value) (hs:a.eval s=v) (hown:w.ownsRow base e 1 v n xs)
  (ad:Addr) (m c:Nat) (news:List Value) (hx:a.eval x=.slice (some ad) m c) (hl:news.length=m) (hm:0<m) (hnews:∀ j u,news[j]?=some u→w.cell? (ad.add j)=some u) (h1:∀ u∈news,u.oneCell'=true)
  (h63:n+m≤maxLen) (hbytes:(n+m)*bytes≤140737488355328) (hbase:base≤w.heap.size)
  (h:∀ g2 cap2 w',w'.ownsRow base e 1 (.slice (some ⟨g2,0,none⟩) (n+m) cap2) (n+m) (xs++news)→w.grownBy w' v.ownBlock→(v.ownBlock=some g2∨(w.heap.size≤g2∧w.grownBy w' none))→wpList P ops Q rest (a.put o.dst (.slice (some ⟨g2,0,none⟩) (n+m) cap2)) w'):wpList P ops Q (o::rest) a w:=by
 refine qQ hgd fun K hK=>?_
 obtain⟨g2,cap2,w',hr,h2,h3,h4⟩:=A7 (P:=P) w base t o.type e i z bytes ht hi hz hsize hby hzs v n xs hown ad m c news hl hm hnews h1 h63 hbytes hbase;unfold Oper.wp;simp[execOp,ho,resolve,invoke,builtin,hs,hx,hr,Result.andThen];exact hK _ _ (h g2 cap2 w' h2 h3 h4)
end
end jr
end Go.Proofs.YthpdlidbaojlbaaGreatDoor
